/- The law PunyBack walked: a text in few letters is got back as it was. -/
import Derived.Test.YtafieajameapiaaDoorAskedMath
import Derived.Outline
set_option linter.unusedVariables false
set_option linter.unusedSimpArgs false
namespace Go.Proofs.YtafieajameapiaaDoor
open Go.RowKit
attribute [local go_sem] ba_append
open Go.Sort

/-- The plain bytes. -/
def plainP (s : List UInt8) : List UInt8 := s.filter fun c => decide (c.toNat < 128)
theorem plainP_hit {s : List UInt8} {k : Nat} (h : k < s.length) (hc : (s[k].toNat : Int) < 128) : plainP (s.take (k + 1)) = plainP (s.take k) ++ List.take 1 (List.drop k s) := by
  unfold plainP
  rw [List.take_succ_eq_append_getElem h, List.filter_append]
  have : s[k].toNat < 128 := by omega
  have e : List.take 1 (List.drop k s) = [s[k]] := by rw [List.drop_eq_getElem_cons h]; rfl
  rw [e]
  simp [this]
theorem plainP_miss {s : List UInt8} {k : Nat} (h : k < s.length) (hc : ¬ (s[k].toNat : Int) < 128) : plainP (s.take (k + 1)) = plainP (s.take k) := by
  unfold plainP
  rw [List.take_succ_eq_append_getElem h, List.filter_append]
  have : ¬ s[k].toNat < 128 := by omega
  simp [this]
theorem plainP_len (s : List UInt8) (k : Nat) : (plainP (s.take k)).length ≤ k := by
  have := List.length_filter_le (fun c : UInt8 => decide (c.toNat < 128)) (s.take k)
  unfold plainP
  have h2 : (s.take k).length ≤ k := List.length_take_le _ _
  omega
theorem back_all {s : List UInt8} (hs : s.length ≤ 1000) (hv : Lib.validD s = true) : ∃ x, encodeL s = (x, 0) ∧ decode x = (s, 0) ∧ (∀ c ∈ x, c.toNat < 128) ∧ x.length ≤ 65536 ∧ ∃ D, x = plainP s ++ (if plainP s = [] then [] else [45]) ++ D := by
  obtain ⟨h1, D, hD, h2⟩ := enc_out (by omega) hv
  have hb := back_law (by omega) hv
  have hp := encodeL_plain s
  have hl := runes_len _ s (Nat.le_refl _)
  have h65 := encR_small (R := runes s) (by omega) (runes_le _ s (Nat.le_refl _))
  have he := encodeL_valid (by omega) hv
  rw [h2] at hb hp
  refine ⟨_, h2, hb, hp, ?_, D, ?_⟩
  · rw [h2] at he
    rw [(Prod.mk.inj he).1]; exact h65
  · unfold startOut
    rw [h1]
    show _ = plainP s ++ _ ++ D
    congr 2
    by_cases e : plainP s = []
    · rw [if_pos e, if_neg (by show ¬ 0 < (plainP s).length; rw [e]; simp)]
    · rw [if_neg e, if_pos (by show 0 < (plainP s).length; exact List.length_pos_iff.2 e)]

set_option maxRecDepth 100000 in
set_option maxHeartbeats 2000000 in
theorem back_walk (s : List UInt8) (w : World) (hm : s.length ≤ 140737488351232) (hT : Lib.Utf8Tabs (validRen.g 3) (validRen.g 4) w) :
    Calls Tryd.prog 5 #[.string ⟨s.toArray⟩] w fun e w' => e = .returned (.bool true) ∧ Below w.heap.size w w' := by
  have hbw := Below.refl w.heap.size w
  have ca := lift_tabs w hT (fun W hTW => alive_any W hTW)
  by_cases h0 : 1000 < s.length
  · go_enter Tryd.func5, Tryd.ntmps5
    go_wp2_with (go_at_call 16; refine (ca _ (by assumption)).mono ?_; rintro e w1 ⟨rfl, hb1⟩)
    go_ret
    exact ⟨rfl, by assumption⟩
  · by_cases hv : Lib.validD s = true
    · obtain ⟨x, hx, hd, hp, hxl, D, hxD⟩ := back_all (by omega) hv
      have ce := lift_tabs w hT (fun W hTW => encode_any s W (.inl (by omega)) (by omega) hTW)
      have cd := lift_below w (fun W => decode_any x W (by omega))
      rw [hx] at ce
      rw [hd] at cd
      simp only [encV, resV] at ce cd
      have Hxp : Hid (∀ k (hk : k < x.length), x[k].toNat < 128) := fun k hk => hp _ (List.getElem_mem hk)
      have HxD := Lib.hid hxD
      clear hx hd hp hv hxD
      go_enter Tryd.func5, Tryd.ntmps5
      go_wp2_with (first | (go_at_call 16; refine (ca _ (by assumption)).mono ?_; rintro e w1 ⟨rfl, hb1⟩) | (go_at_call 10; refine (ce _ (by assumption)).mono ?_; rintro e w1 ⟨rfl, hb1⟩))
      go_loop [5, 6] (fun pv i => ∃ k : Nat, k ≤ s.length ∧ i = .int .i64 k ∧ pv = .string ⟨(plainP (s.take k)).toArray⟩) (fun _ i => s.length - (intOf i).toNat)
      case atStart => exact ⟨0, Nat.zero_le _, rfl, rfl⟩
      case round =>
        obtain ⟨k, hk, rfl, rfl⟩ := hrel
        have hpn := plainP_len s k
        by_cases hlt : k < s.length
        · have Hh := Lib.hid (@plainP_hit s k hlt)
          have Hm := Lib.hid (@plainP_miss s k hlt)
          generalize plainP (s.take k) = P at *
          go_wp2_with fail
          all_goals
            go_round
            case rel => exact ⟨k + 1, by omega, by go_num, by first | rw [Hh.out (by omega)] | rw [Hm.out (by omega)]⟩
            case measure => simp [intOf]; omega
        · obtain rfl : k = s.length := by omega
          rw [List.take_length] at hpn ⊢
          go_wp2_with fail
          go_loop [7] (fun i => ∃ k : Nat, k ≤ x.length ∧ i = .int .i64 k) (fun i => x.length - (intOf i).toNat)
          case atStart => exact ⟨0, Nat.zero_le _, rfl⟩
          case round =>
            obtain ⟨k, hk, rfl⟩ := hrel
            by_cases hlt : k < x.length
            · have g1 := Hxp.out k hlt
              go_wp2_with fail
              go_round
              case rel => exact ⟨k + 1, by omega, by go_num⟩
              case measure => simp [intOf]; omega
            · obtain rfl : k = x.length := by omega
              by_cases hP : plainP s = []
              · have hPe : (plainP s).isEmpty = true := by rw [hP]; rfl
                rw [hP] at hpn hPe ⊢
                go_wp2_with (go_at_call 17; refine (cd _ (by assumption)).mono ?_; rintro e w1 ⟨rfl, hb1⟩)
                go_ret
                exact ⟨rfl, by assumption⟩
              · have hPe : (plainP s).isEmpty = false := by cases h : plainP s with | nil => exact absurd h hP | cons a l => rfl
                have hPe2 : (plainP s == []) = false := by rw [beq_eq_false_iff_ne]; exact hP
                have hxD := HxD.out
                rw [if_neg hP] at hxD
                have hle : (plainP s).length + 1 ≤ x.length := by rw [hxD]; simp
                have htk : List.take ((plainP s).length + 1) x = plainP s ++ [45] := by rw [hxD, List.take_left' (by simp)]
                clear hxD HxD hP
                generalize plainP s = P at *
                go_wp2_with (go_at_call 17; refine (cd _ (by assumption)).mono ?_; rintro e w1 ⟨rfl, hb1⟩)
                go_ret
                exact ⟨rfl, by assumption⟩
    · have ce := lift_tabs w hT (fun W hTW => encode_any s W (.inl (by omega)) (by omega) hTW)
      have he : encodeL s = ([], 4) := by unfold encodeL; rw [if_neg (by omega), if_neg hv]
      rw [he] at ce
      simp only [encV] at ce
      clear he hv
      go_enter Tryd.func5, Tryd.ntmps5
      go_wp2_with (first | (go_at_call 16; refine (ca _ (by assumption)).mono ?_; rintro e w1 ⟨rfl, hb1⟩) | (go_at_call 10; refine (ce _ (by assumption)).mono ?_; rintro e w1 ⟨rfl, hb1⟩))
      go_ret
      exact ⟨rfl, by assumption⟩
end Go.Proofs.YtafieajameapiaaDoor
