/- The law PunyAgain walked: what few letters say is encoded as they were. -/
import Derived.Test.YtafieajameapiaaDoorCaseLaw
set_option linter.unusedVariables false
set_option linter.unusedSimpArgs false
namespace Go.Proofs.YtafieajameapiaaDoor
open Go.RowKit
attribute [local go_sem] ba_append
open Go.Sort

theorem decode_err {s : List UInt8} (hs : s.length ≤ 65536) (h : (decode s).2 ≠ 0) : decode s = ([], 4) := by
  unfold decode at h ⊢
  rw [if_neg (by omega)] at h ⊢
  split
  · rfl
  · rename_i c
    rw [if_neg c] at h
    cases hd : decTop s with
    | none => rfl
    | some l => rw [hd] at h; exact absurd rfl h

set_option maxRecDepth 100000 in
set_option maxHeartbeats 2000000 in
theorem again_walk (s : List UInt8) (w : World) (hm : s.length ≤ 140737488351232) (hT : Lib.Utf8Tabs (validRen.g 3) (validRen.g 4) w) :
    Calls Tryd.prog 6 #[.string ⟨s.toArray⟩] w fun e w' => e = .returned (.bool true) ∧ Below w.heap.size w w' := by
  have hbw := Below.refl w.heap.size w
  have ca := lift_tabs w hT (fun W hTW => alive_any W hTW)
  by_cases h0 : 1000 < s.length
  · go_enter Tryd.func6, Tryd.ntmps6
    go_wp2_with (go_at_call 16; refine (ca _ (by assumption)).mono ?_; rintro e w1 ⟨rfl, hb1⟩)
    go_ret
    exact ⟨rfl, by assumption⟩
  · go_enter Tryd.func6, Tryd.ntmps6
    go_wp2_with (go_at_call 16; refine (ca _ (by assumption)).mono ?_; rintro e w1 ⟨rfl, hb1⟩)
    have cd := lift_below w (fun W => decode_any s W (by omega))
    by_cases he : (decode s).2 = 0
    · obtain ⟨t, ht⟩ : ∃ t, decode s = (t, 0) := ⟨(decode s).1, Prod.ext rfl he⟩
      have hal := (again_law (by omega) ht).1
      have htl := decode_len s
      rw [ht] at cd htl
      simp only [resV] at cd htl
      have ce := lift_tabs w hT (fun W hTW => encode_any t W (.inl (by omega)) (by omega) hTW)
      have hcl := cutN_le s
      have cl := fun W => lower_any (s.drop (cutN s)) W (by simp; omega)
      have hnl : (s.take (cutN s)).length + (lowerL (s.drop (cutN s))).length ≤ 1000 := by simp [lowerL]; omega
      rw [hal] at ce
      simp only [encV] at ce
      have hcz := Lib.hid (cutZ_cutN s)
      clear hal ht he ca
      go_wp2_with (first | (go_at_call 17; refine (cd _ (by assumption)).mono ?_; rintro e w2 ⟨rfl, hb2⟩) | (go_at_call 10; refine (ce _ (by assumption)).mono ?_; rintro e w3 ⟨rfl, hb3⟩))
      go_loop [7, 8] (fun c i => ∃ k : Nat, k ≤ s.length ∧ i = .int .i64 k ∧ c = .int .i64 (cutZ s k)) (fun _ i => s.length - (intOf i).toNat)
      case atStart => exact ⟨0, Nat.zero_le _, rfl, rfl⟩
      case round =>
        obtain ⟨k, hk, rfl, rfl⟩ := hrel
        have hz := cutZ_bd s k
        by_cases hlt : k < s.length
        · have Hh := Lib.hid (cutZ_hit s k hlt)
          have Hm := Lib.hid (cutZ_miss s k hlt)
          go_wp2_with fail
          all_goals
            go_round
            case rel => exact ⟨k + 1, by omega, by go_num, by first | rw [Hh.out (by assumption)] | rw [Hm.out (by assumption)]⟩
            case measure => simp [intOf]; omega
        · obtain rfl : k = s.length := by omega
          rw [hcz.out]
          generalize hcc : cutN s = c at *
          clear hcz hz hk
          have htk : List.take (s.length - c) (List.drop c s) = List.drop c s := List.take_of_length_le (by simp)
          have hci : (c : Int) ≤ (s.length : Int) := by omega
          have hci0 : (0 : Int) ≤ (c : Int) := by omega
          have hn : (lowerL (s.drop c)).length ≤ 1000 := by simp [lowerL]; omega
          have hn2 : (s.take c).length ≤ 1000 := by simp; omega
          have hsum : ¬ 9223372036854775807 < (s.take c).length + (lowerL (s.drop c)).length := by omega
          clear hcc hnl cd ce
          generalize lowerL (s.drop c) = B at *
          generalize hD : s.drop c = D at *
          generalize hA : s.take c = A at *
          have kl : ∀ d os, _ := quiet_call (w1 := w3) (fun W _ => cl W)
          go_wp2_with fail
          refine wp_region_quiet_below (by kernel_rfl) (by kernel_rfl) ?_
          repeat (quiet_step (first | exact kl _ _))
          refine wpQuiet_nil ?_
          intro _ hw'
          obtain ⟨⟨dq, osq⟩, hw''⟩ := hw'
          subst hw''
          have hb5 := hb3.trans ((below_regrown w3 dq osq).mono hb3.size)
          generalize grow (redrawn w3 dq) osq = w4 at *
          go_wp2_with fail
          go_ret
          exact ⟨rfl, by assumption⟩
    · rw [decode_err (by omega) he] at cd
      simp only [resV] at cd
      go_wp2_with (first | (go_at_call 17; refine (cd _ (by assumption)).mono ?_; rintro e w2 ⟨rfl, hb2⟩))
      go_ret
      exact ⟨rfl, by assumption⟩
end Go.Proofs.YtafieajameapiaaDoor
