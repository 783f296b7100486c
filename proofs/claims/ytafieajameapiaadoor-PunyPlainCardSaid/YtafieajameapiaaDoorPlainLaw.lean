/- The law PunyPlain walked: plain letters are asked for in small ones. -/
import Derived.Test.YtafieajameapiaaDoorAskedMath
import Derived.Outline
set_option linter.unusedVariables false
set_option linter.unusedSimpArgs false
namespace Go.Proofs.YtafieajameapiaaDoor
open Go.RowKit
attribute [local go_sem] ba_append
open Go.Sort

set_option maxRecDepth 100000 in
set_option maxHeartbeats 2000000 in
theorem plain_law (s : List UInt8) (w : World) (hm : s.length ≤ 140737488351232) (hT : Lib.Utf8Tabs (validRen.g 3) (validRen.g 4) w) :
    Calls Tryd.prog 9 #[.string ⟨s.toArray⟩] w fun e w' => e = .returned (.bool true) ∧ Below w.heap.size w w' := by
  have hbw := Below.refl w.heap.size w
  have ca := lift_tabs w hT (fun W hTW => alive_any W hTW)
  by_cases h0 : 1000 < s.length
  · go_enter Tryd.func9, Tryd.ntmps9
    go_wp2_with (go_at_call 16; refine (ca _ (by assumption)).mono ?_; rintro e w1 ⟨rfl, hb1⟩)
    go_ret
    exact ⟨rfl, by assumption⟩
  · have hf4 : fewL (lowerL s) = (lowerL (s.take 4) == [120, 110, 45, 45]) := by
      unfold fewL lowerL; rw [← List.map_take]
    have hul : (lowerL s).length = s.length := by simp [lowerL]
    have cl := lift_below w (fun W => lower_any s W (by omega))
    have clab := lift_tabs w hT (fun W hTW => label_any s W (by omega) hTW)
    have csf : fewL (lowerL s) = false ∨ plainL s = false → ∀ W, Below w.heap.size w W → Calls Tryd.prog 14 #[.string ⟨s.toArray⟩] W fun e W' => e = .returned (.string ⟨s.toArray⟩) ∧ Below w.heap.size w W' := fun h => by
      have := lift_tabs w hT (fun W hTW => show_any s W (by omega) hTW)
      rw [show_self h] at this
      exact this
    by_cases h4 : 4 ≤ s.length
    · have cl4 := lift_below w (fun W => lower_any (s.take 4) W (by simp; omega))
      cases hfw : fewL (lowerL s) with
      | true =>
        rw [hfw] at hf4
        have hq : (lowerL (s.take 4) == [120, 110, 45, 45]) = true := hf4.symm
        clear hfw hf4 csf
        generalize lowerL (s.take 4) = L at *
        go_enter Tryd.func9, Tryd.ntmps9
        go_wp2_with (first | (go_at_call 16; refine (ca _ (by assumption)).mono ?_; rintro e w1 ⟨rfl, hb1⟩) | (go_at_call 18; refine (cl4 _ (by assumption)).mono ?_; rintro e w1 ⟨rfl, hb1⟩))
        go_ret
        exact ⟨rfl, by assumption⟩
      | false =>
        rw [hfw] at hf4
        have hq : (lowerL (s.take 4) == [120, 110, 45, 45]) = false := hf4.symm
        have hfew := Lib.hid hfw
        clear hfw hf4
        generalize lowerL (s.take 4) = L at *
        go_enter Tryd.func9, Tryd.ntmps9
        go_wp2_with (first | (go_at_call 16; refine (ca _ (by assumption)).mono ?_; rintro e w1 ⟨rfl, hb1⟩) | (go_at_call 18; refine (cl4 _ (by assumption)).mono ?_; rintro e w1 ⟨rfl, hb1⟩))
        clear cl4
        go_loop [3] (fun i => ∃ k : Nat, k ≤ s.length ∧ i = .int .i64 k ∧ Hid (∀ c ∈ s.take k, c.toNat < 128)) (fun i => s.length - (intOf i).toNat)
        case atStart => exact ⟨0, Nat.zero_le _, rfl, fun c hc => by simp at hc⟩
        case round =>
          obtain ⟨k, hk, rfl, hp⟩ := hrel
          by_cases hlt : k < s.length
          · by_cases hc : (s[k]'hlt).toNat < 128
            · have hp2 : Hid (∀ c ∈ s.take (k + 1), c.toNat < 128) := plainL_take hlt hp.out hc
              go_wp2_with fail
              go_round
              case rel => exact ⟨k + 1, by omega, by go_num, hp2⟩
              case measure => simp [intOf]; omega
            · have cs := csf (.inr (plainL_false hlt hc))
              go_wp2_with (first | (go_at_call 14; refine (cs _ (by assumption)).mono ?_; rintro e w1 ⟨rfl, hb1⟩))
              go_ret
              exact ⟨rfl, by assumption⟩
          · obtain rfl : k = s.length := by omega
            have hpt := plainL_true (by have := hp.out; rwa [List.take_length] at this)
            have cs := csf (.inl hfew.out)
            have hlab := lab_unfew hfew.out hpt
            clear hp hk
            by_cases hs0 : s = []
            · rw [if_pos hs0] at hlab
              rw [hlab] at clab
              simp only [encV] at clab
              have hl0 : s.length = 0 := by rw [hs0]; rfl
              have hlt0 : s.length < 1 := by omega
              clear hlab hpt hs0 csf
              go_wp2_with (first | (go_at_call 12; refine (clab _ (by assumption)).mono ?_; rintro e w1 ⟨rfl, hb1⟩) | (go_at_call 14; refine (cs _ (by assumption)).mono ?_; rintro e w1 ⟨rfl, hb1⟩))
              all_goals
                go_ret
                exact ⟨rfl, by assumption⟩
            · rw [if_neg hs0] at hlab
              have hl1 : 1 ≤ s.length := List.length_pos_iff.2 hs0
              by_cases h63 : s.length ≤ 63
              · rw [finL_ok (by rw [hul]; exact h63)] at hlab
                rw [hlab] at clab
                simp only [encV] at clab
                clear hlab hpt hs0 csf
                go_wp2_with (first | (go_at_call 12; refine (clab _ (by assumption)).mono ?_; rintro e w1 ⟨rfl, hb1⟩) | (go_at_call 18; refine (cl _ (by assumption)).mono ?_; rintro e w1 ⟨rfl, hb1⟩) | (go_at_call 14; refine (cs _ (by assumption)).mono ?_; rintro e w1 ⟨rfl, hb1⟩))
                all_goals
                  go_ret
                  exact ⟨rfl, by assumption⟩
              · rw [finL_big (by rw [hul]; omega)] at hlab
                rw [hlab] at clab
                simp only [encV] at clab
                clear hlab hpt hs0 csf
                go_wp2_with (first | (go_at_call 12; refine (clab _ (by assumption)).mono ?_; rintro e w1 ⟨rfl, hb1⟩) | (go_at_call 14; refine (cs _ (by assumption)).mono ?_; rintro e w1 ⟨rfl, hb1⟩))
                all_goals
                  go_ret
                  exact ⟨rfl, by assumption⟩

    · have h4' : s.length < 4 := by omega
      have hfw : fewL (lowerL s) = false := by
        unfold fewL
        rw [beq_eq_false_iff_ne]
        intro e
        have := congrArg List.length e
        rw [List.length_take, hul] at this
        simp at this; omega
      have hfew := Lib.hid hfw
      clear hfw hf4 h4
      go_enter Tryd.func9, Tryd.ntmps9
      go_wp2_with (first | (go_at_call 16; refine (ca _ (by assumption)).mono ?_; rintro e w1 ⟨rfl, hb1⟩))
      go_loop [3] (fun i => ∃ k : Nat, k ≤ s.length ∧ i = .int .i64 k ∧ Hid (∀ c ∈ s.take k, c.toNat < 128)) (fun i => s.length - (intOf i).toNat)
      case atStart => exact ⟨0, Nat.zero_le _, rfl, fun c hc => by simp at hc⟩
      case round =>
        obtain ⟨k, hk, rfl, hp⟩ := hrel
        by_cases hlt : k < s.length
        · by_cases hc : (s[k]'hlt).toNat < 128
          · have hp2 : Hid (∀ c ∈ s.take (k + 1), c.toNat < 128) := plainL_take hlt hp.out hc
            go_wp2_with fail
            go_round
            case rel => exact ⟨k + 1, by omega, by go_num, hp2⟩
            case measure => simp [intOf]; omega
          · have cs := csf (.inr (plainL_false hlt hc))
            go_wp2_with (first | (go_at_call 14; refine (cs _ (by assumption)).mono ?_; rintro e w1 ⟨rfl, hb1⟩))
            go_ret
            exact ⟨rfl, by assumption⟩
        · obtain rfl : k = s.length := by omega
          have hpt := plainL_true (by have := hp.out; rwa [List.take_length] at this)
          have cs := csf (.inl hfew.out)
          have hlab := lab_unfew hfew.out hpt
          clear hp hk
          by_cases hs0 : s = []
          · rw [if_pos hs0] at hlab
            rw [hlab] at clab
            simp only [encV] at clab
            have hl0 : s.length = 0 := by rw [hs0]; rfl
            have hlt0 : s.length < 1 := by omega
            clear hlab hpt hs0 csf
            go_wp2_with (first | (go_at_call 12; refine (clab _ (by assumption)).mono ?_; rintro e w1 ⟨rfl, hb1⟩) | (go_at_call 14; refine (cs _ (by assumption)).mono ?_; rintro e w1 ⟨rfl, hb1⟩))
            all_goals
              go_ret
              exact ⟨rfl, by assumption⟩
          · rw [if_neg hs0] at hlab
            have hl1 : 1 ≤ s.length := List.length_pos_iff.2 hs0
            by_cases h63 : s.length ≤ 63
            · rw [finL_ok (by rw [hul]; exact h63)] at hlab
              rw [hlab] at clab
              simp only [encV] at clab
              clear hlab hpt hs0 csf
              go_wp2_with (first | (go_at_call 12; refine (clab _ (by assumption)).mono ?_; rintro e w1 ⟨rfl, hb1⟩) | (go_at_call 18; refine (cl _ (by assumption)).mono ?_; rintro e w1 ⟨rfl, hb1⟩) | (go_at_call 14; refine (cs _ (by assumption)).mono ?_; rintro e w1 ⟨rfl, hb1⟩))
              all_goals
                go_ret
                exact ⟨rfl, by assumption⟩
            · rw [finL_big (by rw [hul]; omega)] at hlab
              rw [hlab] at clab
              simp only [encV] at clab
              clear hlab hpt hs0 csf
              go_wp2_with (first | (go_at_call 12; refine (clab _ (by assumption)).mono ?_; rintro e w1 ⟨rfl, hb1⟩) | (go_at_call 14; refine (cs _ (by assumption)).mono ?_; rintro e w1 ⟨rfl, hb1⟩))
              all_goals
                go_ret
                exact ⟨rfl, by assumption⟩

end Go.Proofs.YtafieajameapiaaDoor
