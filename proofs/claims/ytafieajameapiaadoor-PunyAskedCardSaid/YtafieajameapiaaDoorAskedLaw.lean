/- The law PunyAsked walked: what is asked for stays. -/
import Derived.Test.YtafieajameapiaaDoorAskedMath
import Derived.Outline
set_option linter.unusedVariables false
set_option linter.unusedSimpArgs false
namespace Go.Proofs.YtafieajameapiaaDoor
open Go.RowKit
attribute [local go_sem] ba_append
open Go.Sort

set_option maxRecDepth 100000 in
set_option maxHeartbeats 2000000 in
theorem asked_law (s : List UInt8) (w : World) (hm : s.length ≤ 140737488351232) (hT : Lib.Utf8Tabs (validRen.g 3) (validRen.g 4) w) :
    Calls Tryd.prog 8 #[.string ⟨s.toArray⟩] w fun e w' => e = .returned (.bool true) ∧ Below w.heap.size w w' := by
  have hbw := Below.refl w.heap.size w
  have ca := lift_tabs w hT (fun W hTW => alive_any W hTW)
  by_cases h0 : 1000 < s.length
  · go_enter Tryd.func8, Tryd.ntmps8
    go_wp2_with (go_at_call 16; refine (ca _ (by assumption)).mono ?_; rintro e w1 ⟨rfl, hb1⟩)
    go_ret
    exact ⟨rfl, by assumption⟩
  · by_cases he : (labelL s).2 = 0
    · obtain ⟨l, hl⟩ : ∃ l, labelL s = (l, 0) := ⟨(labelL s).1, Prod.ext rfl he⟩
      obtain ⟨h1, h63, hp, hsm, hag, hsh, hlen⟩ := stays (by omega) hl
      have cl := lift_tabs w hT (fun W hTW => label_any s W (by omega) hTW)
      have cl2 := lift_tabs w hT (fun W hTW => label_any l W (by omega) hTW)
      have cs := lift_tabs w hT (fun W hTW => show_any l W (by omega) hTW)
      have cl3 := lift_tabs w hT (fun W hTW => label_any (showL l) W hlen hTW)
      rw [hl] at cl
      rw [hag] at cl2
      rw [hsh] at cl3
      simp only [encV] at cl cl2 cl3
      have H : Hid (∀ k (hk : k < l.length), l[k].toNat < 128 ∧ (l[k].toNat < 65 ∨ 90 < l[k].toNat)) := fun k hk => ⟨hp _ (List.getElem_mem hk), hsm _ (List.getElem_mem hk)⟩
      clear he hl hp hsm hag hsh
      generalize showL l = sh at *
      go_enter Tryd.func8, Tryd.ntmps8
      go_wp2_with (first | (go_at_call 16; refine (ca _ (by assumption)).mono ?_; rintro e w1 ⟨rfl, hb1⟩) | (go_at_call 12; refine (cl _ (by assumption)).mono ?_; rintro e w1 ⟨rfl, hb1⟩))
      go_loop [5] (fun i => ∃ k : Nat, k ≤ l.length ∧ i = .int .i64 k) (fun i => l.length - (intOf i).toNat)
      case atStart => exact ⟨0, Nat.zero_le _, rfl⟩
      case round =>
        obtain ⟨k, hk, rfl⟩ := hrel
        by_cases hlt : k < l.length
        · obtain ⟨g1, g2⟩ := H.out k hlt
          rcases g2 with g2 | g2
          all_goals
            go_wp2_with fail
            go_round
            case rel => exact ⟨k + 1, by omega, by go_num⟩
            case measure => simp [intOf]; omega
        · obtain rfl : k = l.length := by omega
          go_wp2_with (first | (go_at_call 12; refine (cl2 _ (by assumption)).mono ?_; rintro e w1 ⟨rfl, hb1⟩))
          go_at_call 14
          refine (cs _ (by assumption)).mono ?_
          rintro e w2 ⟨rfl, hb2⟩
          go_wp2_with (go_at_call 12; refine (cl3 _ (by assumption)).mono ?_; rintro e w1 ⟨rfl, hb1⟩)
          go_ret
          exact ⟨rfl, by assumption⟩
    · have cl := lift_tabs w hT (fun W hTW => label_any s W (by omega) hTW)
      have cs := lift_tabs w hT (fun W hTW => show_any s W (by omega) hTW)
      rw [labelL_err he] at cl
      have hsh : showL s = s := by unfold showL; rw [if_pos (.inl he)]
      rw [hsh] at cs
      simp only [encV] at cl
      clear he hsh
      go_enter Tryd.func8, Tryd.ntmps8
      go_wp2_with (first | (go_at_call 16; refine (ca _ (by assumption)).mono ?_; rintro e w1 ⟨rfl, hb1⟩) | (go_at_call 12; refine (cl _ (by assumption)).mono ?_; rintro e w1 ⟨rfl, hb1⟩) | (go_at_call 14; refine (cs _ (by assumption)).mono ?_; rintro e w1 ⟨rfl, hb1⟩))
      go_ret
      exact ⟨rfl, by assumption⟩
end Go.Proofs.YtafieajameapiaaDoor
