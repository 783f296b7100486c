/- The law PunyLabels walked: both answers are one. -/
import Derived.Test.YtafieajameapiaaDoorShow
import Derived.Test.YtafieajameapiaaDoorPost
set_option linter.unusedVariables false
set_option linter.unusedSimpArgs false
namespace Go.Proofs.YtafieajameapiaaDoor
open Go.RowKit

theorem labels_law (s : List UInt8) (w : World) (hm : s.length ≤ 140737488351232) (hT : Lib.Utf8Tabs (validRen.g 3) (validRen.g 4) w) :
    Calls Tryd.prog 4 #[.string ⟨s.toArray⟩] w fun e w' => e = .returned (.bool true) ∧ Below w.heap.size w w' := by
  by_cases h0 : 1000 < s.length
  · go_enter Tryd.func4, Tryd.ntmps4
    go_wp2_with fail
    go_ret
    exact ⟨rfl, Below.refl _ _⟩
  · have hbw := Below.refl w.heap.size w
    have c1 := lift_tabs w hT (fun W hTW => label_any s W (by omega) hTW)
    have c2 := lift_below w (fun W => rlabel_any s W (by omega))
    have c3 := lift_tabs w hT (fun W hTW => show_any s W (by omega) hTW)
    have c4 := lift_below w (fun W => rshow_any s W (by omega))
    obtain ⟨r, hr⟩ : ∃ r, labelL s = r := ⟨_, rfl⟩
    rw [hr] at c1 c2
    clear hr
    obtain ⟨l, e⟩ := r
    simp only [encV] at c1 c2
    generalize showL s = sh at *
    go_enter Tryd.func4, Tryd.ntmps4
    go_wp2_with (first | (go_at_call 12; refine (c1 _ (by assumption)).mono ?_; rintro e w1 ⟨rfl, hb1⟩) | (go_at_call 13; refine (c2 _ (by assumption)).mono ?_; rintro e w1 ⟨rfl, hb1⟩) | (go_at_call 14; refine (c3 _ (by assumption)).mono ?_; rintro e w1 ⟨rfl, hb1⟩) | (go_at_call 15; refine (c4 _ (by assumption)).mono ?_; rintro e w1 ⟨rfl, hb1⟩))
    go_ret
    exact ⟨rfl, by assumption⟩
end Go.Proofs.YtafieajameapiaaDoor
