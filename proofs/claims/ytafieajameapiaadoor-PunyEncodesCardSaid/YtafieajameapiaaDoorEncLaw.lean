/- The law PunyEncodes walked: both answers are one. -/
import Derived.Test.YtafieajameapiaaDoorREncBad
import Derived.Test.YtafieajameapiaaDoorPost
set_option linter.unusedVariables false
set_option linter.unusedSimpArgs false
namespace Go.Proofs.YtafieajameapiaaDoor
open Go.RowKit

set_option maxRecDepth 100000 in
theorem encodes_law (s : List UInt8) (w : World) (hm : s.length ≤ 140737488351232) (hT : Lib.Utf8Tabs (validRen.g 3) (validRen.g 4) w) :
    Calls Tryd.prog 3 #[.string ⟨s.toArray⟩] w fun e w' => e = .returned (.bool true) ∧ Below w.heap.size w w' := by
  by_cases h0 : 1000 < s.length ∧ s.length ≤ 65536
  · obtain ⟨h1, h2⟩ := h0
    go_enter Tryd.func3, Tryd.ntmps3
    go_wp2_with fail
    go_ret
    exact ⟨rfl, Below.refl _ _⟩
  · have c1 := encode_any s w (by omega) hm hT
    have c2 := fun w => rencode_any s w (by omega) hm
    obtain ⟨r, hr⟩ : ∃ r, encodeL s = r := ⟨_, rfl⟩
    rw [hr] at c1 c2
    clear hr
    simp only [encV] at c1 c2
    rcases (show s.length ≤ 1000 ∨ 65537 ≤ s.length by omega) with h | h
    all_goals
      clear h0
      go_enter Tryd.func3, Tryd.ntmps3
      go_wp2_with (first | (go_at_call 10; refine c1.mono ?_; rintro e w1 ⟨rfl, hb1⟩) | (go_at_call 11; refine (c2 _).mono ?_; rintro e w2 ⟨rfl, hb2⟩))
      go_ret
      exact ⟨rfl, hb1.trans (hb2.mono hb1.size)⟩
end Go.Proofs.YtafieajameapiaaDoor
