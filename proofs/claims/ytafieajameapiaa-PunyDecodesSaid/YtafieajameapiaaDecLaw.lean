/- The law PunyDecodes walked: both answers are one. -/
import Derived.Test.YtafieajameapiaaDecAny
import Derived.Test.YtafieajameapiaaPost
set_option linter.unusedVariables false
set_option linter.unusedSimpArgs false
namespace Go.Proofs.Ytafieajameapiaa
open Go.RowKit

theorem law_any (s : List UInt8) (w : World) (hm : s.length ≤ 140737488351232) :
    Calls Try.prog 3 #[.string ⟨s.toArray⟩] w fun e w' => e = .returned (.bool true) ∧ Below w.heap.size w w' := by
  by_cases h1 : s.length ≤ 1000
  case neg =>
    by_cases h2 : s.length ≤ 65536
    · go_enter Try.func3, Try.ntmps3
      go_wp2_with fail
      go_ret
      exact ⟨rfl, Below.refl _ _⟩
    · go_enter Try.func3, Try.ntmps3
      go_wp2_with fail
      refine (decode_any s _ hm).mono ?_
      rintro e w1 ⟨rfl, hb1⟩
      simp only [resV]
      go_wp2_with fail
      refine (rdecode_any s _ hm).mono ?_
      rintro e w2 ⟨rfl, hb2⟩
      simp only [resV]
      go_wp2_with fail
      go_ret
      exact ⟨rfl, hb1.trans (hb2.mono hb1.size)⟩
  case pos =>
    go_enter Try.func3, Try.ntmps3
    go_wp2_with fail
    refine (decode_any s _ hm).mono ?_
    rintro e w1 ⟨rfl, hb1⟩
    simp only [resV]
    go_wp2_with fail
    refine (rdecode_any s _ hm).mono ?_
    rintro e w2 ⟨rfl, hb2⟩
    simp only [resV]
    go_wp2_with fail
    go_ret
    exact ⟨rfl, hb1.trans (hb2.mono hb1.size)⟩
end Go.Proofs.Ytafieajameapiaa
