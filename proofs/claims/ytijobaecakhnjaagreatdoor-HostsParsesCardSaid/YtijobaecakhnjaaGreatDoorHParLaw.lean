/- The law HostsParses walked. -/
import Derived.Test.YtijobaecakhnjaaGreatDoorHParseB
import Derived.Test.YtijobaecakhnjaaGreatDoorRHost
import Derived.Test.YtijobaecakhnjaaGreatDoorPost
set_option linter.unusedVariables false
set_option linter.unusedSimpArgs false
namespace Go.Proofs.YtijobaecakhnjaaGreatDoor
open Go.RowKit

set_option maxRecDepth 100000 in
set_option maxHeartbeats 2000000 in
theorem hparses_law (s : List UInt8) (w : World) (hs : s.length ≤ 140737488351232) (hE : EnvH w) :
    Calls Tryz.prog 4 #[.string ⟨s.toArray⟩] w fun e w' => e = .returned (.bool true) ∧ Below w.heap.size w w' := by
  by_cases h1 : s.length ≤ 1000
  · have ca := hparse_any s w hE h1
    have cb : ∀ W, Calls Tryz.prog 19 #[.string ⟨s.toArray⟩] W fun e w' => e = .returned (optV (hostL s)) ∧ Below W.heap.size W w' := fun W => by
      by_cases h : s.head? = some 91
      · exact rhost_in s W (by omega) h
      · exact rhost_out s W h1 h
    clear hE
    generalize hostL s = r at *
    cases r with
    | none =>
      simp only [optV] at ca cb
      go_enter Tryz.func4, Tryz.ntmps4
      go_wp2_with fail
      go_at_call 18
      refine ca.mono ?_
      rintro e w1 ⟨rfl, hb1⟩
      go_wp2_with fail
      go_at_call 19
      refine (cb _).mono ?_
      rintro e w2 ⟨rfl, hb2⟩
      go_wp2_with fail
      go_ret
      exact ⟨rfl, hb1.trans (hb2.mono hb1.size)⟩
    | some x =>
      simp only [optV] at ca cb
      go_enter Tryz.func4, Tryz.ntmps4
      go_wp2_with fail
      go_at_call 18
      refine ca.mono ?_
      rintro e w1 ⟨rfl, hb1⟩
      go_wp2_with fail
      go_at_call 19
      refine (cb _).mono ?_
      rintro e w2 ⟨rfl, hb2⟩
      go_wp2_with fail
      go_ret
      exact ⟨rfl, hb1.trans (hb2.mono hb1.size)⟩
  · by_cases h2 : s.length ≤ 65536
    · have h1i : (1000 : Int) < (s.length : Int) := by omega
      have h2i : (s.length : Int) ≤ 65536 := by omega
      go_enter Tryz.func4, Tryz.ntmps4
      go_wp2_with fail
      go_ret
      exact ⟨rfl, Below.refl _ _⟩
    · have ca := hparse_long s w (by omega)
      have cb := rhost_long s w (by omega)
      have h1i : (1000 : Int) < (s.length : Int) := by omega
      have h2i : ¬ (s.length : Int) ≤ 65536 := by omega
      go_enter Tryz.func4, Tryz.ntmps4
      go_wp2_with fail
      go_at_call 18
      refine ca.mono ?_
      rintro e w1 ⟨rfl, rfl⟩
      go_wp2_with fail
      go_at_call 19
      refine cb.mono ?_
      rintro e w2 ⟨rfl, rfl⟩
      go_wp2_with fail
      go_ret
      exact ⟨rfl, Below.refl _ _⟩
end Go.Proofs.YtijobaecakhnjaaGreatDoor
