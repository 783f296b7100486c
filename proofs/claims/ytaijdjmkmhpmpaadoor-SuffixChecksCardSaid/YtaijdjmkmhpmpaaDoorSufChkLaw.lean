/- The law SuffixChecks walked. -/
import Derived.Test.YtaijdjmkmhpmpaaDoorSufC
import Derived.Test.YtaijdjmkmhpmpaaDoorLeft
import Derived.Test.YtaijdjmkmhpmpaaDoorRSuf
import Derived.Test.YtaijdjmkmhpmpaaDoorPost
set_option linter.unusedVariables false
set_option linter.unusedSimpArgs false
namespace Go.Proofs.YtaijdjmkmhpmpaaDoor
open Go.RowKit

/-- More than is gone through. -/
def greatB (L : List (List UInt8)) (h : List UInt8) : Bool := decide (2000 < L.length) || (decide (50000 < textsN L) || decide (1000 < h.length))
set_option maxRecDepth 100000 in
theorem great_any (L : List (List UInt8)) (v : Value) (h : List UInt8) (w : World) (ht : Txt w v L) (hl : L.length ≤ 140737488351232) (hs : ∀ p ∈ L, p.length ≤ 140737488351232) (hh : h.length ≤ 140737488351232) :
    Calls Tryd.prog 4 #[v, .string ⟨h.toArray⟩] w fun e w' => e = .returned (.bool (greatB L h)) ∧ w' = w := by
  have hm : greatB L h = (decide (2000 < L.length) || (decide (50000 < textsN L) || decide (1000 < h.length))) := rfl
  have ct := texts_size_any L v w ht hl hs
  have hv : v = .slice none 0 0 ∧ L.length = 0 ∨ ∃ a c, v = .slice (some a) L.length c := by
    rcases ht with ⟨h1, h2⟩ | ⟨a, c, h1, _⟩
    · exact .inl ⟨h1, by rw [h2]; rfl⟩
    · exact .inr ⟨a, c, h1⟩
  clear ht
  generalize textsN L = N at *
  have e1 : (2000 : Int) < (L.length : Int) ↔ 2000 < L.length := by omega
  have e2 : (50000 : Int) < (N : Int) ↔ 50000 < N := by omega
  have e3 : (1000 : Int) < (h.length : Int) ↔ 1000 < h.length := by omega
  by_cases h1 : 2000 < L.length
  · rw [decide_eq_true h1] at hm
    have HM := Lib.hid hm
    have h1i := e1.2 h1
    clear hm e1 e2 e3 ct
    rcases hv with ⟨rfl, h0⟩ | ⟨a, c, rfl⟩
    · omega
    · go_enter Tryd.func4, Tryd.ntmps4
      go_wp2_with fail
      go_ret
      exact ⟨ret_bool (by rw [HM.out]; rfl), rfl⟩
  · rw [decide_eq_false h1] at hm
    have h1i : ¬ (2000 : Int) < (L.length : Int) := by omega
    by_cases h2 : 50000 < N <;> by_cases h3 : 1000 < h.length
    all_goals
      have h2i := e2
      have h3i := e3
      simp only [h2, h3, iff_true, iff_false] at h2i h3i
      simp only [h2, h3, decide_true, decide_false] at hm
      have HM := Lib.hid hm
      clear hm e1 e2 e3
      rcases hv with ⟨rfl, h0⟩ | ⟨a, c, rfl⟩
      all_goals
        go_enter Tryd.func4, Tryd.ntmps4
        go_wp2_with fail
        go_at_call 9
        refine ct.mono ?_
        rintro e w1 ⟨rfl, rfl⟩
        go_wp2_with fail
        go_ret
        exact ⟨ret_bool (by rw [HM.out]; simp [*]), rfl⟩
theorem great_no {L : List (List UInt8)} {h : List UInt8} (hg : greatB L h = false) : L.length ≤ 2000 ∧ sumT L ≤ 50000 ∧ (∀ p ∈ L, p.length ≤ 50000) ∧ h.length ≤ 1000 := by
  unfold greatB at hg
  simp only [Bool.or_eq_false_iff, decide_eq_false_iff_not] at hg
  obtain ⟨h1, h2, h3⟩ := hg
  have hs := textsN_sum (L := L) (by omega)
  exact ⟨by omega, by omega, fun p hp => by have := sumT_mem hp; omega, by omega⟩
set_option maxRecDepth 100000 in
theorem sufchk_law (L : List (List UInt8)) (v : Value) (w : World) (ht : Txt w v L) (hl : L.length ≤ 140737488351232) (hs : ∀ p ∈ L, p.length ≤ 140737488351232) (hE : w.ShapedOpen Tryd.prog) :
    Calls Tryd.prog 3 #[v] w fun e w' => e = .returned (.bool true) ∧ Below w.heap.size w w' := by
  have cg := great_any L v [] w ht hl hs (by simp)
  cases hg : greatB L [] with
  | true =>
    rw [hg] at cg
    clear ht
    go_enter Tryd.func3, Tryd.ntmps3
    go_wp2_with fail
    go_at_call 4
    refine cg.mono ?_
    rintro e w1 ⟨rfl, rfl⟩
    go_wp2_with fail
    go_ret
    exact ⟨rfl, Below.refl _ _⟩
  | false =>
    rw [hg] at cg
    obtain ⟨h1, _, h3, _⟩ := great_no hg
    have ct := twin_any L v w ht (by omega)
    clear hg
    go_enter Tryd.func3, Tryd.ntmps3
    go_wp2_with fail
    go_at_call 4
    refine cg.mono ?_
    rintro e w1 ⟨rfl, rfl⟩
    go_wp2_with fail
    go_at_call 5
    refine ct.mono ?_
    rintro e w2 ⟨t, rfl, htw, hb2⟩
    have cc := check_any L t w2 (shaped_below hE hb2) htw.txt (by omega) (fun p hp => by have := h3 p hp; omega)
    have cr := fun W (hW : Below _ _ W) => rcheck_any L v W (ht.below hW (Nat.le_refl _)) (by omega) (fun p hp => by have := h3 p hp; omega)
    have cl := fun W (hW : Below _ _ W) (hW2 : Below w2.heap.size w2 W) => left_any L t v W _ (htw.below hW2) (ht.below hW (Nat.le_refl _)) (by omega)
    generalize checkL L = C at *
    clear ht htw ct cg
    go_wp2_with fail
    go_at_call 6
    refine cc.mono ?_
    rintro e w3 ⟨rfl, hb3⟩
    have hb3' := hb2.trans (hb3.mono hb2.size)
    go_wp2_with fail
    go_at_call 7
    refine (cr _ hb3').mono ?_
    rintro e w4 ⟨rfl, hb4⟩
    have hb4' := hb3'.trans (hb4.mono hb3'.size)
    have hb42 := hb3.trans (hb4.mono hb3.size)
    go_wp2_with fail
    go_at_call 8
    refine (cl _ hb4' hb42).mono ?_
    rintro e w5 ⟨rfl, hb5⟩
    go_wp2_with fail
    go_ret
    exact ⟨rfl, hb4'.trans (hb5.mono hb4'.size)⟩
end Go.Proofs.YtaijdjmkmhpmpaaDoor
