/- The law SuffixOf walked. -/
import Derived.Test.YtaijdjmkmhpmpaaGreatDoorGSu4
import Derived.Test.YtaijdjmkmhpmpaaGreatDoorGSu5
set_option linter.unusedVariables false
set_option linter.unusedSimpArgs false
namespace Go.Proofs.YtaijdjmkmhpmpaaGreatDoor
open Go.RowKit
set_option maxRecDepth 100000 in
set_option maxHeartbeats 2000000 in
theorem sufof_law (L : List (List UInt8)) (v : Value) (h : List UInt8) (w : World) (ht : Txt w v L) (hl : L.length ≤ 140737488351232) (hs : ∀ p ∈ L, p.length ≤ 140737488351232) (hh : h.length ≤ 140737488351232) (hE : EnvH w) :
    Calls Tryz.prog 3 #[v, .string ⟨h.toArray⟩] w fun e w' => e = .returned (.bool true) ∧ Below w.heap.size w w' := by
  have cg := great_any L v h w ht hl hs hh
  cases hg : greatB L h with
  | true =>
    rw [hg] at cg
    clear ht
    go_enter Tryz.func3, Tryz.ntmps3
    go_wp2_with fail
    go_at_call 10
    refine cg.mono ?_
    rintro e w1 ⟨rfl, rfl⟩
    go_wp2_with fail
    go_ret
    exact ⟨rfl, Below.refl _ _⟩
  | false =>
    rw [hg] at cg
    obtain ⟨h1, _, h3, h4⟩ := great_no hg
    have ct := twin_any L v w ht (by omega)
    clear hg
    go_enter Tryz.func3, Tryz.ntmps3
    go_wp2_with fail
    go_at_call 10
    refine cg.mono ?_
    rintro e w1 ⟨rfl, rfl⟩
    go_wp2_with fail
    go_at_call 11
    refine ct.mono ?_
    rintro e w2 ⟨t, rfl, htw, hb2⟩
    have cc := suffix_any L h t w2 (hE.below hb2) htw.txt (by omega) (fun p hp => by have := h3 p hp; omega) (by omega)
    have cr := fun W (hW : Below _ _ W) => rsuffix_any L h v W (ht.below hW (Nat.le_refl _)) (by omega) (fun p hp => by have := h3 p hp; omega) (by omega)
    have cl := fun W (hW : Below _ _ W) (hW2 : Below w2.heap.size w2 W) => left_any L t v W _ (htw.below hW2) (ht.below hW (Nat.le_refl _)) (by omega)
    generalize suffixL L h = C at *
    obtain ⟨C1, C2⟩ := C
    unfold sufV at cc cr
    simp only at cc cr
    clear ht htw ct cg
    go_wp2_with fail
    go_at_call 12
    refine cc.mono ?_
    rintro e w3 ⟨rfl, hb3⟩
    have hb3' := hb2.trans (hb3.mono hb2.size)
    go_wp2_with fail
    go_at_call 13
    refine (cr _ hb3').mono ?_
    rintro e w4 ⟨rfl, hb4⟩
    have hb4' := hb3'.trans (hb4.mono hb3'.size)
    have hb42 := hb3.trans (hb4.mono hb3.size)
    go_wp2_with fail
    go_at_call 14
    refine (cl _ hb4' hb42).mono ?_
    rintro e w5 ⟨rfl, hb5⟩
    go_wp2_with fail
    go_ret
    exact ⟨rfl, hb4'.trans (hb5.mono hb4'.size)⟩
end Go.Proofs.YtaijdjmkmhpmpaaGreatDoor
