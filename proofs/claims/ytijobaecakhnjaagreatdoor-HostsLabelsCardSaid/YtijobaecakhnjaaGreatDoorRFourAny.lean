/- The walk of the reference's Four (written by mkrfour.py). -/
import Derived.Test.YtijobaecakhnjaaGreatDoorRFourWalk2
import Derived.Test.YtijobaecakhnjaaGreatDoorRFourWalk3
import Derived.Test.YtijobaecakhnjaaGreatDoorRFourWalk4
set_option linter.unusedVariables false
set_option linter.unusedSimpArgs false
namespace Go.Proofs.YtijobaecakhnjaaGreatDoor
open Go.RowKit


theorem rfour_any (s : List UInt8) (w : World) (hs : s.length ≤ 3999999999) :
    Calls Tryz.prog 31 #[.string ⟨s.toArray⟩] w fun e w' => e = .returned (fourV (fourL s)) ∧ Below w.heap.size w w' := by
  have cs := rfw s w (by omega)
  obtain ⟨hP1, hP2⟩ := partsL_le 46 s
  have hne := partsL_ne 46 s
  have hx : ∀ p ∈ partsL 46 s, p.length ≤ 4000000000 := fun p hp => by have := hP1 p hp; omega
  have hk := @parts_keep s _ rfl
  have hc := @parts_cut s _ rfl
  obtain ⟨P, hP⟩ : ∃ P, partsL 46 s = P := ⟨_, rfl⟩
  rw [hP] at cs hP2 hne hx hk hc
  clear hP1
  match P, cs, hne, hx, hk, hc, hP2 with
  | [], _, h, _, _, _, _ => exact absurd rfl h
  | [x0], cs, _, hx, hk, hc, _ =>
    exact rfour_A0 s w x0 hx cs _ (fourL_small (hk (by simp)) rfl (by simp))
  | [x0, x1], cs, _, hx, hk, hc, _ =>
    by_cases h : x1 = []
    · subst h
      exact rfour_C0 s w x0 hx cs _ (fourL_small (Q := [x0]) (hc ⟨by simp, rfl⟩) rfl (by simp))
    · exact rfour_B1 s w x0 x1 hx h cs _ (fourL_small (hk (by rintro ⟨_, h'⟩; exact h h')) rfl (by simp))
  | [x0, x1, x2], cs, _, hx, hk, hc, _ =>
    by_cases h : x2 = []
    · subst h
      exact rfour_C1 s w x0 x1 hx cs _ (fourL_small (Q := [x0, x1]) (hc ⟨by simp, rfl⟩) rfl (by simp))
    · exact rfour_B2 s w x0 x1 x2 hx h cs _ (fourL_small (hk (by rintro ⟨_, h'⟩; exact h h')) rfl (by simp))
  | [x0, x1, x2, x3], cs, _, hx, hk, hc, _ =>
    by_cases h : x3 = []
    · subst h
      exact rfour_C2 s w x0 x1 x2 hx cs _ (fourL_small (Q := [x0, x1, x2]) (hc ⟨by simp, rfl⟩) rfl (by simp))
    · exact rfour_B3 s w x0 x1 x2 x3 hx h cs _ (fourL_small (hk (by rintro ⟨_, h'⟩; exact h h')) rfl (by simp))
  | x0 :: x1 :: x2 :: x3 :: x4 :: R, cs, _, hx, hk, hc, hP2 =>
    have hlen : (x0 :: x1 :: x2 :: x3 :: x4 :: R).length = R.length + 5 := by simp
    generalize hPP : x0 :: x1 :: x2 :: x3 :: x4 :: R = P at *
    have hl : P.length = (R.length + 4) + 1 := by omega
    have hlast := getLast_is hl
    by_cases h : P[R.length + 4]'(by omega) = []
    · have hcc : 1 < P.length ∧ P.getLastD [] = [] := ⟨by omega, by rw [hlast]; exact h⟩
      have hq := hc hcc
      have hdl : P.dropLast.length = R.length + 4 := by simp [hlen]
      cases hR : R with
      | nil =>
        subst hR
        subst hPP
        have h4 : x4 = [] := h
        subst h4
        rw [hlen] at cs
        exact rfour_C3 s w x0 x1 x2 x3 hx cs _ (fourL_small (Q := [x0, x1, x2, x3]) hq rfl (by simp))
      | cons y R' =>
        have hR' : R.length = R'.length + 1 := by rw [hR]; simp
        have hget : P.dropLast[R.length + 3]'(by omega) = P[R.length + 3]'(by omega) := by simp
        refine rfour_Cbig s w (R.length + 3) (by omega) (by omega) (P[R.length + 3]'(by omega)) (hx _ (List.getElem_mem _)) (cs.mono ?_) _ ?_
        · rintro e w' ⟨g, cap, rfl, hcap, hb2, hrow, _, _, hcell⟩
          have c1 := hcell (R.length + 3) (by omega)
          have c2 := hcell (R.length + 4) (by omega)
          rw [h] at c2
          exact ⟨g, cap, by rw [hlen], by omega, hb2, hrow, c1, c2⟩
        · have := fourL_big (l := R.length + 3) hq (by omega) (by omega)
          rw [this, hget]
    · have hcc : ¬ (1 < P.length ∧ P.getLastD [] = []) := by rintro ⟨_, h'⟩; rw [hlast] at h'; exact h h'
      have hq := hk hcc
      refine rfour_Bbig s w (R.length + 4) (by omega) (by omega) _ (hx _ (List.getElem_mem _)) h (cs.mono ?_) _ (fourL_big hq hl (by omega))
      rintro e w' ⟨g, cap, rfl, hcap, hb2, hrow, _, _, hcell⟩
      have c1 := hcell (R.length + 4) (by omega)
      exact ⟨g, cap, by rw [hlen], by omega, hb2, hrow, c1⟩
end Go.Proofs.YtijobaecakhnjaaGreatDoor
