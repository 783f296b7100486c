/- In what order rules stand makes no difference, plain. -/
import Derived.Test.YtaijdjmkmhpmpaaGreatDoorGSu4
set_option linter.unusedVariables false
set_option linter.unusedSimpArgs false
namespace Go.Proofs.YtaijdjmkmhpmpaaGreatDoor

theorem manyF_iff {H : List (List UInt8)} {k : Nat} : ∀ {L : List (List UInt8)} {n : Nat}, (∀ r ∈ L, exceptB r = false) → (manyF n L H ≤ k ↔ n ≤ k ∧ ∀ r ∈ L, fitsL (sufP r) H = true → (sufP r).length ≤ k)
  | [], n, _ => by simp [manyF]
  | r :: L, n, hx => by
    have hr := hx r List.mem_cons_self
    have hL : ∀ s ∈ L, exceptB s = false := fun s hs => hx s (List.mem_cons_of_mem _ hs)
    unfold manyF
    by_cases hf : fitsL (sufP r) H = true
    · rw [if_pos hf, if_neg (by rw [hr]; simp), manyF_iff hL]
      constructor
      · rintro ⟨h1, h2⟩
        refine ⟨by omega, fun s hs hfs => ?_⟩
        rcases List.mem_cons.1 hs with rfl | hs
        · omega
        · exact h2 s hs hfs
      · rintro ⟨h1, h2⟩
        have := h2 r List.mem_cons_self hf
        exact ⟨by omega, fun s hs hfs => h2 s (List.mem_cons_of_mem _ hs) hfs⟩
    · rw [if_neg hf, manyF_iff hL]
      constructor
      · rintro ⟨h1, h2⟩
        refine ⟨h1, fun s hs hfs => ?_⟩
        rcases List.mem_cons.1 hs with rfl | hs
        · exact absurd hfs hf
        · exact h2 s hs hfs
      · rintro ⟨h1, h2⟩
        exact ⟨h1, fun s hs hfs => h2 s (List.mem_cons_of_mem _ hs) hfs⟩
/-- The rules from the last one on, each twice. -/
def turnL (L : List (List UInt8)) : List (List UInt8) := L.reverse.flatMap fun r => [r, r]
theorem turn_mem {L : List (List UInt8)} {r : List UInt8} : r ∈ turnL L ↔ r ∈ L := by simp [turnL]
theorem turn_len (L : List (List UInt8)) : (turnL L).length = 2 * L.length := by
  have : ∀ M : List (List UInt8), (M.flatMap fun r => [r, r]).length = 2 * M.length := fun M => by
    induction M with
    | nil => rfl
    | cons r M ih => rw [List.flatMap_cons, List.length_append, ih]; simp; omega
  rw [turnL, this, List.length_reverse]
theorem turn_many {L H : List (List UInt8)} (hx : ∀ r ∈ L, exceptB r = false) : manyL (turnL L) H = manyL L H := by
  have hx2 : ∀ r ∈ turnL L, exceptB r = false := fun r hr => hx r (turn_mem.1 hr)
  unfold manyL
  apply Nat.le_antisymm
  · exact (manyF_iff hx2).2 ⟨((manyF_iff hx).1 (Nat.le_refl _)).1, fun r hr hf => ((manyF_iff hx).1 (Nat.le_refl _)).2 r (turn_mem.1 hr) hf⟩
  · exact (manyF_iff hx).2 ⟨((manyF_iff hx2).1 (Nat.le_refl _)).1, fun r hr hf => ((manyF_iff hx2).1 (Nat.le_refl _)).2 r (turn_mem.2 hr) hf⟩
theorem turn_check {L : List (List UInt8)} (h : L.length ≤ 500) : checkL (turnL L) = checkL L := by
  have e : ((turnL L).any fun s => !mayL s) = (L.any fun s => !mayL s) := by
    rw [Bool.eq_iff_iff, List.any_eq_true, List.any_eq_true]
    constructor
    · rintro ⟨s, h1, h2⟩; exact ⟨s, turn_mem.1 h1, h2⟩
    · rintro ⟨s, h1, h2⟩; exact ⟨s, turn_mem.2 h1, h2⟩
  unfold checkL
  rw [e, turn_len, decide_eq_true (by omega : 2 * L.length ≤ 1024), decide_eq_true (by omega : L.length ≤ 1024)]
theorem turn_same {L : List (List UInt8)} {h : List UInt8} (hl : L.length ≤ 500) (hx : ∀ r ∈ L, exceptB r = false) : suffixL (turnL L) h = suffixL L h ∧ ownL (turnL L) h = ownL L h := by
  have hw : wrongL (turnL L) h = wrongL L h := by unfold wrongL; rw [turn_check hl]
  unfold suffixL ownL
  rw [hw, turn_many hx]
  exact ⟨rfl, rfl⟩
end Go.Proofs.YtaijdjmkmhpmpaaGreatDoor
