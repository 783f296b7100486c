/- A parameter that is a slice of bytes, opened. -/
import Derived.Test.YtaijdjmkmhpmpaaGreatDoorOpen
import Derived.ChangeSlices
set_option linter.unusedVariables false
set_option linter.unusedSimpArgs false
namespace Go.Proofs.YtaijdjmkmhpmpaaGreatDoor
open Go.RowKit Go.WideShapes Go.ChangeShapes

/-- A slice of bytes in memory. -/
def ByT (w : World) (v : Value) (l : List UInt8) : Prop :=
  (v = .slice none 0 0 ∧ l = []) ∨ ∃ a c, v = .slice (some a) l.length c ∧ (0 < l.length → a.block < w.heap.size) ∧ ∀ (k : Nat) (hk : k < l.length), w.cell? (a.add k) = some (.int .u8 (l[k].toNat : Int))
theorem ByT.below {w W : World} {v : Value} {l : List UInt8} (h : ByT w v l) (hb : Below w.heap.size w W) : ByT W v l := by
  rcases h with h | ⟨a, c, h1, h2, h3⟩
  · exact .inl h
  · exact .inr ⟨a, c, h1, fun h0 => Nat.lt_of_lt_of_le (h2 h0) hb.size, fun k hk => (hb.cell (p := a.add k) (by rw [Go.ChangeShapes.block_add]; exact h2 (by omega))).trans (h3 k hk)⟩
section
variable {H : Type} {enc : TypeId × Value → H} {P : Program}
theorem open_byt {W : World} {t e : TypeId} {v : Value} {d : DataW H} {p : List MemPlace} (ht : P.underlying t = some (.slice e)) (he : P.underlying e = some (.int .u8)) (hc : P.cellsOf e = 1)
    (hv : ∃ a n c, v = .slice a n c) (h : DataW.Trod enc P W 0 (fun _ => true) true t v d p) : ∃ L, ByT W v L := by
  obtain ⟨ad, n0, c0, rfl⟩ := hv
  obtain ⟨fuel, hf⟩ := h
  rcases open_ints ht he hc hf with ⟨hcs, hx⟩ | ⟨a, len, cap, zs, hcs, _, hl, hm, hz, hx, hcell, hwf⟩
  · simp [Value.cells] at hcs
    obtain ⟨rfl, rfl, rfl⟩ := hcs
    exact ⟨[], .inl ⟨rfl, rfl⟩⟩
  · simp [Value.cells] at hcs
    obtain ⟨rfl, rfl, rfl⟩ := hcs
    simp only [if_true] at hz
    have hll : ((zs.take n0).map fun n => UInt8.ofNat n.toNat).length = n0 := by simp; omega
    refine ⟨(zs.take n0).map fun n => UInt8.ofNat n.toNat, .inr ⟨a, c0, by rw [hll], fun h0 => ?_, fun k hk => ?_⟩⟩
    · rw [hll] at h0
      have := hcell 0 (by omega)
      have := World.block_lt_of_cell? _ _ this
      rwa [block_add] at this
    · rw [hll] at hk
      rw [hcell k (by omega), List.getElem_map, List.getElem_take, List.getD_eq_getElem?_getD, List.getElem?_eq_getElem (by omega)]
      have hb : 0 ≤ zs[k]'(by omega) ∧ zs[k]'(by omega) ≤ 255 := by
        have := hwf _ (List.getElem_mem (show k < zs.length by omega))
        simp [Lit.wf, IntKind.min, IntKind.max, IntKind.signed, IntKind.bits] at this
        omega
      simp only [Option.getD_some]
      congr 2
      rw [UInt8.toNat_ofNat']
      omega
end
end Go.Proofs.YtaijdjmkmhpmpaaGreatDoor
