/- slices.Sort and slices.Compact on a slice of ints that the call owns, in the words of 'ownsRow'. -/
import Derived.Test.YtafieajameapiaaDoorBytesRef
import Derived.Test.YtafieajameapiaaDoorEncMath
import Derived.Test.YtafieajameapiaaDoorShelf
set_option linter.unusedVariables false
set_option linter.unusedSimpArgs false
namespace Go.Proofs.YtafieajameapiaaDoor
open Go.RowKit

abbrev intVs (l : List Int) : List Value := l.map (Value.int .i64)

theorem putRow_heap (enc : Int → Value) (w : World) (blk off : Nat) (d : Array Int) (cur : Array Value) (e : TypeId) (fz : Nat × Nat) (h : w.heap[blk]? = some (.cells cur e fz)) : (Go.Sort.putRow enc w blk off d).heap[blk]? = some (.cells (Go.Sort.putCells enc off d cur) e fz) := by
  unfold Go.Sort.putRow Go.Sort.mapBlock
  simp only [Array.getElem?_modify, if_true, h]
  rfl
theorem putRow_other (enc : Int → Value) (w : World) (blk off : Nat) (d : Array Int) (k : Nat) (h : k ≠ blk) : (Go.Sort.putRow enc w blk off d).heap[k]? = w.heap[k]? := by
  unfold Go.Sort.putRow Go.Sort.mapBlock
  simp only [Array.getElem?_modify]
  rw [if_neg (fun e => h e.symm)]
theorem putRow_size (enc : Int → Value) (w : World) (blk off : Nat) (d : Array Int) : (Go.Sort.putRow enc w blk off d).heap.size = w.heap.size := by
  unfold Go.Sort.putRow Go.Sort.mapBlock
  simp
theorem putRow_grown (enc : Int → Value) (w : World) (blk off : Nat) (d : Array Int) (n : Nat) : w.grownBy (Go.Sort.putRow enc (Go.Sort.ahead w n) blk off d) (some blk) :=
  ⟨rfl, rfl, rfl, by rw [putRow_size]; exact Nat.le_refl _, fun k hk hne => putRow_other _ _ _ _ _ _ (fun e => hne (by rw [e]))⟩
theorem grow_grown {w w' : World} {row : Option Nat} (h : w.grownBy w' row) (os : Array Obj) : w.grownBy (Go.Sort.grow w' os) row := by
  refine ⟨h.os, h.tape, h.output, ?_, fun k hk hne => ?_⟩
  · have := h.size
    simp only [Go.Sort.grow, Array.size_append]; omega
  · refine Eq.trans ?_ (h.block k hk hne)
    have := h.size
    simp only [Go.Sort.grow]
    rw [Array.getElem?_append_left (by omega)]
theorem grow_heap {w : World} {k : Nat} {o : Obj} (h : w.heap[k]? = some o) (os : Array Obj) : (Go.Sort.grow w os).heap[k]? = some o := by
  have := (Array.getElem?_eq_some_iff.1 h).1
  simp only [Go.Sort.grow]
  rw [Array.getElem?_append_left this]; exact h
theorem putCells_size (enc : Int → Value) (off : Nat) (d : Array Int) (c : Array Value) : (Go.Sort.putCells enc off d c).size = c.size := by simp [Go.Sort.putCells]
theorem putCells_get (enc : Int → Value) (d : Array Int) (c : Array Value) (k : Nat) (hk : k < c.size) (hd : k < d.size) : (Go.Sort.putCells enc 0 d c)[k]? = some (enc d[k]!) := by
  simp [Go.Sort.putCells, hk, hd]
theorem putCells_take (l : List Int) (c : Array Value) (n : Nat) (hn : l.length = n) (hc : n ≤ c.size) : (Go.Sort.putCells (Value.int .i64) 0 l.toArray c).toList.take n = intVs l := by
  apply List.ext_getElem?
  intro k
  by_cases hk : k < n
  · rw [List.getElem?_take_of_lt hk, Array.getElem?_toList, putCells_get _ _ _ _ (by omega) (by simp; omega)]
    have : k < l.length := by omega
    simp [this]
  · rw [List.getElem?_take, if_neg hk, List.getElem?_eq_none (by simp; omega)]

theorem own_holds {w : World} {base g cap : Nat} {n : Nat} {l : List Int} (h : w.ownsRow base 3 1 (.slice (some ⟨g, 0, none⟩) n cap) n (intVs l)) : Go.Sort.Holds (Value.int .i64) w g 0 l.toArray := by
  intro j hj
  have hj' : j < l.length := by simpa using hj
  have hc := h.cells (g := g) rfl j (.int .i64 l[j]) (by simp [hj'])
  refine ⟨?_, ?_⟩
  · rw [Addr.add_lit, Nat.zero_add] at hc
    rw [Nat.zero_add, hc]; simp [hj']
  · rcases h.2 with ⟨hv, _⟩ | ⟨g', cap', cur, hv, _, hg, _⟩
    · cases hv
    · cases hv; simp [World.frozen?, hg]

theorem sort_any (base : Nat) (v : Value) (l : List Int) (w : World) (h : w.ownsRow base 3 1 v l.length (intVs l)) (hl : l.length ≤ 1000000) :
    Calls Tryd.prog 22 #[v] w fun e w' => e = .returned (.tuple #[]) ∧ w'.ownsRow base 3 1 v l.length (intVs (l.mergeSort fun x y => decide (x ≤ y))) ∧ w.grownBy w' v.ownBlock := by
  rcases h.2 with ⟨rfl, h0⟩ | ⟨g, cap, cur, rfl, hb, hg, hn, hm, hsz, htake⟩
  · refine (Tryd.slices_Sort_int_none none 0 w).mono ?_
    rintro e w' ⟨rfl, rfl⟩
    have : l = [] := List.length_eq_zero_iff.1 h0
    subst this
    exact ⟨rfl, by simpa using h, grown_refl _ _⟩
  · refine (Tryd.slices_Sort_int g 0 cap l w (own_holds h) (Array.getElem?_eq_some_iff.1 hg).1 (by omega)).mono ?_
    rintro e w' ⟨rfl, n, os, rfl⟩
    refine ⟨rfl, ⟨by simp, .inr ⟨g, cap, _, rfl, hb, grow_heap (putRow_heap _ (Go.Sort.ahead w n) g 0 _ cur _ _ hg) os, hn, hm, ?_, ?_⟩⟩, grow_grown (putRow_grown _ _ _ _ _ _) _⟩
    · rw [putCells_size]; exact hsz
    · rw [Nat.mul_one]; exact putCells_take _ _ _ (by simp) (by omega)

/-- What Compact hands back: a slice whose cells lie in one block of ints. -/
theorem compact_any (base : Nat) (v : Value) (l : List Int) (w : World) (h : w.ownsRow base 3 1 v l.length (intVs l)) (hl : l.length ≤ 1000000) :
    Calls Tryd.prog 23 #[v] w fun e w' => ∃ ad c, e = .returned (.slice ad (Lib.compact l).length c) ∧ w.grownBy w' v.ownBlock ∧
      ((Lib.compact l = [] ∧ v.ownBlock = none) ∨ ∃ g cur, ad = some ⟨g, 0, none⟩ ∧ base ≤ g ∧ v.ownBlock = some g ∧ w'.heap[g]? = some (.cells cur 3 (0, 0)) ∧ cur.toList.take (Lib.compact l).length = intVs (Lib.compact l)) := by
  rcases h.2 with ⟨rfl, h0⟩ | ⟨g, cap, cur, rfl, hb, hg, hn, hm, hsz, htake⟩
  · refine (Tryd.slices_Compact_int_empty none 0 w).mono ?_
    rintro e w' ⟨rfl, rfl⟩
    have : l = [] := List.length_eq_zero_iff.1 h0
    subst this
    exact ⟨none, 0, rfl, grown_refl _ _, .inl ⟨rfl, rfl⟩⟩
  · refine (Tryd.slices_Compact_int g 0 cap l w (own_holds h) (by omega) (by omega)).mono ?_
    rintro e w' ⟨rfl, q, rfl⟩
    have hle := Lib.compact_length_le l
    refine ⟨_, _, rfl, putRow_grown _ _ _ _ _ _, .inr ⟨g, _, rfl, hb, rfl, putRow_heap _ (Go.Sort.ahead w q) g 0 _ cur _ _ hg, ?_⟩⟩
    have := putCells_take (Lib.compact l ++ List.replicate (l.length - (Lib.compact l).length) 0) cur l.length (by simp; omega) (by omega)
    have h2 := congrArg (List.take (Lib.compact l).length) this
    rw [List.take_take, Nat.min_eq_left hle] at h2
    rw [h2]
    simp [intVs, List.map_append, List.take_append_of_le_length]
end Go.Proofs.YtafieajameapiaaDoor
