/- What puny.Encode's memory looks like between two steps, and how it is kept. -/
import Derived.Test.YtafieajameapiaaDoorTellRange
import Derived.Test.YtafieajameapiaaDoorEncSort
import Derived.Test.YtafieajameapiaaDoorRunes
import Derived.Test.YtafieajameapiaaDoorValid
set_option linter.unusedVariables false
set_option linter.unusedSimpArgs false
namespace Go.Proofs.YtafieajameapiaaDoor
open Go.RowKit

/-- The marks that the ranges over functions have left among the deferred calls. -/
def Marks (B : Nat) (w : World) (ds : List Deferred) : Prop :=
  ∃ Ds : List Nat, ds = Ds.map (fun D => { target := .collected D, args := #[] }) ∧ Ds.Nodup ∧ ∀ D ∈ Ds, B ≤ D ∧ w.heap[D]? = some (.deferred (some []))
theorem marks_nil (B : Nat) (w : World) : Marks B w [] := ⟨[], rfl, List.nodup_nil, fun D h => by simp at h⟩
theorem Marks.push {B : Nat} {w W : World} {ds : List Deferred} {D : Nat} (h : Marks B w ds) (hD : w.heap.size ≤ D) (hB : B ≤ w.heap.size) (hk : ∀ (D' : Nat) (o : Option (List Deferred)), w.heap[D']? = some (Obj.deferred o) → W.heap[D']? = some (Obj.deferred o)) (hd : W.heap[D]? = some (.deferred (some []))) :
    Marks B W ({ target := .collected D, args := #[] } :: ds) := by
  obtain ⟨Ds, rfl, hn, hm⟩ := h
  refine ⟨D :: Ds, rfl, List.nodup_cons.2 ⟨fun hi => ?_, hn⟩, fun D' hD' => ?_⟩
  · have := (Array.getElem?_eq_some_iff.1 (hm D hi).2).1
    omega
  · rcases List.mem_cons.1 hD' with rfl | hi
    · exact ⟨by omega, hd⟩
    · exact ⟨(hm D' hi).1, hk _ _ (hm D' hi).2⟩
theorem Marks.kept {B : Nat} {w W : World} {ds : List Deferred} (h : Marks B w ds) (hk : ∀ (D' : Nat) (o : Option (List Deferred)), w.heap[D']? = some (Obj.deferred o) → W.heap[D']? = some (Obj.deferred o)) : Marks B W ds := by
  obtain ⟨Ds, rfl, hn, hm⟩ := h
  exact ⟨Ds, rfl, hn, fun D' hD' => ⟨(hm D' hD').1, hk _ _ (hm D' hD').2⟩⟩

/-- A frame that holds marks alone leaves as one that holds none. -/
theorem leaves_marks {F : Fence} {n : Nat} {P : Program} {fn : Func} {tmps : Array Value} {R : Ending → World → Prop} {B : Nat} {v : Value} (hv : ∀ w, (results fn tmps).run P w = .ok v w) : ∀ (Ds : List Nat) (w : World), Ds.Nodup → (∀ D ∈ Ds, B ≤ D ∧ w.heap[D]? = some (.deferred (some []))) → B ≤ w.heap.size →
    (∀ W, Below B w W → R (.returned v) W) → LeavesInM F n P fn tmps R (Ds.map (fun D => { target := .collected D, args := #[] })) .returning w
  | [], w, _, _, _, h => ⟨v, hv w, h w (Below.refl _ _)⟩
  | D :: Ds, w, hn, hm, hB, h => by
    have h1 := hm D List.mem_cons_self
    have hn' := List.nodup_cons.1 hn
    refine ⟨by simp, .inl ⟨D, _, rfl, run_takeDeferred h1.2, ?_⟩⟩
    have hsz : ∀ o, (w.putObj D o).heap.size = w.heap.size := fun o => by simp [World.putObj]
    have hbl : ∀ o, Below B w (w.putObj D o) := fun o => (Below.refl B w).grown (grownBy_putObj' w D o) hB (fun k e => by cases e; exact h1.1)
    refine leaves_marks hv Ds _ hn'.2 (fun D' hD' => ⟨(hm D' (List.mem_cons_of_mem _ hD')).1, (World.putObj_heap_other (fun e => hn'.1 (by rw [← e]; exact hD'))).trans (hm D' (List.mem_cons_of_mem _ hD')).2⟩) (by rw [hsz]; exact hB) (fun W hW => h W ((hbl _).trans hW))

/-- The memory between two steps: the builder, the marks, the row of signs; nothing below B has turned. -/
structure Mem (B : Nat) (w0 : World) (row : Option (Nat × Array Value)) (ds : List Deferred) (out : List UInt8) (wr : World) : Prop where
  bld : Lib.IsBuilderF 31 5 B B (Lib.byteCells out) wr
  low : Below B w0 wr
  sz : B < wr.heap.size
  marks : Marks B wr ds
  row : ∀ g cur, row = some (g, cur) → B < g ∧ wr.heap[g]? = some (.cells cur 3 (0, 0))

variable {B : Nat} {w0 : World} {row : Option (Nat × Array Value)} {ds : List Deferred} {out : List UInt8} {wr : World}
theorem Mem.alloc (h : Mem B w0 row ds out wr) (o : Obj) : Mem B w0 row ds out (wr.alloc o) := by
  have hk : ∀ k x, wr.heap[k]? = some x → (wr.alloc o).heap[k]? = some x := fun k x hk => (Lib.alloc_old wr o k (Array.getElem?_eq_some_iff.1 hk).1).trans hk
  exact ⟨h.bld.alloc o, h.low.alloc (Nat.le_of_lt h.sz) o, by have := h.sz; simp; omega, h.marks.kept (fun D o' h' => hk D _ h'), fun g cur e => ⟨(h.row g cur e).1, hk _ _ (h.row g cur e).2⟩⟩
theorem Mem.drew (h : Mem B w0 row ds out wr) : Mem B w0 row ds out wr.drew := ⟨h.bld, h.low.drew, h.sz, h.marks, h.row⟩
theorem Mem.iterAt (h : Mem B w0 row ds out wr) {k : Nat} {s : ByteArray} {pos : Nat} (hk : wr.heap[k]? = some (.stringIter s pos)) (hB : B ≤ k) (pos' : Nat) : Mem B w0 row ds out (wr.iterAt k s pos') := by
  have ho : ∀ j x, wr.heap[j]? = some x → (∀ s p, x ≠ Obj.stringIter s p) → (wr.iterAt k s pos').heap[j]? = some x := fun j x hj hx =>
    (Lib.iterAt_other wr k j s pos' (fun e => by subst e; rw [hk] at hj; exact hx s pos (Option.some.inj hj).symm)).trans hj
  exact ⟨h.bld.iterAt hk pos', Lib.below_iterAt h.low hB s pos', by rw [Lib.iterAt_size]; exact h.sz, h.marks.kept (fun D o h' => ho D _ h' (fun _ _ e => by cases e)), fun g cur e => ⟨(h.row g cur e).1, ho _ _ (h.row g cur e).2 (fun _ _ e => by cases e)⟩⟩
/-- Behind a number's digits. -/
theorem Mem.told (h : Mem B w0 row ds out wr) {Bn D : Nat} {W : World} {more : List UInt8} (hBn : ∃ c t fz, wr.heap[Bn]? = some (.cells c t fz)) (hrow : ∀ g cur, row = some (g, cur) → g ≠ Bn) (hD : wr.heap.size ≤ D)
    (hb : Lib.IsBuilderF 31 5 B B (Lib.byteCells (out ++ more)) W) (hl : Below B wr W) (hk : KeptBut B Bn wr W) (hd : W.heap[D]? = some (.deferred (some []))) :
    Mem B w0 row ({ target := .collected D, args := #[] } :: ds) (out ++ more) W := by
  obtain ⟨c, t, fz, hBn⟩ := hBn
  have hB : ∃ c t fz, wr.heap[B]? = some (.cells c t fz) := by
    rcases h.bld with ⟨_, v, hb, _⟩ | ⟨_, v, hb, _⟩
    · exact ⟨_, _, _, hb⟩
    · exact ⟨_, _, _, hb⟩
  obtain ⟨c', t', fz', hB⟩ := hB
  refine ⟨hb, h.low.trans hl, Nat.lt_of_lt_of_le h.sz hl.size, h.marks.push hD (Nat.le_of_lt h.sz) (fun D' o hD' => ?_) hd, fun g cur e => ⟨(h.row g cur e).1, hk g _ (h.row g cur e).2 (by have := (h.row g cur e).1; omega) (hrow g cur e) (fun c fz e => by cases e)⟩⟩
  exact hk D' _ hD' (fun e => by subst e; rw [hB] at hD'; cases hD') (fun e => by subst e; rw [hBn] at hD'; cases hD') (fun c fz e => by cases e)
/-- Behind a written byte. -/
theorem Mem.wrote (h : Mem B w0 row ds out wr) {W : World} {c : UInt8} (hb : Lib.BuilderAtF 31 5 B B (.pointer (some ⟨B, 0, none⟩)) (Lib.byteCells out ++ [.int .u8 (c.toNat : Int)]) W) (hl : Below B wr W) (hk : Lib.OthersKept 5 (some B) wr W) :
    Mem B w0 row ds (out ++ [c]) W := by
  have hB : ∃ c t fz, wr.heap[B]? = some (.cells c t fz) := by
    rcases h.bld with ⟨_, v, hb, _⟩ | ⟨_, v, hb, _⟩
    · exact ⟨_, _, _, hb⟩
    · exact ⟨_, _, _, hb⟩
  obtain ⟨c', t', fz', hB⟩ := hB
  refine ⟨Or.inr (by rw [Lib.byteCells_append]; exact hb), h.low.trans hl, Nat.lt_of_lt_of_le h.sz hl.size, h.marks.kept (fun D' o hD' => hk D' _ hD' (fun e => ?_) (fun c fz e => by cases e)), fun g cur e => ⟨(h.row g cur e).1, hk g _ (h.row g cur e).2 (fun e' => ?_) (fun c fz e => by cases e)⟩⟩
  · have := Option.some.inj e
    subst this; rw [hB] at hD'; cases hD'
  · have := (h.row g cur e).1
    have := Option.some.inj e'
    omega
/-- Behind what turned the row of signs alone, and made new blocks. -/
theorem Mem.grown (h : Mem B w0 none ds out wr) {W : World} {g : Option Nat} (hg : wr.grownBy W g) (hr : ∀ k, g = some k → B < k ∧ ∃ c fz, wr.heap[k]? = some (.cells c 3 fz)) : Mem B w0 none ds out W := by
  have hk : ∀ k o, wr.heap[k]? = some o → (∀ c fz, o ≠ Obj.cells c 3 fz) → W.heap[k]? = some o := fun k o hk ho => by
    refine (hg.block k (Array.getElem?_eq_some_iff.1 hk).1 (fun e => ?_)).trans hk
    obtain ⟨_, c, fz, h'⟩ := hr k e.symm
    rw [hk] at h'
    exact ho c fz (Option.some.inj h')
  refine ⟨builder_same h.bld ?_ (fun k c fz hc => hk k _ hc (fun c' fz' e => by cases e)), h.low.grown hg (Nat.le_of_lt h.sz) (fun k e => Nat.le_of_lt (hr k e).1), Nat.lt_of_lt_of_le h.sz hg.size, h.marks.kept (fun D' o hD' => hk D' _ hD' (fun c fz e => by cases e)), fun g cur e => by cases e⟩
  exact hg.block B h.sz (fun e => by have := (hr B e.symm).1; omega)

theorem own_same {w W : World} {base e : Nat} {v : Value} {n : Nat} {xs : List Value} (h : w.ownsRow base e 1 v n xs) (hk : ∀ (k : Nat) (c : Array Value), base ≤ k → w.heap[k]? = some (Obj.cells c e (0, 0)) → W.heap[k]? = some (Obj.cells c e (0, 0))) : W.ownsRow base e 1 v n xs := by
  refine ⟨h.1, ?_⟩
  rcases h.2 with h0 | ⟨g, cap, cur, hv, hb, hg, rest⟩
  · exact .inl h0
  · exact .inr ⟨g, cap, cur, hv, hb, hk g cur hb hg, rest⟩
theorem own_iterAt {w : World} {base e : Nat} {v : Value} {n : Nat} {xs : List Value} (h : w.ownsRow base e 1 v n xs) {k : Nat} {s : ByteArray} {pos : Nat} (hk : w.heap[k]? = some (.stringIter s pos)) (pos' : Nat) : (w.iterAt k s pos').ownsRow base e 1 v n xs :=
  own_same h (fun j c _ hj => (Lib.iterAt_other w k j s pos' (fun e => by rw [e, hk] at hj; cases hj)).trans hj)
theorem own_wrote {w W : World} {B : Nat} {v : Value} {n : Nat} {xs : List Value} (h : w.ownsRow (B + 1) 3 1 v n xs) (hk : Lib.OthersKept 5 (some B) w W) : W.ownsRow (B + 1) 3 1 v n xs :=
  own_same h (fun j c hj hc => hk j _ hc (fun e => by have := Option.some.inj e; omega) (fun c' fz e => by cases e))
theorem own_kind {w : World} {base e : Nat} {v : Value} {n : Nat} {xs : List Value} (h : w.ownsRow base e 1 v n xs) : ∀ k, v.ownBlock = some k → base ≤ k ∧ ∃ c fz, w.heap[k]? = some (.cells c e fz) := by
  intro k hk
  rcases h.2 with ⟨rfl, _⟩ | ⟨g, cap, cur, rfl, hb, hg, _⟩
  · simp [Value.ownBlock] at hk
  · simp [Value.ownBlock] at hk
    subst hk
    exact ⟨hb, cur, _, hg⟩
theorem iter_grown {w W : World} {row : Option Nat} {k : Nat} {s : ByteArray} {pos : Nat} (hk : w.heap[k]? = some (.stringIter s pos)) (hg : w.grownBy W row) (hr : ∀ j, row = some j → ∃ c t fz, w.heap[j]? = some (.cells c t fz)) : W.heap[k]? = some (.stringIter s pos) :=
  (hg.block k (Array.getElem?_eq_some_iff.1 hk).1 (fun e => by obtain ⟨c, t, fz, h⟩ := hr k e.symm; rw [hk] at h; cases h)).trans hk
end Go.Proofs.YtafieajameapiaaDoor
