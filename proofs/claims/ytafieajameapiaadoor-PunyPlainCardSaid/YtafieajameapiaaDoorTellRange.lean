/- 'for d := range b.tell(n) (out.WriteByte(d))' as one step: the builder has the digits more; nothing else turned but the iterator's own box. -/
import Derived.Test.YtafieajameapiaaDoorTell
set_option linter.unusedVariables false
set_option linter.unusedSimpArgs false
namespace Go.Proofs.YtafieajameapiaaDoor
open Go.RowKit

theorem builder_same {T e : TypeId} {B b : Nat} {bs : List Value} {W W' : World} (h : Lib.IsBuilderF T e B b bs W) (hb : W'.heap[b]? = W.heap[b]?)
    (hrow : ∀ (k : Nat) (c : Array Value) (fz : Nat × Nat), W.heap[k]? = some (Obj.cells c e fz) → W'.heap[k]? = some (Obj.cells c e fz)) : Lib.IsBuilderF T e B b bs W' := by
  have key : ∀ p, Lib.BuilderAtF T e B b p bs W → Lib.BuilderAtF T e B b p bs W' := by
    rintro p ⟨hB, v, hbk, hown, hne⟩
    refine ⟨hB, v, hb.trans hbk, ⟨hown.1, ?_⟩, hne⟩
    rcases hown.2 with hn | ⟨g, cap, cur, fz, hv, hbg, hg, rest⟩
    · exact .inl hn
    · exact .inr ⟨g, cap, cur, fz, hv, hbg, hrow g cur fz hg, rest⟩
  exact h.elim (fun x => .inl (key _ x)) (fun x => .inr (key _ x))

/-- What lay stands as it stood, but for a builder, one cell, and rows of bytes. -/
def KeptBut (bl Bn : Nat) (w W : World) : Prop := ∀ k o, w.heap[k]? = some o → k ≠ bl → k ≠ Bn → (∀ c fz, o ≠ .cells c 5 fz) → W.heap[k]? = some o

theorem heap_setCell_kind {W : World} {b : Nat} {c : Array Value} {t : TypeId} {fz : Nat × Nat} (h : W.heap[b]? = some (.cells c t fz)) (v : Value) : ∃ c', (W.setCell ⟨b, 0, none⟩ v).heap[b]? = some (.cells c' t fz) := by
  refine ⟨c.setIfInBounds 0 v, ?_⟩
  simp only [World.setCell, Array.getElem?_modify, if_true, h]
  rfl

theorem tell_range {Q : Exit → Act → World → Prop} {a : Act} {w : World} {g : Operand} {ps : Array Tmp} {assign body : Code} (b m Bb Bn B bl : Nat) (out : List UInt8)
    (hg : a.eval g = .func (.func 47) #[] #[.pointer (some ⟨Bb, 0, none⟩), .pointer (some ⟨Bn, 0, none⟩)]) (hps : ps.size = 1)
    (hne : Bb ≠ Bn) (hb : b ≤ 1000000) (hm : m ≤ 8589934592) (hBb : Boxed w Bb 38 (.int .i64 b)) (hBn : Boxed w Bn 3 (.int .i64 m))
    (hI : Lib.IsBuilderF 31 5 B bl (Lib.byteCells out) w) (hBw : B ≤ w.heap.size) (hbB : bl ≠ Bb) (hbN : bl ≠ Bn) (hBBn : B ≤ Bn) (hbl : bl < w.heap.size)
    (hlen : out.length + (toldL m b 36).length ≤ 140737488355328)
    (hround : ∀ (l : Nat) (x : UInt8) (W : World), assign.wpIn (Fence.wide.inRound l) 2 Tryd.prog (Exit.then (fun a1 W1 => W1 = W ∧ ∀ (W2 : World) (post : World → Prop),
      Calls Tryd.prog 20 #[.pointer (some ⟨bl, 0, none⟩), .int .u8 (x.toNat : Int)] W2 (fun e w' => e = .returned .nilIface ∧ post w') →
      body.wpIn (Fence.wide.inRound l) 2 Tryd.prog (fun e _ W' => e = .normal ∧ post W') a1 W2) (fun _ _ _ => False))
      { tmps := (ps.zip #[.int .u8 (x.toNat : Int)]).foldl (fun t (p, v) => t.setIfInBounds p v) a.tmps, defers := [] } W)
    (hdone : ∀ (D : Nat) (W : World), w.heap.size ≤ D → Lib.IsBuilderF 31 5 B bl (Lib.byteCells (out ++ toldL m b 36)) W → Below B w W → KeptBut bl Bn w W → W.heap[D]? = some (.deferred (some [])) → Q .normal { a with defers := { target := .collected D, args := #[] } :: a.defers } W) :
    (Code.rangeFunc g ps assign body).wp Tryd.prog Q a w := by
  refine wpIn_wide.1 (wpIn_rangeFunc_ownS (F := Fence.wide) (n := 4) (P := Tryd.prog) rfl (by omega) hg trivial (enters_of Tryd.func47 (by kernel_rfl) rfl)
    (tell_seq 3 (by omega) b m Bb Bn hne hb hm w hBb hBn)
    (fun h k => ⟨k.1.trans h.1, k.2.trans h.2⟩)
    (fun W l o' hl => ⟨World.putObj_heap_other (by have := hBb.lt; omega), World.putObj_heap_other (by have := hBn.lt; omega)⟩)
    (fun x => by rw [hps]; rfl)
    (fun c e => by rw [e]; exact hBn.lt)
    (fun pre W => Lib.IsBuilderF 31 5 B bl (Lib.byteCells (out ++ pre)) W ∧ Below B w W ∧ KeptBut bl Bn w W ∧ ∃ c fz, W.heap[Bn]? = some (.cells c 3 fz))
    ?own ?stores ?start ?round ?done)
  case own =>
    rintro s W W' row ⟨h1, h2, h3, c, fz, h4⟩ hgr hr
    have hk : ∀ k o, W.heap[k]? = some o → (o.isCells = true ∨ k < w.heap.size) → W'.heap[k]? = some o := fun k o hk ho => by
      refine (hgr.block k (Array.getElem?_eq_some_iff.1 hk).1 ?_).trans hk
      intro e
      obtain ⟨hB', o', ho', hc'⟩ := hr k e.symm
      rw [hk] at ho'
      cases ho'
      rcases ho with ho | ho
      · rw [ho] at hc'; cases hc'
      · omega
    have hlt : bl < W.heap.size := Nat.lt_of_lt_of_le hbl h2.size
    refine ⟨builder_same h1 ?_ (fun k c fz hk' => hk k _ hk' (.inl rfl)), h2.grown hgr (Nat.le_trans hBw h2.size) (fun k e => Nat.le_trans hBw (hr k e).1), fun k o hk' h h' ho => hk k o (h3 k o hk' h h' ho) (.inr (Array.getElem?_eq_some_iff.1 hk').1), c, fz, hk _ _ h4 (.inl rfl)⟩
    rw [Array.getElem?_eq_getElem hlt]
    exact hk bl _ (Array.getElem?_eq_getElem hlt) (.inr hbl)
  case stores =>
    rintro b' v s A hb' ⟨h1, h2, h3, c, fz, h4⟩
    subst hb'
    have hk : ∀ k, k ≠ b' → (A.setCell ⟨b', 0, none⟩ v).heap[k]? = A.heap[k]? := fun k hk => Below.heap_setCell _ _ _ _ (by exact hk)
    obtain ⟨c', h5⟩ := heap_setCell_kind h4 v
    refine ⟨builder_same h1 (hk _ hbN) (fun k c fz hk' => (hk k (fun e => by rw [e, h4] at hk'; cases hk')).trans hk'), h2.setCell (p := ⟨b', 0, none⟩) hBBn v, fun k o hk' h h' ho => (hk k h').trans (h3 k o hk' h h' ho), c', fz, h5⟩
  case start => exact ⟨by simpa using hI, Below.refl _ _, fun k o h _ _ _ => h, _, _, hBn⟩
  case round =>
    intro l x W0
    refine wpIn_mono (hround l x W0) ?_
    rintro e0 a1 W1 hq
    obtain rfl : e0 = .normal := by cases e0 <;> first | rfl | exact False.elim hq
    refine ⟨hq.1, ?_⟩
    have hbody := hq.2
    rintro pre rest W ⟨h1, h2, h3, c, fz, h4⟩ hT
    have hl : (out ++ pre).length + 1 ≤ 140737488355328 := by rw [hT] at hlen; simp at hlen ⊢; omega
    have hBb' : W.heap[Bb]? = some (.cells #[.int .i64 b] 38 (0, 0)) := h3 Bb _ hBb (Ne.symm hbB) hne (fun c fz e => by cases e)
    refine wpIn_mono (hbody W _ ((writeByte_k B bl (Lib.byteCells (out ++ pre)) (x.toNat : Int) W h1 (by rw [Lib.byteCells_length]; exact hl) (Nat.le_trans hBw h2.size)))) ?_
    rintro e _ W' ⟨rfl, hb2, hbe, hoth⟩
    refine ⟨rfl, ⟨hbe.size, fun k o hk hko hc => hoth k o hko (fun e => by cases e; omega) (fun c fz e => by rw [e] at hc; cases hc)⟩, ⟨?_, ?_⟩, ?_, h2.trans hbe, ?_, c, fz, ?_⟩
    · rw [hBb']; exact hoth _ _ hBb' (fun e => hbB (Option.some.inj e).symm) (fun c fz e => by cases e)
    · rw [h4]; exact hoth _ _ h4 (fun e => hbN (Option.some.inj e).symm) (fun c fz e => by cases e)
    · refine Or.inr ?_
      have : Lib.byteCells (out ++ (pre ++ [x])) = Lib.byteCells (out ++ pre) ++ [.int .u8 (x.toNat : Int)] := by rw [← List.append_assoc, Lib.byteCells_append]; rfl
      rw [this]; exact hb2
    · exact fun k o hk h h' ho => hoth k o (h3 k o hk h h' ho) (fun e => h (Option.some.inj e)) ho
    · exact hoth _ _ h4 (fun e => hbN (Option.some.inj e).symm) (fun c fz e => by cases e)
  case done =>
    rintro D W hD ⟨h1, h2, h3, _⟩ hd
    exact hdone D W hD h1 h2 h3 hd
end Go.Proofs.YtafieajameapiaaDoor
