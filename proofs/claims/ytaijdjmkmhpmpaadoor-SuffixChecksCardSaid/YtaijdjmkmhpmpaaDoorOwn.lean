/- Slices that a call made itself: one law for 'append(v, x1, ..)', one for 'string(v)', in the words of 'ownsRow'. -/
import Derived.Test.YtaijdjmkmhpmpaaDoorBase
import Derived.OwnWalk
import Derived.Laws.AppendOwn
import Derived.Laws.AppendOwnNone
import Derived.Laws.IdiomStrings
import Derived.Laws.Cover4
set_option linter.unusedVariables false
set_option linter.unusedSimpArgs false
namespace Go.Proofs.YtaijdjmkmhpmpaaDoor
open Go.RowKit

/-- What is asked of a slice type t whose elements, of type e, have one cell. -/
structure Elem1 (P : Program) (t e : TypeId) (z : Value) (bytes : Nat) : Prop where
  ht : P.underlying t = some (.slice e)
  hi : ∃ i, P.info? e = some i ∧ i.zero = some z ∧ i.size = 1 ∧ i.bytes = bytes
  hz : z.cells.size = 1

theorem grown_trans2 {a b c : World} {row : Option Nat} (h : a.grownBy b row) (k : b.grownBy c row) : a.grownBy c row :=
  ⟨k.os.trans h.os, k.tape.trans h.tape, k.output.trans h.output, Nat.le_trans h.size k.size, fun i hi hne => (k.block i (Nat.lt_of_lt_of_le hi h.size) hne).trans (h.block i hi hne)⟩
theorem grown_refl (a : World) (row : Option Nat) : a.grownBy a row := ⟨rfl, rfl, rfl, Nat.le_refl _, fun _ _ _ => rfl⟩
theorem grown_drew {a b : World} {row : Option Nat} (h : a.grownBy b row) : a.grownBy b.drew row := ⟨h.os, h.tape, h.output, h.size, h.block⟩
theorem grown_alloc {a w : World} {row : Option Nat} (h : a.grownBy w row) (o : Obj) : a.grownBy (w.alloc o) row := grown_trans2 h (World.grownBy_alloc w o row)
theorem grown_below {a w w' : World} {row : Option Nat} (h : a.grownBy w row) (hb : Below w.heap.size w w') : a.grownBy w' row :=
  ⟨hb.os.trans h.os, hb.tape.trans h.tape, hb.output.trans h.output, Nat.le_trans h.size hb.size, fun k hk hn => (hb.block k (Nat.lt_of_lt_of_le hk h.size)).trans (h.block k hk hn)⟩
theorem own_below {w w' : World} {base e size : Nat} {v : Value} {n : Nat} {xs : List Value} (h : w.ownsRow base e size v n xs) (hb : Below w.heap.size w w') : w'.ownsRow base e size v n xs :=
  h.kept (row := none) ⟨hb.os, hb.tape, hb.output, hb.size, fun k hk _ => hb.block k hk⟩ (by cases hv : v.ownBlock <;> simp)
theorem own_drew {w : World} {base e size : Nat} {v : Value} {n : Nat} {xs : List Value} (h : w.ownsRow base e size v n xs) : w.drew.ownsRow base e size v n xs := h
theorem below_alloc (w : World) (o : Obj) : Below w.heap.size w (w.alloc o) := (Below.refl _ _).alloc (Nat.le_refl _) o
theorem below_of_grown {B : Nat} {a w : World} {row : Option Nat} (hg : a.grownBy w row) (hB : B ≤ a.heap.size) (hr : ∀ k, row = some k → B ≤ k) : Below B a w := (Below.refl B a).grown hg hB hr

/-- 'append(v, x1, .., xm)' behind the making of the argument's block. -/
theorem wpList_append_vals {P : Program} {t e : TypeId} {z : Value} {bytes : Nat} (E : Elem1 P t e z bytes) (w0 : World) {ops : Array Oper} {rest : List Oper} {o : Oper} {a : Act} {Q : Exit → Act → World → Prop} (hgd : o.guard = none) (s x : Operand)
    (ho : o.op = .call { callee := .builtin .append, args := #[s, x], argTypes := #[t, t] })
    (base : Nat) (v : Value) (n : Nat) (xs : List Value) (hs : a.eval s = v) (hown : w0.ownsRow base e 1 v n xs)
    (m : Nat) (news : List Value) (e' : TypeId) (hx : a.eval x = .slice (some ⟨w0.heap.size, 0, none⟩) m m) (hl : news.length = m) (h1 : ∀ u ∈ news, u.oneCell' = true)
    (h63 : n + m ≤ 140737488355328) (hbytes : (n + m) * bytes ≤ 140737488355328) (hbase : base ≤ w0.heap.size)
    (h : ∀ v' w', w'.ownsRow base e 1 v' (n + m) (xs ++ news) → w0.grownBy w' v.ownBlock → (v' = .slice none 0 0 ↔ v = .slice none 0 0 ∧ m = 0) → wpList P ops Q rest (a.put o.dst v') w') :
    wpList P ops Q (o :: rest) a (w0.alloc (.cells news.toArray e')) := by
  obtain ⟨i, hi, hz, hsize, hby⟩ := E.hi
  refine wpList_append_own _ hgd s x t ho base e i z 1 bytes E.ht hi hz hsize hby E.hz (by decide) v n xs hs (hown.alloc _) ⟨w0.heap.size, 0, none⟩ m m news hx (by omega) ?_ h1 (by unfold maxLen; omega) hbytes (by simp; omega) ?_
  · intro j u hj
    rw [Addr.add_lit, Nat.zero_add, World.cell?_alloc_at _ _ _ j rfl]
    simpa using hj
  · intro v' w' h2 h3 h4
    exact h v' w' h2 (grown_trans2 (World.grownBy_alloc w0 _ _) h3) h4

/-- 'string(v)' of bytes that the call owns. -/
theorem convert_bytes_own {P : Program} {w : World} {src dst e : TypeId} {base : Nat} {v : Value} {l : List UInt8} (hs : P.underlying src = some (.slice e)) (he : P.underlying e = some (.int .u8)) (hd : P.underlying dst = some .string)
    (hown : w.ownsRow base e 1 v l.length (l.map fun c => .int .u8 c.toNat)) : (convert src dst v).run P w = .ok (.string ⟨l.toArray⟩) w := by
  have hlen := hown.1
  rcases hown.2 with ⟨rfl, h0⟩ | ⟨g, cap, cur, rfl, hb, hg, hn, hm, hsz, htake⟩
  · have : l = [] := List.length_eq_zero_iff.1 h0
    subst this
    rw [run_convert_bytes_string w src dst e none 0 0 hs he hd]
    rfl
  · refine run_convert_bytes_back w src dst e ⟨g, 0, none⟩ cap l hs he hd fun j hj => ?_
    rw [hown.cells (g := g) rfl j (.int .u8 (l[j].toNat : Int)) (by simp [List.getElem?_eq_getElem hj])]

/-- 'string(v)' of runes that the call owns. -/
theorem convert_runes_own {P : Program} {w : World} {src dst e : TypeId} {base : Nat} {v : Value} {l : List Int} (hs : P.underlying src = some (.slice e)) (he : P.underlying e = some (.int .i32)) (hd : P.underlying dst = some .string)
    (hown : w.ownsRow base e 1 v l.length (l.map fun c => .int .i32 c)) : (convert src dst v).run P w = .ok (.string (runesBytes l)) w := by
  rcases hown.2 with ⟨rfl, h0⟩ | ⟨g, cap, cur, rfl, hb, hg, hn, hm, hsz, htake⟩
  · have : l = [] := List.length_eq_zero_iff.1 h0
    subst this
    exact run_convert_runes_nil w src dst e 0 0 hs he hd
  · have := run_convert_runes w src dst e ⟨g, 0, none⟩ l.length cap l (Nat.le_refl _) hs he hd (fun j hj => by
      rw [hown.cells (g := g) rfl j (.int .i32 l[j]) (by simp [List.getElem?_eq_getElem hj])]
      simp [hj])
    rwa [List.take_length] at this

theorem own_len {w : World} {base e : Nat} {v : Value} {n : Nat} {xs : List Value} (h : w.ownsRow base e 1 v n xs) : xs.length = n := by have := h.1; omega

/-- The value of an owned row, opened. -/
theorem own_open {w : World} {base e : Nat} {v : Value} {n : Nat} {xs : List Value} (h : w.ownsRow base e 1 v n xs) :
    (v = .slice none 0 0 ∧ n = 0 ∧ xs = []) ∨ ∃ g cap, v = .slice (some ⟨g, 0, none⟩) n cap ∧ base ≤ g ∧ g < w.heap.size ∧ n ≤ cap ∧ cap ≤ 9223372036854775807 ∧ ∀ j u, xs[j]? = some u → w.cell? ⟨g, j, none⟩ = some u := by
  have hl := own_len h
  rcases h.2 with ⟨rfl, rfl⟩ | ⟨g, cap, cur, rfl, hb, hg, hn, hm, hsz, htake⟩
  · exact .inl ⟨rfl, rfl, List.length_eq_zero_iff.1 hl⟩
  · refine .inr ⟨g, cap, rfl, hb, (h.lt g rfl).2, hn, hm, fun j u hj => ?_⟩
    have := h.cells (g := g) rfl j u hj
    rwa [Addr.add_lit, Nat.zero_add] at this
theorem own_form {w : World} {base e : Nat} {v : Value} {n : Nat} {xs : List Value} (h : w.ownsRow base e 1 v n xs) : ∃ a c, v = .slice a n c := by
  rcases h.2 with ⟨rfl, rfl⟩ | ⟨g, cap, cur, rfl, _⟩
  · exact ⟨_, _, rfl⟩
  · exact ⟨_, _, rfl⟩

/-! ### A piece of a row, as the source of an append -/

/-- x is a slice whose elements read zs; g: the block that it lies in (none: the nil slice, or one without elements). -/
def Seg (w : World) (x : Value) (zs : List Value) (g : Option Nat) : Prop :=
  (x = .slice none 0 0 ∧ zs = []) ∨ ∃ ad c, x = .slice (some ad) zs.length c ∧ g = some ad.block ∧ ∀ j u, zs[j]? = some u → w.cell? (ad.add j) = some u
theorem Seg.kept {w w' : World} {x : Value} {zs : List Value} {g row : Option Nat} (h : Seg w x zs g) (hg : w.grownBy w' row) (hne : g = none ∨ g ≠ row) : Seg w' x zs g := by
  rcases h with h | ⟨ad, c, rfl, rfl, hc⟩
  · exact .inl h
  · refine .inr ⟨ad, c, rfl, rfl, fun j u hj => ?_⟩
    have h1 := hc j u hj
    refine hg.cell h1 ?_
    rcases hne with h2 | h2
    · cases h2
    · have e : (ad.add j).block = ad.block := by unfold Addr.add; split <;> rfl
      rw [e]
      exact h2

theorem segTo {P : Program} {t e : TypeId} {z : Value} {bytes : Nat} (E : Elem1 P t e z bytes) (hel : P.elem t = e) (hsz : ∀ W, (sizeOf e).run P W = .ok 1 W) {w : World} {base : Nat} {v : Value} {n : Nat} {xs : List Value} (hown : w.ownsRow base e 1 v n xs) (p : Nat) (hp : p ≤ n) :
    ∃ x, (∀ W, (Instr.slice t v none (some (.int .i64 (p : Int))) none).run P W = .ok x W) ∧ Seg w x (xs.take p) v.ownBlock := by
  have ht : P.underlying t = some (.slice (P.elem t)) := by rw [hel]; exact E.ht
  have hlen := own_len hown
  rcases own_open hown with ⟨rfl, rfl, rfl⟩ | ⟨g, cap, rfl, hb, hg, hn, hm, hc⟩
  · refine ⟨.slice none 0 0, fun W => ?_, .inl ⟨rfl, by simp⟩⟩
    rw [run_slice_h _ t none 0 0 ht .i64 (p : Int) (by omega) (by omega), hel, hsz W]
    have : p = 0 := by omega
    subst this
    rfl
  · refine ⟨.slice (some ⟨g, 0, none⟩) p cap, fun W => ?_, .inr ⟨⟨g, 0, none⟩, cap, by rw [List.length_take, Nat.min_eq_left (by omega)], rfl, fun j u hj => ?_⟩⟩
    · rw [run_slice_h _ t _ _ _ ht .i64 (p : Int) (by omega) (by omega), hel, hsz W]
      simp only [Result.andThen, sliced, Int.toNat_natCast, Nat.sub_zero, Nat.zero_mul]
      by_cases h0 : cap = 0
      · rw [if_pos h0]
      · rw [if_neg h0]; rfl
    · rw [Addr.add_lit, Nat.zero_add]
      rw [List.getElem?_take] at hj
      split at hj
      · exact hc j u hj
      · cases hj

theorem segFrom {P : Program} {t e : TypeId} {z : Value} {bytes : Nat} (E : Elem1 P t e z bytes) (hel : P.elem t = e) (hsz : ∀ W, (sizeOf e).run P W = .ok 1 W) {w : World} {base : Nat} {v : Value} {n : Nat} {xs : List Value} (hown : w.ownsRow base e 1 v n xs) (p : Nat) (hp : p ≤ n) :
    ∃ x, (∀ W, (Instr.slice t v (some (.int .i64 (p : Int))) none none).run P W = .ok x W) ∧ Seg w x (xs.drop p) v.ownBlock := by
  have ht : P.underlying t = some (.slice (P.elem t)) := by rw [hel]; exact E.ht
  have hlen := own_len hown
  rcases own_open hown with ⟨rfl, rfl, rfl⟩ | ⟨g, cap, rfl, hb, hg, hn, hm, hc⟩
  · refine ⟨.slice none 0 0, fun W => ?_, .inl ⟨rfl, by simp⟩⟩
    rw [run_slice_l _ t none 0 0 ht .i64 (p : Int) (by omega) (by omega), hel, hsz W]
    have : p = 0 := by omega
    subst this
    rfl
  · refine ⟨_, fun W => ?_, .inr ⟨if cap = p then ⟨g, 0, none⟩ else ⟨g, p, none⟩, cap - p, rfl, by split <;> rfl, fun j u hj => ?_⟩⟩
    · rw [run_slice_l _ t _ _ _ ht .i64 (p : Int) (by omega) (by omega), hel, hsz W]
      simp only [Result.andThen, sliced, Int.toNat_natCast, Nat.mul_one]
      rw [List.length_drop, hlen]
      by_cases h0 : cap = p
      · rw [if_pos h0, if_pos h0]
      · rw [if_neg h0, if_neg h0, Option.map_some, Addr.add_lit, Nat.zero_add]
    · have hlt : p + j < n := by
        have := (List.getElem?_eq_some_iff.1 hj).1
        rw [List.length_drop] at this
        omega
      rw [if_neg (by omega), Addr.add_lit]
      rw [List.getElem?_drop] at hj
      exact hc _ u hj

theorem own_base {w : World} {b b' e s : Nat} {v : Value} {n : Nat} {xs : List Value} (h : w.ownsRow b e s v n xs) (hb : b' ≤ b) : w.ownsRow b' e s v n xs := by
  refine ⟨h.1, ?_⟩
  rcases h.2 with hn | ⟨g, cap, cur, hv, hg, r⟩
  · exact .inl hn
  · exact .inr ⟨g, cap, cur, hv, Nat.le_trans hb hg, r⟩
theorem none_or (g : Option Nat) : g = none ∨ g ≠ (Value.slice none 0 0).ownBlock := by
  cases g with
  | none => exact .inl rfl
  | some k => exact .inr (by simp [Value.ownBlock])
/-- A row that was there lies in another block than one that was made since. -/
theorem own_far {wr w1 : World} {b e s e' s' : Nat} {v v1 : Value} {n m : Nat} {xs ys : List Value} (h : wr.ownsRow b e s v n xs) (h1 : w1.ownsRow wr.heap.size e' s' v1 m ys) : v.ownBlock = none ∨ v.ownBlock ≠ v1.ownBlock := by
  cases hv : v.ownBlock with
  | none => exact .inl rfl
  | some k =>
    refine .inr fun hk => ?_
    have := (h.lt k hv).2
    have := (h1.lt k hk.symm).1
    omega

/-- 'append(v, x...)', x a piece of a row. -/
theorem wpList_append_seg {P : Program} {t e : TypeId} {z : Value} {bytes : Nat} (E : Elem1 P t e z bytes) (w0 : World) {ops : Array Oper} {rest : List Oper} {o : Oper} {a : Act} {Q : Exit → Act → World → Prop} (hgd : o.guard = none) (s x : Operand)
    (ho : o.op = .call { callee := .builtin .append, args := #[s, x], argTypes := #[t, t] })
    (base : Nat) (v : Value) (n : Nat) (xs : List Value) (hs : a.eval s = v) (hown : w0.ownsRow base e 1 v n xs)
    (y : Value) (zs : List Value) (g : Option Nat) (hx : a.eval x = y) (hseg : Seg w0 y zs g) (h1 : ∀ u ∈ zs, u.oneCell' = true)
    (h63 : n + zs.length ≤ 140737488355328) (hbytes : (n + zs.length) * bytes ≤ 140737488355328) (hbase : base ≤ w0.heap.size)
    (h : ∀ v' w', w'.ownsRow base e 1 v' (n + zs.length) (xs ++ zs) → w0.grownBy w' v.ownBlock → wpList P ops Q rest (a.put o.dst v') w') :
    wpList P ops Q (o :: rest) a w0 := by
  obtain ⟨i, hi, hz, hsize, hby⟩ := E.hi
  rcases hseg with ⟨rfl, rfl⟩ | ⟨ad, c, rfl, rfl, hc⟩
  · refine wpList_append_own_none hgd s x t ho base e i 1 E.ht hi v n xs hs hown hx ?_
    have := h v w0 (by simpa using hown) (grown_refl _ _)
    exact this
  · exact wpList_append_own _ hgd s x t ho base e i z 1 bytes E.ht hi hz hsize hby E.hz (by decide) v n xs hs hown ad zs.length c zs hx (by omega) hc h1 (by unfold maxLen; omega) hbytes hbase
      (fun v' w' h2 h3 _ => h v' w' h2 h3)
end Go.Proofs.YtaijdjmkmhpmpaaDoor
