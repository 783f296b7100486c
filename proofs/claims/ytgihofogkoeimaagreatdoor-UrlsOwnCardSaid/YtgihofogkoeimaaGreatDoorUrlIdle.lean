/- Addresses, plain: either slash; tabs, ends of lines and blanks; a scheme's own port. -/
import Derived.Test.YtgihofogkoeimaaGreatDoorGUrl2
set_option linter.unusedVariables false
set_option linter.unusedSimpArgs false
namespace Go.Proofs.YtgihofogkoeimaaGreatDoor
/-! ### Either slash -/
def qmB (c : UInt8) : Bool := c == 63 || c == 35
def slashQ : List UInt8 → List UInt8
 | [] => []
 | c :: s => if qmB c = true then c :: s else (if c = 47 then 92 else c) :: slashQ s
theorem slashQ_len : ∀ s : List UInt8, (slashQ s).length = s.length
 | [] => rfl
 | c :: s => by
  rw [slashQ]
  split
  ·rfl
  ·rw [List.length_cons, List.length_cons, slashQ_len s]
theorem qm_facts : ∀ c : UInt8, qmB c = true → idleB c = false ∧ tabB c = false ∧ slashB c = false ∧ schB c = false ∧ c ≠ 58 := by
 intro c h
 unfold qmB at h
 simp only [Bool.or_eq_true, beq_iff_eq] at h
 rcases h with rfl | rfl <;> decide
theorem sl_facts (c : UInt8) : idleB (if c = 47 then 92 else c) = idleB c ∧ tabB (if c = 47 then 92 else c) = tabB c ∧ slashB (if c = 47 then 92 else c) = slashB c := by
 by_cases h : c = 47
 ·subst h; decide
 ·rw [if_neg h]; exact ⟨rfl, rfl, rfl⟩
theorem slashQ_drop {p : UInt8 → Bool} (hq : ∀ c, qmB c = true → p c = false) (hs : ∀ c, p (if c = 47 then 92 else c) = p c) : ∀ s : List UInt8, (slashQ s).dropWhile p = slashQ (s.dropWhile p)
 | [] => rfl
 | c :: s => by
  by_cases h : qmB c = true
  ·rw [slashQ, if_pos h, List.dropWhile_cons, if_neg (by rw [hq c h]; simp), slashQ, if_pos h]
  ·rw [slashQ, if_neg h, List.dropWhile_cons, hs c, List.dropWhile_cons]
   by_cases hp : p c = true
   ·rw [if_pos hp, if_pos hp]; exact slashQ_drop hq hs s
   ·rw [if_neg hp, if_neg hp, slashQ, if_neg h]
theorem trimR_cons (c : UInt8) (s : List UInt8) : trimR (c :: s) = if trimR s = [] ∧ idleB c = true then [] else c :: trimR s := by
 unfold trimR
 rw [List.reverse_cons, List.dropWhile_append]
 by_cases h : s.reverse.dropWhile idleB = []
 ·rw [if_pos (by rw [h]; rfl), h, List.dropWhile_cons]
  by_cases hc : idleB c = true
  ·rw [if_pos hc, if_pos ⟨rfl, hc⟩]; rfl
  ·rw [if_neg hc, if_neg (fun e => hc e.2)]; rfl
 ·rw [if_neg (by rw [List.isEmpty_iff]; exact h), if_neg (fun e => h (List.reverse_eq_nil_iff.1 e.1)), List.reverse_append]; rfl
theorem slashQ_nil {s : List UInt8} : slashQ s = [] ↔ s = [] := by
 cases s with
 | nil => exact ⟨fun _ => rfl, fun _ => rfl⟩
 | cons c s =>
  rw [slashQ]
  split <;> simp
theorem slashQ_trim : ∀ s : List UInt8, trimR (slashQ s) = slashQ (trimR s)
 | [] => rfl
 | c :: s => by
  by_cases h : qmB c = true
  ·have hi := (qm_facts c h).1
   rw [slashQ, if_pos h, trimR_cons, if_neg (by rw [hi]; simp), slashQ, if_pos h]
  ·rw [slashQ, if_neg h, trimR_cons, trimR_cons, slashQ_trim s, (sl_facts c).1]
   by_cases hc : trimR s = [] ∧ idleB c = true
   ·rw [if_pos ⟨slashQ_nil.2 hc.1, hc.2⟩, if_pos hc]; rfl
   ·rw [if_neg (fun e => hc ⟨slashQ_nil.1 e.1, e.2⟩), if_neg hc, slashQ, if_neg h]
theorem slashQ_filter : ∀ s : List UInt8, (slashQ s).filter (fun c => !tabB c) = slashQ (s.filter fun c => !tabB c)
 | [] => rfl
 | c :: s => by
  by_cases h : qmB c = true
  ·have hi := (qm_facts c h).2.1
   rw [slashQ, if_pos h, List.filter_cons, if_pos (by rw [hi]; rfl), slashQ, if_pos h]
  ·rw [slashQ, if_neg h, List.filter_cons, List.filter_cons, (sl_facts c).2.1, slashQ_filter s]
   by_cases hp : (!tabB c) = true
   ·rw [if_pos hp, if_pos hp, slashQ, if_neg h]
   ·rw [if_neg hp, if_neg hp]
theorem slashQ_dropL (s : List UInt8) : dropL (slashQ s) = slashQ (dropL s) := by
 have h1 := slashQ_drop (p := idleB) (fun c h => (qm_facts c h).1) (fun c => (sl_facts c).1) s
 have h2 := slashQ_trim (s.dropWhile idleB)
 have h3 := slashQ_filter (trimR (s.dropWhile idleB))
 unfold trimR at h2 h3
 unfold dropL
 rw [h1, h2, h3]
theorem slashQ_scheme : ∀ s : List UInt8, ((cutF 58 s).1.all schB = true → cutF 58 (slashQ s) = ((cutF 58 s).1, (cutF 58 s).2.map slashQ)) ∧ ((cutF 58 (slashQ s)).1.all schB = true → (cutF 58 s).1.all schB = true)
 | [] => ⟨fun _ => rfl, fun _ => rfl⟩
 | c :: s => by
  obtain ⟨i1, i2⟩ := slashQ_scheme s
  by_cases h58 : c = 58
  ·subst h58
   have : slashQ (58 :: s) = 58 :: slashQ s := by rw [slashQ, if_neg (by decide), if_neg (by decide)]
   rw [this, cutF, if_pos rfl, cutF, if_pos rfl]
   exact ⟨fun _ => rfl, fun _ => rfl⟩
  ·by_cases h : qmB c = true
   ·have hf := (qm_facts c h).2.2.2.1
    rw [slashQ, if_pos h, cutF, if_neg h58]
    refine ⟨fun e => ?_, id⟩
    simp only [List.all_cons, hf, Bool.false_and] at e
    cases e
   ·rw [slashQ, if_neg h]
    by_cases h47 : c = 47
    ·subst h47
     rw [if_pos rfl, cutF, if_neg (by decide), cutF, if_neg (by decide)]
     have a : schB 47 = false := by decide
     have b : schB 92 = false := by decide
     refine ⟨fun e => ?_, fun e => ?_⟩ <;> · simp only [List.all_cons, a, b, Bool.false_and] at e; cases e
    ·rw [if_neg h47, cutF, if_neg h58, cutF, if_neg h58]
     refine ⟨fun e => ?_, fun e => ?_⟩
     ·simp only [List.all_cons, Bool.and_eq_true] at e
      simp only
      rw [i1 e.2]
     ·simp only [List.all_cons, Bool.and_eq_true] at e ⊢
      exact ⟨e.1, i2 e.2⟩
theorem schemeU_none {s : List UInt8} (h : ¬ (cutF 58 s).1.all schB = true) : schemeU s = none := by
 unfold schemeU
 cases e : cutF 58 s with
 | mk a o =>
  cases o with
  | none => rfl
  | some b =>
   rw [e] at h
   simp only at h ⊢
   rw [if_neg (by simp only [Bool.and_eq_true]; exact fun q => h q.1)]
theorem slashQ_sch (s : List UInt8) : schemeU (slashQ s) = (schemeU s).map fun x => (x.1, slashQ x.2) := by
 obtain ⟨h1, h2⟩ := slashQ_scheme s
 unfold schemeU
 by_cases h : (cutF 58 s).1.all schB = true
 ·rw [h1 h]
  cases e : cutF 58 s with
  | mk a o =>
   cases o with
   | none => rfl
   | some b =>
    simp only [Option.map_some]
    split <;> rfl
 ·have h' : ¬ (cutF 58 (slashQ s)).1.all schB = true := fun e => h (h2 e)
  show schemeU (slashQ s) = (schemeU s).map fun x => (x.1, slashQ x.2)
  rw [schemeU_none h, schemeU_none h']; rfl
theorem slashQ_cut {c0 : UInt8} (h0 : qmB c0 = true) : ∀ s : List UInt8, cutF c0 (slashQ s) = (slashQ (cutF c0 s).1, (cutF c0 s).2)
 | [] => rfl
 | c :: s => by
  by_cases h : qmB c = true
  ·rw [slashQ, if_pos h, cutF]
   by_cases hc : c = c0
   ·rw [if_pos hc]; rfl
   ·rw [if_neg hc, slashQ, if_pos h]
  ·have hc : c ≠ c0 := fun e => h (e ▸ h0)
   have hc' : (if c = 47 then 92 else c) ≠ c0 := by
    by_cases h47 : c = 47
    ·rw [if_pos h47]; intro e; rw [← e] at h0; revert h0; decide
    ·rw [if_neg h47]; exact hc
   rw [slashQ, if_neg h, cutF, if_neg hc', cutF, if_neg hc, slashQ_cut h0 s, slashQ, if_neg h]
theorem slashQ_end (u : UrlL) (s : List UInt8) : endU u (slashQ s) = ((endU u s).1, slashQ (endU u s).2) := by
 unfold endU
 simp only
 rw [slashQ_cut (c0 := 35) (by decide), slashQ_cut (c0 := 63) (by decide)]
theorem slashQ_flat : ∀ s : List UInt8, flatS (slashQ s) = flatS s
 | [] => rfl
 | c :: s => by
  rw [slashQ]
  split
  ·rfl
  ·have ih := slashQ_flat s
   unfold flatS at ih ⊢
   rw [List.map_cons, List.map_cons, ih]
   by_cases h : c = 47
   ·subst h; rfl
   ·rw [if_neg h]
theorem slashQ_take : ∀ s : List UInt8, (slashQ s).takeWhile (fun c => !slashB c) = s.takeWhile (fun c => !slashB c) ∧ flatS ((slashQ s).dropWhile (fun c => !slashB c)).tail = flatS (s.dropWhile (fun c => !slashB c)).tail
 | [] => ⟨rfl, rfl⟩
 | c :: s => by
  by_cases h : qmB c = true
  ·rw [slashQ, if_pos h]; exact ⟨rfl, rfl⟩
  ·obtain ⟨i1, i2⟩ := slashQ_take s
   rw [slashQ, if_neg h, List.takeWhile_cons, List.takeWhile_cons, List.dropWhile_cons, List.dropWhile_cons, (sl_facts c).2.2]
   by_cases hs : slashB c = true
   ·rw [hs]
    exact ⟨rfl, slashQ_flat s⟩
   ·have hs : slashB c = false := by simpa using hs
    rw [hs]
    have hc : c ≠ 47 := fun e => by rw [e] at hs; cases hs
    simp only [Bool.not_false, if_true]
    rw [if_neg hc, i1]
    exact ⟨rfl, i2⟩
theorem slashQ_place (u : UrlL) (s : List UInt8) : placeU u (slashQ s) = placeU u s := by
 obtain ⟨h1, h2⟩ := slashQ_take s
 have h3 : ∀ a b : List UInt8, flatS a = flatS b → pathL [] a = pathL [] b := fun a b h => by unfold pathL slashP; rw [h]
 unfold placeU
 simp only
 rw [h1, h3 _ _ h2]
theorem slashes_law (s : List UInt8) : parseU (slashQ s) zeroU false = parseU s zeroU false := by
 unfold parseU
 rw [slashQ_len]
 split
 ·rfl
 ·rw [if_neg (by simp), if_neg (by simp)]
  unfold readU
  rw [slashQ_len, slashQ_dropL]
  split
  ·rfl
  ·unfold schU
   rw [slashQ_sch]
   cases schemeU (dropL s) with
   | none => rfl
   | some x =>
    obtain ⟨c, r⟩ := x
    simp only [Option.map_some]
    by_cases hc : ownP c = 0
    ·rw [if_pos hc, if_pos hc]
    ·rw [if_neg hc, if_neg hc]
     simp only [Bool.not_false, Bool.true_or, if_true]
     rw [slashQ_end, slashQ_drop (p := slashB) (fun c h => (qm_facts c h).2.2.1) (fun c => (sl_facts c).2.2), slashQ_place]
/-! ### What does not count -/
theorem parse_eq {s t : List UInt8} (hs : s.length ≤ 4096) (ht : t.length ≤ 4096) (h : dropL s = dropL t) (base : UrlL) (has : Bool) : parseU s base has = parseU t base has := by
 have e : readU s base has = readU t base has := by
  unfold readU
  rw [if_neg (show ¬ 4096 < s.length by omega), if_neg (show ¬ 4096 < t.length by omega), h]
 unfold parseU
 rw [if_neg (show ¬ 4096 < s.length by omega), if_neg (show ¬ 4096 < t.length by omega), e]
theorem idle_ends {a s b : List UInt8} (ha : ∀ c ∈ a, idleB c = true) (hb : ∀ c ∈ b, idleB c = true) : dropL (a ++ s ++ b) = dropL s := by
 have pre : ∀ (a x : List UInt8), (∀ c ∈ a, idleB c = true) → (a ++ x).dropWhile idleB = x.dropWhile idleB := fun a => by
  induction a with
  | nil => intro x _; rfl
  | cons c a ih =>
   intro x h
   rw [List.cons_append, List.dropWhile_cons, if_pos (h c List.mem_cons_self), ih x (fun d hd => h d (List.mem_cons_of_mem _ hd))]
 unfold dropL
 rw [List.append_assoc, pre a _ ha, List.dropWhile_append]
 by_cases h : (s.dropWhile idleB).isEmpty = true
 ·rw [if_pos h]
  have e : b.dropWhile idleB = [] := by
   have := pre b [] hb
   rw [List.append_nil] at this; exact this
  rw [e, List.isEmpty_iff.1 h]
 ·rw [if_neg h, List.reverse_append, pre b.reverse _ (fun c hc => hb c (List.mem_reverse.1 hc))]
theorem filter_drop : ∀ {t : List UInt8}, (∀ x r, t.filter (fun c => !tabB c) = x :: r → idleB x = false) → (t.dropWhile idleB).filter (fun c => !tabB c) = t.filter fun c => !tabB c
 | [], _ => rfl
 | c :: t, h => by
  rw [List.dropWhile_cons]
  by_cases hc : idleB c = true
  ·rw [if_pos hc]
   by_cases ht : tabB c = true
   ·have e : (c :: t).filter (fun c => !tabB c) = t.filter (fun c => !tabB c) := by rw [List.filter_cons, if_neg (by rw [ht]; simp)]
    rw [e] at h ⊢
    exact filter_drop h
   ·have e : (c :: t).filter (fun c => !tabB c) = c :: t.filter (fun c => !tabB c) := by rw [List.filter_cons, if_pos (by simpa using ht)]
    have := h c _ e
    rw [hc] at this; cases this
  ·rw [if_neg hc]
theorem idle_mid {t : List UInt8} (h1 : ∀ x r, t.filter (fun c => !tabB c) = x :: r → idleB x = false) (h2 : ∀ x r, t.filter (fun c => !tabB c) = r ++ [x] → idleB x = false) : dropL t = t.filter fun c => !tabB c := by
 have e1 := filter_drop h1
 have e2 : ((t.dropWhile idleB).reverse.dropWhile idleB).filter (fun c => !tabB c) = ((t.dropWhile idleB).reverse).filter fun c => !tabB c :=
  filter_drop fun x r h => by
   rw [List.filter_reverse, e1] at h
   refine h2 x r.reverse ?_
   rw [← List.reverse_reverse (t.filter fun c => !tabB c), h, List.reverse_cons]
 unfold dropL
 rw [List.filter_reverse, e2, List.filter_reverse, List.reverse_reverse, e1]
def innerB (s : List UInt8) : Bool := match s.head?, s.getLast? with | some a, some b => decide (32 < a.toNat) && decide (32 < b.toNat) | _, _ => true
theorem inner_drop {s t : List UInt8} (hi : innerB s = true) (h : t.filter (fun c => !tabB c) = s.filter fun c => !tabB c) : dropL t = dropL s := by
 have big : ∀ c : UInt8, 32 < c.toNat → tabB c = false ∧ idleB c = false := fun c hc => by
  have e : ∀ d : UInt8, d.toNat ≤ 32 → (c == d) = false := fun d hd => beq_eq_false_iff_ne.2 fun q => by rw [q] at hc; omega
  unfold tabB idleB
  rw [e 9 (by decide), e 10 (by decide), e 13 (by decide)]
  exact ⟨rfl, decide_eq_false (by omega)⟩
 have key : (∀ x r, s.filter (fun c => !tabB c) = x :: r → idleB x = false) ∧ (∀ x r, s.filter (fun c => !tabB c) = r ++ [x] → idleB x = false) := by
  by_cases h0 : s = []
  ·subst h0
   exact ⟨fun x r e => (by cases e), fun x r e => (by have := congrArg List.length e; simp at this)⟩
  ·obtain ⟨a, ra, ea⟩ := List.exists_cons_of_ne_nil h0
   obtain ⟨rb, b, eb⟩ : ∃ r b, s = r ++ [b] := ⟨s.dropLast, s.getLast h0, (List.dropLast_concat_getLast h0).symm⟩
   have hab : 32 < a.toNat ∧ 32 < b.toNat := by
    have e1 : s.head? = some a := by rw [ea]; rfl
    have e2 : s.getLast? = some b := by rw [eb]; simp
    unfold innerB at hi
    rw [e1, e2] at hi
    simpa using hi
   refine ⟨fun x r e => ?_, fun x r e => ?_⟩
   ·rw [ea, List.filter_cons, if_pos (by rw [(big a hab.1).1]; rfl)] at e
    injection e with e1 e2
    rw [← e1]; exact (big a hab.1).2
   ·rw [eb, List.filter_append, List.filter_cons, if_pos (by rw [(big b hab.2).1]; rfl)] at e
    have := List.append_inj_right' e rfl
    simp only [List.filter_nil, List.cons.injEq, and_true] at this
    rw [← this]; exact (big b hab.2).2
 have k1 := idle_mid key.1 key.2
 rw [← h] at key
 rw [idle_mid key.1 key.2, h, k1]
def putAt (t x : List UInt8) (k : Nat) : List UInt8 := t.take k ++ x ++ t.drop k
theorem putAt_filter {t x : List UInt8} (k : Nat) (hx : ∀ c ∈ x, tabB c = true) : (putAt t x k).filter (fun c => !tabB c) = t.filter fun c => !tabB c := by
 have e : x.filter (fun c => !tabB c) = [] := List.filter_eq_nil_iff.2 fun c hc => by rw [hx c hc]; simp
 unfold putAt
 rw [List.filter_append, List.filter_append, e, List.append_nil, ← List.filter_append, List.take_append_drop]
theorem putAt_len (t x : List UInt8) (k : Nat) : (putAt t x k).length = t.length + x.length := by
 unfold putAt
 have := congrArg List.length (List.take_append_drop k t)
 rw [List.length_append] at this
 rw [List.length_append, List.length_append]; omega
/-! ### A scheme's own port -/
theorem numV_zero (d : List UInt8) : numV (48 :: d) = numV d := rfl
theorem own_law {u : UrlL} (hg : GoodU u) {sch d : List UInt8} (hsch : sch = httpB ∨ sch = httpsB) (hd : d.all numCB = true) (hl : d.length ≤ 30) :
  parseU (sch ++ [58, 47, 47] ++ u.host ++ [58, 48, 48] ++ d ++ [47]) zeroU false = if 65535 < numV d then .error 4 else .ok { zeroU with scheme := sch, host := u.host, port := if numV d = ownP sch then -1 else (numV d : Int), path := [47] } := by
 have hlen := hg.hlen
 have hsl : sch.length ≤ 5 := by rcases hsch with e | e <;> rw [e] <;> decide
 have hs := hg.host.sign
 have hdig : ∀ c ∈ d, 48 ≤ c.toNat ∧ c.toNat ≤ 57 := fun c hc => by
  have := List.all_eq_true.1 hd c hc
  simp only [numCB, Bool.and_eq_true, decide_eq_true_eq] at this
  exact this
 have ne : ∀ {c e : UInt8}, c.toNat ≠ e.toNat → c ≠ e := fun h q => h (by rw [q])
 have hA : ∀ c ∈ u.host ++ 58 :: 48 :: 48 :: d, 32 < c.toNat ∧ c ≠ 35 ∧ c ≠ 63 ∧ c ≠ 64 ∧ c ≠ 47 ∧ c ≠ 92 := fun c hc => by
  rcases List.mem_append.1 hc with hc | hc
  ·have := hs c hc
   exact ⟨this.1, this.2.1, this.2.2.2.1, this.2.2.2.2.1, this.2.2.1, this.2.2.2.2.2⟩
  ·rcases List.mem_cons.1 hc with rfl | hc
   ·decide
   ·rcases List.mem_cons.1 hc with rfl | hc
    ·decide
    ·rcases List.mem_cons.1 hc with rfl | hc
     ·decide
     ·have := hdig c hc
      exact ⟨by omega, ne (by show c.toNat ≠ 35; omega), ne (by show c.toNat ≠ 63; omega), ne (by show c.toNat ≠ 64; omega), ne (by show c.toNat ≠ 47; omega), ne (by show c.toNat ≠ 92; omega)⟩
 have hshape : sch ++ [58, 47, 47] ++ u.host ++ [58, 48, 48] ++ d ++ [47] = sch ++ 58 :: (47 :: 47 :: ((u.host ++ 58 :: 48 :: 48 :: d) ++ 47 :: [])) := by simp
 have hall : ∀ c ∈ sch ++ 58 :: (47 :: 47 :: ((u.host ++ 58 :: 48 :: 48 :: d) ++ 47 :: [])), 32 < c.toNat := fun c hc => by
  rcases List.mem_append.1 hc with hc | hc
  ·have h1 : ∀ c ∈ httpB, 32 < c.toNat := by decide
   have h2 : ∀ c ∈ httpsB, 32 < c.toNat := by decide
   rcases hsch with e | e
   ·rw [e] at hc; exact h1 c hc
   ·rw [e] at hc; exact h2 c hc
  ·rcases List.mem_cons.1 hc with rfl | hc
   ·decide
   ·rcases List.mem_cons.1 hc with rfl | hc
    ·decide
    ·rcases List.mem_cons.1 hc with rfl | hc
     ·decide
     ·rcases List.mem_append.1 hc with hc | hc
      ·exact (hA c hc).1
      ·rw [List.mem_singleton] at hc; subst hc; decide
 have hcut : ∀ c0 : UInt8, c0 = 35 ∨ c0 = 63 → c0 ∉ 47 :: 47 :: ((u.host ++ 58 :: 48 :: 48 :: d) ++ 47 :: []) := fun c0 h0 hc => by
  have n47 : c0 ≠ 47 := by rcases h0 with rfl | rfl <;> decide
  rcases List.mem_cons.1 hc with e | hc
  ·exact n47 e
  ·rcases List.mem_cons.1 hc with e | hc
   ·exact n47 e
   ·rcases List.mem_append.1 hc with hc | hc
    ·have := hA c0 hc
     rcases h0 with rfl | rfl
     ·exact this.2.1 rfl
     ·exact this.2.2.1 rfl
    ·rw [List.mem_singleton] at hc; exact n47 hc
 obtain ⟨td1, td2⟩ := take_drop_app (a := u.host ++ 58 :: 48 :: 48 :: d) (p := fun c => !slashB c) (r := []) (x := 47) (fun c hc => by have := hA c hc; unfold slashB; simp [this.2.2.2.2.1, this.2.2.2.2.2]) rfl
 have hhead : ((u.host ++ 58 :: 48 :: 48 :: d) ++ 47 :: []).dropWhile slashB = (u.host ++ 58 :: 48 :: 48 :: d) ++ 47 :: [] := by
  cases hh : u.host with
  | nil => exact absurd hh hg.host.ne
  | cons x a =>
   have := hs x (by rw [hh]; exact List.mem_cons_self)
   rw [List.cons_append, List.cons_append, List.dropWhile_cons, if_neg]
   unfold slashB
   simp [this.2.2.1, this.2.2.2.2.2]
 have hplace : ∀ v : UrlL, v.scheme = sch → placeU v ((u.host ++ 58 :: 48 :: 48 :: d) ++ 47 :: []) = if 65535 < numV d then .error 4 else .ok { v with user := [], pass := [], host := u.host, port := if numV d = ownP sch then -1 else (numV d : Int), path := [47] } := fun v hv => by
  unfold placeU
  simp only
  have e64 : userU (u.host ++ 58 :: 48 :: 48 :: d) = (([], []), u.host ++ 58 :: 48 :: 48 :: d) := by
   unfold userU
   rw [cutB_none (fun hc => (hA _ hc).2.2.2.1 rfl)]
  rw [td1, td2, e64]
  simp only
  rw [hg.host.colon, colonF, if_pos ⟨rfl, rfl⟩]
  simp only [List.append_nil]
  rw [hg.host.again]
  simp only
  have ep : portU v.scheme (48 :: 48 :: d) = if 65535 < numV d then none else some (if numV d = ownP sch then -1 else (numV d : Int)) := by
   unfold portU
   have ea : (48 :: 48 :: d).all numCB = true := by rw [List.all_cons, List.all_cons, hd]; decide
   rw [ea, numV_zero, numV_zero, hv]
   by_cases hn : 65535 < numV d
   ·rw [if_pos hn, if_neg (by simp; omega)]
   ·rw [if_neg hn, if_pos (by simp; omega)]
    by_cases ho : numV d = ownP sch
    ·rw [if_pos ho, if_pos (.inr ho)]
    ·rw [if_neg ho, if_neg (by rintro (q | q); exact absurd q (by simp); exact ho q)]
  rw [ep]
  by_cases hn : 65535 < numV d
  ·rw [if_pos hn, if_pos hn]
  ·rw [if_neg hn, if_neg hn]
   have : pathL [] ((47 : UInt8) :: []).tail = [47] := by decide +kernel
   simp only
   rw [this]
 unfold parseU
 rw [if_neg (by simp only [List.length_append, List.length_cons, List.length_nil]; omega), if_neg (by simp)]
 unfold readU
 rw [if_neg (by simp only [List.length_append, List.length_cons, List.length_nil]; omega), hshape, dropL_id hall]
 unfold schU
 rw [scheme_text hsch]
 simp only
 rw [if_neg (ownP_ne hsch)]
 simp only [Bool.not_false, Bool.true_or, if_true]
 have he : ∀ u0 : UrlL, endU u0 (47 :: 47 :: ((u.host ++ 58 :: 48 :: 48 :: d) ++ 47 :: [])) = ({ u0 with mark := [], hasM := false, query := [], hasQ := false }, 47 :: 47 :: ((u.host ++ 58 :: 48 :: 48 :: d) ++ 47 :: [])) := fun u0 => by
  unfold endU
  simp only
  rw [cutF_none (hcut 35 (.inl rfl))]
  simp only
  rw [cutF_none (hcut 63 (.inr rfl))]; rfl
 rw [he]
 simp only
 rw [List.dropWhile_cons, if_pos (by rfl), List.dropWhile_cons, if_pos (by rfl), hhead, hplace _ rfl]
 by_cases hn : 65535 < numV d
 ·rw [if_pos hn, if_pos hn]
 ·rw [if_neg hn, if_neg hn]
  simp only
  rw [if_neg]
  ·rfl
  ·refine Nat.not_lt.2 (Nat.le_trans (text_sum _) ?_)
   simp only [zeroU, List.length_nil, List.length_cons]
   omega
end Go.Proofs.YtgihofogkoeimaaGreatDoor
