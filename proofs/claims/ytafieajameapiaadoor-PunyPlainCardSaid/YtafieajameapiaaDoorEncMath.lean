/- Encoding in few letters, plain: the passes, their bounds; the sorted distinct signs. -/
import Derived.Test.YtafieajameapiaaDoorTell
import Derived.Lib.SlicesCompact
set_option linter.unusedVariables false
set_option linter.unusedSimpArgs false
namespace Go.Proofs.YtafieajameapiaaDoor

theorem toldL_le : ∀ (j n b k : Nat), n < 2 ^ j → (toldL n b k).length ≤ j + 1
  | 0, n, b, k, h => by
    have hb := bnd_bd b k
    rw [told_last (by simp at h; omega)]; simp
  | j + 1, n, b, k, h => by
    have hb := bnd_bd b k
    by_cases hl : n < bnd b k
    · rw [told_last hl]; simp
    · rw [told_more (by omega), List.length_cons]
      have h1 : (n - bnd b k) / (36 - bnd b k) ≤ n / 2 := Nat.le_trans (Nat.div_le_div_left (by omega) (by omega)) (Nat.div_le_div_right (by omega))
      have := toldL_le j ((n - bnd b k) / (36 - bnd b k)) b (k + 36) (by rw [Nat.pow_succ] at h; omega)
      omega
theorem toldL_bd {n b k : Nat} (h : n ≤ 8589934592) : (toldL n b k).length ≤ 35 := toldL_le 34 n b k (by omega)

/-- The state of the encoding. -/
structure ES where
  b : Nat
  n : Nat
  many : Nat
  out : List UInt8

def stepS (m p : Nat) (st : ES) (c : Nat) : ES :=
  if c < m then ⟨st.b, st.n + 1, st.many, st.out⟩ else if c = m then ⟨nextL st.n (st.many + 1) (decide (st.many = p)), 0, st.many + 1, st.out ++ toldL st.n st.b 36⟩ else st
def passS (m p : Nat) (pre : List Nat) (st : ES) : ES := pre.foldl (stepS m p) st
theorem passS_cons (m p c : Nat) (pre : List Nat) (st : ES) : passS m p (c :: pre) st = passS m p pre (stepS m p st c) := rfl
theorem passS_snoc (m p c : Nat) (pre : List Nat) (st : ES) : passS m p (pre ++ [c]) st = stepS m p (passS m p pre st) c := by simp [passS]

structure PassOk (st0 st : ES) (m : Nat) (pre : List Nat) : Prop where
  b : st.b ≤ 288
  n : st.n ≤ st0.n + pre.length
  n0 : m ∈ pre → st.n ≤ pre.length
  many : st.many = st0.many + pre.count m
  out : st.out.length + 35 * st0.many ≤ st0.out.length + 35 * st.many

theorem stepS_ok (m p c : Nat) (st : ES) (hb : st.b ≤ 288) (hn : st.n ≤ 8589934592) : PassOk st (stepS m p st c) m [c] := by
  unfold stepS
  split
  · rename_i h
    exact ⟨hb, by simp, fun hm => by simp at hm; omega, by simp [List.count_cons]; omega, by simp⟩
  · split
    · rename_i h
      subst h
      have := toldL_bd (b := st.b) (k := 36) hn
      exact ⟨nextL_le _ _ _ hn, by simp, fun _ => by simp, by simp, by simp; omega⟩
    · rename_i h h'
      exact ⟨hb, by simp, fun hm => by simp at hm; omega, by simp [List.count_cons]; omega, by simp⟩
theorem passS_ok (m p : Nat) : ∀ (pre : List Nat) (st : ES), st.b ≤ 288 → st.n + pre.length ≤ 8589934592 → PassOk st (passS m p pre st) m pre
  | [], st, hb, _ => ⟨hb, by simp [passS], fun h => by simp at h, by simp [passS], by simp [passS]⟩
  | c :: pre, st, hb, hn => by
    simp only [List.length_cons] at hn
    have h1 := stepS_ok m p c st hb (by omega)
    have hn1 := h1.n
    simp only [List.length_singleton] at hn1
    have h2 := passS_ok m p pre (stepS m p st c) h1.b (by omega)
    rw [passS_cons]
    refine ⟨h2.b, by have := h2.n; simp only [List.length_cons]; omega, fun hm => ?_, ?_, by have := h1.out; have := h2.out; omega⟩
    · simp only [List.mem_cons] at hm
      simp only [List.length_cons]
      by_cases h : m ∈ pre
      · have := h2.n0 h; omega
      · have hc : m = c := hm.resolve_right h
        have := h1.n0 (by simp [hc])
        simp only [List.length_singleton] at this
        have := h2.n
        have h0 : (stepS m p st c).n = 0 := by unfold stepS; rw [if_neg (by omega), if_pos hc.symm]
        omega
    · have e1 : (c :: pre).count m = pre.count m + if (c == m) = true then 1 else 0 := List.count_cons
      have e2 : [c].count m = if (c == m) = true then 1 else 0 := by rw [List.count_cons]; simp
      rw [h2.many, h1.many, e1, e2]; omega

/-- One sign's pass, the book-keeping behind it and all: (the last sign, the state). -/
def outS (R : List Nat) (p : Nat) (x : Nat × ES) (m : Nat) : Nat × ES :=
  (m + 1, ⟨(passS m p R ⟨x.2.b, x.2.n + (m - x.1) * (x.2.many + 1), x.2.many, x.2.out⟩).b, (passS m p R ⟨x.2.b, x.2.n + (m - x.1) * (x.2.many + 1), x.2.many, x.2.out⟩).n + 1,
    (passS m p R ⟨x.2.b, x.2.n + (m - x.1) * (x.2.many + 1), x.2.many, x.2.out⟩).many, (passS m p R ⟨x.2.b, x.2.n + (m - x.1) * (x.2.many + 1), x.2.many, x.2.out⟩).out⟩)
def runS (R : List Nat) (p : Nat) (ms : List Nat) (x : Nat × ES) : Nat × ES := ms.foldl (outS R p) x
theorem runS_snoc (R : List Nat) (p m : Nat) (ms : List Nat) (x : Nat × ES) : runS R p (ms ++ [m]) x = outS R p (runS R p ms x) m := by simp [runS]

/-- What holds between two passes. -/
structure OutOk (R : List Nat) (p : Nat) (x : Nat × ES) (rest : List Nat) : Prop where
  lo : 128 ≤ x.1
  hi : x.1 ≤ 1114112
  sorted : rest.Pairwise (· < ·)
  mem : ∀ m ∈ rest, m ∈ R ∧ x.1 ≤ m ∧ m ≤ 1114111
  compl : ∀ c ∈ R, x.1 ≤ c → c ∈ rest
  b : x.2.b ≤ 288
  n : x.2.n ≤ R.length + 1
  many : x.2.many = R.countP (· < x.1)
  plain : p ≤ x.2.many
  out : x.2.out.length ≤ 35 * x.2.many + 1

theorem countP_split (a m : Nat) (h : a ≤ m) : ∀ R : List Nat, (∀ c ∈ R, a ≤ c → m ≤ c) → R.countP (· < m + 1) = R.countP (· < a) + R.count m
  | [], _ => rfl
  | c :: R, hc => by
    have ih := countP_split a m h R (fun c hm => hc c (List.mem_cons_of_mem _ hm))
    have h1 := hc c List.mem_cons_self
    rw [List.countP_cons, List.countP_cons, List.count_cons, ih]
    by_cases h2 : c < a
    · have h3 : c < m + 1 := by omega
      have h4 : ¬ c = m := by omega
      simp [h2, h3, h4]; omega
    · have h5 := h1 (by omega)
      by_cases h6 : c = m
      · subst h6
        have h4 : ¬ c < a := h2
        simp [h4]; omega
      · have h3 : ¬ c < m + 1 := by omega
        simp [h2, h3, h6]

/-- The bounds of a pass. -/
theorem OutOk.start_n {R : List Nat} {p : Nat} {x : Nat × ES} {m : Nat} {rest : List Nat} (h : OutOk R p x (m :: rest)) (hR : R.length ≤ 7000) :
    (m - x.1) * (x.2.many + 1) ≤ 7798994983 ∧ x.2.many ≤ 7000 ∧ x.2.n ≤ 7001 ∧ x.1 ≤ m ∧ m ≤ 1114111 := by
  have hm := h.mem m List.mem_cons_self
  have h1 : x.2.many ≤ R.length := by rw [h.many]; exact List.countP_le_length
  have h2 := Nat.mul_le_mul (show m - x.1 ≤ 1113983 by have := h.lo; omega) (show x.2.many + 1 ≤ 7001 by omega)
  have := h.n
  exact ⟨h2, by omega, by omega, hm.2.1, hm.2.2⟩
theorem OutOk.pass {R : List Nat} {p : Nat} {x : Nat × ES} {m : Nat} {rest : List Nat} (h : OutOk R p x (m :: rest)) (hR : R.length ≤ 7000) (pre post : List Nat) (e : R = pre ++ post) :
    PassOk ⟨x.2.b, x.2.n + (m - x.1) * (x.2.many + 1), x.2.many, x.2.out⟩ (passS m p pre ⟨x.2.b, x.2.n + (m - x.1) * (x.2.many + 1), x.2.many, x.2.out⟩) m pre := by
  obtain ⟨h1, h2, h3, _⟩ := h.start_n hR
  refine passS_ok m p pre _ h.b ?_
  have : pre.length ≤ R.length := by rw [e]; simp
  show x.2.n + (m - x.1) * (x.2.many + 1) + pre.length ≤ _
  omega
/-- .. in numbers. -/
theorem OutOk.pass_bd {R : List Nat} {p : Nat} {x : Nat × ES} {m : Nat} {rest : List Nat} (h : OutOk R p x (m :: rest)) (hR : R.length ≤ 7000) (pre post : List Nat) (e : R = pre ++ post) {st : ES}
    (hst : passS m p pre ⟨x.2.b, x.2.n + (m - x.1) * (x.2.many + 1), x.2.many, x.2.out⟩ = st) : st.b ≤ 288 ∧ st.n ≤ 7799009984 ∧ st.many ≤ 7000 ∧ p ≤ st.many ∧ st.out.length ≤ 245001 := by
  have hp := h.pass hR pre post e
  rw [hst] at hp
  obtain ⟨h1, h2, h3, h4, h5⟩ := h.start_n hR
  have hl : pre.length ≤ R.length := by rw [e]; simp
  have hn := hp.n
  have hm := hp.many
  have ho := hp.out
  have hpl := h.plain
  have hxo := h.out
  simp only at hn hm ho
  have hc : pre.count m ≤ R.count m := by rw [e, List.count_append]; omega
  have hk := countP_split x.1 m h4 R (fun c hc hx => by
    have := h.compl c hc hx
    rcases List.mem_cons.1 this with h6 | h6
    · omega
    · exact Nat.le_of_lt ((List.pairwise_cons.1 h.sorted).1 c h6))
  have hk2 : R.countP (· < m + 1) ≤ R.length := List.countP_le_length
  have hx := h.many
  exact ⟨hp.b, by omega, by omega, by omega, by omega⟩

theorem OutOk.next {R : List Nat} {p : Nat} {x : Nat × ES} {m : Nat} {rest : List Nat} (h : OutOk R p x (m :: rest)) (hR : R.length ≤ 7000) : OutOk R p (outS R p x m) rest := by
  have hp := h.pass hR R [] (by simp)
  obtain ⟨h1, h2, h3, h4, h5⟩ := h.start_n hR
  have hm := h.mem m List.mem_cons_self
  have hs := List.pairwise_cons.1 h.sorted
  have hge : ∀ c ∈ R, x.1 ≤ c → m ≤ c := fun c hc hx => by
    rcases List.mem_cons.1 (h.compl c hc hx) with h6 | h6
    · omega
    · exact Nat.le_of_lt (hs.1 c h6)
  have hk := countP_split x.1 m h4 R hge
  have hmany := hp.many
  have ho := hp.out
  have hxo := h.out
  have hx := h.many
  have hn := hp.n0 hm.1
  have hpl := h.plain
  simp only at hmany ho
  refine ⟨?_, ?_, hs.2, fun k hk => ⟨(h.mem k (List.mem_cons_of_mem _ hk)).1, hs.1 k hk, (h.mem k (List.mem_cons_of_mem _ hk)).2.2⟩, fun c hc hx' => ?_, hp.b, ?_, ?_, ?_, ?_⟩
  · show 128 ≤ m + 1
    have := h.lo; omega
  · show m + 1 ≤ _
    omega
  · have hx'' : m + 1 ≤ c := hx'
    rcases List.mem_cons.1 (h.compl c hc (by omega)) with h6 | h6
    · omega
    · exact h6
  · show _ + 1 ≤ R.length + 1
    omega
  · show _ = R.countP (· < m + 1)
    rw [hk, ← hx]; exact hmany
  · show p ≤ _
    show p ≤ (passS m p R _).many
    omega
  · show (passS m p R _).out.length ≤ 35 * (passS m p R _).many + 1
    omega
theorem OutOk.done {R : List Nat} {p : Nat} {x : Nat × ES} (h : OutOk R p x []) : x.2.many = R.length := by
  rw [h.many, List.countP_eq_length]
  intro c hc
  have := h.compl c hc
  simp at this ⊢
  omega
theorem OutOk.more {R : List Nat} {p : Nat} {x : Nat × ES} {m : Nat} {rest : List Nat} (h : OutOk R p x (m :: rest)) : x.2.many < R.length := by
  have hm := h.mem m List.mem_cons_self
  have h1 : R.countP (· < x.1) ≤ R.length := List.countP_le_length
  rw [h.many]
  rcases Nat.lt_or_ge (R.countP (· < x.1)) R.length with h2 | h2
  · exact h2
  · have := List.countP_eq_length.1 (Nat.le_antisymm h1 h2) m hm.1
    simp at this
    omega

/-- The plain signs, and what the text begins with. -/
def plainB (R : List Nat) : List UInt8 := (R.filter (· < 128)).map UInt8.ofNat
def startOut (R : List Nat) : List UInt8 := plainB R ++ if 0 < (plainB R).length then [45] else []
def start (R : List Nat) : Nat × ES := (128, ⟨72, 0, (plainB R).length, startOut R⟩)
def othersI (R : List Nat) : List Int := (R.filter (128 ≤ ·)).map Int.ofNat
def sortedI (R : List Nat) : List Int := (othersI R).mergeSort fun x y => decide (x ≤ y)
def msI (R : List Nat) : List Int := Lib.compact (sortedI R)
def msN (R : List Nat) : List Nat := (msI R).map Int.toNat
def encR (R : List Nat) : List UInt8 := (runS R (plainB R).length (msN R) (start R)).2.out

theorem compact_sorted (d : Array Int) (hd : ∀ i j, i ≤ j → j < d.size → d[i]! ≤ d[j]!) : ∀ m, m ≤ d.size → (Lib.compactUpTo d m).Pairwise (· < ·) ∧ ∀ x, x ∈ Lib.compactUpTo d m ↔ ∃ j, j < m ∧ d[j]! = x
  | 0, _ => ⟨by simp [Lib.compactUpTo], fun x => by simp [Lib.compactUpTo]⟩
  | m + 1, hm => by
    obtain ⟨h1, h2⟩ := compact_sorted d hd m (by omega)
    rw [Lib.compactUpTo_succ]
    by_cases hk : Lib.keeps d m = true
    · rw [if_pos hk]
      refine ⟨List.pairwise_append.2 ⟨h1, List.pairwise_singleton _ _, fun x hx y hy => ?_⟩, fun x => ?_⟩
      · obtain ⟨j, hj, rfl⟩ := (h2 x).1 hx
        rw [List.mem_singleton.1 hy]
        have ha := hd j (m - 1) (by omega) (by omega)
        have hb := hd (m - 1) m (by omega) (by omega)
        have hc : d[m]! ≠ d[m - 1]! := fun e => by rw [Lib.keeps_neg (by omega) e] at hk; cases hk
        omega
      · rw [List.mem_append, h2, List.mem_singleton]
        refine ⟨fun h => ?_, fun ⟨j, hj, e⟩ => ?_⟩
        · rcases h with ⟨j, hj, e⟩ | e
          · exact ⟨j, by omega, e⟩
          · exact ⟨m, by omega, e.symm⟩
        · rcases Nat.lt_or_ge j m with h | h
          · exact .inl ⟨j, h, e⟩
          · have : j = m := by omega
            exact .inr (by rw [← e, this])
    · rw [if_neg hk, List.append_nil]
      refine ⟨h1, fun x => ?_⟩
      rw [h2]
      refine ⟨fun ⟨j, hj, e⟩ => ⟨j, by omega, e⟩, fun ⟨j, hj, e⟩ => ?_⟩
      rcases Nat.lt_or_ge j m with h | h
      · exact ⟨j, h, e⟩
      · have hjm : j = m := by omega
        subst hjm
        have h0 : 0 < j := Nat.pos_of_ne_zero (fun e0 => hk (Lib.keeps_lt_one d j (by omega)))
        have hee : d[j]! = d[j - 1]! := Classical.byContradiction fun hne => hk (Lib.keeps_pos hne)
        exact ⟨j - 1, by omega, by rw [← hee, e]⟩

theorem msI_spec (R : List Nat) : (msI R).Pairwise (· < ·) ∧ ∀ x, x ∈ msI R ↔ x ∈ othersI R := by
  have hs : (sortedI R).Pairwise (· ≤ ·) := by
    have := List.pairwise_mergeSort (le := fun x y : Int => decide (x ≤ y)) (by intro a b c; simp; omega) (by intro a b; simp; omega) (othersI R)
    exact this.imp (by intro a b; simp)
  have := compact_sorted (sortedI R).toArray (fun i j hij hj => by
    have hj' : j < (sortedI R).length := by simpa using hj
    rw [getElem!_pos _ i (by simp; omega), getElem!_pos _ j (by simpa using hj')]
    simp only [List.getElem_toArray]
    rcases Nat.lt_or_ge i j with h | h
    · exact List.pairwise_iff_getElem.1 hs i j (by omega) hj' h
    · have : i = j := by omega
      subst this; exact Int.le_refl _) (sortedI R).length (by simp)
  refine ⟨this.1, fun x => (this.2 x).trans ?_⟩
  rw [show (x ∈ othersI R ↔ x ∈ sortedI R) from (List.mem_mergeSort).symm, List.mem_iff_getElem]
  refine ⟨fun ⟨j, hj, e⟩ => ⟨j, hj, ?_⟩, fun ⟨j, hj, e⟩ => ⟨j, hj, ?_⟩⟩
  · rw [getElem!_pos _ j (by simpa using hj)] at e; simpa using e
  · rw [getElem!_pos _ j (by simpa using hj)]; simpa using e
theorem msI_nat (R : List Nat) : msI R = (msN R).map Int.ofNat := by
  rw [msN, List.map_map]
  conv => lhs; rw [← List.map_id (msI R)]
  refine List.map_congr_left fun x hx => ?_
  obtain ⟨c, _, rfl⟩ := List.mem_map.1 (((msI_spec R).2 x).1 hx)
  simp
theorem msN_spec (R : List Nat) : (msN R).Pairwise (· < ·) ∧ ∀ m, m ∈ msN R ↔ m ∈ R ∧ 128 ≤ m := by
  obtain ⟨h1, h2⟩ := msI_spec R
  refine ⟨?_, fun m => ?_⟩
  · have := h1
    rw [msI_nat, List.pairwise_map] at this
    exact this.imp (by intro a b; simp)
  · have h3 : (m : Int) ∈ msI R ↔ m ∈ msN R := by
      rw [msI_nat, List.mem_map]
      exact ⟨fun ⟨a, ha, e⟩ => by rwa [← Int.ofNat_inj.1 e], fun h => ⟨m, h, rfl⟩⟩
    rw [← h3, h2, othersI, List.mem_map]
    constructor
    · rintro ⟨a, ha, e⟩
      have : a = m := Int.ofNat_inj.1 e
      subst this
      simpa using ha
    · intro h
      exact ⟨m, by simpa using h, rfl⟩
theorem start_ok (R : List Nat) (hR : ∀ c ∈ R, c ≤ 1114111) : OutOk R (plainB R).length (start R) (msN R) := by
  obtain ⟨h1, h2⟩ := msN_spec R
  refine ⟨Nat.le_refl _, by simp [start], h1, fun m hm => ⟨((h2 m).1 hm).1, ((h2 m).1 hm).2, hR m ((h2 m).1 hm).1⟩, fun c hc hx => (h2 c).2 ⟨hc, hx⟩, by simp [start], by simp [start], ?_, Nat.le_refl _, ?_⟩
  · show (plainB R).length = _
    simp [plainB, start, List.countP_eq_length_filter]
  · show (startOut R).length ≤ 35 * (plainB R).length + 1
    simp only [startOut, List.length_append]
    split <;> simp <;> omega
end Go.Proofs.YtafieajameapiaaDoor
