/- Encoding tells the insertions that make the text, plain. -/
import Derived.Test.YtafieajameapiaaDoorTellMath
set_option linter.unusedVariables false
set_option linter.unusedSimpArgs false
namespace Go.Proofs.YtafieajameapiaaDoor

/-- Between two signs: the encoder's state is the teller's, at sign m and place i. -/
structure Rel (st : ES) (t : TS) (m i : Nat) : Prop where
  b : st.b = t.b
  many : st.many = t.len
  n : st.n + (t.sign * (t.len + 1) + t.place) = m * (t.len + 1) + i
  ord : t.sign < m ∨ (t.sign = m ∧ t.place ≤ i)
  place : t.place ≤ t.len
  le : i ≤ t.len
theorem Rel.delta {st : ES} {t : TS} {m i : Nat} (h : Rel st t m i) : delta t (m, i) = st.n := by
  unfold Go.Proofs.YtafieajameapiaaDoor.delta
  have h1 := h.n
  have h2 : t.sign ≤ m := by rcases h.ord with h | ⟨h, _⟩ <;> omega
  show (m - t.sign) * (t.len + 1) + i - t.place = st.n
  obtain ⟨d, rfl⟩ := Nat.exists_eq_add_of_le h2
  rw [Nat.add_sub_cancel_left]
  rw [Nat.add_mul] at h1
  omega

theorem filter_le_eq {m : Nat} {pre : List Nat} : (pre.filter (· ≤ m)).length ≤ pre.length := List.length_filter_le _ _
/-- One pass. -/
theorem pass_tell (m p : Nat) : ∀ (post pre : List Nat) (st : ES) (t : TS), Rel st t m (pre.filter (· ≤ m)).length → t.len = (pre.filter (· ≤ m)).length + (post.filter (· < m)).length →
    ∃ qs, okPs p t qs ∧ Rel (passS m p post st) (endS p t qs) m ((pre ++ post).filter (· ≤ m)).length ∧ (endS p t qs).len = ((pre ++ post).filter (· ≤ m)).length ∧
      qs.foldl ins (pre.filter (· ≤ m) ++ post.filter (· < m)) = (pre ++ post).filter (· ≤ m) ∧ (∀ q ∈ qs, q.1 = m) ∧ (m ∈ post ∨ qs = []) ∧ (passS m p post st).out = st.out ++ tellS p t qs
  | [], pre, st, t, h, hl => ⟨[], trivial, by simpa [passS, endS] using h, by simpa [endS] using hl, by simp, fun q hq => by simp at hq, .inr rfl, by simp [passS, tellS]⟩
  | c :: post, pre, st, t, h, hl => by
    have e : pre ++ c :: post = (pre ++ [c]) ++ post := by simp
    rw [passS_cons, e]
    by_cases c1 : c < m
    · have f1 : (pre ++ [c]).filter (· ≤ m) = pre.filter (· ≤ m) ++ [c] := by rw [List.filter_append]; simp; omega
      have f2 : (c :: post).filter (· < m) = c :: post.filter (· < m) := List.filter_cons_of_pos (by simpa using c1)
      rw [f2] at hl ⊢
      simp only [List.length_cons] at hl
      have hst : stepS m p st c = ⟨st.b, st.n + 1, st.many, st.out⟩ := by unfold stepS; rw [if_pos c1]
      have hrel : Rel (stepS m p st c) t m ((pre ++ [c]).filter (· ≤ m)).length := by
        rw [hst, f1, List.length_append, List.length_singleton]
        have hn := h.n
        exact ⟨h.b, h.many, by show st.n + 1 + _ = _; omega, by rcases h.ord with h | ⟨h, h'⟩; exact .inl h; exact .inr ⟨h, by omega⟩, h.place, by omega⟩
      obtain ⟨qs, h1, h2, h3, h4, h5, h6, h7⟩ := pass_tell m p post (pre ++ [c]) _ t hrel (by rw [f1, List.length_append, List.length_singleton]; omega)
      refine ⟨qs, h1, h2, h3, ?_, h5, ?_, by rw [h7, hst]⟩
      · rw [← h4, f1]; simp
      · rcases h6 with h6 | h6
        · exact .inl (List.mem_cons_of_mem _ h6)
        · exact .inr h6
    · have f2 : (c :: post).filter (· < m) = post.filter (· < m) := List.filter_cons_of_neg (by simpa using c1)
      rw [f2] at hl ⊢
      by_cases c2 : c = m
      · subst c2
        have f1 : (pre ++ [c]).filter (· ≤ c) = pre.filter (· ≤ c) ++ [c] := by rw [List.filter_append]; simp
        have hd := h.delta
        have hst : stepS c p st c = ⟨nextL st.n (st.many + 1) (decide (st.many = p)), 0, st.many + 1, st.out ++ toldL st.n st.b 36⟩ := by unfold stepS; rw [if_neg (by omega), if_pos rfl]
        have hq : okQ t (c, (pre.filter (· ≤ c)).length) := by
          refine ⟨?_, fun he => ?_, h.le⟩
          · rcases h.ord with h | ⟨h, _⟩
            · exact Nat.le_of_lt h
            · exact Nat.le_of_eq h
          · rcases h.ord with h | ⟨h, h'⟩
            · have : c = t.sign := he; omega
            · exact h'
        have hrel : Rel (stepS c p st c) (tstep p t (c, (pre.filter (· ≤ c)).length)) c ((pre ++ [c]).filter (· ≤ c)).length := by
          rw [hst, f1, List.length_append, List.length_singleton]
          have hle := h.le
          refine ⟨?_, ?_, ?_, .inr ⟨rfl, Nat.le_refl _⟩, ?_, ?_⟩
          · show nextL _ _ _ = nextL _ _ _
            rw [hd, h.many]
          · show st.many + 1 = t.len + 1
            rw [h.many]
          · show 0 + _ = _
            rw [Nat.zero_add]; rfl
          · show (pre.filter (· ≤ c)).length + 1 ≤ t.len + 1
            omega
          · show (pre.filter (· ≤ c)).length + 1 ≤ t.len + 1
            omega
        obtain ⟨qs, h1, h2, h3, h4, h5, h6, h7⟩ := pass_tell c p post (pre ++ [c]) _ _ hrel (by show t.len + 1 = _; rw [f1, List.length_append, List.length_singleton]; omega)
        refine ⟨(c, (pre.filter (· ≤ c)).length) :: qs, ⟨hq, h1⟩, h2, h3, ?_, fun q hq => ?_, .inl List.mem_cons_self, ?_⟩
        · rw [← h4, f1, List.foldl_cons]
          congr 1
          unfold ins
          simp
        · rcases List.mem_cons.1 hq with rfl | hq
          · rfl
          · exact h5 q hq
        · rw [h7, hst]
          show (st.out ++ toldL st.n st.b 36) ++ _ = st.out ++ (toldL (delta t _) t.b 36 ++ _)
          rw [hd, h.b, List.append_assoc]
      · have f1 : (pre ++ [c]).filter (· ≤ m) = pre.filter (· ≤ m) := by rw [List.filter_append, List.filter_cons_of_neg (by simp; omega)]; simp
        have hst : stepS m p st c = st := by unfold stepS; rw [if_neg c1, if_neg c2]
        obtain ⟨qs, h1, h2, h3, h4, h5, h6, h7⟩ := pass_tell m p post (pre ++ [c]) st t (by rw [f1]; exact h) (by rw [f1]; exact hl)
        rw [hst]
        refine ⟨qs, h1, h2, h3, ?_, h5, ?_, h7⟩
        · rw [← h4, f1]
        · rcases h6 with h6 | h6
          · exact .inl (List.mem_cons_of_mem _ h6)
          · exact .inr h6

theorem filter_gap {R : List Nat} {a m : Nat} (h : ∀ c ∈ R, a ≤ c → m ≤ c) (ham : a ≤ m) : R.filter (· < m) = R.filter (· < a) :=
  List.filter_congr fun c hc => by
    have := h c hc
    rw [Bool.eq_iff_iff]
    simp only [decide_eq_true_eq]
    omega
/-- All passes. -/
theorem run_tell (R : List Nat) (p : Nat) : ∀ (ms : List Nat) (x : Nat × ES) (t : TS), OutOk R p x ms → R.length ≤ 7000 → Rel x.2 t x.1 0 → t.len = (R.filter (· < x.1)).length →
    ∃ qs, okPs p t qs ∧ qs.foldl ins (R.filter (· < x.1)) = R ∧ (∀ q ∈ qs, q.1 ∈ ms) ∧ (runS R p ms x).2.out = x.2.out ++ tellS p t qs
  | [], x, t, hok, hR, h, hl => by
    have hd := hok.done
    have hm := hok.many
    refine ⟨[], trivial, ?_, fun q hq => by simp at hq, by simp [runS, tellS]⟩
    show R.filter (· < x.1) = R
    rw [List.filter_eq_self]
    rw [hd] at hm
    exact List.countP_eq_length.1 hm.symm
  | m :: ms, x, t, hok, hR, h, hl => by
    have hs := List.pairwise_cons.1 hok.sorted
    have hge : ∀ c ∈ R, x.1 ≤ c → m ≤ c := fun c hc hx => by
      rcases List.mem_cons.1 (hok.compl c hc hx) with h6 | h6
      · omega
      · exact Nat.le_of_lt (hs.1 c h6)
    have hxm := (hok.mem m List.mem_cons_self).2.1
    have hgap := filter_gap hge hxm
    have hn := h.n
    have hrel : Rel ⟨x.2.b, x.2.n + (m - x.1) * (x.2.many + 1), x.2.many, x.2.out⟩ t m (([] : List Nat).filter (· ≤ m)).length := by
      refine ⟨h.b, h.many, ?_, ?_, h.place, Nat.zero_le _⟩
      · show x.2.n + (m - x.1) * (x.2.many + 1) + _ = _ + 0
        rw [h.many]
        obtain ⟨d, hd⟩ := Nat.exists_eq_add_of_le hxm
        rw [hd, Nat.add_sub_cancel_left, Nat.add_mul]
        omega
      · rcases h.ord with h | ⟨h, h'⟩
        · exact .inl (by omega)
        · by_cases e : m = x.1
          · exact .inr ⟨by omega, h'⟩
          · exact .inl (by omega)
    obtain ⟨qs, h1, h2, h3, h4, h5, h6, h7⟩ := pass_tell m p R [] _ t hrel (by simp only [List.filter_nil, List.length_nil, Nat.zero_add]; rw [hl, hgap])
    simp only [List.nil_append, List.filter_nil] at h2 h3 h4
    have hlt : R.filter (· < m + 1) = R.filter (· ≤ m) := List.filter_congr fun c _ => by rw [Bool.eq_iff_iff]; simp; omega
    have hok2 := hok.next hR
    have hn2 := h2.n
    have hrel2 : Rel (outS R p x m).2 (endS p t qs) (outS R p x m).1 0 := by
      refine ⟨h2.b, h2.many, ?_, ?_, h2.place, Nat.zero_le _⟩
      · show (passS m p R _).n + 1 + _ = (m + 1) * _ + 0
        rw [← h3] at hn2
        rw [Nat.add_mul]
        omega
      · show (endS p t qs).sign < m + 1 ∨ _
        rcases h2.ord with h | ⟨h, h'⟩
        · exact .inl (by omega)
        · exact .inl (by omega)
    obtain ⟨rs, g1, g2, g3, g4⟩ := run_tell R p ms (outS R p x m) (endS p t qs) hok2 hR hrel2 (by rw [h3]; show _ = (R.filter (· < m + 1)).length; rw [hlt])
    refine ⟨qs ++ rs, okPs_append.2 ⟨h1, g1⟩, ?_, fun q hq => ?_, ?_⟩
    · rw [List.foldl_append, ← hgap, h4, ← hlt]
      exact g2
    · rcases List.mem_append.1 hq with hq | hq
      · rw [h5 q hq]; exact List.mem_cons_self
      · exact List.mem_cons_of_mem _ (g3 q hq)
    · show (runS R p ms (outS R p x m)).2.out = _
      rw [g4, tellS_append, ← List.append_assoc]
      congr 1
/-- What the encoding is. -/
theorem enc_tells (R : List Nat) (hR : R.length ≤ 7000) (hx : ∀ c ∈ R, c ≤ 1114111) :
    ∃ qs, okPs (plainB R).length ⟨72, 128, 0, (plainB R).length⟩ qs ∧ qs.foldl ins (R.filter (· < 128)) = R ∧ (∀ q ∈ qs, q.1 ∈ R ∧ 128 ≤ q.1) ∧ encR R = startOut R ++ tellS (plainB R).length ⟨72, 128, 0, (plainB R).length⟩ qs := by
  have hpl : (plainB R).length = (R.filter (· < 128)).length := by simp [plainB]
  obtain ⟨qs, h1, h2, h3, h4⟩ := run_tell R (plainB R).length (msN R) (start R) ⟨72, 128, 0, (plainB R).length⟩ (start_ok R hx) hR ⟨rfl, rfl, by show 0 + (128 * _ + 0) = 128 * _ + 0; omega, .inr ⟨rfl, Nat.le_refl _⟩, Nat.zero_le _, Nat.zero_le _⟩ hpl
  exact ⟨qs, h1, h2, fun q hq => ((msN_spec R).2 q.1).1 (h3 q hq), h4⟩
end Go.Proofs.YtafieajameapiaaDoor
