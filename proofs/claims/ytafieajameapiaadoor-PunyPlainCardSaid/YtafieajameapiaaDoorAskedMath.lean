/- A part of a name that is asked for stays, plain. -/
import Derived.Test.YtafieajameapiaaDoorCaseLaw
set_option linter.unusedVariables false
set_option linter.unusedSimpArgs false
namespace Go.Proofs.YtafieajameapiaaDoor

/-- Is a byte no great letter? -/
def small (c : UInt8) : Prop := c.toNat < 65 ∨ 90 < c.toNat
theorem low_small (c : UInt8) : small (lowB c) := by
  unfold small
  rw [lowB_nat]; unfold lowN; split <;> omega
theorem small_low {c : UInt8} (h : small c) : lowB c = c := by
  unfold small at h
  unfold lowB lowN
  rw [if_neg (by omega)]
  simp
theorem lowerL_small (s : List UInt8) : ∀ c ∈ lowerL s, small c := fun c hc => by
  obtain ⟨x, _, rfl⟩ := List.mem_map.1 hc
  exact low_small x
theorem lowerL_id {s : List UInt8} (h : ∀ c ∈ s, small c) : lowerL s = s := by
  unfold lowerL
  conv => rhs; rw [← List.map_id s]
  exact List.map_congr_left fun c hc => small_low (h c hc)
theorem lowerL_lowerL (s : List UInt8) : lowerL (lowerL s) = lowerL s := lowerL_id (lowerL_small s)
theorem valid_plain {s : List UInt8} (h : plainL s = true) : Lib.validD s = true := by
  have := Lib.validD_ascii s.length s (fun b hb => plainL_iff.1 h b (List.mem_of_mem_take hb))
  rw [this, List.drop_length]
  exact Lib.validD_nil
theorem enc_out {s : List UInt8} (hs : s.length ≤ 7000) (hv : Lib.validD s = true) : plainB (runes s) = s.filter (fun c => decide (c.toNat < 128)) ∧ ∃ D, (∀ c ∈ D, ∃ d, d < 36 ∧ c = UInt8.ofNat (digB d)) ∧ encodeL s = (startOut (runes s) ++ D, 0) := by
  obtain ⟨h1, h2⟩ := bytes_runes _ s (Nat.le_refl _) hv
  have hl := runes_len _ s (Nat.le_refl _)
  obtain ⟨qs, _, _, _, h4⟩ := enc_tells (runes s) (by omega) (runes_le _ s (Nat.le_refl _))
  have hb := bytes_plain (runes s) h2
  rw [h1] at hb
  exact ⟨hb.symm, _, tellS_dig _ _ _, by rw [encodeL_valid (by omega) hv, h4]⟩
theorem enc_has {s : List UInt8} (hs : s.length ≤ 7000) (hv : Lib.validD s = true) {c : UInt8} (hc : c ∈ s) (h : c.toNat < 128) : c ∈ (encodeL s).1 := by
  obtain ⟨h1, D, _, h2⟩ := enc_out hs hv
  rw [h2]
  refine List.mem_append_left _ (List.mem_append_left _ ?_)
  rw [h1]
  exact List.mem_filter.2 ⟨hc, by simpa using h⟩
theorem dig_small {d : Nat} (h : d < 36) : small (UInt8.ofNat (digB d)) := by
  unfold small
  rw [digB_nat h]; unfold digB; split <;> omega
theorem enc_small {s : List UInt8} (hs : s.length ≤ 7000) (hv : Lib.validD s = true) (h : ∀ c ∈ s, small c) : ∀ c ∈ (encodeL s).1, small c := by
  obtain ⟨h1, D, hD, h2⟩ := enc_out hs hv
  rw [h2]
  intro c hc
  rcases List.mem_append.1 hc with hc | hc
  · rcases List.mem_append.1 hc with hc | hc
    · rw [h1] at hc
      exact h c (List.mem_filter.1 hc).1
    · split at hc
      · rw [List.mem_singleton] at hc; subst hc; unfold small; decide
      · simp at hc
  · obtain ⟨d, hd, rfl⟩ := hD c hc
    exact dig_small hd
theorem encodeL_ok {s : List UInt8} (hs : s.length ≤ 65536) (h : (encodeL s).2 = 0) : Lib.validD s = true := by
  unfold encodeL at h
  rw [if_neg (by omega)] at h
  cases hv : Lib.validD s with
  | true => rfl
  | false => rw [hv, if_neg (by simp)] at h; cases h
theorem few_few (l : List UInt8) : fewL (fewB ++ l) = true ∧ (fewB ++ l).drop 4 = l := by
  constructor
  · unfold fewL fewB; simp
  · rfl
theorem plain_app {a b : List UInt8} (ha : ∀ c ∈ a, c.toNat < 128) (hb : ∀ c ∈ b, c.toNat < 128) : plainL (a ++ b) = true := plainL_iff.2 fun c hc => by
  rcases List.mem_append.1 hc with hc | hc
  · exact ha c hc
  · exact hb c hc
theorem few_plain : ∀ c ∈ fewB, c.toNat < 128 := by decide
theorem few_small : ∀ c ∈ fewB, small c := by unfold small; decide

/-- A label that stays. -/
structure Stays (l : List UInt8) : Prop where
  one : 1 ≤ l.length
  le : l.length ≤ 63
  plain : ∀ c ∈ l, c.toNat < 128
  small : ∀ c ∈ l, small c
  again : labelL l = (l, 0)
  shown : labelL (showL l) = (l, 0)
  len : (showL l).length ≤ 1000
theorem lab_plain {l : List UInt8} (h0 : l ≠ []) (hp : plainL l = true) (hs : ∀ c ∈ l, small c) : labelL l = if fewL l then
      (if (decode (l.drop 4)).2 ≠ 0 ∨ plainL (decode (l.drop 4)).1 then ([], 5)
      else if (encodeL (decode (l.drop 4)).1).1 ≠ l.drop 4 then ([], 5) else finL l)
    else finL l := by
  rw [labelL_else h0 (valid_plain hp), lowerL_id hs, if_neg (by rw [hp]; simp)]
theorem stays {s l : List UInt8} (hs : s.length ≤ 1000) (h : labelL s = (l, 0)) : Stays l := by
  have hz : (labelL s).2 = 0 := by rw [h]
  obtain ⟨hne, hv, hc⟩ := labelL_zero hz
  have hul : (lowerL s).length = s.length := by simp [lowerL]
  have hlow := lowerL_small s
  have hpl := plain_lower s
  have hs0 : 0 < s.length := List.length_pos_iff.2 hne
  rcases hc with ⟨hp, he, hl, h63⟩ | ⟨hp, hf, hd, hpt, he, hl, h63⟩ | ⟨hp, hf, hl, h63⟩
  · rw [h] at hl
    have hl : l = fewB ++ (encodeL (lowerL s)).1 := (Prod.mk.inj hl).1
    rw [hp] at hpl
    generalize lowerL s = u at *
    have hvu := encodeL_ok (by omega) he
    have hback := back_law (by omega) hvu
    have hep := encodeL_plain u
    have hes := enc_small (by omega) hvu hlow
    obtain ⟨x, hx⟩ : ∃ x, encodeL u = (x, 0) := ⟨(encodeL u).1, Prod.ext rfl he⟩
    rw [hx] at hback hep hes hl h63
    simp only at hback hep hes hl h63
    subst hl
    obtain ⟨f1, f2⟩ := few_few x
    have hlp : plainL (fewB ++ x) = true := plain_app few_plain hep
    have hls : ∀ c ∈ fewB ++ x, small c := fun c hc => by
      rcases List.mem_append.1 hc with hc | hc
      · exact few_small c hc
      · exact hes c hc
    have hlab : labelL (fewB ++ x) = (fewB ++ x, 0) := by
      rw [lab_plain (by simp [fewB]) hlp hls, if_pos f1, f2, hback, if_neg (by simp [hpl]), hx, if_neg (by simp), finL_ok h63]
    have hsh : showL (fewB ++ x) = u := by
      unfold showL
      rw [hlab, lowerL_id hls, f1, hlp, if_neg (by simp), f2, hback]
    have hu0 : u ≠ [] := fun e => by rw [e] at hpl; cases hpl
    refine ⟨by simp [fewB], h63, plainL_iff.1 hlp, hls, hlab, ?_, by rw [hsh]; omega⟩
    rw [hsh, labelL_else hu0 hvu, lowerL_id hlow, if_pos hpl, hx, if_neg (by simp), finL_ok h63]
  · rw [h] at hl
    have hl : l = lowerL s := (Prod.mk.inj hl).1
    rw [hp] at hpl
    subst hl
    generalize lowerL s = l at *
    have hl0 : l ≠ [] := fun e => by rw [e] at hul; simp at hul; omega
    obtain ⟨t, ht⟩ : ∃ t, decode (l.drop 4) = (t, 0) := ⟨(decode (l.drop 4)).1, Prod.ext rfl hd⟩
    have hdl := decode_len (l.drop 4)
    obtain ⟨hag, hvt⟩ := again_law (by simp; omega) ht
    rw [ht] at hpt he hdl
    simp only at hpt he hdl
    have hxe : encodeL t = (l.drop 4, 0) := by
      rw [hag] at he ⊢
      rw [Prod.mk.injEq]
      exact ⟨he, rfl⟩
    have hlab : labelL l = (l, 0) := by
      rw [lab_plain hl0 hpl hlow, if_pos hf, ht, if_neg (by simp [hpt]), he, if_neg (by simp), finL_ok (by omega)]
    have hsh : showL l = t := by
      unfold showL
      rw [hlab, lowerL_id hlow, hf, hpl, if_neg (by simp), ht]
    have hdr : (l.drop 4).length ≤ 63 := by simp; omega
    have hts : ∀ c ∈ t, small c := fun c hc => by
      by_cases h128 : c.toNat < 128
      · have := enc_has (by omega) hvt hc h128
        rw [hxe] at this
        exact hlow c (List.mem_of_mem_drop this)
      · unfold small; omega
    have ht0 : t ≠ [] := fun e => by rw [e] at hpt; cases hpt
    have hfw := few_whole hf
    refine ⟨by omega, by omega, plainL_iff.1 hpl, hlow, hlab, ?_, by rw [hsh]; omega⟩
    rw [hsh, labelL_else ht0 hvt, lowerL_id hts, if_pos hpt, hxe, if_neg (by simp), ← hfw, finL_ok (by omega)]
  · rw [h] at hl
    have hl : l = lowerL s := (Prod.mk.inj hl).1
    rw [hp] at hpl
    subst hl
    generalize lowerL s = l at *
    have hl0 : l ≠ [] := fun e => by rw [e] at hul; simp at hul; omega
    have hlab : labelL l = (l, 0) := by
      rw [lab_plain hl0 hpl hlow, if_neg (by rw [hf]; simp), finL_ok (by omega)]
    have hsh : showL l = l := by
      unfold showL
      rw [lowerL_id hlow, if_pos (.inr (.inl hf))]
    exact ⟨by omega, by omega, plainL_iff.1 hpl, hlow, hlab, by rw [hsh, hlab], by rw [hsh]; omega⟩
/-- What PunyPlain says. -/
theorem show_self {s : List UInt8} (h : fewL (lowerL s) = false ∨ plainL s = false) : showL s = s := by
  unfold showL
  rw [if_pos (.inr h)]
theorem lab_unfew {s : List UInt8} (hf : fewL (lowerL s) = false) (hp : plainL s = true) : labelL s = if s = [] then ([], 5) else finL (lowerL s) := by
  by_cases h0 : s = []
  · rw [if_pos h0]; unfold labelL; rw [if_pos (.inl h0)]
  · rw [if_neg h0, labelL_else h0 (valid_plain hp), plain_lower, if_neg (by rw [hp]; simp), if_neg (by rw [hf]; simp)]
end Go.Proofs.YtafieajameapiaaDoor
