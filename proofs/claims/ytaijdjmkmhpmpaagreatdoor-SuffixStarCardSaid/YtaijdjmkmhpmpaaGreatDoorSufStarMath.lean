/- Hosts whose parts are letters; a star and a mark, plain. -/
import Derived.Test.YtaijdjmkmhpmpaaGreatDoorSufAlMath
set_option linter.unusedVariables false
set_option linter.unusedSimpArgs false
namespace Go.Proofs.YtaijdjmkmhpmpaaGreatDoor

/-- A part of small letters. -/
structure LetP (p : List UInt8) : Prop where
  ne : p ≠ []
  le : p.length ≤ 63
  few : fewL p = false
  let' : ∀ c ∈ p, 97 ≤ c.toNat ∧ c.toNat ≤ 122
theorem join_sign : ∀ {P : List (List UInt8)} {c : UInt8}, c ∈ joinL 46 P → c = 46 ∨ ∃ p ∈ P, c ∈ p
  | [], c, h => by simp [joinL] at h
  | [p], c, h => .inr ⟨p, by simp, by simpa [joinL] using h⟩
  | p :: q :: l, c, h => by
    rw [joinL_cons (by simp)] at h
    rcases List.mem_append.1 h with h | h
    · exact .inr ⟨p, by simp, h⟩
    · rcases List.mem_cons.1 h with h | h
      · exact .inl h
      · rcases join_sign h with h | ⟨r, hr, hc⟩
        · exact .inl h
        · exact .inr ⟨r, List.mem_cons_of_mem _ hr, hc⟩
theorem LetP.sep {p : List UInt8} (h : LetP p) : sepB p = true := by
  have h1 : plainL p = true := by
    unfold plainL
    rw [List.all_eq_true]
    intro c hc
    have := (h.let' c hc).2
    exact decide_eq_true (by omega)
  have h2 : lowerL p = p := by
    unfold lowerL
    conv => rhs; rw [← List.map_id p]
    refine List.map_congr_left fun c hc => ?_
    have := h.let' c hc
    apply UInt8.toNat_inj.1
    rw [lowB_nat]
    unfold lowN
    rw [if_neg (by omega)]; rfl
  have h3 := h.ne
  unfold sepB
  rw [h1, h2, h.few, decide_eq_true h.le]
  cases p with
  | nil => exact absurd rfl h3
  | cons c r => simp
theorem LetP.unlike {p : List UInt8} (h : LetP p) : likeL p = false := by
  obtain ⟨c, r, rfl⟩ := List.exists_cons_of_ne_nil h.ne
  have hc := h.let' c List.mem_cons_self
  have h1 : hexPre (c :: r) = false := by
    unfold hexPre
    have : ((List.getD (c :: r) 0 0).toNat == 48) = false := by
      rw [beq_eq_false_iff_ne]; show c.toNat ≠ 48; omega
    rw [this]; simp
  unfold likeL
  rw [if_neg (by rw [h1]; simp)]
  have : allDig 10 (c :: r) = false := by
    rw [Bool.eq_false_iff]
    intro e
    have := (allDig_cons.1 e).1
    revert this
    unfold hexI
    split
    · intro; omega
    · split
      · intro; omega
      · split
        · intro; omega
        · intro; omega
  rw [this]; simp
theorem last_letters {P : List (List UInt8)} (h0 : P ≠ []) (hp : ∀ p ∈ P, LetP p) : LetP (P.getLastD []) := by
  rw [List.getLastD_eq_getLast?, List.getLast?_eq_some_getLast h0]
  exact hp _ (List.getLast_mem h0)
theorem letters_host {P : List (List UInt8)} (h0 : P ≠ []) (hp : ∀ p ∈ P, LetP p) (hlen : (joinL 46 P).length ≤ 253) : partsL 46 (joinL 46 P) = P ∧ hostB (joinL 46 P) = true ∧ machineL (joinL 46 P) = false := by
  have hs : ∀ c ∈ joinL 46 P, c.toNat = 46 ∨ 97 ≤ c.toNat ∧ c.toNat ≤ 122 := fun c hc => by
    rcases join_sign hc with rfl | ⟨p, h1, h2⟩
    · exact .inl rfl
    · exact .inr ((hp p h1).let' c h2)
  have hparts : partsL 46 (joinL 46 P) = P := parts_join h0 fun p h1 c hc e => by
    have := (hp p h1).let' c hc
    subst e
    revert this; decide
  have h91 : (joinL 46 P).head? ≠ some 91 := fun e => by
    rcases hs 91 (List.mem_of_head? e) with h | h
    · revert h; decide
    · revert h; decide
  have h37 : (joinL 46 P).contains 37 = false := by
    rw [Bool.eq_false_iff]
    intro e
    rcases hs 37 (List.contains_iff_mem.1 e) with h | h
    · revert h; decide
    · revert h; decide
  have hlast := last_letters h0 hp
  have hcut : cutLast P = P := by
    unfold cutLast
    rw [if_neg fun h => hlast.ne h.2]
  have hfp : fourParts (joinL 46 P) = P := by
    unfold fourParts
    rw [hparts, if_neg fun h => hlast.ne h.2]
  have hf : fourL (joinL 46 P) = (false, 0, 0) := by
    unfold fourL
    rw [hfp, if_pos hlast.unlike]
  have hclean : cleanL (joinL 46 P) = true := by
    unfold cleanL
    rw [decide_eq_true hlen, Bool.and_true, Bool.not_eq_true', List.any_eq_false]
    intro c hc
    rw [Bool.not_eq_true]
    have hh := hs c hc
    unfold foulB
    rw [decide_eq_false (by omega), decide_eq_false (by omega), Bool.false_or, Bool.false_or, Bool.eq_false_iff]
    intro e
    have e := List.contains_iff_mem.1 e
    unfold foulS at e
    simp only [List.mem_cons, List.not_mem_nil, or_false] at e
    rcases e with rfl | rfl | rfl | rfl | rfl | rfl | rfl | rfl | rfl | rfl | rfl | rfl | rfl <;> revert hh <;> decide
  have hsep : P.all sepB = true := by
    rw [List.all_eq_true]
    exact fun p h1 => (hp p h1).sep
  refine ⟨hparts, ?_, ?_⟩
  · unfold hostB
    rw [hparts, hcut, hsep, hclean, h37]
    have hft : fourT (joinL 46 P) = some (joinL 46 P) := by
      unfold fourT
      rw [hf]; simp
    rw [hft]
    simp [h91]
  · unfold machineL
    rw [hf]
    cases hj : joinL 46 P with
    | nil => rfl
    | cons c r =>
      rw [brL_cons]
      have := hs c (by rw [hj]; exact List.mem_cons_self)
      rw [decide_eq_false (by omega)]; rfl
def topL : List UInt8 := [116, 111, 112]
def dotTop : List UInt8 := 46 :: topL
def starR (x : List UInt8) : List (List UInt8) := [42 :: dotTop, 33 :: x ++ dotTop]
theorem top_let : LetP topL := ⟨by decide, by decide, by decide, by decide⟩
theorem zed_let : LetP [122] := ⟨by decide, by decide, by decide, by decide⟩
theorem star_sufs (x : List UInt8) (hx : LetP x) : sufP (42 :: dotTop) = [[42], topL] ∧ exceptB (42 :: dotTop) = false ∧ sufP (33 :: x ++ dotTop) = [x, topL] ∧ exceptB (33 :: x ++ dotTop) = true := by
  refine ⟨by decide +kernel, rfl, ?_, rfl⟩
  have e : bareL (33 :: x ++ dotTop) = joinL 46 [x, topL] := rfl
  unfold sufP
  rw [e]
  exact parts_join (by simp) fun p hp c hc e => by
    have : LetP p := by
      simp only [List.mem_cons, List.not_mem_nil, or_false] at hp
      rcases hp with rfl | rfl
      · exact hx
      · exact top_let
    have := this.let' c hc
    subst e
    revert this; decide
theorem LetP.odd {p : List UInt8} (h : LetP p) : oddB p = false := by
  have h1 : p.all labB = true := by
    rw [List.all_eq_true]
    exact fun c hc => labB_iff.2 (.inl (h.let' c hc))
  have h3 := h.ne
  unfold oddB
  rw [h1, decide_eq_false (by have := h.le; omega)]
  cases p with
  | nil => exact absurd rfl h3
  | cons c r => rfl
theorem star_check (x : List UInt8) (hx : LetP x) : checkL (starR x) = true := by
  obtain ⟨_, _, h3, h4⟩ := star_sufs x hx
  have m1 : mayL (42 :: dotTop) = true := by decide +kernel
  have m2 : mayL (33 :: x ++ dotTop) = true := by
    have hs : starB (33 :: x ++ dotTop) = false := by unfold starB; rw [h4]; rfl
    have hr : restP (33 :: x ++ dotTop) = [x, topL] := by unfold restP; rw [hs, if_neg (by simp), h3]
    have hn : restN (33 :: x ++ dotTop) ≤ 253 := by
      unfold restN
      have := bareL_le (33 :: x ++ dotTop)
      have hl := hx.le
      have : (33 :: x ++ dotTop).length = x.length + 5 := by simp [dotTop, topL]
      omega
    unfold mayL
    rw [h4, h3, hr, decide_eq_true hn]
    have ho := hx.odd
    have ht := top_let.odd
    simp [ho, ht]
  unfold checkL starR
  rw [decide_eq_true (by simp)]
  simp only [List.any_cons, List.any_nil, m1, m2]
  rfl
theorem star_many (x y : List UInt8) (hx : LetP x) (hne : x ≠ y) : manyL (starR x) [y, topL] = 2 ∧ manyL (starR x) [x, topL] = 1 ∧ manyL (starR x) [[122], y, topL] = 2 ∧ manyL (starR x) [[122], x, topL] = 1 := by
  obtain ⟨h1, h2, h3, h4⟩ := star_sufs x hx
  have hq : (y == x) = false := beq_eq_false_iff_ne.2 (Ne.symm hne)
  have hx42 : (x == [42]) = false := by
    rw [beq_eq_false_iff_ne]
    intro e
    have := hx.let' 42 (by rw [e]; simp)
    revert this; decide
  have ht : (topL == [42]) = false := by decide
  refine ⟨?_, ?_, ?_, ?_⟩
  all_goals
    unfold manyL starR manyF manyF manyF
    rw [h1, h2, h3, h4]
    simp [fitsL, eqF, hq, hx42, ht]
theorem star_suffix (x y : List UInt8) (hx : LetP x) (hy : LetP y) (hne : x ≠ y) (hlx : x.length ≤ 63) (hly : y.length ≤ 63) :
    suffixL (starR x) (y ++ dotTop) = (y ++ dotTop, 0) ∧ suffixL (starR x) (x ++ dotTop) = (topL, 0) ∧
    ownL (starR x) (122 :: 46 :: y ++ dotTop) = (122 :: 46 :: y ++ dotTop, 0) ∧ ownL (starR x) (122 :: 46 :: x ++ dotTop) = (x ++ dotTop, 0) := by
  have hc := star_check x hx
  obtain ⟨m1, m2, m3, m4⟩ := star_many x y hx hne
  have two : ∀ p, LetP p → partsL 46 (p ++ dotTop) = [p, topL] ∧ hostB (p ++ dotTop) = true ∧ machineL (p ++ dotTop) = false := fun p hp =>
    letters_host (P := [p, topL]) (by simp) (fun q hq => by
      simp only [List.mem_cons, List.not_mem_nil, or_false] at hq
      rcases hq with rfl | rfl
      · exact hp
      · exact top_let) (by have := hp.le; simp [joinL, topL]; omega)
  have three : ∀ p, LetP p → partsL 46 (122 :: 46 :: p ++ dotTop) = [[122], p, topL] ∧ hostB (122 :: 46 :: p ++ dotTop) = true ∧ machineL (122 :: 46 :: p ++ dotTop) = false := fun p hp =>
    letters_host (P := [[122], p, topL]) (by simp) (fun q hq => by
      simp only [List.mem_cons, List.not_mem_nil, or_false] at hq
      rcases hq with rfl | rfl | rfl
      · exact zed_let
      · exact hp
      · exact top_let) (by have := hp.le; simp [joinL, topL]; omega)
  obtain ⟨a1, a2, a3⟩ := two y hy
  obtain ⟨b1, b2, b3⟩ := two x hx
  obtain ⟨c1, c2, c3⟩ := three y hy
  obtain ⟨d1, d2, d3⟩ := three x hx
  refine ⟨suf_plain hc a2 a3 ?_, suf_plain hc b2 b3 ?_, own_plain hc c2 c3 ?_, own_plain hc d2 d3 ?_⟩
  · rw [a1, m1]; rfl
  · rw [b1, m2]; rfl
  · rw [c1, m3]; rfl
  · rw [d1, m4]; rfl
/-- A part of some letters. -/
def lettersL (l : List UInt8) : List UInt8 := 97 :: (l.take 30).map fun b => UInt8.ofNat (97 + b.toNat % 26)
theorem letters_let (l : List UInt8) : LetP (lettersL l) := by
  refine ⟨by simp [lettersL], by simp [lettersL]; omega, ?_, fun c hc => ?_⟩
  · unfold lettersL fewL
    rw [List.take_succ_cons]
    rw [beq_eq_false_iff_ne]
    intro e
    have := (List.cons.inj e).1
    revert this; decide
  · unfold lettersL at hc
    rcases List.mem_cons.1 hc with rfl | hc
    · decide
    · obtain ⟨b, _, rfl⟩ := List.mem_map.1 hc
      have : (UInt8.ofNat (97 + b.toNat % 26)).toNat = 97 + b.toNat % 26 := by rw [UInt8.toNat_ofNat']; omega
      omega
end Go.Proofs.YtaijdjmkmhpmpaaGreatDoor
