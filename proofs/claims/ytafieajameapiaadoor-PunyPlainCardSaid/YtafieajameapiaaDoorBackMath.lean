/- A text in few letters is got back as it was, and few letters are told again, plain. -/
import Derived.Test.YtafieajameapiaaDoorPassTell
import Derived.Test.YtafieajameapiaaDoorShow
set_option linter.unusedVariables false
set_option linter.unusedSimpArgs false
namespace Go.Proofs.YtafieajameapiaaDoor

theorem lastAt_tail {s : List UInt8} {c a : Nat} : ∀ j, (∀ i, a ≤ i → i < a + j → (s.getD i 0).toNat ≠ c) → lastAt s c (a + j) = lastAt s c a
  | 0, _ => rfl
  | j + 1, h => by
    rw [show a + (j + 1) = a + j + 1 from rfl, lastAt, if_neg (h (a + j) (by omega) (by omega))]
    exact lastAt_tail j (fun i h1 h2 => h i h1 (by omega))
theorem lastAt_none {s : List UInt8} {c : Nat} (h : ∀ x ∈ s, x.toNat ≠ c) : lastAt s c s.length = -1 := by
  have := @lastAt_tail s c 0 s.length (fun i _ hi => by
    rw [Nat.zero_add] at hi
    rw [List.getD_eq_getElem?_getD, List.getElem?_eq_getElem hi]
    exact h _ (List.getElem_mem hi))
  rw [Nat.zero_add] at this
  exact this
theorem lastAt_mid {a d : List UInt8} {c : UInt8} (h : ∀ x ∈ d, x.toNat ≠ c.toNat) : lastAt (a ++ c :: d) c.toNat (a ++ c :: d).length = a.length := by
  have e : (a ++ c :: d).length = (a.length + 1) + d.length := by simp; omega
  rw [e, lastAt_tail d.length (fun i h1 h2 => by
    rw [List.getD_eq_getElem?_getD, List.getElem?_append_right (by omega), List.getElem?_eq_getElem (by simp; omega)]
    simp only [Option.getD_some]
    rw [List.getElem_cons]
    rw [dif_neg (by omega)]
    exact h _ (List.getElem_mem _))]
  rw [lastAt, if_pos (by simp)]

theorem decL_map (R : List Nat) : (plainB R).map (fun c => c.toNat) = R.filter (· < 128) := by
  unfold plainB
  rw [List.map_map]
  conv => rhs; rw [← List.map_id (R.filter (· < 128))]
  refine List.map_congr_left fun x hx => ?_
  have := (List.mem_filter.1 hx).2
  simp only [decide_eq_true_eq] at this
  exact u8_of (by omega)
theorem decTop_start (R : List Nat) (D : List UInt8) (hD : ∀ c ∈ D, c.toNat ≠ 45) : decTop (startOut R ++ D) = decL D 72 128 0 true (R.filter (· < 128)) := by
  unfold startOut decTop
  by_cases h : 0 < (plainB R).length
  · rw [if_pos h, List.append_assoc, List.singleton_append]
    have hl := @lastAt_mid (plainB R) D 45 hD
    rw [show (45 : UInt8).toNat = 45 from rfl] at hl
    rw [hl, if_pos (by omega)]
    have e1 : ((plainB R).length : Int).toNat = (plainB R).length := by omega
    rw [e1, List.take_left, decL_map]
    congr 1
    rw [show plainB R ++ 45 :: D = (plainB R ++ [45]) ++ D by simp]
    exact List.drop_left' (by simp)
  · have hn : plainB R = [] := List.length_eq_zero_iff.1 (by omega)
    rw [if_neg h, List.append_nil, hn, List.nil_append, if_neg (by rw [lastAt_none hD]; omega), ← decL_map, hn]
    rfl
theorem tellS_no (p : Nat) (t : TS) (qs : List (Nat × Nat)) : ∀ c ∈ tellS p t qs, c.toNat ≠ 45 := fun c hc => by
  obtain ⟨d, hd, rfl⟩ := tellS_dig p t qs c hc
  rw [digB_nat hd]
  unfold digB; split <;> omega
theorem okPs_ge (p : Nat) : ∀ (qs : List (Nat × Nat)) (t : TS), okPs p t qs → ∀ q ∈ qs, t.sign ≤ q.1
  | [], t, _, q, hq => by simp at hq
  | q0 :: qs, t, ⟨h1, h2⟩, q, hq => by
    rcases List.mem_cons.1 hq with rfl | hq
    · exact h1.1
    · have := okPs_ge p qs _ h2 q hq
      have h3 := h1.1
      have : q0.1 ≤ q.1 := this
      omega
theorem foldl_len (l : List Nat) : ∀ qs : List (Nat × Nat), (qs.foldl ins l).length = l.length + qs.length := fun qs => by rw [foldl_runI, runI_len]; simp
/-- Encoding, then decoding. -/
theorem dec_encR {R : List Nat} (hR : R.length ≤ 1800) (hx : ∀ c ∈ R, ¬ badSign c) : decTop (encR R) = some R := by
  have hx1 : ∀ c ∈ R, c ≤ 1114111 := fun c hc => by have := hx c hc; unfold badSign at this; omega
  obtain ⟨qs, h1, h2, h3, h4⟩ := enc_tells R (by omega) hx1
  have hpl : (plainB R).length = (R.filter (· < 128)).length := by simp [plainB]
  have hlen := foldl_len (R.filter (· < 128)) qs
  rw [h2] at hlen
  rw [h4, decTop_start R _ (tellS_no _ _ _)]
  have := dec_tells (plainB R).length qs _ ⟨72, 128, 0, (plainB R).length⟩ (R.filter (· < 128)) (Nat.lt_succ_self _) hpl.symm (Nat.zero_le _) (Nat.le_refl _) h1 (fun q hq => hx _ (h3 q hq).1) (by show (plainB R).length + _ ≤ _; omega)
  rw [h2] at this
  simpa [decL] using this
theorem encR_small {R : List Nat} (hR : R.length ≤ 1800) (hx : ∀ c ∈ R, c ≤ 1114111) : (encR R).length ≤ 65536 := by
  have h := run_ok (by omega) _ _ (start_ok R hx)
  have h1 := h.out
  have h2 := h.done
  unfold encR
  omega
theorem encodeL_valid {s : List UInt8} (hs : s.length ≤ 65536) (hv : Lib.validD s = true) : encodeL s = (encR (runes s), 0) := by
  unfold encodeL
  rw [if_neg (by omega), if_pos hv]
theorem back_law {s : List UInt8} (hs : s.length ≤ 1800) (hv : Lib.validD s = true) : decode (encodeL s).1 = (s, 0) := by
  obtain ⟨h1, h2⟩ := bytes_runes _ s (Nat.le_refl _) hv
  have hl := runes_len _ s (Nat.le_refl _)
  have hp := encodeL_plain s
  rw [encodeL_valid (by omega) hv] at hp ⊢
  rw [decode_plain (encR_small (by omega) (runes_le _ s (Nat.le_refl _))) hp, dec_encR (by omega) h2]
  show (bytesL (runes s), 0) = _
  rw [h1]

theorem ins_filter {l : List Nat} {q : Nat × Nat} (h : 128 ≤ q.1) : (ins l q).filter (· < 128) = l.filter (· < 128) := by
  unfold ins
  rw [List.filter_append, List.filter_append, List.filter_cons_of_neg (by simp; omega), List.filter_nil, List.append_nil, ← List.filter_append, List.take_append_drop]
theorem foldl_filter : ∀ (qs : List (Nat × Nat)) (l : List Nat), (∀ q ∈ qs, 128 ≤ q.1) → (qs.foldl ins l).filter (· < 128) = l.filter (· < 128)
  | [], _, _ => rfl
  | q :: qs, l, h => by rw [List.foldl_cons, foldl_filter qs _ (fun q hq => h q (List.mem_cons_of_mem _ hq)), ins_filter (h q List.mem_cons_self)]
theorem ins_mem {l : List Nat} {q : Nat × Nat} {x : Nat} (h : x ∈ ins l q) : x = q.1 ∨ x ∈ l := by
  unfold ins at h
  rcases List.mem_append.1 h with h | h
  · rcases List.mem_append.1 h with h | h
    · exact .inr (List.mem_of_mem_take h)
    · exact .inl (List.mem_singleton.1 h)
  · exact .inr (List.mem_of_mem_drop h)
theorem foldl_mem : ∀ (qs : List (Nat × Nat)) (l : List Nat) (x : Nat), x ∈ qs.foldl ins l → (∃ q ∈ qs, x = q.1) ∨ x ∈ l
  | [], l, x, h => .inr h
  | q :: qs, l, x, h => by
    rcases foldl_mem qs _ x h with ⟨q', hq, e⟩ | h
    · exact .inl ⟨q', List.mem_cons_of_mem _ hq, e⟩
    · rcases ins_mem h with h | h
      · exact .inl ⟨q, List.mem_cons_self, h⟩
      · exact .inr h
/-- What is decoded, encoded again. -/
theorem enc_decL {D : List UInt8} {l R : List Nat} (hl : ∀ x ∈ l, x < 128) (h : decL D 72 128 0 true l = some R) (hR : R.length ≤ 7000) :
    (∀ c ∈ R, ¬ badSign c) ∧ plainB R = l.map UInt8.ofNat ∧ encR R = startOut R ++ lowerL D := by
  obtain ⟨qs, h1, h2, h3, h4⟩ := tells_dec l.length _ D ⟨72, 128, 0, l.length⟩ l R rfl (Nat.zero_le _) (Nat.le_refl _) (by simpa [decL] using h)
  have hge : ∀ q ∈ qs, 128 ≤ q.1 := okPs_ge _ _ _ h1
  have hbad : ∀ c ∈ R, ¬ badSign c := fun c hc => by
    rw [h3] at hc
    rcases foldl_mem qs l c hc with ⟨q, hq, rfl⟩ | hc
    · exact h2 q hq
    · have := hl c hc
      unfold badSign; omega
  have hfl : R.filter (· < 128) = l := by
    rw [h3, foldl_filter qs l hge, List.filter_eq_self]
    intro x hx; simpa using hl x hx
  have hpl : plainB R = l.map UInt8.ofNat := by unfold plainB; rw [hfl]
  have hpn : (plainB R).length = l.length := by rw [hpl]; simp
  obtain ⟨rs, g1, g2, g3, g4⟩ := enc_tells R hR (fun c hc => by have := hbad c hc; unfold badSign at this; omega)
  rw [hpn] at g1 g4
  rw [hfl] at g2
  have e : qs = rs := by
    have := ins_unique hl qs.reverse rs.reverse (by have := okPs_okR l.length l.length qs [] _ h1 trivial rfl rfl rfl; simpa using this) (by have := okPs_okR l.length l.length rs [] _ g1 trivial rfl rfl rfl; simpa using this) (by rw [← foldl_runI, ← foldl_runI, ← h3, g2])
    exact List.reverse_inj.1 this
  rw [← e, ← h4] at g4
  exact ⟨hbad, hpl, g4⟩
/-- The place of the last hyphen, or 0. -/
def cutN (s : List UInt8) : Nat := (lastAt s 45 s.length).toNat
theorem lastAt_is {s : List UInt8} {c : Nat} : ∀ k, k ≤ s.length → 0 ≤ lastAt s c k → (s.getD (lastAt s c k).toNat 0).toNat = c
  | 0, _, h => by simp [lastAt] at h
  | k + 1, hk, h => by
    rw [lastAt] at h ⊢
    split
    · rename_i e
      simpa using e
    · rename_i e
      rw [if_neg e] at h
      exact lastAt_is k (by omega) h
theorem again_law {s t : List UInt8} (hs : s.length ≤ 1800) (h : decode s = (t, 0)) : encodeL t = (s.take (cutN s) ++ lowerL (s.drop (cutN s)), 0) ∧ Lib.validD t = true := by
  have hp : ∀ c ∈ s, c.toNat < 128 := by
    intro c hc
    rcases Nat.lt_or_ge c.toNat 128 with h' | h'
    · exact h'
    · rw [decode_wide (by omega) ⟨c, hc, h'⟩] at h
      cases h
  rw [decode_plain (by omega) hp] at h
  cases hd : decTop s with
  | none => rw [hd] at h; cases h
  | some R =>
    rw [hd] at h
    have ht : bytesL R = t := (Prod.mk.inj h).1
    have hR := decTop_len hd
    have key : (∀ c ∈ R, ¬ badSign c) ∧ encR R = s.take (cutN s) ++ lowerL (s.drop (cutN s)) := by
      have hlt := lastAt_lt s 45 s.length
      unfold decTop at hd
      by_cases hc : 0 < lastAt s 45 s.length
      · rw [if_pos hc] at hd
        have hcut : cutN s < s.length := by unfold cutN; omega
        have hc0 : 0 < cutN s := by unfold cutN; omega
        obtain ⟨h1, h2, h3⟩ := enc_decL (fun x hx => by
          obtain ⟨c, hc, rfl⟩ := List.mem_map.1 hx
          exact hp c (List.mem_of_mem_take hc)) hd (by omega)
        refine ⟨h1, ?_⟩
        have hpl : plainB R = s.take (cutN s) := by
          rw [h2, List.map_map]
          conv => rhs; rw [← List.map_id (s.take (cutN s))]
          exact List.map_congr_left fun c _ => by simp
        have hat : s.getD (cutN s) 0 = 45 := by
          have := lastAt_is s.length (Nat.le_refl _) (Int.le_of_lt hc)
          exact UInt8.toNat_inj.1 this
        have hdr : s.drop (cutN s) = 45 :: s.drop (cutN s + 1) := by
          rw [List.drop_eq_getElem_cons hcut, ← hat, List.getD_eq_getElem?_getD, List.getElem?_eq_getElem hcut]
          rfl
        rw [h3, startOut, hpl, if_pos (by simp; omega), hdr]
        simp only [List.append_assoc, List.singleton_append]
        rfl
      · rw [if_neg hc] at hd
        have hcut : cutN s = 0 := by unfold cutN; omega
        obtain ⟨h1, h2, h3⟩ := enc_decL (fun x hx => by simp at hx) hd (by omega)
        refine ⟨h1, ?_⟩
        rw [h3, hcut, startOut, h2]
        simp
    obtain ⟨h1, h2⟩ := key
    obtain ⟨h3, h4⟩ := runes_bytes R h1
    have hl := bytesL_len R
    rw [ht] at h3 h4 hl
    refine ⟨?_, h4⟩
    rw [encodeL_valid (by omega) h4, h3, h2]
end Go.Proofs.YtafieajameapiaaDoor
