/- Signs and their bytes, plain: there and back. -/
import Derived.Test.YtafieajameapiaaDoorDecMath
import Derived.Test.YtafieajameapiaaDoorRunes
import Derived.Lib.MapLaws
set_option linter.unusedVariables false
set_option linter.unusedSimpArgs false
namespace Go.Proofs.YtafieajameapiaaDoor

theorem toByteN {n : Nat} {x : UInt8} (h : n = x.toNat) : UInt8.ofNat n = x := by subst h; simp

/-- A sign that was decoded from valid bytes has just those bytes. -/
theorem enc_dec (l : List UInt8) (hne : l ≠ []) (hv : ¬ ((Lib.decodeL l).1 = 65533 ∧ (Lib.decodeL l).2 = 1)) : encN (Lib.decodeL l).1 = l.take (Lib.decodeL l).2 ∧ ¬ badSign (Lib.decodeL l).1 := by
  have hl : 0 < l.length := List.length_pos_iff.2 hne
  rw [Lib.decodeL_N] at hv ⊢
  have k0 := (l.getD 0 0).toNat_lt
  have k1 := (l.getD 1 0).toNat_lt
  have k2 := (l.getD 2 0).toNat_lt
  have k3 := (l.getD 3 0).toNat_lt
  unfold encN badSign
  rcases Lib.decodeN_shape l.length (l.getD 0 0).toNat (l.getD 1 0).toNat (l.getD 2 0).toNat (l.getD 3 0).toNat with ⟨c, e⟩ | ⟨c1, c2, c3, cv, e⟩ | ⟨c1, c2, c3, c4, cv, cs, e⟩ | ⟨c1, c2, c3, c4, c5, cv, cw, e⟩ | e
  · rw [e]
    dsimp only
    rw [if_pos (by omega), Lib.takeA l hl, toByteN (x := l.getD 0 0) rfl]
    exact ⟨rfl, by omega⟩
  · rw [e]
    dsimp only
    rw [if_neg (by omega), if_pos (by omega), Lib.takeB l c2, toByteN (x := l.getD 0 0) (by omega), toByteN (x := l.getD 1 0) (by omega)]
    exact ⟨rfl, by omega⟩
  · rw [e]
    dsimp only
    rw [if_neg (by omega), if_neg (by omega), if_pos (by omega), Lib.takeC l c2, toByteN (x := l.getD 0 0) (by omega), toByteN (x := l.getD 1 0) (by omega), toByteN (x := l.getD 2 0) (by omega)]
    exact ⟨rfl, by omega⟩
  · rw [e]
    dsimp only
    rw [if_neg (by omega), if_neg (by omega), if_neg (by omega), Lib.takeD l c2, toByteN (x := l.getD 0 0) (by omega), toByteN (x := l.getD 1 0) (by omega), toByteN (x := l.getD 2 0) (by omega), toByteN (x := l.getD 3 0) (by omega)]
    exact ⟨rfl, by omega⟩
  · rw [e] at hv
    exact absurd ⟨rfl, rfl⟩ hv

/-- What a valid text's signs say is the text. -/
theorem bytes_runes : ∀ (n : Nat) (s : List UInt8), s.length ≤ n → Lib.validD s = true → bytesL (runes s) = s ∧ ∀ c ∈ runes s, ¬ badSign c
  | 0, s, h, _ => by
    have : s = [] := List.length_eq_zero_iff.1 (by omega)
    subst this
    exact ⟨rfl, fun c hc => by simp [runes_nil] at hc⟩
  | n + 1, s, h, hv => by
    by_cases hne : s = []
    · subst hne
      exact ⟨rfl, fun c hc => by simp [runes_nil] at hc⟩
    · have hw := Lib.decodeL_width s
      have hl : 0 < s.length := List.length_pos_iff.2 hne
      rw [Lib.validD_step s hne] at hv
      split at hv
      · cases hv
      · rename_i hx
        obtain ⟨h1, h2⟩ := enc_dec s hne hx
        obtain ⟨h3, h4⟩ := bytes_runes n (s.drop (Lib.decodeL s).2) (by simp; omega) hv
        rw [runes_step hne]
        refine ⟨?_, fun c hc => ?_⟩
        · have e : bytesL ((Lib.decodeL s).1 :: runes (s.drop (Lib.decodeL s).2)) = encN (Lib.decodeL s).1 ++ bytesL (runes (s.drop (Lib.decodeL s).2)) := by simp [bytesL]
          rw [e, h1, h3, List.take_append_drop]
        · rcases List.mem_cons.1 hc with rfl | hc
          · exact h2
          · exact h4 c hc

set_option maxHeartbeats 1000000 in
/-- What a sign's bytes say. -/
theorem dec_enc (x : Nat) (t : List UInt8) (hx : ¬ badSign x) : Lib.decodeL (encN x ++ t) = (x, (encN x).length) ∧ ¬ (x = 65533 ∧ (encN x).length = 1) := by
  unfold badSign at hx
  rw [Lib.decodeL_N]
  unfold encN
  by_cases c1 : x < 128
  · rw [if_pos c1]
    simp only [List.cons_append, List.nil_append, List.getD_cons_zero, List.length_cons, List.length_nil, u8_of (show x < 256 by omega)]
    unfold Lib.decodeN
    rw [if_pos c1]
    exact ⟨rfl, by omega⟩
  rw [if_neg c1]
  by_cases c2 : x < 2048
  · rw [if_pos c2]
    simp only [List.cons_append, List.nil_append, List.getD_cons_zero, List.getD_cons_succ, List.length_cons, List.length_nil, u8_of (show 192 + x / 64 < 256 by omega), u8_of (show 128 + x % 64 < 256 by omega)]
    unfold Lib.decodeN
    rw [if_neg (by omega), if_pos (by omega), if_pos (by omega)]
    exact ⟨by rw [Prod.mk.injEq]; omega, by omega⟩
  rw [if_neg c2]
  by_cases c3 : x < 65536
  · rw [if_pos c3]
    simp only [List.cons_append, List.nil_append, List.getD_cons_zero, List.getD_cons_succ, List.length_cons, List.length_nil, u8_of (show 224 + x / 4096 < 256 by omega), u8_of (show 128 + x / 64 % 64 < 256 by omega), u8_of (show 128 + x % 64 < 256 by omega)]
    unfold Lib.decodeN
    rw [if_neg (by omega), if_neg (by omega), if_pos (by omega), if_pos (by omega)]
    exact ⟨by rw [Prod.mk.injEq]; omega, by omega⟩
  rw [if_neg c3]
  simp only [List.cons_append, List.nil_append, List.getD_cons_zero, List.getD_cons_succ, List.length_cons, List.length_nil, u8_of (show 240 + x / 262144 < 256 by omega), u8_of (show 128 + x / 4096 % 64 < 256 by omega), u8_of (show 128 + x / 64 % 64 < 256 by omega), u8_of (show 128 + x % 64 < 256 by omega)]
  unfold Lib.decodeN
  rw [if_neg (by omega), if_neg (by omega), if_neg (by omega), if_pos (by omega), if_pos (by omega)]
  exact ⟨by rw [Prod.mk.injEq]; omega, by omega⟩

theorem encN_ne (x : Nat) (t : List UInt8) : encN x ++ t ≠ [] := by
  have := (encN_len x).1
  intro h
  have := congrArg List.length h
  rw [List.length_append, List.length_nil] at this
  omega
/-- Signs that may be, told in bytes, are read as they were. -/
theorem runes_bytes : ∀ (l : List Nat), (∀ c ∈ l, ¬ badSign c) → runes (bytesL l) = l ∧ Lib.validD (bytesL l) = true
  | [], _ => ⟨rfl, Lib.validD_nil⟩
  | x :: l, h => by
    obtain ⟨h1, h2⟩ := runes_bytes l (fun c hc => h c (List.mem_cons_of_mem _ hc))
    obtain ⟨h3, h4⟩ := dec_enc x (bytesL l) (h x List.mem_cons_self)
    have e : bytesL (x :: l) = encN x ++ bytesL l := by simp [bytesL]
    rw [e, runes_step (encN_ne x _), Lib.validD_step _ (encN_ne x _), h3, if_neg h4]
    simp only [List.drop_left, h1, h2, and_self]

/-- Plain signs are one byte each. -/
theorem encN_small {x : Nat} (h : x < 128) : encN x = [UInt8.ofNat x] := by unfold encN; rw [if_pos h]
theorem encN_great {x : Nat} (h : 128 ≤ x) (hx : ¬ badSign x) : ∀ c ∈ encN x, 128 ≤ c.toNat := by
  unfold badSign at hx
  unfold encN
  rw [if_neg (by omega)]
  intro c hc
  split at hc
  · simp only [List.mem_cons, List.not_mem_nil, or_false] at hc
    rcases hc with rfl | rfl
    all_goals (rw [u8_of (by omega)]; omega)
  · split at hc
    · simp only [List.mem_cons, List.not_mem_nil, or_false] at hc
      rcases hc with rfl | rfl | rfl
      all_goals (rw [u8_of (by omega)]; omega)
    · simp only [List.mem_cons, List.not_mem_nil, or_false] at hc
      rcases hc with rfl | rfl | rfl | rfl
      all_goals (rw [u8_of (by omega)]; omega)
/-- The plain bytes of a text of signs that may be. -/
theorem bytes_plain : ∀ (l : List Nat), (∀ c ∈ l, ¬ badSign c) → (bytesL l).filter (fun c => decide (c.toNat < 128)) = (l.filter (· < 128)).map UInt8.ofNat
  | [], _ => rfl
  | x :: l, h => by
    have ih := bytes_plain l (fun c hc => h c (List.mem_cons_of_mem _ hc))
    have e : bytesL (x :: l) = encN x ++ bytesL l := by simp [bytesL]
    rw [e, List.filter_append, ih]
    by_cases c : x < 128
    · rw [encN_small c, List.filter_cons_of_pos (by rw [u8_of (by omega)]; simpa using c), List.filter_cons_of_pos (by simpa using c)]
      rfl
    · have := encN_great (by omega) (h x List.mem_cons_self)
      rw [List.filter_eq_nil_iff.2 (fun c hc => by have := this c hc; simp; omega), List.filter_cons_of_neg (by simpa using c)]
      rfl
end Go.Proofs.YtafieajameapiaaDoor
