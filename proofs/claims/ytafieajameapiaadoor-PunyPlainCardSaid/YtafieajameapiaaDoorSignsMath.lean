/- One step of the reference's Signs against the decoder, plain. -/
import Derived.Test.YtafieajameapiaaDoorRunes
set_option linter.unusedVariables false
set_option linter.unusedSimpArgs false
namespace Go.Proofs.YtafieajameapiaaDoor

def bt (s : List UInt8) (i : Nat) : Nat := (s.getD i 0).toNat
theorem bt_lt (s : List UInt8) (i : Nat) : bt s i < 256 := UInt8.toNat_lt _
def cls (b : Nat) : Option (Nat × Nat × Nat) :=
  if b < 128 then some (1, b, 0) else if 192 ≤ b ∧ b < 224 then some (2, b - 192, 128) else if 224 ≤ b ∧ b < 240 then some (3, b - 224, 2048) else if 240 ≤ b ∧ b < 248 then some (4, b - 240, 65536) else none
def acc (s : List UInt8) (i x0 : Nat) : Nat → Nat
  | 0 => x0
  | k + 1 => 64 * acc s i x0 k + bt s (i + (k + 1)) - 128
theorem acc_0 (s : List UInt8) (i x0 : Nat) : acc s i x0 0 = x0 := rfl
theorem acc_1 (s : List UInt8) (i x0 : Nat) : acc s i x0 1 = 64 * x0 + bt s (i + 1) - 128 := rfl
theorem acc_2 (s : List UInt8) (i x0 : Nat) : acc s i x0 2 = 64 * (64 * x0 + bt s (i + 1) - 128) + bt s (i + 2) - 128 := rfl
theorem acc_3 (s : List UInt8) (i x0 : Nat) : acc s i x0 3 = 64 * (64 * (64 * x0 + bt s (i + 1) - 128) + bt s (i + 2) - 128) + bt s (i + 3) - 128 := rfl
def contAll (s : List UInt8) (i n : Nat) : Prop := ∀ k, 1 ≤ k → k < n → 128 ≤ bt s (i + k) ∧ bt s (i + k) < 192
def badX (x least : Nat) : Prop := x < least ∨ 1114111 < x ∨ (55296 ≤ x ∧ x ≤ 57343)
theorem dec_drop (s : List UInt8) (i : Nat) : Lib.decodeL (s.drop i) = Lib.decodeN (s.length - i) (bt s i) (bt s (i + 1)) (bt s (i + 2)) (bt s (i + 3)) := by
  rw [Lib.decodeL_N, List.length_drop, Lib.getD_dropU, Lib.getD_dropU, Lib.getD_dropU, Lib.getD_dropU, Nat.add_zero]
  rfl
theorem cls_cases {b n x0 least : Nat} (h : cls b = some (n, x0, least)) : (b < 128 ∧ n = 1 ∧ x0 = b ∧ least = 0) ∨ ((192 ≤ b ∧ b < 224) ∧ n = 2 ∧ x0 = b - 192 ∧ least = 128) ∨ ((224 ≤ b ∧ b < 240) ∧ n = 3 ∧ x0 = b - 224 ∧ least = 2048) ∨ ((240 ≤ b ∧ b < 248) ∧ n = 4 ∧ x0 = b - 240 ∧ least = 65536) := by
  unfold cls at h
  by_cases c1 : b < 128
  · rw [if_pos c1] at h; injection h with h; simp only [Prod.mk.injEq] at h; exact .inl ⟨c1, h.1.symm, h.2.1.symm, h.2.2.symm⟩
  rw [if_neg c1] at h
  by_cases c2 : 192 ≤ b ∧ b < 224
  · rw [if_pos c2] at h; injection h with h; simp only [Prod.mk.injEq] at h; exact .inr (.inl ⟨c2, h.1.symm, h.2.1.symm, h.2.2.symm⟩)
  rw [if_neg c2] at h
  by_cases c3 : 224 ≤ b ∧ b < 240
  · rw [if_pos c3] at h; injection h with h; simp only [Prod.mk.injEq] at h; exact .inr (.inr (.inl ⟨c3, h.1.symm, h.2.1.symm, h.2.2.symm⟩))
  rw [if_neg c3] at h
  by_cases c4 : 240 ≤ b ∧ b < 248
  · rw [if_pos c4] at h; injection h with h; simp only [Prod.mk.injEq] at h; exact .inr (.inr (.inr ⟨c4, h.1.symm, h.2.1.symm, h.2.2.symm⟩))
  rw [if_neg c4] at h
  cases h
theorem cls_none {b : Nat} (h : cls b = none) : 128 ≤ b ∧ ¬ (192 ≤ b ∧ b < 248) := by
  unfold cls at h
  by_cases c1 : b < 128
  · rw [if_pos c1] at h; cases h
  rw [if_neg c1] at h
  by_cases c2 : 192 ≤ b ∧ b < 224
  · rw [if_pos c2] at h; cases h
  rw [if_neg c2] at h
  by_cases c3 : 224 ≤ b ∧ b < 240
  · rw [if_pos c3] at h; cases h
  rw [if_neg c3] at h
  by_cases c4 : 240 ≤ b ∧ b < 248
  · rw [if_pos c4] at h; cases h
  omega
theorem cls_bd {b n x0 least : Nat} (h : cls b = some (n, x0, least)) : 1 ≤ n ∧ n ≤ 4 ∧ x0 ≤ 127 ∧ least ≤ 65536 := by
  rcases cls_cases h with h | h | h | h <;> omega
set_option maxRecDepth 100000 in
theorem acc_bd {s : List UInt8} {i x0 : Nat} (h0 : x0 ≤ 127) : ∀ k, (∀ j, 1 ≤ j → j < k + 1 → 128 ≤ bt s (i + j) ∧ bt s (i + j) < 192) → acc s i x0 k + 1 ≤ 128 * 64 ^ k
  | 0, _ => by show x0 + 1 ≤ 128 * 1; omega
  | k + 1, hc => by
    have ih := acc_bd h0 k (fun j h1 h2 => hc j h1 (by omega))
    have := hc (k + 1) (by omega) (by omega)
    show 64 * acc s i x0 k + bt s (i + (k + 1)) - 128 + 1 ≤ 128 * 64 ^ (k + 1)
    rw [Nat.pow_succ]
    omega

set_option maxRecDepth 100000 in
set_option maxHeartbeats 4000000 in
theorem step_good {s : List UInt8} {i n x0 least x : Nat} (hi : i < s.length) (hc : cls (bt s i) = some (n, x0, least)) (hn : i + n ≤ s.length) (hk : contAll s i n) (hx : acc s i x0 (n - 1) = x) (hb : ¬ badX x least) : Lib.decodeL (s.drop i) = (x, n) ∧ ¬ (x = 65533 ∧ n = 1) := by
  rw [dec_drop]
  unfold badX at hb
  have h1 := hk 1 (by omega)
  have h2 := hk 2 (by omega)
  have h3 := hk 3 (by omega)
  have hb0 := bt_lt s i
  have hcc := cls_cases hc
  clear hc hk
  generalize bt s i = b0 at *
  rcases hcc with ⟨hb1, rfl, rfl, hls⟩ | ⟨hb1, rfl, rfl, hls⟩ | ⟨hb1, rfl, rfl, hls⟩ | ⟨hb1, rfl, rfl, hls⟩
  · simp only [Nat.sub_self, acc_0] at hx
    subst hx
    unfold Lib.decodeN
    rw [if_pos (by omega)]
    exact ⟨rfl, by omega⟩
  · simp only [Nat.reduceSub, acc_1] at hx
    have h1 := h1 (by omega)
    generalize bt s (i + 1) = b1 at *
    unfold Lib.decodeN
    rw [if_neg (by omega), if_pos (by omega), if_pos (by omega)]
    exact ⟨by rw [Prod.mk.injEq]; omega, by omega⟩
  · simp only [Nat.reduceSub, acc_2, acc_3] at hx
    have h1 := h1 (by omega)
    have h2 := h2 (by omega)
    generalize bt s (i + 1) = b1 at *
    generalize bt s (i + 2) = b2 at *
    unfold Lib.decodeN
    rw [if_neg (by omega), if_neg (by omega), if_pos (by omega), if_pos (by omega)]
    exact ⟨by rw [Prod.mk.injEq]; omega, by omega⟩
  · simp only [Nat.reduceSub, acc_2, acc_3] at hx
    have h1 := h1 (by omega)
    have h2 := h2 (by omega)
    have h3 := h3 (by omega)
    generalize bt s (i + 1) = b1 at *
    generalize bt s (i + 2) = b2 at *
    generalize bt s (i + 3) = b3 at *
    unfold Lib.decodeN
    rw [if_neg (by omega), if_neg (by omega), if_neg (by omega), if_pos (by omega), if_pos (by omega)]
    exact ⟨by rw [Prod.mk.injEq]; omega, by omega⟩

theorem step_none {s : List UInt8} {i : Nat} (hc : cls (bt s i) = none) : Lib.decodeL (s.drop i) = (65533, 1) := by
  rw [dec_drop]
  have := cls_none hc
  have hb0 := bt_lt s i
  generalize bt s i = b0 at *
  unfold Lib.decodeN
  rw [if_neg (by omega), if_neg (by omega), if_neg (by omega), if_neg (by omega)]

set_option maxRecDepth 100000 in
set_option maxHeartbeats 4000000 in
theorem step_bad {s : List UInt8} {i n x0 least : Nat} (hc : cls (bt s i) = some (n, x0, least)) (h : ¬ i + n ≤ s.length ∨ (∃ k, 1 ≤ k ∧ k < n ∧ ¬ (128 ≤ bt s (i + k) ∧ bt s (i + k) < 192)) ∨ (contAll s i n ∧ badX (acc s i x0 (n - 1)) least)) (hi : i < s.length) : Lib.decodeL (s.drop i) = (65533, 1) := by
  rw [dec_drop]
  have hb0 := bt_lt s i
  have hcc := cls_cases hc
  clear hc
  generalize bt s i = b0 at *
  have hs1 := bt_lt s (i + 1)
  have hs2 := bt_lt s (i + 2)
  have hs3 := bt_lt s (i + 3)
  rcases hcc with ⟨hb1, rfl, rfl, hls⟩ | ⟨hb1, rfl, rfl, hls⟩ | ⟨hb1, rfl, rfl, hls⟩ | ⟨hb1, rfl, rfl, hls⟩
  · exfalso
    rcases h with h | ⟨k, h1, h2, _⟩ | ⟨_, h⟩
    · omega
    · omega
    · simp only [Nat.sub_self, acc_0] at h; unfold badX at h; omega
  · have h' : ¬ i + 2 ≤ s.length ∨ ¬ (128 ≤ bt s (i + 1) ∧ bt s (i + 1) < 192) ∨ ((128 ≤ bt s (i + 1) ∧ bt s (i + 1) < 192) ∧ badX (acc s i (b0 - 192) 1) least) := by
      rcases h with h | ⟨k, h1, h2, h3⟩ | ⟨h1, h⟩
      · exact .inl h
      · have : k = 1 := by omega
        subst this; exact .inr (.inl h3)
      · exact .inr (.inr ⟨h1 1 (by omega) (by omega), h⟩)
    simp only [acc_1, badX] at h'
    clear h
    generalize bt s (i + 1) = b1 at *
    unfold Lib.decodeN
    rw [if_neg (by omega)]
    split
    · rw [if_neg (by omega)]
    · rw [if_neg (by omega), if_neg (by omega)]
  · have h' : ¬ i + 3 ≤ s.length ∨ ¬ (128 ≤ bt s (i + 1) ∧ bt s (i + 1) < 192) ∨ ¬ (128 ≤ bt s (i + 2) ∧ bt s (i + 2) < 192) ∨ ((128 ≤ bt s (i + 1) ∧ bt s (i + 1) < 192) ∧ (128 ≤ bt s (i + 2) ∧ bt s (i + 2) < 192) ∧ badX (acc s i (b0 - 224) 2) least) := by
      rcases h with h | ⟨k, h1, h2, h3⟩ | ⟨h1, h⟩
      · exact .inl h
      · rcases (by omega : k = 1 ∨ k = 2) with rfl | rfl
        · exact .inr (.inl h3)
        · exact .inr (.inr (.inl h3))
      · exact .inr (.inr (.inr ⟨h1 1 (by omega) (by omega), h1 2 (by omega) (by omega), h⟩))
    simp only [acc_2, acc_3, badX] at h'
    clear h
    generalize bt s (i + 1) = b1 at *
    generalize bt s (i + 2) = b2 at *
    unfold Lib.decodeN
    rw [if_neg (by omega), if_neg (by omega)]
    split
    · rw [if_neg (by omega)]
    · rw [if_neg (by omega)]
  · have h' : ¬ i + 4 ≤ s.length ∨ ¬ (128 ≤ bt s (i + 1) ∧ bt s (i + 1) < 192) ∨ ¬ (128 ≤ bt s (i + 2) ∧ bt s (i + 2) < 192) ∨ ¬ (128 ≤ bt s (i + 3) ∧ bt s (i + 3) < 192) ∨ ((128 ≤ bt s (i + 1) ∧ bt s (i + 1) < 192) ∧ (128 ≤ bt s (i + 2) ∧ bt s (i + 2) < 192) ∧ (128 ≤ bt s (i + 3) ∧ bt s (i + 3) < 192) ∧ badX (acc s i (b0 - 240) 3) least) := by
      rcases h with h | ⟨k, h1, h2, h3⟩ | ⟨h1, h⟩
      · exact .inl h
      · rcases (by omega : k = 1 ∨ k = 2 ∨ k = 3) with rfl | rfl | rfl
        · exact .inr (.inl h3)
        · exact .inr (.inr (.inl h3))
        · exact .inr (.inr (.inr (.inl h3)))
      · exact .inr (.inr (.inr (.inr ⟨h1 1 (by omega) (by omega), h1 2 (by omega) (by omega), h1 3 (by omega) (by omega), h⟩)))
    simp only [acc_2, acc_3, badX] at h'
    clear h
    generalize bt s (i + 1) = b1 at *
    generalize bt s (i + 2) = b2 at *
    generalize bt s (i + 3) = b3 at *
    unfold Lib.decodeN
    rw [if_neg (by omega), if_neg (by omega), if_neg (by omega)]
    split
    · rw [if_neg (by omega)]
    · rfl

/-- The state of Signs at a place: so much is valid; what its signs are. -/
def Good (s : List UInt8) (pre : List Nat) (i : Nat) : Prop := Thru s pre i ∧ Lib.validD s = Lib.validD (s.drop i)
theorem good_start (s : List UInt8) : Good s [] 0 := ⟨thru_start s, by simp⟩
theorem good_step {s : List UInt8} {pre : List Nat} {i x n : Nat} (h : Good s pre i) (hi : i < s.length) (hd : Lib.decodeL (s.drop i) = (x, n)) (hx : ¬ (x = 65533 ∧ n = 1)) : Good s (pre ++ [x]) (i + n) := by
  have hne : s.drop i ≠ [] := by intro e; have := congrArg List.length e; simp at this; omega
  have ht := thru_step h.1 hi
  have hu : Utf8.decode ⟨s.toArray⟩ i = (x, n) := by rw [← hd]; exact (Lib.decodeL_drop ⟨s.toArray⟩ i).symm
  rw [hu] at ht
  refine ⟨ht, ?_⟩
  rw [h.2, Lib.validD_step _ hne, hd, if_neg (by simpa using hx), List.drop_drop]
theorem good_bad {s : List UInt8} {pre : List Nat} {i : Nat} (h : Good s pre i) (hi : i < s.length) (hd : Lib.decodeL (s.drop i) = (65533, 1)) : Lib.validD s = false := by
  have hne : s.drop i ≠ [] := by intro e; have := congrArg List.length e; simp at this; omega
  rw [h.2, Lib.validD_step _ hne, hd, if_pos ⟨rfl, rfl⟩]
theorem good_end {s : List UInt8} {pre : List Nat} {i : Nat} (h : Good s pre i) (hi : ¬ i < s.length) : runes s = pre ∧ Lib.validD s = true := by
  refine ⟨thru_end h.1 hi, ?_⟩
  rw [h.2, List.drop_eq_nil_of_le (by omega)]
  exact Lib.validD_nil
end Go.Proofs.YtafieajameapiaaDoor
