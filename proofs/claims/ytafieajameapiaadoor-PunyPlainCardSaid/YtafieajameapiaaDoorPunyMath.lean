/- Plain mathematics of names in few letters: thresholds, biases, digits, numbers. No program in sight. -/
import Derived.Test.YtafieajameapiaaDoorBase
set_option linter.unusedVariables false
set_option linter.unusedSimpArgs false
namespace Go.Proofs.YtafieajameapiaaDoor

/-- The bound of the digit at a place. -/
def bnd (b k : Nat) : Nat := min (max (k - b) 1) 26
theorem bnd_bd (b k : Nat) : 1 ≤ bnd b k ∧ bnd b k ≤ 26 := by unfold bnd; omega

/-- The bias behind a number: the loop. -/
def advF : Nat → Nat → Nat → Nat
  | 0, n, k => k + 36 * n / (n + 38)
  | f + 1, n, k => if 455 < n then advF f (n / 35) (k + 36) else k + 36 * n / (n + 38)
theorem advF_any : ∀ (f g n k : Nat), n ≤ f → n ≤ g → advF f n k = advF g n k
  | 0, 0, _, _, _, _ => rfl
  | 0, g + 1, n, k, h, _ => by
    have : n = 0 := by omega
    subst this; simp [advF]
  | f + 1, 0, n, k, _, h => by
    have : n = 0 := by omega
    subst this; simp [advF]
  | f + 1, g + 1, n, k, h1, h2 => by
    unfold advF
    split
    · exact advF_any f g _ _ (by omega) (by omega)
    · rfl
def adv (n k : Nat) : Nat := advF n n k
theorem adv_big {n k : Nat} (h : 455 < n) : adv n k = adv (n / 35) (k + 36) := by
  unfold adv
  rw [show advF n n k = advF (n - 1 + 1) n k from by rw [Nat.sub_add_cancel (by omega)]]
  conv => lhs; unfold advF
  rw [if_pos h]
  exact advF_any _ _ _ _ (by omega) (Nat.le_refl _)
theorem adv_small {n k : Nat} (h : n ≤ 455) : adv n k = k + 36 * n / (n + 38) := by
  unfold adv
  cases n with
  | zero => rfl
  | succ n => unfold advF; rw [if_neg (by omega)]
def nextL (n signs : Nat) (begins : Bool) : Nat := adv ((if begins then n / 700 else n / 2) + (if begins then n / 700 else n / 2) / signs) 0
theorem advF_le : ∀ (f n k : Nat), advF f n k ≤ k + 36 * f + 36
  | 0, n, k => by
    unfold advF
    have : 36 * n / (n + 38) ≤ 36 := Nat.div_le_of_le_mul (by omega)
    omega
  | f + 1, n, k => by
    unfold advF
    split
    · have := advF_le f (n / 35) (k + 36); omega
    · have : 36 * n / (n + 38) ≤ 36 := Nat.div_le_of_le_mul (by omega)
      omega
/-- Seven rounds are enough for numbers below 2^34. -/
theorem adv_le (n k : Nat) (h : n ≤ 17179869184) : adv n k ≤ k + 288 := by
  have : ∀ m k', m ≤ 455 → adv m k' ≤ k' + 36 := fun m k' hm => by
    rw [adv_small hm]
    have : 36 * m / (m + 38) ≤ 36 := Nat.div_le_of_le_mul (by omega)
    omega
  have s : ∀ (c : Nat) (B : Nat), (∀ m k', m ≤ B → adv m k' ≤ k' + c) → ∀ m k', m ≤ 35 * B → adv m k' ≤ k' + (c + 36) := fun c B hB m k' hm => by
    by_cases h : 455 < m
    · rw [adv_big h]; have := hB (m / 35) (k' + 36) (by omega); omega
    · have := this m k' (by omega); omega
  have h1 := s _ _ this
  have h2 := s _ _ h1
  have h3 := s _ _ h2
  have h4 := s _ _ h3
  have h5 := s _ _ h4
  have h6 := s _ _ h5
  have := h6 n k (by omega)
  omega
theorem nextL_le (n signs : Nat) (b : Bool) (h : n ≤ 8589934592) : nextL n signs b ≤ 288 := by
  unfold nextL
  have h1 : (if b then n / 700 else n / 2) ≤ n := by split <;> omega
  have h2 : (if b then n / 700 else n / 2) / signs ≤ (if b then n / 700 else n / 2) := Nat.div_le_self _ _
  have := adv_le ((if b then n / 700 else n / 2) + (if b then n / 700 else n / 2) / signs) 0 (by omega)
  omega

/-- The digit that a byte says; -1: it is none. -/
def digI (c : Nat) : Int := if 97 ≤ c ∧ c ≤ 122 then (c : Int) - 97 else if 65 ≤ c ∧ c ≤ 90 then (c : Int) - 65 else if 48 ≤ c ∧ c ≤ 57 then (c : Int) - 22 else -1
theorem digI_bd (c : Nat) : -1 ≤ digI c ∧ digI c ≤ 35 := by unfold digI; split <;> (try split) <;> (try split) <;> omega

/-- A number out of digits, added to another one, and what is behind it. -/
def readL (b : Nat) : List UInt8 → Nat → Nat → Nat → Option (Nat × List UInt8)
  | [], _, _, _ => none
  | c :: s, k, w, n =>
    if digI c.toNat < 0 then none
    else if 2147483647 < n + (digI c.toNat).toNat * w then none
    else if (digI c.toNat).toNat < bnd b k then some (n + (digI c.toNat).toNat * w, s)
    else readL b s (k + 36) (w * (36 - bnd b k)) (n + (digI c.toNat).toNat * w)
theorem readL_some (b : Nat) : ∀ (s : List UInt8) (k w n m : Nat) (r : List UInt8), readL b s k w n = some (m, r) → n ≤ m ∧ m ≤ 2147483647 ∧ r.length < s.length ∧ ∃ p, p ++ r = s
  | [], _, _, _, _, _, h => by simp [readL] at h
  | c :: s, k, w, n, m, r, h => by
    unfold readL at h
    split at h
    · cases h
    split at h
    · cases h
    split at h
    · simp only [Option.some.injEq, Prod.mk.injEq] at h
      obtain ⟨rfl, rfl⟩ := h
      exact ⟨by omega, by omega, by simp, [c], rfl⟩
    · obtain ⟨h1, h2, h3, p, hp⟩ := readL_some b s _ _ _ m r h
      exact ⟨by omega, h2, by simp; omega, c :: p, by rw [← hp]; rfl⟩
theorem readL_neg {b : Nat} {c : UInt8} {s : List UInt8} {k w n : Nat} (h : digI c.toNat < 0) : readL b (c :: s) k w n = none := by unfold readL; rw [if_pos h]
/-- The sum as the code has it. -/
theorem readL_sum {c : UInt8} {w n : Nat} (h0 : 0 ≤ digI c.toNat) : (n : Int) + digI c.toNat * (w : Int) = ((n + (digI c.toNat).toNat * w : Nat) : Int) := by
  rw [Int.natCast_add, Int.natCast_mul, Int.toNat_of_nonneg h0]
theorem readL_big {b : Nat} {c : UInt8} {s : List UInt8} {k w n : Nat} (h0 : 0 ≤ digI c.toNat) (h : 2147483647 < (n : Int) + digI c.toNat * (w : Int)) : readL b (c :: s) k w n = none := by
  rw [readL_sum h0] at h
  unfold readL
  rw [if_neg (by omega), if_pos (by omega)]
theorem readL_end {b : Nat} {c : UInt8} {s : List UInt8} {k w n : Nat} (h0 : 0 ≤ digI c.toNat) (h : (n : Int) + digI c.toNat * (w : Int) ≤ 2147483647) (h2 : digI c.toNat < (bnd b k : Int)) :
    readL b (c :: s) k w n = some (n + (digI c.toNat).toNat * w, s) := by
  rw [readL_sum h0] at h
  unfold readL
  rw [if_neg (by omega), if_neg (by omega), if_pos (by omega)]
theorem readL_go {b : Nat} {c : UInt8} {s : List UInt8} {k w n : Nat} (h0 : 0 ≤ digI c.toNat) (h : (n : Int) + digI c.toNat * (w : Int) ≤ 2147483647) (h2 : (bnd b k : Int) ≤ digI c.toNat) :
    readL b (c :: s) k w n = readL b s (k + 36) (w * (36 - bnd b k)) (n + (digI c.toNat).toNat * w) := by
  rw [readL_sum h0] at h
  conv => lhs; unfold readL
  rw [if_neg (by omega), if_neg (by omega), if_neg (by omega)]
/-- How a weight stays small. -/
theorem readL_weight {b : Nat} {c : UInt8} {k w n : Nat} (h0 : 0 ≤ digI c.toNat) (h : (n : Int) + digI c.toNat * (w : Int) ≤ 2147483647) (h2 : (bnd b k : Int) ≤ digI c.toNat) :
    n + (digI c.toNat).toNat * w ≤ 2147483647 ∧ w * (36 - bnd b k) ≤ 75161927645 ∧ (w : Int) * (36 - (bnd b k : Int)) = ((w * (36 - bnd b k) : Nat) : Int) := by
  have hb := bnd_bd b k
  rw [readL_sum h0] at h
  have h1 : 1 * w ≤ (digI c.toNat).toNat * w := Nat.mul_le_mul_right _ (by omega)
  have h3 : w * (36 - bnd b k) ≤ w * 35 := Nat.mul_le_mul_left _ (by omega)
  refine ⟨by omega, by omega, ?_⟩
  rw [Int.natCast_mul, Int.natCast_sub (by omega)]
  rfl
end Go.Proofs.YtafieajameapiaaDoor
