/- Plain lemmas on matching paths: no program in sight. -/
import Derived.Test.YtglbkkgejficcaaBase
set_option linter.unusedVariables false
set_option linter.unusedSimpArgs false
namespace Go.Proofs.Ytglbkkgejficcaa

/-- Does a path match a cookie's? -/
def pathL (s c : List UInt8) : Bool :=
  c.isPrefixOf s && (decide (s.length ≤ c.length) || Lib.hasSuffix c [47] || (s[c.length]?.getD 0).toNat == 47)

theorem isEmpty_drop (s : List UInt8) (k : Nat) : (s.drop k).isEmpty = decide (s.length ≤ k) := by
  rw [Bool.eq_iff_iff]; simp [List.drop_eq_nil_iff]

theorem suffix_one (c : List UInt8) : Lib.hasSuffix c [47] = (decide (0 < c.length) && (c[c.length - 1]?.getD 0).toNat == 47) := by
  rw [← Lib.hasSuffix_of_drop]
  by_cases h : 0 < c.length
  · have e : c.drop (c.length - [(47 : UInt8)].length) = [c[c.length - 1]] := by
      rw [List.length_singleton, List.drop_eq_getElem_cons (by omega), List.drop_eq_nil_of_le (by omega)]
    rw [e, List.length_singleton, List.getElem?_eq_getElem (by omega), Option.getD_some]
    rw [show decide (1 ≤ c.length) = true from decide_eq_true h, decide_eq_true h, Bool.true_and, Bool.true_and, Bool.eq_iff_iff]
    simp [← UInt8.toNat_inj]
  · have : c = [] := List.length_eq_zero_iff.1 (by omega)
    subst this
    decide

theorem pathL_ref (s c : List UInt8) : pathL s c = (s == c || (decide (c.length < s.length) && (s.take c.length == c) && ((decide (0 < c.length) && (c[c.length - 1]?.getD 0).toNat == 47) || (s[c.length]?.getD 0).toNat == 47))) := by
  have e : c.isPrefixOf s = (decide (c.length ≤ s.length) && (s.take c.length == c)) := (Lib.hasPrefix_of_take s c).symm
  unfold pathL
  rw [e, suffix_one]
  rcases Nat.lt_trichotomy c.length s.length with h | h | h
  · have h2 : (s == c) = false := by rw [beq_eq_false_iff_ne]; intro h; subst h; omega
    rw [h2, decide_eq_true h, decide_eq_true (Nat.le_of_lt h), decide_eq_false (Nat.not_le.2 h)]
    simp
  · have h3 : s.take c.length = s := by rw [h, List.take_length]
    rw [h3, decide_eq_true (Nat.le_of_eq h), decide_eq_false (by omega : ¬ c.length < s.length), decide_eq_true (Nat.le_of_eq h.symm)]
    simp
  · have h2 : (s == c) = false := by rw [beq_eq_false_iff_ne]; intro h; subst h; omega
    rw [h2, decide_eq_false (by omega : ¬ c.length ≤ s.length), decide_eq_false (by omega : ¬ c.length < s.length)]
    simp

/-- The path of a cookie that tells none. -/
def usualL (s : List UInt8) : List UInt8 :=
  if 0 < lastAt s 47 s.length ∧ (s[0]?.getD 0).toNat = 47 then s.take (lastAt s 47 s.length).toNat else [47]

/-- The last place of a slash among the first k bytes, or 0. -/
def lastZ (s : List UInt8) (k : Nat) : Int := max 0 (lastAt s 47 k)
theorem lastZ_bd (s : List UInt8) (k : Nat) : 0 ≤ lastZ s k ∧ lastZ s k ≤ k := by
  have := lastAt_lt s 47 k
  unfold lastZ
  omega
theorem lastZ_hit (s : List UInt8) (k : Nat) (h : k < s.length) (hc : ((s[k].toNat : Int) == 47) = true) : lastZ s (k + 1) = k := by
  have e : s.getD k 0 = s[k] := by simp [h]
  simp only [beq_iff_eq] at hc
  unfold lastZ lastAt
  rw [e, if_pos (by omega)]
  omega
theorem lastZ_miss (s : List UInt8) (k : Nat) (h : k < s.length) (hc : ((s[k].toNat : Int) == 47) = false) : lastZ s (k + 1) = lastZ s k := by
  have e : s.getD k 0 = s[k] := by simp [h]
  simp only [beq_eq_false_iff_ne] at hc
  unfold lastZ
  conv => lhs; unfold lastAt
  rw [e, if_neg (by omega)]
theorem usualL_ref (s : List UInt8) : usualL s = if s = [] ∨ ¬ (s[0]?.getD 0).toNat = 47 ∨ lastZ s s.length = 0 then [47] else s.take (lastZ s s.length).toNat := by
  have := lastAt_lt s 47 s.length
  unfold usualL lastZ
  by_cases h0 : s = []
  · subst h0; simp [lastAt]
  by_cases h1 : 0 < lastAt s 47 s.length
  · rw [show max 0 (lastAt s 47 s.length) = lastAt s 47 s.length from by omega]
    by_cases h2 : (s[0]?.getD 0).toNat = 47
    · rw [if_pos ⟨h1, h2⟩, if_neg (by simp [h0, h2]; omega)]
    · rw [if_neg (by simp [h2]), if_pos (by simp [h2])]
  · rw [if_neg (by simp [h1]), if_pos (by right; right; omega)]
end Go.Proofs.Ytglbkkgejficcaa
