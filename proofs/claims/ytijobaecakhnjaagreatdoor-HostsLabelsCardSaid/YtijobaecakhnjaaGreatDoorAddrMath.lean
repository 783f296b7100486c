/- Numbers of an address's parts, and the four bytes that a text says, plain. -/
import Derived.Test.YtijobaecakhnjaaGreatDoorIntMath
import Derived.Test.YtijobaecakhnjaaGreatDoorParts
set_option linter.unusedVariables false
set_option linter.unusedSimpArgs false
namespace Go.Proofs.YtijobaecakhnjaaGreatDoor

/-- Digits by a base, 2^32 at most. -/
def cntF (base : Nat) : Nat → List UInt8 → Option Nat
  | acc, [] => some acc
  | acc, c :: r => if hexI c.toNat < 0 ∨ (base : Int) ≤ hexI c.toNat then none else cntF base (min 4294967296 (acc * base + (hexI c.toNat).toNat)) r
def cntL (base : Nat) (s : List UInt8) : Option Nat := cntF base 0 s
def allDig (base : Nat) (s : List UInt8) : Bool := s.all fun c => decide (0 ≤ hexI c.toNat) && decide (hexI c.toNat < (base : Int))
theorem allDig_cons {base : Nat} {c : UInt8} {s : List UInt8} : allDig base (c :: s) = true ↔ (0 ≤ hexI c.toNat ∧ hexI c.toNat < (base : Int)) ∧ allDig base s = true := by
  simp [allDig, List.all_cons]
theorem cntF_none {base : Nat} : ∀ {s : List UInt8} {acc : Nat}, allDig base s = false → cntF base acc s = none
  | [], _, h => by simp [allDig] at h
  | c :: s, acc, h => by
    unfold cntF
    split
    · rfl
    · rename_i hc
      refine cntF_none ?_
      cases hs : allDig base s with
      | false => rfl
      | true => rw [allDig_cons.2 ⟨by omega, hs⟩] at h; cases h
theorem cntF_le {base : Nat} : ∀ {s : List UInt8} {acc n : Nat}, acc ≤ 4294967296 → cntF base acc s = some n → n ≤ 4294967296
  | [], acc, n, h, e => by simp only [cntF, Option.some.injEq] at e; omega
  | c :: s, acc, n, h, e => by
    unfold cntF at e
    split at e
    · cases e
    · exact cntF_le (by omega) e
theorem cntF_top {base : Nat} (hb : 1 ≤ base) : ∀ {s : List UInt8}, allDig base s = true → cntF base 4294967296 s = some 4294967296
  | [], _ => rfl
  | c :: s, h => by
    obtain ⟨h1, h2⟩ := allDig_cons.1 h
    unfold cntF
    rw [if_neg (by omega)]
    have : 4294967296 * 1 ≤ 4294967296 * base := Nat.mul_le_mul_left _ hb
    rw [Nat.min_eq_left (by omega)]
    exact cntF_top hb h2
theorem min_step {m acc base d : Nat} (hb : 1 ≤ base) : min m (min m acc * base + d) = min m (acc * base + d) := by
  rcases Nat.le_total m acc with h | h
  · rw [Nat.min_eq_left h]
    have h1 : m * 1 ≤ m * base := Nat.mul_le_mul_left _ hb
    have h2 : m * 1 ≤ acc * base := Nat.mul_le_mul h hb
    rw [Nat.min_eq_left (by omega), Nat.min_eq_left (by omega)]
  · rw [Nat.min_eq_right h]
/-- What the library's number is, cut at 2^32. -/
def cutP : Lib.NumEnd Nat → Nat
  | .ok v => min 4294967296 v
  | _ => 4294967296
theorem cnt_parse {base max : Nat} (hb : 1 ≤ base) (hm : 4294967296 ≤ max) : ∀ {s : List UInt8} {acc : Nat}, allDig base s = true → cntF base (min 4294967296 acc) s = some (cutP (parseB base max acc s))
  | [], acc, _ => rfl
  | c :: s, acc, h => by
    obtain ⟨h1, h2⟩ := allDig_cons.1 h
    unfold cntF
    rw [if_neg (by omega), min_step hb]
    by_cases hr : max < acc * base + (hexI c.toNat).toNat
    · rw [parseB_rng h1.1 h1.2 hr, Nat.min_eq_left (by omega), cntF_top hb h2]
      rfl
    · rw [parseB_go h1.1 h1.2 (by omega)]
      exact cnt_parse hb hm h2
theorem cnt_zeros {base : Nat} : ∀ {s : List UInt8}, 1 ≤ base → cntL base (s.dropWhile fun c => c == 48) = cntL base s
  | [], _ => rfl
  | c :: s, hb => by
    by_cases h : c = 48
    · subst h
      rw [List.dropWhile_cons_of_pos (by rfl), cnt_zeros hb]
      conv => rhs; unfold cntL cntF
      have e : hexI (48 : UInt8).toNat = 0 := rfl
      rw [e, if_neg (by omega), show min 4294967296 (0 * base + Int.toNat 0) = 0 by simp]
      rfl
    · rw [List.dropWhile_cons_of_neg (by simpa using h)]
theorem allDig_zeros {base : Nat} : ∀ {s : List UInt8}, allDig base s = true → allDig base (s.dropWhile fun c => c == 48) = true
  | [], _ => rfl
  | c :: s, h => by
    by_cases hc : c = 48
    · subst hc
      rw [List.dropWhile_cons_of_pos (by rfl)]
      exact allDig_zeros (allDig_cons.1 h).2
    · rw [List.dropWhile_cons_of_neg (by simpa using hc)]; exact h
/-- Does 0x stand ahead? -/
def hexPre (s : List UInt8) : Bool := decide (2 ≤ s.length) && ((s.getD 0 0).toNat == 48) && ((s.getD 1 0).toNat == 120 || (s.getD 1 0).toNat == 88)
/-- A part's number. -/
def numL (s : List UInt8) : Option Nat :=
  if hexPre s then cntL 16 (s.drop 2) else if s = [] then none else if (s.getD 0 0).toNat = 48 then cntL 8 s else cntL 10 s
/-- Does a part look like a number? -/
def likeL (s : List UInt8) : Bool := if hexPre s then (numL s).isSome else !s.isEmpty && allDig 10 s
/-- The parts of a text, but for an empty one at its end. -/
def fourParts (s : List UInt8) : List (List UInt8) := if 1 < (partsL 46 s).length ∧ (partsL 46 s).getLastD [] = [] then (partsL 46 s).dropLast else partsL 46 s
/-- The parts' numbers, by their rooms. -/
def evalF : List (List UInt8) → Nat → Nat → Option Nat
  | [], _, all => some all
  | x :: l, room, all => match numL x with
    | none => none
    | some n => if l = [] then (if n < room then some (all * room + n) else none) else if n < 256 then evalF l (room / 256) (all * 256 + n) else none
/-- The four bytes that a text says: does it look like such ones, an error's number, the number. -/
def fourL (s : List UInt8) : Bool × Nat × Nat :=
  if likeL ((fourParts s).getLastD []) = false then (false, 0, 0)
  else if 4 < (fourParts s).length then (true, 5, 0)
  else match evalF (fourParts s) 4294967296 0 with
    | none => (true, 5, 0)
    | some n => (true, 0, n)
end Go.Proofs.YtijobaecakhnjaaGreatDoor
