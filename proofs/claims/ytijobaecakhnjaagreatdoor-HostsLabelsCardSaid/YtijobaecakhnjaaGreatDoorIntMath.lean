/- Numbers read off their digits, plain. -/
import Derived.Test.YtijobaecakhnjaaGreatDoorBase
import Derived.Lib.AtoiAllMem
set_option linter.unusedVariables false
set_option linter.unusedSimpArgs false
namespace Go.Proofs.YtijobaecakhnjaaGreatDoor
open Go.RowKit

/-- What a digit in hexadecimal tells; -1: it is none. -/
def hexI (c : Nat) : Int := if 48 ≤ c ∧ c ≤ 57 then (c : Int) - 48 else if 97 ≤ c ∧ c ≤ 102 then (c : Int) - 87 else if 65 ≤ c ∧ c ≤ 70 then (c : Int) - 55 else -1
theorem hexI_bd (c : Nat) : -1 ≤ hexI c ∧ hexI c ≤ 15 := by unfold hexI; split <;> (try split) <;> (try split) <;> omega
/-- A number's digits, one by one. -/
def parseB (base max : Nat) : Nat → List UInt8 → Lib.NumEnd Nat
  | acc, [] => .ok acc
  | acc, c :: r => if hexI c.toNat < 0 ∨ (base : Int) ≤ hexI c.toNat then .syntax else if max < acc * base + (hexI c.toNat).toNat then .range else parseB base max (acc * base + (hexI c.toNat).toNat) r
theorem parseB_syn {base max acc : Nat} {c : UInt8} {r : List UInt8} (h : hexI c.toNat < 0 ∨ (base : Int) ≤ hexI c.toNat) : parseB base max acc (c :: r) = .syntax := by rw [parseB, if_pos h]
theorem parseB_rng {base max acc : Nat} {c : UInt8} {r : List UInt8} (h : 0 ≤ hexI c.toNat) (h1 : hexI c.toNat < (base : Int)) (h2 : max < acc * base + (hexI c.toNat).toNat) : parseB base max acc (c :: r) = .range := by rw [parseB, if_neg (by omega), if_pos h2]
theorem parseB_go {base max acc : Nat} {c : UInt8} {r : List UInt8} (h : 0 ≤ hexI c.toNat) (h1 : hexI c.toNat < (base : Int)) (h2 : acc * base + (hexI c.toNat).toNat ≤ max) : parseB base max acc (c :: r) = parseB base max (acc * base + (hexI c.toNat).toNat) r := by
  conv => lhs; rw [parseB]
  rw [if_neg (by omega), if_neg (by omega)]
theorem parseB_le (base max : Nat) : ∀ (s : List UInt8) (acc v : Nat), acc ≤ max → parseB base max acc s = .ok v → v ≤ max
  | [], acc, v, h, e => by simp only [parseB, Lib.NumEnd.ok.injEq] at e; omega
  | c :: r, acc, v, h, e => by
    unfold parseB at e
    split at e
    · cases e
    · split at e
      · cases e
      · exact parseB_le base max r _ v (by omega) e
end Go.Proofs.YtijobaecakhnjaaGreatDoor
