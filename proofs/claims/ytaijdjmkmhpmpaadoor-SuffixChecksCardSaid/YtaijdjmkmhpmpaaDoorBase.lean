/- Small lemmas for all walks of this seat: strings as lists of bytes, and how an ending is rewritten. -/
import Derived.Test.YtaijdjmkmhpmpaaDoorRows
import Derived.WalkKit
import Derived.WalkSpells
import Derived.WalkLawsBesides
import Derived.Lib.Strings
import Derived.Lib.LastIndexByte
import Derived.Lib.Hide
set_option linter.unusedVariables false
set_option linter.unusedSimpArgs false
namespace Go.Proofs.YtaijdjmkmhpmpaaDoor
open Go.RowKit

theorem ret_bool {a b : Bool} (h : a = b) : Ending.returned (.bool a) = .returned (.bool b) := by rw [h]
theorem ret_str {a b : List UInt8} (h : a = b) : Ending.returned (.string ⟨a.toArray⟩) = .returned (.string ⟨b.toArray⟩) := by rw [h]
theorem ret_int {k : IntKind} {a b : Int} (h : a = b) : Ending.returned (.int k a) = .returned (.int k b) := by rw [h]

theorem idx_mk (l : List UInt8) (k : Nat) (h : k < (ByteArray.mk l.toArray).size) : (ByteArray.mk l.toArray)[k] = l[k]'h := rfl
theorem size_mk (l : List UInt8) : (ByteArray.mk l.toArray).size = l.length := rfl
theorem str_open (s : ByteArray) : ∃ l : List UInt8, s = ⟨l.toArray⟩ ∧ l.length = s.size := ⟨s.data.toList, (Lib.mk_data s).symm, (Lib.size_eq s).symm⟩
attribute [go_sem] idx_mk ByteArray.extract_mk

theorem u8_lt (x : UInt8) : x.toNat < 256 := x.toNat_lt

/-- The last place of a byte among the first k, or -1. -/
def lastAt (l : List UInt8) (c : Nat) : Nat → Int
  | 0 => -1
  | k + 1 => if (l.getD k 0).toNat = c then (k : Int) else lastAt l c k

theorem lastIdx_mk (l : List UInt8) (c : Nat) : ∀ k, k ≤ l.length → Lib.lastIdx ⟨l.toArray⟩ (c : Int) k = lastAt l c k
  | 0, _ => rfl
  | k + 1, h => by
    have e : ((ByteArray.mk l.toArray).data[k]!) = l.getD k 0 := by
      show l.toArray[k]! = _
      simp [List.getD_eq_getElem?_getD, List.getElem!_eq_getElem?_getD]
      rfl
    simp only [Lib.lastIdx, lastAt, e, lastIdx_mk l c k (by omega), Int.natCast_inj]

theorem lastIndexByte_mk (l : List UInt8) (c : Nat) : Lib.lastIndexByte ⟨l.toArray⟩ (c : Int) = lastAt l c l.length := lastIdx_mk l c _ (Nat.le_refl _)

theorem lastAt_lt (l : List UInt8) (c : Nat) : ∀ k, -1 ≤ lastAt l c k ∧ lastAt l c k < k
  | 0 => by simp [lastAt]
  | k + 1 => by
    have := lastAt_lt l c k
    unfold lastAt
    split <;> omega
end Go.Proofs.YtaijdjmkmhpmpaaDoor
