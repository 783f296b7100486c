/- The walks of the small functions of the reference of layer 2: bounds, biases, digits, numbers. -/
import Derived.Test.YtgihofogkoeimaaGreatDoorGTell
import Derived.Test.YtgihofogkoeimaaGreatDoorGEnc
import Derived.Test.YtgihofogkoeimaaGreatDoorGSigns
import Derived.Deep.LoopGhost
import Derived.Deep.DeepCutAuto
import Derived.Test.YtgihofogkoeimaaGreatDoorGEncB
set_option linter.unusedVariables false
set_option linter.unusedSimpArgs false
namespace Go.Proofs.YtgihofogkoeimaaGreatDoor
open Go.RowKit
end Go.Proofs.YtgihofogkoeimaaGreatDoor
namespace Go.Proofs.YtgihofogkoeimaaGreatDoor
open Go.RowKit
theorem ba_append (a b : List UInt8) : (ByteArray.mk a.toArray) ++ (ByteArray.mk b.toArray) = ByteArray.mk (a ++ b).toArray := by
 apply ByteArray.ext
 simp
end Go.Proofs.YtgihofogkoeimaaGreatDoor
namespace Go.Proofs.YtgihofogkoeimaaGreatDoor
open Go.RowKit
end Go.Proofs.YtgihofogkoeimaaGreatDoor
namespace Go.Proofs.YtgihofogkoeimaaGreatDoor
open Go.RowKit
def encodeL (s : List UInt8) : List UInt8 × Nat := if 65536 < s.length then ([], 3) else if Lib.validD s then (encR (runes s), 0) else ([], 4)
def encV (r : List UInt8 × Nat) : Value := .tuple #[.string ⟨r.1.toArray⟩, .int .i64 (r.2 : Int)]
theorem encode_any (s : List UInt8) (w : World) (hs : s.length ≤ 18000 ∨ 65536 < s.length) (hm : s.length ≤ 140737488351232) (hT : Lib.Utf8Tabs (validRen.g 3) (validRen.g 4) w) :
  Calls Tryz.prog 108 #[.string ⟨s.toArray⟩] w fun e w' => e = .returned (encV (encodeL s)) ∧ Below w.heap.size w w' := by
 unfold encodeL
 rcases hs with hs | hs
 ·rw [if_neg (by omega)]
  cases hv : Lib.validD s with
  | true => exact encode_walk s w hs hT hv
  | false => exact encode_bad s w (by omega) hT hv
 ·rw [if_pos hs]
  refine (encode_long s w hs hm).mono ?_
  rintro e w' ⟨he, rfl⟩
  exact ⟨he, Below.refl _ _⟩
end Go.Proofs.YtgihofogkoeimaaGreatDoor
