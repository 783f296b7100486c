/- The walks of the reference's Hex, count, number, digits and parts. -/
import Derived.Test.YtgihofogkoeimaaGreatDoorGCnt
import Derived.Test.YtgihofogkoeimaaGreatDoorGMath
set_option linter.unusedVariables false
set_option linter.unusedSimpArgs false
namespace Go.Proofs.YtgihofogkoeimaaGreatDoor
open Go.RowKit
end Go.Proofs.YtgihofogkoeimaaGreatDoor
namespace Go.Proofs.YtgihofogkoeimaaGreatDoor
open Go.RowKit
end Go.Proofs.YtgihofogkoeimaaGreatDoor
namespace Go.Proofs.YtgihofogkoeimaaGreatDoor
open Go.RowKit
theorem e_str : Elem1 Tryz.prog 42 9 (.string ⟨#[]⟩) 16 := ⟨Tryz.underlying42, info_parts (by kernel_rfl), rfl⟩
def cur (s : List UInt8) (f k : Nat) : List UInt8 := List.take (k - f) (List.drop f s)
end Go.Proofs.YtgihofogkoeimaaGreatDoor
