/- Small laws besides. -/
import Derived.Test.YtlcnknlmdaochaaGreatDoorGMath
set_option linter.unusedVariables false
set_option linter.unusedSimpArgs false
set_option maxHeartbeats 16000000
namespace Go.Proofs.YtlcnknlmdaochaaGreatDoor
open Go.RowKit
section
open Go.RowKit
theorem own_drew {w:World} {base e size:Nat} {v:Value} {n:Nat} {xs:List Value} (h:w.ownsRow base e size v n xs):w.drew.ownsRow base e size v n xs:=h
end
end Go.Proofs.YtlcnknlmdaochaaGreatDoor
