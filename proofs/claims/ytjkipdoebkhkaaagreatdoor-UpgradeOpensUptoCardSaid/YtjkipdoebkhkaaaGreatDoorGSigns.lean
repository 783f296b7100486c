/- One step of the reference's Signs against the decoder, plain. -/
import Derived.Test.YtjkipdoebkhkaaaGreatDoorGMath
import Derived.Lib.ValidLaws
set_option linter.unusedVariables false
set_option linter.unusedSimpArgs false
set_option maxHeartbeats 16000000
namespace Go.Proofs.YtjkipdoebkhkaaaGreatDoor
def bt (s:List UInt8) (i:Nat):Nat:=(s.getD i 0).toNat
def acc (s:List UInt8) (i x0:Nat):Nat→Nat
 |0=>x0
 |k+1=>64*acc s i x0 k+bt s (i+(k+1))-128
end Go.Proofs.YtjkipdoebkhkaaaGreatDoor
