/- The walk of the reference's Four (written by mkrfour.py). -/
import Derived.Test.YtlhcfmcbpljbiaaGreatDoorGMath
import Derived.Deep.AppendLies
import Derived.Lib.IfaceEq
import Derived.Lib.AtoiErrMem
import Derived.Shelf.Strings.SlTrimAscii
import Derived.Deep.DeepCutAuto
set_option linter.unusedVariables false
set_option linter.unusedSimpArgs false
set_option maxHeartbeats 16000000
namespace Go.Proofs.YtlhcfmcbpljbiaaGreatDoor
open Go.RowKit
theorem below_setRow {B g:Nat} {a w:World} (h:Below B a w) (hg:B≤g) (cs:Array Value):Below B a (w.setRow g cs):=by
 refine h.trans ⟨rfl,rfl,rfl, ?_,fun k hk=>setRow_other w g k cs (by omega)⟩;simp[World.setRow]
end Go.Proofs.YtlhcfmcbpljbiaaGreatDoor
