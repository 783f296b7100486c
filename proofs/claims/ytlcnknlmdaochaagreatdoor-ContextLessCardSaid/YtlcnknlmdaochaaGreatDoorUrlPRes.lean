/- What urls.Parse hands back. -/
import Derived.Test.YtlcnknlmdaochaaGreatDoorGUrl5
set_option linter.unusedVariables false
set_option linter.unusedSimpArgs false
set_option maxHeartbeats 16000000
namespace Go.Proofs.YtlcnknlmdaochaaGreatDoor
open Go.RowKit
set_option maxRecDepth 100000 in
theorem parse_results {B:Nat} {W:World} {v:UrlL} {k:Int} {tmps:Array Value} (h6:tmps[6]?.getD undef= .pointer (some ⟨B,0,none⟩)) (h7:tmps[7]?.getD undef= .int .i64 k) (hU:UrlAt B v W):
 (results Tryz.f28 tmps).run Tryz.prog W= .ok (.tuple #[urlV v, .int .i64 k]) W:=by
 obtain⟨c0,c1,c2,c3,c4,c5,c6,c7,c8,c9⟩:=UrlAt.cells hU
 simp[results,Tryz.results28,go_sem,h6,h7,c0,c1,c2,c3,c4,c5,c6,c7,c8,c9]
 rfl
end Go.Proofs.YtlcnknlmdaochaaGreatDoor
