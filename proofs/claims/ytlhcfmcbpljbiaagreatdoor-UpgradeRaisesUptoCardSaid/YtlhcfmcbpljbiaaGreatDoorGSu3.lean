/- The walks of the reference's many and last (suffix). -/
import Derived.Test.YtlhcfmcbpljbiaaGreatDoorGBel
import Derived.ChangeSlices
set_option linter.unusedVariables false
set_option linter.unusedSimpArgs false
set_option maxHeartbeats 16000000
namespace Go.Proofs.YtlhcfmcbpljbiaaGreatDoor
open Go.RowKit
theorem dot_tail (a:List UInt8):(ByteArray.mk a.toArray)++(ByteArray.mk #[46])=ByteArray.mk (a++[46]).toArray:=ba_join a [46]
attribute [local go_sem] dot_tail ba_append
theorem join_drop_le:∀(l:List (List UInt8)) (k:Nat),(joinL 46 (l.drop k)).length≤(joinL 46 l).length
 |[],k=>by simp
 |p::l,0=>by simp
 |[p],k+1=>by simp[joinL]
 |p::q::l,k+1=>by
  have ih:=join_drop_le (q::l) k;rw[List.drop_succ_cons,joinL_cons (l:=q::l) (by simp),List.length_append,List.length_cons];omega
end Go.Proofs.YtlhcfmcbpljbiaaGreatDoor
