/- footmanlaw06.great. -/
import Derived.Test.YtlcnknlmdaochaaGreatDoorGUrl5
import Derived.Test.YtlcnknlmdaochaaGreatDoorGOpen
set_option linter.unusedVariables false
set_option linter.unusedSimpArgs false
set_option maxHeartbeats 16000000
namespace Go.Proofs.YtlcnknlmdaochaaGreatDoor
open Go.RowKit
open Go.Sort
def greatB (s:List UInt8):Prop:=(1000<s.length∧s.length≤4096)∨9000<s.length
theorem great_yes {s:List UInt8} (h:greatB s) (w:World):Calls Tryz.prog 27 #[.string ⟨s.toArray⟩] w fun e w'=>e= .returned (.bool true)∧w=w':=by
 rcases h with ⟨h1,h2⟩|h1
 ·have i1:(1000:Int)<(s.length:Int):=by omega
  have i2:(s.length:Int)≤4096:=by omega
  go_enter Tryz.func27,Tryz.ntmps27;go_wp2_with fail;go_ret;exact⟨rfl,rfl⟩
 ·have i1:(1000:Int)<(s.length:Int):=by omega
  have i2:(4096:Int)<(s.length:Int):=by omega
  have i3:(9000:Int)<(s.length:Int):=by omega
  go_enter Tryz.func27,Tryz.ntmps27;go_wp2_with fail;go_ret;exact⟨rfl,rfl⟩
theorem great_no {s:List UInt8} (h:¬greatB s) (w:World):Calls Tryz.prog 27 #[.string ⟨s.toArray⟩] w fun e w'=>e= .returned (.bool false)∧w=w':=by
 unfold greatB at h;have d2:decide (9000<(s.length:Int))=false:=decide_eq_false (by omega);by_cases h1:1000<s.length
 ·have i1:decide (1000<(s.length:Int))=true:=decide_eq_true (by omega)
  have d1:decide ((s.length:Int)≤4096)=false:=decide_eq_false (by omega);clear h;go_enter Tryz.func27,Tryz.ntmps27;go_wp2_with fail;go_ret;exact⟨rfl,rfl⟩
 ·have i1:decide (1000<(s.length:Int))=false:=decide_eq_false (by omega)
  clear h;go_enter Tryz.func27,Tryz.ntmps27;go_wp2_with fail;go_ret;exact⟨rfl,rfl⟩
theorem eqU_self (u:UrlL):eqU u u=true:=eqU_iff.2 rfl
set_option maxRecDepth 100000 in
theorem size_u (u:UrlL) (w:World) (h:SizedU u):Calls Tryz.prog 16 #[urlV u] w fun e w'=>e= .returned (.int .i64 (sizeU u:Int))∧Below w.heap.size w w':=by
 obtain⟨w1,hw1⟩:∃w1,w.alloc (.cells #[.string ⟨u.scheme.toArray⟩, .string ⟨u.user.toArray⟩, .string ⟨u.pass.toArray⟩, .string ⟨u.host.toArray⟩, .int .i64 u.port, .string ⟨u.path.toArray⟩, .string ⟨u.query.toArray⟩, .bool u.hasQ, .string ⟨u.mark.toArray⟩, .bool u.hasM] 23)=w1:=⟨_,rfl⟩;have hb1:Below w.heap.size w w1:=by rw[←hw1];exact below_alloc w _
 have hU1:UrlAt w.heap.size u w1:=by rw[←hw1];exact heap_alloc_new w _
 obtain⟨p0,p1,p2,p3,p4,p5,p6,p7,p8,p9⟩:=UrlAt.cells hU1;obtain⟨h1,h2,h3,h4,h5,h6,h7,_,_⟩:=h;have hz:Hid ((sizeU u:Int)=(u.scheme.length:Int)+u.user.length+u.pass.length+u.host.length+u.path.length+u.query.length+u.mark.length):=by
  show _=_;unfold sizeU;omega
 unfold urlV;go_enter Tryz.func16,Tryz.ntmps16;go_wp2_with fail;go_ret;exact⟨by rw[hz.out];rfl,hb1⟩
theorem quiet_callU {f:FuncId} {args:Array Value} {v:Value} {w1:World} (h:∀W,Go.RowKit.Below w1.heap.size w1 W→Calls Tryz.prog f args W fun e W'=>e= .returned v∧Go.RowKit.Below W.heap.size W W') (d:Nat) (os:Array Obj):
 Calls Tryz.prog f args (grow (redrawn w1 d) os) fun e w''=>e= .returned v∧∃p:Regrown,w''=grow (redrawn w1 p.d) p.os:=Calls.regrown_of (h _ (below_regrown w1 d os))
end Go.Proofs.YtlcnknlmdaochaaGreatDoor
