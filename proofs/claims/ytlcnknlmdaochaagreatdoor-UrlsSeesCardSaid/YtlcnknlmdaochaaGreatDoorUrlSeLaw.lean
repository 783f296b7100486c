/- The law UrlsSees walked. -/
import Derived.Test.YtlcnknlmdaochaaGreatDoorGUrlS
import Derived.Test.YtlcnknlmdaochaaGreatDoorGRU6
import Derived.Test.YtlcnknlmdaochaaGreatDoorGUrl6
set_option linter.unusedVariables false
set_option linter.unusedSimpArgs false
set_option maxHeartbeats 16000000
namespace Go.Proofs.YtlcnknlmdaochaaGreatDoor
open Go.RowKit
open Go.Sort
set_option maxRecDepth 100000 in
theorem urlsees_law (s:List UInt8) (base:UrlL) (w:World) (hm:s.length≤140737488351232) (hS:SizedU base) (hE:EnvH w):
 Calls Tryz.prog 4 #[.string ⟨s.toArray⟩,urlV base] w fun e w'=>e= .returned (.bool true)∧Below w.heap.size w w':=by
 obtain⟨wa,hwa⟩:∃W,w.alloc (.cells #[.string ⟨base.scheme.toArray⟩, .string ⟨base.user.toArray⟩, .string ⟨base.pass.toArray⟩, .string ⟨base.host.toArray⟩, .int .i64 base.port, .string ⟨base.path.toArray⟩, .string ⟨base.query.toArray⟩, .bool base.hasQ, .string ⟨base.mark.toArray⟩, .bool base.hasM] 23)=W:=⟨_,rfl⟩
 have hba:Below w.heap.size w wa:=by rw[←hwa];exact below_alloc w _
 have hUa:UrlAt w.heap.size base wa:=by rw[←hwa];exact heap_alloc_new w _
 by_cases hg:greatB s
 ·have cg:=great_yes hg wa
  clear hg;unfold urlV;go_enter Tryz.func4,Tryz.ntmps4;go_wp2_with(go_at_call 27;refine cg.mono ?_;rintro e w1 ⟨rfl,rfl⟩);go_ret;exact⟨rfl,hba⟩
 ·have cg:=great_no hg wa
  have cz:=size_u base wa hS;obtain⟨p0,p1,p2,p3,p4,p5,p6,p7,p8,p9⟩:=hUa.cells;by_cases hz:5000<sizeU base
  ·have hzi:(5000:Int)<(sizeU base:Int):=by omega
   clear hg;generalize sizeU base=Z at*;unfold urlV at cz⊢;go_enter Tryz.func4,Tryz.ntmps4;go_wp2_with(go_at_call 27;refine cg.mono ?_;rintro e w1 ⟨rfl,rfl⟩);go_at_call 16;refine cz.mono ?_;rintro e w2 ⟨rfl,hb2⟩;go_wp2_with fail;go_ret;exact⟨rfl,below_next hba hb2⟩
  ·have hzi:(sizeU base:Int)≤5000:=by omega
   have hport:=hS.high;have ca:=fun W hW=>parse_1 s base seen_c W hW hm (by omega) hport
   have cb:=fun W=>rParse_u s base true (fun _=>rseen_c) W hm (by omega) hport
   have hEa:=hE.below hba;clear hg;generalize parseU s base true=X at*;obtain⟨u,k,hX⟩:∃(u:UrlL) (k:Int),pairU X= .tuple #[urlV u, .int .i64 k]:=by
    cases X with
    |error n=>exact⟨_,_,rfl⟩
    |ok v=>exact⟨_,_,rfl⟩
   rw[hX]at ca cb;clear hX;have heq:=eq_urls u u;rw[eqU_self]at heq;generalize sizeU base=Z at*;unfold urlV at ca cb heq cz⊢;go_enter Tryz.func4,Tryz.ntmps4;go_wp2_with(go_at_call 27;refine cg.mono ?_;rintro e w1 ⟨rfl,rfl⟩);go_at_call 16;refine cz.mono ?_;rintro e w1 ⟨rfl,hb1⟩;have hU1:=hUa.on hb1;have hB1:=below_next hba hb1;have hE1:=hEa.below hb1;clear hwa cz cg p0 p1 p2 p3 p4 p5 p6 p7 p8 p9 hUa hba hb1 hE hEa;obtain⟨p0,p1,p2,p3,p4,p5,p6,p7,p8,p9⟩:=hU1.cells;go_wp2_with fail;go_at_call 28;refine(ca _ hE1).mono ?_;rintro e w2 ⟨rfl,hb2⟩;have hU2:=hU1.on hb2;have hB2:=below_next hB1 hb2;have hA:=UrlAt.news w2 u;have hBA:=below_news hB2 u;have hUA:=hU2.pass (u:=u);clear ca p0 p1 p2 p3 p4 p5 p6 p7 p8 p9 hE1 hU1 hB1 hb2;go_upto_region 4 with fail;unfold cellsU at hA hBA hUA;obtain⟨w3,hw3⟩:∃W,w2.alloc (.cells #[.string ⟨u.scheme.toArray⟩, .string ⟨u.user.toArray⟩, .string ⟨u.pass.toArray⟩, .string ⟨u.host.toArray⟩, .int .i64 u.port, .string ⟨u.path.toArray⟩, .string ⟨u.query.toArray⟩, .bool u.hasQ, .string ⟨u.mark.toArray⟩, .bool u.hasM] 23)=W:=⟨_,rfl⟩;have hA3:UrlAt w2.heap.size u w3:=by rw[←hw3];exact hA
   have hB3:Below w.heap.size w w3:=by rw[←hw3];exact hBA
   have hU3:UrlAt w.heap.size base w3:=by rw[←hw3];exact hUA
   rw[hw3];clear hw3 hA hBA hUA hB2 hU2;obtain⟨p0,p1,p2,p3,p4,p5,p6,p7,p8,p9⟩:=hU3.cells;go_wp2_with fail;go_at_call 29;refine(cb _).mono ?_;rintro e w4 ⟨rfl,hb4⟩;have hA4:=hA3.on hb4;have hB4:=below_next hB3 hb4;have hBB:=below_news hB4 u;have hlt:=hA4.lt;clear p0 p1 p2 p3 p4 p5 p6 p7 p8 p9 hU3;obtain⟨p0,p1,p2,p3,p4,p5,p6,p7,p8,p9⟩:=hA4.cells;clear cb hA3 hB3 hb4 hA4 hB4;go_wp2_with fail;go_ret;exact⟨rfl,hBB⟩
end Go.Proofs.YtlcnknlmdaochaaGreatDoor
