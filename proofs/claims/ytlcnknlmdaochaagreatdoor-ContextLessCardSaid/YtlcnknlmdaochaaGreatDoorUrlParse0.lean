/- The walk of urls.Parse, told alone. -/
import Derived.Test.YtlcnknlmdaochaaGreatDoorUrlPRes
set_option linter.unusedVariables false
set_option linter.unusedSimpArgs false
set_option maxHeartbeats 16000000
namespace Go.Proofs.YtlcnknlmdaochaaGreatDoor
open Go.RowKit
set_option maxRecDepth 100000 in
theorem parse_0 (s:List UInt8) (base:UrlL) (w:World) (hE:EnvH w) (hz:s.length≤140737488351232) (hs:sizeU base≤1000000000) (hport:base.port≤9223372036854775807):
 Calls Tryz.prog 28 #[.string ⟨s.toArray⟩,urlV base, .bool false] w fun e w'=>e= .returned (pairU (parseU s base false))∧Below w.heap.size w w':=by
 obtain⟨w1,hw1⟩:∃w1,w.alloc (.cells #[.string ⟨base.scheme.toArray⟩, .string ⟨base.user.toArray⟩, .string ⟨base.pass.toArray⟩, .string ⟨base.host.toArray⟩, .int .i64 base.port, .string ⟨base.path.toArray⟩, .string ⟨base.query.toArray⟩, .bool base.hasQ, .string ⟨base.mark.toArray⟩, .bool base.hasM] 23)=w1:=⟨_,rfl⟩
 have hb1:Below w.heap.size w w1:=by rw[←hw1];exact below_alloc w _
 have hU1:UrlAt w.heap.size base w1:=by rw[←hw1];exact heap_alloc_new w _
 obtain⟨w2,hw2⟩:∃w2,w1.alloc (.cells #[.string ⟨#[]⟩, .string ⟨#[]⟩, .string ⟨#[]⟩, .string ⟨#[]⟩, .int .i64 0, .string ⟨#[]⟩, .string ⟨#[]⟩, .bool false, .string ⟨#[]⟩, .bool false] 23)=w2:=⟨_,rfl⟩
 have hb2:Below w1.heap.size w1 w2:=by rw[←hw2];exact below_alloc w1 _
 have hR2:UrlAt w1.heap.size zeroU w2:=by rw[←hw2];exact heap_alloc_new w1 _
 have hU2:UrlAt w.heap.size base w2:=(hb2.block _ hU1.lt).trans hU1
 have hbb:=hb1.trans (hb2.mono hb1.size)
 have hE2:=hE.below hbb
 have h1:=hb1.size
 have hne:w.heap.size≠w1.heap.size:=Nat.ne_of_lt hU1.lt
 obtain⟨p0,p1,p2,p3,p4,p5,p6,p7,p8,p9⟩:=UrlAt.cells hU2
 obtain⟨r0,r1,r2,r3,r4,r5,r6,r7,r8,r9⟩:=UrlAt.cells hR2
 obtain⟨f0,f1,f2,f3,f4,f5,f6,f7,f8,f9⟩:=UrlAt.frees hR2
 have hRz:=hR2.put zeroU
 have hbz:=putU_below hbb h1 zeroU
 by_cases h0:4096<s.length
 ·have hp:parseU s base false= .error 3:=by unfold parseU;rw[if_pos h0]
  have hi:(4096:Int)<(s.length:Int):=by omega
  rw[hp];have HRz:=Lib.hid hRz;have HBz:=Lib.hid hbz;clear hp h0 hRz hbz hE hE2;unfold urlV;go_enter Tryz.func28,Tryz.ntmps28;go_wp2_with fail;exact⟨rfl,_,parse_results rfl rfl HRz.out,rfl,HBz.out⟩
 ·have hi:¬(4096:Int)<(s.length:Int):=by omega
  have HRz:=Lib.hid hRz;have HBz:=Lib.hid hbz;clear hRz hbz;have hpr:parseU s base false=readU s base false:=by unfold parseU;rw[if_neg h0,if_neg (by simp)]
  have cr:=read_url s base false (fun h=>by cases h) w2 hE2 hz (fun h=>by cases h);clear h0 hE hE2;unfold urlV at cr⊢;go_enter Tryz.func28,Tryz.ntmps28;go_wp2_with fail;go_at_call 62
  cases hr:readU s base false with
  |error n=>
   rw[hr]at cr;have HP:Hid (parseU s base false= .error n):=by show _=_;rw[hpr,hr]
   simp only[pairU,urlV]at cr;clear hr hpr;refine cr.mono ?_;rintro e w4 ⟨rfl,hb4⟩;have hR4:UrlAt w1.heap.size zeroU w4:=(hb4.block _ hR2.lt).trans hR2;have HR4:=Lib.hid (hR4.put zeroU);have HB4:=Lib.hid (putU_below (hbb.trans (hb4.mono hbb.size)) h1 zeroU);obtain⟨q0,q1,q2,q3,q4,q5,q6,q7,q8,q9⟩:=UrlAt.cells hR4;obtain⟨g0,g1,g2,g3,g4,g5,g6,g7,g8,g9⟩:=UrlAt.frees hR4;clear cr p0 p1 p2 p3 p4 p5 p6 p7 p8 p9 r0 f0 r1 f1 r2 f2 r3 f3 r4 f4 r5 f5 r6 f6 r7 f7 r8 f8 r9 f9 hR4 hb4;go_wp2_with fail;exact⟨rfl,_,parse_results rfl rfl HR4.out,by rw[HP.out];rfl,HB4.out⟩
  |ok v=>
   rw[hr]at cr;have HP:Hid (parseU s base false= .ok v):=by show _=_;rw[hpr,hr]
   simp only[pairU,urlV]at cr;clear hr hpr;refine cr.mono ?_;rintro e w4 ⟨rfl,hb4⟩;have hR4:UrlAt w1.heap.size zeroU w4:=(hb4.block _ hR2.lt).trans hR2;have HR4:=Lib.hid (hR4.put v);have HB4:=Lib.hid (putU_below (hbb.trans (hb4.mono hbb.size)) h1 v);obtain⟨q0,q1,q2,q3,q4,q5,q6,q7,q8,q9⟩:=UrlAt.cells hR4;obtain⟨g0,g1,g2,g3,g4,g5,g6,g7,g8,g9⟩:=UrlAt.frees hR4;clear cr p0 p1 p2 p3 p4 p5 p6 p7 p8 p9 r0 f0 r1 f1 r2 f2 r3 f3 r4 f4 r5 f5 r6 f6 r7 f7 r8 f8 r9 f9 hR4 hb4;go_wp2_with fail;exact⟨rfl,_,parse_results rfl rfl HR4.out,by rw[HP.out];rfl,HB4.out⟩
end Go.Proofs.YtlcnknlmdaochaaGreatDoor
