/- The walks of sites.of, Same and Origin. -/
import Derived.Test.YtlhcfmcbpljbiaaGreatDoorGSit1
import Derived.Test.YtlhcfmcbpljbiaaGreatDoorGUrl5
set_option linter.unusedVariables false
set_option linter.unusedSimpArgs false
set_option maxHeartbeats 16000000
namespace Go.Proofs.YtlhcfmcbpljbiaaGreatDoor
open Go.RowKit
def siteV (x:Bool×List UInt8):Value:=if x.1 then .iface 77 (.string ⟨x.2.toArray⟩)else .iface 80 (.string ⟨x.2.toArray⟩)
theorem site_any (L:List (List UInt8)) (h:List UInt8) (v:Value) (w:World) (hE:EnvH w) (ht:Txt w v L) (hl:L.length≤1000000) (hs:∀p∈L,p.length≤4000000000) (hh:h.length≤1000):
 Calls Tryz.prog 41 #[v, .string ⟨h.toArray⟩] w fun e w'=>e= .returned (siteV (siteL L h))∧Below w.heap.size w w':=by
 have co:=own_any L h v w hE ht hl hs hh
 have hd:siteL L h=if (ownL L h).2=0∧(ownL L h).1≠[]then (true,(ownL L h).1)else (false,h):=rfl
 clear ht hs
 generalize siteL L h=r at*
 generalize ownL L h=q at*
 obtain⟨q,k⟩:=q
 simp only at hd
 simp only[sufV]at co
 by_cases hk:k=0
 ·subst hk
  by_cases hq:q=[]
  ·subst hq
   rw[if_neg (by simp)]at hd;subst hd;go_enter Tryz.func41,Tryz.ntmps41;go_wp2_with(go_at_call 87;refine co.mono ?_;rintro e w1 ⟨rfl,hb1⟩);go_ret;exact⟨rfl,hb1⟩
  ·rw[if_pos ⟨rfl,hq⟩]at hd
   subst hd;have h1:=isEmpty_ne hq;have h2:=beq_ne hq;clear hq;go_enter Tryz.func41,Tryz.ntmps41;go_wp2_with(go_at_call 87;refine co.mono ?_;rintro e w1 ⟨rfl,hb1⟩);go_ret;exact⟨rfl,hb1⟩
 ·rw[if_neg (by omega)]at hd
  subst hd;have h1:((k:Int)==0)=false:=beq_eq_false_iff_ne.2 (by omega);clear hk;go_enter Tryz.func41,Tryz.ntmps41;go_wp2_with(go_at_call 87;refine co.mono ?_;rintro e w1 ⟨rfl,hb1⟩);go_ret;exact⟨rfl,hb1⟩
theorem owned_any (s:List UInt8) (w:World):Calls Tryz.prog 42 #[.string ⟨s.toArray⟩] w fun e w'=>e= .returned (.string ⟨s.toArray⟩)∧w=w':=by
 go_enter Tryz.func42,Tryz.ntmps42;go_wp2_with fail;go_ret;exact⟨rfl,rfl⟩
theorem alone_any (s:List UInt8) (w:World):Calls Tryz.prog 43 #[.string ⟨s.toArray⟩] w fun e w'=>e= .returned (.string ⟨s.toArray⟩)∧w=w':=by
 go_enter Tryz.func43,Tryz.ntmps43;go_wp2_with fail;go_ret;exact⟨rfl,rfl⟩
set_option maxRecDepth 100000 in
theorem same_any (L:List (List UInt8)) (a b:UrlL) (v:Value) (w:World) (hE:EnvH w) (ht:Txt w v L) (hl:L.length≤1000000) (hs:∀p∈L,p.length≤4000000000)
 (ha:sizeU a≤1000000000) (hb:sizeU b≤1000000000) (hpa:a.port≤9223372036854775807) (hpb:b.port≤9223372036854775807) (hha:checkU a=true→a.host.length≤1000) (hhb:checkU b=true→b.host.length≤1000):
 Calls Tryz.prog 12 #[v,urlV a,urlV b] w fun e w'=>e= .returned (.bool (sameL L a b))∧Below w.heap.size w w':=by
 have ck:∀W,Below w.heap.size w W→Calls Tryz.prog 39 #[v] W fun e W'=>e= .returned (.bool (checkL L))∧Below W.heap.size W W':=fun W hW=>check_any L v W (hE.below hW).t.env.shaped (ht.below hW (Nat.le_refl _)) (by omega) hs
 have ca:∀W,Below w.heap.size w W→Calls Tryz.prog 40 #[urlV a] W fun e W'=>e= .returned (.bool (checkU a))∧Below W.heap.size W W':=fun W hW=>check_u a W (hE.below hW) ha hpa
 have cb:∀W,Below w.heap.size w W→Calls Tryz.prog 40 #[urlV b] W fun e W'=>e= .returned (.bool (checkU b))∧Below W.heap.size W W':=fun W hW=>check_u b W (hE.below hW) hb hpb
 obtain⟨wa,hwa⟩:∃W,w.alloc (.cells #[.string ⟨a.scheme.toArray⟩, .string ⟨a.user.toArray⟩, .string ⟨a.pass.toArray⟩, .string ⟨a.host.toArray⟩, .int .i64 a.port, .string ⟨a.path.toArray⟩, .string ⟨a.query.toArray⟩, .bool a.hasQ, .string ⟨a.mark.toArray⟩, .bool a.hasM] 24)=W:=⟨_,rfl⟩
 obtain⟨wb,hwb⟩:∃W,wa.alloc (.cells #[.string ⟨b.scheme.toArray⟩, .string ⟨b.user.toArray⟩, .string ⟨b.pass.toArray⟩, .string ⟨b.host.toArray⟩, .int .i64 b.port, .string ⟨b.path.toArray⟩, .string ⟨b.query.toArray⟩, .bool b.hasQ, .string ⟨b.mark.toArray⟩, .bool b.hasM] 24)=W:=⟨_,rfl⟩
 have hsz:wa.heap.size=w.heap.size+1:=by rw[←hwa,World.size_alloc]
 have hba:Below w.heap.size w wa:=by rw[←hwa];exact below_alloc w _
 have hA0:UrlAt w.heap.size a wa:=by rw[←hwa];exact heap_alloc_new w _
 have hB:UrlAt (w.heap.size+1) b wb:=by rw[←hsz,←hwb];exact heap_alloc_new wa _
 have hA:UrlAt w.heap.size a wb:=by rw[←hwb];exact((below_alloc wa _).block _ hA0.lt).trans hA0
 have hbb:Below w.heap.size w wb:=by rw[←hwb];exact hba.alloc hba.size _
 have cs:=fun (h:List UInt8) (hh:h.length≤1000) W (hW:Below w.heap.size w W)=>site_any L h v W (hE.below hW) (ht.below hW (Nat.le_refl _)) hl hs hh
 have CS:=Lib.hid cs
 clear hE ht hs hA0 hba cs
 cases hk:checkL L with
 |false=>
  have hr:sameL L a b=false:=by unfold sameL;rw[hk];rfl
  rw[hr];rw[hk]at ck;unfold urlV at ca cb⊢;clear hk hr;go_enter Tryz.func12,Tryz.ntmps12;go_upto_region 1 with fail;go_wp2_with(go_at_call 39;refine(ck _ hbb).mono ?_;rintro e w1 ⟨rfl,hb1⟩);go_ret;exact⟨rfl,below_next hbb hb1⟩
 |true=>
  rw[hk]at ck
  cases hca:checkU a with
  |false=>
   have hr:sameL L a b=false:=by unfold sameL;rw[hk,hca];rfl
   rw[hr];rw[hca]at ca;unfold urlV at ca cb⊢;clear hk hr hca;go_enter Tryz.func12,Tryz.ntmps12;go_wp2_with(first|(go_at_call 39;refine(ck _ hbb).mono ?_;rintro e w1 ⟨rfl,hb1⟩;have hA1:=hA.on hb1;have hB1:=hB.on hb1;have h1:=below_next hbb hb1;clear hwa hwb hsz ck hA hB hbb hb1;obtain⟨p0,p1,p2,p3,p4,p5,p6,p7,p8,p9⟩:=hA1.cells)|(go_at_call 40;refine(ca _ h1).mono ?_;rintro e w2 ⟨rfl,hb2⟩;have hA2:=hA1.on hb2;have hB2:=hB1.on hb2;have h2:=below_next h1 hb2;clear ca p0 p1 p2 p3 p4 p5 p6 p7 p8 p9 hA1 hB1 h1 hb2;obtain⟨q0,q1,q2,q3,q4,q5,q6,q7,q8,q9⟩:=hB2.cells));go_ret;exact⟨rfl,h2⟩
  |true=>
   rw[hca]at ca
   cases hcb:checkU b with
   |false=>
    have hr:sameL L a b=false:=by unfold sameL;rw[hk,hca,hcb];rfl
    rw[hr];rw[hcb]at cb;unfold urlV at ca cb⊢;clear hk hr hca hcb;go_enter Tryz.func12,Tryz.ntmps12;go_wp2_with(first|(go_at_call 39;refine(ck _ hbb).mono ?_;rintro e w1 ⟨rfl,hb1⟩;have hA1:=hA.on hb1;have hB1:=hB.on hb1;have h1:=below_next hbb hb1;clear hwa hwb hsz ck hA hB hbb hb1;obtain⟨p0,p1,p2,p3,p4,p5,p6,p7,p8,p9⟩:=hA1.cells)|(go_at_call 40;refine(ca _ h1).mono ?_;rintro e w2 ⟨rfl,hb2⟩;have hA2:=hA1.on hb2;have hB2:=hB1.on hb2;have h2:=below_next h1 hb2;clear ca p0 p1 p2 p3 p4 p5 p6 p7 p8 p9 hA1 hB1 h1 hb2;obtain⟨q0,q1,q2,q3,q4,q5,q6,q7,q8,q9⟩:=hB2.cells)|(go_at_call 40;refine(cb _ h2).mono ?_;rintro e w3 ⟨rfl,hb3⟩;have hA3:=hA2.on hb3;have hB3:=hB2.on hb3;have h3:=below_next h2 hb3;clear cb hA2 hB2 h2 hb3));go_ret;exact⟨rfl,h3⟩
   |true=>
    have to1:∀(x:ByteArray) (w:World),(Instr.typeAssert (.iface 77 (.string x)) 75 77 true).run Tryz.prog w= .ok (.tuple #[.string x, .bool true]) w:=fun x w=>by kernel_rfl
    have to2:∀(x:ByteArray) (w:World),(Instr.typeAssert (.iface 80 (.string x)) 75 77 true).run Tryz.prog w= .ok (.tuple #[.string ⟨#[]⟩, .bool false]) w:=fun x w=>by kernel_rfl
    have ta2:∀(x:ByteArray) (w:World),(Instr.typeAssert (.iface 80 (.string x)) 75 80 true).run Tryz.prog w= .ok (.tuple #[.string x, .bool true]) w:=fun x w=>by kernel_rfl
    have hr:sameL L a b=((a.scheme==b.scheme)&&(if (siteL L a.host).1 then (siteL L b.host).1&&(siteL L a.host).2==(siteL L b.host).2 else (siteL L a.host).2==b.host)):=by unfold sameL;rw[hk,hca,hcb];rfl
    have cA:=CS.out a.host (hha hca);have cB:=CS.out b.host (hhb hcb);rw[hr];rw[hcb]at cb;unfold urlV at ca cb⊢;clear hk hr hca hcb CS
    cases he:(a.scheme==b.scheme)with
    |false=>
     have hne:¬a.scheme=b.scheme:=beq_eq_false_iff_ne.1 he;clear cA cB to1 to2 ta2;go_enter Tryz.func12,Tryz.ntmps12;go_wp2_with(first|(go_at_call 39;refine(ck _ hbb).mono ?_;rintro e w1 ⟨rfl,hb1⟩;have hA1:=hA.on hb1;have hB1:=hB.on hb1;have h1:=below_next hbb hb1;clear hwa hwb hsz ck hA hB hbb hb1;obtain⟨p0,p1,p2,p3,p4,p5,p6,p7,p8,p9⟩:=hA1.cells)|(go_at_call 40;refine(ca _ h1).mono ?_;rintro e w2 ⟨rfl,hb2⟩;have hA2:=hA1.on hb2;have hB2:=hB1.on hb2;have h2:=below_next h1 hb2;clear ca p0 p1 p2 p3 p4 p5 p6 p7 p8 p9 hA1 hB1 h1 hb2;obtain⟨q0,q1,q2,q3,q4,q5,q6,q7,q8,q9⟩:=hB2.cells)|(go_at_call 40;refine(cb _ h2).mono ?_;rintro e w3 ⟨rfl,hb3⟩;have hA3:=hA2.on hb3;have hB3:=hB2.on hb3;have h3:=below_next h2 hb3;clear cb hA2 hB2 h2 hb3 q0 q1 q2 q3 q4 q5 q6 q7 q8 q9;have r0:=hA3.cells.1;have s0:=hB3.cells.1;have r3:=hA3.cells.2.2.2.1;have s3:=hB3.cells.2.2.2.1))
     all_goals go_ret
     all_goals exact⟨rfl,h3⟩
    |true=>
     obtain⟨⟨x,s⟩,hx⟩:∃x,siteL L a.host=x:=⟨_,rfl⟩;obtain⟨⟨y,t⟩,hy⟩:∃y,siteL L b.host=y:=⟨_,rfl⟩;rw[hx]at cA⊢;rw[hy]at cB⊢;clear hx hy;simp only[siteV]at cA cB
     cases x with
     |true=>
      cases y
      all_goals
       simp only[if_true,if_false,Bool.false_eq_true]at cA cB;go_enter Tryz.func12,Tryz.ntmps12;go_wp2_with(first|(go_at_call 39;refine(ck _ hbb).mono ?_;rintro e w1 ⟨rfl,hb1⟩;have hA1:=hA.on hb1;have hB1:=hB.on hb1;have h1:=below_next hbb hb1;clear hwa hwb hsz ck hA hB hbb hb1;obtain⟨p0,p1,p2,p3,p4,p5,p6,p7,p8,p9⟩:=hA1.cells)|(go_at_call 40;refine(ca _ h1).mono ?_;rintro e w2 ⟨rfl,hb2⟩;have hA2:=hA1.on hb2;have hB2:=hB1.on hb2;have h2:=below_next h1 hb2;clear ca p0 p1 p2 p3 p4 p5 p6 p7 p8 p9 hA1 hB1 h1 hb2;obtain⟨q0,q1,q2,q3,q4,q5,q6,q7,q8,q9⟩:=hB2.cells)|(go_at_call 40;refine(cb _ h2).mono ?_;rintro e w3 ⟨rfl,hb3⟩;have hA3:=hA2.on hb3;have hB3:=hB2.on hb3;have h3:=below_next h2 hb3;clear cb hA2 hB2 h2 hb3 q0 q1 q2 q3 q4 q5 q6 q7 q8 q9;have r0:=hA3.cells.1;have s0:=hB3.cells.1;have r3:=hA3.cells.2.2.2.1;have s3:=hB3.cells.2.2.2.1));go_at_call 41;refine(cA _ h3).mono ?_;rintro e w4 ⟨rfl,hb4⟩;have h4:=below_next h3 hb4;have s4:=(hB3.on hb4).cells.2.2.2.1;clear cA hb4 r0 s0 r3 s3 hA3 hB3 h3;go_wp2_with fail;go_at_call 41;refine(cB _ h4).mono ?_;rintro e w5 ⟨rfl,hb5⟩;have h5:=below_next h4 hb5;clear cB hb5 s4 h4;go_wp2_with(go_at_call 42;refine(owned_any _ _).mono ?_;rintro e w6 ⟨rfl,rfl⟩);go_ret;exact⟨by simp,h5⟩
     |false=>
      clear cB to1;simp only[if_true,if_false,Bool.false_eq_true]at cA;go_enter Tryz.func12,Tryz.ntmps12;go_wp2_with(first|(go_at_call 39;refine(ck _ hbb).mono ?_;rintro e w1 ⟨rfl,hb1⟩;have hA1:=hA.on hb1;have hB1:=hB.on hb1;have h1:=below_next hbb hb1;clear hwa hwb hsz ck hA hB hbb hb1;obtain⟨p0,p1,p2,p3,p4,p5,p6,p7,p8,p9⟩:=hA1.cells)|(go_at_call 40;refine(ca _ h1).mono ?_;rintro e w2 ⟨rfl,hb2⟩;have hA2:=hA1.on hb2;have hB2:=hB1.on hb2;have h2:=below_next h1 hb2;clear ca p0 p1 p2 p3 p4 p5 p6 p7 p8 p9 hA1 hB1 h1 hb2;obtain⟨q0,q1,q2,q3,q4,q5,q6,q7,q8,q9⟩:=hB2.cells)|(go_at_call 40;refine(cb _ h2).mono ?_;rintro e w3 ⟨rfl,hb3⟩;have hA3:=hA2.on hb3;have hB3:=hB2.on hb3;have h3:=below_next h2 hb3;clear cb hA2 hB2 h2 hb3 q0 q1 q2 q3 q4 q5 q6 q7 q8 q9;have r0:=hA3.cells.1;have s0:=hB3.cells.1;have r3:=hA3.cells.2.2.2.1;have s3:=hB3.cells.2.2.2.1));go_at_call 41;refine(cA _ h3).mono ?_;rintro e w4 ⟨rfl,hb4⟩;have h4:=below_next h3 hb4;have s4:=(hB3.on hb4).cells.2.2.2.1;clear cA hb4 r0 s0 r3 s3 hA3 hB3 h3;have cq:∀W,Calls Tryz.prog 43 #[.string ⟨s.toArray⟩] W fun e w'=>e= .returned (.string ⟨s.toArray⟩)∧w'=W:=fun W=>(alone_any s W).mono fun e w' h=>⟨h.1,h.2.symm⟩
      go_upto_region 10 with fail;go_quiet (first|(go_at_call 43;refine Calls.quiet_of_same (cq _)));go_wp2_with fail;go_ret;exact⟨by simp,⟨h4.os,h4.tape,h4.output,h4.size,h4.block⟩⟩
end Go.Proofs.YtlhcfmcbpljbiaaGreatDoor
