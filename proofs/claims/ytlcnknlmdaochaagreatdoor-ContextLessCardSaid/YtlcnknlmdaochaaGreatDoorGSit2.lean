/- The walks of sites.of, Same and Origin. -/
import Derived.Test.YtlcnknlmdaochaaGreatDoorGSit1
import Derived.Test.YtlcnknlmdaochaaGreatDoorUrlParse0
set_option linter.unusedVariables false
set_option linter.unusedSimpArgs false
set_option maxHeartbeats 16000000
namespace Go.Proofs.YtlcnknlmdaochaaGreatDoor
open Go.RowKit
def siteV (x:Bool×List UInt8):Value:=if x.1 then .iface 90 (.string ⟨x.2.toArray⟩)else .iface 92 (.string ⟨x.2.toArray⟩)
theorem site_any (L:List (List UInt8)) (h:List UInt8) (v:Value) (w:World) (hE:EnvH w) (ht:Txt w v L) (hl:L.length≤1000000) (hs:∀p∈L,p.length≤4000000000) (hh:h.length≤1000):
 Calls Tryz.prog 67 #[v, .string ⟨h.toArray⟩] w fun e w'=>e= .returned (siteV (siteL L h))∧Below w.heap.size w w':=by
 have co:=own_any L h v w hE ht hl hs hh
 have hd:siteL L h=if (ownL L h).2=0∧(ownL L h).1≠[]then (true,(ownL L h).1)else (false,h):=rfl
 clear ht hs
 generalize siteL L h=r at*
 generalize ownL L h=q at*
 obtain⟨q,k⟩:=q
 simp only at hd
 simp only[sufV]at co
 by_cases hk:k=0
 ·subst hk
  by_cases hq:q=[]
  ·subst hq
   rw[if_neg (by simp)]at hd;subst hd;go_enter Tryz.func67,Tryz.ntmps67;go_wp2_with(go_at_call 120;refine co.mono ?_;rintro e w1 ⟨rfl,hb1⟩);go_ret;exact⟨rfl,hb1⟩
  ·rw[if_pos ⟨rfl,hq⟩]at hd
   subst hd;have h1:=isEmpty_ne hq;have h2:=beq_ne hq;clear hq;go_enter Tryz.func67,Tryz.ntmps67;go_wp2_with(go_at_call 120;refine co.mono ?_;rintro e w1 ⟨rfl,hb1⟩);go_ret;exact⟨rfl,hb1⟩
 ·rw[if_neg (by omega)]at hd
  subst hd;have h1:((k:Int)==0)=false:=beq_eq_false_iff_ne.2 (by omega);clear hk;go_enter Tryz.func67,Tryz.ntmps67;go_wp2_with(go_at_call 120;refine co.mono ?_;rintro e w1 ⟨rfl,hb1⟩);go_ret;exact⟨rfl,hb1⟩
theorem owned_any (s:List UInt8) (w:World):Calls Tryz.prog 68 #[.string ⟨s.toArray⟩] w fun e w'=>e= .returned (.string ⟨s.toArray⟩)∧w=w':=by
 go_enter Tryz.func68,Tryz.ntmps68;go_wp2_with fail;go_ret;exact⟨rfl,rfl⟩
theorem alone_any (s:List UInt8) (w:World):Calls Tryz.prog 69 #[.string ⟨s.toArray⟩] w fun e w'=>e= .returned (.string ⟨s.toArray⟩)∧w=w':=by
 go_enter Tryz.func69,Tryz.ntmps69;go_wp2_with fail;go_ret;exact⟨rfl,rfl⟩
set_option maxRecDepth 100000 in
theorem same_any (L:List (List UInt8)) (a b:UrlL) (v:Value) (w:World) (hE:EnvH w) (ht:Txt w v L) (hl:L.length≤1000000) (hs:∀p∈L,p.length≤4000000000)
 (ha:sizeU a≤1000000000) (hb:sizeU b≤1000000000) (hpa:a.port≤9223372036854775807) (hpb:b.port≤9223372036854775807) (hha:checkU a=true→a.host.length≤1000) (hhb:checkU b=true→b.host.length≤1000):
 Calls Tryz.prog 33 #[v,urlV a,urlV b] w fun e w'=>e= .returned (.bool (sameL L a b))∧Below w.heap.size w w':=by
 have ck:∀W,Below w.heap.size w W→Calls Tryz.prog 66 #[v] W fun e W'=>e= .returned (.bool (checkL L))∧Below W.heap.size W W':=fun W hW=>check_any L v W (hE.below hW).t.env.shaped (ht.below hW (Nat.le_refl _)) (by omega) hs
 have ca:∀W,Below w.heap.size w W→Calls Tryz.prog 19 #[urlV a] W fun e W'=>e= .returned (.bool (checkU a))∧Below W.heap.size W W':=fun W hW=>check_u a W (hE.below hW) ha hpa
 have cb:∀W,Below w.heap.size w W→Calls Tryz.prog 19 #[urlV b] W fun e W'=>e= .returned (.bool (checkU b))∧Below W.heap.size W W':=fun W hW=>check_u b W (hE.below hW) hb hpb
 obtain⟨wa,hwa⟩:∃W,w.alloc (.cells #[.string ⟨a.scheme.toArray⟩, .string ⟨a.user.toArray⟩, .string ⟨a.pass.toArray⟩, .string ⟨a.host.toArray⟩, .int .i64 a.port, .string ⟨a.path.toArray⟩, .string ⟨a.query.toArray⟩, .bool a.hasQ, .string ⟨a.mark.toArray⟩, .bool a.hasM] 23)=W:=⟨_,rfl⟩
 obtain⟨wb,hwb⟩:∃W,wa.alloc (.cells #[.string ⟨b.scheme.toArray⟩, .string ⟨b.user.toArray⟩, .string ⟨b.pass.toArray⟩, .string ⟨b.host.toArray⟩, .int .i64 b.port, .string ⟨b.path.toArray⟩, .string ⟨b.query.toArray⟩, .bool b.hasQ, .string ⟨b.mark.toArray⟩, .bool b.hasM] 23)=W:=⟨_,rfl⟩
 have hsz:wa.heap.size=w.heap.size+1:=by rw[←hwa,World.size_alloc]
 have hba:Below w.heap.size w wa:=by rw[←hwa];exact below_alloc w _
 have hA0:UrlAt w.heap.size a wa:=by rw[←hwa];exact heap_alloc_new w _
 have hB:UrlAt (w.heap.size+1) b wb:=by rw[←hsz,←hwb];exact heap_alloc_new wa _
 have hA:UrlAt w.heap.size a wb:=by rw[←hwb];exact((below_alloc wa _).block _ hA0.lt).trans hA0
 have hbb:Below w.heap.size w wb:=by rw[←hwb];exact hba.alloc hba.size _
 have cs:=fun (h:List UInt8) (hh:h.length≤1000) W (hW:Below w.heap.size w W)=>site_any L h v W (hE.below hW) (ht.below hW (Nat.le_refl _)) hl hs hh
 have CS:=Lib.hid cs
 clear hE ht hs hA0 hba cs
 cases hk:checkL L with
 |false=>
  have hr:sameL L a b=false:=by unfold sameL;rw[hk];rfl
  rw[hr];rw[hk]at ck;unfold urlV at ca cb⊢;clear hk hr;go_enter Tryz.func33,Tryz.ntmps33;go_upto_region 1 with fail;go_wp2_with(go_at_call 66;refine(ck _ hbb).mono ?_;rintro e w1 ⟨rfl,hb1⟩);go_ret;exact⟨rfl,below_next hbb hb1⟩
 |true=>
  rw[hk]at ck
  cases hca:checkU a with
  |false=>
   have hr:sameL L a b=false:=by unfold sameL;rw[hk,hca];rfl
   rw[hr];rw[hca]at ca;unfold urlV at ca cb⊢;clear hk hr hca;go_enter Tryz.func33,Tryz.ntmps33;go_wp2_with(first|(go_at_call 66;refine(ck _ hbb).mono ?_;rintro e w1 ⟨rfl,hb1⟩;have hA1:=hA.on hb1;have hB1:=hB.on hb1;have h1:=below_next hbb hb1;clear hwa hwb hsz ck hA hB hbb hb1;obtain⟨p0,p1,p2,p3,p4,p5,p6,p7,p8,p9⟩:=hA1.cells)|(go_at_call 19;refine(ca _ h1).mono ?_;rintro e w2 ⟨rfl,hb2⟩;have hA2:=hA1.on hb2;have hB2:=hB1.on hb2;have h2:=below_next h1 hb2;clear ca p0 p1 p2 p3 p4 p5 p6 p7 p8 p9 hA1 hB1 h1 hb2;obtain⟨q0,q1,q2,q3,q4,q5,q6,q7,q8,q9⟩:=hB2.cells));go_ret;exact⟨rfl,h2⟩
  |true=>
   rw[hca]at ca
   cases hcb:checkU b with
   |false=>
    have hr:sameL L a b=false:=by unfold sameL;rw[hk,hca,hcb];rfl
    rw[hr];rw[hcb]at cb;unfold urlV at ca cb⊢;clear hk hr hca hcb;go_enter Tryz.func33,Tryz.ntmps33;go_wp2_with(first|(go_at_call 66;refine(ck _ hbb).mono ?_;rintro e w1 ⟨rfl,hb1⟩;have hA1:=hA.on hb1;have hB1:=hB.on hb1;have h1:=below_next hbb hb1;clear hwa hwb hsz ck hA hB hbb hb1;obtain⟨p0,p1,p2,p3,p4,p5,p6,p7,p8,p9⟩:=hA1.cells)|(go_at_call 19;refine(ca _ h1).mono ?_;rintro e w2 ⟨rfl,hb2⟩;have hA2:=hA1.on hb2;have hB2:=hB1.on hb2;have h2:=below_next h1 hb2;clear ca p0 p1 p2 p3 p4 p5 p6 p7 p8 p9 hA1 hB1 h1 hb2;obtain⟨q0,q1,q2,q3,q4,q5,q6,q7,q8,q9⟩:=hB2.cells)|(go_at_call 19;refine(cb _ h2).mono ?_;rintro e w3 ⟨rfl,hb3⟩;have hA3:=hA2.on hb3;have hB3:=hB2.on hb3;have h3:=below_next h2 hb3;clear cb hA2 hB2 h2 hb3));go_ret;exact⟨rfl,h3⟩
   |true=>
    have to1:∀(x:ByteArray) (w:World),(Instr.typeAssert (.iface 90 (.string x)) 88 90 true).run Tryz.prog w= .ok (.tuple #[.string x, .bool true]) w:=fun x w=>by kernel_rfl
    have to2:∀(x:ByteArray) (w:World),(Instr.typeAssert (.iface 92 (.string x)) 88 90 true).run Tryz.prog w= .ok (.tuple #[.string ⟨#[]⟩, .bool false]) w:=fun x w=>by kernel_rfl
    have ta2:∀(x:ByteArray) (w:World),(Instr.typeAssert (.iface 92 (.string x)) 88 92 true).run Tryz.prog w= .ok (.tuple #[.string x, .bool true]) w:=fun x w=>by kernel_rfl
    have hr:sameL L a b=((a.scheme==b.scheme)&&(if (siteL L a.host).1 then (siteL L b.host).1&&(siteL L a.host).2==(siteL L b.host).2 else (siteL L a.host).2==b.host)):=by unfold sameL;rw[hk,hca,hcb];rfl
    have cA:=CS.out a.host (hha hca);have cB:=CS.out b.host (hhb hcb);rw[hr];rw[hcb]at cb;unfold urlV at ca cb⊢;clear hk hr hca hcb CS
    cases he:(a.scheme==b.scheme)with
    |false=>
     have hne:¬a.scheme=b.scheme:=beq_eq_false_iff_ne.1 he;clear cA cB to1 to2 ta2;go_enter Tryz.func33,Tryz.ntmps33;go_wp2_with(first|(go_at_call 66;refine(ck _ hbb).mono ?_;rintro e w1 ⟨rfl,hb1⟩;have hA1:=hA.on hb1;have hB1:=hB.on hb1;have h1:=below_next hbb hb1;clear hwa hwb hsz ck hA hB hbb hb1;obtain⟨p0,p1,p2,p3,p4,p5,p6,p7,p8,p9⟩:=hA1.cells)|(go_at_call 19;refine(ca _ h1).mono ?_;rintro e w2 ⟨rfl,hb2⟩;have hA2:=hA1.on hb2;have hB2:=hB1.on hb2;have h2:=below_next h1 hb2;clear ca p0 p1 p2 p3 p4 p5 p6 p7 p8 p9 hA1 hB1 h1 hb2;obtain⟨q0,q1,q2,q3,q4,q5,q6,q7,q8,q9⟩:=hB2.cells)|(go_at_call 19;refine(cb _ h2).mono ?_;rintro e w3 ⟨rfl,hb3⟩;have hA3:=hA2.on hb3;have hB3:=hB2.on hb3;have h3:=below_next h2 hb3;clear cb hA2 hB2 h2 hb3 q0 q1 q2 q3 q4 q5 q6 q7 q8 q9;have r0:=hA3.cells.1;have s0:=hB3.cells.1;have r3:=hA3.cells.2.2.2.1;have s3:=hB3.cells.2.2.2.1))
     all_goals go_ret
     all_goals exact⟨rfl,h3⟩
    |true=>
     obtain⟨⟨x,s⟩,hx⟩:∃x,siteL L a.host=x:=⟨_,rfl⟩;obtain⟨⟨y,t⟩,hy⟩:∃y,siteL L b.host=y:=⟨_,rfl⟩;rw[hx]at cA⊢;rw[hy]at cB⊢;clear hx hy;simp only[siteV]at cA cB
     cases x with
     |true=>
      cases y
      all_goals
       simp only[if_true,if_false,Bool.false_eq_true]at cA cB;go_enter Tryz.func33,Tryz.ntmps33;go_wp2_with(first|(go_at_call 66;refine(ck _ hbb).mono ?_;rintro e w1 ⟨rfl,hb1⟩;have hA1:=hA.on hb1;have hB1:=hB.on hb1;have h1:=below_next hbb hb1;clear hwa hwb hsz ck hA hB hbb hb1;obtain⟨p0,p1,p2,p3,p4,p5,p6,p7,p8,p9⟩:=hA1.cells)|(go_at_call 19;refine(ca _ h1).mono ?_;rintro e w2 ⟨rfl,hb2⟩;have hA2:=hA1.on hb2;have hB2:=hB1.on hb2;have h2:=below_next h1 hb2;clear ca p0 p1 p2 p3 p4 p5 p6 p7 p8 p9 hA1 hB1 h1 hb2;obtain⟨q0,q1,q2,q3,q4,q5,q6,q7,q8,q9⟩:=hB2.cells)|(go_at_call 19;refine(cb _ h2).mono ?_;rintro e w3 ⟨rfl,hb3⟩;have hA3:=hA2.on hb3;have hB3:=hB2.on hb3;have h3:=below_next h2 hb3;clear cb hA2 hB2 h2 hb3 q0 q1 q2 q3 q4 q5 q6 q7 q8 q9;have r0:=hA3.cells.1;have s0:=hB3.cells.1;have r3:=hA3.cells.2.2.2.1;have s3:=hB3.cells.2.2.2.1));go_at_call 67;refine(cA _ h3).mono ?_;rintro e w4 ⟨rfl,hb4⟩;have h4:=below_next h3 hb4;have s4:=(hB3.on hb4).cells.2.2.2.1;clear cA hb4 r0 s0 r3 s3 hA3 hB3 h3;go_wp2_with fail;go_at_call 67;refine(cB _ h4).mono ?_;rintro e w5 ⟨rfl,hb5⟩;have h5:=below_next h4 hb5;clear cB hb5 s4 h4;go_wp2_with(go_at_call 68;refine(owned_any _ _).mono ?_;rintro e w6 ⟨rfl,rfl⟩);go_ret;exact⟨by simp,h5⟩
     |false=>
      clear cB to1;simp only[if_true,if_false,Bool.false_eq_true]at cA;go_enter Tryz.func33,Tryz.ntmps33;go_wp2_with(first|(go_at_call 66;refine(ck _ hbb).mono ?_;rintro e w1 ⟨rfl,hb1⟩;have hA1:=hA.on hb1;have hB1:=hB.on hb1;have h1:=below_next hbb hb1;clear hwa hwb hsz ck hA hB hbb hb1;obtain⟨p0,p1,p2,p3,p4,p5,p6,p7,p8,p9⟩:=hA1.cells)|(go_at_call 19;refine(ca _ h1).mono ?_;rintro e w2 ⟨rfl,hb2⟩;have hA2:=hA1.on hb2;have hB2:=hB1.on hb2;have h2:=below_next h1 hb2;clear ca p0 p1 p2 p3 p4 p5 p6 p7 p8 p9 hA1 hB1 h1 hb2;obtain⟨q0,q1,q2,q3,q4,q5,q6,q7,q8,q9⟩:=hB2.cells)|(go_at_call 19;refine(cb _ h2).mono ?_;rintro e w3 ⟨rfl,hb3⟩;have hA3:=hA2.on hb3;have hB3:=hB2.on hb3;have h3:=below_next h2 hb3;clear cb hA2 hB2 h2 hb3 q0 q1 q2 q3 q4 q5 q6 q7 q8 q9;have r0:=hA3.cells.1;have s0:=hB3.cells.1;have r3:=hA3.cells.2.2.2.1;have s3:=hB3.cells.2.2.2.1));go_at_call 67;refine(cA _ h3).mono ?_;rintro e w4 ⟨rfl,hb4⟩;have h4:=below_next h3 hb4;have s4:=(hB3.on hb4).cells.2.2.2.1;clear cA hb4 r0 s0 r3 s3 hA3 hB3 h3;have cq:∀W,Calls Tryz.prog 69 #[.string ⟨s.toArray⟩] W fun e w'=>e= .returned (.string ⟨s.toArray⟩)∧w'=W:=fun W=>(alone_any s W).mono fun e w' h=>⟨h.1,h.2.symm⟩
      go_upto_region 10 with fail;go_quiet (first|(go_at_call 69;refine Calls.quiet_of_same (cq _)));go_wp2_with fail;go_ret;exact⟨by simp,⟨h4.os,h4.tape,h4.output,h4.size,h4.block⟩⟩
attribute [local go_sem] jo_sl jo_col ba_append
set_option maxRecDepth 100000 in
theorem origin_any (u:UrlL) (w:World) (hE:EnvH w) (hs:sizeU u≤1000000000) (hport:u.port≤9223372036854775807):
 Calls Tryz.prog 35 #[urlV u] w fun e w'=>e= .returned (.string ⟨(originL u).toArray⟩)∧Below w.heap.size w w':=by
 obtain⟨wa,hwa⟩:∃W,w.alloc (.cells #[.string ⟨u.scheme.toArray⟩, .string ⟨u.user.toArray⟩, .string ⟨u.pass.toArray⟩, .string ⟨u.host.toArray⟩, .int .i64 u.port, .string ⟨u.path.toArray⟩, .string ⟨u.query.toArray⟩, .bool u.hasQ, .string ⟨u.mark.toArray⟩, .bool u.hasM] 23)=W:=⟨_,rfl⟩
 have hba:Below w.heap.size w wa:=by rw[←hwa];exact below_alloc w _
 have hA:UrlAt w.heap.size u wa:=by rw[←hwa];exact heap_alloc_new w _
 have cc:=check_u u wa (hE.below hba) hs hport
 have ci:=fun (n:Nat) (hn:n≤9223372036854775807) W (hW:Below w.heap.size w W)=>itoa_any n hn W (hE.below hW).pow
 have hdl:=decP_len u.port.toNat
 have z1:u.scheme.length+u.host.length≤1000000000:=by unfold sizeU at hs;omega
 obtain⟨p0,p1,p2,p3,p4,p5,p6,p7,p8,p9⟩:=hA.cells
 clear hE hs
 cases hc:checkU u with
 |false=>
  have HO:=Lib.hid (origin_no hc);rw[hc]at cc;clear hc ci hdl z1;unfold urlV at cc⊢;go_enter Tryz.func35,Tryz.ntmps35;go_wp2_with(go_at_call 19;refine cc.mono ?_;rintro e w1 ⟨rfl,hb1⟩);go_ret;exact⟨by rw[HO.out];rfl,below_next hba hb1⟩
 |true=>
  have ho:=origin_yes hc;rw[hc]at cc;have z2:¬9223372036854775807<u.scheme.length+3:=by omega
  have z3:¬9223372036854775807<(u.scheme++[58,47,47]).length+u.host.length:=by simp;omega
  have z3b:¬9223372036854775807<u.scheme.length+3+u.host.length:=by omega
  unfold urlV at cc⊢;by_cases h0:0≤u.port
  ·obtain⟨n,hn⟩:∃n:Nat,u.port=(n:Int):=⟨u.port.toNat,by omega⟩
   have ho2:originL u=u.scheme++58::47::47::(u.host++58::dec8 n):=by
    rw[ho];unfold portT;rw[if_pos h0,hn,Int.toNat_natCast];rfl
   have hdl2:(dec8 n).length≤21:=by rw[hn,Int.toNat_natCast]at hdl;exact hdl
   have cn:=fun W hW=>ci n (by omega) W hW
   have HO:=Lib.hid ho2;rw[hn]at p4 cc hwa⊢;have h0i:(0:Int)≤(n:Int):=by omega
   have z4:¬9223372036854775807<1+(dec8 n).length:=by omega
   have z5:¬9223372036854775807<(u.scheme++[58,47,47]++u.host).length+(58::dec8 n).length:=by simp;omega
   have z5b:¬9223372036854775807<u.scheme.length+3+u.host.length+((dec8 n).length+1):=by omega
   have HN:=Lib.hid hn;clear ho ho2 ci hdl hn h0 hc hport;have HA:=Lib.hid hA;clear hA;go_enter Tryz.func35,Tryz.ntmps35;go_wp2_with fail;go_at_call 19;refine cc.mono ?_;rintro e w1 ⟨rfl,hb1⟩;have hb2:=below_next hba hb1;have hA1:=HA.out.on hb1;clear p0 p1 p2 p3 p4 p5 p6 p7 p8 p9 hwa cc;have q0:=hA1.cells.1;have q3:=hA1.cells.2.2.2.1;have q4:=hA1.cells.2.2.2.2.1;rw[HN.out]at q4;clear hA1;go_wp2_with fail;go_at_call 59;refine(cn _ hb2).mono ?_;rintro e w3 ⟨rfl,hb3⟩;go_wp2_with fail;go_ret;exact⟨by rw[HO.out];simp,below_next hb2 hb3⟩
  ·have ho2:originL u=u.scheme++58::47::47::u.host:=by
    rw[ho];unfold portT;rw[if_neg h0,List.append_nil]
   have HO:=Lib.hid ho2;have HA:=Lib.hid hA;clear ho ho2 ci hdl hc hport hA;go_enter Tryz.func35,Tryz.ntmps35;go_wp2_with fail;go_at_call 19;refine cc.mono ?_;rintro e w1 ⟨rfl,hb1⟩;have hb2:=below_next hba hb1;have hA1:=HA.out.on hb1;clear p0 p1 p2 p3 p4 p5 p6 p7 p8 p9 hwa cc;have q0:=hA1.cells.1;have q3:=hA1.cells.2.2.2.1;have q4:=hA1.cells.2.2.2.2.1;clear hA1;go_wp2_with fail;go_ret;exact⟨by rw[HO.out];simp,hb2⟩
theorem ofu_results {B:Nat} {W:World} {v:UrlL} {tmps:Array Value} (h2:tmps[2]?.getD undef= .pointer (some ⟨B,0,none⟩)) (hU:UrlAt B v W):
 (results Tryz.f41 tmps).run Tryz.prog W= .ok (urlV v) W:=by
 obtain⟨c0,c1,c2,c3,c4,c5,c6,c7,c8,c9⟩:=hU.cells
 simp[results,Tryz.results41,go_sem,h2,c0,c1,c2,c3,c4,c5,c6,c7,c8,c9]
 rfl
set_option maxRecDepth 100000 in
theorem ofu_any (s:List UInt8) (w:World) (hE:EnvH w) (hz:s.length≤140737488351232):
 Calls Tryz.prog 41 #[.string ⟨s.toArray⟩] w fun e w'=>e= .returned (urlV (ofU s))∧Below w.heap.size w w':=by
 obtain⟨w1,hw1⟩:∃w1,w.alloc (.cells #[.string ⟨#[]⟩, .string ⟨#[]⟩, .string ⟨#[]⟩, .string ⟨#[]⟩, .int .i64 0, .string ⟨#[]⟩, .string ⟨#[]⟩, .bool false, .string ⟨#[]⟩, .bool false] 23)=w1:=⟨_,rfl⟩
 have hb1:Below w.heap.size w w1:=by rw[←hw1];exact below_alloc w _
 have hR1:UrlAt w.heap.size zeroU w1:=by rw[←hw1];exact heap_alloc_new w _
 obtain⟨k,cp⟩:∃k:Int,Calls Tryz.prog 28 #[.string ⟨s.toArray⟩,urlV zeroU, .bool false] w1 fun e w'=>e= .returned (.tuple #[urlV (ofU s), .int .i64 k])∧Below w1.heap.size w1 w':=by
  have cp:=parse_0 s zeroU w1 (hE.below hb1) hz (by simp[sizeU,zeroU]) (by simp[zeroU]);unfold ofU
  cases hp:parseU s zeroU false with
  |error n=>rw[hp]at cp;exact⟨n,cp⟩
  |ok u=>rw[hp]at cp;exact⟨0,cp⟩
 generalize ofU s=u at*
 simp only[urlV]at cp⊢
 clear hE
 go_enter Tryz.func41,Tryz.ntmps41
 go_wp2_with fail
 go_at_call 28
 refine cp.mono ?_
 rintro e w2 ⟨rfl,hb2⟩
 have hR2:UrlAt w.heap.size zeroU w2:=(hb2.block _ hR1.lt).trans hR1
 have hlt:=hR2.lt
 obtain⟨q0,q1,q2,q3,q4,q5,q6,q7,q8,q9⟩:=hR2.cells
 obtain⟨g0,g1,g2,g3,g4,g5,g6,g7,g8,g9⟩:=hR2.frees
 have hb3:=putU_below (hb1.trans (hb2.mono hb1.size)) (Nat.le_refl _) u
 have hR3:=hR2.put u
 have HR3:Hid (UrlAt w.heap.size u ((putU w2 w.heap.size u).alloc (.cells (cellsU u).toArray 23))):=((below_alloc _ _).block _ hR3.lt).trans hR3
 have HB3:Hid (Below w.heap.size w ((putU w2 w.heap.size u).alloc (.cells (cellsU u).toArray 23))):=hb3.alloc hb3.size _
 clear cp hb1 hR1 hb2 hb3 hR3 hw1
 go_wp2_with fail
 exact⟨rfl,_,ofu_results rfl HR3.out,rfl,HB3.out⟩
end Go.Proofs.YtlcnknlmdaochaaGreatDoor
namespace Go.Proofs.YtlcnknlmdaochaaGreatDoor
open Go.RowKit
theorem dom_any (a b:List UInt8) (w:World) (hE:Env w) (ha:a.length≤3999999990) (hb:b.length≤3999999990) (h0:b≠[]):
 Calls Tryz.prog 73 #[.string ⟨a.toArray⟩, .string ⟨b.toArray⟩] w fun e w'=>e= .returned (.bool (domL a b))∧Below w.heap.size w w':=by
 have hm:domL a b=(!b.isEmpty&&belowL a b):=rfl
 have h1:=isEmpty_ne h0
 have h2:=beq_ne h0
 have cb:=below_any a b w hE ha hb
 rw[h1]at hm
 have HM:=Lib.hid hm
 clear hm h0
 generalize belowL a b=r at*
 go_enter Tryz.func73,Tryz.ntmps73
 go_wp2_with(go_at_call 123;refine cb.mono ?_;rintro e w1 ⟨rfl,hb1⟩)
 go_ret
 exact⟨ret_bool (by rw[HM.out];rfl),by assumption⟩
theorem path_any (s c:List UInt8) (w:World) (hc:c.length≤9223372036854775807):
 Calls Tryz.prog 40 #[.string ⟨s.toArray⟩, .string ⟨c.toArray⟩] w fun e w'=>e= .returned (.bool (matL s c))∧w=w':=by
 have ht:Lib.hasPrefix s c=true→Lib.trimPrefix s c=s.drop c.length:=fun h=>by simp[Lib.trimPrefix,h]
 by_cases hp:Lib.hasPrefix s c=true
 ·have hp2:=ht hp
  clear ht;go_enter Tryz.func40,Tryz.ntmps40;go_wp2_with(first|(go_at_call 75;refine(Tryz.strings_CutPrefix _ _ _).mono ?_;rintro e w' ⟨rfl,rfl⟩)|(go_at_call 76;refine(Tryz.strings_HasSuffix _ _ _ ?_).mono ?_;(exact hc);rintro e w' ⟨rfl,rfl⟩))
  all_goals(first|(go_ret;refine⟨ret_bool ?_,rfl⟩;rw[matL,show c.isPrefixOf s=true from hp])|skip)
  all_goals go_light
  all_goals(first|(simp_all[isEmpty_drop];done)|(grind [isEmpty_drop])|trace_state)
 ·clear ht
  have hp1:Lib.hasPrefix s c=false:=by simpa using hp
  clear hp;go_enter Tryz.func40,Tryz.ntmps40;go_wp2_with(go_at_call 75;refine(Tryz.strings_CutPrefix _ _ _).mono ?_;rintro e w' ⟨rfl,rfl⟩);go_ret;exact⟨ret_bool (by rw[matL,show c.isPrefixOf s=false from hp1];rfl),rfl⟩
theorem usual_any (s:List UInt8) (w:World) (hs:s.length≤1048576):
 Calls Tryz.prog 39 #[.string ⟨s.toArray⟩] w fun e w'=>e= .returned (.string ⟨(usualL s).toArray⟩)∧w=w':=by
 have hs2:(⟨s.toArray⟩:ByteArray).size<4611686018427387904:=by show s.length<_;omega
 have hl:=lastAt_lt s 47 s.length
 have hm:=Lib.hid (lastIndexByte_mk s 47)
 go_enter Tryz.func39,Tryz.ntmps39
 go_wp2_with(first|(go_at_call 74;refine(Tryz.strings_LastIndexByte _ _ hs2 _).mono ?_;rintro e w' ⟨rfl,rfl⟩;rw[show Lib.lastIndexByte ⟨s.toArray⟩ 47=_ from hm.out]))
 all_goals(first|(go_ret;refine⟨ret_str ?_,rfl⟩;unfold usualL)|(exfalso;omega)|skip)
 all_goals go_light
 all_goals(first|(simp_all;done)|grind|(simp_all;trace_state))
open Go.Sort
theorem quiet_callS {f:FuncId} {args:Array Value} {v:Value} {w0 w1:World} (h0:Go.RowKit.Below w0.heap.size w0 w1) (h:∀W,Go.RowKit.Below w0.heap.size w0 W→Calls Tryz.prog f args W fun e W'=>e= .returned v∧Go.RowKit.Below W.heap.size W W') (d:Nat) (os:Array Obj):
 Calls Tryz.prog f args (grow (redrawn w1 d) os) fun e w''=>e= .returned v∧∃p:Regrown,w''=grow (redrawn w1 p.d) p.os:=Calls.regrown_of (h _ (below_next h0 (below_regrown w1 d os)))
theorem UrlAt.regrown {B:Nat} {u:UrlL} {w:World} (h:UrlAt B u w):
 (∀d os,(grow (redrawn w d) os).cell? ⟨B,0,none⟩=some (.string ⟨u.scheme.toArray⟩))∧
 (∀d os,(grow (redrawn w d) os).cell? ⟨B,1,none⟩=some (.string ⟨u.user.toArray⟩))∧
 (∀d os,(grow (redrawn w d) os).cell? ⟨B,2,none⟩=some (.string ⟨u.pass.toArray⟩))∧
 (∀d os,(grow (redrawn w d) os).cell? ⟨B,3,none⟩=some (.string ⟨u.host.toArray⟩))∧
 (∀d os,(grow (redrawn w d) os).cell? ⟨B,4,none⟩=some (.int .i64 u.port))∧
 (∀d os,(grow (redrawn w d) os).cell? ⟨B,5,none⟩=some (.string ⟨u.path.toArray⟩))∧
 (∀d os,(grow (redrawn w d) os).cell? ⟨B,6,none⟩=some (.string ⟨u.query.toArray⟩))∧
 (∀d os,(grow (redrawn w d) os).cell? ⟨B,7,none⟩=some (.bool u.hasQ))∧
 (∀d os,(grow (redrawn w d) os).cell? ⟨B,8,none⟩=some (.string ⟨u.mark.toArray⟩))∧
 (∀d os,(grow (redrawn w d) os).cell? ⟨B,9,none⟩=some (.bool u.hasM)):=
 ⟨fun d os=>cell_regrown (h.cell 0) d os,fun d os=>cell_regrown (h.cell 1) d os,fun d os=>cell_regrown (h.cell 2) d os,fun d os=>cell_regrown (h.cell 3) d os,fun d os=>cell_regrown (h.cell 4) d os,fun d os=>cell_regrown (h.cell 5) d os,fun d os=>cell_regrown (h.cell 6) d os,fun d os=>cell_regrown (h.cell 7) d os,fun d os=>cell_regrown (h.cell 8) d os,fun d os=>cell_regrown (h.cell 9) d os⟩
theorem lit_txtS (w:World) (L:List (List UInt8)) (cs:Array Value) (hc:cs=(strs L).toArray):Txt (w.alloc (.cells cs 9)) (.slice (some ⟨w.heap.size,0,none⟩) L.length L.length) L:=by
 subst hc;refine .inr ⟨⟨w.heap.size,0,none⟩,L.length,rfl,Nat.le_refl _,fun _=>by rw[World.size_alloc];exact Nat.lt_succ_self _,fun k hk=> ?_⟩;rw[Addr.add_lit,Nat.zero_add,World.cell?_alloc_at _ _ _ _ rfl,List.getElem?_toArray,strs_get hk]
theorem lift_s {f:FuncId} {args:Array Value} {v:Value} {w wc:World} (hc:Below w.heap.size w wc) (hE:EnvH w) (h:∀W,EnvH W→Below w.heap.size w W→Calls Tryz.prog f args W fun e W'=>e= .returned v∧Below W.heap.size W W'):∀W,Below w.heap.size w W→Calls Tryz.prog f args W fun e W'=>e= .returned v∧Below w.heap.size w W':=fun W hW=>
 (h W (hE.below hW) hW).mono fun e W' ⟨he,hb⟩=>⟨he,below_next hW hb⟩
theorem pass_same {f:FuncId} {args:Array Value} {v:Value} {W:World} (h:Calls Tryz.prog f args W fun e W'=>e= .returned v∧W=W'):Calls Tryz.prog f args W fun e W'=>e= .returned v∧Below W.heap.size W W':=
 h.mono fun e W' ⟨he,hw⟩=>⟨he,hw▸Below.refl _ _⟩
set_option maxRecDepth 100000 in
theorem alive_s (w0:World) (hE0:EnvH w0):
 Calls Tryz.prog 38 #[] w0 fun e w'=>e= .returned (.bool true)∧Below w0.heap.size w0 w':=by
 obtain⟨w,hw⟩:∃W,w0.alloc (.cells #[.string ⟨#[99,111,109]⟩] 9)=W:=⟨_,rfl⟩
 have hb00:Below w0.heap.size w0 w:=by rw[←hw];exact below_alloc w0 _
 have hT:Txt w (.slice (some ⟨w0.heap.size,0,none⟩) 1 1) comL:=by rw[←hw];exact lit_txtS w0 comL _ rfl
 have hE:=hE0.below hb00
 have hb0:=Below.refl w.heap.size w
 have c1:=lift_s hb0 hE (fun W hW _=>dom_any [97,46,98,46,99] [98,46,99] W hW.t.env (by decide) (by decide) (by simp))
 rw[sd1]at c1
 have c2:=lift_s hb0 hE (fun W hW _=>dom_any [49,46,50,46,51,46,52] [51,46,52] W hW.t.env (by decide) (by decide) (by simp))
 rw[sd2]at c2
 have c3:=lift_s hb0 hE (fun W hW _=>pass_same (path_any [47,97,47,98] [47,97] W (by decide)))
 rw[show matL [47,97,47,98] [47,97]=true by decide+kernel]at c3
 have c4:=lift_s hb0 hE (fun W hW _=>pass_same (path_any [47,97,98] [47,97] W (by decide)))
 rw[show matL [47,97,98] [47,97]=false by decide+kernel]at c4
 have c5:=lift_s hb0 hE (fun W hW _=>pass_same (usual_any [47,97,47,98] W (by decide)))
 rw[show usualL [47,97,47,98]=[47,97]by decide+kernel]at c5
 have c6:=lift_s hb0 hE (fun W hW _=>pass_same (usual_any [97,47,98] W (by decide)))
 rw[show usualL [97,47,98]=[47]by decide+kernel]at c6
 have o1:=lift_s hb0 hE (fun W hW _=>ofu_any [104,116,116,112,115,58,47,47,97,46,120,46,99,111,109,47] W hW (by decide))
 rw[so1]at o1
 have o2:=lift_s hb0 hE (fun W hW _=>ofu_any [104,116,116,112,115,58,47,47,120,46,99,111,109,58,56,47] W hW (by decide))
 rw[so2]at o2
 have o3:=lift_s hb0 hE (fun W hW _=>ofu_any [104,116,116,112,58,47,47,120,46,99,111,109,47] W hW (by decide))
 rw[so3]at o3
 have o4:=lift_s hb0 hE (fun W hW _=>ofu_any [104,116,116,112,58,47,47,121,46,99,111,109,47] W hW (by decide))
 rw[so4]at o4
 have o5:=lift_s hb0 hE (fun W hW _=>ofu_any [104,116,116,112,115,58,47,47,117,64,104,58,56,47,112,63,113] W hW (by decide))
 rw[so5]at o5
 have s1:=lift_s hb0 hE (fun W hW hB=>same_any comL sa1 sa2 _ W hW (hT.below hB (Nat.le_refl _)) (by decide) (by decide) (by decide) (by decide) (by decide) (by decide) (fun _=>by decide) (fun _=>by decide))
 rw[ss1]at s1
 have s2:=lift_s hb0 hE (fun W hW hB=>same_any comL sa3 sa4 _ W hW (hT.below hB (Nat.le_refl _)) (by decide) (by decide) (by decide) (by decide) (by decide) (by decide) (fun _=>by decide) (fun _=>by decide))
 rw[ss2]at s2
 have r1:=lift_s hb0 hE (fun W hW _=>origin_any sa5 W hW (by decide) (by decide))
 rw[sr1]at r1
 have r2:=lift_s hb0 hE (fun W hW _=>origin_any zeroU W hW (by decide) (by decide))
 rw[sr2]at r2
 have HB00:=Lib.hid hb00
 clear hE0 hE hT hb00
 generalize urlV sa1=u1 at*
 generalize urlV sa2=u2 at*
 generalize urlV sa3=u3 at*
 generalize urlV sa4=u4 at*
 generalize urlV sa5=u5 at*
 simp only[urlV,zeroU]at r2
 go_enter Tryz.func38,Tryz.ntmps38
 go_wp2_with fail
 clear hw
 go_at_call 73
 refine(c1 _ hb0).mono ?_
 rintro e w1 ⟨rfl,hb1⟩
 clear c1
 go_wp2_with fail
 go_at_call 73
 refine(c2 _ hb1).mono ?_
 rintro e w2 ⟨rfl,hb2⟩
 clear c2
 go_wp2_with fail
 go_at_call 40
 refine(c3 _ hb2).mono ?_
 rintro e w3 ⟨rfl,hb3⟩
 clear c3
 go_wp2_with fail
 go_at_call 40
 refine(c4 _ hb3).mono ?_
 rintro e w4 ⟨rfl,hb4⟩
 clear c4
 go_wp2_with fail
 go_at_call 39
 refine(c5 _ hb4).mono ?_
 rintro e w5 ⟨rfl,hb5⟩
 clear c5
 go_wp2_with fail
 go_at_call 39
 refine(c6 _ hb5).mono ?_
 rintro e w6 ⟨rfl,hb6⟩
 clear c6
 go_wp2_with fail
 go_at_call 41
 refine(o1 _ hb6).mono ?_
 rintro e w7 ⟨rfl,hb7⟩
 clear o1
 go_wp2_with fail
 go_at_call 41
 refine(o2 _ hb7).mono ?_
 rintro e w8 ⟨rfl,hb8⟩
 clear o2
 go_wp2_with fail
 go_at_call 33
 refine(s1 _ hb8).mono ?_
 rintro e w9 ⟨rfl,hb9⟩
 clear s1
 go_wp2_with fail
 go_at_call 41
 refine(o3 _ hb9).mono ?_
 rintro e w10 ⟨rfl,hb10⟩
 clear o3
 go_wp2_with fail
 go_at_call 41
 refine(o4 _ hb10).mono ?_
 rintro e w11 ⟨rfl,hb11⟩
 clear o4
 go_wp2_with fail
 go_at_call 33
 refine(s2 _ hb11).mono ?_
 rintro e w12 ⟨rfl,hb12⟩
 clear s2
 go_wp2_with fail
 go_at_call 41
 refine(o5 _ hb12).mono ?_
 rintro e w13 ⟨rfl,hb13⟩
 clear o5
 go_wp2_with fail
 go_at_call 35
 refine(r1 _ hb13).mono ?_
 rintro e w14 ⟨rfl,hb14⟩
 clear r1
 go_wp2_with fail
 go_at_call 35
 refine(r2 _ hb14).mono ?_
 rintro e w15 ⟨rfl,hb15⟩
 clear r2
 go_wp2_with fail
 go_ret
 exact⟨rfl,HB00.out.trans (hb15.mono HB00.out.size)⟩
end Go.Proofs.YtlcnknlmdaochaaGreatDoor
