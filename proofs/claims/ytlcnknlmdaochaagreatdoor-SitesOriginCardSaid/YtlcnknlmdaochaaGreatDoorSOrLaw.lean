/- The law SitesOrigin walked. -/
import Derived.Test.YtlcnknlmdaochaaGreatDoorGSit2
set_option linter.unusedVariables false
set_option linter.unusedSimpArgs false
set_option maxHeartbeats 16000000
namespace Go.Proofs.YtlcnknlmdaochaaGreatDoor
open Go.RowKit
open Go.Sort
theorem of_parse {s:List UInt8} (h:checkU (ofU s)=true):parseU s zeroU false= .ok (ofU s):=by
 unfold ofU at h⊢
 cases hp:parseU s zeroU false with
 |error k=>
  rw[hp]at h;simp only at h;rw[zero_check]at h;cases h
 |ok u=>rfl
theorem origin_plain {s:List UInt8} {u:UrlL} (hs:s.length≤1000) (hu:ofU s=u) (hc:checkU u=true) (N:Nat) (hN:N≤65535):
 sameL [] u (elseU u)=true∧originL (elseU u)=originL u∧(checkU (elseU u)=true)∧((u.scheme==[104,116,116,112])=true∧(u.scheme==[104,116,116,112,115])=false∧ownP u.scheme=80∨(u.scheme==[104,116,116,112])=false∧(u.scheme==[104,116,116,112,115])=true∧ownP u.scheme=443)∧
 (N=ownP u.scheme→originL (portedU u N)=nullB)∧(N≠ownP u.scheme→sameL [] u (portedU u N)=true∧checkU (portedU u N)=true∧(originL u==originL (portedU u N))=(u.port==(N:Int))):=by
 have hp:parseU s zeroU false= .ok u:=by have:=of_parse (s:=s) (by rw[hu];exact hc);rw[hu]at this;exact this
 have hg:=good_parse hp
 have he:=check_iff.2 (else_good hg)
 refine⟨same_nil hc he rfl rfl, ?_,he, ?_,fun h=>origin_no (ported_no h),fun h=> ?_⟩
 ·rw[origin_yes hc,origin_yes he];rfl
 ·rcases hg.sch with e|e
  ·exact .inl (by rw[e];exact⟨rfl,rfl,rfl⟩)
  ·exact .inr (by rw[e];exact⟨rfl,rfl,rfl⟩)
 ·have hx:=check_iff.2 (ported_good hs hp hN h)
  exact⟨same_nil hc hx rfl rfl,hx,origin_eq hc hx rfl rfl N hN rfl⟩
set_option maxRecDepth 100000 in
theorem sorigin_law (s:List UInt8) (n:Int) (w:World) (hm:s.length≤140737488351232) (hn0:0≤n) (hn1:n≤65535) (hE:EnvH w):
 Calls Tryz.prog 10 #[.string ⟨s.toArray⟩, .int .u16 n] w fun e w'=>e= .returned (.bool true)∧Below w.heap.size w w':=by
 have hb0:=Below.refl w.heap.size w
 have cv:=lift_k w hE (fun W hW=>alive_s W hW)
 by_cases h0:1000<s.length
 ·have hi:(1000:Int)<(s.length:Int):=by omega
  clear hE;go_enter Tryz.func10,Tryz.ntmps10;go_wp2_with fail;go_at_call 38;refine(cv _ hb0).mono ?_;rintro e w1 ⟨rfl,hb1⟩;have h1:=below_next hb0 hb1;go_wp2_with fail;go_at_call 38;refine(cv _ h1).mono ?_;rintro e w2 ⟨rfl,hb2⟩;go_wp2_with fail;go_ret;exact⟨rfl,below_next h1 hb2⟩
 ·have hi:¬(1000:Int)<(s.length:Int):=by omega
  have co:=lift_k w hE (fun W hW=>ofu_any s W hW hm);obtain⟨u,hu⟩:∃u,ofU s=u:=⟨_,rfl⟩;rw[hu]at co;obtain⟨N,rfl⟩:∃N:Nat,n=(N:Int):=⟨n.toNat,by omega⟩;have hN:N≤65535:=by omega
  have hus:=of_size s;rw[hu]at hus;unfold urlV at co;go_enter Tryz.func10,Tryz.ntmps10;go_wp2_with fail;go_at_call 38;refine(cv _ hb0).mono ?_;rintro e w1 ⟨rfl,hb1⟩;have h1:=below_next hb0 hb1;clear cv;go_wp2_with fail;go_at_call 41;refine(co _ h1).mono ?_;rintro e w2 ⟨rfl,hb2⟩;have h2:=below_next h1 hb2;clear co;go_upto_region 14 with fail;obtain⟨w5,hw5⟩:∃W,(((w2.alloc (.cells #[.string ⟨u.scheme.toArray⟩, .string ⟨u.user.toArray⟩, .string ⟨u.pass.toArray⟩, .string ⟨u.host.toArray⟩, .int .i64 u.port, .string ⟨u.path.toArray⟩, .string ⟨u.query.toArray⟩, .bool u.hasQ, .string ⟨u.mark.toArray⟩, .bool u.hasM] 23)).alloc (.cells #[.string ⟨u.scheme.toArray⟩, .string ⟨#[117]⟩, .string ⟨#[112]⟩, .string ⟨u.host.toArray⟩, .int .i64 u.port, .string ⟨#[47,120]⟩, .string ⟨#[113]⟩, .bool true, .string ⟨#[109]⟩, .bool true] 23)).alloc (.cells #[.string ⟨u.scheme.toArray⟩, .string ⟨u.user.toArray⟩, .string ⟨u.pass.toArray⟩, .string ⟨u.host.toArray⟩, .int .i64 (N:Int), .string ⟨u.path.toArray⟩, .string ⟨u.query.toArray⟩, .bool u.hasQ, .string ⟨u.mark.toArray⟩, .bool u.hasM] 23))=W:=⟨_,rfl⟩;have hA:UrlAt w2.heap.size u w5∧UrlAt (w2.heap.size+1) (elseU u) w5∧UrlAt (w2.heap.size+1+1) (portedU u N) w5∧Go.RowKit.Below w.heap.size w w5:=by
   rw[←hw5];obtain⟨wa,hwa⟩:∃W,w2.alloc (.cells #[.string ⟨u.scheme.toArray⟩, .string ⟨u.user.toArray⟩, .string ⟨u.pass.toArray⟩, .string ⟨u.host.toArray⟩, .int .i64 u.port, .string ⟨u.path.toArray⟩, .string ⟨u.query.toArray⟩, .bool u.hasQ, .string ⟨u.mark.toArray⟩, .bool u.hasM] 23)=W:=⟨_,rfl⟩;have sa:wa.heap.size=w2.heap.size+1:=by rw[←hwa,World.size_alloc]
   have a1:UrlAt w2.heap.size u wa:=by rw[←hwa];exact heap_alloc_new w2 _
   have ba:Go.RowKit.Below w.heap.size w wa:=by rw[←hwa];exact h2.alloc h2.size _
   rw[hwa];obtain⟨wb,hwb⟩:∃W,wa.alloc (.cells #[.string ⟨u.scheme.toArray⟩, .string ⟨#[117]⟩, .string ⟨#[112]⟩, .string ⟨u.host.toArray⟩, .int .i64 u.port, .string ⟨#[47,120]⟩, .string ⟨#[113]⟩, .bool true, .string ⟨#[109]⟩, .bool true] 23)=W:=⟨_,rfl⟩;have sb:wb.heap.size=w2.heap.size+1+1:=by rw[←hwb,World.size_alloc,sa]
   have b2:UrlAt (w2.heap.size+1) (elseU u) wb:=by rw[←sa,←hwb];exact heap_alloc_new wa _
   have b1:UrlAt w2.heap.size u wb:=by rw[←hwb];exact((below_alloc wa _).block _ a1.lt).trans a1
   have bb:Go.RowKit.Below w.heap.size w wb:=by rw[←hwb];exact ba.alloc ba.size _
   rw[hwb];refine⟨((below_alloc wb _).block _ b1.lt).trans b1,((below_alloc wb _).block _ b2.lt).trans b2, ?_,bb.alloc bb.size _⟩;rw[←sb];exact heap_alloc_new wb _
  obtain⟨hA,hB,hC,h5⟩:=hA;rw[hw5];clear hw5 hb2 h2 h1 hb1;have hbw:=Go.RowKit.Below.refl w5.heap.size w5;have hE5:=hE.below h5;have cc:=fun W hW=>check_u u W (hE5.below hW) (by omega) (by omega)
  have os:=fun (x:UrlL) (hx:sizeU x≤1000000000) (hp:x.port≤9223372036854775807) W (hW:Go.RowKit.Below w5.heap.size w5 W)=>origin_any x W (hE5.below hW) hx hp
  have ss:=fun (x y:UrlL) (hx:sizeU x≤1000000000) (hy:sizeU y≤1000000000) (hpx:x.port≤9223372036854775807) (hpy:y.port≤9223372036854775807) W (hW:Go.RowKit.Below w5.heap.size w5 W)=>same_any [] x y (.slice none 0 0) W (hE5.below hW) (.inl ⟨rfl,rfl⟩) (by decide) (by simp) hx hy hpx hpy check_host check_host
  have sz1:sizeU u≤1000000000:=by omega
  have pz1:u.port≤9223372036854775807:=by omega
  have ou:=os u sz1 pz1
  cases hc:checkU u with
  |false=>
   have su:=ss u u sz1 sz1 pz1 pz1;rw[origin_no hc]at ou;rw[same_no hc]at su;rw[hc]at cc;have H5:=Lib.hid h5;clear os ss hE hE5 hc hus hu h5 hB hC;unfold urlV at cc ou su;unfold nullB at ou;obtain⟨p0,p1,p2,p3,p4,p5,p6,p7,p8,p9⟩:=hA.cells;go_wp2_with(first|(go_at_call 19;refine(cc _ hbw).mono ?_;rintro e w6 ⟨rfl,hb6⟩;have hA6:=hA.on hb6;have h6:=hb6;clear cc hA hb6 hbw p0 p1 p2 p3 p4 p5 p6 p7 p8 p9;obtain⟨q0,q1,q2,q3,q4,q5,q6,q7,q8,q9⟩:=hA6.cells)|(go_at_call 35;refine(ou _ h6).mono ?_;rintro e w7 ⟨rfl,hb7⟩;have hA7:=hA6.on hb7;have h7:=below_next h6 hb7;clear ou hA6 hb7 h6 q0 q1 q2 q3 q4 q5 q6 q7 q8 q9;obtain⟨r0,r1,r2,r3,r4,r5,r6,r7,r8,r9⟩:=hA7.cells)|(go_at_call 33;refine(su _ h7).mono ?_;rintro e w8 ⟨rfl,hb8⟩;have h8:=below_next h7 hb8;clear su hb8 h7));go_ret;exact⟨rfl,H5.out.trans (h8.mono H5.out.size)⟩
  |true=>
   obtain⟨e1,e2,e3,e4,e5,e6⟩:=origin_plain (by omega) hu hc N hN;have hgu:=check_good hc;have sz2:sizeU (elseU u)≤1000000000:=by have:=(check_good e3).sizes;unfold sizeU;omega
   have pz2:(elseU u).port≤9223372036854775807:=pz1;have sz3:sizeU (portedU u N)≤1000000000:=sz1;have pz3:(portedU u N).port≤9223372036854775807:=by show(N:Int)≤_;omega
   have ov:=os (elseU u) sz2 pz2;have ox:=os (portedU u N) sz3 pz3;have suv:=ss u (elseU u) sz1 sz2 pz1 pz2;have sux:=ss u (portedU u N) sz1 sz3 pz1 pz3;have hsx:(portedU u N).port=(N:Int):=rfl;rw[e1]at suv;rw[e2]at ov;rw[hc]at cc;have hown:(N=ownP u.scheme∧(originL (portedU u N)=nullB))∨(N≠ownP u.scheme∧sameL [] u (portedU u N)=true∧∃r,(originL u==originL (portedU u N))=r∧(u.port==(N:Int))=r):=by
    by_cases h:N=ownP u.scheme
    ·exact .inl ⟨h,e5 h⟩
    ·exact .inr ⟨h,(e6 h).1,_,(e6 h).2.2,rfl⟩
   have H5:=Lib.hid h5;clear os ss hE hE5 hc hus hu h5 e1 e2 e3 e5 e6 hgu sz1 sz2 sz3 pz1 pz2 pz3 hsx;generalize elseU u=v at*;generalize portedU u N=x at*;generalize originL u=O at*;generalize originL x=OX at*;generalize sameL [] u x=SX at*;have HOWN:=Lib.hid hown;clear hown;unfold urlV at cc ou ov ox suv sux;obtain⟨p0,p1,p2,p3,p4,p5,p6,p7,p8,p9⟩:=hA.cells;go_wp2_with fail;go_at_call 19;refine(cc _ hbw).mono ?_;rintro e w6 ⟨rfl,hb6⟩;have hA6:=hA.on hb6;have hB6:=hB.on hb6;have hC6:=hC.on hb6;clear cc hA hB hC hbw p0 p1 p2 p3 p4 p5 p6 p7 p8 p9;go_upto_region 16 with fail;have ku:∀d os,_:=quiet_callS hb6 ou;have kv:∀d os,_:=quiet_callS hb6 ov;have ks:∀d os,_:=quiet_callS hb6 suv;obtain⟨x0,x1,x2,x3,x4,x5,x6,x7,x8,x9⟩:=hA6.regrown;obtain⟨y0,y1,y2,y3,y4,y5,y6,y7,y8,y9⟩:=hB6.regrown;refine wp_region_quiet_below (by kernel_rfl) (by kernel_rfl) ?_
   repeat(quiet_step (first|(with_reducible exact ks _ _)|(with_reducible exact ku _ _)|(with_reducible exact kv _ _)))
   refine wpQuiet_nil ?_;intro _ hw';obtain⟨⟨dq,osq⟩,hw''⟩:=hw';subst hw'';have hbr:=below_regrown w6 dq osq;have hA7:=hA6.on hbr;have hC7:=hC6.on hbr;have h7:=below_next hb6 hbr;clear ku kv ks x0 x1 x2 x3 x4 x5 x6 x7 x8 x9 y0 y1 y2 y3 y4 y5 y6 y7 y8 y9 hA6 hB6 hC6 hb6 hbr ov suv;generalize grow (redrawn w6 dq) osq=w7 at*;have p0:=hA7.cells.1;rcases HOWN.out with ⟨f1,f2⟩|⟨f1,f2,r,f3,f4⟩
   ·have ho:(u.scheme==[104,116,116,112])=true∧(u.scheme==[104,116,116,112,115])=false∧((N:Int)==80)=true∨(u.scheme==[104,116,116,112])=false∧(u.scheme==[104,116,116,112,115])=true∧((N:Int)==443)=true:=by
     rcases e4 with ⟨g1,g2,g3⟩|⟨g1,g2,g3⟩
     ·exact .inl ⟨g1,g2,by rw[f1,g3];rfl⟩
     ·exact .inr ⟨g1,g2,by rw[f1,g3];rfl⟩
    rw[f2]at ox;clear HOWN f1 f2 e4 ou sux;unfold nullB at ox;obtain⟨q0,q1,q2,q3,q4,q5,q6,q7,q8,q9⟩:=hC7.cells;rcases ho with ⟨g1,g2,g3⟩|⟨g1,g2,g3⟩
    all_goals
     go_wp2_with(go_at_call 35;refine(ox _ h7).mono ?_;rintro e w8 ⟨rfl,hb8⟩);go_ret;exact⟨rfl,H5.out.trans ((below_next h7 hb8).mono H5.out.size)⟩
   ·have ho:(u.scheme==[104,116,116,112])=true∧(u.scheme==[104,116,116,112,115])=false∧((N:Int)==80)=false∨(u.scheme==[104,116,116,112])=false∧(u.scheme==[104,116,116,112,115])=true∧((N:Int)==443)=false:=by
     rcases e4 with ⟨g1,g2,g3⟩|⟨g1,g2,g3⟩
     ·exact .inl ⟨g1,g2,beq_eq_false_iff_ne.2 (by omega)⟩
     ·exact .inr ⟨g1,g2,beq_eq_false_iff_ne.2 (by omega)⟩
    rw[f2]at sux;clear HOWN f1 f2 e4;have go1:∀W',Go.RowKit.Below w5.heap.size w5 W'→Go.RowKit.Below w.heap.size w W':=fun W' h=>H5.out.trans (h.mono H5.out.size)
    rcases ho with ⟨g1,g2,g3⟩|⟨g1,g2,g3⟩
    all_goals
     go_upto_region 21 with fail;have ku:∀d os,_:=quiet_callS h7 ou;have kx:∀d os,_:=quiet_callS h7 ox;have ks:∀d os,_:=quiet_callS h7 sux;obtain⟨x0,x1,x2,x3,x4,x5,x6,x7,x8,x9⟩:=hA7.regrown;obtain⟨y0,y1,y2,y3,y4,y5,y6,y7,y8,y9⟩:=hC7.regrown;refine wp_region_quiet_below (by kernel_rfl) (by kernel_rfl) ?_
     repeat(quiet_step (first|(with_reducible exact ks _ _)|(with_reducible exact ku _ _)|(with_reducible exact kx _ _)))
     refine wpQuiet_nil ?_;intro _ hw';obtain⟨⟨dq,osq⟩,hw''⟩:=hw';subst hw'';have h8:=below_next h7 (below_regrown w7 dq osq);clear ku kx ks x0 x1 x2 x3 x4 x5 x6 x7 x8 x9 y0 y1 y2 y3 y4 y5 y6 y7 y8 y9 hA7 hC7 ou ox sux p0;generalize grow (redrawn w7 dq) osq=w8 at*;go_wp2_with fail;go_ret;exact⟨by simp;rw[IntWalk.i64_in _ (by omega),f4],go1 _ h8⟩
end Go.Proofs.YtlcnknlmdaochaaGreatDoor
