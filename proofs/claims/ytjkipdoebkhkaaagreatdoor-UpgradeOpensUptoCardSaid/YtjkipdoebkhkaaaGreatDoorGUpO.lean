/- UpgradeOpens walked. -/
import Derived.Test.YtjkipdoebkhkaaaGreatDoorJarApp
import Derived.Test.YtjkipdoebkhkaaaGreatDoorUpLawB
set_option linter.unusedVariables false
set_option linter.unusedSimpArgs false
set_option maxHeartbeats 16000000
namespace Go.Proofs.YtjkipdoebkhkaaaGreatDoor
open Go.RowKit
set_option maxRecDepth 100000 in
theorem opens_law (a b:Value) (kn g:Int) (q:Bool) (u:UrlL) (now:Int) (J:List CookieL) (S:List SealL) (w:World) (hE:EnvH w) (hJ:RowS 12 cellsK w a J) (hS:RowS 3 cellsS w b S) (lJ:J.length≤1048576) (lS:S.length≤1048576)
 (zJ:∀x∈J,SizK x) (zS:∀x∈S,x.host.length≤1048576) (zu:sizeU u≤900000000) (hport:u.port≤9223372036854775807)
 (cl:∀W,Below w.heap.size w W→Calls Tryz.prog 10 #[] W fun e W'=>e= .returned (.bool true)∧Below W.heap.size W W'):
 Calls Tryz.prog 4 #[.agg (wishC a b kn g q u now).toArray] w fun e w'=>e= .returned (.bool true)∧Below w.heap.size w w':=by
 obtain⟨W0,hW0⟩:∃W,w.alloc (.cells (wishC a b kn g q u now).toArray 31)=W:=⟨_,rfl⟩
 have hb0:Below w.heap.size w W0:=by rw[←hW0];exact below_alloc w _
 have hP:WishAt w.heap.size a b kn g q u now W0:=by unfold WishAt;rw[←hW0];exact heap_alloc_new w _
 have cg:=great16_any a b kn J S W0 (hJ.below hb0 (Nat.le_refl _)) (hS.below hb0 (Nat.le_refl _)) lJ lS (fun x hx=>(zJ x hx).low) (fun x hx=>by have:=zS x hx;unfold slN;omega)
 have hZ:∀W,Below W0.heap.size W0 W→RowS 12 cellsK W a J∧RowS 3 cellsS W b S∧EnvH W:=fun W hW=>⟨hJ.below (below_nx hb0 hW) (Nat.le_refl _),hS.below (below_nx hb0 hW) (Nat.le_refl _),hE.below (below_nx hb0 hW)⟩
 have cj:∀W,Below W0.heap.size W0 W→_:=fun W hW=>jcheck_any a b kn J S W (hZ W hW).2.2 (hZ W hW).1 (hZ W hW).2.1 zJ zS lJ lS
 have ct:∀W,Below W0.heap.size W0 W→Calls Tryz.prog 11 #[keepV a b kn, .agg #[.int .i64 g, .bool q],urlV {u with scheme:=httpB}, .int .i64 now] W fun e w'=>∃v,e= .returned v∧RowS 16 cellsG w' v (tellL S {u with scheme:=httpB} q g now)∧Below W.heap.size W w':=fun W hW=>tellG_any a b kn S {u with scheme:=httpB} q g now W (hZ W hW).2.2 (hZ W hW).2.1 lS (by obtain⟨x,y,z,h, -, -⟩:=hJ.conc;exact⟨x,y,z,h⟩) (by have:=sizeU_http u;omega) hport
 have ct2:∀W,Below W0.heap.size W0 W→Calls Tryz.prog 11 #[keepV a b kn, .agg #[.int .i64 0, .bool q],urlV u, .int .i64 now] W fun e w'=>∃v,e= .returned v∧RowS 16 cellsG w' v (tellL S u q 0 now)∧Below W.heap.size W w':=fun W hW=>tellG_any a b kn S u q 0 now W (hZ W hW).2.2 (hZ W hW).2.1 lS (by obtain⟨x,y,z,h, -, -⟩:=hJ.conc;exact⟨x,y,z,h⟩) (by omega) hport
 obtain⟨a1,a2,a3,rfl, -, -⟩:=hJ.conc
 obtain⟨b1,b2,b3,rfl,hb2, -⟩:=hS.conc
 subst hb2
 have HW:Hid (w.alloc (.cells #[.slice a1 a2 a3, .slice b1 S.length b3, .int .i64 kn, .int .i64 g, .bool q, .string ⟨u.scheme.toArray⟩, .string ⟨u.user.toArray⟩, .string ⟨u.pass.toArray⟩, .string ⟨u.host.toArray⟩, .int .i64 u.port, .string ⟨u.path.toArray⟩, .string ⟨u.query.toArray⟩, .bool u.hasQ, .string ⟨u.mark.toArray⟩, .bool u.hasM, .int .i64 now] 31)=W0):=hW0
 have HP:=Lib.hid (fun W (hW:Below W0.heap.size W0 W)=>hP.on hW)
 obtain⟨k0,k1,k2⟩:=hP.keep
 have CJ:=Lib.hid cj
 have CT:=Lib.hid ct
 have CT2:=Lib.hid ct2
 have HZ:=Lib.hid hZ
 have HSZ:=Lib.hid (And.intro zJ (And.intro lJ (And.intro lS (And.intro zu hport))))
 clear hW0 hP cj ct ct2 hZ zJ zS lJ lS zu hport hJ hS hE
 unfold keepV at cg
 unfold wishC
 go_enter Tryz.func4,Tryz.ntmps4
 go_upto_region 1 with fail
 rw[HW.out]
 clear HW
 by_cases hN:60000<keepN J S
 ·rw[decide_eq_true hN]at cg
  clear CJ CT CT2 HZ HSZ hN;go_wp2_with(first|(go_at_call 8;refine cg.mono ?_;rintro e w1 ⟨rfl,hb1⟩;have h1:=below_nx hb0 hb1)|(go_at_call 10;refine(cl _ h1).mono ?_;rintro e w2 ⟨rfl,hb2⟩));go_ret;exact⟨rfl,below_nx h1 hb2⟩
 rw[decide_eq_false hN]at cg
 by_cases hK:keepB J S kn=true
 case neg=>
  rw[Bool.not_eq_true]at hK;clear CT CT2 HZ HSZ hN;go_wp2_with(first|(go_at_call 8;refine cg.mono ?_;rintro e w1 ⟨rfl,hb1⟩;have h1:=below_nx hb0 hb1;obtain⟨y0,y1,y2⟩:=(HP.out w1 hb1).keep;have cjw:=CJ.out w1 hb1;rw[hK]at cjw;unfold keepV at cjw)|(go_at_call 9;refine cjw.mono ?_;rintro e w2 ⟨rfl,hb2⟩;have h2:=below_nx h1 hb2)|(go_at_call 10;refine(cl _ h2).mono ?_;rintro e w3 ⟨rfl,hb3⟩));go_ret;exact⟨rfl,below_nx h2 hb3⟩
 clear hN
 go_upto_region 3 with (first|(go_at_call 8;refine cg.mono ?_;rintro e w1 ⟨rfl,hb1⟩;obtain⟨y0,y1,y2⟩:=(HP.out w1 hb1).keep;have cjw:=CJ.out w1 hb1;rw[hK]at cjw;unfold keepV at cjw)|(go_at_call 9;refine cjw.mono ?_;rintro e w2 ⟨rfl,hb12⟩))
 have hb2:=below_nx hb1 hb12
 clear cg hb1 hb12 y0 y1 y2 k0 k1 k2 CJ
 have hoe:=open_end (u:=u) (q:=q) (now:=now) hK
 have hta:=tell_apply (u:=u) (q:=q) (age:=0) (now:=now) hK
 have hLs:=tell_len S u q 0 now
 have hh0:tellL S {u with scheme:=httpB} q g now=[]:=tell_http rfl
 have ctw:∀W,Below W0.heap.size W0 W→Calls Tryz.prog 11 #[.agg #[.slice a1 a2 a3, .slice b1 S.length b3, .int .i64 kn], .agg #[.int .i64 g, .bool q], .agg #[.string ⟨#[104,116,116,112]⟩, .string ⟨u.user.toArray⟩, .string ⟨u.pass.toArray⟩, .string ⟨u.host.toArray⟩, .int .i64 u.port, .string ⟨u.path.toArray⟩, .string ⟨u.query.toArray⟩, .bool u.hasQ, .string ⟨u.mark.toArray⟩, .bool u.hasM], .int .i64 now] W fun e w'=>∃c1 c3,e= .returned (.slice c1 0 c3)∧Below W.heap.size W w':=fun W hW=>by
  have h:=CT.out W hW;rw[hh0]at h;refine Calls.mono h ?_;rintro e w' ⟨v,rfl,hr,hb⟩;obtain⟨c1,c2,c3,rfl,rfl, -⟩:=hr.conc;exact⟨c1,c3,rfl,hb⟩
 have ctx:∀W,Below W0.heap.size W0 W→Calls Tryz.prog 11 #[.agg #[.slice a1 a2 a3, .slice b1 S.length b3, .int .i64 kn], .agg #[.int .i64 0, .bool q], .agg #[.string ⟨u.scheme.toArray⟩, .string ⟨u.user.toArray⟩, .string ⟨u.pass.toArray⟩, .string ⟨u.host.toArray⟩, .int .i64 u.port, .string ⟨u.path.toArray⟩, .string ⟨u.query.toArray⟩, .bool u.hasQ, .string ⟨u.mark.toArray⟩, .bool u.hasM], .int .i64 now] W fun e w'=>∃v,e= .returned v∧RowS 16 cellsG w' v (tellL S u q 0 now)∧Below W.heap.size W w':=CT2.out
 generalize tellL S u q 0 now=L at*
 clear CT CT2 hh0
 have HA:=Lib.hid hta
 have HOE:=Lib.hid hoe
 have CT1:=Lib.hid ctw
 have CT2:=Lib.hid ctx
 clear hta hoe ctw ctx
 obtain⟨u0,u1,u2,u3,u4,u5,u6,u7,u8,u9⟩:=(HP.out w2 hb2).url
 go_upto_region 4 with fail
 obtain⟨w3,hw3⟩:∃W,w2.alloc (.cells #[.string ⟨u.scheme.toArray⟩, .string ⟨u.user.toArray⟩, .string ⟨u.pass.toArray⟩, .string ⟨u.host.toArray⟩, .int .i64 u.port, .string ⟨u.path.toArray⟩, .string ⟨u.query.toArray⟩, .bool u.hasQ, .string ⟨u.mark.toArray⟩, .bool u.hasM] 29)=W:=⟨_,rfl⟩
 have hb3:Below w2.heap.size w2 w3:=by rw[←hw3];exact below_alloc w2 _
 have hU3:UrlAt w2.heap.size u w3:=by rw[←hw3];exact heap_alloc_new w2 _
 try rw[hw3]
 clear hw3 u0 u1 u2 u3 u4 u5 u6 u7 u8 u9
 obtain⟨u0,u1,u2,u3,u4,u5,u6,u7,u8,u9⟩:=hU3.cells
 obtain⟨f0,f1,f2,f3,f4,f5,f6,f7,f8,f9⟩:=hU3.frees
 go_upto_region 5 with fail
 have hU4:UrlAt w2.heap.size {u with scheme:=httpB} (w3.setCell ⟨w2.heap.size,0,none⟩ (.string ⟨#[104,116,116,112]⟩)):=hU3.one 0 _ rfl
 have hb4:Below w2.heap.size w2 (w3.setCell ⟨w2.heap.size,0,none⟩ (.string ⟨#[104,116,116,112]⟩)):=hb3.setCell (p:=⟨w2.heap.size,0,none⟩) (Nat.le_refl _) _
 clear hU3 hb3 u0 u1 u2 u3 u4 u5 u6 u7 u8 u9 f0 f1 f2 f3 f4 f5 f6 f7 f8 f9
 revert hU4 hb4
 generalize w3.setCell ⟨w2.heap.size,0,none⟩ (.string ⟨#[104,116,116,112]⟩)=w4
 intro hU4 hb4
 have hb04:=below_nx hb2 hb4
 obtain⟨u0,u1,u2,u3,u4,u5,u6,u7,u8,u9⟩:=hU4.cells
 obtain⟨k0,k1,k2⟩:=(HP.out w4 hb04).keep
 obtain⟨g0,g1,g2,g3⟩:=(HP.out w4 hb04).wish
 go_upto_region 7 with (go_at_call 11;refine(CT1.out w4 hb04).mono ?_;rintro e w5 ⟨c1,c3,rfl,hb45⟩)
 have hb05:=below_nx hb04 hb45
 clear u0 u1 u2 u3 u4 u5 u6 u7 u8 u9 k0 k1 k2 g0 g1 g2 g3 hU4 hb45 hb04 hb4 hb2
 obtain⟨g0,g1,g2,g3⟩:=(HP.out w5 hb05).wish
 go_upto_region 8 with fail
 obtain⟨w6,hw6⟩:∃W,w5.alloc (.cells #[.int .i64 g, .bool q] 27)=W:=⟨_,rfl⟩
 have hb6:Below w5.heap.size w5 w6:=by rw[←hw6];exact below_alloc w5 _
 have hI6:w6.heap[w5.heap.size]?=some (.cells #[.int .i64 g, .bool q] 27 (0,0)):=by rw[←hw6];exact heap_alloc_new w5 _
 try rw[hw6]
 clear hw6 g0 g1 g2 g3
 have g0:w6.cell? ⟨w5.heap.size,0,none⟩=some (.int .i64 g):=by rw[Lib.cell_of_heap hI6];rfl
 have g1:w6.frozen? ⟨w5.heap.size,0,none⟩=false:=by simp[World.frozen?,hI6]
 go_upto_region 9 with fail
 have hI7:=heap_setCell_same w6 w5.heap.size 0 _ _ (.int .i64 0) hI6
 have hb7:Below w5.heap.size w5 (w6.setCell ⟨w5.heap.size,0,none⟩ (.int .i64 0)):=hb6.setCell (p:=⟨w5.heap.size,0,none⟩) (Nat.le_refl _) _
 clear hI6 hb6 g0 g1
 revert hI7 hb7
 generalize w6.setCell ⟨w5.heap.size,0,none⟩ (.int .i64 0)=w7
 intro hI7 hb7
 have hb07:=below_nx hb05 hb7
 have g0:w7.cell? ⟨w5.heap.size,0,none⟩=some (.int .i64 0):=by rw[Lib.cell_of_heap hI7];rfl
 have g1:w7.cell? ⟨w5.heap.size,1,none⟩=some (.bool q):=by rw[Lib.cell_of_heap hI7];rfl
 obtain⟨k0,k1,k2⟩:=(HP.out w7 hb07).keep
 obtain⟨-, -,g2, -⟩:=(HP.out w7 hb07).wish
 obtain⟨u0,u1,u2,u3,u4,u5,u6,u7,u8,u9⟩:=(HP.out w7 hb07).url
 go_upto_region 10 with (go_at_call 11;refine(CT2.out w7 hb07).mono ?_;rintro e w8 ⟨v,rfl,hrow,hb78⟩)
 have hb8:=below_nx hb07 hb78
 obtain⟨p1,p2,p3,rfl,hp2, -⟩:=hrow.conc
 subst hp2
 clear u0 u1 u2 u3 u4 u5 u6 u7 u8 u9 k0 k1 k2 g0 g1 g2 hI7 hb7 hb07 hb78 hb05
 obtain⟨k0,k1,k2⟩:=(HP.out w8 hb8).keep
 obtain⟨w4,hw4⟩:∃W,w8.alloc (.cells #[.slice a1 a2 a3, .slice b1 S.length b3, .int .i64 kn] 25)=W:=⟨_,rfl⟩
 have hb34:Below w8.heap.size w8 w4:=by rw[←hw4];exact below_alloc w8 _
 have hKW0:KW w8 kn J S (.slice a1 a2 a3) (.slice b1 S.length b3) w4:=⟨hb34,by rw[←hw4];exact heap_alloc_new w8 _,(HZ.out w4 (below_nx hb8 hb34)).1,(HZ.out w4 (below_nx hb8 hb34)).2.1⟩
 have HKW0:=Lib.hid hKW0
 clear hb34 hKW0
 go_upto_region 11 with fail
 try rw[hw4]
 clear hw4
 go_wp2_with fail
 go_loopw [7] (fun i wr=>∃(k:Nat) (va vb:Value),k≤L.length∧i= .int .i64 k∧Hid (KW w8 kn J (appsS S (L.take k)) va vb wr)) (fun i _=>L.length-(intOf i).toNat)
 case atStart=>exact⟨0,_,_,Nat.zero_le _,rfl,HKW0⟩
 case round=>
  obtain⟨k,va,vb,hk,rfl,HKW⟩:=hrel;by_cases hlt:k<L.length
  ·have hki:(k:Int)<(L.length:Int):=by omega
   obtain⟨p,rfl⟩:∃p,p1=some p:=by
    rcases hrow with ⟨h1,h2⟩|⟨x,c,h1,_⟩
    ·rw[h2]at hlt;simp at hlt
    ·injection h1 with h1;exact⟨x,h1⟩
   have hKk:=HA.out.2 k hk;have hKn:=HA.out.2 (k+1) (by omega);have hsok:=HA.out.1 _ (List.getElem_mem hlt);have HAP:=Lib.hid (apps_succ (S:=S) hlt);rw[HAP.out]at hKn;have hck:=fun W (hW:Below wr.heap.size wr W)=>hrow.each k hlt W (below_nx HKW.out.low hW)
   obtain⟨⟨d,s⟩,hc⟩:∃c,L[k]=c:=⟨_,rfl⟩;have HC:=Lib.hid hc;rw[hc]at hKn hsok hck;generalize hT:appsS S (L.take k)=T at*;have hzT:=keepB_hosts hKk;obtain⟨kd,hkd,hd,hcg⟩:∃kd:Int,(kd=3∨kd=4)∧decide (kd=3)=d∧cellsG (d,s)=changeC kd s:=by
    cases d
    ·exact⟨4, .inr rfl,rfl,rfl⟩
    ·exact⟨3, .inl rfl,rfl,rfl⟩
   rw[hcg]at hck;obtain⟨x1,x2,x3,rfl,hx2, -⟩:=HKW.out.rj.conc;obtain⟨y1,y2,y3,rfl,hy2, -⟩:=HKW.out.rs.conc;subst hx2 hy2;have CA:∀W,Below wr.heap.size wr W→Calls Tryz.prog 12 #[.agg #[.slice x1 J.length x3, .slice y1 T.length y3, .int .i64 kn], .agg (changeC kd s).toArray] W fun e W'=>∃a4 b4,e= .returned (.tuple #[keepV a4 b4 kn, .int .i64 0])∧RowS 12 cellsK W' a4 J∧RowS 3 cellsS W' b4 (appS T (d,s))∧Below W.heap.size W W':=fun W hW=>by
    have hk2:keepB J (appS T (decide (kd=3),s)) kn=true:=by rw[hd];exact hKn
    have:=apply_seal (.slice x1 J.length x3) (.slice y1 T.length y3) kn J T kd hkd s W (HZ.out W (below_nx (below_nx hb8 HKW.out.low) hW)).2.2 (HKW.out.on hW).rj (HKW.out.on hW).rs HSZ.out.1 hzT (sealOk_host hsok) hsok hKk hk2;rw[hd]at this;exact this
   have hKM:∀W,Below wr.heap.size wr W→∀j v,[.slice x1 J.length x3, .slice y1 T.length y3,Value.int .i64 kn][j]?=some v→W.cell? ((⟨w8.heap.size,0,none⟩:Addr).add j)=some v:=fun W hW j v hv=>by
    rw[Addr.add_lit,Nat.zero_add,Lib.cell_of_heap (HKW.out.on hW).bk];simpa using hv
   have hCM:=hck;have hi3:(Tryz.prog.info? 25).map (·.size)=some 3:=by kernel_rfl
   have hi16:(Tryz.prog.info? 46).map (·.size)=some 16:=by kernel_rfl
   have HT:=Lib.hid hT;clear hck hKk hKn hsok hzT hkd hd hcg hc hT;go_upto_region 14 with fail;go_cut [8,9]from 53 to 61 (fun nn ee wx=>∃(Bn:Nat) (a4 b4:Value),nn= .pointer (some ⟨Bn,0,none⟩)∧ee= .int .i64 0∧Hid (wx.heap[Bn]?=some (.cells #[a4,b4, .int .i64 kn] 25 (0,0)))∧Hid (RowS 12 cellsK wx a4 J)∧Hid (RowS 3 cellsS wx b4 (appS T (d,s)))∧Hid (Below wr.heap.size wr wx))
   case first=>
    have hS:=(Below.refl wr.heap.size wr).drew;refine wp_region_held_drew (S:=fun W=>Below wr.heap.size wr W) (by kernel_rfl) hS (fun _=> ?_);refine wpAnyH_take (i:=0) (oi:=⟨some 54, .load 25 (.tmp 6),_,_,_,_⟩) (v:= .agg #[.slice x1 J.length x3, .slice y1 T.length y3, .int .i64 kn]) rfl (by kernel_rfl) (by kernel_rfl) (by kernel_rfl) (fun _ _ _ h=>h) (yieldsIf_load_at (by rfl) 25 (.tmp 6) rfl ⟨w8.heap.size,0,none⟩ rfl [.slice x1 J.length x3, .slice y1 T.length y3, .int .i64 kn] _ hKM Tryz.underlying25 rfl hi3) hS ?_
    try simp only[Act.put,List.setIfInBounds_toArray,List.set_cons_zero,List.set_cons_succ]
    refine wpAnyH_take (i:=1) (oi:=⟨some 55, .move (.tmp 5),_,_,_,_⟩) (v:= .slice (some p) L.length p3) rfl (by kernel_rfl) (by kernel_rfl) (by kernel_rfl) (fun _ _ _ h=>h) (.inl ⟨by rfl,fun W hW=>by go_simp⟩) hS ?_
    try simp only[Act.put,List.setIfInBounds_toArray,List.set_cons_zero,List.set_cons_succ]
    refine wpAnyH_take (i:=2) (oi:=⟨some 56, .move (.tmp 7),_,_,_,_⟩) (v:= .int .i64 k) rfl (by kernel_rfl) (by kernel_rfl) (by kernel_rfl) (fun _ _ _ h=>h) (.inl ⟨by rfl,fun W hW=>by go_simp⟩) hS ?_
    try simp only[Act.put,List.setIfInBounds_toArray,List.set_cons_zero,List.set_cons_succ]
    refine wpAnyH_take (i:=3) (oi:=⟨some 57, .indexAddr 34 (.tmp 55) (.tmp 56),_,_,_,_⟩) (v:= .pointer (some (p.add (k*16)))) rfl (by kernel_rfl) (by kernel_rfl) (by kernel_rfl) (fun _ _ _ h=>h) (.inl ⟨by rfl,fun W hW=>by go_simp⟩) hS ?_
    try simp only[Act.put,List.setIfInBounds_toArray,List.set_cons_zero,List.set_cons_succ]
    refine wpAnyH_take (i:=4) (oi:=⟨some 58, .load 46 (.tmp 57),_,_,_,_⟩) (v:= .agg (changeC kd s).toArray) rfl (by kernel_rfl) (by kernel_rfl) (by kernel_rfl) (fun _ _ _ h=>h) (yieldsIf_load_at (by rfl) 46 (.tmp 57) rfl (p.add (k*16)) rfl (changeC kd s) _ hCM Tryz.underlying46 rfl hi16) hS ?_
    try simp only[Act.put,List.setIfInBounds_toArray,List.set_cons_zero,List.set_cons_succ]
    refine wpAnyH_ready (rs:=[5,9]) (by kernel_rfl) (by simp) ?_;refine AllReadyH.cons (o:=⟨some 59, .call {callee:= .value (.func 12),args:= #[.tmp 54, .tmp 58],argTypes:= #[25,46]},_,_,_,_⟩) rfl (fun K hK=> ?_) (AllReadyH.cons (o:=⟨some 8, .alloc 25,_,_,_,_⟩) rfl (fun K hK=> ?_) AllReadyH.nil)
    ·skip
     go_simp;go_at_call 12;refine(CA _ hS).mono ?_;rintro e z1 ⟨a4,b4,rfl,hra,hrb,hn⟩;obtain⟨m1,m2,m3,rfl, -, -⟩:=hra.conc;obtain⟨n1,n2,n3,rfl, -, -⟩:=hrb.conc;unfold keepV;go_wp2_with fail;have hn2:=hS.trans (hn.mono hS.size);have hS1:Below wr.heap.size wr z1:=hn2;refine hK.out _ _ hS1 (fun _=> ?_);clear hK hS K;have hS:=hS1;clear hS1
     try simp only[Act.put,List.setIfInBounds_toArray,List.set_cons_zero,List.set_cons_succ]
     refine wpAnyH_take (i:=6) (oi:=⟨some 53, .move (.tmp 59),_,_,_,_⟩) (v:= .tuple #[.agg #[.slice m1 m2 m3, .slice n1 n2 n3, .int .i64 kn], .int .i64 0]) rfl (by kernel_rfl) (by kernel_rfl) (by kernel_rfl) (fun _ _ _ h=>h) (.inl ⟨by rfl,fun W hW=>by go_simp⟩) hS ?_
     try simp only[Act.put,List.setIfInBounds_toArray,List.set_cons_zero,List.set_cons_succ]
     refine wpAnyH_take (i:=7) (oi:=⟨some 60, .extract (.tmp 53) 0,_,_,_,_⟩) (v:= .agg #[.slice m1 m2 m3, .slice n1 n2 n3, .int .i64 kn]) rfl (by kernel_rfl) (by kernel_rfl) (by kernel_rfl) (fun _ _ _ h=>h) (.inl ⟨by rfl,fun W hW=>by go_simp⟩) hS ?_
     try simp only[Act.put,List.setIfInBounds_toArray,List.set_cons_zero,List.set_cons_succ]
     refine wpAnyH_take (i:=8) (oi:=⟨some 61, .extract (.tmp 53) 1,_,_,_,_⟩) (v:= .int .i64 0) rfl (by kernel_rfl) (by kernel_rfl) (by kernel_rfl) (fun _ _ _ h=>h) (.inl ⟨by rfl,fun W hW=>by go_simp⟩) hS ?_
     try simp only[Act.put,List.setIfInBounds_toArray,List.set_cons_zero,List.set_cons_succ]
     refine wpAnyH_ready (rs:=[9]) (by kernel_rfl) (by simp) ?_;refine AllReadyH.cons (o:=⟨some 8, .alloc 25,_,_,_,_⟩) rfl (fun K hK=> ?_) AllReadyH.nil;go_simp;obtain⟨z2,hz2⟩:∃W,z1.alloc (.cells #[.slice none 0 0, .slice none 0 0, .int .i64 0] 25)=W:=⟨_,rfl⟩;rw[hz2];have hz:z2.heap[z1.heap.size]?=some (.cells #[.slice none 0 0, .slice none 0 0, .int .i64 0] 25 (0,0)):=by rw[←hz2];exact heap_alloc_new z1 _
     have hb12:Below z1.heap.size z1 z2:=by rw[←hz2];exact below_alloc z1 _
     have hle:=hS.size;have hn2:=hS.trans (hb12.mono hS.size);have hra:=hra.below hb12 (Nat.le_refl _);have hrb:=hrb.below hb12 (Nat.le_refl _);clear hz2;have hS1:Below wr.heap.size wr z2:=hn2;refine hK.out _ _ hS1 (fun _=> ?_);clear hK hS K;have hS:=hS1;clear hS1
     try simp only[Act.put,List.setIfInBounds_toArray,List.set_cons_zero,List.set_cons_succ]
     refine wpAnyH_ready (rs:=[10]) (by kernel_rfl) (by simp) ?_;refine AllReadyH.cons (o:=⟨none, .store 25 (.tmp 8) (.tmp 60),_,_,_,_⟩) rfl (fun K hK=> ?_) AllReadyH.nil;have c0:z2.cell? ⟨z1.heap.size,0,none⟩=some (.slice none 0 0):=by rw[Lib.cell_of_heap hz];rfl
     have c1:z2.cell? ⟨z1.heap.size,1,none⟩=some (.slice none 0 0):=by rw[Lib.cell_of_heap hz];rfl
     have c2:z2.cell? ⟨z1.heap.size,2,none⟩=some (.int .i64 0):=by rw[Lib.cell_of_heap hz];rfl
     have f0:z2.frozen? ⟨z1.heap.size,0,none⟩=false:=by simp[World.frozen?,hz]
     have f1:z2.frozen? ⟨z1.heap.size,1,none⟩=false:=by simp[World.frozen?,hz]
     have f2:z2.frozen? ⟨z1.heap.size,2,none⟩=false:=by simp[World.frozen?,hz]
     go_simp;have hS1:Below wr.heap.size wr (((z2.setCell ⟨z1.heap.size,0,none⟩ (.slice m1 m2 m3)).setCell ⟨z1.heap.size,1,none⟩ (.slice n1 n2 n3)).setCell ⟨z1.heap.size,2,none⟩ (.int .i64 kn)):=((hS.setCell (p:=⟨z1.heap.size,0,none⟩) (by simp only;omega) _).setCell (p:=⟨z1.heap.size,1,none⟩) (by simp only;omega) _).setCell (p:=⟨z1.heap.size,2,none⟩) (by simp only;omega) _;refine hK.out _ _ hS1 (fun _=> ?_);clear hK hS K;have hS:=hS1
     try simp only[Act.put,List.setIfInBounds_toArray,List.set_cons_zero,List.set_cons_succ]
     refine wpAnyH_take (i:=11) (oi:=⟨some 9, .assign (.tmp 61),_,_,_,_⟩) (v:= .int .i64 0) rfl (by kernel_rfl) (by kernel_rfl) (by kernel_rfl) (fun _ _ _ h=>h) (.inl ⟨by rfl,fun W hW=>by go_simp⟩) hS ?_
     try simp only[Act.put,List.setIfInBounds_toArray,List.set_cons_zero,List.set_cons_succ]
     refine wpAnyH_done (by kernel_rfl) ?_ _;go_wp2_with fail;go_meet;exact new_keep hz hra hrb hS1
    ·skip
     go_simp;obtain⟨z2,hz2⟩:∃W,(wr.alloc (.cells #[.slice none 0 0, .slice none 0 0, .int .i64 0] 25)).drew=W:=⟨_,rfl⟩;rw[hz2];have hz0:z2.heap[wr.heap.size]?=some (.cells #[.slice none 0 0, .slice none 0 0, .int .i64 0] 25 (0,0)):=by rw[←hz2];exact heap_alloc_new wr _
     have hn2:Below wr.heap.size wr z2:=by rw[←hz2];exact(below_alloc wr _).drew
     have hle:wr.heap.size≤wr.heap.size:=Nat.le_refl _;clear hz2;have hS1:Below wr.heap.size wr z2:=hn2;refine hK.out _ _ hS1 (fun _=> ?_);clear hK hS K;have hS:=hS1;clear hS1
     try simp only[Act.put,List.setIfInBounds_toArray,List.set_cons_zero,List.set_cons_succ]
     refine wpAnyH_ready (rs:=[5]) (by kernel_rfl) (by simp) ?_;refine AllReadyH.cons (o:=⟨some 59, .call {callee:= .value (.func 12),args:= #[.tmp 54, .tmp 58],argTypes:= #[25,46]},_,_,_,_⟩) rfl (fun K hK=> ?_) AllReadyH.nil;go_simp;go_at_call 12;refine(CA _ hS).mono ?_;rintro e z1 ⟨a4,b4,rfl,hra,hrb,hn⟩;obtain⟨m1,m2,m3,rfl, -, -⟩:=hra.conc;obtain⟨n1,n2,n3,rfl, -, -⟩:=hrb.conc;unfold keepV;go_wp2_with fail;have hn2:=hS.trans (hn.mono hS.size);have hS1:Below wr.heap.size wr z1:=hn2;refine hK.out _ _ hS1 (fun _=> ?_);clear hK hS K;have hS:=hS1;clear hS1
     try simp only[Act.put,List.setIfInBounds_toArray,List.set_cons_zero,List.set_cons_succ]
     refine wpAnyH_take (i:=6) (oi:=⟨some 53, .move (.tmp 59),_,_,_,_⟩) (v:= .tuple #[.agg #[.slice m1 m2 m3, .slice n1 n2 n3, .int .i64 kn], .int .i64 0]) rfl (by kernel_rfl) (by kernel_rfl) (by kernel_rfl) (fun _ _ _ h=>h) (.inl ⟨by rfl,fun W hW=>by go_simp⟩) hS ?_
     try simp only[Act.put,List.setIfInBounds_toArray,List.set_cons_zero,List.set_cons_succ]
     refine wpAnyH_take (i:=7) (oi:=⟨some 60, .extract (.tmp 53) 0,_,_,_,_⟩) (v:= .agg #[.slice m1 m2 m3, .slice n1 n2 n3, .int .i64 kn]) rfl (by kernel_rfl) (by kernel_rfl) (by kernel_rfl) (fun _ _ _ h=>h) (.inl ⟨by rfl,fun W hW=>by go_simp⟩) hS ?_
     try simp only[Act.put,List.setIfInBounds_toArray,List.set_cons_zero,List.set_cons_succ]
     refine wpAnyH_take (i:=8) (oi:=⟨some 61, .extract (.tmp 53) 1,_,_,_,_⟩) (v:= .int .i64 0) rfl (by kernel_rfl) (by kernel_rfl) (by kernel_rfl) (fun _ _ _ h=>h) (.inl ⟨by rfl,fun W hW=>by go_simp⟩) hS ?_
     try simp only[Act.put,List.setIfInBounds_toArray,List.set_cons_zero,List.set_cons_succ]
     have hz:=(hn.block _ (Array.getElem?_eq_some_iff.1 hz0).1).trans hz0;refine wpAnyH_ready (rs:=[10]) (by kernel_rfl) (by simp) ?_;refine AllReadyH.cons (o:=⟨none, .store 25 (.tmp 8) (.tmp 60),_,_,_,_⟩) rfl (fun K hK=> ?_) AllReadyH.nil;have c0:z1.cell? ⟨wr.heap.size,0,none⟩=some (.slice none 0 0):=by rw[Lib.cell_of_heap hz];rfl
     have c1:z1.cell? ⟨wr.heap.size,1,none⟩=some (.slice none 0 0):=by rw[Lib.cell_of_heap hz];rfl
     have c2:z1.cell? ⟨wr.heap.size,2,none⟩=some (.int .i64 0):=by rw[Lib.cell_of_heap hz];rfl
     have f0:z1.frozen? ⟨wr.heap.size,0,none⟩=false:=by simp[World.frozen?,hz]
     have f1:z1.frozen? ⟨wr.heap.size,1,none⟩=false:=by simp[World.frozen?,hz]
     have f2:z1.frozen? ⟨wr.heap.size,2,none⟩=false:=by simp[World.frozen?,hz]
     go_simp;have hS1:Below wr.heap.size wr (((z1.setCell ⟨wr.heap.size,0,none⟩ (.slice m1 m2 m3)).setCell ⟨wr.heap.size,1,none⟩ (.slice n1 n2 n3)).setCell ⟨wr.heap.size,2,none⟩ (.int .i64 kn)):=((hS.setCell (p:=⟨wr.heap.size,0,none⟩) (by simp only;omega) _).setCell (p:=⟨wr.heap.size,1,none⟩) (by simp only;omega) _).setCell (p:=⟨wr.heap.size,2,none⟩) (by simp only;omega) _;refine hK.out _ _ hS1 (fun _=> ?_);clear hK hS K;have hS:=hS1
     try simp only[Act.put,List.setIfInBounds_toArray,List.set_cons_zero,List.set_cons_succ]
     refine wpAnyH_take (i:=11) (oi:=⟨some 9, .assign (.tmp 61),_,_,_,_⟩) (v:= .int .i64 0) rfl (by kernel_rfl) (by kernel_rfl) (by kernel_rfl) (fun _ _ _ h=>h) (.inl ⟨by rfl,fun W hW=>by go_simp⟩) hS ?_
     try simp only[Act.put,List.setIfInBounds_toArray,List.set_cons_zero,List.set_cons_succ]
     refine wpAnyH_done (by kernel_rfl) ?_ _;go_wp2_with fail;go_meet;exact new_keep hz hra hrb hS1
   case rest=>
    obtain⟨Bn,a4,b4,rfl,rfl,HBn,HRa,HRb,HBw⟩:=hcut;obtain⟨m1,m2,m3,rfl,hm2, -⟩:=HRa.out.conc;obtain⟨n1,n2,n3,rfl,hn2, -⟩:=HRb.out.conc;have c0:wc.cell? ⟨Bn,0,none⟩=some (.slice m1 m2 m3):=by rw[Lib.cell_of_heap HBn.out];rfl
    have c1:wc.cell? ⟨Bn,1,none⟩=some (.slice n1 n2 n3):=by rw[Lib.cell_of_heap HBn.out];rfl
    have c2:wc.cell? ⟨Bn,2,none⟩=some (.int .i64 kn):=by rw[Lib.cell_of_heap HBn.out];rfl
    obtain⟨q0,q1,q2,q3,q4,q5⟩:=HKW.out.cells HBw.out;have HKn:=Lib.hid ((HKW.out.on HBw.out).put HRa.out HRb.out);clear hKM hCM CA hm2 hn2;go_wp2_with fail;go_roundw
    case rel=>exact⟨k+1, .slice m1 m2 m3, .slice n1 n2 n3,by omega,by go_num,by rw[HAP.out,HC.out];exact HKn⟩
    case measure=>simp[intOf];omega
  ·obtain rfl:k=L.length:=by omega
   have hKk:=HA.out.2 L.length (Nat.le_refl _);rw[List.take_length]at HKW hKk;have h4:=below_nx hb8 HKW.out.low;have h40:=below_nx hb0 h4;clear HKW0;obtain⟨hlen,hnot⟩:=HOE.out;have hTl:=(keepB_parts hKk).2.1;obtain⟨x1,x2,x3,rfl, -, -⟩:=HKW.out.rj.conc;obtain⟨y1,y2,y3,rfl,hy2, -⟩:=HKW.out.rs.conc;subst hy2;have e:(appsS S L).foldl (fun n _=>n) 0=0:=by generalize appsS S L=X;induction X<;>simp_all
   clear e;unfold appsS at hlen hnot;have hlen:(appsS S L).length+L.length=S.length:=hlen;have hnot:0<L.length→∀s∈appsS S L,s.host≠u.host:=hnot;generalize appsS S L=T at*;have HNO:=Lib.hid hnot;have HLN:=Lib.hid hlen;clear hKk hnot hlen hrow HA HOE hlt hk;have hr0:=Below.refl wr.heap.size wr;go_wp2_with fail;go_loopw [10] (fun i wy=>∃k:Nat,k≤T.length∧i= .int .i64 k∧Hid (KW w8 kn J T (.slice x1 x2 x3) (.slice y1 T.length y3) wy)) (fun i _=>T.length-(intOf i).toNat)
   case atStart=>exact⟨0,Nat.zero_le _,rfl,HKW⟩
   case round=>
    clear HKW hr0 h4 h40;obtain⟨k,hk,rfl,HKW⟩:=hrel;have h4:=below_nx hb8 HKW.out.low;have h40:=below_nx hb0 h4;obtain⟨q0,q1,q2,q3,q4,q5⟩:=HKW.out.cells (Below.refl _ _);obtain⟨v0,v1,v2,v3⟩:=(HP.out _ h4).wish;by_cases hlt:k<T.length
    ·have hki:(k:Int)<(T.length:Int):=by omega
     obtain⟨ay,rfl⟩:∃ay,y1=some ay:=by
      rcases HKW.out.rs with ⟨h1,h2⟩|⟨x,c,h1,_⟩
      ·rw[h2]at hlt;simp at hlt
      ·injection h1 with h1;exact⟨x,h1⟩
     have hck:=HKW.out.rs.each k hlt _ (Below.refl _ _);have hne:=fun h=>HNO.out h _ (List.getElem_mem hlt)
     obtain⟨x,hx⟩:∃x,T[k]=x:=⟨_,rfl⟩;rw[hx]at hck hne;have e2:World.cell? _ (ay.add (k*3))=some (.string ⟨x.host.toArray⟩):=hck 0 (.string ⟨x.host.toArray⟩) rfl;clear hx hck;by_cases hl0:0<L.length
     ·have hl1:(0:Int)<(L.length:Int):=by omega
      have hb:(x.host==u.host)=false:=beq_eq_false_iff_ne.2 (hne hl0);have hld:decide ((0:Int)<(L.length:Int))=true:=decide_eq_true hl1;clear hne;go_upto_region 21 with fail;go_quiet (fail);go_wp2_with fail;go_roundw
      case rel=>exact⟨k+1,by omega,by go_num,Lib.hid (HKW.out.on (below_dnk (Below.refl _ _) _))⟩
      case measure=>simp[intOf];omega
     ·have hl1:(L.length:Int)=0:=by omega
      have hld:decide ((0:Int)<(L.length:Int))=false:=decide_eq_false (by omega);clear hne hl1;go_upto_region 21 with fail;go_quiet (fail);go_wp2_with fail;go_roundw
      case rel=>exact⟨k+1,by omega,by go_num,Lib.hid (HKW.out.on (below_dnk (Below.refl _ _) _))⟩
      case measure=>simp[intOf];omega
    ·obtain rfl:k=T.length:=by omega
     obtain⟨k0,k1,k2⟩:=(HP.out _ h4).keep;have hlen:=HLN.out;have hsi:((T.length:Int)+(L.length:Int)==(S.length:Int))=true:=beq_iff_eq.2 (by omega);have hSl:(S.length:Int)≤202:=by omega
     have HSI:=Lib.hid hsi;clear hlen;go_wp2_with(go_at_call 10;refine(cl _ h40).mono ?_;rintro e z1 ⟨rfl,hz1⟩);go_ret;exact⟨rfl,below_nx h40 hz1⟩
theorem SizC.siz {c:CookieL} (h:SizC 1048576 c):SizK c:=⟨h.name.2,h.value.2,h.host.2,h.path.2⟩
theorem SizU.all {u:UrlL} (h:SizU 1048576 u):sizeU u≤900000000:=by
 have h1:=h.scheme.2;have h2:=h.user.2;have h3:=h.pass.2;have h4:=h.host.2;have h5:=h.path.2;have h6:=h.query.2;have h7:=h.mark.2;unfold sizeU;omega
theorem opens_top (a b:Value) (kn g:Int) (q:Bool) (u:UrlL) (now:Int) (J:List CookieL) (S:List SealL) (w:World) (hJ:RowS 12 cellsK w a J) (zJ:∀x∈J,SizC 1048576 x) (lJ:J.length≤1048576) (hS:RowS 3 cellsS w b S) (zS:∀x∈S,LenK 1048576 x.host) (lS:S.length≤1048576) (zu:SizU 1048576 u)
 (hE:EnvH w):
 Calls Tryz.prog 4 #[.agg (wishC a b kn g q u now).toArray] w fun e w'=>e= .returned (.bool true)∧Below w.heap.size w w':=
 opens_law a b kn g q u now J S w hE hJ hS lJ lS (fun x hx=>(zJ x hx).siz) (fun x hx=>(zS x hx).2) zu.all zu.high (fun W hW=>lives16 W (hE.below hW))
end Go.Proofs.YtjkipdoebkhkaaaGreatDoor
