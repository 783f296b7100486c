/- UpgradeHolds walked. -/
import Derived.Test.YtjkipdoebkhkaaaGreatDoorJarApp
import Derived.Test.YtjkipdoebkhkaaaGreatDoorUpLawB
set_option linter.unusedVariables false
set_option linter.unusedSimpArgs false
set_option maxHeartbeats 16000000
namespace Go.Proofs.YtjkipdoebkhkaaaGreatDoor
open Go.RowKit
set_option maxRecDepth 100000 in
theorem holds_law (a b:Value) (kn g:Int) (q:Bool) (u:UrlL) (now:Int) (J:List CookieL) (S:List SealL) (w:World) (hE:EnvH w) (hJ:RowS 12 cellsK w a J) (hS:RowS 3 cellsS w b S) (lJ:J.length≤1048576) (lS:S.length≤1048576)
 (zJ:∀x∈J,SizK x) (zS:∀x∈S,x.host.length≤1048576) (zu:sizeU u≤1000000000) (hport:u.port≤9223372036854775807)
 (cl:∀W,Below w.heap.size w W→Calls Tryz.prog 10 #[] W fun e W'=>e= .returned (.bool true)∧Below W.heap.size W W'):
 Calls Tryz.prog 3 #[.agg (wishC a b kn g q u now).toArray] w fun e w'=>e= .returned (.bool true)∧Below w.heap.size w w':=by
 obtain⟨W0,hW0⟩:∃W,w.alloc (.cells (wishC a b kn g q u now).toArray 31)=W:=⟨_,rfl⟩
 have hb0:Below w.heap.size w W0:=by rw[←hW0];exact below_alloc w _
 have hP:WishAt w.heap.size a b kn g q u now W0:=by unfold WishAt;rw[←hW0];exact heap_alloc_new w _
 have cg:=great16_any a b kn J S W0 (hJ.below hb0 (Nat.le_refl _)) (hS.below hb0 (Nat.le_refl _)) lJ lS (fun x hx=>(zJ x hx).low) (fun x hx=>by have:=zS x hx;unfold slN;omega)
 have hZ:∀W,Below W0.heap.size W0 W→RowS 12 cellsK W a J∧RowS 3 cellsS W b S∧EnvH W:=fun W hW=>⟨hJ.below (below_nx hb0 hW) (Nat.le_refl _),hS.below (below_nx hb0 hW) (Nat.le_refl _),hE.below (below_nx hb0 hW)⟩
 have cj:∀W,Below W0.heap.size W0 W→_:=fun W hW=>jcheck_any a b kn J S W (hZ W hW).2.2 (hZ W hW).1 (hZ W hW).2.1 zJ zS lJ lS
 have ct:∀W,Below W0.heap.size W0 W→Calls Tryz.prog 11 #[keepV a b kn, .agg #[.int .i64 g, .bool q],urlV u, .int .i64 now] W fun e w'=>∃v,e= .returned v∧RowS 16 cellsG w' v (tellL S u q g now)∧Below W.heap.size W w':=fun W hW=>tellG_any a b kn S u q g now W (hZ W hW).2.2 (hZ W hW).2.1 lS (by obtain⟨x,y,z,h, -, -⟩:=hJ.conc;exact⟨x,y,z,h⟩) zu hport
 obtain⟨a1,a2,a3,rfl, -, -⟩:=hJ.conc
 obtain⟨b1,b2,b3,rfl,hb2, -⟩:=hS.conc
 subst hb2
 have HW:Hid (w.alloc (.cells #[.slice a1 a2 a3, .slice b1 S.length b3, .int .i64 kn, .int .i64 g, .bool q, .string ⟨u.scheme.toArray⟩, .string ⟨u.user.toArray⟩, .string ⟨u.pass.toArray⟩, .string ⟨u.host.toArray⟩, .int .i64 u.port, .string ⟨u.path.toArray⟩, .string ⟨u.query.toArray⟩, .bool u.hasQ, .string ⟨u.mark.toArray⟩, .bool u.hasM, .int .i64 now] 31)=W0):=hW0
 have HP:=Lib.hid (fun W (hW:Below W0.heap.size W0 W)=>hP.on hW)
 obtain⟨k0,k1,k2⟩:=hP.keep
 have CJ:=Lib.hid cj
 have CT:=Lib.hid ct
 have HZ:=Lib.hid hZ
 have HSZ:=Lib.hid (And.intro zJ (And.intro lJ (And.intro lS (And.intro zu hport))))
 clear hW0 hP cj ct hZ zJ zS lJ lS zu hport hJ hS hE
 unfold keepV at cg
 unfold wishC
 go_enter Tryz.func3,Tryz.ntmps3
 go_upto_region 1 with fail
 rw[HW.out]
 clear HW
 by_cases hN:60000<keepN J S
 ·rw[decide_eq_true hN]at cg
  clear CJ CT HZ HSZ hN;go_wp2_with(first|(go_at_call 8;refine cg.mono ?_;rintro e w1 ⟨rfl,hb1⟩;have h1:=below_nx hb0 hb1)|(go_at_call 10;refine(cl _ h1).mono ?_;rintro e w2 ⟨rfl,hb2⟩));go_ret;exact⟨rfl,below_nx h1 hb2⟩
 rw[decide_eq_false hN]at cg
 by_cases hK:keepB J S kn=true
 case neg=>
  rw[Bool.not_eq_true]at hK;clear CT HZ HSZ hN;go_wp2_with(first|(go_at_call 8;refine cg.mono ?_;rintro e w1 ⟨rfl,hb1⟩;have h1:=below_nx hb0 hb1;obtain⟨y0,y1,y2⟩:=(HP.out w1 hb1).keep;have cjw:=CJ.out w1 hb1;rw[hK]at cjw;unfold keepV at cjw)|(go_at_call 9;refine cjw.mono ?_;rintro e w2 ⟨rfl,hb2⟩;have h2:=below_nx h1 hb2)|(go_at_call 10;refine(cl _ h2).mono ?_;rintro e w3 ⟨rfl,hb3⟩));go_ret;exact⟨rfl,below_nx h2 hb3⟩
 clear hN
 go_upto_region 3 with (first|(go_at_call 8;refine cg.mono ?_;rintro e w1 ⟨rfl,hb1⟩;obtain⟨y0,y1,y2⟩:=(HP.out w1 hb1).keep;have cjw:=CJ.out w1 hb1;rw[hK]at cjw;unfold keepV at cjw)|(go_at_call 9;refine cjw.mono ?_;rintro e w2 ⟨rfl,hb12⟩))
 have hb2:=below_nx hb1 hb12
 clear cg hb1 hb12 y0 y1 y2 k0 k1 k2 CJ
 have hta:=tell_apply (u:=u) (q:=q) (age:=g) (now:=now) hK
 have htl:=fun h1 h2=>tell_last (u:=u) (q:=q) (age:=g) (now:=now) hK h1 h2
 have hLs:=tell_len S u q g now
 have ctw:=CT.out w2 hb2
 generalize hL:tellL S u q g now=L at*
 clear hL CT
 unfold keepV urlV at ctw
 obtain⟨k0,k1,k2⟩:=(HP.out w2 hb2).keep
 obtain⟨g0,g1,g2, -⟩:=(HP.out w2 hb2).wish
 obtain⟨u0,u1,u2,u3,u4,u5,u6,u7,u8,u9⟩:=(HP.out w2 hb2).url
 have HA:=Lib.hid hta
 have HTL:=Lib.hid htl
 clear hta htl
 go_upto_region 4 with (go_at_call 11;refine ctw.mono ?_;rintro e w3 ⟨v,rfl,hrow,hb23⟩)
 have hb3:=below_nx hb2 hb23
 have h3:=below_nx hb0 hb3
 obtain⟨p1,p2,p3,rfl,hp2, -⟩:=hrow.conc
 subst hp2
 clear ctw hb23 k0 k1 k2 g0 g1 g2 u0 u1 u2 u3 u4 u5 u6 u7 u8 u9 hb2
 obtain⟨g0,g1,g2,g3⟩:=(HP.out w3 hb3).wish
 by_cases hl0:L=[]
 ·subst hl0
  clear HA HTL hrow HZ HSZ;go_wp2_with(go_at_call 10;refine(cl _ h3).mono ?_;rintro e w4 ⟨rfl,hb4⟩);go_ret;exact⟨rfl,below_nx h3 hb4⟩
 have hlp:0<L.length:=List.length_pos_iff.2 hl0
 by_cases hg0:g=0
 ·subst hg0
  have hln:((L.length:Int)==0)=false:=beq_eq_false_iff_ne.2 (by omega);clear HA HTL hrow HZ HSZ;go_wp2_with(go_at_call 10;refine(cl _ h3).mono ?_;rintro e w4 ⟨rfl,hb4⟩);go_ret;exact⟨rfl,below_nx h3 hb4⟩
 have hln:((L.length:Int)==0)=false:=beq_eq_false_iff_ne.2 (by omega)
 have hgn:(g==0)=false:=beq_eq_false_iff_ne.2 hg0
 obtain⟨k0,k1,k2⟩:=(HP.out w3 hb3).keep
 obtain⟨p,rfl⟩:∃p,p1=some p:=by
  rcases hrow with ⟨h1,h2⟩|⟨x,c,h1,_⟩
  ·exact absurd h2 hl0
  ·injection h1 with h1;exact⟨x,h1⟩
 obtain⟨w4,hw4⟩:∃W,w3.alloc (.cells #[.slice a1 a2 a3, .slice b1 S.length b3, .int .i64 kn] 25)=W:=⟨_,rfl⟩
 have hb34:Below w3.heap.size w3 w4:=by rw[←hw4];exact below_alloc w3 _
 have HKW0:Hid (KW w3 kn J S (.slice a1 a2 a3) (.slice b1 S.length b3) w4):=Lib.hid ⟨hb34,by rw[←hw4];exact heap_alloc_new w3 _,(HZ.out w4 (below_nx hb3 hb34)).1,(HZ.out w4 (below_nx hb3 hb34)).2.1⟩
 clear hb34
 go_upto_region 7 with fail
 try rw[hw4]
 clear hw4
 go_wp2_with fail
 go_loopw [5] (fun i wr=>∃(k:Nat) (va vb:Value),k≤L.length∧i= .int .i64 k∧Hid (KW w3 kn J (appsS S (L.take k)) va vb wr)) (fun i _=>L.length-(intOf i).toNat)
 case atStart=>exact⟨0,_,_,Nat.zero_le _,rfl,HKW0⟩
 case round=>
  obtain⟨k,va,vb,hk,rfl,HKW⟩:=hrel;by_cases hlt:k<L.length
  ·have hki:(k:Int)<(L.length:Int):=by omega
   have hKk:=HA.out.2 k hk;have hKn:=HA.out.2 (k+1) (by omega);have hsok:=HA.out.1 _ (List.getElem_mem hlt);have HAP:=Lib.hid (apps_succ (S:=S) hlt);rw[HAP.out]at hKn;have hck:=fun W (hW:Below wr.heap.size wr W)=>hrow.each k hlt W (below_nx HKW.out.low hW)
   obtain⟨⟨d,s⟩,hc⟩:∃c,L[k]=c:=⟨_,rfl⟩;have HC:=Lib.hid hc;rw[hc]at hKn hsok hck;generalize hT:appsS S (L.take k)=T at*;have hzT:=keepB_hosts hKk;obtain⟨kd,hkd,hd,hcg⟩:∃kd:Int,(kd=3∨kd=4)∧decide (kd=3)=d∧cellsG (d,s)=changeC kd s:=by
    cases d
    ·exact⟨4, .inr rfl,rfl,rfl⟩
    ·exact⟨3, .inl rfl,rfl,rfl⟩
   rw[hcg]at hck;obtain⟨x1,x2,x3,rfl,hx2, -⟩:=HKW.out.rj.conc;obtain⟨y1,y2,y3,rfl,hy2, -⟩:=HKW.out.rs.conc;subst hx2 hy2;have CA:∀W,Below wr.heap.size wr W→Calls Tryz.prog 12 #[.agg #[.slice x1 J.length x3, .slice y1 T.length y3, .int .i64 kn], .agg (changeC kd s).toArray] W fun e W'=>∃a4 b4,e= .returned (.tuple #[keepV a4 b4 kn, .int .i64 0])∧RowS 12 cellsK W' a4 J∧RowS 3 cellsS W' b4 (appS T (d,s))∧Below W.heap.size W W':=fun W hW=>by
    have hk2:keepB J (appS T (decide (kd=3),s)) kn=true:=by rw[hd];exact hKn
    have:=apply_seal (.slice x1 J.length x3) (.slice y1 T.length y3) kn J T kd hkd s W (HZ.out W (below_nx (below_nx hb3 HKW.out.low) hW)).2.2 (HKW.out.on hW).rj (HKW.out.on hW).rs HSZ.out.1 hzT (sealOk_host hsok) hsok hKk hk2;rw[hd]at this;exact this
   have hKM:∀W,Below wr.heap.size wr W→∀j v,[.slice x1 J.length x3, .slice y1 T.length y3,Value.int .i64 kn][j]?=some v→W.cell? ((⟨w3.heap.size,0,none⟩:Addr).add j)=some v:=fun W hW j v hv=>by
    rw[Addr.add_lit,Nat.zero_add,Lib.cell_of_heap (HKW.out.on hW).bk];simpa using hv
   have hCM:=hck;have hi3:(Tryz.prog.info? 25).map (·.size)=some 3:=by kernel_rfl
   have hi16:(Tryz.prog.info? 46).map (·.size)=some 16:=by kernel_rfl
   have HT:=Lib.hid hT;clear hck hKk hKn hsok hzT hkd hd hcg hc hT;go_upto_region 10 with fail;go_cut [6,7]from 51 to 59 (fun nn ee wx=>∃(Bn:Nat) (a4 b4:Value),nn= .pointer (some ⟨Bn,0,none⟩)∧ee= .int .i64 0∧Hid (wx.heap[Bn]?=some (.cells #[a4,b4, .int .i64 kn] 25 (0,0)))∧Hid (RowS 12 cellsK wx a4 J)∧Hid (RowS 3 cellsS wx b4 (appS T (d,s)))∧Hid (Below wr.heap.size wr wx))
   case first=>
    have hS:=(Below.refl wr.heap.size wr).drew;refine wp_region_held_drew (S:=fun W=>Below wr.heap.size wr W) (by kernel_rfl) hS (fun _=> ?_);refine wpAnyH_take (i:=0) (oi:=⟨some 52, .load 25 (.tmp 4),_,_,_,_⟩) (v:= .agg #[.slice x1 J.length x3, .slice y1 T.length y3, .int .i64 kn]) rfl (by kernel_rfl) (by kernel_rfl) (by kernel_rfl) (fun _ _ _ h=>h) (yieldsIf_load_at (by rfl) 25 (.tmp 4) rfl ⟨w3.heap.size,0,none⟩ rfl [.slice x1 J.length x3, .slice y1 T.length y3, .int .i64 kn] _ hKM Tryz.underlying25 rfl hi3) hS ?_
    try simp only[Act.put,List.setIfInBounds_toArray,List.set_cons_zero,List.set_cons_succ]
    refine wpAnyH_take (i:=1) (oi:=⟨some 53, .move (.tmp 3),_,_,_,_⟩) (v:= .slice (some p) L.length p3) rfl (by kernel_rfl) (by kernel_rfl) (by kernel_rfl) (fun _ _ _ h=>h) (.inl ⟨by rfl,fun W hW=>by go_simp⟩) hS ?_
    try simp only[Act.put,List.setIfInBounds_toArray,List.set_cons_zero,List.set_cons_succ]
    refine wpAnyH_take (i:=2) (oi:=⟨some 54, .move (.tmp 5),_,_,_,_⟩) (v:= .int .i64 k) rfl (by kernel_rfl) (by kernel_rfl) (by kernel_rfl) (fun _ _ _ h=>h) (.inl ⟨by rfl,fun W hW=>by go_simp⟩) hS ?_
    try simp only[Act.put,List.setIfInBounds_toArray,List.set_cons_zero,List.set_cons_succ]
    refine wpAnyH_take (i:=3) (oi:=⟨some 55, .indexAddr 34 (.tmp 53) (.tmp 54),_,_,_,_⟩) (v:= .pointer (some (p.add (k*16)))) rfl (by kernel_rfl) (by kernel_rfl) (by kernel_rfl) (fun _ _ _ h=>h) (.inl ⟨by rfl,fun W hW=>by go_simp⟩) hS ?_
    try simp only[Act.put,List.setIfInBounds_toArray,List.set_cons_zero,List.set_cons_succ]
    refine wpAnyH_take (i:=4) (oi:=⟨some 56, .load 46 (.tmp 55),_,_,_,_⟩) (v:= .agg (changeC kd s).toArray) rfl (by kernel_rfl) (by kernel_rfl) (by kernel_rfl) (fun _ _ _ h=>h) (yieldsIf_load_at (by rfl) 46 (.tmp 55) rfl (p.add (k*16)) rfl (changeC kd s) _ hCM Tryz.underlying46 rfl hi16) hS ?_
    try simp only[Act.put,List.setIfInBounds_toArray,List.set_cons_zero,List.set_cons_succ]
    refine wpAnyH_ready (rs:=[5,9]) (by kernel_rfl) (by simp) ?_;refine AllReadyH.cons (o:=⟨some 57, .call {callee:= .value (.func 12),args:= #[.tmp 52, .tmp 56],argTypes:= #[25,46]},_,_,_,_⟩) rfl (fun K hK=> ?_) (AllReadyH.cons (o:=⟨some 6, .alloc 25,_,_,_,_⟩) rfl (fun K hK=> ?_) AllReadyH.nil)
    ·skip
     go_simp;go_at_call 12;refine(CA _ hS).mono ?_;rintro e z1 ⟨a4,b4,rfl,hra,hrb,hn⟩;obtain⟨m1,m2,m3,rfl, -, -⟩:=hra.conc;obtain⟨n1,n2,n3,rfl, -, -⟩:=hrb.conc;unfold keepV;go_wp2_with fail;have hn2:=hS.trans (hn.mono hS.size);have hS1:Below wr.heap.size wr z1:=hn2;refine hK.out _ _ hS1 (fun _=> ?_);clear hK hS K;have hS:=hS1;clear hS1
     try simp only[Act.put,List.setIfInBounds_toArray,List.set_cons_zero,List.set_cons_succ]
     refine wpAnyH_take (i:=6) (oi:=⟨some 51, .move (.tmp 57),_,_,_,_⟩) (v:= .tuple #[.agg #[.slice m1 m2 m3, .slice n1 n2 n3, .int .i64 kn], .int .i64 0]) rfl (by kernel_rfl) (by kernel_rfl) (by kernel_rfl) (fun _ _ _ h=>h) (.inl ⟨by rfl,fun W hW=>by go_simp⟩) hS ?_
     try simp only[Act.put,List.setIfInBounds_toArray,List.set_cons_zero,List.set_cons_succ]
     refine wpAnyH_take (i:=7) (oi:=⟨some 58, .extract (.tmp 51) 0,_,_,_,_⟩) (v:= .agg #[.slice m1 m2 m3, .slice n1 n2 n3, .int .i64 kn]) rfl (by kernel_rfl) (by kernel_rfl) (by kernel_rfl) (fun _ _ _ h=>h) (.inl ⟨by rfl,fun W hW=>by go_simp⟩) hS ?_
     try simp only[Act.put,List.setIfInBounds_toArray,List.set_cons_zero,List.set_cons_succ]
     refine wpAnyH_take (i:=8) (oi:=⟨some 59, .extract (.tmp 51) 1,_,_,_,_⟩) (v:= .int .i64 0) rfl (by kernel_rfl) (by kernel_rfl) (by kernel_rfl) (fun _ _ _ h=>h) (.inl ⟨by rfl,fun W hW=>by go_simp⟩) hS ?_
     try simp only[Act.put,List.setIfInBounds_toArray,List.set_cons_zero,List.set_cons_succ]
     refine wpAnyH_ready (rs:=[9]) (by kernel_rfl) (by simp) ?_;refine AllReadyH.cons (o:=⟨some 6, .alloc 25,_,_,_,_⟩) rfl (fun K hK=> ?_) AllReadyH.nil;go_simp;obtain⟨z2,hz2⟩:∃W,z1.alloc (.cells #[.slice none 0 0, .slice none 0 0, .int .i64 0] 25)=W:=⟨_,rfl⟩;rw[hz2];have hz:z2.heap[z1.heap.size]?=some (.cells #[.slice none 0 0, .slice none 0 0, .int .i64 0] 25 (0,0)):=by rw[←hz2];exact heap_alloc_new z1 _
     have hb12:Below z1.heap.size z1 z2:=by rw[←hz2];exact below_alloc z1 _
     have hle:=hS.size;have hn2:=hS.trans (hb12.mono hS.size);have hra:=hra.below hb12 (Nat.le_refl _);have hrb:=hrb.below hb12 (Nat.le_refl _);clear hz2;have hS1:Below wr.heap.size wr z2:=hn2;refine hK.out _ _ hS1 (fun _=> ?_);clear hK hS K;have hS:=hS1;clear hS1
     try simp only[Act.put,List.setIfInBounds_toArray,List.set_cons_zero,List.set_cons_succ]
     refine wpAnyH_ready (rs:=[10]) (by kernel_rfl) (by simp) ?_;refine AllReadyH.cons (o:=⟨none, .store 25 (.tmp 6) (.tmp 58),_,_,_,_⟩) rfl (fun K hK=> ?_) AllReadyH.nil;have c0:z2.cell? ⟨z1.heap.size,0,none⟩=some (.slice none 0 0):=by rw[Lib.cell_of_heap hz];rfl
     have c1:z2.cell? ⟨z1.heap.size,1,none⟩=some (.slice none 0 0):=by rw[Lib.cell_of_heap hz];rfl
     have c2:z2.cell? ⟨z1.heap.size,2,none⟩=some (.int .i64 0):=by rw[Lib.cell_of_heap hz];rfl
     have f0:z2.frozen? ⟨z1.heap.size,0,none⟩=false:=by simp[World.frozen?,hz]
     have f1:z2.frozen? ⟨z1.heap.size,1,none⟩=false:=by simp[World.frozen?,hz]
     have f2:z2.frozen? ⟨z1.heap.size,2,none⟩=false:=by simp[World.frozen?,hz]
     go_simp;have hS1:Below wr.heap.size wr (((z2.setCell ⟨z1.heap.size,0,none⟩ (.slice m1 m2 m3)).setCell ⟨z1.heap.size,1,none⟩ (.slice n1 n2 n3)).setCell ⟨z1.heap.size,2,none⟩ (.int .i64 kn)):=((hS.setCell (p:=⟨z1.heap.size,0,none⟩) (by simp only;omega) _).setCell (p:=⟨z1.heap.size,1,none⟩) (by simp only;omega) _).setCell (p:=⟨z1.heap.size,2,none⟩) (by simp only;omega) _;refine hK.out _ _ hS1 (fun _=> ?_);clear hK hS K;have hS:=hS1
     try simp only[Act.put,List.setIfInBounds_toArray,List.set_cons_zero,List.set_cons_succ]
     refine wpAnyH_take (i:=11) (oi:=⟨some 7, .assign (.tmp 59),_,_,_,_⟩) (v:= .int .i64 0) rfl (by kernel_rfl) (by kernel_rfl) (by kernel_rfl) (fun _ _ _ h=>h) (.inl ⟨by rfl,fun W hW=>by go_simp⟩) hS ?_
     try simp only[Act.put,List.setIfInBounds_toArray,List.set_cons_zero,List.set_cons_succ]
     refine wpAnyH_done (by kernel_rfl) ?_ _;go_wp2_with fail;go_meet;exact new_keep hz hra hrb hS1
    ·skip
     go_simp;obtain⟨z2,hz2⟩:∃W,(wr.alloc (.cells #[.slice none 0 0, .slice none 0 0, .int .i64 0] 25)).drew=W:=⟨_,rfl⟩;rw[hz2];have hz0:z2.heap[wr.heap.size]?=some (.cells #[.slice none 0 0, .slice none 0 0, .int .i64 0] 25 (0,0)):=by rw[←hz2];exact heap_alloc_new wr _
     have hn2:Below wr.heap.size wr z2:=by rw[←hz2];exact(below_alloc wr _).drew
     have hle:wr.heap.size≤wr.heap.size:=Nat.le_refl _;clear hz2;have hS1:Below wr.heap.size wr z2:=hn2;refine hK.out _ _ hS1 (fun _=> ?_);clear hK hS K;have hS:=hS1;clear hS1
     try simp only[Act.put,List.setIfInBounds_toArray,List.set_cons_zero,List.set_cons_succ]
     refine wpAnyH_ready (rs:=[5]) (by kernel_rfl) (by simp) ?_;refine AllReadyH.cons (o:=⟨some 57, .call {callee:= .value (.func 12),args:= #[.tmp 52, .tmp 56],argTypes:= #[25,46]},_,_,_,_⟩) rfl (fun K hK=> ?_) AllReadyH.nil;go_simp;go_at_call 12;refine(CA _ hS).mono ?_;rintro e z1 ⟨a4,b4,rfl,hra,hrb,hn⟩;obtain⟨m1,m2,m3,rfl, -, -⟩:=hra.conc;obtain⟨n1,n2,n3,rfl, -, -⟩:=hrb.conc;unfold keepV;go_wp2_with fail;have hn2:=hS.trans (hn.mono hS.size);have hS1:Below wr.heap.size wr z1:=hn2;refine hK.out _ _ hS1 (fun _=> ?_);clear hK hS K;have hS:=hS1;clear hS1
     try simp only[Act.put,List.setIfInBounds_toArray,List.set_cons_zero,List.set_cons_succ]
     refine wpAnyH_take (i:=6) (oi:=⟨some 51, .move (.tmp 57),_,_,_,_⟩) (v:= .tuple #[.agg #[.slice m1 m2 m3, .slice n1 n2 n3, .int .i64 kn], .int .i64 0]) rfl (by kernel_rfl) (by kernel_rfl) (by kernel_rfl) (fun _ _ _ h=>h) (.inl ⟨by rfl,fun W hW=>by go_simp⟩) hS ?_
     try simp only[Act.put,List.setIfInBounds_toArray,List.set_cons_zero,List.set_cons_succ]
     refine wpAnyH_take (i:=7) (oi:=⟨some 58, .extract (.tmp 51) 0,_,_,_,_⟩) (v:= .agg #[.slice m1 m2 m3, .slice n1 n2 n3, .int .i64 kn]) rfl (by kernel_rfl) (by kernel_rfl) (by kernel_rfl) (fun _ _ _ h=>h) (.inl ⟨by rfl,fun W hW=>by go_simp⟩) hS ?_
     try simp only[Act.put,List.setIfInBounds_toArray,List.set_cons_zero,List.set_cons_succ]
     refine wpAnyH_take (i:=8) (oi:=⟨some 59, .extract (.tmp 51) 1,_,_,_,_⟩) (v:= .int .i64 0) rfl (by kernel_rfl) (by kernel_rfl) (by kernel_rfl) (fun _ _ _ h=>h) (.inl ⟨by rfl,fun W hW=>by go_simp⟩) hS ?_
     try simp only[Act.put,List.setIfInBounds_toArray,List.set_cons_zero,List.set_cons_succ]
     have hz:=(hn.block _ (Array.getElem?_eq_some_iff.1 hz0).1).trans hz0;refine wpAnyH_ready (rs:=[10]) (by kernel_rfl) (by simp) ?_;refine AllReadyH.cons (o:=⟨none, .store 25 (.tmp 6) (.tmp 58),_,_,_,_⟩) rfl (fun K hK=> ?_) AllReadyH.nil;have c0:z1.cell? ⟨wr.heap.size,0,none⟩=some (.slice none 0 0):=by rw[Lib.cell_of_heap hz];rfl
     have c1:z1.cell? ⟨wr.heap.size,1,none⟩=some (.slice none 0 0):=by rw[Lib.cell_of_heap hz];rfl
     have c2:z1.cell? ⟨wr.heap.size,2,none⟩=some (.int .i64 0):=by rw[Lib.cell_of_heap hz];rfl
     have f0:z1.frozen? ⟨wr.heap.size,0,none⟩=false:=by simp[World.frozen?,hz]
     have f1:z1.frozen? ⟨wr.heap.size,1,none⟩=false:=by simp[World.frozen?,hz]
     have f2:z1.frozen? ⟨wr.heap.size,2,none⟩=false:=by simp[World.frozen?,hz]
     go_simp;have hS1:Below wr.heap.size wr (((z1.setCell ⟨wr.heap.size,0,none⟩ (.slice m1 m2 m3)).setCell ⟨wr.heap.size,1,none⟩ (.slice n1 n2 n3)).setCell ⟨wr.heap.size,2,none⟩ (.int .i64 kn)):=((hS.setCell (p:=⟨wr.heap.size,0,none⟩) (by simp only;omega) _).setCell (p:=⟨wr.heap.size,1,none⟩) (by simp only;omega) _).setCell (p:=⟨wr.heap.size,2,none⟩) (by simp only;omega) _;refine hK.out _ _ hS1 (fun _=> ?_);clear hK hS K;have hS:=hS1
     try simp only[Act.put,List.setIfInBounds_toArray,List.set_cons_zero,List.set_cons_succ]
     refine wpAnyH_take (i:=11) (oi:=⟨some 7, .assign (.tmp 59),_,_,_,_⟩) (v:= .int .i64 0) rfl (by kernel_rfl) (by kernel_rfl) (by kernel_rfl) (fun _ _ _ h=>h) (.inl ⟨by rfl,fun W hW=>by go_simp⟩) hS ?_
     try simp only[Act.put,List.setIfInBounds_toArray,List.set_cons_zero,List.set_cons_succ]
     refine wpAnyH_done (by kernel_rfl) ?_ _;go_wp2_with fail;go_meet;exact new_keep hz hra hrb hS1
   case rest=>
    obtain⟨Bn,a4,b4,rfl,rfl,HBn,HRa,HRb,HBw⟩:=hcut;obtain⟨m1,m2,m3,rfl,hm2, -⟩:=HRa.out.conc;obtain⟨n1,n2,n3,rfl,hn2, -⟩:=HRb.out.conc;have c0:wc.cell? ⟨Bn,0,none⟩=some (.slice m1 m2 m3):=by rw[Lib.cell_of_heap HBn.out];rfl
    have c1:wc.cell? ⟨Bn,1,none⟩=some (.slice n1 n2 n3):=by rw[Lib.cell_of_heap HBn.out];rfl
    have c2:wc.cell? ⟨Bn,2,none⟩=some (.int .i64 kn):=by rw[Lib.cell_of_heap HBn.out];rfl
    obtain⟨q0,q1,q2,q3,q4,q5⟩:=HKW.out.cells HBw.out;have HKn:=Lib.hid ((HKW.out.on HBw.out).put HRa.out HRb.out);clear hKM hCM CA hm2 hn2;go_wp2_with fail;go_roundw
    case rel=>exact⟨k+1, .slice m1 m2 m3, .slice n1 n2 n3,by omega,by go_num,by rw[HAP.out,HC.out];exact HKn⟩
    case measure=>simp[intOf];omega
  ·obtain rfl:k=L.length:=by omega
   have hKk:=HA.out.2 L.length (Nat.le_refl _);rw[List.take_length]at HKW hKk;have h4:=below_nx hb3 HKW.out.low;have h40:=below_nx hb0 h4;clear HKW0;obtain⟨hok,l,S1,hLl,hp1,hTe⟩:=HTL.out hl0 hg0;obtain⟨hc1,hc2,hc3,hn0,hn1,hg1⟩:=tellOk_parts hok;have hLm:L.length=l.length+1:=by rw[hLl];simp
   have hlast:=fun W (hW:Below wr.heap.size wr W)=>(hrow.each l.length (by omega) W (below_nx HKW.out.low hW)) 15 (.int .i64 (newS u q g now).till) (by
    have e:L[l.length]'(by omega)=(true,newS u q g now):=by simp[hLl]
    rw[e];rfl)
   have hTl:=(keepB_parts hKk).2.1;have hzh:u.host.length≤65536:=by have:=(check_good hc1).hlen.1;omega
   have HI:Hid (∀m,m<(newS u q g now).till→isL (appsS S L) u.host m=true):=fun m hm=>by rw[hTe];exact hold_is hp1 hm
   have HQ:Hid (q=true→∀m,m<(newS u q g now).till→isL (appsS S L) (97::46::u.host) m=true):=fun hq m hm=>by rw[hTe];exact hold_subs hp1 hok hq hm
   have HE:Hid (isL (appsS S L) u.host (newS u q g now).till=true→(appsS S L).any (otherB u)=true):=fun h=>by rw[hTe]at h⊢;exact hold_end hp1 h
   have htl:(newS u q g now).till=now+min g (1099511627775-now):=rfl;have hz:=keepB_hosts hKk;obtain⟨x1,x2,x3,rfl, -, -⟩:=HKW.out.rj.conc;obtain⟨y1,y2,y3,rfl,hy2, -⟩:=HKW.out.rs.conc;subst hy2;have hl15:wr.cell? ⟨(p.add (l.length*16)).block,(p.add (l.length*16)).off+13+2,none⟩=some (.int .i64 (newS u q g now).till):=hlast wr (Below.refl _ _);generalize appsS S L=T at*;generalize (newS u q g now).till=tl at*;have htl1:tl≤now→now=1099511627775:=fun h=>by omega
   have htl2:now=1099511627775→tl≤now:=fun h=>by omega
   have htl3:0≤tl:=by omega
   have htl4:tl≤1099511627775:=by omega
   obtain⟨q0,q1,q2,q3,q4,q5⟩:=HKW.out.cells (Below.refl wr.heap.size wr);obtain⟨v0,v1,v2,v3⟩:=(HP.out wr h4).wish;generalize l.length=m at*;have hmb:m≤2:=by omega
   have hmi:(m:Int)<(m:Int)+1:=by omega
   have HF:=Lib.hid (And.intro htl1 (And.intro htl2 (And.intro htl3 (And.intro htl4 (And.intro hn0 hn1)))));have HZT:=Lib.hid (And.intro hz hTl);have hTi:(T.length:Int)≤200:=by omega
   clear hTe hLl hp1 hok hc1 hc2 hc3 htl hz hKk hlast HTL hrow HA htl1 htl2 htl3 htl4 hn0 hn1 hlp hlt hk;clear hln
   try rw[hLm]
   clear hLm;by_cases hmx:now=1099511627775
   ·have hd1:decide (tl≤now)=true:=decide_eq_true (HF.out.2.1 hmx)
    have hd2:(now==1099511627775)=true:=beq_iff_eq.2 hmx;have hd3:decide (now=1099511627775)=true:=decide_eq_true hmx;clear hmx;go_wp2_with(go_at_call 10;refine(cl _ h40).mono ?_;rintro e w5 ⟨rfl,hb5⟩);go_ret;exact⟨rfl,below_nx h40 hb5⟩
   have hd0:now<tl:=by
    rcases Int.lt_or_le now tl with h|h
    ·exact h
    ·exact absurd (HF.out.1 h) hmx
   have hd1:decide (tl≤now)=false:=decide_eq_false (by omega);have hd2:(now==1099511627775)=false:=beq_eq_false_iff_ne.2 hmx;have hd3:decide (now=1099511627775)=false:=decide_eq_false hmx;clear hmx;obtain⟨u0,u1,u2,u3,u4,u5,u6,u7,u8,u9⟩:=(HP.out wr h4).url;have HD:=Lib.hid hd0;clear hd0;go_upto_region 20 with fail;obtain⟨w5,hw5⟩:∃W,wr.alloc (.cells #[.string ⟨u.scheme.toArray⟩, .string ⟨u.user.toArray⟩, .string ⟨u.pass.toArray⟩, .string ⟨u.host.toArray⟩, .int .i64 u.port, .string ⟨u.path.toArray⟩, .string ⟨u.query.toArray⟩, .bool u.hasQ, .string ⟨u.mark.toArray⟩, .bool u.hasM] 29)=W:=⟨_,rfl⟩;have hb5:Below wr.heap.size wr w5:=by rw[←hw5];exact below_alloc wr _
   have hU5:UrlAt wr.heap.size u w5:=by rw[←hw5];exact heap_alloc_new wr _
   try rw[hw5]
   clear hw5 u0 u1 u2 u3 u4 u5 u6 u7 u8 u9 hl15 hd1 hd2 hd3 q0 q1 q2 q3 q4 q5 v0 v1 v2 v3 hTi;obtain⟨u0,u1,u2,u3,u4,u5,u6,u7,u8,u9⟩:=hU5.cells;obtain⟨f0,f1,f2,f3,f4,f5,f6,f7,f8,f9⟩:=hU5.frees;go_upto_region 21 with fail;have hU6:UrlAt wr.heap.size {u with scheme:=httpB} (w5.setCell ⟨wr.heap.size,0,none⟩ (.string ⟨#[104,116,116,112]⟩)):=hU5.one 0 _ rfl;have hb6:Below wr.heap.size wr (w5.setCell ⟨wr.heap.size,0,none⟩ (.string ⟨#[104,116,116,112]⟩)):=hb5.setCell (p:=⟨wr.heap.size,0,none⟩) (Nat.le_refl _) _;clear hU5 hb5 u0 u1 u2 u3 u4 u5 u6 u7 u8 u9 f0 f1 f2 f3 f4 f5 f6 f7 f8 f9;revert hU6 hb6;generalize w5.setCell ⟨wr.heap.size,0,none⟩ (.string ⟨#[104,116,116,112]⟩)=w6;intro hU6 hb6;obtain⟨v0,v1,v2,v3⟩:=(HP.out w6 (below_nx h4 hb6)).wish;go_upto_region 22 with fail;have ht3:=HF.out.2.2.1;have ht4:=HF.out.2.2.2.1;rw[show wrap64 (tl-1)=tl-1 by unfold wrap64;omega];obtain⟨w7,hw7⟩:∃W,w6.alloc (.cells #[.int .i64 now, .int .i64 (tl-1)] 3)=W:=⟨_,rfl⟩;have hb7:Below w6.heap.size w6 w7:=by rw[←hw7];exact below_alloc w6 _
   have hN7:w7.heap[w6.heap.size]?=some (.cells #[.int .i64 now, .int .i64 (tl-1)] 3 (0,0)):=by rw[←hw7];exact heap_alloc_new w6 _
   try rw[hw7]
   clear hw7 v0 v1 v2 v3;have h67:=hb6.trans (hb7.mono hb6.size);have HU7:Hid (∀W,Below w7.heap.size w7 W→UrlAt wr.heap.size {u with scheme:=httpB} W):=fun W hW=>(hU6.on hb7).on hW
   have HN7:Hid (∀W,Below w7.heap.size w7 W→W.cell? ⟨w6.heap.size,0,none⟩=some (.int .i64 now)∧W.cell? ⟨w6.heap.size,1,none⟩=some (.int .i64 (tl-1))):=fun W hW=>by
    have h:=(hW.block _ (Array.getElem?_eq_some_iff.1 hN7).1).trans hN7;exact⟨by rw[Lib.cell_of_heap h];rfl,by rw[Lib.cell_of_heap h];rfl⟩
   have HB7:Hid (∀W,Below w7.heap.size w7 W→Below wr.heap.size wr W):=fun W hW=>h67.trans (hW.mono h67.size)
   have CI:Hid (∀(x:List UInt8),x.length≤1048576→∀m W,Below wr.heap.size wr W→Calls Tryz.prog 13 #[.agg #[.slice x1 x2 x3, .slice y1 T.length y3, .int .i64 kn], .string ⟨x.toArray⟩, .int .i64 m] W fun e W'=>e= .returned (.bool (isL T x m))∧Below W.heap.size W W'):=fun x hx m W hW=>
    is_any _ _ kn T x m W (HZ.out W (below_nx h4 hW)).2.2 (HKW.out.on hW).rs (by have:=HZT.out.2;omega) HZT.out.1 hx ⟨_,_,_,rfl⟩
   have CR:Hid (∀m W,Below wr.heap.size wr W→m<tl→Calls Tryz.prog 14 #[.agg #[.slice x1 x2 x3, .slice y1 T.length y3, .int .i64 kn], .agg #[.string ⟨#[104,116,116,112]⟩, .string ⟨u.user.toArray⟩, .string ⟨u.pass.toArray⟩, .string ⟨u.host.toArray⟩, .int .i64 u.port, .string ⟨u.path.toArray⟩, .string ⟨u.query.toArray⟩, .bool u.hasQ, .string ⟨u.mark.toArray⟩, .bool u.hasM], .int .i64 m] W fun e W'=>(∃c1 c2 c3 c4 c5 c6 c7 c8 c9,e= .returned (.agg #[.string ⟨#[104,116,116,112,115]⟩,c1,c2,c3,c4,c5,c6,c7,c8,c9]))∧Below W.heap.size W W'):=fun m W hW hm=>by
    refine(raise_any (.slice x1 x2 x3) (.slice y1 T.length y3) kn {u with scheme:=httpB} m true W ⟨_,_,_,rfl⟩ ⟨_,_,_,rfl⟩ (fun V hV=>by
     have:=CI.out u.host (by omega) m V (hW.trans (hV.mono hW.size));rw[HI.out m hm]at this;exact this)).mono ?_
    rintro e W' ⟨rfl,hb⟩;refine⟨?_,hb⟩;unfold raiseB;rw[if_pos (by show(httpB==httpB&&true)=true;decide)];exact⟨_,_,_,_,_,_,_,_,_,rfl⟩
   clear hU6 hb6 hb7 hN7;have hr7:=Below.refl w7.heap.size w7;clear HSZ;go_loopw [98] (fun i wz=>(i= .int .i64 0∨i= .int .i64 1∨i= .int .i64 2)∧Hid (Below w7.heap.size w7 wz)) (fun i _=>2-(intOf i).toNat)
   case atStart=>exact⟨.inl rfl,Lib.hid hr7⟩
   case round=>
    obtain⟨hi,HBz⟩:=hrel;rcases hi with rfl|rfl|rfl
    ·skip
     obtain⟨e0,e1⟩:=HN7.out _ HBz.out;have hz:=HB7.out _ HBz.out;have hlm:now<tl:=HD.out;have ci:=CI.out u.host (by omega) (now);have cr:=fun W hW=>CR.out (now) W hW hlm
     rw[HI.out _ hlm]at ci;have HX:Hid (q=true→isL T (97::46::u.host) (now)=true):=fun hq=>HQ.out hq _ hlm
     obtain⟨q0,q1,q2,q3,q4,q5⟩:=HKW.out.cells hz;obtain⟨v0,v1,v2,v3⟩:=(HP.out _ (below_nx h4 hz)).wish;clear hlm;go_upto_region 26 with (first
      |(go_at_call 13;refine(ci _ hz).mono ?_;rintro e z1 ⟨rfl,hz1⟩;have hz2:=hz.trans (hz1.mono hz.size);obtain⟨q0,q1,q2,q3,q4,q5⟩:=HKW.out.cells hz2;have hZ1:=HBz.out.trans (hz1.mono HBz.out.size);obtain⟨u0,u1,u2,u3,u4,u5,u6,u7,u8,u9⟩:=(HU7.out _ hZ1).cells;have crw:=cr _ hz2)
      |(go_at_call 14;refine crw.mono ?_;rintro e z2 ⟨⟨c1,c2,c3,c4,c5,c6,c7,c8,c9,rfl⟩,hz3⟩;have hz4:=hz2.trans (hz3.mono hz2.size);have hZ2:=hZ1.trans (hz3.mono hZ1.size))
      |(refine wpList_field (o:=⟨some 114, .field 29 (.tmp 113) 0,_,_,_,_⟩) rfl 29 (.tmp 113) 0 rfl _ (.string ⟨#[104,116,116,112,115]⟩) rfl (by kernel_rfl) ?_))
     clear q0 q1 q2 q3 q4 q5 v0 v1 v2 v3 crw;obtain⟨q0,q1,q2,q3,q4,q5⟩:=HKW.out.cells hz4;obtain⟨v0,v1,v2,v3⟩:=(HP.out _ (below_nx h4 hz4)).wish;have HB2:=Lib.hid hZ2
     cases q with
     |false=>
      go_wp2_with fail;go_roundw
      case rel=>exact⟨.inr (.inl rfl),HB2⟩
      case measure=>simp[intOf]
     |true=>
      have ci2:=CI.out (97::46::u.host) (by simp;omega) (now);rw[HX.out rfl]at ci2;go_wp2_with(go_at_call 13;refine(ci2 _ hz4).mono ?_;rintro e z3 ⟨rfl,hz5⟩;have HB3:=Lib.hid (hZ2.trans (hz5.mono hZ2.size)));go_roundw
      case rel=>exact⟨.inr (.inl rfl),HB3⟩
      case measure=>simp[intOf]
    ·skip
     obtain⟨e0,e1⟩:=HN7.out _ HBz.out;have hz:=HB7.out _ HBz.out;have hlm:tl-1<tl:=by omega
     have ci:=CI.out u.host (by omega) (tl-1);have cr:=fun W hW=>CR.out (tl-1) W hW hlm
     rw[HI.out _ hlm]at ci;have HX:Hid (q=true→isL T (97::46::u.host) (tl-1)=true):=fun hq=>HQ.out hq _ hlm
     obtain⟨q0,q1,q2,q3,q4,q5⟩:=HKW.out.cells hz;obtain⟨v0,v1,v2,v3⟩:=(HP.out _ (below_nx h4 hz)).wish;clear hlm;go_upto_region 26 with (first
      |(go_at_call 13;refine(ci _ hz).mono ?_;rintro e z1 ⟨rfl,hz1⟩;have hz2:=hz.trans (hz1.mono hz.size);obtain⟨q0,q1,q2,q3,q4,q5⟩:=HKW.out.cells hz2;have hZ1:=HBz.out.trans (hz1.mono HBz.out.size);obtain⟨u0,u1,u2,u3,u4,u5,u6,u7,u8,u9⟩:=(HU7.out _ hZ1).cells;have crw:=cr _ hz2)
      |(go_at_call 14;refine crw.mono ?_;rintro e z2 ⟨⟨c1,c2,c3,c4,c5,c6,c7,c8,c9,rfl⟩,hz3⟩;have hz4:=hz2.trans (hz3.mono hz2.size);have hZ2:=hZ1.trans (hz3.mono hZ1.size))
      |(refine wpList_field (o:=⟨some 114, .field 29 (.tmp 113) 0,_,_,_,_⟩) rfl 29 (.tmp 113) 0 rfl _ (.string ⟨#[104,116,116,112,115]⟩) rfl (by kernel_rfl) ?_))
     clear q0 q1 q2 q3 q4 q5 v0 v1 v2 v3 crw;obtain⟨q0,q1,q2,q3,q4,q5⟩:=HKW.out.cells hz4;obtain⟨v0,v1,v2,v3⟩:=(HP.out _ (below_nx h4 hz4)).wish;have HB2:=Lib.hid hZ2
     cases q with
     |false=>
      go_wp2_with fail;go_roundw
      case rel=>exact⟨.inr (.inr rfl),HB2⟩
      case measure=>simp[intOf]
     |true=>
      have ci2:=CI.out (97::46::u.host) (by simp;omega) (tl-1);rw[HX.out rfl]at ci2;go_wp2_with(go_at_call 13;refine(ci2 _ hz4).mono ?_;rintro e z3 ⟨rfl,hz5⟩;have HB3:=Lib.hid (hZ2.trans (hz5.mono hZ2.size)));go_roundw
      case rel=>exact⟨.inr (.inr rfl),HB3⟩
      case measure=>simp[intOf]
    ·go_wp2_with fail
     go_loopw [12,13] (fun o i wy=>∃k:Nat,k≤T.length∧o= .bool ((T.take k).any (otherB u))∧i= .int .i64 k∧Hid (Below w7.heap.size w7 wy)) (fun _ i _=>T.length-(intOf i).toNat)
     case atStart=>exact⟨0,Nat.zero_le _,rfl,rfl,HBz⟩
     case round=>
      obtain⟨k,hk,rfl,rfl,HBy⟩:=hrel;have hTi:=HZT.out.2;have hz:=HB7.out _ HBy.out;obtain⟨q0,q1,q2,q3,q4,q5⟩:=HKW.out.cells hz;obtain⟨v0,v1,v2,v3⟩:=(HP.out _ (below_nx h4 hz)).wish;by_cases hlt:k<T.length
      ·have hki:(k:Int)<(T.length:Int):=by omega
       obtain⟨ay,rfl⟩:∃ay,y1=some ay:=by
        rcases HKW.out.rs with ⟨h1,h2⟩|⟨x,c,h1,_⟩
        ·rw[h2]at hlt;simp at hlt
        ·injection h1 with h1;exact⟨x,h1⟩
       have hck:=HKW.out.rs.each k hlt _ hz;have hs:(T.take (k+1)).any (otherB u)=((T.take k).any (otherB u)||otherB u T[k]):=by rw[List.take_add_one,List.getElem?_eq_getElem hlt,List.any_append];simp only[Option.toList,List.any_cons,List.any_nil,Bool.or_false]
       obtain⟨x,hx⟩:∃x,T[k]=x:=⟨_,rfl⟩;rw[hx]at hck hs;have e0:=hck 0 (.string ⟨x.host.toArray⟩) rfl;have e1:=hck 1 (.bool x.subs) rfl;have e2:World.cell? _ (ay.add (k*3))=some (.string ⟨x.host.toArray⟩):=e0;have e3:World.cell? _ ⟨(ay.add (k*3)).block,(ay.add (k*3)).off+1,none⟩=some (.bool x.subs):=e1;clear hx hck e0 e1;generalize (T.take k).any (otherB u)=o1 at*;have HS:=Lib.hid hs;clear hs
       cases o1 with
       |true=>
        go_upto_region 33 with fail;go_quiet (fail);go_wp2_with fail;go_roundw
        case rel=>exact⟨k+1,by omega,by rw[HS.out];rfl,by go_num,Lib.hid (below_dnk HBy.out _)⟩
        case measure=>simp[intOf];omega
       |false=>
        by_cases hh:x.host=u.host
        ·have hb:(x.host==u.host)=true:=beq_iff_eq.2 hh
         have HO:Hid ((T.take (k+1)).any (otherB u)=false):=Lib.hid (by rw[HS.out];unfold otherB;simp[hh]);clear hh;go_upto_region 33 with fail;go_quiet (fail);go_wp2_with fail;go_roundw
         case rel=>exact⟨k+1,by omega,by rw[HO.out],by go_num,Lib.hid (below_dnk HBy.out _)⟩
         case measure=>simp[intOf];omega
        ·have hb:(x.host==u.host)=false:=beq_eq_false_iff_ne.2 hh
         have HO:Hid ((T.take (k+1)).any (otherB u)=x.subs):=Lib.hid (by rw[HS.out];unfold otherB;simp[hh]);clear hh;go_upto_region 33 with fail;go_quiet (fail);go_wp2_with fail;go_roundw
         case rel=>exact⟨k+1,by omega,by rw[HO.out],by go_num,Lib.hid (below_dnk HBy.out _)⟩
         case measure=>simp[intOf];omega
      ·obtain rfl:k=T.length:=by omega
       have hE:=HE.out;have CS:=CI.out u.host (by omega) tl _ hz;rw[List.take_length]at*;have h50:=below_nx h40 hz;generalize T.any (otherB u)=oE at*
       cases oE with
       |true=>
        go_wp2_with(go_at_call 10;refine(cl _ h50).mono ?_;rintro e z1 ⟨rfl,hz1⟩);go_ret;exact⟨rfl,below_nx h50 hz1⟩
       |false=>
        have hI:isL T u.host tl=false:=by
         cases hI:isL T u.host tl with
         |false=>rfl
         |true=>exact absurd (hE hI) (by decide)
        rw[hI]at CS;go_wp2_with(first
         |(go_at_call 13;refine CS.mono ?_;rintro e z1 ⟨rfl,hz1⟩;have h51:=below_nx h50 hz1)
         |(go_at_call 10;refine(cl _ h51).mono ?_;rintro e z2 ⟨rfl,hz2⟩))
        go_ret;exact⟨rfl,below_nx h51 hz2⟩
theorem SizC.siz {c:CookieL} (h:SizC 1048576 c):SizK c:=⟨h.name.2,h.value.2,h.host.2,h.path.2⟩
theorem SizU.all {u:UrlL} (h:SizU 1048576 u):sizeU u≤900000000:=by
 have h1:=h.scheme.2;have h2:=h.user.2;have h3:=h.pass.2;have h4:=h.host.2;have h5:=h.path.2;have h6:=h.query.2;have h7:=h.mark.2;unfold sizeU;omega
theorem holds_top (a b:Value) (kn g:Int) (q:Bool) (u:UrlL) (now:Int) (J:List CookieL) (S:List SealL) (w:World) (hJ:RowS 12 cellsK w a J) (zJ:∀x∈J,SizC 1048576 x) (lJ:J.length≤1048576) (hS:RowS 3 cellsS w b S) (zS:∀x∈S,LenK 1048576 x.host) (lS:S.length≤1048576) (zu:SizU 1048576 u)
 (hE:EnvH w):
 Calls Tryz.prog 3 #[.agg (wishC a b kn g q u now).toArray] w fun e w'=>e= .returned (.bool true)∧Below w.heap.size w w':=
 holds_law a b kn g q u now J S w hE hJ hS lJ lS (fun x hx=>(zJ x hx).siz) (fun x hx=>(zS x hx).2) (by have:=zu.all;omega) zu.high (fun W hW=>lives16 W (hE.below hW))
end Go.Proofs.YtjkipdoebkhkaaaGreatDoor
