/- Small laws besides: the reference on four. -/
import Derived.Test.YtlhcfmcbpljbiaaGreatDoorRFourWalk
import Derived.Test.YtlhcfmcbpljbiaaGreatDoorGRFour
set_option linter.unusedVariables false
set_option linter.unusedSimpArgs false
set_option maxHeartbeats 16000000
namespace Go.Proofs.YtlhcfmcbpljbiaaGreatDoor
open Go.RowKit
section
open Go.RowKit
structure RFW (w W2:World) (P:List (List UInt8)) (g:Nat):Prop where
 below:Below w.heap.size w W2
 row:W2.heap[w.heap.size]?=some (.cells zeroA 187 (0,0))
 lo:w.heap.size<g
 hi:g<W2.heap.size
 cell:∀j (h:j<P.length),W2.cell? ⟨g,j,none⟩=some (.string ⟨(P[j]).toArray⟩)
theorem rfw (s:List UInt8) (w:World) (hs:s.length≤4000000000):
 Calls Tryz.prog 208 #[.string ⟨s.toArray⟩, .int .u8 46] (w.alloc (.cells zeroA 187)) fun e w'=>∃g cap,e= .returned (.slice (some ⟨g,0,none⟩) (partsL 46 s).length cap)∧(partsL 46 s).length≤cap∧RFW w w' (partsL 46 s) g:=by
 refine(rparts_any s 46 (w.alloc (.cells zeroA 187)) hs).mono ?_
 rintro e w1 ⟨v,rfl,hown,hb⟩
 have hne:=partsL_ne 46 s
 have h0:0<(partsL 46 s).length:=List.length_pos_iff.2 hne
 obtain⟨g,cap,rfl,hlo,hlt⟩:=hown.form h0
 have hcap:(partsL 46 s).length≤cap:=by
  rcases own_open hown with ⟨h,_⟩|⟨g',cap',h,hr⟩
  ·cases h
  ·simp only[Value.slice.injEq]at h
   obtain⟨_,_,rfl⟩:=h;omega
 rw[World.size_alloc]at hb hlo
 have hb1:=hb
 refine⟨g,cap,rfl,hcap,((Below.refl _ _).alloc (Nat.le_refl _) _).trans (hb.mono (by omega)),(hb.block _ (by omega)).trans (heap_alloc_new w _),by omega,hlt,fun j h=> ?_⟩
 have:=hown.cells (g:=g) rfl j _ (strs_get h)
 rwa[Addr.add_lit,Nat.zero_add]at this
theorem like_hex {x:List UInt8} (h:hexPre x=true):digsL x=false∧likeL x=(numL x).isSome:=by
 have hl:2≤x.length:=by
  unfold hexPre at h;simp only[Bool.and_eq_true,decide_eq_true_eq]at h;exact h.1.1
 have h0:(x.getD 0 0).toNat=48:=by
  unfold hexPre at h;simp only[Bool.and_eq_true,decide_eq_true_eq,beq_iff_eq]at h;exact h.1.2
 rw[hexPre_is hl h0,getD_is (s:=x) (k:=1) (by omega)]at h;refine⟨digsL_no (k:=1) (by omega) ?_, ?_⟩
 ·simp only[Bool.or_eq_true,beq_iff_eq]at h;omega
 ·unfold likeL
  rw[if_pos];rw[hexPre_is hl h0,getD_is (s:=x) (k:=1) (by omega)];exact h
theorem hex_parts {x:List UInt8} (h:hexPre x=true):∃h2:2≤x.length,((x[0]'(by omega)).toNat:Int)=48∧(((x[1]'(by omega)).toNat:Int)=120∨((x[1]'(by omega)).toNat:Int)=88):=by
 have hl:2≤x.length:=by
  unfold hexPre at h;simp only[Bool.and_eq_true,decide_eq_true_eq]at h;exact h.1.1
 have h0:(x.getD 0 0).toNat=48:=by
  unfold hexPre at h;simp only[Bool.and_eq_true,decide_eq_true_eq,beq_iff_eq]at h;exact h.1.2
 rw[hexPre_is hl h0,getD_is (s:=x) (k:=1) (by omega)]at h;rw[getD_is (s:=x) (k:=0) (by omega)]at h0;simp only[Bool.or_eq_true,beq_iff_eq]at h;exact⟨hl,by omega,by omega⟩
theorem hex_not {x:List UInt8} (h:hexPre x=false):x.length<2∨(∃h2:2≤x.length,¬((x[0]'(by omega)).toNat:Int)=48)∨∃h2:2≤x.length,((x[0]'(by omega)).toNat:Int)=48∧(((x[1]'(by omega)).toNat:Int)==120)=false∧(((x[1]'(by omega)).toNat:Int)==88)=false:=by
 by_cases hl:2≤x.length
 ·by_cases h0:(x.getD 0 0).toNat=48
  ·rw[hexPre_is hl h0,getD_is (s:=x) (k:=1) (by omega)]at h
   rw[getD_is (s:=x) (k:=0) (by omega)]at h0;simp only[Bool.or_eq_false_iff,beq_eq_false_iff_ne]at h;refine .inr (.inr ⟨hl,by omega, ?_, ?_⟩)
   ·rw[beq_eq_false_iff_ne];omega
   ·rw[beq_eq_false_iff_ne];omega
  ·rw[getD_is (s:=x) (k:=0) (by omega)]at h0
   exact .inr (.inl ⟨hl,by omega⟩)
 ·exact .inl (by omega)
theorem like_dig {x:List UInt8} (h:hexPre x=false):likeL x=digsL x:=by
 unfold likeL;rw[h,if_neg (by simp),digsL_eq]
theorem list1 {Q:List (List UInt8)} (h:Q.length=1):∃x0,Q=[x0]:=by
 match Q,h with
 |[x0],_=>exact⟨x0,rfl⟩
theorem list2 {Q:List (List UInt8)} (h:Q.length=2):∃x0 x1,Q=[x0,x1]:=by
 match Q,h with
 |[x0,x1],_=>exact⟨x0,x1,rfl⟩
theorem list3 {Q:List (List UInt8)} (h:Q.length=3):∃x0 x1 x2,Q=[x0,x1,x2]:=by
 match Q,h with
 |[x0,x1,x2],_=>exact⟨x0,x1,x2,rfl⟩
theorem list4 {Q:List (List UInt8)} (h:Q.length=4):∃x0 x1 x2 x3,Q=[x0,x1,x2,x3]:=by
 match Q,h with
 |[x0,x1,x2,x3],_=>exact⟨x0,x1,x2,x3,rfl⟩
set_option maxRecDepth 100000 in
theorem rfour_any (s:List UInt8) (w:World) (hs:s.length≤3999999999):
 Calls Tryz.prog 161 #[.string ⟨s.toArray⟩] w fun e w'=>e= .returned (fourV (fourL s))∧Below w.heap.size w w':=by
 have cs:=rfw s w (by omega)
 obtain⟨hP1,hP2⟩:=partsL_le 46 s
 have hne:=partsL_ne 46 s
 have hx:∀p∈partsL 46 s,p.length≤4000000000:=fun p hp=>by have:=hP1 p hp;omega
 have hk:= @parts_keep s _ rfl
 have hc:= @parts_cut s _ rfl
 have hdef:fourL s=if likeL ((fourParts s).getLastD [])=false then (false,0,0)else if 4<(fourParts s).length then (true,5,0)else match evalF (fourParts s) 4294967296 0 with|none=>(true,5,0)|some n=>(true,0,n):=rfl
 generalize partsL 46 s=P at*
 generalize fourParts s=Q at*
 generalize fourL s=r at*
 obtain⟨l,hl⟩:∃l,P.length=l+1:=⟨P.length-1,by have:=List.length_pos_iff.2 hne;omega⟩
 have hlast:=getLast_is hl
 have hQx:∀p∈Q,p.length≤4000000000:=fun p hp=>by
  by_cases h:1<P.length∧P.getLastD []=[]
  ·rw[hc h]at hp;exact hx p (List.dropLast_subset _ hp)
  ·rw[hk h]at hp;exact hx p hp
 obtain⟨b,hb⟩:∃b:Bool,b=decide (1<P.length∧P.getLastD []=[]):=⟨_,rfl⟩
 have hQ:(b=true→Q=P.dropLast∧0<l)∧(b=false→Q=P):=⟨fun h=>by
  have:=of_decide_eq_true (hb.symm.trans h);exact⟨hc this,by omega⟩,fun h=>hk (of_decide_eq_false (hb.symm.trans h))⟩
 rw[hlast]at hb
 have HX:=Lib.hid hQx
 have HD:=Lib.hid hdef
 have HQ:=Lib.hid hQ
 rw[hl]at cs
 clear hk hc hdef hQ hQx hx hP1 hne hlast
 go_enter Tryz.func161,Tryz.ntmps161
 go_wp2_with fail
 go_at_call 208
 refine cs.mono ?_
 rintro e w2 ⟨g,cap,rfl,hcap,hW⟩
 have hcl:=hW.cell l (by omega)
 have hM:RFW w w2 Q g:=⟨hW.below,hW.row,hW.lo,hW.hi,fun j hj=>by
  cases b with
  |true=>
   obtain⟨hq,_⟩:=HQ.out.1 rfl;subst hq;have hj2:j<P.length:=by rw[List.length_dropLast]at hj;omega
   rw[hW.cell j hj2,List.getElem_dropLast]
  |false=>
   have hq:=HQ.out.2 rfl;subst hq;exact hW.cell j hj⟩
 generalize hLL:P[l]'(by omega)=L at*
 clear hLL hW cs
 go_upto_region 2 with fail
 go_cut [30]from 19 to 30 (fun a wx=>a= .bool b∧w2=wx)
 case first=>
  clear HX HD HQ hM;by_cases h1:0<l
  ·have hi1:(1:Int)<(l:Int)+1:=by omega
   have hi2:(0:Int)<(l:Int):=by omega
   by_cases h2:L=[]
   ·have HB:Hid (b=true):=by show _=_;rw[hb];exact decide_eq_true ⟨by omega,h2⟩
    rw[h2]at hcl;clear hb h2;go_wp2_with fail;go_meet;exact⟨by rw[HB.out],rfl⟩
   ·have HB:Hid (b=false):=by show _=_;rw[hb];exact decide_eq_false (fun e=>h2 e.2)
    have b1:=isEmpty_ne h2;have b2:=beq_ne h2;clear hb h2;go_wp2_with fail;go_meet;exact⟨by rw[HB.out],rfl⟩
  ·have HB:Hid (b=false):=by show _=_;rw[hb];exact decide_eq_false (fun e=>by omega)
   have hl0:l=0:=by omega
   have hi1:¬(0:Int)<(l:Int):=by omega
   clear hb hl0;go_wp2_with fail;go_meet;exact⟨by rw[HB.out],rfl⟩
 case rest=>
  obtain⟨rfl,rfl⟩:=hcut;clear hb hcl;go_upto_if 30 with fail;go_cut [5]from 31 to 35 (fun v wx=>v= .slice (some ⟨g,0,none⟩) Q.length cap∧w2=wx)
  case first=>
   clear HX HD hM
   cases b with
   |true=>
    obtain⟨hq,hl0⟩:=HQ.out.1 rfl;have hql:Q.length=l:=by rw[hq,List.length_dropLast];omega
    have HL:=Lib.hid hql;clear HQ hq hql;go_wp2_with fail;go_meet
    case rel=>exact⟨by rw[HL.out],rfl⟩
   |false=>
    have hq:=HQ.out.2 rfl;have hql:Q.length=l+1:=by rw[hq];exact hl
    have HL:=Lib.hid hql;clear HQ hq hql;go_wp2_with fail;go_meet
    case rel=>exact⟨by rw[HL.out],rfl⟩
  case rest=>
   obtain⟨rfl,rfl⟩:=hcut;have hQl:1≤Q.length∧Q.length≤l+1:=by
    cases b with
    |true=>obtain⟨hq,hl0⟩:=HQ.out.1 rfl;rw[hq,List.length_dropLast];omega
    |false=>rw[HQ.out.2 rfl];omega
   obtain⟨m,hm⟩:∃m,Q.length=m+1:=⟨Q.length-1,by omega⟩;have hml:m≤l:=by omega
   have hlast:=getLast_is hm;have hd:=HD.out;rw[hlast]at hd;have cm:=hM.cell m (by omega);have hLx:=HX.out _ (List.getElem_mem (show m<Q.length by omega));have hrow:=hM.row;have hb2:=hM.below;rw[hm];clear HD HQ hQl hlast;generalize hLL:Q[m]'(by omega)=L2 at*;clear hLL;rw[hm]at hd;have cn:=fun W=>rnumber_any L2 W (by omega)
   have cd:=fun W=>rdigits_any L2 W (by omega)
   simp only[cntV]at cn;have HH:=Lib.hid (@like_hex L2);have HD:=Lib.hid (@like_dig L2);have HR:=Lib.hid hd;clear hd;go_upto_region 6 with (go_at_call 209;refine(cn _).mono ?_;rintro e w3 ⟨rfl,rfl⟩);go_cut [9] (fun h wx=>w2=wx∧∃b:Bool,h= .bool b∧Hid (likeL L2=(digsL L2||b)))
   case first=>
    clear hM HX HR
    cases p:hexPre L2 with
    |true=>
     obtain⟨y1,y2⟩:=HH.out p;obtain⟨h2,z0,z1⟩:=hex_parts p;have Y1:=Lib.hid y1;have Y2:=Lib.hid y2;clear p y1 y2 HH HD;rcases z1 with z1|z1
     all_goals
      go_wp2_with fail;go_meet;exact⟨rfl,_,rfl,by show _=_;rw[Y1.out,Y2.out];rfl⟩
    |false=>
     have y1:=HD.out p;have Y1:=Lib.hid y1;have hn:=hex_not p;clear p y1 HH HD;rcases hn with h2|⟨h2,z0⟩|⟨h2,z0,z1,z2⟩
     all_goals
      go_wp2_with fail;go_meet;exact⟨rfl,_,rfl,by show _=_;rw[Y1.out,Bool.or_false]⟩
   case rest=>
    obtain⟨rfl,b,rfl,hI⟩:=hcut;have hr:=HR.out;have hI:=hI.out;clear HR HH HD;by_cases hno:digsL L2=false∧b=false
    ·obtain⟨hd,hbf⟩:=hno
     rw[hd,hbf,Bool.or_false]at hI;rw[if_pos hI]at hr;subst hr;rw[hd]at cd;clear hI hd hM HX;go_upto_region 8 with (go_at_call 210;refine(cd _).mono ?_;rintro e w3 ⟨rfl,rfl⟩);go_wp2_with(refine wpList_store_same (o:=⟨none, .store 187 (.tmp 2) (.tmp 75),_,_,_,_⟩) rfl 187 (.tmp 2) _ rfl w.heap.size zeroA rfl rfl 187 hrow (by kernel_rfl) (by decide+kernel) ?_);exact bodyPost_ret (results_row3 (fn:=Tryz.f161) (p:=2) (q:=3) (r:=4) (ty:=187) rfl _ _ w.heap.size 187 zeroA (0,0) _ rfl hrow Tryz.underlying187 rfl (by kernel_rfl)) rfl ⟨rfl,hb2⟩
    ·have hlk:likeL L2=true:=by rw[hI];cases h1:digsL L2<;>cases h2:b<;>simp_all
     rw[if_neg (by rw[hlk];simp)]at hr;have hcase:digsL L2=true∨(digsL L2=false∧b=true):=by cases h1:digsL L2<;>cases h2:b<;>simp_all
     clear hlk hI hno;by_cases h4:4≤m
     ·rw[if_pos (by omega)]at hr
      subst hr;clear hM HX;have h4i:(4:Int)<(m:Int)+1:=by omega
      rcases hcase with hd|⟨hd,hbt⟩
      all_goals
       rw[hd]at cd;clear hd;go_upto_region 10 with (go_at_call 210;refine(cd _).mono ?_;rintro e w3 ⟨rfl,rfl⟩);go_wp2_with(refine wpList_store_same (o:=⟨none, .store 187 (.tmp 2) (.tmp 79),_,_,_,_⟩) rfl 187 (.tmp 2) _ rfl w.heap.size zeroA rfl rfl 187 hrow (by kernel_rfl) (by decide+kernel) ?_);exact bodyPost_ret (results_row3 (fn:=Tryz.f161) (p:=2) (q:=3) (r:=4) (ty:=187) rfl _ _ w.heap.size 187 zeroA (0,0) _ rfl hrow Tryz.underlying187 rfl (by kernel_rfl)) rfl ⟨rfl,hb2⟩
     ·rw[if_neg (by omega)]at hr
      have hhi:=hM.hi;have hlo:=hM.lo;have hcell:∀(o:Obj) (j:Nat),(w2.alloc o).cell? ⟨g,j,none⟩=w2.cell? ⟨g,j,none⟩:=fun o j=>World.cell?_alloc_old _ _ _ (by show g≠_;omega)
      have hrw2:∀(o:Obj),(w2.alloc o).heap[w.heap.size]?=some (.cells zeroA 187 (0,0)):=fun o=>(Below.heap_alloc w2 o _ (by omega)).trans hrow
      have hbw2:∀(o:Obj),Below w.heap.size w (w2.alloc o):=fun o=>hb2.alloc hb2.size o
      have hm4:m=0∨m=1∨m=2∨m=3:=by omega
      rcases hm4 with e|e|e|e
      ·have e2:m+1=1:=by omega
       rw[e2]at hm;rw[e2];obtain⟨x0,rfl⟩:=list1 hm;have c0:=hM.cell 0 (by simp);simp only[List.getElem_cons_zero,List.getElem_cons_succ]at c0;clear hM hm e2 e h4 hml hcap;rcases hcase with hd|⟨hd,hbt⟩
       all_goals
        rw[hd]at cd;clear hd;go_wp2_with(go_at_call 210;refine(cd _).mono ?_;rintro e w3 ⟨rfl,rfl⟩);refine wp_loop_rounds 2 ?_;rw[rounds_succ];have cm0:=fun W=>rnumber_any x0 W (by have:=HX.out x0 (by simp);omega)
        cases hn0:numL x0 with
        |none=>
         have hr2:r=(true,5,0):=by rw[hr];simp[evalF,hn0]
         subst hr2;rw[hn0]at cm0;simp only[cntV]at cm0;clear hr hn0;go_wp2_with(go_at_call 209;refine(cm0 _).mono ?_;rintro e w3 ⟨rfl,rfl⟩);refine wp_loop_rounds 4 ?_;rw[rounds_succ];go_wp2_with fail;rw[rounds_succ];go_wp2_with fail;rw[rounds_succ];go_wp2_with fail;rw[rounds_succ];go_upto_region 22 with fail;go_wp2_with(refine wpList_store_same (o:=⟨none, .store 187 (.tmp 2) (.tmp 116),_,_,_,_⟩) rfl 187 (.tmp 2) _ rfl w.heap.size zeroA rfl rfl 187 (hrw2 _) (by kernel_rfl) (by decide+kernel) ?_);exact bodyPost_ret (results_row3 (fn:=Tryz.f161) (p:=2) (q:=3) (r:=4) (ty:=187) rfl _ _ w.heap.size 187 zeroA (0,0) _ rfl (hrw2 _) Tryz.underlying187 rfl (by kernel_rfl)) rfl ⟨rfl,hbw2 _⟩
        |some n0=>
         rw[hn0]at cm0;simp only[cntV]at cm0;by_cases q0:n0≤4294967295
         ·have hge0:decide ((4294967296:Int)≤(n0:Int))=false:=by rw[decide_eq_false_iff_not];omega
          have Q0:=Lib.hid q0;clear q0;go_wp2_with(go_at_call 209;refine(cm0 _).mono ?_;rintro e w3 ⟨rfl,rfl⟩);refine wp_loop_rounds 4 ?_;rw[rounds_succ];go_wp2_with fail;rw[rounds_succ];go_wp2_with fail;rw[rounds_succ];go_wp2_with fail;rw[rounds_succ];go_wp2_with fail;have q0:=Q0.out;refine wp_loop_rounds 5 ?_;rw[rounds_succ];go_wp2_with fail;rw[rounds_succ];go_wp2_with fail;rw[rounds_succ];go_wp2_with fail;rw[rounds_succ];go_wp2_with fail;rw[rounds_succ];go_wp2_with fail;rw[rounds_succ];go_upto_region 30 with fail;go_step;refine wpList_load_row (o:=⟨some _, .load 187 (.tmp 10),_,_,_,_⟩) rfl 187 (.tmp 10) rfl w2.heap.size rfl 187 _ (0,0) _ (heap_alloc_new w2 _) Tryz.underlying187 rfl (by kernel_rfl) ?_;refine wpList_store_row (o:=⟨none, .store 187 (.tmp 2) (.tmp 140),_,_,_,_⟩) rfl 187 (.tmp 2) _ rfl w.heap.size _ rfl rfl 187 zeroA (hrw2 _) (by kernel_rfl) rfl (by simp[Value.oneCell']) ?_;go_wp2_with fail;refine bodyPost_ret (results_row3 (fn:=Tryz.f161) (p:=2) (q:=3) (r:=4) (ty:=187) rfl _ _ w.heap.size 187 _ (0,0) _ rfl (setRow_heap _ _ _ _ _ _ (hrw2 _)) Tryz.underlying187 rfl (by kernel_rfl)) rfl ⟨?_,below_setRow (hbw2 _) (Nat.le_refl _) _⟩;have hr2:r=(true,0,n0):=by
           rw[hr];simp[evalF,hn0,show n0<4294967296 from by omega]
          rw[hr2];simp[fourV,addrV];omega
         ·have q0b:4294967296≤n0:=by omega
          have hr2:r=(true,5,0):=by rw[hr];simp[evalF,hn0,show ¬n0<4294967296 from by omega]
          subst hr2;have hge0:decide ((4294967296:Int)≤(n0:Int))=true:=by rw[decide_eq_true_eq];omega
          clear q0 q0b hr hn0;go_wp2_with(go_at_call 209;refine(cm0 _).mono ?_;rintro e w3 ⟨rfl,rfl⟩);refine wp_loop_rounds 4 ?_;rw[rounds_succ];go_wp2_with fail;rw[rounds_succ];go_wp2_with fail;rw[rounds_succ];go_wp2_with fail;rw[rounds_succ];go_upto_region 22 with fail;go_wp2_with(refine wpList_store_same (o:=⟨none, .store 187 (.tmp 2) (.tmp 116),_,_,_,_⟩) rfl 187 (.tmp 2) _ rfl w.heap.size zeroA rfl rfl 187 (hrw2 _) (by kernel_rfl) (by decide+kernel) ?_);exact bodyPost_ret (results_row3 (fn:=Tryz.f161) (p:=2) (q:=3) (r:=4) (ty:=187) rfl _ _ w.heap.size 187 zeroA (0,0) _ rfl (hrw2 _) Tryz.underlying187 rfl (by kernel_rfl)) rfl ⟨rfl,hbw2 _⟩
      ·have e2:m+1=2:=by omega
       rw[e2]at hm;rw[e2];obtain⟨x0,x1,rfl⟩:=list2 hm;have c0:=hM.cell 0 (by simp);have c1:=hM.cell 1 (by simp);simp only[List.getElem_cons_zero,List.getElem_cons_succ]at c0 c1;clear hM hm e2 e h4 hml hcap;rcases hcase with hd|⟨hd,hbt⟩
       all_goals
        rw[hd]at cd;clear hd;go_wp2_with(go_at_call 210;refine(cd _).mono ?_;rintro e w3 ⟨rfl,rfl⟩);refine wp_loop_rounds 3 ?_;rw[rounds_succ];have cm0:=fun W=>rnumber_any x0 W (by have:=HX.out x0 (by simp);omega)
        cases hn0:numL x0 with
        |none=>
         have hr2:r=(true,5,0):=by rw[hr];simp[evalF,hn0]
         subst hr2;rw[hn0]at cm0;simp only[cntV]at cm0;clear hr hn0;go_wp2_with(go_at_call 209;refine(cm0 _).mono ?_;rintro e w3 ⟨rfl,rfl⟩);refine wp_loop_rounds 1 ?_;rw[rounds_succ];go_upto_region 22 with fail;go_wp2_with(refine wpList_store_same (o:=⟨none, .store 187 (.tmp 2) (.tmp 116),_,_,_,_⟩) rfl 187 (.tmp 2) _ rfl w.heap.size zeroA rfl rfl 187 (hrw2 _) (by kernel_rfl) (by decide+kernel) ?_);exact bodyPost_ret (results_row3 (fn:=Tryz.f161) (p:=2) (q:=3) (r:=4) (ty:=187) rfl _ _ w.heap.size 187 zeroA (0,0) _ rfl (hrw2 _) Tryz.underlying187 rfl (by kernel_rfl)) rfl ⟨rfl,hbw2 _⟩
        |some n0=>
         rw[hn0]at cm0;simp only[cntV]at cm0;by_cases q0:n0≤255
         ·have hge0:decide ((256:Int)≤(n0:Int))=false:=by rw[decide_eq_false_iff_not];omega
          have Q0:=Lib.hid q0;clear q0;go_wp2_with(go_at_call 209;refine(cm0 _).mono ?_;rintro e w3 ⟨rfl,rfl⟩);refine wp_loop_rounds 1 ?_;rw[rounds_succ];go_wp2_with fail;have q0:=Q0.out;rw[rounds_succ];have cm1:=fun W=>rnumber_any x1 W (by have:=HX.out x1 (by simp);omega)
          cases hn1:numL x1 with
          |none=>
           have hr2:r=(true,5,0):=by rw[hr];simp[evalF,hn0,show n0<256 from by omega,hn1]
           subst hr2;rw[hn1]at cm1;simp only[cntV]at cm1;clear hr hn0 hn1;go_wp2_with(go_at_call 209;refine(cm1 _).mono ?_;rintro e w3 ⟨rfl,rfl⟩);refine wp_loop_rounds 3 ?_;rw[rounds_succ];go_wp2_with fail;rw[rounds_succ];go_wp2_with fail;rw[rounds_succ];go_upto_region 22 with fail;go_wp2_with(refine wpList_store_same (o:=⟨none, .store 187 (.tmp 2) (.tmp 116),_,_,_,_⟩) rfl 187 (.tmp 2) _ rfl w.heap.size zeroA rfl rfl 187 (hrw2 _) (by kernel_rfl) (by decide+kernel) ?_);exact bodyPost_ret (results_row3 (fn:=Tryz.f161) (p:=2) (q:=3) (r:=4) (ty:=187) rfl _ _ w.heap.size 187 zeroA (0,0) _ rfl (hrw2 _) Tryz.underlying187 rfl (by kernel_rfl)) rfl ⟨rfl,hbw2 _⟩
          |some n1=>
           rw[hn1]at cm1;simp only[cntV]at cm1;by_cases q1:n1≤16777215
           ·have hge1:decide ((16777216:Int)≤(n1:Int))=false:=by rw[decide_eq_false_iff_not];omega
            have Q1:=Lib.hid q1;clear q1;go_wp2_with(go_at_call 209;refine(cm1 _).mono ?_;rintro e w3 ⟨rfl,rfl⟩);refine wp_loop_rounds 3 ?_;rw[rounds_succ];go_wp2_with fail;rw[rounds_succ];go_wp2_with fail;rw[rounds_succ];go_wp2_with fail;have q1:=Q1.out;refine wp_loop_rounds 4 ?_;rw[rounds_succ];go_wp2_with fail;rw[rounds_succ];go_wp2_with fail;rw[rounds_succ];go_wp2_with fail;rw[rounds_succ];go_wp2_with fail;rw[rounds_succ];go_upto_region 30 with fail;go_step;refine wpList_load_row (o:=⟨some _, .load 187 (.tmp 10),_,_,_,_⟩) rfl 187 (.tmp 10) rfl w2.heap.size rfl 187 _ (0,0) _ (heap_alloc_new w2 _) Tryz.underlying187 rfl (by kernel_rfl) ?_;refine wpList_store_row (o:=⟨none, .store 187 (.tmp 2) (.tmp 140),_,_,_,_⟩) rfl 187 (.tmp 2) _ rfl w.heap.size _ rfl rfl 187 zeroA (hrw2 _) (by kernel_rfl) rfl (by simp[Value.oneCell']) ?_;go_wp2_with fail;refine bodyPost_ret (results_row3 (fn:=Tryz.f161) (p:=2) (q:=3) (r:=4) (ty:=187) rfl _ _ w.heap.size 187 _ (0,0) _ rfl (setRow_heap _ _ _ _ _ _ (hrw2 _)) Tryz.underlying187 rfl (by kernel_rfl)) rfl ⟨?_,below_setRow (hbw2 _) (Nat.le_refl _) _⟩;have hr2:r=(true,0,n0*16777216+n1):=by
             rw[hr];simp[evalF,hn0,show n0<256 from by omega,hn1,show n1<16777216 from by omega]
            rw[hr2];simp[fourV,addrV];omega
           ·have q1b:16777216≤n1:=by omega
            have hr2:r=(true,5,0):=by rw[hr];simp[evalF,hn0,show n0<256 from by omega,hn1,show ¬n1<16777216 from by omega]
            subst hr2;have hge1:decide ((16777216:Int)≤(n1:Int))=true:=by rw[decide_eq_true_eq];omega
            clear q1 q1b hr hn0 hn1;go_wp2_with(go_at_call 209;refine(cm1 _).mono ?_;rintro e w3 ⟨rfl,rfl⟩);refine wp_loop_rounds 3 ?_;rw[rounds_succ];go_wp2_with fail;rw[rounds_succ];go_wp2_with fail;rw[rounds_succ];go_upto_region 22 with fail;go_wp2_with(refine wpList_store_same (o:=⟨none, .store 187 (.tmp 2) (.tmp 116),_,_,_,_⟩) rfl 187 (.tmp 2) _ rfl w.heap.size zeroA rfl rfl 187 (hrw2 _) (by kernel_rfl) (by decide+kernel) ?_);exact bodyPost_ret (results_row3 (fn:=Tryz.f161) (p:=2) (q:=3) (r:=4) (ty:=187) rfl _ _ w.heap.size 187 zeroA (0,0) _ rfl (hrw2 _) Tryz.underlying187 rfl (by kernel_rfl)) rfl ⟨rfl,hbw2 _⟩
         ·have q0b:256≤n0:=by omega
          have hr2:r=(true,5,0):=by rw[hr];simp[evalF,hn0,show ¬n0<256 from by omega]
          subst hr2;have hge0:decide ((256:Int)≤(n0:Int))=true:=by rw[decide_eq_true_eq];omega
          clear q0 q0b hr hn0;go_wp2_with(go_at_call 209;refine(cm0 _).mono ?_;rintro e w3 ⟨rfl,rfl⟩);refine wp_loop_rounds 1 ?_;rw[rounds_succ];go_upto_region 22 with fail;go_wp2_with(refine wpList_store_same (o:=⟨none, .store 187 (.tmp 2) (.tmp 116),_,_,_,_⟩) rfl 187 (.tmp 2) _ rfl w.heap.size zeroA rfl rfl 187 (hrw2 _) (by kernel_rfl) (by decide+kernel) ?_);exact bodyPost_ret (results_row3 (fn:=Tryz.f161) (p:=2) (q:=3) (r:=4) (ty:=187) rfl _ _ w.heap.size 187 zeroA (0,0) _ rfl (hrw2 _) Tryz.underlying187 rfl (by kernel_rfl)) rfl ⟨rfl,hbw2 _⟩
      ·have e2:m+1=3:=by omega
       rw[e2]at hm;rw[e2];obtain⟨x0,x1,x2,rfl⟩:=list3 hm;have c0:=hM.cell 0 (by simp);have c1:=hM.cell 1 (by simp);have c2:=hM.cell 2 (by simp);simp only[List.getElem_cons_zero,List.getElem_cons_succ]at c0 c1 c2;clear hM hm e2 e h4 hml hcap;rcases hcase with hd|⟨hd,hbt⟩
       all_goals
        rw[hd]at cd;clear hd;go_wp2_with(go_at_call 210;refine(cd _).mono ?_;rintro e w3 ⟨rfl,rfl⟩);refine wp_loop_rounds 4 ?_;rw[rounds_succ];have cm0:=fun W=>rnumber_any x0 W (by have:=HX.out x0 (by simp);omega)
        cases hn0:numL x0 with
        |none=>
         have hr2:r=(true,5,0):=by rw[hr];simp[evalF,hn0]
         subst hr2;rw[hn0]at cm0;simp only[cntV]at cm0;clear hr hn0;go_wp2_with(go_at_call 209;refine(cm0 _).mono ?_;rintro e w3 ⟨rfl,rfl⟩);refine wp_loop_rounds 1 ?_;rw[rounds_succ];go_upto_region 22 with fail;go_wp2_with(refine wpList_store_same (o:=⟨none, .store 187 (.tmp 2) (.tmp 116),_,_,_,_⟩) rfl 187 (.tmp 2) _ rfl w.heap.size zeroA rfl rfl 187 (hrw2 _) (by kernel_rfl) (by decide+kernel) ?_);exact bodyPost_ret (results_row3 (fn:=Tryz.f161) (p:=2) (q:=3) (r:=4) (ty:=187) rfl _ _ w.heap.size 187 zeroA (0,0) _ rfl (hrw2 _) Tryz.underlying187 rfl (by kernel_rfl)) rfl ⟨rfl,hbw2 _⟩
        |some n0=>
         rw[hn0]at cm0;simp only[cntV]at cm0;by_cases q0:n0≤255
         ·have hge0:decide ((256:Int)≤(n0:Int))=false:=by rw[decide_eq_false_iff_not];omega
          have Q0:=Lib.hid q0;clear q0;go_wp2_with(go_at_call 209;refine(cm0 _).mono ?_;rintro e w3 ⟨rfl,rfl⟩);refine wp_loop_rounds 1 ?_;rw[rounds_succ];go_wp2_with fail;have q0:=Q0.out;rw[rounds_succ];have cm1:=fun W=>rnumber_any x1 W (by have:=HX.out x1 (by simp);omega)
          cases hn1:numL x1 with
          |none=>
           have hr2:r=(true,5,0):=by rw[hr];simp[evalF,hn0,show n0<256 from by omega,hn1]
           subst hr2;rw[hn1]at cm1;simp only[cntV]at cm1;clear hr hn0 hn1;go_wp2_with(go_at_call 209;refine(cm1 _).mono ?_;rintro e w3 ⟨rfl,rfl⟩);refine wp_loop_rounds 1 ?_;rw[rounds_succ];go_upto_region 22 with fail;go_wp2_with(refine wpList_store_same (o:=⟨none, .store 187 (.tmp 2) (.tmp 116),_,_,_,_⟩) rfl 187 (.tmp 2) _ rfl w.heap.size zeroA rfl rfl 187 (hrw2 _) (by kernel_rfl) (by decide+kernel) ?_);exact bodyPost_ret (results_row3 (fn:=Tryz.f161) (p:=2) (q:=3) (r:=4) (ty:=187) rfl _ _ w.heap.size 187 zeroA (0,0) _ rfl (hrw2 _) Tryz.underlying187 rfl (by kernel_rfl)) rfl ⟨rfl,hbw2 _⟩
          |some n1=>
           rw[hn1]at cm1;simp only[cntV]at cm1;by_cases q1:n1≤255
           ·have hge1:decide ((256:Int)≤(n1:Int))=false:=by rw[decide_eq_false_iff_not];omega
            have Q1:=Lib.hid q1;clear q1;go_wp2_with(go_at_call 209;refine(cm1 _).mono ?_;rintro e w3 ⟨rfl,rfl⟩);refine wp_loop_rounds 1 ?_;rw[rounds_succ];go_wp2_with fail;have q1:=Q1.out;rw[rounds_succ];have cm2:=fun W=>rnumber_any x2 W (by have:=HX.out x2 (by simp);omega)
            cases hn2:numL x2 with
            |none=>
             have hr2:r=(true,5,0):=by rw[hr];simp[evalF,hn0,show n0<256 from by omega,hn1,show n1<256 from by omega,hn2]
             subst hr2;rw[hn2]at cm2;simp only[cntV]at cm2;clear hr hn0 hn1 hn2;go_wp2_with(go_at_call 209;refine(cm2 _).mono ?_;rintro e w3 ⟨rfl,rfl⟩);refine wp_loop_rounds 2 ?_;rw[rounds_succ];go_wp2_with fail;rw[rounds_succ];go_upto_region 22 with fail;go_wp2_with(refine wpList_store_same (o:=⟨none, .store 187 (.tmp 2) (.tmp 116),_,_,_,_⟩) rfl 187 (.tmp 2) _ rfl w.heap.size zeroA rfl rfl 187 (hrw2 _) (by kernel_rfl) (by decide+kernel) ?_);exact bodyPost_ret (results_row3 (fn:=Tryz.f161) (p:=2) (q:=3) (r:=4) (ty:=187) rfl _ _ w.heap.size 187 zeroA (0,0) _ rfl (hrw2 _) Tryz.underlying187 rfl (by kernel_rfl)) rfl ⟨rfl,hbw2 _⟩
            |some n2=>
             rw[hn2]at cm2;simp only[cntV]at cm2;by_cases q2:n2≤65535
             ·have hge2:decide ((65536:Int)≤(n2:Int))=false:=by rw[decide_eq_false_iff_not];omega
              have Q2:=Lib.hid q2;clear q2;go_wp2_with(go_at_call 209;refine(cm2 _).mono ?_;rintro e w3 ⟨rfl,rfl⟩);refine wp_loop_rounds 2 ?_;rw[rounds_succ];go_wp2_with fail;rw[rounds_succ];go_wp2_with fail;have q2:=Q2.out;refine wp_loop_rounds 3 ?_;rw[rounds_succ];go_wp2_with fail;rw[rounds_succ];go_wp2_with fail;rw[rounds_succ];go_wp2_with fail;rw[rounds_succ];go_upto_region 30 with fail;go_step;refine wpList_load_row (o:=⟨some _, .load 187 (.tmp 10),_,_,_,_⟩) rfl 187 (.tmp 10) rfl w2.heap.size rfl 187 _ (0,0) _ (heap_alloc_new w2 _) Tryz.underlying187 rfl (by kernel_rfl) ?_;refine wpList_store_row (o:=⟨none, .store 187 (.tmp 2) (.tmp 140),_,_,_,_⟩) rfl 187 (.tmp 2) _ rfl w.heap.size _ rfl rfl 187 zeroA (hrw2 _) (by kernel_rfl) rfl (by simp[Value.oneCell']) ?_;go_wp2_with fail;refine bodyPost_ret (results_row3 (fn:=Tryz.f161) (p:=2) (q:=3) (r:=4) (ty:=187) rfl _ _ w.heap.size 187 _ (0,0) _ rfl (setRow_heap _ _ _ _ _ _ (hrw2 _)) Tryz.underlying187 rfl (by kernel_rfl)) rfl ⟨?_,below_setRow (hbw2 _) (Nat.le_refl _) _⟩;have hr2:r=(true,0,(n0*256+n1)*65536+n2):=by
               rw[hr];simp[evalF,hn0,show n0<256 from by omega,hn1,show n1<256 from by omega,hn2,show n2<65536 from by omega]
              rw[hr2];simp[fourV,addrV];omega
             ·have q2b:65536≤n2:=by omega
              have hr2:r=(true,5,0):=by rw[hr];simp[evalF,hn0,show n0<256 from by omega,hn1,show n1<256 from by omega,hn2,show ¬n2<65536 from by omega]
              subst hr2;have hge2:decide ((65536:Int)≤(n2:Int))=true:=by rw[decide_eq_true_eq];omega
              clear q2 q2b hr hn0 hn1 hn2;go_wp2_with(go_at_call 209;refine(cm2 _).mono ?_;rintro e w3 ⟨rfl,rfl⟩);refine wp_loop_rounds 2 ?_;rw[rounds_succ];go_wp2_with fail;rw[rounds_succ];go_upto_region 22 with fail;go_wp2_with(refine wpList_store_same (o:=⟨none, .store 187 (.tmp 2) (.tmp 116),_,_,_,_⟩) rfl 187 (.tmp 2) _ rfl w.heap.size zeroA rfl rfl 187 (hrw2 _) (by kernel_rfl) (by decide+kernel) ?_);exact bodyPost_ret (results_row3 (fn:=Tryz.f161) (p:=2) (q:=3) (r:=4) (ty:=187) rfl _ _ w.heap.size 187 zeroA (0,0) _ rfl (hrw2 _) Tryz.underlying187 rfl (by kernel_rfl)) rfl ⟨rfl,hbw2 _⟩
           ·have q1b:256≤n1:=by omega
            have hr2:r=(true,5,0):=by rw[hr];simp[evalF,hn0,show n0<256 from by omega,hn1,show ¬n1<256 from by omega]
            subst hr2;have hge1:decide ((256:Int)≤(n1:Int))=true:=by rw[decide_eq_true_eq];omega
            clear q1 q1b hr hn0 hn1;go_wp2_with(go_at_call 209;refine(cm1 _).mono ?_;rintro e w3 ⟨rfl,rfl⟩);refine wp_loop_rounds 1 ?_;rw[rounds_succ];go_upto_region 22 with fail;go_wp2_with(refine wpList_store_same (o:=⟨none, .store 187 (.tmp 2) (.tmp 116),_,_,_,_⟩) rfl 187 (.tmp 2) _ rfl w.heap.size zeroA rfl rfl 187 (hrw2 _) (by kernel_rfl) (by decide+kernel) ?_);exact bodyPost_ret (results_row3 (fn:=Tryz.f161) (p:=2) (q:=3) (r:=4) (ty:=187) rfl _ _ w.heap.size 187 zeroA (0,0) _ rfl (hrw2 _) Tryz.underlying187 rfl (by kernel_rfl)) rfl ⟨rfl,hbw2 _⟩
         ·have q0b:256≤n0:=by omega
          have hr2:r=(true,5,0):=by rw[hr];simp[evalF,hn0,show ¬n0<256 from by omega]
          subst hr2;have hge0:decide ((256:Int)≤(n0:Int))=true:=by rw[decide_eq_true_eq];omega
          clear q0 q0b hr hn0;go_wp2_with(go_at_call 209;refine(cm0 _).mono ?_;rintro e w3 ⟨rfl,rfl⟩);refine wp_loop_rounds 1 ?_;rw[rounds_succ];go_upto_region 22 with fail;go_wp2_with(refine wpList_store_same (o:=⟨none, .store 187 (.tmp 2) (.tmp 116),_,_,_,_⟩) rfl 187 (.tmp 2) _ rfl w.heap.size zeroA rfl rfl 187 (hrw2 _) (by kernel_rfl) (by decide+kernel) ?_);exact bodyPost_ret (results_row3 (fn:=Tryz.f161) (p:=2) (q:=3) (r:=4) (ty:=187) rfl _ _ w.heap.size 187 zeroA (0,0) _ rfl (hrw2 _) Tryz.underlying187 rfl (by kernel_rfl)) rfl ⟨rfl,hbw2 _⟩
      ·have e2:m+1=4:=by omega
       rw[e2]at hm;rw[e2];obtain⟨x0,x1,x2,x3,rfl⟩:=list4 hm;have c0:=hM.cell 0 (by simp);have c1:=hM.cell 1 (by simp);have c2:=hM.cell 2 (by simp);have c3:=hM.cell 3 (by simp);simp only[List.getElem_cons_zero,List.getElem_cons_succ]at c0 c1 c2 c3;clear hM hm e2 e h4 hml hcap;rcases hcase with hd|⟨hd,hbt⟩
       all_goals
        rw[hd]at cd;clear hd;go_wp2_with(go_at_call 210;refine(cd _).mono ?_;rintro e w3 ⟨rfl,rfl⟩);refine wp_loop_rounds 5 ?_;rw[rounds_succ];have cm0:=fun W=>rnumber_any x0 W (by have:=HX.out x0 (by simp);omega)
        cases hn0:numL x0 with
        |none=>
         have hr2:r=(true,5,0):=by rw[hr];simp[evalF,hn0]
         subst hr2;rw[hn0]at cm0;simp only[cntV]at cm0;clear hr hn0;go_wp2_with(go_at_call 209;refine(cm0 _).mono ?_;rintro e w3 ⟨rfl,rfl⟩);refine wp_loop_rounds 1 ?_;rw[rounds_succ];go_upto_region 22 with fail;go_wp2_with(refine wpList_store_same (o:=⟨none, .store 187 (.tmp 2) (.tmp 116),_,_,_,_⟩) rfl 187 (.tmp 2) _ rfl w.heap.size zeroA rfl rfl 187 (hrw2 _) (by kernel_rfl) (by decide+kernel) ?_);exact bodyPost_ret (results_row3 (fn:=Tryz.f161) (p:=2) (q:=3) (r:=4) (ty:=187) rfl _ _ w.heap.size 187 zeroA (0,0) _ rfl (hrw2 _) Tryz.underlying187 rfl (by kernel_rfl)) rfl ⟨rfl,hbw2 _⟩
        |some n0=>
         rw[hn0]at cm0;simp only[cntV]at cm0;by_cases q0:n0≤255
         ·have hge0:decide ((256:Int)≤(n0:Int))=false:=by rw[decide_eq_false_iff_not];omega
          have Q0:=Lib.hid q0;clear q0;go_wp2_with(go_at_call 209;refine(cm0 _).mono ?_;rintro e w3 ⟨rfl,rfl⟩);refine wp_loop_rounds 1 ?_;rw[rounds_succ];go_wp2_with fail;have q0:=Q0.out;rw[rounds_succ];have cm1:=fun W=>rnumber_any x1 W (by have:=HX.out x1 (by simp);omega)
          cases hn1:numL x1 with
          |none=>
           have hr2:r=(true,5,0):=by rw[hr];simp[evalF,hn0,show n0<256 from by omega,hn1]
           subst hr2;rw[hn1]at cm1;simp only[cntV]at cm1;clear hr hn0 hn1;go_wp2_with(go_at_call 209;refine(cm1 _).mono ?_;rintro e w3 ⟨rfl,rfl⟩);refine wp_loop_rounds 1 ?_;rw[rounds_succ];go_upto_region 22 with fail;go_wp2_with(refine wpList_store_same (o:=⟨none, .store 187 (.tmp 2) (.tmp 116),_,_,_,_⟩) rfl 187 (.tmp 2) _ rfl w.heap.size zeroA rfl rfl 187 (hrw2 _) (by kernel_rfl) (by decide+kernel) ?_);exact bodyPost_ret (results_row3 (fn:=Tryz.f161) (p:=2) (q:=3) (r:=4) (ty:=187) rfl _ _ w.heap.size 187 zeroA (0,0) _ rfl (hrw2 _) Tryz.underlying187 rfl (by kernel_rfl)) rfl ⟨rfl,hbw2 _⟩
          |some n1=>
           rw[hn1]at cm1;simp only[cntV]at cm1;by_cases q1:n1≤255
           ·have hge1:decide ((256:Int)≤(n1:Int))=false:=by rw[decide_eq_false_iff_not];omega
            have Q1:=Lib.hid q1;clear q1;go_wp2_with(go_at_call 209;refine(cm1 _).mono ?_;rintro e w3 ⟨rfl,rfl⟩);refine wp_loop_rounds 1 ?_;rw[rounds_succ];go_wp2_with fail;have q1:=Q1.out;rw[rounds_succ];have cm2:=fun W=>rnumber_any x2 W (by have:=HX.out x2 (by simp);omega)
            cases hn2:numL x2 with
            |none=>
             have hr2:r=(true,5,0):=by rw[hr];simp[evalF,hn0,show n0<256 from by omega,hn1,show n1<256 from by omega,hn2]
             subst hr2;rw[hn2]at cm2;simp only[cntV]at cm2;clear hr hn0 hn1 hn2;go_wp2_with(go_at_call 209;refine(cm2 _).mono ?_;rintro e w3 ⟨rfl,rfl⟩);refine wp_loop_rounds 1 ?_;rw[rounds_succ];go_upto_region 22 with fail;go_wp2_with(refine wpList_store_same (o:=⟨none, .store 187 (.tmp 2) (.tmp 116),_,_,_,_⟩) rfl 187 (.tmp 2) _ rfl w.heap.size zeroA rfl rfl 187 (hrw2 _) (by kernel_rfl) (by decide+kernel) ?_);exact bodyPost_ret (results_row3 (fn:=Tryz.f161) (p:=2) (q:=3) (r:=4) (ty:=187) rfl _ _ w.heap.size 187 zeroA (0,0) _ rfl (hrw2 _) Tryz.underlying187 rfl (by kernel_rfl)) rfl ⟨rfl,hbw2 _⟩
            |some n2=>
             rw[hn2]at cm2;simp only[cntV]at cm2;by_cases q2:n2≤255
             ·have hge2:decide ((256:Int)≤(n2:Int))=false:=by rw[decide_eq_false_iff_not];omega
              have Q2:=Lib.hid q2;clear q2;go_wp2_with(go_at_call 209;refine(cm2 _).mono ?_;rintro e w3 ⟨rfl,rfl⟩);refine wp_loop_rounds 1 ?_;rw[rounds_succ];go_wp2_with fail;have q2:=Q2.out;rw[rounds_succ];have cm3:=fun W=>rnumber_any x3 W (by have:=HX.out x3 (by simp);omega)
              cases hn3:numL x3 with
              |none=>
               have hr2:r=(true,5,0):=by rw[hr];simp[evalF,hn0,show n0<256 from by omega,hn1,show n1<256 from by omega,hn2,show n2<256 from by omega,hn3]
               subst hr2;rw[hn3]at cm3;simp only[cntV]at cm3;clear hr hn0 hn1 hn2 hn3;go_wp2_with(go_at_call 209;refine(cm3 _).mono ?_;rintro e w3 ⟨rfl,rfl⟩);refine wp_loop_rounds 1 ?_;rw[rounds_succ];go_upto_region 22 with fail;go_wp2_with(refine wpList_store_same (o:=⟨none, .store 187 (.tmp 2) (.tmp 116),_,_,_,_⟩) rfl 187 (.tmp 2) _ rfl w.heap.size zeroA rfl rfl 187 (hrw2 _) (by kernel_rfl) (by decide+kernel) ?_);exact bodyPost_ret (results_row3 (fn:=Tryz.f161) (p:=2) (q:=3) (r:=4) (ty:=187) rfl _ _ w.heap.size 187 zeroA (0,0) _ rfl (hrw2 _) Tryz.underlying187 rfl (by kernel_rfl)) rfl ⟨rfl,hbw2 _⟩
              |some n3=>
               rw[hn3]at cm3;simp only[cntV]at cm3;by_cases q3:n3≤255
               ·have hge3:decide ((256:Int)≤(n3:Int))=false:=by rw[decide_eq_false_iff_not];omega
                have Q3:=Lib.hid q3;clear q3;go_wp2_with(go_at_call 209;refine(cm3 _).mono ?_;rintro e w3 ⟨rfl,rfl⟩);refine wp_loop_rounds 1 ?_;rw[rounds_succ];go_wp2_with fail;have q3:=Q3.out;refine wp_loop_rounds 2 ?_;rw[rounds_succ];go_wp2_with fail;rw[rounds_succ];go_wp2_with fail;rw[rounds_succ];go_upto_region 30 with fail;go_step;refine wpList_load_row (o:=⟨some _, .load 187 (.tmp 10),_,_,_,_⟩) rfl 187 (.tmp 10) rfl w2.heap.size rfl 187 _ (0,0) _ (heap_alloc_new w2 _) Tryz.underlying187 rfl (by kernel_rfl) ?_;refine wpList_store_row (o:=⟨none, .store 187 (.tmp 2) (.tmp 140),_,_,_,_⟩) rfl 187 (.tmp 2) _ rfl w.heap.size _ rfl rfl 187 zeroA (hrw2 _) (by kernel_rfl) rfl (by simp[Value.oneCell']) ?_;go_wp2_with fail;refine bodyPost_ret (results_row3 (fn:=Tryz.f161) (p:=2) (q:=3) (r:=4) (ty:=187) rfl _ _ w.heap.size 187 _ (0,0) _ rfl (setRow_heap _ _ _ _ _ _ (hrw2 _)) Tryz.underlying187 rfl (by kernel_rfl)) rfl ⟨?_,below_setRow (hbw2 _) (Nat.le_refl _) _⟩;have hr2:r=(true,0,((n0*256+n1)*256+n2)*256+n3):=by
                 rw[hr];simp[evalF,hn0,show n0<256 from by omega,hn1,show n1<256 from by omega,hn2,show n2<256 from by omega,hn3,show n3<256 from by omega]
                rw[hr2];simp[fourV,addrV];omega
               ·have q3b:256≤n3:=by omega
                have hr2:r=(true,5,0):=by rw[hr];simp[evalF,hn0,show n0<256 from by omega,hn1,show n1<256 from by omega,hn2,show n2<256 from by omega,hn3,show ¬n3<256 from by omega]
                subst hr2;have hge3:decide ((256:Int)≤(n3:Int))=true:=by rw[decide_eq_true_eq];omega
                clear q3 q3b hr hn0 hn1 hn2 hn3;go_wp2_with(go_at_call 209;refine(cm3 _).mono ?_;rintro e w3 ⟨rfl,rfl⟩);refine wp_loop_rounds 1 ?_;rw[rounds_succ];go_upto_region 22 with fail;go_wp2_with(refine wpList_store_same (o:=⟨none, .store 187 (.tmp 2) (.tmp 116),_,_,_,_⟩) rfl 187 (.tmp 2) _ rfl w.heap.size zeroA rfl rfl 187 (hrw2 _) (by kernel_rfl) (by decide+kernel) ?_);exact bodyPost_ret (results_row3 (fn:=Tryz.f161) (p:=2) (q:=3) (r:=4) (ty:=187) rfl _ _ w.heap.size 187 zeroA (0,0) _ rfl (hrw2 _) Tryz.underlying187 rfl (by kernel_rfl)) rfl ⟨rfl,hbw2 _⟩
             ·have q2b:256≤n2:=by omega
              have hr2:r=(true,5,0):=by rw[hr];simp[evalF,hn0,show n0<256 from by omega,hn1,show n1<256 from by omega,hn2,show ¬n2<256 from by omega]
              subst hr2;have hge2:decide ((256:Int)≤(n2:Int))=true:=by rw[decide_eq_true_eq];omega
              clear q2 q2b hr hn0 hn1 hn2;go_wp2_with(go_at_call 209;refine(cm2 _).mono ?_;rintro e w3 ⟨rfl,rfl⟩);refine wp_loop_rounds 1 ?_;rw[rounds_succ];go_upto_region 22 with fail;go_wp2_with(refine wpList_store_same (o:=⟨none, .store 187 (.tmp 2) (.tmp 116),_,_,_,_⟩) rfl 187 (.tmp 2) _ rfl w.heap.size zeroA rfl rfl 187 (hrw2 _) (by kernel_rfl) (by decide+kernel) ?_);exact bodyPost_ret (results_row3 (fn:=Tryz.f161) (p:=2) (q:=3) (r:=4) (ty:=187) rfl _ _ w.heap.size 187 zeroA (0,0) _ rfl (hrw2 _) Tryz.underlying187 rfl (by kernel_rfl)) rfl ⟨rfl,hbw2 _⟩
           ·have q1b:256≤n1:=by omega
            have hr2:r=(true,5,0):=by rw[hr];simp[evalF,hn0,show n0<256 from by omega,hn1,show ¬n1<256 from by omega]
            subst hr2;have hge1:decide ((256:Int)≤(n1:Int))=true:=by rw[decide_eq_true_eq];omega
            clear q1 q1b hr hn0 hn1;go_wp2_with(go_at_call 209;refine(cm1 _).mono ?_;rintro e w3 ⟨rfl,rfl⟩);refine wp_loop_rounds 1 ?_;rw[rounds_succ];go_upto_region 22 with fail;go_wp2_with(refine wpList_store_same (o:=⟨none, .store 187 (.tmp 2) (.tmp 116),_,_,_,_⟩) rfl 187 (.tmp 2) _ rfl w.heap.size zeroA rfl rfl 187 (hrw2 _) (by kernel_rfl) (by decide+kernel) ?_);exact bodyPost_ret (results_row3 (fn:=Tryz.f161) (p:=2) (q:=3) (r:=4) (ty:=187) rfl _ _ w.heap.size 187 zeroA (0,0) _ rfl (hrw2 _) Tryz.underlying187 rfl (by kernel_rfl)) rfl ⟨rfl,hbw2 _⟩
         ·have q0b:256≤n0:=by omega
          have hr2:r=(true,5,0):=by rw[hr];simp[evalF,hn0,show ¬n0<256 from by omega]
          subst hr2;have hge0:decide ((256:Int)≤(n0:Int))=true:=by rw[decide_eq_true_eq];omega
          clear q0 q0b hr hn0;go_wp2_with(go_at_call 209;refine(cm0 _).mono ?_;rintro e w3 ⟨rfl,rfl⟩);refine wp_loop_rounds 1 ?_;rw[rounds_succ];go_upto_region 22 with fail;go_wp2_with(refine wpList_store_same (o:=⟨none, .store 187 (.tmp 2) (.tmp 116),_,_,_,_⟩) rfl 187 (.tmp 2) _ rfl w.heap.size zeroA rfl rfl 187 (hrw2 _) (by kernel_rfl) (by decide+kernel) ?_);exact bodyPost_ret (results_row3 (fn:=Tryz.f161) (p:=2) (q:=3) (r:=4) (ty:=187) rfl _ _ w.heap.size 187 zeroA (0,0) _ rfl (hrw2 _) Tryz.underlying187 rfl (by kernel_rfl)) rfl ⟨rfl,hbw2 _⟩
end
end Go.Proofs.YtlhcfmcbpljbiaaGreatDoor
