/- The walk of the reference's Parse of a host where no bracket stands ahead. -/
import Derived.Test.YtlcnknlmdaochaaGreatDoorGRH
import Derived.Test.YtlcnknlmdaochaaGreatDoorGRP
import Derived.Test.YtlcnknlmdaochaaGreatDoorRFourWalk
set_option linter.unusedVariables false
set_option linter.unusedSimpArgs false
set_option maxHeartbeats 16000000
namespace Go.Proofs.YtlcnknlmdaochaaGreatDoor
open Go.RowKit
attribute [local go_sem] ba_append
theorem own_texts2 {w:World} {base n:Nat} {v:Value} {l:List (List UInt8)} (h:w.ownsRow base 9 1 v n (strs l)) (hl:l.length=n) (hn:0<n):∃g cap,v= .slice (some ⟨g,0,none⟩) n cap∧base≤g∧g<w.heap.size∧Texts w g 0 l∧n≤cap:=by
 rcases own_open h with ⟨rfl,h0,_⟩|⟨g,cap,rfl,hb,hg,hc0,_,hc⟩
 ·omega
 ·exact⟨g,cap,rfl,hb,hg,fun j hj=>by rw[Nat.zero_add];exact hc j _ (strs_get hj),by omega⟩
set_option maxRecDepth 100000 in
theorem rhost_out (s:List UInt8) (w:World) (hs:s.length≤4100) (h0:s.head?≠some 91):
 Calls Tryz.prog 157 #[.string ⟨s.toArray⟩] w fun e w'=>e= .returned (optV (hostL s))∧Below w.heap.size w w':=by
 have HHN:=fun x h=>host_name (s:=s) (x:=x) h0 h
 have HH0:=fun h=>host_none (s:=s) h0 h
 have ht1:(s !=[])=true→(((s.getD 0 0).toNat:Int)==91)=false:=fun h=>by
  cases s with
  |nil=>simp at h
  |cons x l=>
   simp only[List.getD_cons_zero];refine beq_eq_false_iff_ne.2 (fun e=>h0 ?_);rw[List.head?_cons,UInt8.toNat_inj.1 (show x.toNat=(91:UInt8).toNat by show x.toNat=91;omega)]
 have cd:=rpct_any s w (by omega)
 have hpl:=pctL_le s
 have HX:=Lib.hid ht1
 clear ht1
 go_enter Tryz.func157,Tryz.ntmps157
 go_upto_region 3 with fail
 go_cut [24]from 18 to 23 (fun c wx=>c= .bool false∧w=wx)
 case first=>
  by_cases hn:s=[]
  ·subst hn
   go_wp2_with fail;go_meet;exact⟨rfl,rfl⟩
  ·have h0b:=beq_ne hn
   have h0e:=isEmpty_ne hn;have hlen:0<s.length:=List.length_pos_iff.2 hn;have hx:=HX.out (by simp[hn]);have hg:s.getD 0 0=s[0]:=by simp[List.getD,List.getElem?_eq_getElem hlen]
   rw[hg]at hx;clear hg;go_wp2_with fail;go_meet;exact⟨rfl,rfl⟩
 case rest=>
  obtain⟨rfl,rfl⟩:=hcut;go_wp2_with fail;go_at_call 212;refine cd.mono ?_;rintro e w1 ⟨rfl,hb1⟩;have cpa:=rParts_any (pctL s) w1 (by omega);generalize pctL s=p at*;go_wp2_with fail;go_at_call 170;refine cpa.mono ?_;rintro e w2 ⟨v,rfl,hown,hb2⟩;have hPn:=partsL_ne 46 p;have hP0:0<(partsL 46 p).length:=List.length_pos_iff.2 hPn;obtain⟨hpx,hpn⟩:=partsL_le 46 p;obtain⟨g,cap,rfl,hgb,hgs,hT,hcap⟩:=own_texts2 hown rfl hP0;have hb3:Below w.heap.size w w2:=hb1.trans (hb2.mono hb1.size);clear hown cpa cd hb2;generalize partsL 46 p=P at*;have hP1k:P.length≤4101:=by omega
  have hlast:=hT (P.length-1) (by omega);rw[Nat.zero_add]at hlast;have hgl:P.getLastD []=P[P.length-1]'(by omega):=by
   rw[List.getLastD_eq_getLast?,List.getLast?_eq_getElem?,List.getElem?_eq_getElem (by omega)];rfl
  have HT:=Lib.hid hT;have HGL:=Lib.hid hgl;clear hT hgl;generalize P[P.length-1]'(by omega)=z at*;go_upto_region 11 with fail;go_cut [61]from 50 to 60 (fun c wx=>c= .bool (decide (1<P.length∧z=[]))∧w2=wx)
  case first=>
   have tl:((P.length:Int)-1).toNat=P.length-1:=by omega
   by_cases h1:1<P.length
   ·by_cases hz:z=[]
    ·have hd:decide (1<P.length∧z=[])=true:=decide_eq_true ⟨h1,hz⟩
     have HD:=Lib.hid hd;clear hd;subst hz;go_wp2_with fail;go_meet;exact⟨by rw[HD.out],rfl⟩
    ·have hd:decide (1<P.length∧z=[])=false:=decide_eq_false (fun h=>hz h.2)
     have HD:=Lib.hid hd;have h0b:=beq_ne hz;have h0e:=isEmpty_ne hz;clear hd;go_wp2_with fail;go_meet;exact⟨by rw[HD.out],rfl⟩
   ·have hd:decide (1<P.length∧z=[])=false:=decide_eq_false (fun h=>h1 h.1)
    have HD:=Lib.hid hd;clear hd;go_wp2_with fail;go_meet;exact⟨by rw[HD.out],rfl⟩
  case rest=>
   obtain⟨rfl,rfl⟩:=hcut;go_upto_if 61 with fail;go_cut [6]from 61 to 66 (fun c wx=>w2=wx∧∃cap2,c= .slice (some ⟨g,0,none⟩) (cutLast P).length cap2)
   case first=>
    by_cases hC:1<P.length∧z=[]
    ·have hd:decide (1<P.length∧z=[])=true:=decide_eq_true hC
     have hq:(cutLast P).length=P.length-1:=by
      unfold cutLast;rw[if_pos ⟨hC.1,by rw[HGL.out];exact hC.2⟩];simp
     have HQ:=Lib.hid hq;have h1:=hC.1;clear hq hC;have tl:((P.length:Int)-1).toNat=P.length-1:=by omega
     rw[hd];go_wp2_with fail;go_meet;exact⟨rfl,cap,by rw[HQ.out]⟩
    ·have hd:decide (1<P.length∧z=[])=false:=decide_eq_false hC
     have hq:cutLast P=P:=by
      unfold cutLast;rw[if_neg (by rw[HGL.out];exact hC)]
     have HQ:=Lib.hid hq;clear hq hC;rw[hd];go_wp2_with fail;go_meet;exact⟨rfl,cap,by rw[HQ.out]⟩
   case rest=>
    obtain⟨rfl,cap2,rfl⟩:=hcut;have hTQ:Texts w2 g 0 (cutLast P):=by
     unfold cutLast;split
     ·intro j hj
      have:=HT.out j (by simp at hj;omega);simpa using this
     ·exact HT.out
    have hQ1:∀q∈cutLast P,q.length≤4100:=fun q hq=>by
     have:q∈P:=by
      unfold cutLast at hq;split at hq
      ·exact(List.dropLast_sublist _).subset hq
      ·exact hq
     have:=hpx q this;omega
    have hQk:(cutLast P).length≤4101:=by
     unfold cutLast;split
     ·simp;omega
     ·omega
    have HTQ:=Lib.hid hTQ;have HQ1:=Lib.hid hQ1;clear hTQ hQ1 HT HGL hlast hpx hpn hPn hP0 hP1k hcap;generalize cutLast P=Q at*;have hs0:Hid (nameF [] true Q=nameF [] ((0:Nat)==0) (Q.drop 0)):=rfl;have HHN2:=Lib.hid HHN;have HH02:=Lib.hid HH0;clear HHN HH0;go_wp2_with fail;go_loopw [7,8,9,10] (fun t i a c wr=>∃(k:Nat) (acc:List UInt8),k≤Q.length∧i= .int .i64 k∧t= .string ⟨acc.toArray⟩∧acc.length≤253∧Hid (nameF [] true Q=nameF acc (k==0) (Q.drop k))∧Hid (Below w2.heap.size w2 wr)) (fun _ i _ _ _=>Q.length-(intOf i).toNat)
    case atStart=>exact⟨0,[],by omega,rfl,rfl,by simp,hs0,Below.refl _ _⟩
    case round=>
     obtain⟨V,rfl⟩:∃V,V=wr:=⟨wr,rfl⟩;obtain⟨k,acc,hk,rfl,rfl,hal,HN,HW⟩:=hrel;clear hs0;by_cases hlt:k<Q.length
     ·have hc:V.cell? ⟨g,k,none⟩=some (.string ⟨(Q[k]).toArray⟩):=by
       have:=HTQ.out k hlt;rw[Nat.zero_add]at this;rw[HW.out.cell (p:=⟨g,k,none⟩) hgs];exact this
      have cl:=rlabel_any Q[k] V (HQ1.out _ (List.getElem_mem hlt));have hN:nameF acc (k==0) (Q.drop k)=if (labelL Q[k]).2≠0 then none else if 253<(acc++sepL (k==0)++(labelL Q[k]).1).length then none else nameF (acc++sepL (k==0)++(labelL Q[k]).1) false (Q.drop (k+1)):=by
       rw[List.drop_eq_getElem_cons hlt];rfl
      have HN2:=Lib.hid (HN.out.trans hN);clear hN HN;have hx63:= @labelL_le Q[k];generalize labelL Q[k]=r at*;obtain⟨x,er⟩:=r;simp only[encV]at cl;simp only at hx63;by_cases he:er=0
      ·subst he
       change Calls Tryz.prog 213 _ V fun e w'=>e= .returned (.tuple #[.string ⟨x.toArray⟩, .int .i64 0])∧Below V.heap.size V w' at cl
       by_cases hk0:k=0
       ·have hsep:sepL (k==0)=[]:=by simp[sepL,hk0]
        have HN3:Hid (nameF [] true Q=if 253<(acc++[]++x).length then none else nameF (acc++[]++x) false (Q.drop (k+1))):=by show _=_;rw[HN2.out,hsep];simp
        have hk1:¬0<k:=by omega
        have HK0:=Lib.hid hk0;clear hsep HN2 hk0;by_cases h253:253<(acc++[]++x).length
        ·have HR:=Lib.hid (HH02.out (by rw[HN3.out,if_pos h253]))
         have hl253:253<acc.length+0+x.length:=by simp at h253;omega
         clear h253 HN3;go_wp2_with fail;go_at_call 213;refine cl.mono ?_;rintro e w3 ⟨rfl,hb4⟩;have hb5:=hb3.trans ((HW.out.trans (hb4.mono HW.out.size)).mono hb3.size);clear hb4;go_wp2_with fail;go_ret2;exact⟨by rw[HR.out];rfl,hb5⟩
        ·have hl253:acc.length+0+x.length≤253:=by simp at h253;omega
         have HN4:Hid (nameF [] true Q=nameF (acc++[]++x) false (Q.drop (k+1))):=by show _=_;rw[HN3.out,if_neg h253]
         clear h253 HN3;go_wp2_with fail;go_at_call 213;refine cl.mono ?_;rintro e w3 ⟨rfl,hb4⟩;have HW5:=Lib.hid (HW.out.trans (hb4.mono HW.out.size));clear hb4;go_wp2_with fail;go_roundw
         case rel=>exact⟨k+1,acc++[]++x,by omega,by go_num,by simp,by simp;omega,by show _=_;rw[HN4.out];simp,HW5⟩
         case measure=>simp[intOf];omega
       ·have hsep:sepL (k==0)=[46]:=by simp[sepL,hk0]
        have HN3:Hid (nameF [] true Q=if 253<(acc++[46]++x).length then none else nameF (acc++[46]++x) false (Q.drop (k+1))):=by show _=_;rw[HN2.out,hsep];simp
        have hk1:0<k:=by omega
        have HK0:=Lib.hid hk0;clear hsep HN2 hk0;by_cases h253:253<(acc++[46]++x).length
        ·have HR:=Lib.hid (HH02.out (by rw[HN3.out,if_pos h253]))
         have hl253:253<acc.length+1+x.length:=by simp at h253;omega
         clear h253 HN3;go_wp2_with fail;go_at_call 213;refine cl.mono ?_;rintro e w3 ⟨rfl,hb4⟩;have hb5:=hb3.trans ((HW.out.trans (hb4.mono HW.out.size)).mono hb3.size);clear hb4;go_wp2_with fail;go_ret2;exact⟨by rw[HR.out];rfl,hb5⟩
        ·have hl253:acc.length+1+x.length≤253:=by simp at h253;omega
         have HN4:Hid (nameF [] true Q=nameF (acc++[46]++x) false (Q.drop (k+1))):=by show _=_;rw[HN3.out,if_neg h253]
         clear h253 HN3;go_wp2_with fail;go_at_call 213;refine cl.mono ?_;rintro e w3 ⟨rfl,hb4⟩;have HW5:=Lib.hid (HW.out.trans (hb4.mono HW.out.size));clear hb4;go_wp2_with fail;go_roundw
         case rel=>exact⟨k+1,acc++[46]++x,by omega,by go_num,by simp,by simp;omega,by show _=_;rw[HN4.out];simp,HW5⟩
         case measure=>simp[intOf];omega
      ·have hei:((er:Int) !=0)=true:=by simp;omega
       have HR:=Lib.hid (HH02.out (by rw[HN2.out];simp[he]));clear HN2 he;go_wp2_with fail;go_at_call 213;refine cl.mono ?_;rintro e w3 ⟨rfl,hb4⟩;have hb5:=hb3.trans ((HW.out.trans (hb4.mono HW.out.size)).mono hb3.size);clear hb4;go_wp2_with fail;go_ret2;exact⟨by rw[HR.out];rfl,hb5⟩
     ·have hkq:k=Q.length:=by omega
      have HE:nameF [] true Q=some acc:=by rw[HN.out,hkq,List.drop_length];rfl
      have HA:=Lib.hid (HHN2.out acc HE);have hbV:=hb3.trans (HW.out.mono hb3.size);clear HE HN HHN2 HH02 HTQ HQ1 HW hkq hb3;go_wp2_with fail;go_loop [11] (fun i=>∃j:Nat,j≤acc.length∧i= .int .i64 j∧Hid ((acc.take j).any foulB=false)) (fun i=>acc.length-(intOf i).toNat)
      case atStart=>exact⟨0,Nat.zero_le _,rfl,by show _=_;simp⟩
      case round=>
       obtain⟨j,hj,rfl,H⟩:=hrel;by_cases hlj:j<acc.length
       ·have hn:=fun h=>Lib.hid (any_take_no hlj H.out h)
        have hy:=fun h=>Lib.hid (any_yes (s:=acc) hlj h)
        have cf:=rfoul_any acc[j] V;generalize hc:acc[j]=c at*;generalize foulB c=fb at*
        cases fb with
        |true=>
         have HY:=hy rfl;have HR:Hid (hostL s=none):=by show _=_;rw[HA.out,HY.out];rfl
         clear hn hy H HA HY;go_wp2_with fail;go_at_call 214;refine cf.mono ?_;rintro e w3 ⟨rfl,rfl⟩;go_wp2_with fail;go_ret2;exact⟨by rw[HR.out];rfl,hbV⟩
        |false=>
         have HN5:=hn rfl;clear hn hy H;go_wp2_with fail;go_at_call 214;refine cf.mono ?_;rintro e w3 ⟨rfl,rfl⟩;go_wp2_with fail;go_round
         case rel=>exact⟨j+1,by omega,by go_num,HN5⟩
         case measure=>simp[intOf];omega
       ·have hje:j=acc.length:=by omega
        have hany:acc.any foulB=false:=by have:=H.out;rw[hje,List.take_length]at this;exact this
        have HR:Hid (hostL s=fourT acc):=by show _=_;rw[HA.out,hany];rfl
        have cf:=rfour_any acc V (by omega);have e1:=fun h=>fourT_ne (s:=acc) h
        have e2:=fun h h1=>fourT_yes (s:=acc) h h1
        have e3:=fun h h1=>fourT_no (s:=acc) h h1
        clear hany HA H hje;generalize fourL acc=r at*;obtain⟨lk,er,n⟩:=r;rw[fourV_mk,addrV_adC]at cf;simp only at cf e1 e2 e3;have hB:=b16_len n;have ct:=fun W=>rtext_four (b16 n) hB W
        rw[b16_four]at ct;have hi:=adC_info false hB;have hz:=zeroA_size false hB;have h1:=adC_one false (b16 n);generalize hBB:b16 n=B at*;clear hBB;by_cases he:er=0
        ·subst he
         cases lk with
         |true=>
          have HR2:Hid (hostL s=some (text4 (bytes4 n))):=by show _=_;rw[HR.out];exact e2 rfl rfl
          clear e1 e2 e3 HR;generalize text4 (bytes4 n)=T at*;go_wp2_with fail;go_at_call 215;refine cf.mono ?_;rintro e w3 ⟨rfl,hb4⟩;have hb5:=hbV.trans (hb4.mono hbV.size);have hb6:Below w.heap.size w ((w3.alloc (.cells zeroA 186)).setRow w3.heap.size (adC false B)):=below_row (hb5.alloc hb5.size _) hb5.size _;have hh:((w3.alloc (.cells zeroA 186)).setRow w3.heap.size (adC false B)).heap[w3.heap.size]?=some (.cells (adC false B) 186 (0,0)):=setRow_heap _ _ _ _ _ _ (heap_alloc_new w3 _);go_wp2_with(first|(refine wpList_store_row (o:=⟨none, .store 186 (.tmp 12) (.tmp 106),_,_,_,_⟩) rfl 186 (.tmp 12) _ rfl w3.heap.size (adC false B) rfl rfl 186 zeroA (heap_alloc_new w3 _) hi hz h1 ?_)|(refine wpList_load_row (o:=⟨some 112, .load 186 (.tmp 12),_,_,_,_⟩) rfl 186 (.tmp 12) rfl w3.heap.size rfl 186 (adC false B) (0,0) _ hh Tryz.underlying186 rfl hi ?_)|(go_at_call 211;refine(ct _).mono ?_;rintro e w5 ⟨rfl,hb7⟩));go_ret2;exact⟨by rw[HR2.out];rfl,hb6.trans (hb7.mono hb6.size)⟩
         |false=>
          have HR2:Hid (hostL s=some acc):=by show _=_;rw[HR.out];exact e3 rfl rfl
          clear e1 e2 e3 ct HR;go_wp2_with fail;go_at_call 215;refine cf.mono ?_;rintro e w3 ⟨rfl,hb4⟩;have hb5:=hbV.trans (hb4.mono hbV.size);have hb6:Below w.heap.size w ((w3.alloc (.cells zeroA 186)).setRow w3.heap.size (adC false B)):=below_row (hb5.alloc hb5.size _) hb5.size _;go_wp2_with(refine wpList_store_row (o:=⟨none, .store 186 (.tmp 12) (.tmp 106),_,_,_,_⟩) rfl 186 (.tmp 12) _ rfl w3.heap.size (adC false B) rfl rfl 186 zeroA (heap_alloc_new w3 _) hi hz h1 ?_);go_ret2;exact⟨by rw[HR2.out];rfl,hb6⟩
        ·have HR2:Hid (hostL s=none):=by show _=_;rw[HR.out];exact e1 he
         have hei:((er:Int) !=0)=true:=by simp;omega
         clear e1 e2 e3 ct HR he
         cases lk
         all_goals
          go_wp2_with fail;go_at_call 215;refine cf.mono ?_;rintro e w3 ⟨rfl,hb4⟩;have hb5:=hbV.trans (hb4.mono hbV.size);have hb6:Below w.heap.size w ((w3.alloc (.cells zeroA 186)).setRow w3.heap.size (adC false B)):=below_row (hb5.alloc hb5.size _) hb5.size _;go_wp2_with(refine wpList_store_row (o:=⟨none, .store 186 (.tmp 12) (.tmp 106),_,_,_,_⟩) rfl 186 (.tmp 12) _ rfl w3.heap.size (adC false B) rfl rfl 186 zeroA (heap_alloc_new w3 _) hi hz h1 ?_);go_ret2;exact⟨by rw[HR2.out];rfl,hb6⟩
end Go.Proofs.YtlcnknlmdaochaaGreatDoor
