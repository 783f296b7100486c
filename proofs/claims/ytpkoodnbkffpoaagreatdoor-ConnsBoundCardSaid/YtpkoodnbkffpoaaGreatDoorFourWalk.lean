/- The walk of addrs.Four (by one loop). -/
import Derived.Test.YtpkoodnbkffpoaaGreatDoorGCnt
set_option linter.unusedVariables false
set_option linter.unusedSimpArgs false
set_option maxHeartbeats 16000000
namespace Go.Proofs.YtpkoodnbkffpoaaGreatDoor
open Go.RowKit
def addrV (n:Nat):Value:= .agg #[.bool false, .int .u8 ((n/16777216 % 256:Nat):Int), .int .u8 ((n/65536 % 256:Nat):Int), .int .u8 ((n/256 % 256:Nat):Int), .int .u8 ((n % 256:Nat):Int),
 .int .u8 0, .int .u8 0, .int .u8 0, .int .u8 0, .int .u8 0, .int .u8 0, .int .u8 0, .int .u8 0, .int .u8 0, .int .u8 0, .int .u8 0, .int .u8 0]
def fourV (r:Bool×Nat×Nat):Value:= .tuple #[addrV r.2.2, .bool r.1, .int .i64 (r.2.1:Int)]
abbrev zeroA:Array Value:= #[.bool false, .int .u8 0, .int .u8 0, .int .u8 0, .int .u8 0, .int .u8 0, .int .u8 0, .int .u8 0, .int .u8 0, .int .u8 0, .int .u8 0, .int .u8 0, .int .u8 0, .int .u8 0, .int .u8 0, .int .u8 0, .int .u8 0]
structure FourW (w W2:World) (P:List (List UInt8)):Prop where
 env:Env W2
 below:Below w.heap.size w W2
 row:W2.heap[w.heap.size]?=some (.cells zeroA 130 (0,0))
 size:W2.heap.size=w.heap.size+2
 cell:∀j (h:j<P.length),W2.cell? ⟨w.heap.size+1,j,none⟩=some (.string ⟨(P[j]).toArray⟩)
theorem fourW (s:List UInt8) (w:World) (hE:Env w) (hs:s.length≤4000000000):∃W2,FourW w W2 (partsL 46 s)∧
 Calls Tryz.prog 119 #[.string ⟨s.toArray⟩, .string ⟨#[46]⟩] (w.alloc (.cells zeroA 130)) fun e w'=>e= .returned (.slice (some ⟨w.heap.size+1,0,none⟩) (partsL 46 s).length (partsL 46 s).length)∧w'=W2:=by
 have hE1:Env (w.alloc (.cells zeroA 130)):=hE.below ((Below.refl _ _).alloc (Nat.le_refl _) _)
 have cs:=split_any s 46 _ hE1.shaped (by omega)
 rw[World.size_alloc]at cs
 refine⟨_,⟨hE1.below ((Below.refl _ _).alloc (Nat.le_refl _) _),((Below.refl _ _).alloc (Nat.le_refl _) _).alloc (by rw[World.size_alloc];omega) _,heap_alloc2_old w _ _,by rw[World.size_alloc,World.size_alloc],fun j h=> ?_⟩,cs⟩
 rw[World.cell?_alloc_at _ _ _ _ (by rw[World.size_alloc]),List.getElem?_toArray,strs_get h]
theorem getLast_is {P:List (List UInt8)} {l:Nat} (h:P.length=l+1):P.getLastD []=P[l]'(by omega):=by
 rw[List.getLastD_eq_getLast?,List.getLast?_eq_getElem?,List.getElem?_eq_getElem (by omega)];simp[h]
theorem drop_at {P:List (List UInt8)} {k:Nat} (h:k<P.length):P.drop k=P[k]::P.drop (k+1):=List.drop_eq_getElem_cons h
theorem evalF_bad {x:List UInt8} {l:List (List UInt8)} {room all:Nat} (h:numL x=none):evalF (x::l) room all=none:=by rw[evalF,h]
theorem evalF_end {x:List UInt8} {room all n:Nat} (h:numL x=some n):evalF [x] room all=if n<room then some (all*room+n)else none:=by rw[evalF,h];rfl
theorem evalF_go {x:List UInt8} {l:List (List UInt8)} {room all n:Nat} (h:numL x=some n) (hl:l≠[]):evalF (x::l) room all=if n<256 then evalF l (room/256) (all*256+n)else none:=by
 conv=>lhs;rw[evalF,h]
 simp only[if_neg hl]
theorem or_add {a n m:Nat} (hn:n<2^m) (h:2^m*a+n<9223372036854775808):bits BinOp.or IntKind.i64 ((2^m*a:Nat):Int) (n:Int)=((2^m*a+n:Nat):Int):=by
 unfold bits;have h1:(BitVec.ofInt 64 ((2^m*a:Nat):Int))=BitVec.ofNat 64 (2^m*a):=BitVec.ofInt_natCast _ _;have h2:(BitVec.ofInt 64 (n:Int))=BitVec.ofNat 64 n:=BitVec.ofInt_natCast _ _;show IntKind.i64.wrap (((BitVec.ofInt 64 ((2^m*a:Nat):Int))|||(BitVec.ofInt 64 (n:Int))).toNat:Int)=_;rw[h1,h2,BitVec.toNat_or,BitVec.toNat_ofNat,BitVec.toNat_ofNat,Nat.mod_eq_of_lt (by omega),Nat.mod_eq_of_lt (by omega),←Nat.two_pow_add_eq_or_of_lt hn,IntKind.wrap_i64];omega
theorem parts_keep {s:List UInt8} {P:List (List UInt8)} (h:partsL 46 s=P) (hc:¬(1<P.length∧P.getLastD []=[])):fourParts s=P:=by unfold fourParts;rw[h,if_neg hc]
theorem parts_cut {s:List UInt8} {P:List (List UInt8)} (h:partsL 46 s=P) (hc:1<P.length∧P.getLastD []=[]):fourParts s=P.dropLast:=by unfold fourParts;rw[h,if_pos hc]
structure FourM (w:World) (Q:List (List UInt8)) (W:World):Prop where
 env:Env W
 low:Below w.heap.size w W
 row:W.heap[w.heap.size]?=some (.cells zeroA 130 (0,0))
 lt:w.heap.size+1<W.heap.size
 cell:∀j (h:j<Q.length),W.cell? ⟨w.heap.size+1,j,none⟩=some (.string ⟨(Q[j]).toArray⟩)
theorem FourM.calm {w W W':World} {Q:List (List UInt8)} (h:FourM w Q W) (hb:Below W.heap.size W W'):FourM w Q W':=
 ⟨h.env.below hb,h.low.trans (hb.mono (by have:=h.lt;omega)),(hb.block _ (by have:=h.lt;omega)).trans h.row,by have:=h.lt;have:=hb.size;omega,fun j hj=>(hb.cell (p:=⟨w.heap.size+1,j,none⟩) h.lt).trans (h.cell j hj)⟩
def FourAt (Q:List (List UInt8)) (k a:Nat):Prop:=a<256^k∧evalF Q 4294967296 0=evalF (Q.drop k) (4294967296/256^k) a
theorem FourAt.start (Q:List (List UInt8)):FourAt Q 0 0:=⟨by decide,by simp⟩
theorem FourAt.miss {Q:List (List UInt8)} {k a:Nat} (h:FourAt Q k a) (hk:k<Q.length) (hn:numL Q[k]=none):evalF Q 4294967296 0=none:=by
 rw[h.2,drop_at hk,evalF_bad hn]
theorem FourAt.big {Q:List (List UInt8)} {k a n:Nat} (h:FourAt Q k a) (hk:k+1<Q.length) (hn:numL (Q[k]'(by omega))=some n) (hb:¬n<256):evalF Q 4294967296 0=none:=by
 rw[h.2,drop_at (by omega),evalF_go hn (by rw[Ne,List.drop_eq_nil_iff];omega),if_neg hb]
theorem FourAt.next {Q:List (List UInt8)} {k a n:Nat} (h:FourAt Q k a) (hk:k+1<Q.length) (hn:numL (Q[k]'(by omega))=some n) (hb:n<256):FourAt Q (k+1) (a*256+n):=by
 refine⟨?_, ?_⟩
 ·have:=h.1
  rw[Nat.pow_succ];omega
 ·rw[h.2,drop_at (by omega),evalF_go hn (by rw[Ne,List.drop_eq_nil_iff];omega),if_pos hb,Nat.div_div_eq_div_mul,←Nat.pow_succ]
theorem FourAt.last {Q:List (List UInt8)} {k a n:Nat} (h:FourAt Q k a) (hk:k+1=Q.length) (hn:numL (Q[k]'(by omega))=some n):evalF Q 4294967296 0=if n<4294967296/256^k then some (a*(4294967296/256^k)+n)else none:=by
 rw[h.2,drop_at (by omega),show Q.drop (k+1)=[]from List.drop_of_length_le (by omega),evalF_end hn]
def FourIn (Q:List (List UInt8)) (k a:Nat):Prop:=(k=Q.length∧a<4294967296∧evalF Q 4294967296 0=some a)∨(k<Q.length∧FourAt Q k a)
theorem or_mul {a n m R:Nat} (hR:2^m=R) (hn:n<R) (h:a*R+n<9223372036854775808):bits BinOp.or IntKind.i64 ((a:Int)*(R:Int)) (n:Int)=((a*R+n:Nat):Int):=by
 subst hR;have:= @or_add a n m hn (by rw[Nat.mul_comm];exact h);rw[Nat.mul_comm a,←this,Int.natCast_mul,Int.mul_comm]
theorem or_32 {a n:Nat} (hb:n<4294967296) (ha:a≤16777215):bits BinOp.or IntKind.i64 ((a:Int)*4294967296) (n:Int)=((a*4294967296+n:Nat):Int):=or_mul (m:=32) (R:=4294967296) (by decide) hb (by omega)
theorem or_24 {a n:Nat} (hb:n<16777216) (ha:a≤16777215):bits BinOp.or IntKind.i64 ((a:Int)*16777216) (n:Int)=((a*16777216+n:Nat):Int):=or_mul (m:=24) (R:=16777216) (by decide) hb (by omega)
theorem or_16 {a n:Nat} (hb:n<65536) (ha:a≤16777215):bits BinOp.or IntKind.i64 ((a:Int)*65536) (n:Int)=((a*65536+n:Nat):Int):=or_mul (m:=16) (R:=65536) (by decide) hb (by omega)
theorem lt_32 {a n:Nat} (h:a<1) (hb:n<4294967296):a*4294967296+n<4294967296:=by omega
theorem lt_24 {a n:Nat} (h:a<256) (hb:n<16777216):a*16777216+n<4294967296:=by omega
theorem lt_16 {a n:Nat} (h:a<65536) (hb:n<65536):a*65536+n<4294967296:=by omega
theorem lt_8 {a n:Nat} (h:a<16777216) (hb:n<256):a*256+n<4294967296:=by omega
theorem or_8 {a n:Nat} (hb:n<256) (ha:a≤16777215):bits BinOp.or IntKind.i64 ((a:Int)*256) (n:Int)=((a*256+n:Nat):Int):=or_mul (m:=8) (R:=256) (by decide) hb (by omega)
set_option maxRecDepth 100000 in
theorem four_any (s:List UInt8) (w:World) (hE:Env w) (hs:s.length≤3999999999):
 Calls Tryz.prog 83 #[.string ⟨s.toArray⟩] w fun e w'=>e= .returned (fourV (fourL s))∧Below w.heap.size w w':=by
 obtain⟨W2,hW,cs⟩:=fourW s w hE (by omega)
 obtain⟨hP1,hP2⟩:=partsL_le 46 s
 have hne:=partsL_ne 46 s
 have hx:∀p∈partsL 46 s,p.length≤4000000000:=fun p hp=>by have:=hP1 p hp;omega
 have hk:= @parts_keep s _ rfl
 have hc:= @parts_cut s _ rfl
 have hdef:fourL s=if likeL ((fourParts s).getLastD [])=false then (false,0,0)else if 4<(fourParts s).length then (true,5,0)else match evalF (fourParts s) 4294967296 0 with|none=>(true,5,0)|some n=>(true,0,n):=rfl
 generalize partsL 46 s=P at*
 generalize fourParts s=Q at*
 generalize fourL s=r at*
 obtain⟨l,hl⟩:∃l,P.length=l+1:=⟨P.length-1,by have:=List.length_pos_iff.2 hne;omega⟩
 have hlast:=getLast_is hl
 have hQx:∀p∈Q,p.length≤4000000000:=fun p hp=>by
  by_cases h:1<P.length∧P.getLastD []=[]
  ·rw[hc h]at hp;exact hx p (List.dropLast_subset _ hp)
  ·rw[hk h]at hp;exact hx p hp
 obtain⟨hE2,hb2,hrow,hsz,hcell⟩:=hW
 obtain⟨b,hb⟩:∃b:Bool,b=decide (1<P.length∧P.getLastD []=[]):=⟨_,rfl⟩
 have hQ:(b=true→Q=P.dropLast∧0<l)∧(b=false→Q=P):=⟨fun h=>by
  have:=of_decide_eq_true (hb.symm.trans h);exact⟨hc this,by omega⟩,fun h=>hk (of_decide_eq_false (hb.symm.trans h))⟩
 have hcl:=hcell l (by omega)
 rw[hlast]at hb
 have hM:FourM w Q W2:=⟨hE2,hb2,hrow,by omega,fun j hj=>by
  cases b with
  |true=>
   obtain⟨hq,_⟩:=hQ.1 rfl;subst hq;have hj2:j<P.length:=by rw[List.length_dropLast]at hj;omega
   rw[hcell j hj2,List.getElem_dropLast]
  |false=>
   have hq:=hQ.2 rfl;subst hq;exact hcell j hj⟩
 have HX:=Lib.hid hQx
 have HD:=Lib.hid hdef
 have HQ:=Lib.hid hQ
 rw[hl]at cs
 generalize hLL:P[l]'(by omega)=L at*
 clear hk hc hdef hQ hQx hE2 hb2 hrow hcell hx hP1 hne hlast hE hLL
 go_enter Tryz.func83,Tryz.ntmps83
 go_upto_region 3 with (go_at_call 119;refine cs.mono ?_;rintro e w1 ⟨rfl,rfl⟩)
 go_cut [28]from 19 to 28 (fun a wx=>a= .bool b∧w1=wx)
 case first=>
  clear HX HD HQ hM;by_cases h1:0<l
  ·have hi1:(1:Int)<(l:Int)+1:=by omega
   have hi2:(0:Int)<(l:Int):=by omega
   by_cases h2:L=[]
   ·have HB:Hid (b=true):=by show _=_;rw[hb];exact decide_eq_true ⟨by omega,h2⟩
    rw[h2]at hcl;clear hb h2;go_wp2_with fail;go_meet;exact⟨by rw[HB.out],rfl⟩
   ·have HB:Hid (b=false):=by show _=_;rw[hb];exact decide_eq_false (fun e=>h2 e.2)
    have b1:=isEmpty_ne h2;have b2:=beq_ne h2;clear hb h2;go_wp2_with fail;go_meet;exact⟨by rw[HB.out],rfl⟩
  ·have HB:Hid (b=false):=by show _=_;rw[hb];exact decide_eq_false (fun e=>by omega)
   have hl0:l=0:=by omega
   have hi1:¬(0:Int)<(l:Int):=by omega
   clear hb hl0;go_wp2_with fail;go_meet;exact⟨by rw[HB.out],rfl⟩
 case rest=>
  obtain⟨rfl,rfl⟩:=hcut;clear hb hcl;go_upto_if 28 with fail;go_cut [5]from 29 to 32 (fun v wx=>v= .slice (some ⟨w.heap.size+1,0,none⟩) Q.length (l+1)∧w1=wx)
  case first=>
   clear HX HD hM
   cases b with
   |true=>
    obtain⟨hq,hl0⟩:=HQ.out.1 rfl;have hql:Q.length=l:=by rw[hq,List.length_dropLast];omega
    have HL:=Lib.hid hql;clear HQ hq hql;go_wp2_with fail;go_meet
    case rel=>exact⟨by rw[HL.out],rfl⟩
   |false=>
    have hq:=HQ.out.2 rfl;have hql:Q.length=l+1:=by rw[hq];exact hl
    have HL:=Lib.hid hql;clear HQ hq hql;go_wp2_with fail;go_meet
    case rel=>exact⟨by rw[HL.out],rfl⟩
  case rest=>
   obtain⟨rfl,rfl⟩:=hcut;have hQl:1≤Q.length∧Q.length≤l+1:=by
    cases b with
    |true=>obtain⟨hq,hl0⟩:=HQ.out.1 rfl;rw[hq,List.length_dropLast];omega
    |false=>rw[HQ.out.2 rfl];omega
   obtain⟨m,hm⟩:∃m,Q.length=m+1:=⟨Q.length-1,by omega⟩;have hml:m≤l:=by omega
   have hlast:=getLast_is hm;have hd:=HD.out;rw[hlast]at hd;have cm:=hM.cell m (by omega);have cl:=like_any (Q[m]'(by omega)) w1 hM.env (by have:=HX.out _ (List.getElem_mem (show m<Q.length by omega));omega);have hlt:=hM.lt;rw[hm];clear HD HQ hQl hlast;generalize hLL:Q[m]'(by omega)=L2 at*;clear hLL
   cases hk:likeL L2 with
   |false=>
    rw[hk,if_pos rfl]at hd;subst hd;rw[hk]at cl;clear hk hm;go_wp2_with fail;go_at_call 120;refine cl.mono ?_;rintro e w3 ⟨rfl,hb3⟩;have hM3:=hM.calm hb3;have hz3:=hM3.row;have hlow:=hM3.low;go_upto_region 7 with fail;go_step;refine wpList_load_row (o:=⟨some _, .load 130 (.tmp 2),_,_,_,_⟩) rfl 130 (.tmp 2) rfl w.heap.size rfl 130 zeroA (0,0) _ hz3 Tryz.underlying130 rfl (by kernel_rfl) ?_;refine wpList_store_same (o:=⟨none, .store 130 (.tmp 2) (.tmp _),_,_,_,_⟩) rfl 130 (.tmp 2) _ rfl w.heap.size zeroA rfl rfl 130 hz3 (by kernel_rfl) (by decide+kernel) ?_;go_wp2_with fail;exact bodyPost_ret (results_row3 (fn:=Tryz.f83) (p:=2) (q:=3) (r:=4) (ty:=130) rfl _ _ w.heap.size 130 zeroA (0,0) _ rfl hz3 Tryz.underlying130 rfl (by kernel_rfl)) rfl ⟨rfl,hlow⟩
   |true=>
    rw[hk,if_neg (by simp)]at hd;rw[hk]at cl;have HD:=Lib.hid hd;have HMM:=Lib.hid hm;clear hk hm hd;go_wp2_with fail;go_at_call 120;refine cl.mono ?_;rintro e w3 ⟨rfl,hb3⟩;have hM3:=hM.calm hb3;clear cl cm hM hb3 hlt;by_cases hbig:3<m
    ·have hbi:(3:Int)<(m:Int):=by omega
     have hd:=HD.out;rw[if_pos (by have:=HMM.out;omega)]at hd;subst hd;have hz3:=hM3.row;have hlow:=hM3.low;go_upto_region 9 with fail;go_step;refine wpList_load_row (o:=⟨some _, .load 130 (.tmp 2),_,_,_,_⟩) rfl 130 (.tmp 2) rfl w.heap.size rfl 130 zeroA (0,0) _ hz3 Tryz.underlying130 rfl (by kernel_rfl) ?_;refine wpList_store_same (o:=⟨none, .store 130 (.tmp 2) (.tmp _),_,_,_,_⟩) rfl 130 (.tmp 2) _ rfl w.heap.size zeroA rfl rfl 130 hz3 (by kernel_rfl) (by decide+kernel) ?_;go_wp2_with fail;exact bodyPost_ret (results_row3 (fn:=Tryz.f83) (p:=2) (q:=3) (r:=4) (ty:=130) rfl _ _ w.heap.size 130 zeroA (0,0) _ rfl hz3 Tryz.underlying130 rfl (by kernel_rfl)) rfl ⟨rfl,hlow⟩
    ·have hbi:¬(3:Int)<(m:Int):=by omega
     have hd:=HD.out;rw[if_neg (by have:=HMM.out;omega)]at hd;have HR:=Lib.hid hd;clear HD hd;obtain rfl|rfl|rfl|rfl:m=0∨m=1∨m=2∨m=3:=by omega
     all_goals
      simp only[Nat.reduceAdd,Int.cast_ofNat_Int,Int.ofNat_zero,Int.ofNat_one,Int.natCast_zero,Int.natCast_one];clear hbig hbi hml;go_wp2_with fail;go_loopw [8,9,10,11,12,13,48,53] (fun a8 _ _ _ _ _ a48 _ wr=>∃k a:Nat,k≤Q.length∧a48= .int .i64 k∧a8= .int .i64 a∧Hid (FourIn Q k a)∧FourM w Q wr) (fun _ _ _ _ _ _ a48 _ _=>Q.length-(intOf a48).toNat)
      case atStart=>exact⟨0,0,Nat.zero_le _,rfl,rfl, .inr ⟨by have:=HMM.out;omega,FourAt.start Q⟩,hM3⟩
      case round=>
       obtain⟨k,a,hk,rfl,rfl,HA,hMr⟩:=hrel;have hV:=hMr.lt;by_cases hkl:k<Q.length
       ·obtain⟨_,hA⟩:=HA.out.resolve_left (fun e=>by omega)
        have ck:=hMr.cell k hkl;have hki:(k:Int)<(Q.length:Int):=by omega
        have hA1:=hA.1;have ha:a≤16777215:=by
         have h2:256^k≤256^3:=Nat.pow_le_pow_right (by decide) (by have:=HMM.out;omega);have h3:(256:Nat)^3=16777216:=by decide
         omega
        have cn:=anum_any Q[k] wr hMr.env (by have:=HX.out _ (List.getElem_mem hkl);omega);obtain⟨x,hx⟩:∃x,Q[k]=x:=⟨_,rfl⟩;rw[hx]at ck cn;have HK:=Lib.hid hx;have HAA:=Lib.hid hA;clear hx HA hA;by_cases hk1:k+1<Q.length
        ·first|(exfalso;have:=HMM.out;omega)|skip
         all_goals
          first
           |(have hg:Q.length=1:=by have:=HMM.out;omega
             have hkb:((k:Int)==0)=false:=beq_eq_false_iff_ne.2 (by omega)
             have hkq:(k:Int)<1:=by omega
             clear hg)
           |(have hg:Q.length=2:=by have:=HMM.out;omega
             have hkb:((k:Int)==1)=false:=beq_eq_false_iff_ne.2 (by omega)
             have hkq:(k:Int)<2:=by omega
             clear hg)
           |(have hg:Q.length=3:=by have:=HMM.out;omega
             have hkb:((k:Int)==2)=false:=beq_eq_false_iff_ne.2 (by omega)
             have hkq:(k:Int)<3:=by omega
             clear hg)
           |(have hg:Q.length=4:=by have:=HMM.out;omega
             have hkb:((k:Int)==3)=false:=beq_eq_false_iff_ne.2 (by omega)
             have hkq:(k:Int)<4:=by omega
             clear hg)
          cases hn:numL x with
          |none=>
           have hr:=HR.out;rw[HAA.out.miss hkl (by rw[HK.out];exact hn)]at hr;simp only at hr;subst hr;rw[hn]at cn;simp only[cntV]at cn;clear HK HAA hn HR HX hA1;go_wp2_with fail;go_at_call 121;refine cn.mono ?_;rintro e w4 ⟨rfl,hb4⟩;have hM4:=hMr.calm hb4;have hz4:=hM4.row;have hlow4:=hM4.low;clear hM4 hMr hb4;go_upto_region 19 with fail;go_step;refine wpList_load_row (o:=⟨some _, .load 130 (.tmp 2),_,_,_,_⟩) rfl 130 (.tmp 2) rfl w.heap.size rfl 130 zeroA (0,0) _ hz4 Tryz.underlying130 rfl (by kernel_rfl) ?_;refine wpList_store_same (o:=⟨none, .store 130 (.tmp 2) (.tmp _),_,_,_,_⟩) rfl 130 (.tmp 2) _ rfl w.heap.size zeroA rfl rfl 130 hz4 (by kernel_rfl) (by decide+kernel) ?_;go_wp2_with fail;exact bodyPost_ret (results_row3 (fn:=Tryz.f83) (p:=2) (q:=3) (r:=4) (ty:=130) rfl _ _ w.heap.size 130 zeroA (0,0) _ rfl hz4 Tryz.underlying130 rfl (by kernel_rfl)) rfl ⟨rfl,hlow4⟩
          |some n=>
           rw[hn]at cn;simp only[cntV]at cn;by_cases hb:n<256
           ·have hN:=HAA.out.next hk1 (by rw[HK.out];exact hn) hb
            have ho:bits BinOp.or IntKind.i64 ((a:Int)*256) (n:Int)=((a*256+n:Nat):Int):=or_8 hb ha;generalize hA':a*256+n=A at*;have HN:Hid (FourIn Q (k+1) A):= .inr ⟨hk1,hN⟩;clear HK HAA hn hN hA' HR hA1;go_wp2_with fail;go_at_call 121;refine cn.mono ?_;rintro e w4 ⟨rfl,hb4⟩;have hM4:=hMr.calm hb4;clear hMr hb4 cn ck;go_wp2_with fail;go_roundw
            case rel=>first|exact⟨k+1,A,by omega,by go_num,rfl,HN,hM4⟩|((repeat apply Exists.intro);exact⟨⟨k+1,A,by omega,(by go_num:Value.int .i64 ((k:Int)+1)= .int .i64 ((k+1:Nat):Int)),rfl,HN,hM4⟩,rfl⟩)
            case measure=>simp[intOf];omega
           ·have hr:=HR.out
            rw[HAA.out.big hk1 (by rw[HK.out];exact hn) hb]at hr;simp only at hr;subst hr;clear HK HAA hn HR HX hA1;go_wp2_with fail;go_at_call 121;refine cn.mono ?_;rintro e w4 ⟨rfl,hb4⟩;have hM4:=hMr.calm hb4;have hz4:=hM4.row;have hlow4:=hM4.low;clear hM4 hMr hb4;go_upto_region 19 with fail;go_step;refine wpList_load_row (o:=⟨some _, .load 130 (.tmp 2),_,_,_,_⟩) rfl 130 (.tmp 2) rfl w.heap.size rfl 130 zeroA (0,0) _ hz4 Tryz.underlying130 rfl (by kernel_rfl) ?_;refine wpList_store_same (o:=⟨none, .store 130 (.tmp 2) (.tmp _),_,_,_,_⟩) rfl 130 (.tmp 2) _ rfl w.heap.size zeroA rfl rfl 130 hz4 (by kernel_rfl) (by decide+kernel) ?_;go_wp2_with fail;exact bodyPost_ret (results_row3 (fn:=Tryz.f83) (p:=2) (q:=3) (r:=4) (ty:=130) rfl _ _ w.heap.size 130 zeroA (0,0) _ rfl hz4 Tryz.underlying130 rfl (by kernel_rfl)) rfl ⟨rfl,hlow4⟩
        ·have hk2:k+1=Q.length:=by omega
         first
          |(have hg:Q.length=1:=by have:=HMM.out;omega
            have hkb:((k:Int)==0)=true:=beq_iff_eq.2 (by omega)
            have hkq:(k:Int)<1:=by omega
            clear hg)
          |(have hg:Q.length=2:=by have:=HMM.out;omega
            have hkb:((k:Int)==1)=true:=beq_iff_eq.2 (by omega)
            have hkq:(k:Int)<2:=by omega
            clear hg)
          |(have hg:Q.length=3:=by have:=HMM.out;omega
            have hkb:((k:Int)==2)=true:=beq_iff_eq.2 (by omega)
            have hkq:(k:Int)<3:=by omega
            clear hg)
          |(have hg:Q.length=4:=by have:=HMM.out;omega
            have hkb:((k:Int)==3)=true:=beq_iff_eq.2 (by omega)
            have hkq:(k:Int)<4:=by omega
            clear hg)
         cases hn:numL x with
         |none=>
          have hr:=HR.out;rw[HAA.out.miss hkl (by rw[HK.out];exact hn)]at hr;simp only at hr;subst hr;rw[hn]at cn;simp only[cntV]at cn;clear HK HAA hn HR HX hA1;go_wp2_with fail;go_at_call 121;refine cn.mono ?_;rintro e w4 ⟨rfl,hb4⟩;have hM4:=hMr.calm hb4;have hz4:=hM4.row;have hlow4:=hM4.low;clear hM4 hMr hb4;go_upto_region 19 with fail;go_step;refine wpList_load_row (o:=⟨some _, .load 130 (.tmp 2),_,_,_,_⟩) rfl 130 (.tmp 2) rfl w.heap.size rfl 130 zeroA (0,0) _ hz4 Tryz.underlying130 rfl (by kernel_rfl) ?_;refine wpList_store_same (o:=⟨none, .store 130 (.tmp 2) (.tmp _),_,_,_,_⟩) rfl 130 (.tmp 2) _ rfl w.heap.size zeroA rfl rfl 130 hz4 (by kernel_rfl) (by decide+kernel) ?_;go_wp2_with fail;exact bodyPost_ret (results_row3 (fn:=Tryz.f83) (p:=2) (q:=3) (r:=4) (ty:=130) rfl _ _ w.heap.size 130 zeroA (0,0) _ rfl hz4 Tryz.underlying130 rfl (by kernel_rfl)) rfl ⟨rfl,hlow4⟩
         |some n=>
          rw[hn]at cn;simp only[cntV]at cn;have hL:=HAA.out.last hk2 (by rw[HK.out];exact hn);by_cases hb:n<4294967296/256^k
          ·rw[if_pos hb]at hL
           first
            |(have hg:Q.length=4:=by have:=HMM.out;omega
              have hR:4294967296/256^k=256:=by rw[show k=3 by omega]
              have hB:a<16777216:=by have:=hA1;rw[show k=3 by omega]at this;exact this
              rw[hR]at hb
              try rw[hR]at hL
              have ho:bits BinOp.or IntKind.i64 ((a:Int)*256) (n:Int)=((a*256+n:Nat):Int):=or_8 hb ha
              have hA2:=lt_8 hB hb
              generalize hA':a*256+n=A at*
              clear hg hR hA')
            |(have hg:Q.length=3:=by have:=HMM.out;omega
              have hR:4294967296/256^k=65536:=by rw[show k=2 by omega]
              have hB:a<65536:=by have:=hA1;rw[show k=2 by omega]at this;exact this
              rw[hR]at hb
              try rw[hR]at hL
              have ho:bits BinOp.or IntKind.i64 ((a:Int)*65536) (n:Int)=((a*65536+n:Nat):Int):=or_16 hb ha
              have hA2:=lt_16 hB hb
              generalize hA':a*65536+n=A at*
              clear hg hR hA')
            |(have hg:Q.length=2:=by have:=HMM.out;omega
              have hR:4294967296/256^k=16777216:=by rw[show k=1 by omega]
              have hB:a<256:=by have:=hA1;rw[show k=1 by omega]at this;exact this
              rw[hR]at hb
              try rw[hR]at hL
              have ho:bits BinOp.or IntKind.i64 ((a:Int)*16777216) (n:Int)=((a*16777216+n:Nat):Int):=or_24 hb ha
              have hA2:=lt_24 hB hb
              generalize hA':a*16777216+n=A at*
              clear hg hR hA')
            |(have hg:Q.length=1:=by have:=HMM.out;omega
              have hR:4294967296/256^k=4294967296:=by rw[show k=0 by omega]
              have hB:a<1:=by have:=hA1;rw[show k=0 by omega]at this;exact this
              rw[hR]at hb
              try rw[hR]at hL
              have ho:bits BinOp.or IntKind.i64 ((a:Int)*4294967296) (n:Int)=((a*4294967296+n:Nat):Int):=or_32 hb ha
              have hA2:=lt_32 hB hb
              generalize hA':a*4294967296+n=A at*
              clear hg hR hA')
           all_goals
            have HN:Hid (FourIn Q (k+1) A):= .inl ⟨hk2,hA2,hL⟩;clear HK HAA hn hL HR hA1 hA2;go_wp2_with fail;go_at_call 121;refine cn.mono ?_;rintro e w4 ⟨rfl,hb4⟩;have hM4:=hMr.calm hb4;clear hMr hb4 cn ck;go_wp2_with fail;go_roundw
            case rel=>first|exact⟨k+1,A,by omega,by go_num,rfl,HN,hM4⟩|((repeat apply Exists.intro);exact⟨⟨k+1,A,by omega,(by go_num:Value.int .i64 ((k:Int)+1)= .int .i64 ((k+1:Nat):Int)),rfl,HN,hM4⟩,rfl⟩)
            case measure=>simp[intOf];omega
          ·rw[if_neg hb]at hL
           have hr:=HR.out;rw[hL]at hr;simp only at hr;subst hr
           first
            |(have hg:Q.length=4:=by have:=HMM.out;omega
              have hR:4294967296/256^k=256:=by rw[show k=3 by omega]
              have hB:a<16777216:=by have:=hA1;rw[show k=3 by omega]at this;exact this
              rw[hR]at hb
              try rw[hR]at hL
              clear hg hR)
            |(have hg:Q.length=3:=by have:=HMM.out;omega
              have hR:4294967296/256^k=65536:=by rw[show k=2 by omega]
              have hB:a<65536:=by have:=hA1;rw[show k=2 by omega]at this;exact this
              rw[hR]at hb
              try rw[hR]at hL
              clear hg hR)
            |(have hg:Q.length=2:=by have:=HMM.out;omega
              have hR:4294967296/256^k=16777216:=by rw[show k=1 by omega]
              have hB:a<256:=by have:=hA1;rw[show k=1 by omega]at this;exact this
              rw[hR]at hb
              try rw[hR]at hL
              clear hg hR)
            |(have hg:Q.length=1:=by have:=HMM.out;omega
              have hR:4294967296/256^k=4294967296:=by rw[show k=0 by omega]
              have hB:a<1:=by have:=hA1;rw[show k=0 by omega]at this;exact this
              rw[hR]at hb
              try rw[hR]at hL
              clear hg hR)
           clear HK HAA hn hL HR HX hA1;go_wp2_with fail;go_at_call 121;refine cn.mono ?_;rintro e w4 ⟨rfl,hb4⟩;have hM4:=hMr.calm hb4;have hz4:=hM4.row;have hlow4:=hM4.low;clear hM4 hMr hb4;go_upto_region 19 with fail;go_step;refine wpList_load_row (o:=⟨some _, .load 130 (.tmp 2),_,_,_,_⟩) rfl 130 (.tmp 2) rfl w.heap.size rfl 130 zeroA (0,0) _ hz4 Tryz.underlying130 rfl (by kernel_rfl) ?_;refine wpList_store_same (o:=⟨none, .store 130 (.tmp 2) (.tmp _),_,_,_,_⟩) rfl 130 (.tmp 2) _ rfl w.heap.size zeroA rfl rfl 130 hz4 (by kernel_rfl) (by decide+kernel) ?_;go_wp2_with fail;exact bodyPost_ret (results_row3 (fn:=Tryz.f83) (p:=2) (q:=3) (r:=4) (ty:=130) rfl _ _ w.heap.size 130 zeroA (0,0) _ rfl hz4 Tryz.underlying130 rfl (by kernel_rfl)) rfl ⟨rfl,hlow4⟩
       ·obtain⟨_,hA2,hev⟩:=HA.out.resolve_right (fun e=>by omega)
        have hr:=HR.out;rw[hev]at hr;simp only at hr;subst hr;have hz6:=hMr.row;have hlow:=hMr.low;have hkn:k=Q.length:=by omega
        first
         |(have hg:Q.length=1:=by have:=HMM.out;omega
           have hkq:¬(k:Int)<1:=by omega
           clear hg)
         |(have hg:Q.length=2:=by have:=HMM.out;omega
           have hkq:¬(k:Int)<2:=by omega
           clear hg)
         |(have hg:Q.length=3:=by have:=HMM.out;omega
           have hkq:¬(k:Int)<3:=by omega
           clear hg)
         |(have hg:Q.length=4:=by have:=HMM.out;omega
           have hkq:¬(k:Int)<4:=by omega
           clear hg)
        clear hkn hev HA hMr HR;go_wp2_with fail;have e1:wr.cell? ⟨w.heap.size,1,none⟩=some (.int .u8 0):=by rw[cell_of_row _ _ _ _ _ _ hz6];rfl
        have e2:wr.cell? ⟨w.heap.size,2,none⟩=some (.int .u8 0):=by rw[cell_of_row _ _ _ _ _ _ hz6];rfl
        have e3:wr.cell? ⟨w.heap.size,3,none⟩=some (.int .u8 0):=by rw[cell_of_row _ _ _ _ _ _ hz6];rfl
        have e4:wr.cell? ⟨w.heap.size,4,none⟩=some (.int .u8 0):=by rw[cell_of_row _ _ _ _ _ _ hz6];rfl
        have f1:wr.frozen? ⟨w.heap.size,1,none⟩=false:=frozen_of_row _ _ _ _ _ hz6;have f2:wr.frozen? ⟨w.heap.size,2,none⟩=false:=frozen_of_row _ _ _ _ _ hz6;have f3:wr.frozen? ⟨w.heap.size,3,none⟩=false:=frozen_of_row _ _ _ _ _ hz6;have f4:wr.frozen? ⟨w.heap.size,4,none⟩=false:=frozen_of_row _ _ _ _ _ hz6;refine wp_loop_rounds 5 ?_;rw[rounds_succ];go_wp2_with fail;rw[rounds_succ];go_wp2_with fail;rw[rounds_succ];go_wp2_with fail;rw[rounds_succ];go_wp2_with fail;rw[rounds_succ];go_upto_region 27 with fail;have hzf:=heap_setCell_same _ w.heap.size 4 _ _ (.int .u8 ((a:Int) % 256)) (heap_setCell_same _ w.heap.size 3 _ _ (.int .u8 ((a:Int)/256 % 256)) (heap_setCell_same _ w.heap.size 2 _ _ (.int .u8 ((a:Int)/65536 % 256)) (heap_setCell_same _ w.heap.size 1 _ _ (.int .u8 ((a:Int)/16777216)) hz6)));have hbf:=(((hlow.setCell (p:=⟨w.heap.size,1,none⟩) (Nat.le_refl _) (.int .u8 ((a:Int)/16777216))).setCell (p:=⟨w.heap.size,2,none⟩) (Nat.le_refl _) (.int .u8 ((a:Int)/65536 % 256))).setCell (p:=⟨w.heap.size,3,none⟩) (Nat.le_refl _) (.int .u8 ((a:Int)/256 % 256))).setCell (p:=⟨w.heap.size,4,none⟩) (Nat.le_refl _) (.int .u8 ((a:Int) % 256));have hzf:_=some (Obj.cells #[.bool false, .int .u8 ((a:Int)/16777216), .int .u8 ((a:Int)/65536 % 256), .int .u8 ((a:Int)/256 % 256), .int .u8 ((a:Int) % 256), .int .u8 0, .int .u8 0, .int .u8 0, .int .u8 0, .int .u8 0, .int .u8 0, .int .u8 0, .int .u8 0, .int .u8 0, .int .u8 0, .int .u8 0, .int .u8 0] 130 (0,0)):=hzf;go_step;refine wpList_load_row (o:=⟨some _, .load 130 (.tmp 2),_,_,_,_⟩) rfl 130 (.tmp 2) rfl w.heap.size rfl 130 #[.bool false, .int .u8 ((a:Int)/16777216), .int .u8 ((a:Int)/65536 % 256), .int .u8 ((a:Int)/256 % 256), .int .u8 ((a:Int) % 256), .int .u8 0, .int .u8 0, .int .u8 0, .int .u8 0, .int .u8 0, .int .u8 0, .int .u8 0, .int .u8 0, .int .u8 0, .int .u8 0, .int .u8 0, .int .u8 0] (0,0) _ hzf Tryz.underlying130 rfl (by kernel_rfl) ?_;refine wpList_store_same (o:=⟨none, .store 130 (.tmp 2) (.tmp _),_,_,_,_⟩) rfl 130 (.tmp 2) _ rfl w.heap.size #[.bool false, .int .u8 ((a:Int)/16777216), .int .u8 ((a:Int)/65536 % 256), .int .u8 ((a:Int)/256 % 256), .int .u8 ((a:Int) % 256), .int .u8 0, .int .u8 0, .int .u8 0, .int .u8 0, .int .u8 0, .int .u8 0, .int .u8 0, .int .u8 0, .int .u8 0, .int .u8 0, .int .u8 0, .int .u8 0] rfl rfl 130 hzf (by kernel_rfl) (by simp[Value.oneCell']) ?_;go_wp2_with fail;refine bodyPost_ret (results_row3 (fn:=Tryz.f83) (p:=2) (q:=3) (r:=4) (ty:=130) rfl _ _ w.heap.size 130 #[.bool false, .int .u8 ((a:Int)/16777216), .int .u8 ((a:Int)/65536 % 256), .int .u8 ((a:Int)/256 % 256), .int .u8 ((a:Int) % 256), .int .u8 0, .int .u8 0, .int .u8 0, .int .u8 0, .int .u8 0, .int .u8 0, .int .u8 0, .int .u8 0, .int .u8 0, .int .u8 0, .int .u8 0, .int .u8 0] (0,0) _ rfl hzf Tryz.underlying130 rfl (by kernel_rfl)) rfl ⟨?_,hbf⟩;simp[fourV,addrV];omega
end Go.Proofs.YtpkoodnbkffpoaaGreatDoor
