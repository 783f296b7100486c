/- The walk of the reference's foul. -/
import Derived.Test.YtlcnknlmdaochaaGreatDoorGHP
import Derived.Test.YtlcnknlmdaochaaGreatDoorGRSix
import Derived.Test.YtlcnknlmdaochaaGreatDoorGRText
set_option linter.unusedVariables false
set_option linter.unusedSimpArgs false
set_option maxHeartbeats 16000000
namespace Go.Proofs.YtlcnknlmdaochaaGreatDoor
open Go.RowKit
theorem foul_iff (c:UInt8):foulB c=true↔(c.toNat≤32∨c.toNat=127∨c.toNat=35∨c.toNat=37∨c.toNat=47∨c.toNat=58∨c.toNat=60∨c.toNat=62∨c.toNat=63∨c.toNat=64∨c.toNat=91∨c.toNat=92∨c.toNat=93∨c.toNat=94∨c.toNat=124):=by
 have e:∀k:UInt8,(c=k↔c.toNat=k.toNat):=fun k=>UInt8.toNat_inj.symm
 simp[foulB,foulS,e]
set_option maxRecDepth 100000 in
theorem rfoul_any (c:UInt8) (w:World):
 Calls Tryz.prog 214 #[.int .u8 (c.toNat:Int)] w fun e w'=>e= .returned (.bool (foulB c))∧w=w':=by
 have hl:=c.toNat_lt
 by_cases h:foulB c=true
 ·have HF:Hid (foulB c=true):=h
  have hh:=(foul_iff c).1 h;clear h;generalize foulB c=fb at*;generalize c.toNat=n at*;rcases hh with hh|hh|hh|hh|hh|hh|hh|hh|hh|hh|hh|hh|hh|hh|hh
  ·have h1:(n:Int)≤32:=by omega
   go_enter Tryz.func214,Tryz.ntmps214;go_wp2_with fail;go_ret;exact⟨by rw[HF.out];rfl,rfl⟩
  all_goals
   subst hh;go_enter Tryz.func214,Tryz.ntmps214;go_wp2_with fail;go_ret;exact⟨by rw[HF.out];rfl,rfl⟩
 ·have hb:foulB c=false:=by simpa using h
  have HF:=Lib.hid hb;have hh:=mt (foul_iff c).2 h;simp only[not_or]at hh;have h1:33≤c.toNat:=by omega
  have h2:((c.toNat:Int)==127)=false:=beq_eq_false_iff_ne.2 (by omega);have a1:((c.toNat:Int)==35)=false:=beq_eq_false_iff_ne.2 (by omega);have a2:((c.toNat:Int)==37)=false:=beq_eq_false_iff_ne.2 (by omega);have a3:((c.toNat:Int)==47)=false:=beq_eq_false_iff_ne.2 (by omega);have a4:((c.toNat:Int)==58)=false:=beq_eq_false_iff_ne.2 (by omega);have a5:((c.toNat:Int)==60)=false:=beq_eq_false_iff_ne.2 (by omega);have a6:((c.toNat:Int)==62)=false:=beq_eq_false_iff_ne.2 (by omega);have a7:((c.toNat:Int)==63)=false:=beq_eq_false_iff_ne.2 (by omega);have a8:((c.toNat:Int)==64)=false:=beq_eq_false_iff_ne.2 (by omega);have a9:((c.toNat:Int)==91)=false:=beq_eq_false_iff_ne.2 (by omega);have b1:((c.toNat:Int)==92)=false:=beq_eq_false_iff_ne.2 (by omega);have b2:((c.toNat:Int)==93)=false:=beq_eq_false_iff_ne.2 (by omega);have b3:((c.toNat:Int)==94)=false:=beq_eq_false_iff_ne.2 (by omega);have b4:((c.toNat:Int)==124)=false:=beq_eq_false_iff_ne.2 (by omega);clear hh h hb;generalize foulB c=fb at*;generalize c.toNat=n at*;go_enter Tryz.func214,Tryz.ntmps214;go_wp2_with fail;go_ret;exact⟨by rw[HF.out];rfl,rfl⟩
attribute [local go_sem] ba_append
theorem last_shut {s:List UInt8} (h0:s.head?=some 91) (hl:s.length-1<s.length):s[s.length-1]=93↔shutB s.tail=true:=by
 match s,h0 with
 |[x],h0=>
  simp at h0;subst h0;simp[shutB]
 |x::y::t,h0=>
  unfold shutB;rw[List.tail_cons,beq_iff_eq,List.getLast?_eq_getElem?];simp only[List.length_cons,Nat.add_sub_cancel];rw[List.getElem?_eq_getElem (by simp)];simp
theorem mid_shut {s:List UInt8} (h0:s.head?=some 91) (h:shutB s.tail=true):2≤s.length∧(s.take (s.length-1)).drop 1=s.tail.dropLast:=by
 match s,h0 with
 |[x],h0=>simp[shutB]at h
 |x::y::t,h0=>
  refine⟨by simp, ?_⟩;rw[List.dropLast_eq_take,List.drop_take];simp
set_option maxRecDepth 100000 in
theorem rhost_in (s:List UInt8) (w:World) (hs:s.length≤65536) (h0:s.head?=some 91):
 Calls Tryz.prog 157 #[.string ⟨s.toArray⟩] w fun e w'=>e= .returned (optV (hostL s))∧Below w.heap.size w w':=by
 have hne:s≠[]:=by rintro rfl;cases h0
 have h0b:=beq_ne hne
 have h0e:=isEmpty_ne hne
 have hlen:0<s.length:=List.length_pos_iff.2 hne
 have hx:s[0]=91:=by
  rw[List.head?_eq_getElem?,List.getElem?_eq_getElem hlen]at h0;exact Option.some.inj h0
 have HR:Hid (hostL s=inL s.tail):=by show _=_;unfold hostL;rw[if_pos h0]
 have hls:=last_shut h0 (by omega)
 cases hsh:shutB s.tail with
 |false=>
  have HI:Hid (hostL s=none):=by
   show _=_;rw[HR.out];unfold inL;rw[if_neg];intro h;unfold shutB at hsh;rw[h]at hsh;cases hsh
  have hlx:s[s.length-1]'(by omega)≠93:=fun h=>by rw[hls.1 h]at hsh;cases hsh
  have hli:(((s[s.length-1]'(by omega)).toNat:Int) !=93)=true:=by
   have:(s[s.length-1]'(by omega)).toNat≠93:=fun h=>hlx (UInt8.toNat_inj.1 h)
   simp;omega
  have hxi:(((s[0]).toNat:Int)==91)=true:=by rw[hx];rfl
  have tl:((s.length:Int)-1).toNat=s.length-1:=by omega
  clear hls hsh HR hlx h0;go_enter Tryz.func157,Tryz.ntmps157;go_wp2_with fail;go_ret2;exact⟨by rw[HI.out];rfl,Below.refl _ _⟩
 |true=>
  obtain⟨h2,hmid⟩:=mid_shut h0 hsh;have hlx:s[s.length-1]'(by omega)=93:=hls.2 hsh;have hli:(((s[s.length-1]'(by omega)).toNat:Int) !=93)=false:=by rw[hlx];rfl
  have hxi:(((s[0]).toNat:Int)==91)=true:=by rw[hx];rfl
  have tl:((s.length:Int)-1).toNat=s.length-1:=by omega
  have hmx:max 1 ((s.length:Int)-1)=(s.length:Int)-1:=by omega
  have HJ:Hid (hostL s=match sixL s.tail.dropLast with|none=>none|some b=>some (91::text6 (pairsN b)++[93])):=by
   show _=_;unfold shutB at hsh;rw[HR.out];unfold inL;rw[if_pos (beq_iff_eq.1 hsh)];rfl
  have hul:s.tail.dropLast.length≤65536:=by simp;omega
  have c6:=fun W=>rsix_any s.tail.dropLast W (by omega)
  have hmid2:List.take (s.length-1-1) s.tail=s.tail.dropLast:=by rw[←hmid,List.drop_take,List.drop_one]
  clear hls hsh HR hlx h0 hmid;generalize s.tail.dropLast=u at*
  cases h6:sixL u with
  |none=>
   have HI:Hid (hostL s=none):=by show _=_;rw[HJ.out,h6]
   rw[h6]at c6;unfold rsixV at c6;simp only at c6;clear h6 HJ;have hi:(Tryz.prog.info? 186).map (·.size)=some zeroA.size:=by kernel_rfl
   have hz:zeroA.size=zeroA.size:=rfl;have h1:zeroA.all (·.oneCell')=true:=by decide+kernel
   go_enter Tryz.func157,Tryz.ntmps157;go_wp2_with fail;go_at_call 210;refine(c6 _).mono ?_;rintro e w1 ⟨rfl,hb1⟩;have hb2:Below w.heap.size w (w1.alloc (.cells zeroA 186)):=hb1.alloc hb1.size _;go_wp2_with(refine wpList_store_row (o:=⟨none, .store 186 (.tmp 4) (.tmp 39),_,_,_,_⟩) rfl 186 (.tmp 4) _ rfl w1.heap.size zeroA rfl rfl 186 zeroA (heap_alloc_new w1 _) hi hz h1 ?_);go_ret2;exact⟨by rw[HI.out];rfl,hb2⟩
  |some b=>
   have HI:Hid (hostL s=some (91::text6 (pairsN b)++[93])):=by show _=_;rw[HJ.out,h6]
   rw[h6]at c6;unfold rsixV at c6;simp only at c6;have hB:=sixL_len h6;have hi:=adC_info true hB;have hz:=zeroA_size true hB;have h1:=adC_one true b;have ct:=fun W=>rtext_six b hB W
   have htl6:=text6_le b hB;clear h6 HJ;generalize text6 (pairsN b)=T at*;go_enter Tryz.func157,Tryz.ntmps157;go_wp2_with fail;go_at_call 210;refine(c6 _).mono ?_;rintro e w1 ⟨rfl,hb1⟩;have hh:((w1.alloc (.cells zeroA 186)).setRow w1.heap.size (adC true b)).heap[w1.heap.size]?=some (.cells (adC true b) 186 (0,0)):=setRow_heap _ _ _ _ _ _ (heap_alloc_new w1 _);have hb2:Below w.heap.size w ((w1.alloc (.cells zeroA 186)).setRow w1.heap.size (adC true b)):=below_row (hb1.alloc hb1.size _) hb1.size _;go_wp2_with(first|(refine wpList_store_row (o:=⟨none, .store 186 (.tmp 4) (.tmp 39),_,_,_,_⟩) rfl 186 (.tmp 4) _ rfl w1.heap.size (adC true b) rfl rfl 186 zeroA (heap_alloc_new w1 _) hi hz h1 ?_)|(refine wpList_load_row (o:=⟨some 43, .load 186 (.tmp 4),_,_,_,_⟩) rfl 186 (.tmp 4) rfl w1.heap.size rfl 186 (adC true b) (0,0) _ hh Tryz.underlying186 rfl hi ?_)|(go_at_call 211;refine(ct _).mono ?_;rintro e w3 ⟨rfl,hb3⟩));go_ret2;exact⟨by rw[HI.out];simp[optV],hb2.trans (hb3.mono hb2.size)⟩
end Go.Proofs.YtlcnknlmdaochaaGreatDoor
namespace Go.Proofs.YtlcnknlmdaochaaGreatDoor
def tailJ:Bool→List (List UInt8)→List UInt8
 |true,l=>joinL 46 l
 |false,l=>l.flatMap (46::·)
theorem joinL_flat:∀(p:List UInt8) (l:List (List UInt8)),joinL 46 (p::l)=p++l.flatMap (46::·)
 |p,[]=>by simp[joinL]
 |p,q::l=>by rw[joinL_cons (by simp),joinL_flat q l,List.flatMap_cons];simp
def sepL (first:Bool):List UInt8:=if first then []else [46]
theorem tailJ_cons (first:Bool) (p:List UInt8) (l:List (List UInt8)):tailJ first (p::l)=sepL first++p++tailJ false l:=by
 cases first
 ·simp[tailJ,sepL]
 ·simp[tailJ,sepL,joinL_flat]
theorem tailJ_nil (first:Bool):tailJ first []=[]:=by cases first<;>rfl
def nameF:List UInt8→Bool→List (List UInt8)→Option (List UInt8)
 |acc,_,[]=>some acc
 |acc,first,x::l=>if (labelL x).2≠0 then none
  else if 253<(acc++sepL first++(labelL x).1).length then none
  else nameF (acc++sepL first++(labelL x).1) false l
theorem nameF_eq:∀(l:List (List UInt8)) (acc:List UInt8) (first:Bool),acc.length≤253→nameF acc first l=match labelsM l with
  |none=>none
  |some r=>if 253<(acc++tailJ first r).length then none else some (acc++tailJ first r)
 |[],acc,first,h=>by simp only[nameF,labelsM,tailJ_nil,List.append_nil];rw[if_neg (by omega)]
 |x::l,acc,first,h=>by
  rw[nameF,labelsM_cons];by_cases h1:(labelL x).2≠0
  ·rw[if_pos h1,if_pos h1]
  ·rw[if_neg h1,if_neg h1]
   by_cases h2:253<(acc++sepL first++(labelL x).1).length
   ·rw[if_pos h2]
    cases labelsM l with
    |none=>rfl
    |some r=>
     simp only;rw[if_pos];rw[tailJ_cons];simp only[List.length_append]at h2⊢;omega
   ·rw[if_neg h2,nameF_eq l _ false (by omega)]
    cases labelsM l with
    |none=>rfl
    |some r=>simp only[tailJ_cons,List.append_assoc]
theorem host_name {s x:List UInt8} (h0:s.head?≠some 91) (h:nameF [] true (cutLast (partsL 46 (pctL s)))=some x):hostL s=if x.any foulB then none else fourT x:=by
 rw[nameF_eq _ _ _ (by simp)]at h;unfold hostL nameL;rw[if_neg h0]
 cases hl:labelsM (cutLast (partsL 46 (pctL s)))with
 |none=>rw[hl]at h;cases h
 |some r=>
  rw[hl]at h;replace h:(if 253<(joinL 46 r).length then none else some (joinL 46 r))=some x:=h;by_cases h2:253<(joinL 46 r).length
  ·rw[if_pos h2]at h;cases h
  ·rw[if_neg h2]at h
   injection h with h;subst h;simp only;unfold cleanL;rw[decide_eq_true (by omega),Bool.and_true]
   cases hf:(joinL 46 r).any foulB with
   |true=>simp
   |false=>simp
theorem host_none {s:List UInt8} (h0:s.head?≠some 91) (h:nameF [] true (cutLast (partsL 46 (pctL s)))=none):hostL s=none:=by
 rw[nameF_eq _ _ _ (by simp)]at h;unfold hostL nameL;rw[if_neg h0]
 cases hl:labelsM (cutLast (partsL 46 (pctL s)))with
 |none=>rfl
 |some r=>
  rw[hl]at h;replace h:(if 253<(joinL 46 r).length then none else some (joinL 46 r))=none:=h;by_cases h2:253<(joinL 46 r).length
  ·simp only
   unfold cleanL;rw[decide_eq_false (by omega),Bool.and_false,if_pos rfl]
  ·rw[if_neg h2]at h;cases h
end Go.Proofs.YtlcnknlmdaochaaGreatDoor
