/- The walks of suffix.read, suffix.may and suffix.Check. -/
import Derived.Test.YtlhcfmcbpljbiaaGreatDoorGSu1
import Derived.Test.YtlhcfmcbpljbiaaGreatDoorGTxt
import Derived.Test.YtlhcfmcbpljbiaaGreatDoorGInt
import Derived.Test.YtlhcfmcbpljbiaaGreatDoorGJoin
import Derived.RangeFuncNested
import Derived.RangeFuncBound
set_option linter.unusedVariables false
set_option linter.unusedSimpArgs false
set_option maxHeartbeats 16000000
namespace Go.Proofs.YtlhcfmcbpljbiaaGreatDoor
open Go.RowKit
theorem pref_except (s:List UInt8):Lib.hasPrefix s [33]=exceptB s:=by
 unfold Lib.hasPrefix exceptB
 cases s with
 |nil=>rfl
 |cons x s=>
  simp only[List.isPrefixOf,Bool.and_true,List.head?_cons];rw[Bool.eq_iff_iff,beq_iff_eq,beq_iff_eq];exact⟨fun h=>by rw[h],fun h=>(Option.some.inj h).symm⟩
theorem trim_bare (s:List UInt8):Lib.trimPrefix s [33]=bareL s:=by
 unfold Lib.trimPrefix bareL;rw[pref_except];have:s.drop 1=s.tail:=by cases s<;>rfl
 split
 ·exact this
 ·rfl
theorem cut_mark (s:List UInt8) (w:World):
 Calls Tryz.prog 162 #[.string ⟨s.toArray⟩, .string ⟨#[33]⟩] w fun e w'=>e= .returned (.tuple #[.string ⟨(bareL s).toArray⟩, .bool (exceptB s)])∧w=w':=by
 refine(Tryz.strings_CutPrefix ⟨s.toArray⟩ ⟨#[33]⟩ w).mono ?_
 rintro e w' ⟨rfl,rfl⟩
 refine⟨?_,rfl⟩
 rw[←trim_bare,←pref_except]
theorem trim_mark (s:List UInt8) (w:World):
 Calls Tryz.prog 120 #[.string ⟨s.toArray⟩, .string ⟨#[33]⟩] w fun e w'=>e= .returned (.string ⟨(bareL s).toArray⟩)∧w=w':=by
 refine(Tryz.strings_TrimPrefix ⟨s.toArray⟩ ⟨#[33]⟩ w).mono ?_
 rintro e w' ⟨rfl,rfl⟩
 refine⟨?_,rfl⟩
 rw[←trim_bare]
set_option maxRecDepth 100000 in
theorem sread_any (s:List UInt8) (w:World) (hE:w.ShapedOpen Tryz.prog) (hs:s.length≤4000000000):
 Calls Tryz.prog 119 #[.string ⟨s.toArray⟩] w fun e w'=>∃g,e= .returned (.agg #[.slice (some ⟨g,0,none⟩) (sufP s).length (sufP s).length, .bool (exceptB s)])∧Txt w' (.slice (some ⟨g,0,none⟩) (sufP s).length (sufP s).length) (sufP s)∧Below w.heap.size w w':=by
 have hb:=bareL_le s
 have cc:=cut_mark s
 go_enter Tryz.func119,Tryz.ntmps119
 go_wp2_with fail
 go_at_call 162
 refine(cc _).mono ?_
 rintro e w1 ⟨rfl,rfl⟩
 have hb1:=(Below.refl w.heap.size w).alloc (Nat.le_refl _) (.cells #[.slice none 0 0, .bool false] 153)
 have hsz:(w.alloc (.cells #[.slice none 0 0, .bool false] 153)).heap.size=w.heap.size+1:=World.size_alloc _ _
 have cs:=split_any (bareL s) 46 _ (shaped_below hE hb1) (by omega)
 rw[hsz]at cs
 generalize hX:bareL s=X at*
 go_wp2_with fail
 go_at_call 169
 refine cs.mono ?_
 rintro e w2 ⟨rfl,rfl⟩
 go_wp2_with fail
 have hg:(((w.alloc (.cells #[.slice (some ⟨w.heap.size+1,0,none⟩) (partsL 46 X).length (partsL 46 X).length, .bool (exceptB s)] 153)).alloc (.cells (strs (partsL 46 X)).toArray 9)).heap[w.heap.size]?:Option Obj)=some (.cells #[.slice (some ⟨w.heap.size+1,0,none⟩) (partsL 46 X).length (partsL 46 X).length, .bool (exceptB s)] 153 (0,0)):=heap_alloc2_old w _ _
 refine bodyPost_ret (results_cell_row (fn:=Tryz.f119) (p:=2) (ty:=153) rfl _ _ w.heap.size 153 _ (0,0) _ rfl hg Tryz.underlying153 rfl (by kernel_rfl)) rfl ?_
 have hP:sufP s=partsL 46 X:=by unfold sufP;rw[hX]
 rw[hP]
 have hsz2:(w.alloc (.cells #[.slice (some ⟨w.heap.size+1,0,none⟩) (partsL 46 X).length (partsL 46 X).length, .bool (exceptB s)] 153)).heap.size=w.heap.size+1:=World.size_alloc _ _
 refine⟨w.heap.size+1,rfl, .inr ⟨⟨w.heap.size+1,0,none⟩,_,rfl,Nat.le_refl _,fun _=> ?_,fun k hk=> ?_⟩,((Below.refl w.heap.size w).alloc (Nat.le_refl _) _).alloc (by rw[hsz2];omega) _⟩
 ·show w.heap.size+1<_
  rw[World.size_alloc,hsz2];omega
 ·rw[Addr.add_lit,Nat.zero_add,World.cell?_alloc_at _ _ _ _ (by rw[hsz2]),List.getElem?_toArray,strs_get hk]
def cutS:List UInt8:=[97,98,99,100,101,102,103,104,105,106,107,108,109,110,111,112,113,114,115,116,117,118,119,120,121,122,48,49,50,51,52,53,54,55,56,57,45]
theorem cutS_lab (c:UInt8):cutS.contains c=labB c:=by
 have key:∀v:Fin 256,cutS.contains (UInt8.ofNat v.val)=labB (UInt8.ofNat v.val):=by decide+kernel
 have:=key ⟨c.toNat,u8_lt c⟩;simpa using this
theorem trim_lab {x:List UInt8}:Lib.trimS x cutS=[]↔x.all labB=true:=by
 rw[trimS_nil,List.all_eq_true];simp only[cutS_lab]
set_option maxRecDepth 100000 in
theorem odd_any (x:List UInt8) (w:World) (hs:x.length≤140737488351232):
 Calls Tryz.prog 121 #[.string ⟨x.toArray⟩] w fun e w'=>e= .returned (.bool (oddB x))∧Below w.heap.size w w':=by
 have hm:oddB x=(x.isEmpty||(decide (63<x.length)|| !x.all labB)):=rfl
 have hbw:=Below.refl w.heap.size w
 by_cases h0:x=[]
 ·have h2:(x==[])=true:=by rw[h0];rfl
  have h1:oddB x=true:=by rw[h0];rfl
  have HM:=Lib.hid h1;clear hm h0 h1;go_enter Tryz.func121,Tryz.ntmps121;go_wp2_with fail;go_ret;exact⟨ret_bool (by rw[HM.out]),hbw⟩
 ·have h2:(x==[])=false:=beq_eq_false_iff_ne.2 h0
  have h1:x.isEmpty=false:=by cases x with
   |nil=>exact absurd rfl h0
   |cons c r=>rfl
  rw[h1,Bool.false_or]at hm;by_cases h63:63<x.length
  ·rw[decide_eq_true h63,Bool.true_or]at hm
   have h63i:(63:Int)<(x.length:Int):=by omega
   have HM:=Lib.hid hm;clear hm h0;go_enter Tryz.func121,Tryz.ntmps121;go_wp2_with fail;go_ret;exact⟨ret_bool (by rw[HM.out]),hbw⟩
  ·rw[decide_eq_false h63,Bool.false_or]at hm
   have h63i:¬(63:Int)<(x.length:Int):=by omega
   have ct:=lift_below w (fun W=>trim_any x cutS W hs (by decide) (by decide));have ht:=trim_lab (x:=x)
   cases ha:x.all labB with
   |true=>
    rw[ha]at hm;rw[ht.2 ha]at ct;have HM:=Lib.hid hm;clear hm h0 ht ha;go_enter Tryz.func121,Tryz.ntmps121;go_wp2_with fail;go_at_call 122;refine(ct _ hbw).mono ?_;rintro e w1 ⟨rfl,hb1⟩;go_wp2_with fail;go_ret;exact⟨ret_bool (by rw[HM.out];rfl),hb1⟩
   |false=>
    rw[ha]at hm;have hne:Lib.trimS x cutS≠[]:=fun e=>by rw[ht.1 e]at ha;cases ha
    generalize Lib.trimS x cutS=T at*;have hT:(T==[])=false:=beq_eq_false_iff_ne.2 hne;have HM:=Lib.hid hm;clear hm h0 ht ha hne;go_enter Tryz.func121,Tryz.ntmps121;go_wp2_with fail;go_at_call 122;refine(ct _ hbw).mono ?_;rintro e w1 ⟨rfl,hb1⟩;go_wp2_with fail;go_ret;exact⟨ret_bool (by rw[HM.out];rfl),hb1⟩
/-! ### A predicate over texts in a slice -/
set_option maxRecDepth 100000 in
theorem idxfunc_any (fn:FuncId) (hen:∀args W,(callFunc fn args).run Tryz.prog W= .ok (.enter fn args) W) (p:List UInt8→Bool) (L:List (List UInt8)) (v:Value) (w:World) (ht:Txt w v L) (hl:L.length≤140737488351232)
 (hf:∀x∈L,∀W,Below w.heap.size w W→Calls Tryz.prog fn #[.string ⟨x.toArray⟩] W fun e W'=>e= .returned (.bool (p x))∧Below w.heap.size w W'):
 Calls Tryz.prog 118 #[v, .func (.func fn) #[] #[]] w fun e w'=>∃r:Int,e= .returned (.int .i64 r)∧decide (0≤r)=L.any p∧Below w.heap.size w w':=by
 have hbw:=Below.refl w.heap.size w
 rcases ht with ⟨rfl,rfl⟩|⟨a,c,rfl,hc,hab,hcell⟩
 ·clear hf hen
  go_enter Tryz.func118,Tryz.ntmps118;go_wp2_with fail;go_loop [5,8] (fun _ i=>i= .int .i64 0) (fun _ _=>0)
  case atStart=>exact rfl
  case round=>
   obtain rfl:=hrel;go_wp2_with fail;go_ret;exact⟨-1,rfl,by simp,hbw⟩
 ·have HF:=Lib.hid hf
  have HC:=Lib.hid fun W (hW:Below w.heap.size w W) (k:Nat) (hk:k<L.length)=>(hW.cell (p:=a.add k) (by rw[Go.ChangeShapes.block_add];exact hab (by omega))).trans (hcell k hk)
  have HA:Hid (∀k,(∀(j:Nat) (h:j<L.length),j<k→p L[j]=false)→(L.take k).any p=false):=fun k h=>by
   rw[List.any_eq_false];intro x hx;obtain⟨j,hj,e⟩:=List.getElem_of_mem hx;rw[List.length_take]at hj;rw[←e,List.getElem_take,h j (by omega) (by omega)];simp
  clear hf hcell;go_enter Tryz.func118,Tryz.ntmps118;go_wp2_with fail;go_loopw [5,8] (fun _ i wr=>∃k:Nat,k≤L.length∧i= .int .i64 k∧Hid (∀(j:Nat) (h:j<L.length),j<k→p L[j]=false)∧Below w.heap.size w wr) (fun _ i _=>L.length-(intOf i).toNat)
  case atStart=>exact⟨0,Nat.zero_le _,rfl,Lib.hid (fun j _ h=>absurd h (by omega)),hbw⟩
  case round=>
   obtain⟨k,hk,rfl,HP,hbr⟩:=hrel;by_cases hlt:k<L.length
   ·have hck:=HC.out _ hbr k hlt
    have cf:=HF.out _ (List.getElem_mem hlt)
    cases hp:p L[k]with
    |true=>
     have hany:Hid (L.any p=true):=List.any_eq_true.2 ⟨_,List.getElem_mem hlt,hp⟩;rw[hp]at cf;clear hp HP;generalize L[k]=X at*;go_wp2_with fail;go_at_fn fn;refine(cf _ hbr).mono ?_;rintro e w1 ⟨rfl,hb1⟩;go_wp2_with fail;go_ret;exact⟨k,rfl,by rw[hany.out];simp,hb1⟩
    |false=>
     have HP2:Hid (∀(j:Nat) (h:j<L.length),j<k+1→p L[j]=false):=fun j h h1=>by
      by_cases hj:j<k
      ·exact HP.out j h hj
      ·obtain rfl:j=k:=by omega
       exact hp
     rw[hp]at cf;clear hp HP;generalize L[k]=X at*;go_wp2_with fail;go_at_fn fn;refine(cf _ hbr).mono ?_;rintro e w1 ⟨rfl,hb1⟩;go_wp2_with fail;go_roundw
     case rel=>exact⟨k+1,by omega,by go_num,HP2,hb1⟩
     case measure=>simp[intOf];omega
   ·obtain rfl:k=L.length:=by omega
    have hany:=HA.out L.length HP.out;rw[List.take_length]at hany;go_wp2_with fail;go_ret;exact⟨-1,rfl,by rw[hany];rfl,hbr⟩
set_option maxRecDepth 100000 in
theorem contains_any (fn:FuncId) (hen:∀args W,(callFunc fn args).run Tryz.prog W= .ok (.enter fn args) W) (p:List UInt8→Bool) (L:List (List UInt8)) (v:Value) (w:World) (ht:Txt w v L) (hl:L.length≤140737488351232)
 (hf:∀x∈L,∀W,Below w.heap.size w W→Calls Tryz.prog fn #[.string ⟨x.toArray⟩] W fun e W'=>e= .returned (.bool (p x))∧Below w.heap.size w W'):
 Calls Tryz.prog 82 #[v, .func (.func fn) #[] #[]] w fun e w'=>e= .returned (.bool (L.any p))∧Below w.heap.size w w':=by
 have ci:=idxfunc_any fn hen p L v w ht hl hf
 clear hf ht hen
 generalize L.any p=B at*
 go_enter Tryz.func82,Tryz.ntmps82
 go_wp2_with fail
 go_at_call 118
 refine ci.mono ?_
 rintro e w1 ⟨r,rfl,hr,hb1⟩
 go_wp2_with fail
 go_ret
 exact⟨ret_bool (by rw[←hr]),hb1⟩
theorem enters_odd:∀args W,(callFunc 121 args).run Tryz.prog W= .ok (.enter 121 args) W:=enters_of Tryz.func121 (by kernel_rfl) rfl
theorem enters_chk:∀args W,(callFunc 83 args).run Tryz.prog W= .ok (.enter 83 args) W:=enters_of Tryz.func83 (by kernel_rfl) rfl
set_option maxRecDepth 100000 in
theorem may_any (s:List UInt8) (w:World) (hE:w.ShapedOpen Tryz.prog) (hs:s.length≤4000000000):
 Calls Tryz.prog 84 #[.string ⟨s.toArray⟩] w fun e w'=>e= .returned (.bool (mayL s))∧Below w.heap.size w w':=by
 have cr:=sread_any s w hE hs
 have ct:=trim_mark s
 have hP:=sufP_le s
 have hbl:=bareL_le s
 have hne:=List.length_pos_iff.2 (sufP_ne s)
 have hm:mayL s=(!(exceptB s&&decide ((sufP s).length<2))&&(decide (restN s≤253)&& !(restP s).any oddB)):=rfl
 by_cases hx2:exceptB s=true∧(sufP s).length<2
 ·obtain⟨hx,h2⟩:=hx2
  rw[hx,decide_eq_true h2]at hm;rw[hx]at cr;have h2i:((sufP s).length:Int)<2:=by omega
  have HM:=Lib.hid hm;clear hm;generalize sufP s=P at*;generalize bareL s=X at*;go_enter Tryz.func84,Tryz.ntmps84;go_wp2_with fail;go_at_call 119;refine cr.mono ?_;rintro e w1 ⟨g,rfl,ht,hb1⟩;have hb2:=hb1.alloc hb1.size (.cells #[.slice (some ⟨g,0,none⟩) P.length P.length, .bool true] 153);go_wp2_with fail;go_at_call 120;refine(ct _).mono ?_;rintro e w2 ⟨rfl,rfl⟩;go_wp2_with fail;go_ret;exact⟨ret_bool (by rw[HM.out];rfl),hb2⟩
 ·have hx3:(exceptB s&&decide ((sufP s).length<2))=false:=by
   cases hx:exceptB s with
    |false=>rfl
    |true=>rw[Bool.true_and,decide_eq_false (fun h=>hx2 ⟨hx,h⟩)]
  rw[hx3,Bool.not_false,Bool.true_and]at hm
  cases hst:starB s with
  |false=>
   have hrp:restP s=sufP s:=by unfold restP;rw[if_neg (by rw[hst];simp)]
   have hrn:restN s=(bareL s).length:=by unfold restN;rw[if_neg (by rw[hst];simp)];rfl
   rw[hrp,hrn]at hm;have hway:(exceptB s=true∧¬((sufP s).length:Int)<2)∨(exceptB s=false∧¬(1:Int)<((sufP s).length:Int))∨(exceptB s=false∧(1:Int)<((sufP s).length:Int)∧((sufP s)[0]==[42])=false):=by
    cases hx:exceptB s with
    |true=>exact .inl ⟨rfl,fun h=>hx2 ⟨hx,by omega⟩⟩
    |false=>
     right;by_cases h1:1<(sufP s).length
     ·refine .inr ⟨rfl,by omega, ?_⟩
      unfold starB at hst;rw[hx,decide_eq_true h1]at hst;rw[List.head?_eq_getElem?,List.getElem?_eq_getElem hne]at hst;rw[beq_eq_false_iff_ne];intro e;rw[e]at hst;simp at hst
     ·exact .inl ⟨rfl,by omega⟩
   clear hst hrp hrn hx3 hx2;have hodd:∀w3,∀x∈sufP s,∀W,Below w3.heap.size w3 W→Calls Tryz.prog 121 #[.string ⟨x.toArray⟩] W fun e W'=>e= .returned (.bool (oddB x))∧Below w3.heap.size w3 W':=fun w3 x hx=>lift_below w3 (fun W=>odd_any x W (by have:=hP.1 x hx;omega))
   generalize hPP:sufP s=P at*;generalize bareL s=X at*;generalize exceptB s=E at*;have hany:=contains_any 121 enters_odd oddB P;generalize P.any oddB=A at*;by_cases h253:X.length≤253
   ·rw[decide_eq_true h253]at hm
    have h253i:(X.length:Int)≤253:=by omega
    have HM:=Lib.hid hm;clear hm;rcases hway with ⟨rfl,hw1⟩|⟨rfl,hw1⟩|⟨rfl,hw1,hw2⟩
    all_goals
     go_enter Tryz.func84,Tryz.ntmps84;go_wp2_with fail;go_at_call 119;refine cr.mono ?_;rintro e w1 ⟨g,rfl,ht,hb1⟩;have hb2:=fun b:Bool=>hb1.alloc hb1.size (.cells #[.slice (some ⟨g,0,none⟩) P.length P.length, .bool b] 153)
     have hbw:=fun b:Bool=>(Below.refl w1.heap.size w1).alloc (Nat.le_refl _) (.cells #[.slice (some ⟨g,0,none⟩) P.length P.length, .bool b] 153)
     have hc0:=fun W hW=>(txt_cell ht hne).2.2.2 W hW 0 hne
     have hc1:=fun b=>hc0 _ (hbw b)
     simp only[Nat.zero_add]at hc1;have ca:=fun b=>hany (.slice (some ⟨g,0,none⟩) P.length P.length) _ (ht.below (hbw b) (Nat.le_refl _)) (by omega) (hodd _)
     generalize hQ:P[0]=Q at*;clear hodd hany hc0 cr;go_wp2_with fail;go_at_call 120;refine(ct _).mono ?_;rintro e w2 ⟨rfl,rfl⟩;go_wp2_with fail;go_at_call 82;refine(ca _).mono ?_;rintro e w3 ⟨rfl,hb3⟩;go_wp2_with fail;go_ret;exact⟨ret_bool (by rw[HM.out];rfl),(hb2 _).trans (hb3.mono (hb2 _).size)⟩
   ·rw[decide_eq_false h253]at hm
    have h253i:¬(X.length:Int)≤253:=by omega
    have HM:=Lib.hid hm;clear hm;rcases hway with ⟨rfl,hw1⟩|⟨rfl,hw1⟩|⟨rfl,hw1,hw2⟩
    all_goals
     go_enter Tryz.func84,Tryz.ntmps84;go_wp2_with fail;go_at_call 119;refine cr.mono ?_;rintro e w1 ⟨g,rfl,ht,hb1⟩;have hb2:=fun b:Bool=>hb1.alloc hb1.size (.cells #[.slice (some ⟨g,0,none⟩) P.length P.length, .bool b] 153)
     have hbw:=fun b:Bool=>(Below.refl w1.heap.size w1).alloc (Nat.le_refl _) (.cells #[.slice (some ⟨g,0,none⟩) P.length P.length, .bool b] 153)
     have hc0:=fun W hW=>(txt_cell ht hne).2.2.2 W hW 0 hne
     have hc1:=fun b=>hc0 _ (hbw b)
     simp only[Nat.zero_add]at hc1;generalize hQ:P[0]=Q at*;clear hodd hany hc0 cr;go_wp2_with fail;go_at_call 120;refine(ct _).mono ?_;rintro e w2 ⟨rfl,rfl⟩;go_wp2_with fail;go_ret;exact⟨ret_bool (by rw[HM.out];rfl),hb2 _⟩
  |true=>
   obtain⟨hx,h1,l,hl,hlne,hsl⟩:=star_bare hst;have hrp:restP s=l:=by unfold restP;rw[if_pos hst,hl];rfl
   have hbe:bareL s=42::46::joinL 46 l:=by unfold bareL;rw[if_neg (by rw[hx];simp),←hsl]
   have hrn:restN s=(joinL 46 l).length:=by unfold restN;rw[if_pos hst,hbe];simp
   rw[hrp,hrn]at hm;have hodd:∀w3,∀x∈l,∀W,Below w3.heap.size w3 W→Calls Tryz.prog 121 #[.string ⟨x.toArray⟩] W fun e W'=>e= .returned (.bool (oddB x))∧Below w3.heap.size w3 W':=fun w3 x hx=>lift_below w3 (fun W=>odd_any x W (by have:=hP.1 x (by rw[hl];exact List.mem_cons_of_mem _ hx);omega))
   rw[hx,hl]at cr;rw[hbe]at ct hbl;rw[hl]at h1;have h1i:(1:Int)<((([42]:List UInt8)::l).length:Int):=by omega
   have hany:=contains_any 121 enters_odd oddB l;have hll:(([42]:List UInt8)::l).length=l.length+1:=rfl;rw[hll]at cr h1i;have hl1:l.length≤4000000001:=by have:=hP.2;rw[hl,hll]at this;omega
   clear hst hrp hrn hx hx2 hx3 hbe hsl hP hne;generalize joinL 46 l=J at*;generalize l.any oddB=A at*;by_cases h253:J.length≤253
   ·rw[decide_eq_true h253]at hm
    have h253i:(J.length:Int)≤253:=by omega
    have HM:=Lib.hid hm;clear hm;go_enter Tryz.func84,Tryz.ntmps84;go_wp2_with fail;go_at_call 119;refine cr.mono ?_;rintro e w1 ⟨g,rfl,ht,hb1⟩;have htl:=txt_tail ht;have hc0:=fun W hW=>(txt_cell ht (by simp)).2.2.2 W hW 0 (by simp)
    simp only[Nat.zero_add,List.getElem_cons_zero]at hc0;have hbw:=(Below.refl w1.heap.size w1).alloc (Nat.le_refl _) (.cells #[.slice (some ⟨g,0,none⟩) (l.length+1) (l.length+1), .bool false] 153);have hc1:=hc0 _ hbw;clear hc0;go_wp2_with fail;go_at_call 120;refine(ct _).mono ?_;rintro e w2 ⟨rfl,rfl⟩;go_wp2_with fail;go_at_call 82;rw[Nat.add_sub_cancel]at htl;have hb2:=hb1.alloc hb1.size (.cells #[.slice (some ⟨g,1,none⟩) l.length l.length, .bool false] 153);have hbw2:=(Below.refl w1.heap.size w1).alloc (Nat.le_refl _) (.cells #[.slice (some ⟨g,1,none⟩) l.length l.length, .bool false] 153);refine(hany _ _ (htl.below hbw2 (Nat.le_refl _)) (by omega) (hodd _)).mono ?_;rintro e w3 ⟨rfl,hb3⟩;go_wp2_with fail;go_ret;exact⟨ret_bool (by rw[HM.out];rfl),hb2.trans (hb3.mono hb2.size)⟩
   ·rw[decide_eq_false h253]at hm
    have h253i:¬(J.length:Int)≤253:=by omega
    have HM:=Lib.hid hm;clear hm;go_enter Tryz.func84,Tryz.ntmps84;go_wp2_with fail;go_at_call 119;refine cr.mono ?_;rintro e w1 ⟨g,rfl,ht,hb1⟩;have htl:=txt_tail ht;have hc0:=fun W hW=>(txt_cell ht (by simp)).2.2.2 W hW 0 (by simp)
    simp only[Nat.zero_add,List.getElem_cons_zero]at hc0;have hbw:=(Below.refl w1.heap.size w1).alloc (Nat.le_refl _) (.cells #[.slice (some ⟨g,0,none⟩) (l.length+1) (l.length+1), .bool false] 153);have hc1:=hc0 _ hbw;clear hc0;go_wp2_with fail;go_at_call 120;refine(ct _).mono ?_;rintro e w2 ⟨rfl,rfl⟩;go_wp2_with fail;have hb2:=hb1.alloc hb1.size (.cells #[.slice (some ⟨g,1,none⟩) l.length l.length, .bool false] 153);go_ret;exact⟨ret_bool (by rw[HM.out];rfl),hb2⟩
theorem chk_any (s:List UInt8) (w:World) (hE:w.ShapedOpen Tryz.prog) (hs:s.length≤4000000000):
 Calls Tryz.prog 83 #[.string ⟨s.toArray⟩] w fun e w'=>e= .returned (.bool (!mayL s))∧Below w.heap.size w w':=by
 have cm:=may_any s w hE hs
 generalize mayL s=M at*
 go_enter Tryz.func83,Tryz.ntmps83
 go_wp2_with fail
 go_at_call 84
 refine cm.mono ?_
 rintro e w1 ⟨rfl,hb1⟩
 go_wp2_with fail
 go_ret
 exact⟨rfl,hb1⟩
theorem check_any (L:List (List UInt8)) (v:Value) (w:World) (hE:w.ShapedOpen Tryz.prog) (ht:Txt w v L) (hl:L.length≤140737488351232) (hs:∀p∈L,p.length≤4000000000):
 Calls Tryz.prog 39 #[v] w fun e w'=>e= .returned (.bool (checkL L))∧Below w.heap.size w w':=by
 have hm:checkL L=(decide (L.length≤1024)&& !L.any fun s=> !mayL s):=rfl
 have hbw:=Below.refl w.heap.size w
 have ca:=contains_any 83 enters_chk (fun s=> !mayL s) L v w ht hl (fun x hx W hW=>(chk_any x W (shaped_below hE hW) (hs x hx)).mono fun e W' ⟨he,hb⟩=>⟨he,hW.trans (hb.mono hW.size)⟩)
 have hv:v= .slice none 0 0∧L.length=0∨∃a c,v= .slice (some a) L.length c:=by
  rcases ht with ⟨h1,h2⟩|⟨a,c,h1,_⟩
  ·exact .inl ⟨h1,by rw[h2];rfl⟩
  ·exact .inr ⟨a,c,h1⟩
 clear ht
 generalize (L.any fun s=> !mayL s)=A at*
 by_cases h:L.length≤1024
 ·rw[decide_eq_true h]at hm
  have hi:(L.length:Int)≤1024:=by omega
  have HM:=Lib.hid hm;clear hm;rcases hv with ⟨rfl,h0⟩|⟨a,c,rfl⟩
  all_goals
   go_enter Tryz.func39,Tryz.ntmps39;go_wp2_with fail;go_at_call 82;refine ca.mono ?_;rintro e w1 ⟨rfl,hb1⟩;go_wp2_with fail;go_ret;exact⟨ret_bool (by rw[HM.out];rfl),hb1⟩
 ·rw[decide_eq_false h]at hm
  have hi:¬(L.length:Int)≤1024:=by omega
  have HM:=Lib.hid hm;clear hm;rcases hv with ⟨rfl,h0⟩|⟨a,c,rfl⟩
  ·omega
  ·go_enter Tryz.func39,Tryz.ntmps39
   go_wp2_with fail;go_ret;exact⟨ret_bool (by rw[HM.out];rfl),hbw⟩
theorem fitsame_any (a b:List UInt8) (w:World):
 Calls Tryz.prog 239 #[.string ⟨a.toArray⟩, .string ⟨b.toArray⟩] w fun e w'=>e= .returned (.bool (b==[42]||a==b))∧w=w':=by
 cases h1:(b==[42])
 ·have e1:(b==[42])=false:=h1
  cases h2:(a==b)
  all_goals
   go_enter Tryz.func239,Tryz.ntmps239;go_wp2_with fail;go_ret;exact⟨rfl,rfl⟩
 ·go_enter Tryz.func239,Tryz.ntmps239
  go_wp2_with fail;go_ret;exact⟨rfl,rfl⟩
set_option maxRecDepth 100000 in
theorem equal_any (D P:List (List UInt8)) (g c b o d:Nat) (w:World) (hP:Txt w (.slice (some ⟨g,0,none⟩) P.length c) P) (hH:Txt w (.slice (some ⟨b,o,none⟩) P.length d) D) (h0:P≠[]) (hDl:D.length=P.length) (hl:P.length≤4000000001):
 Calls Tryz.prog 287 #[.slice (some ⟨b,o,none⟩) P.length d, .slice (some ⟨g,0,none⟩) P.length c, .func (.func 239) #[] #[]] w fun e w'=>e= .returned (.bool (eqF D P))∧w=w':=by
 have hP0:=List.length_pos_iff.2 h0
 have heq:=eqF_iff hDl
 obtain⟨_,hPc,_,hcP⟩:=txt_cell hP hP0
 obtain⟨_,hHc,_,hcH⟩:=txt_cell hH (by omega)
 have HCP:Hid (∀(k:Nat) (hk:k<P.length),w.cell? ⟨g,k,none⟩=some (.string ⟨(P[k]).toArray⟩)):=fun k hk=>by
  have:=hcP w (Below.refl _ _) k hk;rwa[Nat.zero_add]at this
 have HCH:Hid (∀(k:Nat) (hk2:k<D.length),w.cell? ⟨b,o+k,none⟩=some (.string ⟨(D[k]).toArray⟩)):=fun k hk2=>hcH w (Below.refl _ _) k hk2
 have hdl:P.length≤d:=by omega
 have HEQ:=Lib.hid heq
 have HDl:=Lib.hid hDl
 clear hP hH hcP hcH heq hDl hHc
 go_enter Tryz.func287,Tryz.ntmps287
 go_wp2_with fail
 go_loop [7,8,9,17] (fun _ _ _ i=>∃k:Nat,k≤P.length∧i= .int .i64 k∧Hid (∀(j:Nat) (h:j<D.length) (h2:j<P.length),j<k→P[j]=[42]∨D[j]=P[j])) (fun _ _ _ i=>P.length-(intOf i).toNat)
 case atStart=>exact⟨0,Nat.zero_le _,rfl,Lib.hid (fun j _ _ h=>absurd h (by omega))⟩
 case round=>
  obtain⟨k,hk,rfl,HI⟩:=hrel;by_cases hlt:k<P.length
  ·have hDk:k<D.length:=by rw[HDl.out];exact hlt
   have hc1:=HCP.out k hlt;have hc2:=HCH.out k hDk;by_cases hor:P[k]=[42]∨D[k]=P[k]
   ·have HN:Hid (∀(j:Nat) (h:j<D.length) (h2:j<P.length),j<k+1→P[j]=[42]∨D[j]=P[j]):=fun j h h2 h3=>by
     by_cases hj:j<k
     ·exact HI.out j h h2 hj
     ·obtain rfl:j=k:=by omega
      exact hor
    have cs:=fitsame_any D[k] P[k];have hb:(P[k]==[42]||D[k]==P[k])=true:=by rw[Bool.or_eq_true,beq_iff_eq,beq_iff_eq];exact hor
    rw[hb]at cs;clear HI hor hb;generalize P[k]=X at*;generalize D[k]=Y at*;go_wp2_with fail;go_at_call 239;refine(cs _).mono ?_;rintro e w1 ⟨rfl,rfl⟩;go_wp2_with fail;go_round
    case rel=>exact⟨k+1,by omega,by go_num,HN⟩
    case measure=>simp[intOf];omega
   ·have HV:Hid (eqF D P=false):=by
     show _=_
     cases he:eqF D P with
     |false=>rfl
     |true=>exact absurd (HEQ.out.1 he k hDk hlt) hor
    have cs:=fitsame_any D[k] P[k];have hb:(P[k]==[42]||D[k]==P[k])=false:=by rw[Bool.or_eq_false_iff,beq_eq_false_iff_ne,beq_eq_false_iff_ne];exact⟨fun e=>hor (.inl e),fun e=>hor (.inr e)⟩
    rw[hb]at cs;clear HI hor hb;generalize P[k]=X at*;generalize D[k]=Y at*;go_wp2_with fail;go_at_call 239;refine(cs _).mono ?_;rintro e w1 ⟨rfl,rfl⟩;go_wp2_with fail;go_ret;exact⟨ret_bool (by rw[HV.out]),rfl⟩
  ·obtain rfl:k=P.length:=by omega
   have HV:Hid (eqF D P=true):=by
    show _=_;exact HEQ.out.2 fun i h h2=>HI.out i h h2 h2
   clear HI;go_wp2_with fail;go_ret;exact⟨ret_bool (by rw[HV.out]),rfl⟩
set_option maxRecDepth 100000 in
theorem ends_any (H P:List (List UInt8)) (g c b d:Nat) (w:World) (hP:Txt w (.slice (some ⟨g,0,none⟩) P.length c) P) (hH:Txt w (.slice (some ⟨b,0,none⟩) H.length d) H) (h0:P≠[]) (hl:H.length≤4000000001):
 Calls Tryz.prog 238 #[.slice (some ⟨b,0,none⟩) H.length d, .slice (some ⟨g,0,none⟩) P.length c, .func (.func 239) #[] #[]] w fun e w'=>e= .returned (.bool (fitsL P H))∧w=w':=by
 have hm:fitsL P H=(decide (P.length≤H.length)&&eqF (H.drop (H.length-P.length)) P):=rfl
 have hP0:=List.length_pos_iff.2 h0
 by_cases hle:P.length≤H.length
 ·rw[decide_eq_true hle,Bool.true_and]at hm
  have hlei:(P.length:Int)≤(H.length:Int):=by omega
  obtain⟨n,hn⟩:∃n:Nat,n+P.length=H.length:=⟨H.length-P.length,by omega⟩;have hni:(H.length:Int)-(P.length:Int)=(n:Int):=by omega
  have hnn:H.length-P.length=n:=by omega
  rw[hnn]at hm;have hDl:(H.drop n).length=P.length:=by simp;omega
  obtain⟨_,hHc,hbl,hcH⟩:=txt_cell hH (by omega);have hD:Txt w (.slice (some ⟨b,n,none⟩) P.length (d-n)) (H.drop n):=by
   refine .inr ⟨⟨b,n,none⟩,d-n,by rw[hDl],by omega,fun _=>hbl,fun k hk=> ?_⟩;rw[Addr.add_lit];have:=hcH w (Below.refl _ _) (n+k) (by omega);rw[Nat.zero_add]at this;rw[List.getElem_drop];exact this
  have ce:=equal_any (H.drop n) P g c b n (d-n) w hP hD h0 hDl (by omega);rw[←hm]at ce;have hsl:H.length-n=P.length:=by omega
  clear hP hH hD hm hDl hcH hnn;generalize fitsL P H=B at*;go_enter Tryz.func238,Tryz.ntmps238;go_wp2_with fail;go_at_call 287
  first|refine ce.mono ?_|(rw[hsl];refine ce.mono ?_)
  rintro e w1 ⟨rfl,rfl⟩;go_wp2_with fail;go_ret;exact⟨rfl,rfl⟩
 ·rw[decide_eq_false hle]at hm
  have hlei:¬(P.length:Int)≤(H.length:Int):=by omega
  have HM:=Lib.hid hm;clear hm hP hH;go_enter Tryz.func238,Tryz.ntmps238;go_wp2_with fail;go_ret;exact⟨ret_bool (by rw[HM.out];rfl),rfl⟩
open Go.RowKit Go.Shelf
attribute [local go_sem] Oper.semAt_some
theorem fit_any (ad:Option Addr) (m c:Nat) (H:List (List UInt8)) (b d:Nat) (w:World):
 Calls Tryz.prog 193 #[.slice ad m c, .slice (some ⟨b,0,none⟩) H.length d] w fun e w'=>e= .returned (.func (.func 237) #[] #[.pointer (some ⟨w.heap.size,0,none⟩), .pointer (some ⟨w.heap.size+1,0,none⟩)])∧
  w'=(w.alloc (.cells #[.slice ad m c] 22)).alloc (.cells #[.slice (some ⟨b,0,none⟩) H.length d] 22):=by
 go_enter Tryz.func193,Tryz.ntmps193
 go_wp2
 go_ret
 exact⟨rfl,rfl⟩
def KeepX (lo:Nat) (A B:World):Prop:=Below lo A B∧∀k o,A.heap[k]?=some o→o.isCells=true→lo+3≤k→B.heap[k]?=some o
theorem KeepX.refl (lo:Nat) (A:World):KeepX lo A A:=⟨Below.refl _ _,fun _ _ h _ _=>h⟩
theorem KeepX.trans {lo:Nat} {A B C:World} (h:KeepX lo A B) (k:KeepX lo B C):KeepX lo A C:=⟨h.1.trans k.1,fun i o h1 h2 h3=>k.2 i o (h.2 i o h1 h2 h3) h2 h3⟩
theorem KeepX.of {lo:Nat} {A B:World} (h:Below A.heap.size A B) (hlo:lo≤A.heap.size):KeepX lo A B:=⟨h.mono hlo,fun k o h1 _ _=>(h.block k (Array.getElem?_eq_some_iff.1 h1).1).trans h1⟩
theorem cell_heap {A:World} {p:Addr} {v:Value} (h:A.cell? p=some v):∃o,A.heap[p.block]?=some o∧o.isCells=true:=by
 unfold World.cell? at h;split at h
 ·rename_i h1;exact⟨_,h1,rfl⟩
 ·cases h
theorem KeepX.cell {lo:Nat} {A B:World} (h:KeepX lo A B) {p:Addr} {v:Value} (hc:A.cell? p=some v) (hp:p.block<lo∨lo+3≤p.block):B.cell? p=some v:=by
 rcases hp with hp|hp
 ·exact(h.1.cell hp).trans hc
 ·obtain⟨o,h1,h2⟩:=cell_heap hc
  have h3:=h.2 _ o h1 h2 hp;have:B.heap[p.block]?=A.heap[p.block]?:=h3.trans h1.symm;exact(World.cell?_of_block (w:=A) this).trans hc
def TxtX (lo:Nat) (w:World) (v:Value) (L:List (List UInt8)):Prop:=Txt w v L∧∀a n c,v= .slice (some a) n c→0<L.length→a.block<lo∨lo+3≤a.block
theorem TxtX.keep {lo:Nat} {A B:World} {v:Value} {L:List (List UInt8)} (h:TxtX lo A v L) (hk:KeepX lo A B):TxtX lo B v L:=by
 obtain⟨h1,h2⟩:=h;refine⟨?_,h2⟩;rcases h1 with h1|⟨a,c,e,hc,hb,hcell⟩
 ·exact .inl h1
 ·exact .inr ⟨a,c,e,hc,fun h0=>Nat.lt_of_lt_of_le (hb h0) hk.1.size,fun k hk'=>hk.cell (hcell k hk') (by rw[Go.ChangeShapes.block_add];exact h2 a _ _ e (by omega))⟩
abbrev RuleAt:=List UInt8×Nat
abbrev ruleV (x:RuleAt):Array Value:= #[.agg #[.slice (some ⟨x.2,0,none⟩) (sufP x.1).length (sufP x.1).length, .bool (exceptB x.1)]]
def fitting (L H:List (List UInt8)):List (List UInt8):=L.filter fun s=>fitsL (sufP s) H
theorem fitting_take {L H:List (List UInt8)} {k:Nat} (hk:k<L.length):fitting (L.take (k+1)) H=fitting (L.take k) H++(if fitsL (sufP L[k]) H then [L[k]]else []):=by
 unfold fitting;rw[List.take_succ_eq_append_getElem hk,List.filter_append];congr 1;by_cases h:fitsL (sufP L[k]) H=true
 ·rw[if_pos h];simp[h]
 ·rw[if_neg h];simp[h]
set_option maxRecDepth 100000 in
theorem fit1_in (n:Nat) (hn:1≤n) (l B1 B2 lo:Nat) (ad:Option Addr) (c:Nat) (L H:List (List UInt8)) (b d:Nat) (J Jx:List RuleAt→World→Prop) (hl:L.length≤1000000) (hs:∀p∈L,p.length≤4000000000) (hHl:H.length≤4000000001)
 (hJ:∀pre A B,J pre A→Below A.heap.size A B→J pre B)
 (hY:∀pre x W,J pre W→pre.length<L.length→YieldAt Fence.wide (n-1) Tryz.prog l (ruleV x) W fun e W'=>
  (e= .returned (.bool true)∧J (pre++[x]) W'∧KeepX lo W W')∨(e= .returned (.bool false)∧Jx (pre++[x]) W'))
 (W:World) (hE:∀W',KeepX lo W W'→W'.ShapedOpen Tryz.prog) (hlo:lo≤W.heap.size) (hB1:W.cell? ⟨B1,0,none⟩=some (.slice ad L.length c)) (hB2:W.cell? ⟨B2,0,none⟩=some (.slice (some ⟨b,0,none⟩) H.length d)) (hb1:lo+3≤B1) (hb2:lo+3≤B2)
 (ht:TxtX lo W (.slice ad L.length c) L) (hH:TxtX lo W (.slice (some ⟨b,0,none⟩) H.length d) H) (h0:J [] W):
 CallsIn Fence.wide n Tryz.prog 237 #[.func (.yield l) #[] #[], .pointer (some ⟨B1,0,none⟩), .pointer (some ⟨B2,0,none⟩)] W fun e W'=>(∃v,e= .returned v)∧
  ((∃xs:List RuleAt,xs.map (·.1)=fitting L H∧J xs W')∨(∃pre:List RuleAt,(∃k,pre.map (·.1)=fitting (L.take k) H)∧Jx pre W')):=by
 refine callsIn_of_wp Tryz.func237 rfl trivial ?_ rfl
 simp only[Tryz.ntmps237,List.size_toArray,List.length_cons,List.length_nil,Nat.reduceAdd,Nat.reduceSub,Array.replicate_succ,Array.replicate_zero,List.push_toArray,List.append_toArray,List.nil_append,List.cons_append]
 gi_wp2
 gi_loopw [5,6,9] (fun _ _ i wr=>∃(k:Nat) (pre:List RuleAt),k≤L.length∧i= .int .i64 k∧pre.map (·.1)=fitting (L.take k) H∧pre.length≤k∧J pre wr∧KeepX lo W wr) (fun _ _ i _=>L.length-(intOf i).toNat)
 case atStart=>exact⟨0,[],Nat.zero_le _,rfl,rfl,Nat.le_refl _,h0,KeepX.refl _ _⟩
 case round=>
  obtain⟨k,pre,hk,rfl,hpre,hplen,hJs,hkeep⟩:=hrel;by_cases hlt:k<L.length
  ·have htr:=ht.keep hkeep
   have hHr:=hH.keep hkeep;have hEr:=hE _ hkeep;have hB2r:=hkeep.cell hB2 (.inr hb2);have hcr:=sread_any L[k] wr hEr (hs _ (List.getElem_mem hlt));obtain⟨a,rfl,hab,hck⟩:∃a,ad=some a∧a.block<wr.heap.size∧wr.cell? (a.add k)=some (.string ⟨(L[k]).toArray⟩):=by
    rcases htr.1 with ⟨h1,h2⟩|⟨a,c',h1,h2,h3,h4⟩
    ·rw[h2]at hlt;simp at hlt
    ·injection h1 with e1
     exact⟨a,e1,h3 (by omega),h4 k hlt⟩
   have hfit:=fitting_take (H:=H) hlt;have hPn:=sufP_ne L[k];have hkl:k<L.length:=hlt;generalize hX:L[k]=X at*;have ce:=fun (g:Nat) W' hP hH'=>ends_any H (sufP X) g (sufP X).length b d W' hP hH' hPn hHl
   generalize hPP:sufP X=P at*;have fr:Fence.wide.fn 119:=trivial;have fe:Fence.wide.fn 238:=trivial;clear hX;gi_wp2_with fail;gi_at_call 119;refine(callsIn_wide.2 hcr).mono ?_;rintro e w3 ⟨g,rfl,hT,hb3⟩;have hb4:Below wr.heap.size wr (w3.alloc (.cells #[.slice (some ⟨g,0,none⟩) P.length P.length, .bool (exceptB X)] 153)):=hb3.alloc hb3.size _;have hlor:lo≤wr.heap.size:=Nat.le_trans hlo hkeep.1.size;have hk4:=KeepX.of hb4 hlor;have hB2w:=hk4.cell hB2r (.inr hb2);have hTP:=hT.below ((Below.refl w3.heap.size w3).alloc (Nat.le_refl _) (.cells #[.slice (some ⟨g,0,none⟩) P.length P.length, .bool (exceptB X)] 153)) (Nat.le_refl _);have hHw:=(hHr.keep hk4).1;have ce4:=ce g _ hTP hHw;have hJ4:=hJ pre _ _ hJs hb4;have hrow:(w3.alloc (.cells #[.slice (some ⟨g,0,none⟩) P.length P.length, .bool (exceptB X)] 153)).heap[w3.heap.size]?=some (.cells #[.slice (some ⟨g,0,none⟩) P.length P.length, .bool (exceptB X)] 153 (0,0)):=heap_alloc_new w3 _;have hkk:=hkeep.trans hk4;clear hcr hT hHw hTP ce htr hHr hEr hB2r hb3 hck
   cases hf:fitsL P H with
   |false=>
    rw[hf]at ce4;rw[hf,if_neg (by simp),List.append_nil]at hfit;gi_wp2_with fail;gi_at_call 238;refine(callsIn_wide.2 ce4).mono ?_;rintro e w5 ⟨rfl,rfl⟩;gi_wp2_with fail;refine⟨fun _ h=>(by cases h), ?_⟩;gi_wp2_with fail;go_roundw
    case rel=>exact⟨k+1,pre,by omega,by go_num,by rw[hfit];exact hpre,by omega,hJ4,hkk⟩
    case measure=>simp[intOf];omega
   |true=>
    rw[hf]at ce4;rw[hf,if_pos rfl]at hfit;obtain⟨fn,tmps,assign,body,hy,hR⟩:=hY pre (X,g) _ hJ4 (by omega);rw[show ruleV (X,g)= #[.agg #[.slice (some ⟨g,0,none⟩) P.length P.length, .bool (exceptB X)]]from by rw[←hPP]]at hy;gi_wp2_with fail;gi_at_call 238;refine(callsIn_wide.2 ce4).mono ?_;rintro e w5 ⟨rfl,rfl⟩;gi_wp2_with fail;refine hR.mono ?_;rintro e W3 (⟨rfl,hJ3,hk3⟩|⟨rfl,hJx3⟩)
    ·gi_wp2_with fail
     go_roundw
     case rel=>exact⟨k+1,pre++[(X,g)],by omega,by go_num,by rw[hfit,List.map_append,hpre];rfl,by simp;omega,hJ3,hkk.trans hk3⟩
     case measure=>simp[intOf];omega
    ·gi_wp2_with fail
     refine bodyPost_ret (results_none rfl _ _ _) rfl ?_;exact⟨⟨_,rfl⟩, .inr ⟨pre++[(X,g)],⟨k+1,by rw[hfit,List.map_append,hpre];rfl⟩,hJx3⟩⟩
  ·obtain rfl:k=L.length:=by omega
   rw[List.take_length]at hpre;gi_wp2;go_end0;exact⟨⟨_,rfl⟩, .inl ⟨pre,hpre,hJs⟩⟩
theorem fit_seq (n:Nat) (hn:1≤n) (B1 B2 lo:Nat) (ad:Option Addr) (c:Nat) (L H:List (List UInt8)) (b d:Nat) (hl:L.length≤1000000) (hs:∀p∈L,p.length≤4000000000) (hHl:H.length≤4000000001)
 (w:World) (hE:∀W',Below lo w W'→W'.ShapedOpen Tryz.prog) (hlo:lo≤w.heap.size) (hB1:w.cell? ⟨B1,0,none⟩=some (.slice ad L.length c)) (hB2:w.cell? ⟨B2,0,none⟩=some (.slice (some ⟨b,0,none⟩) H.length d)) (hb1:lo+3≤B1) (hb2:lo+3≤B2)
 (ht:TxtX lo w (.slice ad L.length c) L) (hH:TxtX lo w (.slice (some ⟨b,0,none⟩) H.length d) H):
 SeqStopsK Fence.wide n Tryz.prog 237 #[.pointer (some ⟨B1,0,none⟩), .pointer (some ⟨B2,0,none⟩)] ruleV (KeepX lo)
  (fun xs=>xs.map (·.1)=fitting L H) (fun pre=>∃k,pre.map (·.1)=fitting (L.take k) H) L.length w:=fun l J Jx W hW hJ hJx hY h0=>by
 have hk:=KeepX.of hW hlo
 have hc1:=hk.cell hB1 (.inr hb1)
 have hc2:=hk.cell hB2 (.inr hb2)
 have hgr:∀A B:World,Below A.heap.size A B→A.grownBy B none:=fun A B h=>by
  refine⟨h.os,h.tape,h.output,h.size,fun k hk _=>h.block k hk⟩
 exact fit1_in n hn l B1 B2 lo ad c L H b d J Jx hl hs hHl (fun pre A B hj hb=>hJ pre A B none hj (hgr A B hb) (fun r e=>by cases e)) hY W (fun W' hk'=>hE W' (hk.trans hk').1) (Nat.le_trans hlo hW.size) hc1 hc2 hb1 hb2 (ht.keep hk) (hH.keep hk) h0
end Go.Proofs.YtlhcfmcbpljbiaaGreatDoor
