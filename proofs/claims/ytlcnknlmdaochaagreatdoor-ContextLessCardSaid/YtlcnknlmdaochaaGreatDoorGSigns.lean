/- One step of the reference's Signs against the decoder, plain. -/
import Derived.Test.YtlcnknlmdaochaaGreatDoorGEnc
set_option linter.unusedVariables false
set_option linter.unusedSimpArgs false
set_option maxHeartbeats 16000000
namespace Go.Proofs.YtlcnknlmdaochaaGreatDoor
def bt (s:List UInt8) (i:Nat):Nat:=(s.getD i 0).toNat
theorem bt_lt (s:List UInt8) (i:Nat):bt s i<256:=UInt8.toNat_lt _
def cls (b:Nat):Option (Nat×Nat×Nat):=
 if b<128 then some (1,b,0)else if 192≤b∧b<224 then some (2,b-192,128)else if 224≤b∧b<240 then some (3,b-224,2048)else if 240≤b∧b<248 then some (4,b-240,65536)else none
def acc (s:List UInt8) (i x0:Nat):Nat→Nat
 |0=>x0
 |k+1=>64*acc s i x0 k+bt s (i+(k+1))-128
theorem acc_0 (s:List UInt8) (i x0:Nat):acc s i x0 0=x0:=rfl
theorem acc_1 (s:List UInt8) (i x0:Nat):acc s i x0 1=64*x0+bt s (i+1)-128:=rfl
theorem acc_2 (s:List UInt8) (i x0:Nat):acc s i x0 2=64*(64*x0+bt s (i+1)-128)+bt s (i+2)-128:=rfl
theorem acc_3 (s:List UInt8) (i x0:Nat):acc s i x0 3=64*(64*(64*x0+bt s (i+1)-128)+bt s (i+2)-128)+bt s (i+3)-128:=rfl
def contAll (s:List UInt8) (i n:Nat):Prop:=∀k,1≤k→k<n→128≤bt s (i+k)∧bt s (i+k)<192
def badX (x least:Nat):Prop:=x<least∨1114111<x∨(55296≤x∧x≤57343)
theorem dec_drop (s:List UInt8) (i:Nat):Lib.decodeL (s.drop i)=Lib.decodeN (s.length-i) (bt s i) (bt s (i+1)) (bt s (i+2)) (bt s (i+3)):=by
 rw[Lib.decodeL_N,List.length_drop,Lib.getD_dropU,Lib.getD_dropU,Lib.getD_dropU,Lib.getD_dropU,Nat.add_zero];rfl
theorem cls_cases {b n x0 least:Nat} (h:cls b=some (n,x0,least)):(b<128∧n=1∧x0=b∧least=0)∨((192≤b∧b<224)∧n=2∧x0=b-192∧least=128)∨((224≤b∧b<240)∧n=3∧x0=b-224∧least=2048)∨((240≤b∧b<248)∧n=4∧x0=b-240∧least=65536):=by
 unfold cls at h;by_cases c1:b<128
 ·rw[if_pos c1]at h;injection h with h;simp only[Prod.mk.injEq]at h;exact .inl ⟨c1,h.1.symm,h.2.1.symm,h.2.2.symm⟩
 rw[if_neg c1]at h;by_cases c2:192≤b∧b<224
 ·rw[if_pos c2]at h;injection h with h;simp only[Prod.mk.injEq]at h;exact .inr (.inl ⟨c2,h.1.symm,h.2.1.symm,h.2.2.symm⟩)
 rw[if_neg c2]at h;by_cases c3:224≤b∧b<240
 ·rw[if_pos c3]at h;injection h with h;simp only[Prod.mk.injEq]at h;exact .inr (.inr (.inl ⟨c3,h.1.symm,h.2.1.symm,h.2.2.symm⟩))
 rw[if_neg c3]at h;by_cases c4:240≤b∧b<248
 ·rw[if_pos c4]at h;injection h with h;simp only[Prod.mk.injEq]at h;exact .inr (.inr (.inr ⟨c4,h.1.symm,h.2.1.symm,h.2.2.symm⟩))
 rw[if_neg c4]at h
 cases h
theorem cls_none {b:Nat} (h:cls b=none):128≤b∧¬(192≤b∧b<248):=by
 unfold cls at h;by_cases c1:b<128
 ·rw[if_pos c1]at h;cases h
 rw[if_neg c1]at h;by_cases c2:192≤b∧b<224
 ·rw[if_pos c2]at h;cases h
 rw[if_neg c2]at h;by_cases c3:224≤b∧b<240
 ·rw[if_pos c3]at h;cases h
 rw[if_neg c3]at h;by_cases c4:240≤b∧b<248
 ·rw[if_pos c4]at h;cases h
 omega
theorem cls_bd {b n x0 least:Nat} (h:cls b=some (n,x0,least)):1≤n∧n≤4∧x0≤127∧least≤65536:=by
 rcases cls_cases h with h|h|h|h<;>omega
set_option maxRecDepth 100000 in
theorem acc_bd {s:List UInt8} {i x0:Nat} (h0:x0≤127):∀k,(∀j,1≤j→j<k+1→128≤bt s (i+j)∧bt s (i+j)<192)→acc s i x0 k+1≤128*64^k
 |0,_=>by show x0+1≤128*1;omega
 |k+1,hc=>by
  have ih:=acc_bd h0 k (fun j h1 h2=>hc j h1 (by omega));have:=hc (k+1) (by omega) (by omega);show 64*acc s i x0 k+bt s (i+(k+1))-128+1≤128*64^(k+1);rw[Nat.pow_succ];omega
set_option maxRecDepth 100000 in
theorem step_good {s:List UInt8} {i n x0 least x:Nat} (hi:i<s.length) (hc:cls (bt s i)=some (n,x0,least)) (hn:i+n≤s.length) (hk:contAll s i n) (hx:acc s i x0 (n-1)=x) (hb:¬badX x least):Lib.decodeL (s.drop i)=(x,n)∧¬(x=65533∧n=1):=by
 rw[dec_drop];unfold badX at hb;have h1:=hk 1 (by omega);have h2:=hk 2 (by omega);have h3:=hk 3 (by omega);have hb0:=bt_lt s i;have hcc:=cls_cases hc;clear hc hk;generalize bt s i=b0 at*;rcases hcc with ⟨hb1,rfl,rfl,hls⟩|⟨hb1,rfl,rfl,hls⟩|⟨hb1,rfl,rfl,hls⟩|⟨hb1,rfl,rfl,hls⟩
 ·simp only[Nat.sub_self,acc_0]at hx
  subst hx;unfold Lib.decodeN;rw[if_pos (by omega)];exact⟨rfl,by omega⟩
 ·simp only[Nat.reduceSub,acc_1]at hx
  have h1:=h1 (by omega);generalize bt s (i+1)=b1 at*;unfold Lib.decodeN;rw[if_neg (by omega),if_pos (by omega),if_pos (by omega)];exact⟨by rw[Prod.mk.injEq];omega,by omega⟩
 ·simp only[Nat.reduceSub,acc_2,acc_3]at hx
  have h1:=h1 (by omega);have h2:=h2 (by omega);generalize bt s (i+1)=b1 at*;generalize bt s (i+2)=b2 at*;unfold Lib.decodeN;rw[if_neg (by omega),if_neg (by omega),if_pos (by omega),if_pos (by omega)];exact⟨by rw[Prod.mk.injEq];omega,by omega⟩
 ·simp only[Nat.reduceSub,acc_2,acc_3]at hx
  have h1:=h1 (by omega);have h2:=h2 (by omega);have h3:=h3 (by omega);generalize bt s (i+1)=b1 at*;generalize bt s (i+2)=b2 at*;generalize bt s (i+3)=b3 at*;unfold Lib.decodeN;rw[if_neg (by omega),if_neg (by omega),if_neg (by omega),if_pos (by omega),if_pos (by omega)];exact⟨by rw[Prod.mk.injEq];omega,by omega⟩
theorem step_none {s:List UInt8} {i:Nat} (hc:cls (bt s i)=none):Lib.decodeL (s.drop i)=(65533,1):=by
 rw[dec_drop];have:=cls_none hc;have hb0:=bt_lt s i;generalize bt s i=b0 at*;unfold Lib.decodeN;rw[if_neg (by omega),if_neg (by omega),if_neg (by omega),if_neg (by omega)]
set_option maxRecDepth 100000 in
theorem step_bad {s:List UInt8} {i n x0 least:Nat} (hc:cls (bt s i)=some (n,x0,least)) (h:¬i+n≤s.length∨(∃k,1≤k∧k<n∧¬(128≤bt s (i+k)∧bt s (i+k)<192))∨(contAll s i n∧badX (acc s i x0 (n-1)) least)) (hi:i<s.length):Lib.decodeL (s.drop i)=(65533,1):=by
 rw[dec_drop];have hb0:=bt_lt s i;have hcc:=cls_cases hc;clear hc;generalize bt s i=b0 at*;have hs1:=bt_lt s (i+1);have hs2:=bt_lt s (i+2);have hs3:=bt_lt s (i+3);rcases hcc with ⟨hb1,rfl,rfl,hls⟩|⟨hb1,rfl,rfl,hls⟩|⟨hb1,rfl,rfl,hls⟩|⟨hb1,rfl,rfl,hls⟩
 ·exfalso
  rcases h with h|⟨k,h1,h2,_⟩|⟨_,h⟩
  ·omega
  ·omega
  ·simp only[Nat.sub_self,acc_0]at h;unfold badX at h;omega
 ·have h':¬i+2≤s.length∨¬(128≤bt s (i+1)∧bt s (i+1)<192)∨((128≤bt s (i+1)∧bt s (i+1)<192)∧badX (acc s i (b0-192) 1) least):=by
   rcases h with h|⟨k,h1,h2,h3⟩|⟨h1,h⟩
   ·exact .inl h
   ·have:k=1:=by omega
    subst this;exact .inr (.inl h3)
   ·exact .inr (.inr ⟨h1 1 (by omega) (by omega),h⟩)
  simp only[acc_1,badX]at h';clear h;generalize bt s (i+1)=b1 at*;unfold Lib.decodeN;rw[if_neg (by omega)];split
  ·rw[if_neg (by omega)]
  ·rw[if_neg (by omega),if_neg (by omega)]
 ·have h':¬i+3≤s.length∨¬(128≤bt s (i+1)∧bt s (i+1)<192)∨¬(128≤bt s (i+2)∧bt s (i+2)<192)∨((128≤bt s (i+1)∧bt s (i+1)<192)∧(128≤bt s (i+2)∧bt s (i+2)<192)∧badX (acc s i (b0-224) 2) least):=by
   rcases h with h|⟨k,h1,h2,h3⟩|⟨h1,h⟩
   ·exact .inl h
   ·rcases(by omega:k=1∨k=2)with rfl|rfl
    ·exact .inr (.inl h3)
    ·exact .inr (.inr (.inl h3))
   ·exact .inr (.inr (.inr ⟨h1 1 (by omega) (by omega),h1 2 (by omega) (by omega),h⟩))
  simp only[acc_2,acc_3,badX]at h';clear h;generalize bt s (i+1)=b1 at*;generalize bt s (i+2)=b2 at*;unfold Lib.decodeN;rw[if_neg (by omega),if_neg (by omega)];split
  ·rw[if_neg (by omega)]
  ·rw[if_neg (by omega)]
 ·have h':¬i+4≤s.length∨¬(128≤bt s (i+1)∧bt s (i+1)<192)∨¬(128≤bt s (i+2)∧bt s (i+2)<192)∨¬(128≤bt s (i+3)∧bt s (i+3)<192)∨((128≤bt s (i+1)∧bt s (i+1)<192)∧(128≤bt s (i+2)∧bt s (i+2)<192)∧(128≤bt s (i+3)∧bt s (i+3)<192)∧badX (acc s i (b0-240) 3) least):=by
   rcases h with h|⟨k,h1,h2,h3⟩|⟨h1,h⟩
   ·exact .inl h
   ·rcases(by omega:k=1∨k=2∨k=3)with rfl|rfl|rfl
    ·exact .inr (.inl h3)
    ·exact .inr (.inr (.inl h3))
    ·exact .inr (.inr (.inr (.inl h3)))
   ·exact .inr (.inr (.inr (.inr ⟨h1 1 (by omega) (by omega),h1 2 (by omega) (by omega),h1 3 (by omega) (by omega),h⟩)))
  simp only[acc_2,acc_3,badX]at h';clear h;generalize bt s (i+1)=b1 at*;generalize bt s (i+2)=b2 at*;generalize bt s (i+3)=b3 at*;unfold Lib.decodeN;rw[if_neg (by omega),if_neg (by omega),if_neg (by omega)];split
  ·rw[if_neg (by omega)]
  ·rfl
def Good (s:List UInt8) (pre:List Nat) (i:Nat):Prop:=Thru s pre i∧Lib.validD s=Lib.validD (s.drop i)
theorem good_start (s:List UInt8):Good s [] 0:=⟨thru_start s,by simp⟩
theorem good_step {s:List UInt8} {pre:List Nat} {i x n:Nat} (h:Good s pre i) (hi:i<s.length) (hd:Lib.decodeL (s.drop i)=(x,n)) (hx:¬(x=65533∧n=1)):Good s (pre++[x]) (i+n):=by
 have hne:s.drop i≠[]:=by intro e;have:=congrArg List.length e;simp at this;omega
 have ht:=thru_step h.1 hi;have hu:Utf8.decode ⟨s.toArray⟩ i=(x,n):=by rw[←hd];exact(Lib.decodeL_drop ⟨s.toArray⟩ i).symm
 rw[hu]at ht;refine⟨ht, ?_⟩;rw[h.2,Lib.validD_step _ hne,hd,if_neg (by simpa using hx),List.drop_drop]
theorem good_bad {s:List UInt8} {pre:List Nat} {i:Nat} (h:Good s pre i) (hi:i<s.length) (hd:Lib.decodeL (s.drop i)=(65533,1)):Lib.validD s=false:=by
 have hne:s.drop i≠[]:=by intro e;have:=congrArg List.length e;simp at this;omega
 rw[h.2,Lib.validD_step _ hne,hd,if_pos ⟨rfl,rfl⟩]
theorem good_end {s:List UInt8} {pre:List Nat} {i:Nat} (h:Good s pre i) (hi:¬i<s.length):runes s=pre∧Lib.validD s=true:=by
 refine⟨thru_end h.1 hi, ?_⟩;rw[h.2,List.drop_eq_nil_of_le (by omega)];exact Lib.validD_nil
open Go.RowKit
theorem bt_get {s:List UInt8} {i:Nat} (h:i<s.length):(s[i]'h).toNat=bt s i:=by simp[bt,h]
set_option maxRecDepth 100000 in
theorem signs_any (s:List UInt8) (w:World) (hs:s.length≤65536):
 Calls Tryz.prog 261 #[.string ⟨s.toArray⟩] w fun e w'=>((Lib.validD s=true∧∃v,e= .returned (.tuple #[v, .bool true])∧w'.ownsRow w.heap.size 3 1 v (runes s).length (i64s (runes s)))∨(Lib.validD s=false∧e= .returned (.tuple #[.slice none 0 0, .bool false])))∧Below w.heap.size w w':=by
 go_enter Tryz.func261,Tryz.ntmps261
 go_wp2
 go_loopw [4,5] (fun l iv wr=>∃(i:Nat) (pre:List Nat),iv= .int .i64 i∧Hid (Good s pre i)∧i≤s.length∧pre.length≤i∧wr.ownsRow w.heap.size 3 1 l pre.length (i64s pre)∧Below w.heap.size w wr) (fun _ iv _=>s.length-(intOf iv).toNat)
 case atStart=>exact⟨0,[],rfl,good_start s,Nat.zero_le _,Nat.le_refl _,World.ownsRow_nil _ _ _ _,Below.refl _ _⟩
 case round=>
  obtain⟨i,pre,rfl,hg,hil,hpi,hown,hbl⟩:=hrel;by_cases hi:i<s.length
  ·have hget:=Lib.hid (bt_get hi)
   have hsi:(s[i]'hi).toNat<256:=u8_lt _;go_upto_region 6 with fail
   iterate 8 go_step
   cases hcl:cls (bt s i)with
   |none=>
    have hn:=cls_none hcl;rw[←hget.out]at hn;have hf:=Lib.hid (good_bad hg.out hi (step_none hcl));clear hcl;have h1:¬(s[i]'hi).toNat<128:=by omega
    rcases(show(s[i]'hi).toNat<192∨248≤(s[i]'hi).toNat by omega)with h2|h2
    all_goals
     go_wp2_with fail;go_ret2;exact⟨.inr ⟨hf.out,rfl⟩,hbl⟩
   |some r=>
    obtain⟨n,x0,least⟩:=r;obtain⟨b1,b2,b3,b4⟩:=cls_bd hcl;have hcc:=cls_cases hcl;rw[←hget.out]at hcc;have hcH:=Lib.hid hcl;clear hcl;go_cut [6,7,8] (fun s6 s7 s8 wx=>wr=wx∧s6= .int .i64 (n:Int)∧s7= .int .i64 (x0:Int)∧s8= .int .i64 (least:Int))
    case first=>
     rcases hcc with ⟨hk,rfl,rfl,rfl⟩|⟨⟨hk,hk2⟩,rfl,rfl,rfl⟩|⟨⟨hk,hk2⟩,rfl,rfl,rfl⟩|⟨⟨hk,hk2⟩,rfl,rfl,rfl⟩
     all_goals
      go_wp2_with fail;go_meet
      case rel=>exact⟨rfl,rfl,by go_num,rfl⟩
    case rest=>
     obtain⟨rfl,rfl,rfl,rfl⟩:=hcut;clear hcc hsi hget;by_cases hn:i+n≤s.length
     ·have hni:(i:Int)+(n:Int)≤(s.length:Int):=by omega
      go_wp2_with fail;go_loopw [7,9] (fun xv kv wx=>wr=wx∧∃k:Nat,kv= .int .i64 (k:Int)∧1≤k∧k≤n∧Hid (∀j,1≤j→j<k→128≤bt s (i+j)∧bt s (i+j)<192)∧xv= .int .i64 ((acc s i x0 (k-1):Nat):Int)) (fun _ kv _=>n-(intOf kv).toNat)
      case atStart=>exact⟨rfl,1,rfl,Nat.le_refl _,b1,fun j h1 h2=>by omega,rfl⟩
      case round=>
       obtain⟨rfl,k,rfl,hk1,hkn,hcont,rfl⟩:=hrel;have hab:=acc_bd (i:=i) (s:=s) b3 (k-1) (fun j h1 h2=>hcont.out j h1 (by omega));have hab2:acc s i x0 (k-1)≤33554432:=by
        have:128*64^(k-1)≤128*64^3:=Nat.mul_le_mul_left _ (Nat.pow_le_pow_right (by omega) (by omega));omega
       clear hab;by_cases hlt:k<n
       ·have hik:i+k<s.length:=by omega
        have hg2:=Lib.hid (bt_get hik);have hs2:(s[i+k]'hik).toNat<256:=u8_lt _;by_cases hc1:128≤(s[i+k]'hik).toNat∧(s[i+k]'hik).toNat<192
        ·obtain⟨hc2,hc3⟩:=hc1
         have hac:Hid (acc s i x0 (k+1-1)=64*acc s i x0 (k-1)+(s[i+k]'hik).toNat-128):=by
          rw[hg2.out];obtain⟨k',rfl⟩:∃k',k=k'+1:=⟨k-1,by omega⟩;rfl
         go_wp2_with fail;go_roundw
         case rel=>
          refine⟨trivial,k+1,by go_num,by omega,by omega,fun j h1 h2=> ?_, ?_⟩
          ·rcases Nat.lt_or_ge j k with h|h
           ·exact hcont.out j h1 h
           ·have:j=k:=by omega
            subst this;rw[←hg2.out];exact⟨hc2,hc3⟩
          ·rw[hac.out];go_num
         case measure=>simp[intOf];omega
        ·have hf:=Lib.hid (good_bad hg.out hi (step_bad hcH.out (.inr (.inl ⟨k,hk1,hlt,by rw[←hg2.out];exact hc1⟩)) hi))
         rcases(show(s[i+k]'hik).toNat<128∨192≤(s[i+k]'hik).toNat by omega)with hc2|hc2
         all_goals
          clear hc1;go_wp2_with fail;go_ret2;exact⟨.inr ⟨hf.out,rfl⟩,hbl⟩
       ·obtain rfl:k=n:=by omega
        obtain⟨x,hx⟩:∃x,acc s i x0 (k-1)=x:=⟨_,rfl⟩;rw[hx]at hab2⊢;by_cases hbx:badX x least
        ·have hf:=Lib.hid (good_bad hg.out hi (step_bad hcH.out (.inr (.inr ⟨hcont.out,by rw[hx];exact hbx⟩)) hi))
         have hxx:=Lib.hid hx;clear hx;unfold badX at hbx;rcases hbx with hbx|hbx|⟨hbx,hby⟩
         ·go_wp2_with fail
          go_ret2;exact⟨.inr ⟨hf.out,rfl⟩,hbl⟩
         ·go_wp2_with fail
          all_goals(go_ret2;exact⟨.inr ⟨hf.out,rfl⟩,hbl⟩)
         ·go_wp2_with fail
          all_goals(go_ret2;exact⟨.inr ⟨hf.out,rfl⟩,hbl⟩)
        ·obtain⟨hd,hd2⟩:=step_good hi hcH.out hn hcont.out hx hbx
         have hg3:=Lib.hid (good_step hg.out hi hd hd2);have hxx:=Lib.hid hx;clear hx hd hd2;unfold badX at hbx;have hlx:least≤x:=by omega
         have hx11:x≤1114111:=by omega
         have hxs:x≤55295∨57344≤x:=by omega
         clear hbx;rcases hxs with hxs|hxs
         all_goals
          go_wp2_with(at_builtin;refine wpList_append_vals e_int _ rfl _ _ rfl w.heap.size _ _ _ rfl hown _ _ _ rfl rfl (by intro u hu;simp only[List.mem_cons,List.not_mem_nil,or_false]at hu;subst hu;rfl) (by simp;omega) (by simp;omega) hbl.size ?_);intro v' w2 hown2 hgr _;go_wp2;go_roundw
          case rel=>exact⟨i+k,pre++[x],by go_num,hg3,by omega,by simp;omega,by rw[List.length_append,i64s,List.map_append];exact hown2,hbl.grown hgr hbl.size (fun g' hg'=>(hown.lt g' hg').1)⟩
          case measure=>simp[intOf];omega
     ·have hni:(s.length:Int)<(i:Int)+(n:Int):=by omega
      have hf:=Lib.hid (good_bad hg.out hi (step_bad hcH.out (.inl hn) hi));go_wp2_with fail;go_ret2;exact⟨.inr ⟨hf.out,rfl⟩,hbl⟩
  ·obtain⟨he,hv⟩:=good_end hg.out hi
   have heH:=Lib.hid he;have hvH:=Lib.hid hv;clear he hv;go_wp2_with fail;go_ret2;exact⟨.inl ⟨hvH.out,_,rfl,by rw[heH.out];exact hown⟩,hbl⟩
end Go.Proofs.YtlcnknlmdaochaaGreatDoor
