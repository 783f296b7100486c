/- The walk of the reference's Digits. -/
import Derived.Test.YtlcnknlmdaochaaGreatDoorGText
set_option linter.unusedVariables false
set_option linter.unusedSimpArgs false
set_option maxHeartbeats 16000000
namespace Go.Proofs.YtlcnknlmdaochaaGreatDoor
open Go.RowKit
open Go.Sort
abbrev digS:List UInt8:=[48,49,50,51,52,53,54,55,56,57,97,98,99,100,101,102]
theorem digS_at:∀n:Fin 16,(digS.drop n.val).take 1=[hexB n.val]:=by decide+kernel
set_option maxRecDepth 100000 in
theorem digS_cut (W:World):∀(r:Nat),r<16→(Instr.slice 9 (.string ⟨#[48,49,50,51,52,53,54,55,56,57,97,98,99,100,101,102]⟩) (some (.int .i64 (r:Int))) (some (.int .i64 ((r:Int)+1))) none).run Tryz.prog W= .ok (.string ⟨#[hexB r]⟩) W
 |0,_=>rfl
 |1,_=>rfl
 |2,_=>rfl
 |3,_=>rfl
 |4,_=>rfl
 |5,_=>rfl
 |6,_=>rfl
 |7,_=>rfl
 |8,_=>rfl
 |9,_=>rfl
 |10,_=>rfl
 |11,_=>rfl
 |12,_=>rfl
 |13,_=>rfl
 |14,_=>rfl
 |15,_=>rfl
 |n+16,h=>by omega
set_option maxRecDepth 100000 in
theorem rdig_any (base:Nat) (hb:base=10∨base=16):∀(f n:Nat),f≤20→n<base^(f+1)→n≤65535→∀w:World,
 Calls Tryz.prog 259 #[.int .i64 n, .int .i64 base] w fun e w'=>e= .returned (.string ⟨(digF base f n).toArray⟩)∧Below w.heap.size w w':=by
 intro f
 induction f with
 |zero=>
  intro n hf hn h6 w;have hnb:n<base:=by rwa[Nat.zero_add,Nat.pow_one]at hn
  have hd:=digS_at ⟨n,by omega⟩;simp only at hd;have HD:=Lib.hid (digF_low (f:=0) hnb);have hnbi:(n:Int)<(base:Int):=by omega
  have h16:n<16:=by omega
  clear hn;go_enter Tryz.func259,Tryz.ntmps259;go_wp2_with fail;go_ret;exact⟨by rw[HD.out,←hd];simp[digS],Below.refl _ _⟩
 |succ f ih=>
  intro n hf hn h6 w;by_cases hnb:n<base
  ·have hd:=digS_at ⟨n,by omega⟩
   simp only at hd;have HD:=Lib.hid (digF_low (f:=f+1) hnb);have hnbi:(n:Int)<(base:Int):=by omega
   have h16:n<16:=by omega
   clear hn ih;go_enter Tryz.func259,Tryz.ntmps259;go_wp2_with fail;go_ret;exact⟨by rw[HD.out,←hd];simp[digS],Below.refl _ _⟩
  ·have hm16:n % base<16:=Nat.lt_of_lt_of_le (Nat.mod_lt _ (by omega)) (by omega)
   have hd:=digS_at ⟨n % base,hm16⟩;simp only at hd;have HD:=Lib.hid (digF_step (f:=f) (n:=n) (by omega:base≤n));have hnbi:¬(n:Int)<(base:Int):=by omega
   have hlen:=(digF_len base f (n/base)).2;have cx:=fun W (_:Below w.heap.size w W)=>ih (n/base) (by omega) (by rw[Nat.div_lt_iff_lt_mul (by omega)];rwa[Nat.pow_succ]at hn) (by have:=Nat.div_le_self n base;omega) W
   have kx:∀d os,_:=quiet_reg (w1:=w) cx;have hqb:n/base≤65535:=by have:=Nat.div_le_self n base;omega
   have wq:IntKind.i64.wrap ((n:Int)/(base:Int))=((n/base:Nat):Int):=by rw[show(n:Int)/(base:Int)=((n/base:Nat):Int)by simp];exact IntWalk.i64_in _ (by generalize n/base=q at*;omega)
   have wr:(n:Int).tmod (base:Int)=((n % base:Nat):Int):=by rw[Int.tmod_eq_emod_of_nonneg (by omega)];simp
   have wr1:IntKind.i64.wrap (((n % base:Nat):Int)+1)=((n % base+1:Nat):Int):=by rw[show((n % base:Nat):Int)+1=((n % base+1:Nat):Int)by simp];exact IntWalk.i64_in _ (by omega)
   have s1:¬9223372036854775807<(digF base f (n/base)).length+1:=by omega
   clear hn ih cx;rcases hb with rfl|rfl<;>(
    simp only[show((10:Nat):Int)=10 from rfl,show((16:Nat):Int)=16 from rfl]at kx wq wr wr1⊢
    generalize digF _ f (n/_)=D at*
    generalize hnq:n/_=q at*
    generalize hnr:n % _=r at*
    have hsl:=fun W=>digS_cut W r hm16
    go_enter Tryz.func259,Tryz.ntmps259
    go_wp2_with fail
    refine wp_region_quiet_below (by kernel_rfl) (by kernel_rfl) ?_
    repeat(quiet_step (with_reducible exact kx _ _))
    refine wpQuiet_nil ?_
    intro _ hw'
    obtain⟨⟨dq,osq⟩,hw''⟩:=hw'
    subst hw''
    have hb3:=below_regrown w dq osq
    generalize grow (redrawn w dq) osq=w3 at*
    go_wp2_with fail
    go_ret
    exact⟨by rw[HD.out];exact congrArg (fun b=>Ending.returned (Value.string b)) (a₁:=⟨D.toArray⟩++⟨#[hexB r]⟩) (a₂:=⟨(D++[hexB r]).toArray⟩) (ByteArray.ext (by simp)),hb3⟩)
attribute [local go_sem] ba_append
theorem text4_cat (a b c d:Nat):text4 [a,b,c,d]=dec8 a++[46]++dec8 b++[46]++dec8 c++[46]++dec8 d:=by
 simp[text4,joinL]
set_option maxRecDepth 100000 in
theorem rtext_four (b:List UInt8) (hb:b.length=16) (w:World):
 Calls Tryz.prog 211 #[.agg (adC false b)] w fun e w'=>e= .returned (.string ⟨(text4 ((b.take 4).map (·.toNat))).toArray⟩)∧Below w.heap.size w w':=by
 obtain⟨x0,x1,x2,x3,t,rfl⟩:∃x0 x1 x2 x3 t,b=x0::x1::x2::x3::t:=by
  match b,hb with
  |x0::x1::x2::x3::t,_=>exact⟨x0,x1,x2,x3,t,rfl⟩
 have HT:=Lib.hid (text4_cat x0.toNat x1.toNat x2.toNat x3.toNat)
 have hB:=Blk.new w 186 (adC false (x0::x1::x2::x3::t))
 have hc:∀j u,(adC false (x0::x1::x2::x3::t))[j]?=some u→(w.alloc (.cells (adC false (x0::x1::x2::x3::t)) 186)).cell? ⟨w.heap.size,j,none⟩=some u:=fun j u h=>by rw[hB.cell j];exact h
 have hc0:=hc 0 (.bool false) rfl
 have hc1:=hc 1 (.int .u8 (x0.toNat:Int)) rfl
 have hc2:=hc 2 (.int .u8 (x1.toNat:Int)) rfl
 have hc3:=hc 3 (.int .u8 (x2.toNat:Int)) rfl
 have hc4:=hc 4 (.int .u8 (x3.toNat:Int)) rfl
 have hbw:=(Below.refl w.heap.size w).alloc (Nat.le_refl _) (.cells (adC false (x0::x1::x2::x3::t)) 186)
 have cd:∀(x:UInt8) (V W:World),Below V.heap.size V W→Calls Tryz.prog 259 #[.int .i64 (x.toNat:Int), .int .i64 10] W fun e w'=>e= .returned (.string ⟨(dec8 x.toNat).toArray⟩)∧Below W.heap.size W w':=fun x V W _=>rdig_any 10 (.inl rfl) 20 x.toNat (by omega) (by have:=x.toNat_lt;omega) (by have:=x.toNat_lt;omega) W
 have hl0:=dec8_le x0.toNat
 have hl1:=dec8_le x1.toNat
 have hl2:=dec8_le x2.toNat
 have hl3:=dec8_le x3.toNat
 go_enter Tryz.func211,Tryz.ntmps211
 go_upto_region 2 with fail
 generalize w.alloc (.cells (adC false (x0::x1::x2::x3::t)) 186)=W1 at*
 have k0:∀d os,_:=quiet_reg (w1:=W1) (cd x0 W1)
 have k1:∀d os,_:=quiet_reg (w1:=W1) (cd x1 W1)
 have k2:∀d os,_:=quiet_reg (w1:=W1) (cd x2 W1)
 have k3:∀d os,_:=quiet_reg (w1:=W1) (cd x3 W1)
 have r1:=fun d os=>cell_regrown hc1 d os
 have r2:=fun d os=>cell_regrown hc2 d os
 have r3:=fun d os=>cell_regrown hc3 d os
 have r4:=fun d os=>cell_regrown hc4 d os
 have hx0:=x0.toNat_lt
 have hx1:=x1.toNat_lt
 have hx2:=x2.toNat_lt
 have hx3:=x3.toNat_lt
 have wx0:IntKind.i64.wrap (x0.toNat:Int)=(x0.toNat:Int):=IntWalk.i64_in _ (by omega)
 have wx1:IntKind.i64.wrap (x1.toNat:Int)=(x1.toNat:Int):=IntWalk.i64_in _ (by omega)
 have wx2:IntKind.i64.wrap (x2.toNat:Int)=(x2.toNat:Int):=IntWalk.i64_in _ (by omega)
 have wx3:IntKind.i64.wrap (x3.toNat:Int)=(x3.toNat:Int):=IntWalk.i64_in _ (by omega)
 clear cd hc hB hc0 hc1 hc2 hc3 hc4
 generalize dec8 x0.toNat=D0 at*
 generalize dec8 x1.toNat=D1 at*
 generalize dec8 x2.toNat=D2 at*
 generalize dec8 x3.toNat=D3 at*
 have s0:¬9223372036854775807<D0.length+1:=by omega
 have s1:¬9223372036854775807<D0.length+1+D1.length:=by omega
 have s2:¬9223372036854775807<D0.length+(D1.length+1)+1:=by omega
 have s3:¬9223372036854775807<D0.length+(D1.length+1+1)+D2.length:=by omega
 have s4:¬9223372036854775807<D0.length+(D1.length+(D2.length+1)+1)+1:=by omega
 have s5:¬9223372036854775807<D0.length+(D1.length+(D2.length+1+1)+1)+D3.length:=by omega
 refine wp_region_quiet_below (by kernel_rfl) (by kernel_rfl) ?_
 repeat(quiet_step (first|(with_reducible exact k0 _ _)|(with_reducible exact k1 _ _)|(with_reducible exact k2 _ _)|(with_reducible exact k3 _ _)))
 refine wpQuiet_nil ?_
 intro _ hw'
 obtain⟨⟨dq,osq⟩,hw''⟩:=hw'
 subst hw''
 have hb3:=hbw.trans ((below_regrown W1 dq osq).mono hbw.size)
 generalize grow (redrawn W1 dq) osq=w3 at*
 go_wp2_with fail
 go_ret
 exact⟨by simp only[List.take,List.map];rw[HT.out];simp,hb3⟩
end Go.Proofs.YtlcnknlmdaochaaGreatDoor
namespace Go.Proofs.YtlcnknlmdaochaaGreatDoor
def tailC:Bool→List (List UInt8)→List UInt8
 |true,l=>joinL 58 l
 |false,l=>l.flatMap (58::·)
theorem tailC_nil (b:Bool):tailC b []=[]:=by cases b<;>rfl
theorem joinC_flat:∀(p:List UInt8) (l:List (List UInt8)),joinL 58 (p::l)=p++l.flatMap (58::·)
 |p,[]=>by simp[joinL]
 |p,q::l=>by rw[joinL_cons (by simp),joinC_flat q l,List.flatMap_cons];simp
theorem tailC_true (p:List UInt8) (l:List (List UInt8)):tailC true (p::l)=p++tailC false l:=joinC_flat p l
theorem tailC_false (p:List UInt8) (l:List (List UInt8)):tailC false (p::l)=58::(p++tailC false l):=by simp[tailC]
def restC (P:List Nat) (f n k:Nat):List UInt8:=
 if n<2 then tailC (k==0) ((P.drop k).map hex4)
 else if k≤f then tailC (k==0) (((P.take f).drop k).map hex4)++58::58::joinL 58 ((P.drop (f+n)).map hex4)
 else tailC (k==f+n) ((P.drop k).map hex4)
theorem rest_start (P:List Nat) {f n:Nat} (h:longR (zB P)=(f,n)):restC P f n 0=text6 P:=by
 have h':longR (P.map (·==0))=(f,n):=h;unfold restC text6;rw[h'];by_cases hn:n<2
 ·simp[hn,tailC]
 ·simp[hn,tailC]
theorem rest_skip {P:List Nat} {f n:Nat} (hn:2≤n) (hf:f≤P.length):restC P f n f=58::58::restC P f n (f+n):=by
 unfold restC;rw[if_neg (by omega),if_pos (Nat.le_refl _),if_neg (by omega),if_neg (by omega)];rw[List.drop_of_length_le (by simp;omega),List.map_nil,tailC_nil];simp[tailC]
theorem rest_colon {P:List Nat} {f n k:Nat} (hk:k<P.length) (h:n<2∨k<f∨f+n≤k) (hf:f≤P.length) (h0:0<k) (h1:n<2∨k≠f+n):restC P f n k=58::(hex4 P[k]++restC P f n (k+1)):=by
 have e0:(k==0)=false:=by simp;omega
 have e1:(k+1==0)=false:=by simp
 unfold restC;by_cases hn:n<2
 ·rw[if_pos hn,if_pos hn,List.drop_eq_getElem_cons hk,List.map_cons,e0,e1,tailC_false]
 ·rw[if_neg hn,if_neg hn]
  by_cases hkf:k<f
  ·have hkt:k<(P.take f).length:=by simp;omega
   rw[if_pos (by omega),if_pos (by omega),List.drop_eq_getElem_cons hkt,List.map_cons,e0,e1,tailC_false,List.getElem_take];simp
  ·have e2:(k==f+n)=false:=by simp;omega
   have e3:(k+1==f+n)=false:=by simp;omega
   rw[if_neg (by omega),if_neg (by omega),List.drop_eq_getElem_cons hk,List.map_cons,e2,e3,tailC_false]
theorem rest_plain {P:List Nat} {f n k:Nat} (hk:k<P.length) (h:n<2∨k<f∨f+n≤k) (hf:f≤P.length) (h1:k=0∨(2≤n∧k=f+n)):restC P f n k=hex4 P[k]++restC P f n (k+1):=by
 have e1:(k+1==0)=false:=by simp
 unfold restC;by_cases hn:n<2
 ·have e0:(k==0)=true:=by simp;omega
  rw[if_pos hn,if_pos hn,List.drop_eq_getElem_cons hk,List.map_cons,e0,e1,tailC_true]
 ·rw[if_neg hn,if_neg hn]
  by_cases hkf:k<f
  ·have e0:(k==0)=true:=by simp;omega
   have hkt:k<(P.take f).length:=by simp;omega
   rw[if_pos (by omega),if_pos (by omega),List.drop_eq_getElem_cons hkt,List.map_cons,e0,e1,tailC_true,List.getElem_take];simp
  ·have e2:(k==f+n)=true:=by simp;omega
   have e3:(k+1==f+n)=false:=by simp;omega
   rw[if_neg (by omega),if_neg (by omega),List.drop_eq_getElem_cons hk,List.map_cons,e2,e3,tailC_true]
theorem rest_end {P:List Nat} {f n k:Nat} (hk:P.length≤k) (h:n<2∨f<k):restC P f n k=[]:=by
 unfold restC;by_cases hn:n<2
 ·rw[if_pos hn,List.drop_of_length_le hk,List.map_nil,tailC_nil]
 ·rw[if_neg hn,if_neg (by omega),List.drop_of_length_le hk,List.map_nil,tailC_nil]
/-! ### Runs of nothing -/
theorem long_step (P:List Nat) {k:Nat} (h:k<P.length) (st:Nat×Nat):longF k (zB (P.drop k)) st=longF (k+1) (zB (P.drop (k+1))) (longStep k (zerosL (zB (P.drop k))) st):=by
 rw[List.drop_eq_getElem_cons h];rfl
theorem zeros_hit {P:List Nat} {j:Nat} (h:j<P.length) (h0:P[j]=0):zerosL (zB (P.drop j))=zerosL (zB (P.drop (j+1)))+1:=by
 rw[List.drop_eq_getElem_cons h];simp[zB,h0,zerosL]
theorem zeros_miss {P:List Nat} {j:Nat} (h:j<P.length) (h0:P[j]≠0):zerosL (zB (P.drop j))=0:=by
 have e:(P[j]==0)=false:=by simpa using h0
 rw[List.drop_eq_getElem_cons h];show zerosL ((P[j]==0)::zB (P.drop (j+1)))=0;rw[e];rfl
theorem zeros_end {P:List Nat} {j:Nat} (h:P.length≤j):zerosL (zB (P.drop j))=0:=by
 rw[List.drop_of_length_le h];rfl
open Go.RowKit
open Go.Sort
attribute [local go_sem] ba_append
def pC (P:List Nat) (k:Nat):Array Value:=((P.take k).map (fun n:Nat=>Value.int .i64 (n:Int))++List.replicate (8-k) (Value.int .i64 0)).toArray
theorem pC_size {P:List Nat} (h:P.length=8) {k:Nat} (hk:k≤8):(pC P k).size=8:=by simp[pC];omega
theorem pC_step {P:List Nat} {k:Nat} (h:P.length=8) (hk:k<8):(pC P k).setIfInBounds k (.int .i64 ((P[k]'(by omega):Nat):Int))=pC P (k+1):=by
 unfold pC;rw[List.setIfInBounds_toArray];congr 1;have hl:((P.take k).map (fun n:Nat=>Value.int .i64 (n:Int))).length=k:=by simp;omega
 rw[List.set_append_right _ _ (by omega),hl,Nat.sub_self,List.take_succ_eq_append_getElem (by omega:k<P.length),List.map_append,show 8-k=(8-(k+1))+1 by omega,List.replicate_succ,List.set_cons_zero];simp
theorem pC_at {P:List Nat} {j:Nat} (h:P.length=8) (hj:j<8):(pC P 8)[j]?=some (.int .i64 ((P[j]'(by omega):Nat):Int)):=by
 unfold pC;rw[List.take_of_length_le (by omega),Nat.sub_self,List.replicate_zero,List.append_nil];simp[List.getElem?_eq_getElem (show j<P.length by omega)]
theorem pairs_lt:∀ {b:List UInt8} {n:Nat},n∈pairsN b→n≤65535
 |a::c::r,n,h=>by
  rw[pairsN]at h;rcases List.mem_cons.1 h with rfl|h
  ·have:=a.toNat_lt;have:=c.toNat_lt;omega
  ·exact pairs_lt h
 |[],n,h=>by simp[pairsN]at h
 |[x],n,h=>by simp[pairsN]at h
structure PLay (w:World) (b:List UInt8) (P:List Nat) (k:Nat) (wr:World):Prop where
 box:Blk wr w.heap.size 186 (adC true b)
 arr:Blk wr (w.heap.size+1) 255 (pC P k)
 low:Below w.heap.size w wr
theorem PLay.step {w wr:World} {b:List UInt8} {P:List Nat} {k:Nat} (h:PLay w b P k wr) (hP:P.length=8) (hk:k<8):PLay w b P (k+1) (wr.setCell ⟨w.heap.size+1,k,none⟩ (.int .i64 ((P[k]'(by omega):Nat):Int))):=
 ⟨h.box.far (p:=⟨w.heap.size+1,k,none⟩) (by simp) _,by have:=h.arr.set_ k (.int .i64 ((P[k]'(by omega):Nat):Int));rwa[pC_step hP hk]at this,h.low.setCell (p:=⟨w.heap.size+1,k,none⟩) (by show _≤w.heap.size+1;omega) _⟩
theorem PLay.put {w wr:World} {b:List UInt8} {P:List Nat} {k:Nat} (h:PLay w b P k wr) (hP:P.length=8) (hk:k<8):(∃u,wr.cell? ⟨w.heap.size+1,k,none⟩=some u)∧wr.frozen? ⟨w.heap.size+1,k,none⟩=false∧w.heap.size+1<wr.heap.size:=by
 refine⟨?_,h.arr.frozen k,h.arr.lt⟩;rw[h.arr.cell k,Array.getElem?_eq_getElem (by rw[pC_size hP (by omega)];omega)];exact⟨_,rfl⟩
theorem PLay.drew {w wr:World} {b:List UInt8} {P:List Nat} {k:Nat} (h:PLay w b P k wr):PLay w b P k wr.drew:=⟨h.box.drew,h.arr.drew,h.low.drew⟩
set_option maxRecDepth 100000 in
theorem rtext_six_at (b:List UInt8) (P:List Nat) (hb:b.length=16) (hPl:P.length=8) (hPa:∀(k:Nat) (h:k<8),P[k]'(by omega)=256*(b[2*k]'(by omega)).toNat+(b[2*k+1]'(by omega)).toNat) (hPle:∀(k:Nat) (h:k<8),P[k]'(by omega)≤65535) (w:World):
 Calls Tryz.prog 211 #[.agg (adC true b)] w fun e w'=>e= .returned (.string ⟨(text6 P).toArray⟩)∧Below w.heap.size w w':=by
 have hB:=Blk.new w 186 (adC true b)
 have hc0:(w.alloc (.cells (adC true b) 186)).cell? ⟨w.heap.size,0,none⟩=some (.bool true):=by rw[hB.cell 0];exact adC_zero true b
 have hbw:=(Below.refl w.heap.size w).alloc (Nat.le_refl _) (.cells (adC true b) 186)
 have hsz:(w.alloc (.cells (adC true b) 186)).heap.size=w.heap.size+1:=World.size_alloc _ _
 go_enter Tryz.func211,Tryz.ntmps211
 go_upto_region 3 with fail
 generalize w.alloc (.cells (adC true b) 186)=W0 at*
 have hA1:Blk (W0.alloc (.cells (pC P 0) 255)) W0.heap.size 255 (pC P 0):=Blk.new W0 255 _
 have hB1:=hB.alloc (.cells (pC P 0) 255)
 have hb1:=hbw.alloc hbw.size (.cells (pC P 0) 255)
 rw[hsz]at hA1
 go_wp2_with fail
 have hlay:PLay w b P 0 (W0.alloc (.cells (pC P 0) 255)):=⟨hB1,hA1,hb1⟩
 revert hlay
 show PLay w b P 0 (W0.alloc (.cells #[.int .i64 0, .int .i64 0, .int .i64 0, .int .i64 0, .int .i64 0, .int .i64 0, .int .i64 0, .int .i64 0] 255))→_
 generalize W0.alloc (.cells #[.int .i64 0, .int .i64 0, .int .i64 0, .int .i64 0, .int .i64 0, .int .i64 0, .int .i64 0, .int .i64 0] 255)=W1
 intro hlay
 clear hA1 hB1 hb1 hB hbw hc0
 go_loopw [4] (fun i wr=>∃k:Nat,k≤8∧i= .int .i64 k∧Hid (PLay w b P k wr)) (fun i _=>8-(intOf i).toNat)
 case atStart=>exact⟨0,by omega,rfl,hlay⟩
 case round=>
  obtain⟨V,rfl⟩:∃V,V=wr:=⟨wr,rfl⟩;obtain⟨k,hk,rfl,HL⟩:=hrel;clear hlay;by_cases hlt:k<8
  ·have hx:=hPa k hlt
   have hN:=HL.out.step hPl hlt;obtain⟨⟨u,hu⟩,hf,hz⟩:=HL.out.put hPl hlt;have hca:V.cell? ⟨w.heap.size,1+2*k,none⟩=some (.int .u8 ((b[2*k]).toNat:Int)):=by
    rw[HL.out.box.cell];exact adC_at true b (by omega)
   have hcb:V.cell? ⟨w.heap.size,1+(2*k+1),none⟩=some (.int .u8 ((b[2*k+1]).toNat:Int)):=by
    rw[HL.out.box.cell];exact adC_at true b (by omega)
   have h8a:=(b[2*k]).toNat_lt;have h8b:=(b[2*k+1]).toNat_lt;have HN:=Lib.hid hN;have HX:=Lib.hid hx;clear hN hx hPa hPle;generalize b[2*k]=xa at*;generalize b[2*k+1]=xb at*;generalize P[k]=n at*;have t1:(2*(k:Int)).toNat=2*k:=by omega
   have t2:(2*(k:Int)+1).toNat=2*k+1:=by omega
   have wx1:IntKind.i64.wrap (xa.toNat:Int)=(xa.toNat:Int):=IntWalk.i64_in _ (by omega);have wx2:IntKind.i64.wrap (xb.toNat:Int)=(xb.toNat:Int):=IntWalk.i64_in _ (by omega);have wx3:IntKind.i64.wrap (2*(k:Int))=2*(k:Int):=IntWalk.i64_in _ (by omega);have wx4:IntKind.i64.wrap (2*(k:Int)+1)=2*(k:Int)+1:=IntWalk.i64_in _ (by omega);have wx5:IntKind.i64.wrap (256*(xa.toNat:Int))=256*(xa.toNat:Int):=IntWalk.i64_in _ (by omega);have wx6:IntKind.i64.wrap (256*(xa.toNat:Int)+(xb.toNat:Int))=256*(xa.toNat:Int)+(xb.toNat:Int):=IntWalk.i64_in _ (by omega);go_wp2_with fail;go_region;have hv:256*(xa.toNat:Int)+(xb.toNat:Int)=(n:Int):=by have:=HX.out;omega
   rw[hv];have HN2:=Lib.hid HN.out.drew;clear hca hcb hu hf HN;generalize (V.setCell ⟨w.heap.size+1,k,none⟩ (.int .i64 (n:Int))).drew=V2 at*;go_wp2_with fail;go_roundw
   case rel=>exact⟨k+1,by omega,by go_num,HN2⟩
   case measure=>simp[intOf];omega
  ·obtain rfl:k=8:=by omega
   have hP8:8≤P.length:=by omega
   have hP9:P.length≤8:=by omega
   have hpc:∀j (h:j<8),V.cell? ⟨w.heap.size+1,j,none⟩=some (.int .i64 ((P[j]'(Nat.lt_of_lt_of_le h hP8):Nat):Int)):=fun j h=>by rw[HL.out.arr.cell];exact pC_at hPl h
   have HPC:=Lib.hid hpc;have hpl:∀j (h:j<8),P[j]'(Nat.lt_of_lt_of_le h hP8)≤65535:=fun j h=>hPle j h
   have HPle:=Lib.hid hpl;have HPl:=Lib.hid hPl;have hA8:=HL.out.arr;have hb8:=HL.out.low;have hst:Hid (longR (zB P)=longF 0 (zB (P.drop 0)) (0,1)):=rfl;have hlz:(zB P).length=8:=by simp[zB];omega
   have HBL:=Lib.hid (best_long hlz).2;clear HL hpc hpl hPa hPle hPl hlz;go_wp2_with fail;go_loop [5,6,7,8] (fun fv nv i r=>∃f n k:Nat,k≤8∧fv= .int .i64 f∧nv= .int .i64 n∧i= .int .i64 k∧Hid (longR (zB P)=longF k (zB (P.drop k)) (f,n))) (fun _ _ i _=>8-(intOf i).toNat)
   case atStart=>exact⟨0,1,0,by omega,rfl,rfl,rfl,hst⟩
   case round=>
    obtain⟨f,n,k,hk,rfl,rfl,rfl,HF⟩:=hrel;clear hst;by_cases hlt:k<8
    ·have HS:=Lib.hid (HF.out.trans (long_step P (k:=k) (by omega) (f,n)))
     have hz0:Hid (zerosL (zB (P.drop k))=zerosL (zB (P.drop (k+0)))+0):=rfl;clear HF;go_wp2_with fail;go_loop [8] (fun r=>∃m:Nat,k+m≤8∧r= .int .i64 m∧Hid (zerosL (zB (P.drop k))=zerosL (zB (P.drop (k+m)))+m)) (fun r=>8-(intOf r).toNat)
     case atStart=>exact⟨0,by omega,rfl,hz0⟩
     case round=>
      obtain⟨m,hm,rfl,HZ⟩:=hrel;clear hz0;by_cases hlt2:k+m<8
      ·have hc:=HPC.out (k+m) hlt2
       have hhit:=fun (h0:P[k+m]'(by omega)=0)=>zeros_hit (P:=P) (j:=k+m) (by omega) h0
       have hmis:=fun (h0:P[k+m]'(by omega)≠0)=>zeros_miss (P:=P) (j:=k+m) (by omega) h0
       have tkm:((k:Int)+(m:Int)).toNat=k+m:=by omega
       generalize P[k+m]'(by omega)=x at*;by_cases hx:x=0
       ·subst hx
        have HZ2:Hid (zerosL (zB (P.drop k))=zerosL (zB (P.drop (k+(m+1))))+(m+1)):=by show _=_;rw[HZ.out,hhit rfl,Nat.add_assoc k m 1];omega
        clear hhit hmis HZ;go_wp2_with fail;go_round
        case rel=>exact⟨m+1,by omega,by go_num,HZ2⟩
        case measure=>simp[intOf];omega
       ·have hxi:((x:Int)==0)=false:=by simp;omega
        have hzm:zerosL (zB (P.drop k))=m:=by rw[HZ.out,hmis hx];omega
        have HS2:=HS.out;rw[hzm]at HS2;have HS3:=Lib.hid HS2;clear hhit hmis HZ HS HS2 hzm hx;by_cases hnm:n<m
        ·have e:longStep k m (f,n)=(k,m):=by simp[longStep,hnm]
         have HS4:=Lib.hid (e▸HS3.out);clear e HS3;go_wp2_with fail;go_round
         case rel=>(repeat apply Exists.intro);exact⟨⟨k,m,k+1,by omega,rfl,rfl,by go_num,HS4⟩,rfl,rfl,rfl⟩
         case measure=>simp[intOf];omega
        ·have e:longStep k m (f,n)=(f,n):=by simp[longStep,hnm]
         have HS4:=Lib.hid (e▸HS3.out);clear e HS3;go_wp2_with fail;go_round
         case rel=>(repeat apply Exists.intro);exact⟨⟨f,n,k+1,by omega,rfl,rfl,by go_num,HS4⟩,rfl,rfl,rfl⟩
         case measure=>simp[intOf];omega
      ·have hzm:zerosL (zB (P.drop k))=m:=by rw[HZ.out,zeros_end (by omega)];omega
       have HS2:=HS.out;rw[hzm]at HS2;have HS3:=Lib.hid HS2;clear HZ HS HS2 hzm;by_cases hnm:n<m
       ·have e:longStep k m (f,n)=(k,m):=by simp[longStep,hnm]
        have HS4:=Lib.hid (e▸HS3.out);clear e HS3;go_wp2_with fail;go_round
        case rel=>(repeat apply Exists.intro);exact⟨⟨k,m,k+1,by omega,rfl,rfl,by go_num,HS4⟩,rfl,rfl,rfl⟩
        case measure=>simp[intOf];omega
       ·have e:longStep k m (f,n)=(f,n):=by simp[longStep,hnm]
        have HS4:=Lib.hid (e▸HS3.out);clear e HS3;go_wp2_with fail;go_round
        case rel=>(repeat apply Exists.intro);exact⟨⟨f,n,k+1,by omega,rfl,rfl,by go_num,HS4⟩,rfl,rfl,rfl⟩
        case measure=>simp[intOf];omega
    ·obtain rfl:k=8:=by omega
     have hlr:longR (zB P)=(f,n):=by rw[HF.out,List.drop_of_length_le (by omega)];rfl
     have hfn:=HBL.out;rw[hlr]at hfn;simp only at hfn;obtain⟨hf8,hn1⟩:=hfn;have hr0:Hid ([]++restC P f n 0=text6 P):=rest_start P hlr;clear HF HBL hlr;go_wp2_with fail;go_loopw [9,10] (fun t i wr=>∃(k:Nat) (acc:List UInt8),k≤8∧i= .int .i64 k∧t= .string ⟨acc.toArray⟩∧acc.length≤24*k∧Hid (acc++restC P f n k=text6 P)∧(n<2∨k≤f∨f+n≤k)∧Hid (Below w.heap.size w wr)∧Hid (Blk wr (w.heap.size+1) 255 (pC P 8))) (fun _ i _=>8-(intOf i).toNat)
     case atStart=>exact⟨0,[],by omega,rfl,rfl,by simp,hr0,by omega,hb8,hA8⟩
     case round=>
      obtain⟨U,rfl⟩:∃V,V=wr:=⟨wr,rfl⟩;obtain⟨k,acc,hk,rfl,rfl,hal,HT,hfk,HW,HA⟩:=hrel;clear hr0 hA8 hb8 HPC;by_cases hlt:k<8
      ·have hc:U.cell? ⟨w.heap.size+1,k,none⟩=some (.int .i64 ((P[k]'(by omega):Nat):Int)):=by rw[HA.out.cell];exact pC_at HPl.out hlt
       have cx:=rdig_any 16 (.inr rfl) 20 (P[k]'(by omega)) (by omega) (by have:=HPle.out k hlt;omega) (HPle.out k hlt) U;have hk8:k<P.length:=by omega
       have hfP:f≤P.length:=by omega
       have hcol:=fun h h0 h1=>rest_colon (P:=P) (f:=f) (n:=n) (k:=k) hk8 h hfP h0 h1
       have hpla:=fun h h1=>rest_plain (P:=P) (f:=f) (n:=n) (k:=k) hk8 h hfP h1
       have hdl:=(digF_len 16 20 (P[k]'(by omega))).2;change Calls Tryz.prog 259 #[.int .i64 _, .int .i64 16] U _ at cx;have hp65:=HPle.out k hlt;unfold hex4 at hcol hpla;generalize digF 16 20 (P[k]'(by omega))=D at*;generalize P[k]'(by omega)=x at*;by_cases hn2:n=1
       ·have hn3:((n:Int)==1)=true:=by simp;omega
        have hn5:¬1<n:=by omega
        have HN1:=Lib.hid hn2;clear hn2;by_cases hk0:k=0
        ·have hk1:¬0<k:=by omega
         have HK0:=Lib.hid hk0;have HR:=Lib.hid (hpla (by omega) (by omega));clear hcol hpla hk0;go_wp2_with fail;go_at_call 259;refine cx.mono ?_;rintro e w2 ⟨rfl,hb2⟩;have hA2:=Lib.hid (HA.out.below hb2 HA.out.lt);have hW2:=Lib.hid (HW.out.trans (hb2.mono HW.out.size));clear cx hc hb2;go_wp2_with fail;go_roundw
         case rel=>exact⟨k+1,acc++[]++D,by omega,by go_num,by simp,by simp;omega,by show _=_;rw[←HT.out,HR.out];simp,by omega,hW2,hA2⟩
         case measure=>simp[intOf];omega
        ·have HR:=Lib.hid (hcol (by omega) (by omega) (by omega))
         have hk1:0<k:=by omega
         clear hcol hpla hk0;go_wp2_with fail;go_at_call 259;refine cx.mono ?_;rintro e w2 ⟨rfl,hb2⟩;have hA2:=Lib.hid (HA.out.below hb2 HA.out.lt);have hW2:=Lib.hid (HW.out.trans (hb2.mono HW.out.size));clear cx hc hb2;go_wp2_with fail;go_roundw
         case rel=>exact⟨k+1,acc++[58]++D,by omega,by go_num,by simp,by simp;omega,by show _=_;rw[←HT.out,HR.out];simp,by omega,hW2,hA2⟩
         case measure=>simp[intOf];omega
       ·have hn3:((n:Int)==1)=false:=by simp;omega
        have hn4:2≤n:=by omega
        by_cases hkf:k=f
        ·have HR:Hid (restC P f n k=58::58::restC P f n (k+n)):=by show _=_;rw[hkf];exact rest_skip (P:=P) (f:=f) (n:=n) (by omega) (by omega)
         have hkfi:((k:Int)==(f:Int))=true:=by simp;omega
         have HKF:=Lib.hid hkf;have hkn:k+n≤8:=by omega
         clear hcol hpla cx hc hkf;go_wp2_with fail;go_roundw
         case rel=>exact⟨k+n,acc++[58,58],by omega,by go_num,by simp,by simp;omega,by show _=_;rw[←HT.out,HR.out];simp,by have:=HKF.out;omega,HW,HA⟩
         case measure=>simp[intOf];omega
        ·have hkfi:((k:Int)==(f:Int))=false:=by simp;omega
         by_cases hk0:k=0
         ·have hk1:¬0<k:=by omega
          have HR:=Lib.hid (hpla (by omega) (by omega));have HK0:=Lib.hid hk0;clear hcol hpla hk0;go_wp2_with fail;go_at_call 259;refine cx.mono ?_;rintro e w2 ⟨rfl,hb2⟩;have hA2:=Lib.hid (HA.out.below hb2 HA.out.lt);have hW2:=Lib.hid (HW.out.trans (hb2.mono HW.out.size));clear cx hc hb2;go_wp2_with fail;go_roundw
          case rel=>exact⟨k+1,acc++[]++D,by omega,by go_num,by simp,by simp;omega,by show _=_;rw[←HT.out,HR.out];simp,by omega,hW2,hA2⟩
          case measure=>simp[intOf];omega
         ·have hk1:0<k:=by omega
          by_cases hfn:k=f+n
          ·have hfni:((k:Int) !=(f:Int)+(n:Int))=false:=by simp;omega
           have HR:=Lib.hid (hpla (by omega) (by omega));have HKF:=Lib.hid hfn;clear hcol hpla hfn;go_wp2_with fail;go_at_call 259;refine cx.mono ?_;rintro e w2 ⟨rfl,hb2⟩;have hA2:=Lib.hid (HA.out.below hb2 HA.out.lt);have hW2:=Lib.hid (HW.out.trans (hb2.mono HW.out.size));clear cx hc hb2;go_wp2_with fail;go_roundw
           case rel=>exact⟨k+1,acc++[]++D,by omega,by go_num,by simp,by simp;omega,by show _=_;rw[←HT.out,HR.out];simp,by have:=HKF.out;omega,hW2,hA2⟩
           case measure=>simp[intOf];omega
          ·have hfni:((k:Int) !=(f:Int)+(n:Int))=true:=by simp;omega
           have HR:=Lib.hid (hcol (by omega) (by omega) (by omega));clear hcol hpla;go_wp2_with fail;go_at_call 259;refine cx.mono ?_;rintro e w2 ⟨rfl,hb2⟩;have hA2:=Lib.hid (HA.out.below hb2 HA.out.lt);have hW2:=Lib.hid (HW.out.trans (hb2.mono HW.out.size));clear cx hc hb2;go_wp2_with fail;go_roundw
           case rel=>exact⟨k+1,acc++[58]++D,by omega,by go_num,by simp,by simp;omega,by show _=_;rw[←HT.out,HR.out];simp,by omega,hW2,hA2⟩
           case measure=>simp[intOf];omega
      ·obtain rfl:k=8:=by omega
       have hre:=rest_end (P:=P) (f:=f) (n:=n) (k:=8) (by omega) (by omega);have HE:Hid (acc=text6 P):=by show _=_;rw[←HT.out,hre,List.append_nil]
       clear hre;go_wp2_with fail;go_ret;exact⟨by rw[HE.out];rfl,HW.out⟩
theorem rtext_six (b:List UInt8) (hb:b.length=16) (w:World):
 Calls Tryz.prog 211 #[.agg (adC true b)] w fun e w'=>e= .returned (.string ⟨(text6 (pairsN b)).toArray⟩)∧Below w.heap.size w w':=by
 have hPl:=pairsN_len (b:=b) (n:=8) (by omega)
 exact rtext_six_at b (pairsN b) hb hPl (fun k h=>pairsN_at (b:=b) (k:=k) (by omega) (by omega)) (fun k h=>pairs_lt (List.getElem_mem _)) w
end Go.Proofs.YtlcnknlmdaochaaGreatDoor
