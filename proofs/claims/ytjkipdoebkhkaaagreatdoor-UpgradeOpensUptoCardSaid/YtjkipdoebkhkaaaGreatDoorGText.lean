/- Calls that make memory, in regions that draw their order; texts that a call owns, cut and joined. -/
import Derived.Lib.QuietBelow
import Derived.Test.YtjkipdoebkhkaaaGreatDoorGCnt
set_option linter.unusedVariables false
set_option linter.unusedSimpArgs false
set_option maxHeartbeats 16000000
namespace Go.Proofs.YtjkipdoebkhkaaaGreatDoor
open Go.RowKit
open Go.Sort
theorem quiet_reg {f:FuncId} {args:Array Value} {v:Value} {w1:World} (h:∀W,Below w1.heap.size w1 W→Calls Tryz.prog f args W fun e W'=>e= .returned v∧Below W.heap.size W W') (d:Nat) (os:Array Obj):
 Calls Tryz.prog f args (grow (redrawn w1 d) os) fun e w''=>e= .returned v∧∃p:Regrown,w''=grow (redrawn w1 p.d) p.os:=Calls.regrown_of (h _ (below_regrown w1 d os))
theorem join_own {base m:Nat} {v:Value} {w:World} (l:List (List UInt8)) (c:UInt8) (hm:l.length=m) (hown:w.ownsRow base 9 1 v m (strs l)) (hN:m≤4000000000) (hlen:(joinL c l).length≤4000000000):
 Calls Tryz.prog 88 #[v, .string ⟨#[c]⟩] w fun e w'=>e= .returned (.string ⟨(joinL c l).toArray⟩)∧Below w.heap.size w w':=by
 rcases own_open hown with ⟨rfl,h0,hl⟩|⟨g,cap,rfl,hb,hg,hn,_,hc⟩
 ·have:l=[]:=by simpa using hl
  subst this;exact(join_none none 0 c w).mono fun e w' ⟨he,hw⟩=>⟨he,hw▸Below.refl _ _⟩
 ·refine join_at g 0 cap m l c w hm (fun j hj=> ?_) hg hN hn hlen
  rw[Nat.zero_add];exact hc j _ (strs_get hj)
theorem join_to {base m:Nat} {v:Value} {w:World} (l:List (List UInt8)) (c:UInt8) (hm:l.length=m) (hown:w.ownsRow base 9 1 v m (strs l)) (hN:m≤4000000000) (p:Nat) (hp:p≤m) (hlen:(joinL c (l.take p)).length≤4000000000):
 ∃x,(∀W,(Instr.slice 59 v none (some (.int .i64 (p:Int))) none).run Tryz.prog W= .ok x W)∧∀W,Below w.heap.size w W→Calls Tryz.prog 88 #[x, .string ⟨#[c]⟩] W fun e w'=>e= .returned (.string ⟨(joinL c (l.take p)).toArray⟩)∧Below W.heap.size W w':=by
 have ht:Tryz.prog.underlying 59=some (.slice (Tryz.prog.elem 59)):=by kernel_rfl
 have hel:Tryz.prog.elem 59=9:=by kernel_rfl
 rcases own_open hown with ⟨rfl,rfl,hl⟩|⟨g,cap,rfl,hb,hg,hn,_,hc⟩
 ·have h0:p=0:=by omega
  subst h0;refine⟨.slice none 0 0,fun W=> ?_,fun W _=> ?_⟩
  ·rw[run_slice_h _ _ none 0 0 ht .i64 ((0:Nat):Int) (by omega) (by omega),hel,Tryz.sizeOf9 W]
   rfl
  ·rw[List.take_zero]
   exact(join_none none 0 c W).mono fun e w' ⟨he,hw⟩=>⟨he,hw▸Below.refl _ _⟩
 ·refine⟨.slice (some ⟨g,0,none⟩) p cap,fun W=> ?_,fun W hW=> ?_⟩
  ·rw[run_slice_h _ _ _ _ _ ht .i64 (p:Int) (by omega) (by omega),hel,Tryz.sizeOf9 W]
   simp only[Result.andThen,sliced,Int.toNat_natCast,Nat.sub_zero,Nat.zero_mul];by_cases h0:cap=0
   ·rw[if_pos h0]
   ·rw[if_neg h0];rfl
  ·refine join_at g 0 cap p (l.take p) c W (by rw[List.length_take];omega) (fun j hj=> ?_) (Nat.lt_of_lt_of_le hg hW.size) (by omega) (by omega) hlen
   rw[Nat.zero_add,hW.cell (p:=⟨g,j,none⟩) hg];have hj2:j<l.length:=by rw[List.length_take]at hj;omega
   rw[List.getElem_take];exact hc j _ (strs_get hj2)
theorem join_from {base m:Nat} {v:Value} {w:World} (l:List (List UInt8)) (c:UInt8) (hm:l.length=m) (hown:w.ownsRow base 9 1 v m (strs l)) (hN:m≤4000000000) (p:Nat) (hp:p≤m) (hlen:(joinL c (l.drop p)).length≤4000000000):
 ∃x,(∀W,(Instr.slice 59 v (some (.int .i64 (p:Int))) none none).run Tryz.prog W= .ok x W)∧∀W,Below w.heap.size w W→Calls Tryz.prog 88 #[x, .string ⟨#[c]⟩] W fun e w'=>e= .returned (.string ⟨(joinL c (l.drop p)).toArray⟩)∧Below W.heap.size W w':=by
 have ht:Tryz.prog.underlying 59=some (.slice (Tryz.prog.elem 59)):=by kernel_rfl
 have hel:Tryz.prog.elem 59=9:=by kernel_rfl
 rcases own_open hown with ⟨rfl,rfl,hl⟩|⟨g,cap,rfl,hb,hg,hn,_,hc⟩
 ·have h0:p=0:=by omega
  subst h0;refine⟨.slice none 0 0,fun W=> ?_,fun W _=> ?_⟩
  ·rw[run_slice_l _ _ none 0 0 ht .i64 ((0:Nat):Int) (by omega) (by omega),hel,Tryz.sizeOf9 W]
   rfl
  ·have hl0:l=[]:=List.length_eq_zero_iff.1 hm
   subst hl0;exact(join_none none 0 c W).mono fun e w' ⟨he,hw⟩=>⟨he,hw▸Below.refl _ _⟩
 ·refine⟨.slice (some (if cap=p then ⟨g,0,none⟩else ⟨g,p,none⟩)) (m-p) (cap-p),fun W=> ?_,fun W hW=> ?_⟩
  ·rw[run_slice_l _ _ _ _ _ ht .i64 (p:Int) (by omega) (by omega),hel,Tryz.sizeOf9 W]
   simp only[Result.andThen,sliced,Int.toNat_natCast,Nat.mul_one];by_cases h0:cap=p
   ·rw[if_pos h0,if_pos h0]
   ·rw[if_neg h0,if_neg h0,Option.map_some,Addr.add_lit,Nat.zero_add]
  ·by_cases h0:cap=p
   ·have hmp:m-p=0:=by omega
    rw[if_pos h0,hmp,List.drop_of_length_le (by omega)];exact(join_none _ _ c W).mono fun e w' ⟨he,hw⟩=>⟨he,hw▸Below.refl _ _⟩
   ·rw[if_neg h0]
    refine join_at g p (cap-p) (m-p) (l.drop p) c W (by rw[List.length_drop];omega) (fun j hj=> ?_) (Nat.lt_of_lt_of_le hg hW.size) (by omega) (by omega) hlen;rw[hW.cell (p:=⟨g,p+j,none⟩) hg];have hj2:p+j<l.length:=by rw[List.length_drop]at hj;omega
    rw[List.getElem_drop];exact hc (p+j) _ (strs_get hj2)
attribute [local go_sem] ba_append
def adC (six:Bool) (b:List UInt8):Array Value:=(Value.bool six::byts b).toArray
theorem adC_zero (six:Bool) (b:List UInt8):(adC six b)[0]?=some (.bool six):=rfl
theorem adC_at (six:Bool) (b:List UInt8) {j:Nat} (h:j<b.length):(adC six b)[1+j]?=some (.int .u8 ((b[j]).toNat:Int)):=by
 unfold adC;rw[List.getElem?_toArray,Nat.add_comm,List.getElem?_cons_succ,byts_get h]
theorem adC_size (six:Bool) (b:List UInt8):(adC six b).size=b.length+1:=by simp[adC]
theorem take_map_snoc {α β:Type} (f:α→β) {l:List α} {k:Nat} (h:k<l.length):(l.take (k+1)).map f=(l.take k).map f++[f l[k]]:=by
 rw[List.take_succ_eq_append_getElem h,List.map_append];rfl
theorem dec8_le (n:Nat):(dec8 n).length≤21:=(digF_len 10 20 n).2
set_option maxRecDepth 100000 in
theorem text_four (b:List UInt8) (hb:b.length=16) (w:World) (hp:Pow10 w):
 Calls Tryz.prog 175 #[.agg (adC false b)] w fun e w'=>e= .returned (.string ⟨(text4 ((b.take 4).map (·.toNat))).toArray⟩)∧Below w.heap.size w w':=by
 have hB:=Blk.new w 132 (adC false b)
 have hc0:=hB.cell 0
 rw[adC_zero]at hc0
 have hbw:=(Below.refl w.heap.size w).alloc (Nat.le_refl _) (.cells (adC false b) 132)
 have hsz:(w.alloc (.cells (adC false b) 132)).heap.size=w.heap.size+1:=World.size_alloc _ _
 go_enter Tryz.func175,Tryz.ntmps175
 go_wp2_with fail
 go_loopw [3,16] (fun v i wr=>∃k:Nat,k≤4∧i= .int .i64 k∧Hid (wr.ownsRow (w.heap.size+1) 9 1 v k (strs ((b.take k).map fun c=>dec8 c.toNat)))∧Hid (Blk wr w.heap.size 132 (adC false b))∧Hid (Below w.heap.size w wr)∧w.heap.size+1≤wr.heap.size) (fun _ i _=>4-(intOf i).toNat)
 case atStart=>exact⟨0,by omega,rfl,by show World.ownsRow _ _ _ _ _ _ _;exact World.ownsRow_nil _ _ _ _,hB,hbw,by rw[hsz];omega⟩
 case round=>
  obtain⟨V,rfl⟩:∃V,V=wr:=⟨wr,rfl⟩;obtain⟨k,hk,rfl,HO,HB,HW,hz⟩:=hrel;clear hB hc0 hbw hsz;by_cases hlt:k<4
  ·have hkb:k<b.length:=by omega
   have hc:=HB.out.cell (1+k);rw[adC_at false b hkb]at hc;have hn:=take_map_snoc (fun c:UInt8=>dec8 c.toNat) hkb;have h8:=(b[k]).toNat_lt;have ci:=itoa_any (b[k]).toNat (by omega) V (hp.below HW.out);generalize b[k]=x at*;have HN:=Lib.hid hn;clear hn;go_wp2_with fail;go_at_call 91;refine ci.mono ?_;rintro e w2 ⟨rfl,hb2⟩;have hown:=own_below HO.out hb2;have hz2:w.heap.size+1≤w2.heap.size:=Nat.le_trans hz hb2.size;go_wp2_with(at_builtin;refine wpList_append_vals e_str _ rfl _ _ rfl (w.heap.size+1) _ _ _ rfl hown _ _ _ rfl rfl (fun u hu=>by simp only[List.mem_cons,List.not_mem_nil,or_false]at hu;rcases hu with rfl;rfl) (by simp;omega) (by simp;omega) hz2 ?_);intro v' w3 hown3 hgr _;have HO3:Hid (w3.ownsRow (w.heap.size+1) 9 1 v' (k+1) (strs ((b.take (k+1)).map fun c=>dec8 c.toNat))):=by
    show World.ownsRow _ _ _ _ _ _ _;rw[HN.out];simpa[strs]using hown3
   have hne:u3.ownBlock≠some w.heap.size:=fun e=>by have:=(hown.lt _ e).1;omega
   have HB3:=Lib.hid ((HB.out.below hb2 HB.out.lt).grown hgr (Ne.symm hne));have HW3:=Lib.hid ((HW.out.trans (hb2.mono HW.out.size)).grown hgr (by omega) (fun g hg=>by have:=(hown.lt g hg).1;omega));have hz3:w.heap.size+1≤w3.heap.size:=by have:=hgr.size;omega
   clear hown hown3 hgr hc hb2 hne;go_wp2_with fail;go_roundw
   case rel=>exact⟨k+1,by omega,by go_num,HO3,HB3,HW3,hz3⟩
   case measure=>simp[intOf];omega
  ·obtain rfl:k=4:=by omega
   have hj:=joinL_le 46 (l:=(b.take 4).map fun c=>dec8 c.toNat) (n:=21) (fun p hp=>by obtain⟨c,_,rfl⟩:=List.mem_map.1 hp;exact dec8_le _);have hl:((b.take 4).map fun c:UInt8=>dec8 c.toNat).length=4:=by simp;omega
   rw[hl]at hj;have cj:=join_own _ 46 hl HO.out (by omega) (by omega);have ht:text4 ((b.take 4).map (·.toNat))=joinL 46 ((b.take 4).map fun c=>dec8 c.toNat):=by unfold text4;rw[List.map_map];rfl
   have HT:=Lib.hid ht;clear ht hj hl;generalize joinL 46 ((b.take 4).map fun c=>dec8 c.toNat)=T at*;go_wp2_with fail;go_at_call 88;refine cj.mono ?_;rintro e w2 ⟨rfl,hb2⟩;go_wp2_with fail;go_ret;exact⟨by rw[HT.out];rfl,HW.out.trans (hb2.mono HW.out.size)⟩
theorem pairsN_len:∀ {b:List UInt8} {n:Nat},b.length=2*n→(pairsN b).length=n
 |[],n,h=>by
  obtain rfl:n=0:=by simp at h;omega
  rfl
 |[a],n,h=>by simp at h;omega
 |a::c::r,n,h=>by
  simp only[List.length_cons]at h;obtain⟨m,rfl⟩:∃m,n=m+1:=⟨n-1,by omega⟩;rw[pairsN,List.length_cons,pairsN_len (n:=m) (by omega)]
theorem pairsN_at:∀ {b:List UInt8} {k:Nat} (h:2*k+1<b.length) (hk:k<(pairsN b).length),(pairsN b)[k]=256*(b[2*k]).toNat+(b[2*k+1]).toNat
 |[],k,h,_=>by simp at h
 |[a],k,h,_=>by simp at h
 |a::c::r,0,h,_=>rfl
 |a::c::r,k+1,h,hk=>by
  simp only[List.length_cons]at h;have hk':k<(pairsN r).length:=by simpa[pairsN]using hk
  have:=pairsN_at (b:=r) (k:=k) (by omega) hk';simp only[pairsN,List.getElem_cons_succ];rw[this];rfl
def zB (P:List Nat):List Bool:=P.map (·==0)
theorem best_long {z:List Bool} (h:z.length=8):(if (bestR z).2<2 then (0,1)else bestR z)=longR z∧(longR z).1+(longR z).2≤8∧1≤(longR z).2:=by
 match z,h with
 |[a,b,c,d,e,f,g,i],_=>exact⟨runs_eq a b c d e f g i,long_bd a b c d e f g i⟩
theorem text6_few {P:List Nat} (h:P.length=8) (hb:(bestR (zB P)).2<2):text6 P=joinL 58 (P.map hex4):=by
 have h1:=(best_long (z:=zB P) (by simp[zB,h])).1;rw[if_pos hb]at h1;unfold text6;show(if (longR (zB P)).2<2 then _ else _)=_;rw[←h1,if_pos (by decide)]
theorem text6_many {P:List Nat} (h:P.length=8) {f n:Nat} (hb:bestR (zB P)=(f,n)) (h2:2≤n):f+n≤8∧text6 P=joinL 58 ((P.map hex4).take f)++[58,58]++joinL 58 ((P.map hex4).drop (f+n)):=by
 obtain⟨h1,h3,_⟩:=best_long (z:=zB P) (by simp[zB,h]);rw[hb,if_neg (by simp;omega)]at h1;refine⟨by rw[←h1]at h3;exact h3, ?_⟩;unfold text6;show(if (longR (zB P)).2<2 then _ else joinL 58 ((P.take (longR (zB P)).1).map hex4)++[58,58]++joinL 58 ((P.drop ((longR (zB P)).1+(longR (zB P)).2)).map hex4))=_;rw[←h1,if_neg (by simp;omega),List.map_take,List.map_drop]
theorem runsF_step (P:List Nat) {k:Nat} (h:k<P.length) (st:Runs):runsF k (zB (P.drop k)) st=runsF (k+1) (zB (P.drop (k+1))) (runStep k (P[k]==0) st):=by
 rw[List.drop_eq_getElem_cons h];rfl
theorem hex4_le (n:Nat):(hex4 n).length≤21:=(digF_len 16 20 n).2
structure T6 (w:World) (b:List UInt8) (P:List Nat) (k:Nat) (st:Runs) (v:Value) (wr:World):Prop where
 own:wr.ownsRow (w.heap.size+3) 9 1 v k (strs ((P.take k).map hex4))
 box:Blk wr w.heap.size 132 (adC true b)
 now:Blk wr (w.heap.size+1) 272 #[.int .i64 (st.1.1:Int), .int .i64 (st.1.2:Int)]
 best:Blk wr (w.heap.size+1+1) 272 #[.int .i64 (st.2.1:Int), .int .i64 (st.2.2:Int)]
 low:Below w.heap.size w wr
 hz:w.heap.size+3≤wr.heap.size
 few:st.1.1≤8∧st.1.2≤k∧st.2.1≤8∧st.2.2≤k
theorem t6_start (w:World) (b:List UInt8) (P:List Nat):T6 w b P 0 ((0,0),(0,0)) (.slice none 0 0) (((w.alloc (.cells (adC true b) 132)).alloc (.cells #[.int .i64 0, .int .i64 0] 272)).alloc (.cells #[.int .i64 0, .int .i64 0] 272)):=by
 have s1:=World.size_alloc w (.cells (adC true b) 132);have s2:=World.size_alloc (w.alloc (.cells (adC true b) 132)) (.cells #[.int .i64 0, .int .i64 0] 272);have n1:=Blk.new (w.alloc (.cells (adC true b) 132)) 272 #[.int .i64 0, .int .i64 0];have n2:=Blk.new ((w.alloc (.cells (adC true b) 132)).alloc (.cells #[.int .i64 0, .int .i64 0] 272)) 272 #[.int .i64 0, .int .i64 0];rw[s1]at n1;rw[s2,s1]at n2;exact⟨World.ownsRow_nil _ _ _ _,((Blk.new w _ _).alloc _).alloc _,n1.alloc _,n2,(((Below.refl _ w).alloc (Nat.le_refl _) _).alloc (by omega) _).alloc (by omega) _,by rw[World.size_alloc];omega,by simp⟩
theorem T6.keep {w wr:World} {b:List UInt8} {P:List Nat} {k:Nat} {st:Runs} {v:Value} (h:T6 w b P k st v wr) (g:Nat) (hg:w.heap.size≤g∧g<w.heap.size+3) (o:Nat) (u:Value):
 (wr.setCell ⟨g,o,none⟩ u).ownsRow (w.heap.size+3) 9 1 v k (strs ((P.take k).map hex4))∧Below w.heap.size w (wr.setCell ⟨g,o,none⟩ u)∧w.heap.size+3≤(wr.setCell ⟨g,o,none⟩ u).heap.size:=
 ⟨ownsRow_setCell_other h.own (a:=⟨g,o,none⟩) (fun e=>by have:=(h.own.lt _ e).1;simp at this;omega) u,h.low.setCell (p:=⟨g,o,none⟩) hg.1 u,by have:=h.hz;simpa using this⟩
theorem T6.now0 {w wr:World} {b:List UInt8} {P:List Nat} {k:Nat} {st:Runs} {v:Value} (h:T6 w b P k st v wr) (y:Nat) (u:Value) (hu:u= .int .i64 (y:Int)) (hy:y≤8):T6 w b P k ((y,st.1.2),st.2) v (wr.setCell ⟨w.heap.size+1,0,none⟩ u):=by
 subst hu;obtain⟨h1,h2,h3⟩:=h.keep (w.heap.size+1) (by omega) 0 (.int .i64 (y:Int));exact⟨h1,h.box.far (p:=⟨w.heap.size+1,0,none⟩) (by simp) _,h.now.set_ 0 _,h.best.far (p:=⟨w.heap.size+1,0,none⟩) (by simp) _,h2,h3,by have:=h.few;exact⟨hy,this.2⟩⟩
theorem T6.now1 {w wr:World} {b:List UInt8} {P:List Nat} {k:Nat} {st:Runs} {v:Value} (h:T6 w b P k st v wr) (y:Nat) (u:Value) (hu:u= .int .i64 (y:Int)) (hy:y≤k):T6 w b P k ((st.1.1,y),st.2) v (wr.setCell ⟨w.heap.size+1,1,none⟩ u):=by
 subst hu;obtain⟨h1,h2,h3⟩:=h.keep (w.heap.size+1) (by omega) 1 (.int .i64 (y:Int));exact⟨h1,h.box.far (p:=⟨w.heap.size+1,1,none⟩) (by simp) _,h.now.set_ 1 _,h.best.far (p:=⟨w.heap.size+1,1,none⟩) (by simp) _,h2,h3,by have:=h.few;exact⟨this.1,hy,this.2.2⟩⟩
theorem T6.best0 {w wr:World} {b:List UInt8} {P:List Nat} {k:Nat} {st:Runs} {v:Value} (h:T6 w b P k st v wr) (y:Nat) (u:Value) (hu:u= .int .i64 (y:Int)) (hy:y≤8):T6 w b P k (st.1,(y,st.2.2)) v (wr.setCell ⟨w.heap.size+1+1,0,none⟩ u):=by
 subst hu;obtain⟨h1,h2,h3⟩:=h.keep (w.heap.size+1+1) (by omega) 0 (.int .i64 (y:Int));exact⟨h1,h.box.far (p:=⟨w.heap.size+1+1,0,none⟩) (by simp;omega) _,h.now.far (p:=⟨w.heap.size+1+1,0,none⟩) (by simp) _,h.best.set_ 0 _,h2,h3,by have:=h.few;exact⟨this.1,this.2.1,hy,this.2.2.2⟩⟩
theorem T6.best1 {w wr:World} {b:List UInt8} {P:List Nat} {k:Nat} {st:Runs} {v:Value} (h:T6 w b P k st v wr) (y:Nat) (u:Value) (hu:u= .int .i64 (y:Int)) (hy:y≤k):T6 w b P k (st.1,(st.2.1,y)) v (wr.setCell ⟨w.heap.size+1+1,1,none⟩ u):=by
 subst hu;obtain⟨h1,h2,h3⟩:=h.keep (w.heap.size+1+1) (by omega) 1 (.int .i64 (y:Int));exact⟨h1,h.box.far (p:=⟨w.heap.size+1+1,1,none⟩) (by simp;omega) _,h.now.far (p:=⟨w.heap.size+1+1,1,none⟩) (by simp) _,h.best.set_ 1 _,h2,h3,by have:=h.few;exact⟨this.1,this.2.1,this.2.2.1,hy⟩⟩
set_option maxRecDepth 100000 in
theorem text_six (b:List UInt8) (hb:b.length=16) (w:World) (hd:Deb16 w):
 Calls Tryz.prog 175 #[.agg (adC true b)] w fun e w'=>e= .returned (.string ⟨(text6 (pairsN b)).toArray⟩)∧Below w.heap.size w w':=by
 have hst:=t6_start w b (pairsN b)
 have hc0:=hst.box.cell 0
 have hB:=(Blk.new w 132 (adC true b)).cell 0
 rw[adC_zero]at hc0 hB
 have hPl:=pairsN_len (b:=b) (n:=8) (by omega)
 have hPa:=fun k (h:k<8)=>pairsN_at (b:=b) (k:=k) (by omega) (by omega)
 go_enter Tryz.func175,Tryz.ntmps175
 go_wp2_with fail
 go_loopw [3,8] (fun v i wr=>∃(k m:Nat) (st:Runs),k≤8∧m≤2*k∧2*k≤m∧i= .int .i64 (m:Int)∧Hid (runsF 0 (zB (pairsN b)) ((0,0),(0,0))=runsF k (zB ((pairsN b).drop k)) st)∧Hid (T6 w b (pairsN b) k st v wr)) (fun _ i _=>16-(intOf i).toNat)
 case atStart=>exact⟨0,0,_,by omega,by omega,by omega,rfl,rfl,hst⟩
 case round=>
  obtain⟨V,rfl⟩:∃V,V=wr:=⟨wr,rfl⟩;obtain⟨k,m,st,hk,hm1,hm2,rfl,H,HM⟩:=hrel;clear hst hc0 hB;by_cases hlt:k<8
  ·have hx:=hPa k hlt
   have hrs:=runsF_step (pairsN b) (k:=k) (by omega) st;have hn:=take_map_snoc hex4 (show k<(pairsN b).length by omega);have em:m=2*k:=by omega
   have hca:V.cell? ⟨w.heap.size,1+m,none⟩=some (.int .u8 ((b[2*k]).toNat:Int)):=by
    rw[HM.out.box.cell];simp only[em];exact adC_at true b (by omega)
   have hcb:V.cell? ⟨w.heap.size,1+(m+1),none⟩=some (.int .u8 ((b[2*k+1]).toNat:Int)):=by
    rw[HM.out.box.cell];simp only[em];exact adC_at true b (by omega)
   have h8a:=(b[2*k]).toNat_lt;have h8b:=(b[2*k+1]).toNat_lt;have HH:Hid _:=hrs;have HN:=Lib.hid hn;have HX:=Lib.hid hx;clear hrs hn hx hPa em;generalize b[2*k]=xa at*;generalize b[2*k+1]=xb at*;generalize (pairsN b)[k]=n at*;have hwa:(m:Int)<16:=by omega
   go_wp2_with fail;have wr1:IntKind.i64.wrap ((m:Int)+1)=(m:Int)+1:=IntWalk.i64_in _ (by omega);have t1:((m:Int)+1).toNat=m+1:=by omega
   have u1:0≤(m:Int)+1∧(m:Int)+1<16:=by omega
   go_quiet (fail);have hor:bits BinOp.or IntKind.i64 ((xa.toNat:Int)*256) (xb.toNat:Int)=(n:Int):=by
    have h:= @or_add xa.toNat xb.toNat 8 (by omega) (by omega);rw[show((xa.toNat:Int)*256)=((2^8*xa.toNat:Nat):Int)by omega,h,HX.out]
   have hn16:n<4294967296:=by rw[HX.out];omega
   clear wr1 t1 u1 hca hcb;have HM1:Hid (T6 w b (pairsN b) k st u3 (V.drewN nq)):=⟨HM.out.own,HM.out.box,HM.out.now,HM.out.best,below_drewN HM.out.low _,HM.out.hz,HM.out.few⟩;have cf:=fmt16_any n hn16 (V.drewN nq) (hd.below HM1.out.low);generalize V.drewN nq=W at*;go_wp2_with fail;rw[hor];go_at_call 228;refine cf.mono ?_;rintro e w2 ⟨rfl,hb2⟩;have hown:=own_below HM1.out.own hb2;have hz2:w.heap.size+3≤w2.heap.size:=Nat.le_trans HM1.out.hz hb2.size;have hno:=HM1.out.now.below hb2 HM1.out.now.lt;have hbe:=HM1.out.best.below hb2 HM1.out.best.lt;have hbo:=HM1.out.box.below hb2 HM1.out.box.lt;have hlo:=HM1.out.low.trans (hb2.mono HM1.out.low.size);go_wp2_with(at_builtin;refine wpList_append_vals e_str _ rfl _ _ rfl (w.heap.size+3) _ _ _ rfl hown _ _ _ rfl rfl (fun u hu=>by simp only[List.mem_cons,List.not_mem_nil,or_false]at hu;rcases hu with rfl;rfl) (by simp;omega) (by simp;omega) hz2 ?_);intro v' w3 hown3 hgr _;have hown4:w3.ownsRow (w.heap.size+3) 9 1 v' (k+1) (strs (((pairsN b).take (k+1)).map hex4)):=by
    rw[HN.out];simpa[strs,hex4]using hown3
   have hne:∀g,g<w.heap.size+3→some g≠u3.ownBlock:=fun g hg e=>by have:=(hown.lt g e.symm).1;omega
   have hno3:=hno.grown hgr (hne _ (by omega));have hbe3:=hbe.grown hgr (hne _ (by omega));have hbo3:=hbo.grown hgr (hne _ (by omega));have hlo3:=hlo.grown hgr (by omega) (fun g hg=>by have:=(hown.lt g hg).1;omega);have hz3:w.heap.size+3≤w3.heap.size:=by have:=hgr.size;omega
   have HM3:Hid (T6 w b (pairsN b) (k+1) st v' w3):=⟨hown4,hbo3,hno3,hbe3,hlo3,hz3,by have:=HM.out.few;omega⟩;clear hno hbe hbo hlo hown hown3 hgr hne hb2 hz2 hown4 hbo3 hlo3 cf HM1 hor;have n0:=hno3.cell 0;have n1:=hno3.cell 1;have m0:=hno3.frozen 0;have m1:=hno3.frozen 1;have b0:=hbe3.cell 0;have b1:=hbe3.cell 1;have p0:=hbe3.frozen 0;have p1:=hbe3.frozen 1;have hfew:=HM.out.few;simp only[List.getElem?_toArray,List.getElem?_cons_zero,List.getElem?_cons_succ]at n0 n1 b0 b1;clear hno3 hbe3 HM HN;obtain⟨⟨nf,nn⟩,bf,bn⟩:=st;simp only at hfew n0 n1 b0 b1;have hmk:(m:Int)/2=(k:Int):=by omega
   by_cases hn0:n=0
   ·subst hn0
    by_cases hz0:nf=0∧nn=0
    ·obtain⟨rfl,rfl⟩:=hz0
     by_cases hbn:bn=0
     ·subst hbn
      go_wp2_with fail;go_roundw
      case rel=>exact⟨k+1,m+2,((k,1),(k,1)),by omega,by omega,by omega,by go_num,by show _=_;rw[H.out,HH.out];congr 1<;>simp[runStep],(((HM3.out.now0 k _ rfl (by omega)).now1 1 _ rfl (by omega)).best0 k _ rfl (by omega)).best1 1 _ rfl (by omega)⟩
      case measure=>simp[intOf];omega
     ·have hb1:1≤(bn:Int):=by omega
      have hb2:¬bn<1:=by omega
      go_wp2_with fail;go_roundw
      case rel=>exact⟨k+1,m+2,((k,1),(bf,bn)),by omega,by omega,by omega,by go_num,by show _=_;rw[H.out,HH.out];congr 1<;>simp[runStep,hb2,hbn],(HM3.out.now0 k _ rfl (by omega)).now1 1 _ rfl (by omega)⟩
      case measure=>simp[intOf];omega
    ·by_cases hbn:bn<nn+1
     ·have hbi:(bn:Int)<(nn:Int)+1:=by omega
      by_cases hf0:nf=0
      ·subst hf0
       have hn0:¬nn=0:=fun h=>hz0 ⟨rfl,h⟩
       go_wp2_with fail;go_roundw
       case rel=>exact⟨k+1,m+2,((0,nn+1),(0,nn+1)),by omega,by omega,by omega,by go_num,by show _=_;rw[H.out,HH.out];congr 1<;>simp[runStep,hn0,hbn],((HM3.out.now1 (nn+1) _ (by go_num) (by omega)).best0 0 _ rfl (by omega)).best1 (nn+1) _ (by go_num) (by omega)⟩
       case measure=>simp[intOf];omega
      ·
        go_wp2_with fail
        go_roundw
        case rel=>exact⟨k+1,m+2,((nf,nn+1),(nf,nn+1)),by omega,by omega,by omega,by go_num,by show _=_;rw[H.out,HH.out];congr 1<;>simp[runStep,hf0,hbn],((HM3.out.now1 (nn+1) _ (by go_num) (by omega)).best0 nf _ rfl (by omega)).best1 (nn+1) _ (by go_num) (by omega)⟩
        case measure=>simp[intOf];omega
     ·have hbi:¬(bn:Int)<(nn:Int)+1:=by omega
      by_cases hf0:nf=0
      ·subst hf0
       have hn0:¬nn=0:=fun h=>hz0 ⟨rfl,h⟩
       go_wp2_with fail;go_roundw
       case rel=>exact⟨k+1,m+2,((0,nn+1),(bf,bn)),by omega,by omega,by omega,by go_num,by show _=_;rw[H.out,HH.out];congr 1<;>simp[runStep,hn0,hbn],HM3.out.now1 (nn+1) _ (by go_num) (by omega)⟩
       case measure=>simp[intOf];omega
      ·
        go_wp2_with fail
        go_roundw
        case rel=>exact⟨k+1,m+2,((nf,nn+1),(bf,bn)),by omega,by omega,by omega,by go_num,by show _=_;rw[H.out,HH.out];congr 1<;>simp[runStep,hf0,hbn],HM3.out.now1 (nn+1) _ (by go_num) (by omega)⟩
        case measure=>simp[intOf];omega
   ·have hni:¬(n:Int)=0:=by omega
    go_wp2_with fail;go_roundw
    case rel=>exact⟨k+1,m+2,((0,0),(bf,bn)),by omega,by omega,by omega,by go_num,by show _=_;rw[H.out,HH.out];congr 1<;>simp[runStep,hn0],(HM3.out.now0 0 _ rfl (by omega)).now1 0 _ rfl (by omega)⟩
    case measure=>simp[intOf];omega
  ·obtain rfl:k=8:=by omega
   have hend:bestR (zB (pairsN b))=st.2:=by
    unfold bestR;rw[H.out,List.drop_of_length_le (by omega)];rfl
   have b0:=HM.out.best.cell 0;have b1:=HM.out.best.cell 1;simp only[List.getElem?_toArray,List.getElem?_cons_zero,List.getElem?_cons_succ]at b0 b1;have hown:=HM.out.own;rw[List.take_of_length_le (by omega)]at hown;have hlo:=HM.out.low;have hfew:=HM.out.few;have hPm:((pairsN b).map hex4).length=8:=by simp[hPl]
   have hle:∀q∈(pairsN b).map hex4,q.length≤21:=fun q hq=>by obtain⟨c,_,rfl⟩:=List.mem_map.1 hq;exact hex4_le _
   obtain⟨nw,bf,bn⟩:=st;simp only at hend b0 b1 hfew;clear hPa H HM;have hmi:¬(m:Int)<16:=by omega
   by_cases hb2:bn<2
   ·have ht:=text6_few hPl (by rw[hend];exact hb2)
    have HT:=Lib.hid ht;have hj:=joinL_le 58 hle;rw[hPm]at hj;have cj:=join_own _ 58 hPm hown (by omega) (by omega);clear ht hend hj;generalize joinL 58 ((pairsN b).map hex4)=T at*;go_wp2_with fail;go_at_call 88;refine cj.mono ?_;rintro e w2 ⟨rfl,hb2⟩;go_wp2_with fail;go_ret;exact⟨by rw[HT.out];rfl,hlo.trans (hb2.mono hlo.size)⟩
   ·obtain⟨h8,ht⟩:=text6_many hPl hend (by omega)
    have HT:=Lib.hid ht;have hj1:=joinL_le 58 (l:=((pairsN b).map hex4).take bf) (n:=21) (fun q hq=>hle q (List.mem_of_mem_take hq));have hj2:=joinL_le 58 (l:=((pairsN b).map hex4).drop (bf+bn)) (n:=21) (fun q hq=>hle q (List.mem_of_mem_drop hq));rw[List.length_take]at hj1;rw[List.length_drop]at hj2;obtain⟨x,hx,cx⟩:=join_to _ 58 hPm hown (by omega) bf (by omega) (by omega);obtain⟨y,hy,cy⟩:=join_from _ 58 hPm hown (by omega) (bf+bn) (by omega) (by omega);have ey:((bf+bn:Nat):Int)=(bf:Int)+(bn:Int):=by omega
    rw[ey]at hy;clear ht hend ey;generalize joinL 58 (((pairsN b).map hex4).take bf)=T1 at*;generalize joinL 58 (((pairsN b).map hex4).drop (bf+bn))=T2 at*;have kx:∀d os,_:=quiet_reg (w1:=V) cx;have ky:∀d os,_:=quiet_reg (w1:=V) cy;have wr0:IntKind.i64.wrap ((bf:Int)+(bn:Int))=(bf:Int)+(bn:Int):=IntWalk.i64_in _ (by omega);have hl1:T1.length≤200:=by omega
    have hl2:T2.length≤200:=by omega
    have s1:¬9223372036854775807<T1.length+2:=by omega
    have s2:¬9223372036854775807<T1.length+2+T2.length:=by omega
    have s3:¬9223372036854775807<T1.length+(T2.length+1+1):=by omega
    have r0:=fun d os=>cell_regrown b0 d os
    have r1:=fun d os=>cell_regrown b1 d os
    go_wp2_with fail;refine wp_region_quiet_below (by kernel_rfl) (by kernel_rfl) ?_
    repeat(quiet_step (first|(with_reducible exact kx _ _)|(with_reducible exact ky _ _)))
    refine wpQuiet_nil ?_;intro _ hw';obtain⟨⟨dq,osq⟩,hw''⟩:=hw';subst hw'';have hb3:=hlo.trans ((below_regrown V dq osq).mono hlo.size);generalize grow (redrawn V dq) osq=w3 at*;go_wp2_with fail;go_ret;exact⟨by rw[HT.out,List.append_assoc];rfl,hb3⟩
end Go.Proofs.YtjkipdoebkhkaaaGreatDoor
