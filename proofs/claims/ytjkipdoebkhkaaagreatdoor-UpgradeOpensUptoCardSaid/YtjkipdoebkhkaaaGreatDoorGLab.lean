/- ascii.Lower and the reference's: both lay great letters small. -/
import Derived.Test.YtjkipdoebkhkaaaGreatDoorGIns
import Derived.Test.YtjkipdoebkhkaaaGreatDoorGEnc
set_option linter.unusedVariables false
set_option linter.unusedSimpArgs false
set_option maxHeartbeats 16000000
namespace Go.Proofs.YtjkipdoebkhkaaaGreatDoor
open Go.RowKit
def lowN (c:Nat):Nat:=if 65≤c∧c≤90 then c+32 else c
def lowB (c:UInt8):UInt8:=UInt8.ofNat (lowN c.toNat)
def lowerL (s:List UInt8):List UInt8:=s.map lowB
theorem lowN_lt {c:Nat} (h:c<256):lowN c<256:=by unfold lowN;split<;>omega
theorem lowB_nat (c:UInt8):(lowB c).toNat=lowN c.toNat:=by
 unfold lowB;have:=lowN_lt c.toNat_lt;simp;omega
def ByteRow (W:World) (g:Nat) (l:List UInt8):Prop:=∃cur fz,W.heap[g]?=some (.cells cur 5 fz)∧l.length≤fz.1∧∀k,k<l.length→cur[k]?=some (.int .u8 ((l.getD k 0).toNat:Int))
theorem ByteRow.cell {W:World} {g:Nat} {l:List UInt8} (h:ByteRow W g l) {k:Nat} (hk:k<l.length):W.cell? ⟨g,k,none⟩=some (.int .u8 ((l.getD k 0).toNat:Int)):=by
 obtain⟨cur,fz,hg,_,hc⟩:=h;simp only[World.cell?,hg];simpa using hc k hk
theorem ByteRow.frozen {W:World} {g:Nat} {l:List UInt8} (h:ByteRow W g l) {k:Nat} (hk:k<l.length):W.frozen? ⟨g,k,none⟩=false:=by
 obtain⟨cur,fz,hg,hf,hc⟩:=h;simp only[World.frozen?,hg];simp;omega
theorem ByteRow.set {W:World} {g:Nat} {l:List UInt8} (h:ByteRow W g l) {k:Nat} (hk:k<l.length) (c:UInt8):ByteRow (W.setCell ⟨g,k,none⟩ (.int .u8 (c.toNat:Int))) g (l.set k c):=by
 obtain⟨cur,fz,hg,hf,hc⟩:=h;refine⟨_,fz,heap_setCell_in hg k _,by simpa using hf,fun j hj=> ?_⟩;simp only[List.length_set]at hj;have hks:k<cur.size:=by have:=hc k hk;exact(Array.getElem?_eq_some_iff.1 this).1
 by_cases e:j=k
 ·subst e
  simp[hks,hk]
 ·rw[Array.getElem?_setIfInBounds_ne (fun h=>e h.symm),hc j hj]
  simp[List.getElem?_set_ne (fun h=>e h.symm)]
theorem conv_row (W:World) (l:List UInt8):∃(cap:Nat) (W1:World),
 (convert 9 51 (.string ⟨l.toArray⟩)).run Tryz.prog W= .ok (.slice (some ⟨W.heap.size,0,none⟩) l.length cap) W1∧
 Below W.heap.size W W1∧l.length≤cap∧ByteRow W1 W.heap.size l:=by
 refine⟨_,_,run_bytes_of_string W 9 51 5 ⟨l.toArray⟩ Tryz.underlying9 Tryz.underlying51 Tryz.underlying5, ?_, ?_, ?_⟩
 ·exact Below.alloc (Below.drew (Below.refl _ _)) (Nat.le_refl _) _
 ·exact grownCap_ge _ _ _ _
 ·refine⟨_,_,Array.getElem?_push_size (xs:=W.heap), ?_,fun k hk=> ?_⟩
  ·show l.length≤(bytesRow _ _).size
   rcases Nat.eq_zero_or_pos l.length with h0|h0
   ·omega
   ·have:=bytesRow_at ⟨l.toArray⟩ (grownCap W (ByteArray.mk l.toArray).size 0 5) (l.length-1) (by simp;omega)
    have:=(Array.getElem?_eq_some_iff.1 this).1;omega
  ·rw[bytesRow_at _ _ _ (by simpa using hk)]
   simp[hk]
theorem back_row {W:World} {g cap:Nat} {l:List UInt8} (h:ByteRow W g l):(convert 51 9 (.slice (some ⟨g,0,none⟩) l.length cap)).run Tryz.prog W= .ok (.string ⟨l.toArray⟩) W:=by
 refine run_convert_bytes_back W 51 9 5 ⟨g,0,none⟩ cap l Tryz.underlying51 Tryz.underlying5 Tryz.underlying9 fun j hj=> ?_
 rw[Addr.add_lit,Nat.zero_add,h.cell hj];simp[hj]
theorem low1_any (c:UInt8) (w:World):
 Calls Tryz.prog 162 #[.int .u8 (c.toNat:Int)] w fun e w'=>e= .returned (.int .u8 ((lowB c).toNat:Int))∧w=w':=by
 have hc:=c.toNat_lt
 rw[lowB_nat]
 by_cases h:65≤c.toNat∧c.toNat≤90
 ·have hbt:=digit_bits ⟨c.toNat,hc⟩ h
  simp only at hbt;obtain⟨h1,h2⟩:=h;have hl:lowN c.toNat=c.toNat+32:=by unfold lowN;rw[if_pos ⟨h1,h2⟩]
  rw[hl];go_enter Tryz.func162,Tryz.ntmps162;go_wp2_with fail
  all_goals(go_ret;exact⟨rfl,rfl⟩)
 ·have hl:lowN c.toNat=c.toNat:=by unfold lowN;rw[if_neg h]
  rw[hl];rcases(show c.toNat<65∨90<c.toNat by omega)with h1|h1
  all_goals
   go_enter Tryz.func162,Tryz.ntmps162;go_wp2_with fail;go_ret;exact⟨rfl,rfl⟩
theorem lower_take {s:List UInt8} {i:Nat} (h:i<s.length):(lowerL (s.take i)++s.drop i).set i (lowB (s.getD i 0))=lowerL (s.take (i+1))++s.drop (i+1):=by
 have hl:(lowerL (s.take i)).length=i:=by simp[lowerL];omega
 rw[List.set_append_right _ _ (by omega),hl,Nat.sub_self,List.drop_eq_getElem_cons h,List.set_cons_zero,List.take_succ_eq_append_getElem h,lowerL,lowerL,List.map_append];simp[h]
theorem lower_get {s:List UInt8} {i:Nat} (h:i<s.length):(lowerL (s.take i)++s.drop i).getD i 0=s.getD i 0:=by
 have hl:(lowerL (s.take i)).length=i:=by simp[lowerL];omega
 simp[List.getD,List.getElem?_append_right,hl,h]
theorem lower_len {s:List UInt8} {i:Nat} (h:i≤s.length):(lowerL (s.take i)++s.drop i).length=s.length:=by simp[lowerL];omega
set_option maxRecDepth 100000 in
theorem lower_any (s:List UInt8) (w:World) (hs:s.length≤140737488351232):
 Calls Tryz.prog 102 #[.string ⟨s.toArray⟩] w fun e w'=>e= .returned (.string ⟨(lowerL s).toArray⟩)∧Below w.heap.size w w':=by
 obtain⟨cap,W1,hcv,hb1,hcap,hrow⟩:=conv_row w s
 have hcapH:=Lib.hid hcap
 have key:Calls Tryz.prog 161 #[.string ⟨s.toArray⟩, .func (.func 162) #[] #[]] w fun e w'=>e= .returned (.string ⟨(lowerL s).toArray⟩)∧Below w.heap.size w w':=by
  go_enter Tryz.func161,Tryz.ntmps161;go_wp2_with fail;go_loopw [12] (fun iv wr=>∃i:Nat,iv= .int .i64 (i:Int)∧i≤s.length∧ByteRow wr w.heap.size (lowerL (s.take i)++s.drop i)∧Below w.heap.size w wr) (fun iv _=>s.length-(intOf iv).toNat)
  case atStart=>exact⟨0,rfl,Nat.zero_le _,by simpa[lowerL]using hrow,hb1⟩
  case round=>
   obtain⟨i,rfl,hil,hr,hbl⟩:=hrel;have hlen:=lower_len hil;by_cases hlt:i<s.length
   ·have hcell:=hr.cell (k:=i) (by omega)
    have hfz:=hr.frozen (k:=i) (by omega);rw[lower_get hlt]at hcell;have hset:=hr.set (k:=i) (by omega) (lowB (s.getD i 0));rw[lower_take hlt]at hset;have hsetH:=Lib.hid hset;clear hset hcv;generalize s.getD i 0=c at*;go_wp2_with(go_at_call 162;refine(low1_any c _).mono ?_;rintro e w' ⟨rfl,rfl⟩);exact⟨⟨i+1,by go_num,by omega,hsetH,hbl.setCell (p:=⟨w.heap.size,i,none⟩) (Nat.le_refl _) _⟩,by simp[intOf];omega⟩
   ·obtain rfl:i=s.length:=by omega
    rw[List.take_length,List.drop_length,List.append_nil]at hr;have hbk:=back_row (cap:=cap) hr;rw[show(lowerL s).length=s.length by simp[lowerL]]at hbk;clear hcv hlen;go_wp2_with fail;go_ret;exact⟨rfl,hbl⟩
 go_enter Tryz.func102,Tryz.ntmps102
 clear hcv
 go_wp2_with(go_at_call 161;refine key.mono ?_;rintro e w' ⟨rfl,hb⟩)
 go_ret
 exact⟨rfl,hb⟩
theorem decF_len:∀(f:Nat) (s:List UInt8) (b sign place:Nat) (first:Bool) (l r:List Nat),decF f s b sign place first l=some r→r.length≤l.length+s.length
 |0,_,_,_,_,_,_,_,h=>by simp[decF]at h
 |f+1,s,b,sign,place,first,l,r,h=>by
  unfold decF at h;by_cases hs:s=[]
  ·rw[if_pos hs]at h;injection h with h;subst h;omega
  ·rw[if_neg hs]at h
   cases hr:readL b s 36 1 place with
   |none=>rw[hr]at h;cases h
   |some p=>
    obtain⟨n,rest⟩:=p;rw[hr]at h;have hl:=(readL_some b s 36 1 place n rest hr).2.2.1;simp only at h;split at h
    ·cases h
    ·have:=decF_len f _ _ _ _ _ _ _ h
     have hm:n % (l.length+1)≤l.length:=by have:=Nat.mod_lt n (show 0<l.length+1 by omega);omega
     simp only[List.length_append,List.length_take,List.length_drop,List.length_singleton]at this;omega
theorem decTop_len {s:List UInt8} {r:List Nat} (h:decTop s=some r):r.length≤s.length:=by
 unfold decTop at h;have hb:=lastAt_lt s 45 s.length;split at h
 ·have:=decF_len _ _ _ _ _ _ _ _ h
  simp only[List.length_map,List.length_take,List.length_drop]at this;omega
 ·have:=decF_len _ _ _ _ _ _ _ _ h
  simpa using this
theorem decode_len (s:List UInt8):(decode s).1.length≤4*s.length:=by
 unfold decode;split
 ·simp
 ·split
  ·simp
  ·cases h:decTop s with
   |none=>simp
   |some l=>
    have:=decTop_len h;have h2:=bytesL_len l;show(bytesL l).length≤_;omega
theorem decode_nil:decode []=([],0):=by
 rw[decode_plain (by simp) (by simp)];rfl
theorem run_ok {R:List Nat} {p:Nat} (hR:R.length≤65536):∀(ms:List Nat) (x:Nat×ES),OutOk R p x ms→OutOk R p (runS R p ms x) []
 |[],_,h=>h
 |m::ms,x,h=>run_ok hR ms _ (h.next hR)
theorem encR_len {R:List Nat} (hR:R.length≤65536) (hx:∀c∈R,c≤1114111):(encR R).length≤2555905:=by
 have h:=run_ok hR _ _ (start_ok R hx);have h1:=h.out;have h2:=h.done;unfold encR;omega
theorem encodeL_len {s:List UInt8} (hs:s.length≤262144):(encodeL s).1.length≤2555905:=by
 unfold encodeL;by_cases h0:65536<s.length
 ·rw[if_pos h0];simp
 rw[if_neg h0];split
 ·have h1:=runes_len _ s (Nat.le_refl _)
  exact encR_len (by omega) (runes_le _ s (Nat.le_refl _))
 ·simp
def finL (u:List UInt8):List UInt8×Nat:=if 63<u.length then ([],5)else (u,0)
def fewB:List UInt8:=[120,110,45,45]
theorem finL_big {u:List UInt8} (h:63<u.length):finL u=([],5):=if_pos h
theorem finL_ok {u:List UInt8} (h:u.length≤63):finL u=(u,0):=if_neg (by omega)
theorem few_append (l:List UInt8):(ByteArray.mk #[120,110,45,45])++(ByteArray.mk l.toArray)=ByteArray.mk (fewB++l).toArray:=ba_append fewB l
theorem encodeL_err {s:List UInt8} (h:(encodeL s).2≠0):(encodeL s).1=[]:=by
 unfold encodeL at h⊢;split
 ·rfl
 ·split
  ·rename_i h1 h2
   rw[if_neg h1,if_pos h2]at h;exact absurd rfl h
  ·rfl
theorem few_whole {u:List UInt8} (h:fewL u=true):u=fewB++u.drop 4:=by
 unfold fewL at h;rw[beq_iff_eq]at h
 conv=>lhs;rw[←List.take_append_drop 4 u,h]
 rfl
def labelL (s:List UInt8):List UInt8×Nat:=
 if s=[]∨Lib.validD s=false then ([],5)
 else if plainL (lowerL s)=false then (if (encodeL (lowerL s)).2≠0 then ([],5)else finL (fewB++(encodeL (lowerL s)).1))
 else if fewL (lowerL s)then
  (if (decode ((lowerL s).drop 4)).2≠0∨plainL (decode ((lowerL s).drop 4)).1 then ([],5)
  else if (encodeL (decode ((lowerL s).drop 4)).1).1≠(lowerL s).drop 4 then ([],5)else finL (lowerL s))
 else finL (lowerL s)
theorem labelL_else {s:List UInt8} (h0:s≠[]) (hv:Lib.validD s=true):labelL s=if plainL (lowerL s)=false then (if (encodeL (lowerL s)).2≠0 then ([],5)else finL (fewB++(encodeL (lowerL s)).1))
 else if fewL (lowerL s)then
  (if (decode ((lowerL s).drop 4)).2≠0∨plainL (decode ((lowerL s).drop 4)).1 then ([],5)
  else if (encodeL (decode ((lowerL s).drop 4)).1).1≠(lowerL s).drop 4 then ([],5)else finL (lowerL s))
 else finL (lowerL s):=by
 conv=>lhs;unfold labelL
 rw[if_neg (by rintro(h|h);exact h0 h;rw[hv]at h;cases h)]
def labelsM:List (List UInt8)→Option (List (List UInt8))
 |[]=>some []
 |x::l=>if (labelL x).2≠0 then none else match labelsM l with|none=>none|some r=>some ((labelL x).1::r)
def nameL (s:List UInt8):Option (List UInt8):=
 match labelsM (cutLast (partsL 46 (pctL s)))with
 |none=>none
 |some l=>some (joinL 46 l)
def hostL (s:List UInt8):Option (List UInt8):=
 if s.head?=some 91 then inL s.tail
 else match nameL s with
  |none=>none
  |some x=>if cleanL x=false then none else fourT x
theorem labelsM_cons {x:List UInt8} {l:List (List UInt8)}:labelsM (x::l)=if (labelL x).2≠0 then none else match labelsM l with|none=>none|some r=>some ((labelL x).1::r):=rfl
def Blk (w:World) (g:Nat) (t:TypeId) (cs:Array Value):Prop:=w.heap[g]?=some (.cells cs t (0,0))
section
variable {w w':World} {g:Nat} {t:TypeId} {cs:Array Value}
theorem Blk.lt (h:Blk w g t cs):g<w.heap.size:=by
 rcases Nat.lt_or_ge g w.heap.size with hlt|hge
 ·exact hlt
 ·unfold Blk at h;rw[Array.getElem?_eq_none hge]at h;cases h
theorem Blk.cell (h:Blk w g t cs) (i:Nat):w.cell? ⟨g,i,none⟩=cs[i]?:=cell_of_row w g i cs t (0,0) h
theorem Blk.frozen (h:Blk w g t cs) (i:Nat):w.frozen? ⟨g,i,none⟩=false:=by
 unfold Blk at h;simp[World.frozen?,h]
theorem Blk.new (w:World) (t:TypeId) (cs:Array Value):Blk (w.alloc (.cells cs t)) w.heap.size t cs:=heap_alloc_new w _
theorem Blk.drew (h:Blk w g t cs):Blk w.drew g t cs:=h
theorem Blk.drewN (h:Blk w g t cs) (n:Nat):Blk (w.drewN n) g t cs:=h
theorem Blk.alloc (h:Blk w g t cs) (o:Obj):Blk (w.alloc o) g t cs:=(Below.heap_alloc w o g h.lt).trans h
theorem Blk.set_ (h:Blk w g t cs) (i:Nat) (u:Value):Blk (w.setCell ⟨g,i,none⟩ u) g t (cs.setIfInBounds i u):=by
 unfold Blk at h⊢;simp[World.setCell,Array.getElem?_modify,h]
theorem Blk.far (h:Blk w g t cs) {p:Addr} (hp:g≠p.block) (u:Value):Blk (w.setCell p u) g t cs:=(Below.heap_setCell w p u g hp).trans h
theorem Blk.below {B:Nat} (h:Blk w g t cs) (hb:Below B w w') (hg:g<B):Blk w' g t cs:=(hb.block g hg).trans h
theorem Blk.grown {row:Option Nat} (h:Blk w g t cs) (hb:w.grownBy w' row) (hg:some g≠row):Blk w' g t cs:=(hb.block g h.lt hg).trans h
theorem Blk.ne_ {g':Nat} {t':TypeId} {cs':Array Value} (h:Blk w g t cs) (h':Blk w g' t' cs') (hne:t≠t'):g≠g':=by
 rintro rfl;unfold Blk at h h';rw[h]at h';injection h' with h';injection h' with _ ht;exact hne ht
theorem own_blk_ne {base:Nat} {e:TypeId} {size n:Nat} {v:Value} {xs:List Value} (h:w.ownsRow base e size v n xs) (hg:Blk w g t cs) (hne:e≠t):v.ownBlock≠some g:=by
 rcases h.2 with ⟨rfl,_⟩|⟨g',cap,cur,rfl,_,hh,_⟩
 ·simp[Value.ownBlock]
 ·intro he
  have:g'=g:=by simpa[Value.ownBlock]using he
  subst this;exact Blk.ne_ (t:=e) hh hg hne rfl
end
theorem e_byte:Elem1 Tryz.prog 51 5 (.int .u8 0) 1:=⟨Tryz.underlying51,info_parts (by kernel_rfl),rfl⟩
abbrev byts (l:List UInt8):List Value:=l.map fun c=>Value.int .u8 c.toNat
theorem byts_snoc (l:List UInt8) (c:UInt8):byts l++[.int .u8 (c.toNat:Int)]=byts (l++[c]):=by simp[byts]
theorem byts_two (l:List UInt8) (x y:UInt8):byts l++[.int .u8 (x.toNat:Int), .int .u8 (y.toNat:Int)]=byts (l++[x,y]):=by simp[byts]
theorem byts_get {l:List UInt8} {k:Nat} (h:k<l.length):(byts l)[k]?=some (.int .u8 ((l[k]).toNat:Int)):=by simp[h]
theorem byts_one {l:List UInt8} {u:Value} (h:u∈byts l):u.oneCell'=true:=by
 obtain⟨x,_,rfl⟩:=List.mem_map.1 h;rfl
end Go.Proofs.YtjkipdoebkhkaaaGreatDoor
