/- The walk of the reference's Six. -/
import Derived.Test.YtlcnknlmdaochaaGreatDoorRSide
import Derived.Test.YtlcnknlmdaochaaGreatDoorGHF
set_option linter.unusedVariables false
set_option linter.unusedSimpArgs false
set_option maxHeartbeats 16000000
namespace Go.Proofs.YtlcnknlmdaochaaGreatDoor
open Go.RowKit
def ColAt (s:List UInt8) (k:Nat) (a:Int):Prop:=
 (a= -1∧Lib.index s [58,58]=if Lib.index (s.drop k) [58,58]= -1 then -1 else Lib.index (s.drop k) [58,58]+k)∨(0≤a∧a<s.length∧a=Lib.index s [58,58])
theorem col_start (s:List UInt8):ColAt s 0 (-1):=Or.inl ⟨rfl,by
 rw[List.drop_zero];split
 ·assumption
 ·simp⟩
theorem index_cc (x y:UInt8) (s:List UInt8):Lib.index (x::y::s) [58,58]=if x=58∧y=58 then 0 else if Lib.index (y::s) [58,58]= -1 then -1 else Lib.index (y::s) [58,58]+1:=by
 conv=>lhs;rw[Lib.index]
 have:([58,58]:List UInt8).isPrefixOf (x::y::s)=decide (x=58∧y=58):=by
  simp only[List.isPrefixOf,Bool.and_true];by_cases h1:x=58
  ·by_cases h2:y=58
   ·subst h1;subst h2;rfl
   ·subst h1;simp[h2];exact fun e=>h2 e.symm
  ·simp[h1];intro e;exact absurd e.symm h1
 rw[this];by_cases h:x=58∧y=58
 ·simp[h]
 ·simp[h]
theorem index_short (s:List UInt8) (h:s.length≤1):Lib.index s [58,58]= -1:=by
 match s,h with
 |[],_=>rfl
 |[x],_=>
  rw[Lib.index];have e:Lib.index [] [58,58]= -1:=rfl;simp[List.isPrefixOf,e]
theorem col_hit {s:List UInt8} {k:Nat} (h:k+1<s.length) (H:ColAt s k (-1)) (h1:s[k]=58) (h2:s[k+1]=58):ColAt s (k+1) (k:Int):=by
 have key:(k:Int)=Lib.index s [58,58]:=by
  rcases H with ⟨_,H⟩|⟨H,_,_⟩
  ·rw[H,List.drop_eq_getElem_cons (show k<s.length by omega),List.drop_eq_getElem_cons h,index_cc,if_pos (show s[k]=58∧s[k+1]=58 from⟨h1,h2⟩)]
   simp
  ·omega
 exact Or.inr ⟨by omega,by omega,key⟩
theorem col_miss {s:List UInt8} {k:Nat} (h:k+1<s.length) (H:ColAt s k (-1)) (h1:¬(s[k]=58∧s[k+1]=58)):ColAt s (k+1) (-1):=by
 refine Or.inl ⟨rfl, ?_⟩;rcases H with ⟨_,H⟩|⟨H,_,_⟩
 ·rw[H,List.drop_eq_getElem_cons (show k<s.length by omega),List.drop_eq_getElem_cons h,index_cc,if_neg h1]
  have hge:=Lib.index_ge (s[k+1]::s.drop (k+1+1)) [58,58];generalize Lib.index (s[k+1]::s.drop (k+1+1)) [58,58]=q at*;by_cases hm:q= -1
  ·rw[if_pos hm,if_pos rfl,if_pos hm]
  ·rw[if_neg hm,if_neg (by omega),if_neg hm]
   omega
 ·omega
theorem col_end {s:List UInt8} {k:Nat} (h:s.length≤k+1) (H:ColAt s k (-1)):Lib.index s [58,58]= -1:=by
 rcases H with ⟨_,H⟩|⟨H,_,_⟩
 ·rw[H,index_short _ (by simp;omega),if_pos rfl]
 ·omega
abbrev z16L:List UInt8:=[0,0,0,0,0,0,0,0,0,0,0,0,0,0,0,0]
abbrev z16A:Array Value:= #[.bool true, .int .u8 0, .int .u8 0, .int .u8 0, .int .u8 0, .int .u8 0, .int .u8 0, .int .u8 0, .int .u8 0, .int .u8 0, .int .u8 0, .int .u8 0, .int .u8 0, .int .u8 0, .int .u8 0, .int .u8 0, .int .u8 0]
def layL (B:List UInt8) (off:Nat) (r:List UInt8) (k:Nat):List UInt8:=B.take off++(r.take k++B.drop (off+k))
theorem layL_zero (B:List UInt8) (off:Nat) (r:List UInt8):layL B off r 0=B:=by simp[layL]
theorem layL_len {B r:List UInt8} {off k:Nat} (h:off+k≤B.length) (hk:k≤r.length):(layL B off r k).length=B.length:=by simp[layL];omega
theorem lay_step {B r:List UInt8} {off k:Nat} (h:off+k<B.length) (hk:k<r.length):(adC true (layL B off r k)).setIfInBounds (1+(off+k)) (.int .u8 ((r[k]).toNat:Int))=adC true (layL B off r (k+1)):=by
 unfold adC;rw[List.setIfInBounds_toArray];congr 1;rw[Nat.add_comm 1,List.set_cons_succ];congr 1;unfold layL;have hlt:off+k<B.length:=h;rw[List.take_succ_eq_append_getElem hk,List.drop_eq_getElem_cons hlt];simp only[byts,List.map_append,List.map_cons];have h1:((B.take off).map fun c:UInt8=>Value.int .u8 (c.toNat:Int)).length=off:=by simp;omega
 have h2:((r.take k).map fun c:UInt8=>Value.int .u8 (c.toNat:Int)).length=k:=by simp;omega
 rw[List.set_append_right _ _ (by rw[h1];omega),h1,List.set_append_right _ _ (by rw[h2];omega),h2,show off+k-off-k=0 by omega,List.set_cons_zero];simp[Nat.add_assoc]
theorem lay_full {r:List UInt8} (h:r.length=16):layL z16L 0 r 16=r:=by
 unfold layL;rw[List.take_zero,List.nil_append,List.take_of_length_le (by omega:r.length≤16),List.drop_of_length_le (by simp),List.append_nil]
theorem lay_two {L R:List UInt8} (h:L.length+R.length≤16):layL (layL z16L 0 L L.length) (16-R.length) R R.length=L++List.replicate (16-L.length-R.length) 0++R:=by
 have e:z16L=List.replicate 16 0:=rfl;unfold layL;rw[e,List.take_zero,List.nil_append,Nat.zero_add,List.take_of_length_le (Nat.le_refl _),List.take_of_length_le (Nat.le_refl R.length),List.drop_replicate,List.take_append,List.take_of_length_le (by omega),List.take_replicate];rw[List.drop_of_length_le (by simp;omega),List.append_nil,show min (16-R.length-L.length) (16-L.length)=16-L.length-R.length by omega]
def rsixV (r:Option (List UInt8)):Value:=match r with|some b=> .tuple #[.agg (adC true b), .int .i64 0]|none=> .tuple #[.agg zeroA, .int .i64 5]
theorem rsix_res2 {P:Program} {fn:Func} {p q:Tmp} {ty:TypeId} (h:fn.results= #[.cell p ty, .tmp q]) (tmps:Array Value) (w:World) (g:Nat) (t:TypeId) (cs:Array Value) (fr:Nat×Nat) (d:TypeDesc)
 (hp:tmps.getD p undef= .pointer (some ⟨g,0,none⟩)) (hg:w.heap[g]?=some (.cells cs t fr))
 (hu:P.underlying ty=some d) (hd:(match d with| .struct _| .array _ _=>true|_=>false)=true) (hi:(P.info? ty).map (·.size)=some cs.size):
 (results fn tmps).run P w= .ok (.tuple #[.agg cs,tmps.getD q undef]) w:=by
 have hp':tmps[p]?.getD undef= .pointer (some ⟨g,0,none⟩):=by simpa using hp
 simp[results,h,hp',asAddr,run_loadVar_row w g t ty cs fr d hg hu hd hi]
structure RLay (w:World) (B:List UInt8) (wr:World):Prop where
 res:Blk wr w.heap.size 186 zeroA
 adr:Blk wr (w.heap.size+1) 186 (adC true B)
 low:Below w.heap.size w wr
theorem RLay.step {w wr:World} {B r:List UInt8} {off k:Nat} (h:RLay w (layL B off r k) wr) (hB:off+k<B.length) (hk:k<r.length):RLay w (layL B off r (k+1)) (wr.setCell ⟨w.heap.size+1,1+(off+k),none⟩ (.int .u8 ((r[k]).toNat:Int))):=
 ⟨h.res.far (p:=⟨w.heap.size+1,1+(off+k),none⟩) (by simp) _,by have:=h.adr.set_ (1+(off+k)) (.int .u8 ((r[k]).toNat:Int));rwa[lay_step hB hk]at this,h.low.setCell (p:=⟨w.heap.size+1,1+(off+k),none⟩) (by show _≤w.heap.size+1;omega) _⟩
theorem RLay.put {w wr:World} {B:List UInt8} (h:RLay w B wr) {j:Nat} (hj:j≤B.length):(∃u,wr.cell? ⟨w.heap.size+1,j,none⟩=some u)∧wr.frozen? ⟨w.heap.size+1,j,none⟩=false∧w.heap.size+1<wr.heap.size:=by
 refine⟨?_,h.adr.frozen j,h.adr.lt⟩;rw[h.adr.cell j,Array.getElem?_eq_getElem (by rw[adC_size];omega)];exact⟨_,rfl⟩
def Src (wr:World) (g:Nat) (r:List UInt8):Prop:=∀(j:Nat) (h:j<r.length),wr.cell? ⟨g,j,none⟩=some (.int .u8 ((r[j]).toNat:Int))
theorem Src.set {wr:World} {g b o:Nat} {r:List UInt8} (h:Src wr g r) (hg:g≠b) (u:Value):Src (wr.setCell ⟨b,o,none⟩ u) g r:=fun j hj=>by
 rw[World.cell?_setCell_other _ _ _ _ (by simp[hg])];exact h j hj
theorem own_src {w:World} {base n c:Nat} {a:Option Addr} {r:List UInt8} (h:w.ownsRow base 5 1 (.slice a n c) n (byts r)) (hn:r.length=n):∃g,(0<n→a=some ⟨g,0,none⟩)∧base≤g∧Src w g r:=by
 rcases own_open h with ⟨h0,h1,h2⟩|⟨g,cap,h0,hb,_,_,_,hc⟩
 ·exact⟨base,fun h=>by omega,Nat.le_refl _,fun j hj=>by omega⟩
 ·injection h0 with h0 _ _
  exact⟨g,fun _=>h0,hb,fun j hj=>hc j _ (byts_get hj)⟩
set_option maxRecDepth 100000 in
theorem rsix_none (s:List UInt8) (w:World) (hs:s.length≤200000000) (hno:Lib.index s [58,58]= -1):
 Calls Tryz.prog 210 #[.string ⟨s.toArray⟩] w fun e w'=>e= .returned (rsixV (sixL s))∧Below w.heap.size w w':=by
 have HNO:=Lib.hid hno
 clear hno
 have hR0:=Blk.new w 186 zeroA
 have hb0:=(Below.refl w.heap.size w).alloc (Nat.le_refl _) (.cells zeroA 186)
 have hz0:=World.size_alloc w (.cells zeroA 186)
 go_enter Tryz.func210,Tryz.ntmps210
 go_upto_block 0 with fail
 generalize w.alloc (.cells zeroA 186)=W0 at*
 go_cut [4,5]from 16 to 38 (fun a i wx=>∃av:Int,a= .int .i64 av∧W0=wx∧Hid ((av= -1∧Lib.index s [58,58]= -1)∨(0≤av∧av<s.length∧av=Lib.index s [58,58])))
 case first=>
  go_wp2_with fail;go_loop [4,5] (fun a i=>∃(k:Nat) (av:Int),k≤s.length∧i= .int .i64 k∧a= .int .i64 av∧Hid (ColAt s k av)∧ -1≤av) (fun _ i=>s.length+1-(intOf i).toNat)
  case atStart=>exact⟨0, -1,Nat.zero_le _,rfl,rfl,col_start s,by omega⟩
  case round=>
   obtain⟨k,av,hk,rfl,rfl,H,hav⟩:=hrel;by_cases ha:av= -1
   ·subst ha
    by_cases hlt:k+1<s.length
    ·have hhit:=fun h1 h2=>Lib.hid (col_hit hlt H.out h1 h2)
     have hmis:=fun h1=>Lib.hid (col_miss hlt H.out h1)
     have hk0:k<s.length:=by omega
     have e8:∀x:UInt8,x=58↔(x.toNat:Int)=58:=fun x=>by
      constructor
      ·intro h;rw[h];rfl
      ·intro h;exact UInt8.toNat_inj.1 (by show x.toNat=58;omega)
     generalize hx:s[k]=x at*;generalize hy:s[k+1]=y at*;by_cases h1:x=58
     ·have h1i:(x.toNat:Int)=58:=(e8 x).1 h1
      by_cases h2:y=58
      ·have h2i:((y.toNat:Int)==58)=true:=beq_iff_eq.2 ((e8 y).1 h2)
       have HN:=hhit h1 h2;clear hhit hmis h1 h2 H e8;go_wp2_with fail;go_round
       case rel=>exact⟨k+1,k,by omega,by go_num,rfl,HN,by omega⟩
       case measure=>simp[intOf];omega
      ·have h2i:((y.toNat:Int)==58)=false:=beq_eq_false_iff_ne.2 (fun h=>h2 ((e8 y).2 h))
       have HN:=hmis (fun h=>h2 h.2);clear hhit hmis h1 h2 H e8;go_wp2_with fail;go_round
       case rel=>exact⟨k+1, -1,by omega,by go_num,rfl,HN,by omega⟩
       case measure=>simp[intOf];omega
     ·have h1i:¬(x.toNat:Int)=58:=fun h=>h1 ((e8 x).2 h)
      have HN:=hmis (fun h=>h1 h.1);clear hhit hmis h1 H e8;go_wp2_with fail;go_round
      case rel=>exact⟨k+1, -1,by omega,by go_num,rfl,HN,by omega⟩
      case measure=>simp[intOf];omega
    ·have hidx:=col_end (by omega) H.out
     clear H;go_wp2_with fail;go_meet;exact⟨-1,rfl,rfl, .inl ⟨rfl,hidx⟩⟩
   ·have hidx:0≤av∧av<s.length∧av=Lib.index s [58,58]:=by
     rcases H.out with ⟨h,_⟩|h
     ·exact absurd h ha
     ·exact h
    have h0:=hidx.1;have HX:=Lib.hid hidx;clear H hidx;go_wp2_with fail
    all_goals(go_meet;exact⟨av,rfl,rfl, .inr HX.out⟩)
 case rest=>
  obtain⟨av,rfl,rfl,H⟩:=hcut;by_cases ha:av= -1
  ·subst ha
   have hidx:Lib.index s [58,58]= -1:=by
    rcases H.out with ⟨_,h⟩|⟨h,_,_⟩
    ·exact h
    ·omega
   have hs6:sixL s=match sideN true s with|some b=>if b.length=16 then some b else none|none=>none:=by
    unfold sixL;rw[if_pos hidx];rfl
   have HS6:=Lib.hid hs6;have cp:=fun W=>rpieces_any s true W hs
   clear H hidx hs6;have hA1:Blk (W0.alloc (.cells z16A 186)) W0.heap.size 186 (adC true z16L):=Blk.new W0 186 z16A;have hR1:=hR0.alloc (.cells z16A 186);have hb1:=hb0.alloc hb0.size (.cells z16A 186);rw[hz0]at hA1;go_wp2_with fail;revert hA1 hR1 hb1;generalize W0.alloc (.cells z16A 186)=W1;intro hA1 hR1 hb1;go_at_call 258;refine(cp W1).mono ?_;rintro e w2 ⟨v,ok,rfl,hb2,hw2⟩;have hR2:=hR1.below hb2 hR1.lt;have hA2:=hA1.below hb2 hA1.lt;have hb3:=hb1.trans (hb2.mono hb1.size);have hlr:=hA1.lt
   cases hsn:sideN true s with
   |none=>
    rw[hsn]at hw2;simp only at hw2;subst hw2;have HR:Hid (sixL s=none):=by show _=_;rw[HS6.out,hsn]
    clear hsn HS6 cp;go_wp2_with(refine wpList_store_same (o:=⟨none, .store 186 (.tmp 2) (.tmp 54),_,_,_,_⟩) rfl 186 (.tmp 2) _ rfl w.heap.size zeroA rfl rfl 186 hR2 (by kernel_rfl) (by decide+kernel) ?_);refine bodyPost_ret (rsix_res2 (fn:=Tryz.f210) (p:=2) (q:=3) (ty:=186) rfl _ _ w.heap.size 186 zeroA (0,0) _ rfl hR2 Tryz.underlying186 rfl (by kernel_rfl)) rfl ⟨by rw[HR.out];rfl,hb3⟩
   |some r=>
    rw[hsn]at hw2;simp only at hw2;obtain⟨rfl,hown⟩:=hw2;obtain⟨a,c,rfl⟩:=own_form hown;have hrl:=sideN_len hsn;by_cases h16:r.length=16
    ·have HR:Hid (sixL s=some r):=by show _=_;rw[HS6.out,hsn];simp only[h16,if_pos]
     have h16i:((r.length:Int) !=16)=false:=by simp;omega
     have H16:=Lib.hid h16;have hr1:r.length≤16:=by omega
     have hr2:16≤r.length:=by omega
     obtain⟨g,hga,hgb,hsrc⟩:=own_src hown rfl;obtain rfl:=hga (by omega);have hgn:g≠w.heap.size+1:=by omega
     clear hsn HS6 cp h16 hga hown;go_wp2_with fail;go_loopw [9] (fun i wr=>∃k:Nat,k≤16∧i= .int .i64 k∧Hid (RLay w (layL z16L 0 r k) wr)∧Hid (Src wr g r)) (fun i _=>16-(intOf i).toNat)
     case atStart=>exact⟨0,by omega,rfl,⟨hR2,by rw[layL_zero];exact hA2,hb3⟩,hsrc⟩
     case round=>
      obtain⟨V,rfl⟩:∃V,V=wr:=⟨wr,rfl⟩;obtain⟨k,hk,rfl,HL,HS⟩:=hrel;clear hsrc hA2 hR2 hb3 hR1 hA1 hb1;by_cases hlt:k<16
      ·have hc:=HS.out k (by omega)
       have hN:=HL.out.step (by simp;omega) (by omega:k<r.length);have hll:(layL z16L 0 r k).length=16:=layL_len (by simp;omega) (by omega);obtain⟨⟨u,hu⟩,hf,hz⟩:=HL.out.put (j:=1+k) (by omega);have hS2:=HS.out.set (o:=1+(0+k)) hgn (.int .u8 ((r[k]'(by omega)).toNat:Int));rw[Nat.zero_add]at hN hS2;have HN:=Lib.hid hN;have HS2:=Lib.hid hS2;clear hN hS2 hll;generalize r[k]'(by omega)=x at*;go_wp2_with fail;go_roundw
       case rel=>exact⟨k+1,by omega,by go_num,HN,HS2⟩
       case measure=>simp[intOf];omega
      ·obtain rfl:k=16:=by omega
       have hadr8:=HL.out.adr;have hres8:=HL.out.res;have hb8:=HL.out.low;rw[lay_full H16.out]at hadr8;have hi:=adC_info true H16.out;have hz:=zeroA_size true H16.out;have h1:=adC_one true r;have hfin:=setRow_heap V w.heap.size zeroA (adC true r) 186 (0,0) hres8;have hbf:=below_row hb8 (Nat.le_refl _) (adC true r);clear HL HS;go_wp2_with(first|(refine wpList_load_row (o:=⟨some 66, .load 186 (.tmp 6),_,_,_,_⟩) rfl 186 (.tmp 6) rfl (w.heap.size+1) rfl 186 (adC true r) (0,0) _ hadr8 Tryz.underlying186 rfl hi ?_)|(refine wpList_store_row (o:=⟨none, .store 186 (.tmp 2) (.tmp 66),_,_,_,_⟩) rfl 186 (.tmp 2) _ rfl w.heap.size (adC true r) rfl rfl 186 zeroA hres8 hi hz h1 ?_));refine bodyPost_ret (rsix_res2 (fn:=Tryz.f210) (p:=2) (q:=3) (ty:=186) rfl _ _ w.heap.size 186 (adC true r) (0,0) _ rfl hfin Tryz.underlying186 rfl hi) rfl ⟨by rw[HR.out];rfl,hbf⟩
    ·have HR:Hid (sixL s=none):=by show _=_;rw[HS6.out,hsn];simp only[h16,if_neg,not_false_eq_true]
     have h16i:((r.length:Int) !=16)=true:=by simp;omega
     clear hsn HS6 cp hown h16;go_wp2_with(refine wpList_store_same (o:=⟨none, .store 186 (.tmp 2) (.tmp 54),_,_,_,_⟩) rfl 186 (.tmp 2) _ rfl w.heap.size zeroA rfl rfl 186 hR2 (by kernel_rfl) (by decide+kernel) ?_);refine bodyPost_ret (rsix_res2 (fn:=Tryz.f210) (p:=2) (q:=3) (ty:=186) rfl _ _ w.heap.size 186 zeroA (0,0) _ rfl hR2 Tryz.underlying186 rfl (by kernel_rfl)) rfl ⟨by rw[HR.out];rfl,hb3⟩
  ·exfalso
   rcases H.out with ⟨h,_⟩|⟨_,_,h⟩
   ·exact ha h
   ·have:=HNO.out;omega
set_option maxRecDepth 100000 in
theorem rsix_some (s:List UInt8) (w:World) (hs:s.length≤200000000) (hyes:¬Lib.index s [58,58]= -1):
 Calls Tryz.prog 210 #[.string ⟨s.toArray⟩] w fun e w'=>e= .returned (rsixV (sixL s))∧Below w.heap.size w w':=by
 have HY:=Lib.hid hyes
 clear hyes
 have hR0:=Blk.new w 186 zeroA
 have hb0:=(Below.refl w.heap.size w).alloc (Nat.le_refl _) (.cells zeroA 186)
 have hz0:=World.size_alloc w (.cells zeroA 186)
 go_enter Tryz.func210,Tryz.ntmps210
 go_upto_block 0 with fail
 generalize w.alloc (.cells zeroA 186)=W0 at*
 go_cut [4,5]from 16 to 38 (fun a i wx=>∃av:Int,a= .int .i64 av∧W0=wx∧Hid ((av= -1∧Lib.index s [58,58]= -1)∨(0≤av∧av<s.length∧av=Lib.index s [58,58])))
 case first=>
  go_wp2_with fail;go_loop [4,5] (fun a i=>∃(k:Nat) (av:Int),k≤s.length∧i= .int .i64 k∧a= .int .i64 av∧Hid (ColAt s k av)∧ -1≤av) (fun _ i=>s.length+1-(intOf i).toNat)
  case atStart=>exact⟨0, -1,Nat.zero_le _,rfl,rfl,col_start s,by omega⟩
  case round=>
   obtain⟨k,av,hk,rfl,rfl,H,hav⟩:=hrel;by_cases ha:av= -1
   ·subst ha
    by_cases hlt:k+1<s.length
    ·have hhit:=fun h1 h2=>Lib.hid (col_hit hlt H.out h1 h2)
     have hmis:=fun h1=>Lib.hid (col_miss hlt H.out h1)
     have hk0:k<s.length:=by omega
     have e8:∀x:UInt8,x=58↔(x.toNat:Int)=58:=fun x=>by
      constructor
      ·intro h;rw[h];rfl
      ·intro h;exact UInt8.toNat_inj.1 (by show x.toNat=58;omega)
     generalize hx:s[k]=x at*;generalize hy:s[k+1]=y at*;by_cases h1:x=58
     ·have h1i:(x.toNat:Int)=58:=(e8 x).1 h1
      by_cases h2:y=58
      ·have h2i:((y.toNat:Int)==58)=true:=beq_iff_eq.2 ((e8 y).1 h2)
       have HN:=hhit h1 h2;clear hhit hmis h1 h2 H e8;go_wp2_with fail;go_round
       case rel=>exact⟨k+1,k,by omega,by go_num,rfl,HN,by omega⟩
       case measure=>simp[intOf];omega
      ·have h2i:((y.toNat:Int)==58)=false:=beq_eq_false_iff_ne.2 (fun h=>h2 ((e8 y).2 h))
       have HN:=hmis (fun h=>h2 h.2);clear hhit hmis h1 h2 H e8;go_wp2_with fail;go_round
       case rel=>exact⟨k+1, -1,by omega,by go_num,rfl,HN,by omega⟩
       case measure=>simp[intOf];omega
     ·have h1i:¬(x.toNat:Int)=58:=fun h=>h1 ((e8 x).2 h)
      have HN:=hmis (fun h=>h1 h.1);clear hhit hmis h1 H e8;go_wp2_with fail;go_round
      case rel=>exact⟨k+1, -1,by omega,by go_num,rfl,HN,by omega⟩
      case measure=>simp[intOf];omega
    ·exact absurd (col_end (by omega) H.out) HY.out
   ·have hidx:0≤av∧av<s.length∧av=Lib.index s [58,58]:=by
     rcases H.out with ⟨h,_⟩|h
     ·exact absurd h ha
     ·exact h
    have h0:=hidx.1;have HX:=Lib.hid hidx;clear H hidx;go_wp2_with fail
    all_goals(go_meet;exact⟨av,rfl,rfl, .inr HX.out⟩)
 case rest=>
  obtain⟨av,rfl,rfl,H⟩:=hcut;by_cases ha:av= -1
  ·subst ha
   have hidx:Lib.index s [58,58]= -1:=by
    rcases H.out with ⟨_,h⟩|⟨h,_,_⟩
    ·exact h
    ·omega
   exact absurd hidx HY.out
  ·have hidx:0≤av∧av<s.length∧av=Lib.index s [58,58]:=by
    rcases H.out with ⟨h,_⟩|h
    ·exact absurd h ha
    ·exact h
   obtain⟨a,rfl⟩:∃a:Nat,av=a:=⟨av.toNat,by omega⟩;obtain⟨_,hal,hai⟩:=hidx;have hil:a+2≤s.length:=by
    have:=Lib.index_room s [58,58] (by omega);simp at this;omega
   have hs6:sixL s=match sideN false (s.take a)with
    |none=>none
    |some l=>match sideN true (s.drop (a+2))with
     |none=>none
     |some r=>if 14<l.length+r.length then none else some (l++List.replicate (16-l.length-r.length) 0++r):=by
    unfold sixL
    rw[if_neg (by omega),←hai]
    rfl
   have HS6:=Lib.hid hs6;have hae:Int.toNat (a:Int)=a:=rfl;have cpl:=fun W=>rpieces_any (s.take a) false W (by simp;omega)
   have cpr:=fun W=>rpieces_any (s.drop (a+2)) true W (by simp;omega)
   have htt:(s.drop (a+2)).take (s.length-(a+2))=s.drop (a+2):=List.take_of_length_le (by simp);have htl:(s.take a).length≤s.length:=by simp;omega
   have hdl:(s.drop (a+2)).length≤s.length:=by simp
   clear H ha hai hs6 hae hal;generalize hone:s.take a=one at*;generalize htwo:s.drop (a+2)=two at*;have hA1:Blk (W0.alloc (.cells z16A 186)) W0.heap.size 186 (adC true z16L):=Blk.new W0 186 z16A;have hR1:=hR0.alloc (.cells z16A 186);have hb1:=hb0.alloc hb0.size (.cells z16A 186);rw[hz0]at hA1;go_wp2_with fail;revert hA1 hR1 hb1;generalize W0.alloc (.cells z16A 186)=W1;intro hA1 hR1 hb1;go_at_call 258;refine(cpl W1).mono ?_;rintro e w2 ⟨v,ok,rfl,hb2,hw2⟩;have hR2:=hR1.below hb2 hR1.lt;have hA2:=hA1.below hb2 hA1.lt;have hb3:=hb1.trans (hb2.mono hb1.size);have hlr:=hA1.lt;have hlr2:=hA2.lt;clear hA1 hR1 hb1 hb0 hR0;have hNext:∀(v:Value) (ok:Bool),Hid (w2=w2):=fun _ _=>Lib.hid rfl
   clear hNext
   cases hsl:sideN false one with
   |none=>
    rw[hsl]at hw2;simp only at hw2;subst hw2;have HR:Hid (sixL s=none):=by show _=_;rw[HS6.out,hsl]
    clear hsl HS6 cpl;go_wp2_with fail;go_at_call 258;refine(cpr w2).mono ?_;rintro e w3 ⟨v2,ok2,rfl,hb4,hw4⟩;have hR3:=hR2.below hb4 hR2.lt;have hb5:=hb3.trans (hb4.mono hb3.size);clear hw4 cpr hb4 hA2 hR2 hb3;go_wp2_with(refine wpList_store_same (o:=⟨none, .store 186 (.tmp 2) (.tmp 96),_,_,_,_⟩) rfl 186 (.tmp 2) _ rfl w.heap.size zeroA rfl rfl 186 hR3 (by kernel_rfl) (by decide+kernel) ?_);refine bodyPost_ret (rsix_res2 (fn:=Tryz.f210) (p:=2) (q:=3) (ty:=186) rfl _ _ w.heap.size 186 zeroA (0,0) _ rfl hR3 Tryz.underlying186 rfl (by kernel_rfl)) rfl ⟨by rw[HR.out];rfl,hb5⟩
   |some l=>
    rw[hsl]at hw2;simp only at hw2;obtain⟨rfl,hown⟩:=hw2;obtain⟨a1,c1,rfl⟩:=own_form hown;have hll:=sideN_len hsl;go_wp2_with fail;go_at_call 258;refine(cpr w2).mono ?_;rintro e w3 ⟨v2,ok2,rfl,hb4,hw4⟩;have hR3:=hR2.below hb4 hR2.lt;have hA3:=hA2.below hb4 hA2.lt;have hb5:=hb3.trans (hb4.mono hb3.size);have hlr3:=hb4.size
    cases hsr:sideN true two with
    |none=>
     rw[hsr]at hw4;simp only at hw4;subst hw4;have HR:Hid (sixL s=none):=by show _=_;rw[HS6.out,hsl];simp only[hsr]
     clear hsl hsr HS6 cpl cpr hb4 hA2 hR2 hb3 hA3 hown;go_wp2_with(refine wpList_store_same (o:=⟨none, .store 186 (.tmp 2) (.tmp 96),_,_,_,_⟩) rfl 186 (.tmp 2) _ rfl w.heap.size zeroA rfl rfl 186 hR3 (by kernel_rfl) (by decide+kernel) ?_);refine bodyPost_ret (rsix_res2 (fn:=Tryz.f210) (p:=2) (q:=3) (ty:=186) rfl _ _ w.heap.size 186 zeroA (0,0) _ rfl hR3 Tryz.underlying186 rfl (by kernel_rfl)) rfl ⟨by rw[HR.out];rfl,hb5⟩
    |some r=>
     rw[hsr]at hw4;simp only at hw4;obtain⟨rfl,hown2⟩:=hw4;obtain⟨a2,c2,rfl⟩:=own_form hown2;have hrl:=sideN_len hsr;by_cases h14:14<l.length+r.length
     ·have HR:Hid (sixL s=none):=by show _=_;rw[HS6.out,hsl];simp only[hsr,h14,if_pos]
      clear hsl hsr HS6 cpl cpr hb4 hA2 hR2 hb3 hA3 hown hown2;go_wp2_with(refine wpList_store_same (o:=⟨none, .store 186 (.tmp 2) (.tmp 96),_,_,_,_⟩) rfl 186 (.tmp 2) _ rfl w.heap.size zeroA rfl rfl 186 hR3 (by kernel_rfl) (by decide+kernel) ?_);refine bodyPost_ret (rsix_res2 (fn:=Tryz.f210) (p:=2) (q:=3) (ty:=186) rfl _ _ w.heap.size 186 zeroA (0,0) _ rfl hR3 Tryz.underlying186 rfl (by kernel_rfl)) rfl ⟨by rw[HR.out];rfl,hb5⟩
     ·have HR:Hid (sixL s=some (l++List.replicate (16-l.length-r.length) 0++r)):=by show _=_;rw[HS6.out,hsl];simp only[hsr,h14,if_neg,not_false_eq_true]
      obtain⟨g1,hga1,hgb1,hs1⟩:=own_src (own_below hown hb4) rfl;obtain⟨g2,hga2,hgb2,hs2⟩:=own_src hown2 rfl;have hn1:g1≠w.heap.size+1:=by omega
      have hn2:g2≠w.heap.size+1:=by omega
      have hl14:l.length+r.length≤14:=by omega
      clear hsl hsr HS6 cpl cpr hb4 hA2 hR2 hb3 hown hown2 h14 hgb1 hgb2;go_wp2_with fail;go_loopw [14] (fun i wr=>∃k:Nat,k≤l.length∧i= .int .i64 k∧Hid (RLay w (layL z16L 0 l k) wr)∧Hid (Src wr g1 l)∧Hid (Src wr g2 r)) (fun i _=>l.length-(intOf i).toNat)
      case atStart=>exact⟨0,by omega,rfl,⟨hR3,by rw[layL_zero];exact hA3,hb5⟩,hs1,hs2⟩
      case round=>
       obtain⟨V,rfl⟩:∃V,V=wr:=⟨wr,rfl⟩;obtain⟨k,hk,rfl,HL,HS,HR2⟩:=hrel;clear hs1 hs2 hA3 hR3 hb5;by_cases hlt:k<l.length
       ·obtain rfl:=hga1 (by omega)
        have hc:=HS.out k (by omega);have hN:=HL.out.step (by simp;omega) (by omega:k<l.length);have hll:(layL z16L 0 l k).length=16:=layL_len (by simp;omega) (by omega);obtain⟨⟨u,hu⟩,hf,hz⟩:=HL.out.put (j:=1+k) (by omega);have hS2:=HS.out.set (o:=1+(0+k)) hn1 (.int .u8 ((l[k]'(by omega)).toNat:Int));have hS3:=HR2.out.set (o:=1+(0+k)) hn2 (.int .u8 ((l[k]'(by omega)).toNat:Int));rw[Nat.zero_add]at hN hS2 hS3;have HN:=Lib.hid hN;have HS2:=Lib.hid hS2;have HS3:=Lib.hid hS3;clear hN hS2 hS3 hll hga1 hga2;generalize l[k]'(by omega)=x at*;go_wp2_with fail;go_roundw
        case rel=>exact⟨k+1,by omega,by go_num,HN,HS2,HS3⟩
        case measure=>simp[intOf];omega
       ·obtain rfl:k=l.length:=by omega
        have hl8:(layL z16L 0 l l.length).length=16:=layL_len (by simp;omega) (Nat.le_refl _);have hL0:=HL.out;have hr0:=HR2.out;have HT:=Lib.hid (lay_two (L:=l) (R:=r) (by omega));generalize layL z16L 0 l l.length=B at*;have HB:=Lib.hid hl8;clear HL HS HR2 hl8 hga1;go_wp2_with fail;go_loopw [15] (fun i wr=>∃k:Nat,k≤r.length∧i= .int .i64 k∧Hid (RLay w (layL B (16-r.length) r k) wr)∧Hid (Src wr g2 r)) (fun i _=>r.length-(intOf i).toNat)
        case atStart=>exact⟨0,by omega,rfl,by rw[layL_zero];exact hL0,hr0⟩
        case round=>
         obtain⟨V2,rfl⟩:∃V,V=wr:=⟨wr,rfl⟩;obtain⟨k,hk,rfl,HL,HS⟩:=hrel;clear hL0 hr0;by_cases hlt2:k<r.length
         ·obtain rfl:=hga2 (by omega)
          have hB:=HB.out;have hc:=HS.out k (by omega);have hN:=HL.out.step (by omega) (by omega:k<r.length);have hll:(layL B (16-r.length) r k).length=16:=by rw[layL_len (by omega) (by omega)];exact hB
          obtain⟨⟨u,hu⟩,hf,hz⟩:=HL.out.put (j:=1+(16-r.length+k)) (by omega);have hS2:=HS.out.set (o:=1+(16-r.length+k)) hn2 (.int .u8 ((r[k]'(by omega)).toNat:Int));have HN:=Lib.hid hN;have HS2:=Lib.hid hS2;have hix:(16:Int)-(r.length:Int)+(k:Int)=((16-r.length+k:Nat):Int):=by omega
          have hile:16-r.length+k<16:=by omega
          clear hN hS2 hll hga2 hB;generalize r[k]'(by omega)=x at*;generalize hoff:16-r.length+k=off at*;go_wp2_with fail;go_roundw
          case rel=>exact⟨k+1,by omega,by go_num,HN,HS2⟩
          case measure=>simp[intOf];omega
         ·obtain rfl:k=r.length:=by omega
          have hadr8:=HL.out.adr;have hres8:=HL.out.res;have hb8:=HL.out.low;rw[HT.out]at hadr8;have hlen:(l++List.replicate (16-l.length-r.length) 0++r).length=16:=by simp;omega
          clear HL HS HT;generalize l++List.replicate (16-l.length-r.length) 0++r=R at*;have hi:=adC_info true hlen;have hz:=zeroA_size true hlen;have h1:=adC_one true R;have hfin:=setRow_heap V2 w.heap.size zeroA (adC true R) 186 (0,0) hres8;have hbf:=below_row hb8 (Nat.le_refl _) (adC true R);clear hlen;go_wp2_with(first|(refine wpList_load_row (o:=⟨some 127, .load 186 (.tmp 6),_,_,_,_⟩) rfl 186 (.tmp 6) rfl (w.heap.size+1) rfl 186 (adC true R) (0,0) _ hadr8 Tryz.underlying186 rfl hi ?_)|(refine wpList_store_row (o:=⟨none, .store 186 (.tmp 2) (.tmp 127),_,_,_,_⟩) rfl 186 (.tmp 2) _ rfl w.heap.size (adC true R) rfl rfl 186 zeroA hres8 hi hz h1 ?_));refine bodyPost_ret (rsix_res2 (fn:=Tryz.f210) (p:=2) (q:=3) (ty:=186) rfl _ _ w.heap.size 186 (adC true R) (0,0) _ rfl hfin Tryz.underlying186 rfl hi) rfl ⟨by rw[HR.out];rfl,hbf⟩
theorem rsix_any (s:List UInt8) (w:World) (hs:s.length≤200000000):
 Calls Tryz.prog 210 #[.string ⟨s.toArray⟩] w fun e w'=>e= .returned (rsixV (sixL s))∧Below w.heap.size w w':=by
 by_cases h:Lib.index s [58,58]= -1
 ·exact rsix_none s w hs h
 ·exact rsix_some s w hs h
end Go.Proofs.YtlcnknlmdaochaaGreatDoor
