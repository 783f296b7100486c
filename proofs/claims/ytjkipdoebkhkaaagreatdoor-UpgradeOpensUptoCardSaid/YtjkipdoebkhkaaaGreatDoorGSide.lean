/- A side of a text of sixteen bytes: what its memory looks like between two steps. -/
import Derived.Test.YtjkipdoebkhkaaaGreatDoorGCnt
set_option linter.unusedVariables false
set_option linter.unusedSimpArgs false
set_option maxHeartbeats 16000000
namespace Go.Proofs.YtjkipdoebkhkaaaGreatDoor
open Go.RowKit
structure But (B b:Nat) (w w':World):Prop where
 size:w.heap.size≤w'.heap.size
 block:∀k,k<B→k≠b→w'.heap[k]?=w.heap[k]?
theorem But.refl (B b:Nat) (w:World):But B b w w:=⟨Nat.le_refl _,fun _ _ _=>rfl⟩
theorem But.trans {B b:Nat} {x y z:World} (h:But B b x y) (k:But B b y z):But B b x z:=
 ⟨Nat.le_trans h.size k.size,fun i hi hb=>(k.block i hi hb).trans (h.block i hi hb)⟩
theorem But.below {B C b:Nat} {w w':World} (h:Below C w w') (hB:B≤C):But B b w w':=⟨h.size,fun k hk _=>h.block k (by omega)⟩
structure Side (W0:World) (base b:Nat) (last:Bool) (L:List UInt8) (w:World):Prop where
 low:Below W0.heap.size W0 w
 hb:W0.heap.size≤b∧b<base
 hw:base≤w.heap.size
 mem:∃a c,Blk w b 270 #[.slice a L.length c, .bool last]∧w.ownsRow base 5 1 (.slice a L.length c) L.length (byts L)
section
variable {W0 w w':World} {base b:Nat} {last:Bool} {L:List UInt8}
theorem Side.below (h:Side W0 base b last L w) (hb:Below w.heap.size w w'):Side W0 base b last L w':=by
 obtain⟨a,c,h1,h2⟩:=h.mem;exact⟨h.low.trans (hb.mono h.low.size),h.hb,Nat.le_trans h.hw hb.size,a,c,h1.below hb h1.lt,own_below h2 hb⟩
end
def Keep (w w':World):Prop:=∀(g:Nat) (cs:Array Value) (t:TypeId),t≠5→t≠270→Blk w g t cs→Blk w' g t cs
theorem Keep.refl (w:World):Keep w w:=fun _ _ _ _ _ h=>h
theorem Keep.trans {x y z:World} (h:Keep x y) (k:Keep y z):Keep x z:=fun g cs t h1 h2 hb=>k g cs t h1 h2 (h g cs t h1 h2 hb)
theorem Keep.below {w w':World} (h:Below w.heap.size w w'):Keep w w':=fun _ _ _ _ _ hb=>hb.below h hb.lt
theorem Side.append {W0 w1 w2:World} {base b:Nat} {last:Bool} {L M:List UInt8} {a:Option Addr} {c:Nat} {a2:Option Addr} {c2:Nat} (hlow:Below W0.heap.size W0 w1) (hbb:W0.heap.size≤b∧b<base) (hw:base≤w1.heap.size)
 (hB:Blk w1 b 270 #[.slice a L.length c, .bool last]) (hown:w1.ownsRow base 5 1 (.slice a L.length c) L.length (byts L))
 (hgr:w1.grownBy w2 (Value.slice a L.length c).ownBlock) (hown2:w2.ownsRow base 5 1 (.slice a2 (L.length+M.length) c2) (L.length+M.length) (byts (L++M))):
 Side W0 base b last (L++M) (w2.setCell ⟨b,0,none⟩ (.slice a2 (L.length+M.length) c2))∧But base b w1 (w2.setCell ⟨b,0,none⟩ (.slice a2 (L.length+M.length) c2))∧
 Keep w1 (w2.setCell ⟨b,0,none⟩ (.slice a2 (L.length+M.length) c2)):=by
 have hne:(Value.slice a L.length c).ownBlock≠some b:=fun e=>by have:=(hown.lt b e).1;omega
 have hB2:=hB.grown hgr (Ne.symm hne)
 refine⟨⟨(hlow.grown hgr hlow.size (fun g hg=>Nat.le_trans (Nat.le_trans hbb.1 (Nat.le_of_lt hbb.2)) (hown.lt g hg).1)).setCell (p:=⟨b,0,none⟩) hbb.1 _,hbb,by have:=hgr.size;simp;omega,a2,c2, ?_, ?_⟩,⟨by have:=hgr.size;simpa using this,fun k hk hkb=> ?_⟩,fun g cs t ht hts h=> ?_⟩
 ·simpa using hB2.set_ 0 (.slice a2 (L.length+M.length) c2)
 ·have:=ownsRow_setCell_other hown2 (a:=⟨b,0,none⟩) (fun e=>by have:=(hown2.lt b e).1;omega) (.slice a2 (L.length+M.length) c2)
  simpa using this
 ·rw[Below.heap_setCell w2 _ _ k (fun e=>hkb e)]
  exact hgr.block k (by omega) (fun e=>by have:=(hown.lt k e.symm).1;omega)
 ·have h1:some g≠(Value.slice a L.length c).ownBlock:=fun e=>own_blk_ne hown h (Ne.symm ht) e.symm
  exact(h.grown hgr h1).far (p:=⟨b,0,none⟩) (fun e=>by
   have e2:g=b:=e;subst e2;exact hB.ne_ h (Ne.symm hts) rfl) _
theorem byte_hi {n:Nat} (h:n<65536):(Value.int .u8 ((n:Int)/256))= .int .u8 ((UInt8.ofNat (n/256)).toNat:Int):=by
 rw[UInt8.toNat_ofNat',Nat.mod_eq_of_lt (by omega)];congr 1
theorem byte_lo (n:Nat):(Value.int .u8 ((n:Int) % 256))= .int .u8 ((UInt8.ofNat (n % 256)).toNat:Int):=by
 rw[UInt8.toNat_ofNat',Nat.mod_eq_of_lt (by omega)];congr 1
set_option maxRecDepth 100000 in
theorem piece_ok (W0:World) (base b:Nat) (last:Bool) (L s:List UInt8) (w:World) (n:Nat) (hn:n<65536) (h0:s≠[]) (h4:s.length≤4) (hS:Side W0 base b last L w) (hL:L.length≤1000000000)
 (cc:∀W,Below W0.heap.size W0 W→Calls Tryz.prog 193 #[.string ⟨s.toArray⟩, .int .i64 16] W fun e W'=>e= .returned (.tuple #[.int .i64 (n:Int), .bool true])∧Below W.heap.size W W'):
 Calls Tryz.prog 265 #[.pointer (some ⟨b,0,none⟩), .string ⟨s.toArray⟩] w fun e w'=>e= .returned (.bool true)∧Side W0 base b last (L++[UInt8.ofNat (n/256),UInt8.ofNat (n % 256)]) w'∧But base b w w'∧Keep w w':=by
 have hlow:=hS.low
 have he:s.isEmpty=false:=by cases s with|nil=>exact absurd rfl h0|cons a l=>rfl
 have he2:(s==[])=false:=by rw[beq_eq_false_iff_ne];exact h0
 go_enter Tryz.func265,Tryz.ntmps265
 go_wp2_with fail
 go_at_call 193
 refine(cc _ hlow).mono ?_
 rintro e w1 ⟨rfl,hb1⟩
 obtain⟨hlow1,hbb,hw1,a,c,hB1,hown1⟩:=hS.below hb1
 have c0:w1.cell? ⟨b,0,none⟩=some (.slice a L.length c):=hB1.cell 0
 have HB1:=Lib.hid hB1
 clear hB1
 go_wp2_with(at_builtin;refine wpList_append_vals e_byte _ rfl _ _ rfl base _ _ _ rfl hown1 _ _ _ rfl rfl (fun u hu=>by simp only[List.mem_cons,List.not_mem_nil,or_false]at hu;rcases hu with rfl|rfl<;>rfl) (by simp;omega) (by simp;omega) hw1 ?_)
 intro v' w2 hown2 hgr _
 obtain⟨a2,c2,rfl⟩:=own_form hown2
 have hne:(Value.slice a L.length c).ownBlock≠some b:=fun e=>by have:=(hown1.lt b e).1;omega
 have hB2:=HB1.out.grown hgr (Ne.symm hne)
 have d0:w2.cell? ⟨b,0,none⟩=some (.slice a L.length c):=hB2.cell 0
 have f0:=hB2.frozen 0
 have hl2:=hB2.lt
 have h3:=hown2
 rw[byte_hi hn,byte_lo n,byts_two]at h3
 obtain⟨hS2,hbut2,hk2⟩:=Side.append (M:=[UInt8.ofNat (n/256),UInt8.ofNat (n % 256)]) hlow1 hbb hw1 HB1.out hown1 hgr h3
 have hbut:=(But.below (b:=b) hb1 hS.hw).trans hbut2
 have hkp:=(Keep.below hb1).trans hk2
 clear h3 hbut2 hk2
 clear hgr hown2 hown1 HB1 hB2 hS hlow1 hb1 hne
 go_wp2_with fail
 go_ret
 exact⟨rfl,hS2,hbut,hkp⟩
set_option maxRecDepth 100000 in
theorem piece_no (W0:World) (b:Nat) (s:List UInt8) (w:World) (n:Nat) (ok:Bool) (h:ok=false∨s=[]∨4<s.length) (hlow:Below W0.heap.size W0 w)
 (cc:∀W,Below W0.heap.size W0 W→Calls Tryz.prog 193 #[.string ⟨s.toArray⟩, .int .i64 16] W fun e W'=>e= .returned (.tuple #[.int .i64 (n:Int), .bool ok])∧Below W.heap.size W W'):
 Calls Tryz.prog 265 #[.pointer (some ⟨b,0,none⟩), .string ⟨s.toArray⟩] w fun e w'=>e= .returned (.bool false)∧Below w.heap.size w w':=by
 cases ok with
 |false=>
  clear h;go_enter Tryz.func265,Tryz.ntmps265;go_wp2_with(go_at_call 193;refine(cc _ hlow).mono ?_;rintro e w1 ⟨rfl,hb1⟩);go_ret;exact⟨rfl,hb1⟩
 |true=>
  by_cases h0:s=[]
  ·subst h0
   clear h;go_enter Tryz.func265,Tryz.ntmps265;go_wp2_with(go_at_call 193;refine(cc _ hlow).mono ?_;rintro e w1 ⟨rfl,hb1⟩);go_ret;exact⟨rfl,hb1⟩
  ·have h4:4<s.length:=by
    rcases h with h|h|h
    ·cases h
    ·exact absurd h h0
    ·exact h
   clear h;have he:s.isEmpty=false:=by cases s with|nil=>exact absurd rfl h0|cons a l=>rfl
   have he2:(s==[])=false:=by rw[beq_eq_false_iff_ne];exact h0
   go_enter Tryz.func265,Tryz.ntmps265;go_wp2_with(go_at_call 193;refine(cc _ hlow).mono ?_;rintro e w1 ⟨rfl,hb1⟩);go_ret;exact⟨rfl,hb1⟩
end Go.Proofs.YtjkipdoebkhkaaaGreatDoor
namespace Go.Proofs.YtjkipdoebkhkaaaGreatDoor
theorem parse_cnt {base:Nat}:∀ {x:List UInt8} {acc v:Nat},parseB base 255 acc x= .ok v→cntF base acc x=some v
 |[],acc,v,h=>by simp only[parseB,Lib.NumEnd.ok.injEq]at h;subst h;rfl
 |c::x,acc,v,h=>by
  unfold parseB at h;split at h
  ·cases h
  ·rename_i h1
   split at h
   ·cases h
   ·rename_i h2
    rw[cntF,if_neg h1,Nat.min_eq_right (by omega)];exact parse_cnt h
theorem cntF_ge {base:Nat} (hb:1≤base):∀ {x:List UInt8} {acc n:Nat},acc≤4294967296→cntF base acc x=some n→acc≤n
 |[],acc,n,h0,h=>by simp[cntF]at h;omega
 |c::x,acc,n,h0,h=>by
  rw[cntF]at h;split at h
  ·cases h
  ·have:=cntF_ge hb (Nat.min_le_left _ _) h
   have:acc*1≤acc*base:=Nat.mul_le_mul_left _ hb;omega
theorem cnt_parse8 {base:Nat} (hb:1≤base):∀ {x:List UInt8} {acc n:Nat},acc≤255→n≤255→cntF base acc x=some n→parseB base 255 acc x= .ok n
 |[],acc,n,h0,hn,h=>by simp only[cntF,Option.some.injEq]at h;subst h;rfl
 |c::x,acc,n,h0,hn,h=>by
  rw[cntF]at h;split at h
  ·cases h
  ·rename_i h1
   have h2:=cntF_ge hb (Nat.min_le_left _ _) h;rw[Nat.min_eq_right (by omega)]at h h2;rw[parseB_go (by omega) (by omega) (by omega)];exact cnt_parse8 hb (by omega) hn h
theorem cntF_snoc {base:Nat} {d:UInt8}:∀ {x:List UInt8} {acc:Nat},cntF base acc (x++[d])=match cntF base acc x with
  |none=>none
  |some m=>if hexI d.toNat<0∨(base:Int)≤hexI d.toNat then none else some (min 4294967296 (m*base+(hexI d.toNat).toNat))
 |[],acc=>by
  rw[List.nil_append,cntF];rfl
 |c::x,acc=>by
  rw[List.cons_append,cntF,cntF];split
  ·rfl
  ·exact cntF_snoc
theorem hex_dig {c:UInt8} (h0:0≤hexI c.toNat) (h1:hexI c.toNat<10):hexB (hexI c.toNat).toNat=c:=by
 have hc:c.toNat=48+(hexI c.toNat).toNat:=by
  unfold hexI at h0 h1⊢;split
  ·omega
  ·rename_i h2
   rw[if_neg h2]at h0 h1;split at h1
   ·omega
   ·rename_i h3
    rw[if_neg h3]at h0;split at h1
    ·omega
    ·rename_i h4
     rw[if_neg h4]at h0;omega
 unfold hexB;rw[if_pos (by omega)];apply UInt8.toNat_inj.1;rw[UInt8.toNat_ofNat',←hc];have:=c.toNat_lt;omega
theorem dec_canon:∀(f:Nat) (x:List UInt8) (n:Nat),x≠[]→(1<x.length→(x.getD 0 0).toNat≠48)→cntL 10 x=some n→n<4294967296→n<10^(f+1)→digF 10 f n=x
 |f,x,n,h0,hz,hc,hn,hf=>by
  obtain⟨y,d,rfl⟩:∃y d,x=y++[d]:=⟨x.dropLast,x.getLast h0,(List.dropLast_concat_getLast h0).symm⟩;unfold cntL at hc;rw[cntF_snoc]at hc
  cases hy:cntF 10 0 y with
  |none=>rw[hy]at hc;cases hc
  |some m=>
   rw[hy]at hc;simp only at hc;split at hc
   ·cases hc
   ·rename_i hd
    injection hc with hc;have hd2:=hex_dig (c:=d) (by omega) (by omega);by_cases hy0:y=[]
    ·subst hy0
     simp only[cntF,Option.some.injEq]at hy;subst hy;rw[digF_low (by omega),List.nil_append];congr 1;rw[←hd2];congr 1;omega
    ·have hlen:0<y.length:=List.length_pos_iff.2 hy0
     have hz':(y.getD 0 0).toNat≠48:=by
      have:=hz (by simp;omega);have e:(y++[d]).getD 0 0=y.getD 0 0:=by cases y with|nil=>exact absurd rfl hy0|cons a r=>rfl
      rwa[e]at this
     have hm:1≤m:=by
      cases y with
      |nil=>exact absurd rfl hy0
      |cons c r=>
       rw[cntF]at hy;split at hy
       ·cases hy
       ·rename_i hc2
        have hge:=cntF_ge (by decide) (Nat.min_le_left _ _) hy;have:1≤hexI c.toNat:=by
         rcases Int.lt_or_le 0 (hexI c.toNat)with h|h
         ·omega
         ·exfalso
          apply hz';have h00:hexI c.toNat=0:=by omega
          have:=hex_dig (c:=c) (by omega) (by omega);rw[h00]at this;show c.toNat=48;rw[←this];rfl
        omega
     cases f with
     |zero=>simp at hf;omega
     |succ f=>
      have ih:=dec_canon f y m hy0 (fun _=>hz') hy (by omega) (by rw[Nat.pow_succ]at hf;omega);rw[digF_step (by omega)];have e1:n/10=m:=by omega
      have e2:n % 10=(hexI d.toNat).toNat:=by omega
      rw[e1,e2,ih,hd2]
theorem dec_head:∀v:Fin 256,(dec8 v.val).length=1∨((dec8 v.val).getD 0 0).toNat≠48:=by decide+kernel
theorem byteN_ok {x:List UInt8} {c:UInt8} (h:byteN x=some c):x≠[]∧parseB 10 255 0 x= .ok c.toNat∧dec8 c.toNat=x:=by
 unfold byteN at h
 cases hc:cntL 10 x with
 |none=>rw[hc]at h;cases h
 |some n=>
  rw[hc]at h;simp only at h;split at h
  ·cases h
  ·rename_i hh
   injection h with h;have hn:n≤255:=by omega
   have hcn:c.toNat=n:=by rw[←h,UInt8.toNat_ofNat',Nat.mod_eq_of_lt (by omega)]
   rw[hcn];exact⟨fun e=>hh (.inl e),cnt_parse8 (by decide) (by decide) hn hc,dec_canon 20 x n (fun e=>hh (.inl e)) (fun h1 h2=>hh (.inr (.inl ⟨h1,h2⟩))) hc (by omega) (by omega)⟩
theorem byteN_no {x:List UInt8} {v:Nat} (h:byteN x=none) (h0:x≠[]) (hp:parseB 10 255 0 x= .ok v):dec8 v≠x:=by
 intro he;have hc:cntL 10 x=some v:=parse_cnt hp;have hv:=parseB_le 10 255 x 0 v (by decide) hp;unfold byteN at h;rw[hc]at h;simp only at h;split at h
 ·rename_i hh
  rcases hh with hh|⟨h1,h2⟩|hh
  ·exact h0 hh
  ·rcases dec_head ⟨v,by omega⟩with h3|h3
   ·simp only[he]at h3;omega
   ·simp only[he]at h3;exact h3 h2
  ·omega
 ·cases h
open Go.RowKit
theorem pu10b_empty (w:World) (hE:Env w):
 Calls Tryz.prog 247 #[.string ⟨#[]⟩, .int .i64 10, .int .i64 8] w fun e w'=>∃(n:Int) (T:TypeId) (q:Value),0≤n∧e= .returned (.tuple #[.int .u64 n, .iface T q])∧Below w.heap.size w w':=by
 obtain⟨ts,ps,hS⟩:=hE.errS
 refine(Tryz.strconv_ParseUint_10_at8_syntax ⟨#[]⟩ (by decide) (by rfl) _ w hS (.inr ⟨ts,ps,rfl⟩)).mono ?_
 rintro e w2 ⟨N,rfl,_,_,hb⟩
 exact⟨_,_,_,by omega,rfl,hb⟩
theorem pu10b_no (x:List UInt8) (hmax:x.length≤140737488351232) (h:x=[]∨∀v,parseB 10 255 0 x≠ .ok v) (w:World) (hE:Env w):
 Calls Tryz.prog 247 #[.string ⟨x.toArray⟩, .int .i64 10, .int .i64 8] w fun e w'=>∃(n:Int) (T:TypeId) (q:Value),0≤n∧e= .returned (.tuple #[.int .u64 n, .iface T q])∧Below w.heap.size w w':=by
 by_cases h0:x=[]
 ·subst h0;exact pu10b_empty w hE
 ·exact pu10b_bad x h0 hmax (h.resolve_left h0) w hE
theorem bytesN_step {P r:List (List UInt8)} {done:List UInt8} {k:Nat} {c:UInt8} (hk:k<P.length) (H:bytesN P=match bytesN (P.drop k)with|none=>none|some t=>some (done++t)) (h:byteN P[k]=some c):
 bytesN P=match bytesN (P.drop (k+1))with|none=>none|some t=>some ((done++[c])++t):=by
 rw[H,List.drop_eq_getElem_cons hk,bytesN,h]
 cases bytesN (P.drop (k+1))with
 |none=>rfl
 |some t=>simp
theorem bytesN_stop {P:List (List UInt8)} {done:List UInt8} {k:Nat} (hk:k<P.length) (H:bytesN P=match bytesN (P.drop k)with|none=>none|some t=>some (done++t)) (h:byteN P[k]=none):bytesN P=none:=by
 rw[H,List.drop_eq_getElem_cons hk,bytesN,h]
def SidePost (W0:World) (base b:Nat) (last:Bool) (L:List UInt8) (want:Option (List UInt8)) (w:World) (e:Ending) (w':World):Prop:=
 ∃(ok:Bool) (L':List UInt8),e= .returned (.bool ok)∧Side W0 base b last L' w'∧But base b w w'∧Keep w w'∧match want with|none=>ok=false|some r=>ok=true∧L'=L++r
def sfourO (last:Bool) (s:List UInt8):Option (List UInt8):=if last then fourB s else none
structure SFour (W0:World) (base b:Nat) (last:Bool) (L:List UInt8) (w:World) (g:Nat) (P:List (List UInt8)) (k:Nat) (r:List UInt8) (wr:World):Prop where
 side:Side W0 base b last (L++r) wr
 but:But base b w wr
 keep:Keep w wr
 row:Blk wr g 9 (strs P).toArray
 len:r.length≤k
set_option maxRecDepth 100000 in
theorem sfour_any (W0:World) (base b:Nat) (last:Bool) (L s:List UInt8) (w:World) (hE:Env W0) (hp:Pow10 W0) (hS:Side W0 base b last L w) (hL:L.length≤1000000000) (hs:s.length≤900000000):
 Calls Tryz.prog 266 #[.pointer (some ⟨b,0,none⟩), .string ⟨s.toArray⟩] w (SidePost W0 base b last L (sfourO last s) w):=by
 have csp:=split_any s 46 w (hE.below hS.low).shaped (by omega)
 obtain⟨hpx,hpl⟩:=partsL_le 46 s
 have hw:sfourO last s=if last then (if (partsL 46 s).length=4 then bytesN (partsL 46 s)else none)else none:=rfl
 have HWN:=Lib.hid hw
 clear hw
 generalize sfourO last s=WN at*
 generalize partsL 46 s=P at*
 have hstart:SFour W0 base b last L w w.heap.size P 0 [] (w.alloc (.cells (strs P).toArray 9)):=⟨by rw[List.append_nil];exact hS.below (below_alloc w _),But.below (below_alloc w _) hS.hw,Keep.below (below_alloc w _),Blk.new _ _ _,by simp⟩
 go_enter Tryz.func266,Tryz.ntmps266
 go_wp2_with fail
 go_at_call 137
 refine csp.mono ?_
 rintro e w1 ⟨rfl,rfl⟩
 generalize w.alloc (.cells (strs P).toArray 9)=w1 at*
 generalize hg:w.heap.size=g at*
 clear hg
 go_wp2_with fail
 go_loopw [14] (fun i wr=>∃(k:Nat) (r:List UInt8),k≤P.length∧i= .int .i64 k∧Hid (bytesN P=match bytesN (P.drop k)with|none=>none|some t=>some (r++t))∧Hid (SFour W0 base b last L w g P k r wr)) (fun i _=>P.length-(intOf i).toNat)
 case atStart=>exact⟨0,[],Nat.zero_le _,rfl,by show _=_;rw[List.drop_zero];cases bytesN P<;>rfl,hstart⟩
 case round=>
  obtain⟨V,rfl⟩:∃V,V=wr:=⟨wr,rfl⟩;obtain⟨k,r,hk,rfl,H,HM⟩:=hrel;clear hstart;have hlow:=HM.out.side.low;by_cases hlt:k<P.length
  ·have hc:=HM.out.row.cell k
   rw[List.getElem?_toArray,strs_get hlt]at hc;have hxl:=hpx _ (List.getElem_mem hlt);have hst:=fun c h=>bytesN_step (r:=[]) (c:=c) hlt H.out h
   have hno:=bytesN_stop hlt H.out;generalize P[k]=x at*
   cases hb:byteN x with
   |some c=>
    obtain⟨hx0,hpo,hdx⟩:=byteN_ok hb;have HN:=Lib.hid (hst c hb);have cp:=pu10b_ok x hx0 (by omega) c.toNat hpo V;have c8:=c.toNat_lt;have cf:=fun W hW=>fmtU10_any c.toNat (by omega) W hW
    rw[hdx]at cf;clear hst hno hpo hdx hb;go_wp2_with fail;go_at_call 247;refine cp.mono ?_;rintro e w2 ⟨rfl,hb2⟩;have hl2:=hlow.trans (hb2.mono hlow.size);have cf2:=cf w2 (hp.below hl2);go_wp2_with fail;go_at_call 298;refine cf2.mono ?_;rintro e w3 ⟨rfl,hb3⟩;have hb23:=hb2.trans (hb3.mono hb2.size);obtain⟨Lr,hLr⟩:∃Lr,Lr=L++r:=⟨_,rfl⟩;have hS23:=HM.out.side.below hb23;rw[←hLr]at hS23;have hlr:Lr.length≤1000000000+k:=by rw[hLr,List.length_append];have:=HM.out.len;omega
    have HLR:=Lib.hid hLr;clear hLr;obtain⟨hlow3,hbb,hw3,a,cp3,hB3,hown3⟩:=hS23;have hrow3:=HM.out.row.below hb23 HM.out.row.lt;have hbut3:=HM.out.but.trans (But.below hb23 HM.out.side.hw);have hkp3:=HM.out.keep.trans (Keep.below hb23);have hlen:=HM.out.len;have c0:w3.cell? ⟨b,0,none⟩=some (.slice a Lr.length cp3):=hB3.cell 0;have HB3:=Lib.hid hB3;clear hB3 cf cf2 cp hc;go_wp2_with(at_builtin;refine wpList_append_vals e_byte _ rfl _ _ rfl base _ _ _ rfl hown3 _ _ _ rfl rfl (fun u hu=>by simp only[List.mem_cons,List.not_mem_nil,or_false]at hu;rcases hu with rfl;rfl) (by simp;omega) (by simp;omega) hw3 ?_);intro v' w4 hown4 hgr _;obtain⟨a2,c2,rfl⟩:=own_form hown4;rw[byts_snoc]at hown4;have hne:(Value.slice a Lr.length cp3).ownBlock≠some b:=fun e=>by have:=(hown3.lt b e).1;omega
    have hB4:=HB3.out.grown hgr (Ne.symm hne);have d0:w4.cell? ⟨b,0,none⟩=some (.slice a Lr.length cp3):=hB4.cell 0;have f0:=hB4.frozen 0;have hl4:=hB4.lt;obtain⟨hS5,hbut5,hk5⟩:=Side.append (M:=[c]) hlow3 hbb hw3 HB3.out hown3 hgr hown4;have hrow5:=hk5 g _ _ (by decide) (by decide) hrow3;have HM5:Hid (SFour W0 base b last L w g P (k+1) (r++[c]) (w4.setCell ⟨b,0,none⟩ (.slice a2 (Lr.length+1) c2))):=⟨by rw[←List.append_assoc,←HLR.out];exact hS5,hbut3.trans hbut5,hkp3.trans hk5,hrow5,by simp;omega⟩;clear hown3 hown4 hgr hne hB4 hS5 hbut5 hk5 hrow5 hrow3 hbut3 HB3 hb23 hlow3 hb2 hb3 hl2;go_wp2_with fail;go_roundw
    case rel=>exact⟨k+1,r++[c],by omega,by go_num,HN,HM5⟩
    case measure=>simp[intOf];omega
   |none=>
    have HN:=Lib.hid (hno hb);have hW0:Hid (WN=none):=by
     show _=_;rw[HWN.out,HN.out];split<;>(try split)<;>rfl
    have hpar:(x=[]∨∀v,parseB 10 255 0 x≠ .ok v)∨(x≠[]∧∃v,v≤255∧parseB 10 255 0 x= .ok v∧dec8 v≠x):=by
     by_cases h0:x=[]
     ·exact .inl (.inl h0)
     ·cases hp2:parseB 10 255 0 x with
      |ok v=>exact .inr ⟨h0,v,parseB_le 10 255 x 0 v (by decide) hp2,rfl,byteN_no hb h0 hp2⟩
      |_=>exact .inl (.inr (by intro v h;cases h))
    have hlow2:=HM.out.side;have hbut2:=HM.out.but;have hkp2:=HM.out.keep;have hbs:=HM.out.side.hw;clear hst hno hb H HM HN;rcases hpar with hbad|⟨h0,v,hv,hpo,hd⟩
    ·have cp:=pu10b_no x (by omega) hbad V (hE.below hlow)
     clear hbad;go_wp2_with fail;go_at_call 247;refine cp.mono ?_;rintro e w2 ⟨n,T,q,hn,rfl,hb2⟩;have hfin:SidePost W0 base b last L WN w (.returned (.bool false)) w2:=⟨false,_,rfl,hlow2.below hb2,hbut2.trans (But.below hb2 hbs),hkp2.trans (Keep.below hb2),by rw[hW0.out]⟩;clear cp hc hlow2 hbut2;go_wp2_with fail;go_ret;exact hfin
    ·have cp:=pu10b_ok x h0 (by omega) v hpo V
     have cf:=fun W hW=>fmtU10_any v (by omega) W hW
     have hdb:(dec8 v==x)=false:=beq_eq_false_iff_ne.2 hd;have hdn:(dec8 v !=x)=true:=bne_iff_ne.2 hd;have hde:¬dec8 v=x:=hd;have HD:=Lib.hid hd;clear hd hpo;generalize dec8 v=D at*;go_wp2_with fail;go_at_call 247;refine cp.mono ?_;rintro e w2 ⟨rfl,hb2⟩;have hl2:=hlow.trans (hb2.mono hlow.size);have cf2:=cf w2 (hp.below hl2);go_wp2_with fail;go_at_call 298;refine cf2.mono ?_;rintro e w3 ⟨rfl,hb3⟩;have hb23:=hb2.trans (hb3.mono hb2.size);have hfin:SidePost W0 base b last L WN w (.returned (.bool false)) w3:=⟨false,_,rfl,hlow2.below hb23,hbut2.trans (But.below hb23 hbs),hkp2.trans (Keep.below hb23),by rw[hW0.out]⟩;clear cp hc hlow2 hbut2 cf cf2;go_wp2_with fail;go_ret;exact hfin
  ·obtain rfl:k=P.length:=by omega
   have hH:=H.out;rw[List.drop_length]at hH;simp only[bytesN,List.append_nil]at hH;have hW0:WN=if last then (if P.length=4 then some r else none)else none:=by rw[HWN.out,hH]
   obtain⟨a,cp,hB,hown⟩:=HM.out.side.mem;have c1:V.cell? ⟨b,1,none⟩=some (.bool last):=hB.cell 1;have hS:=HM.out.side;have hbut:=HM.out.but;have hkp:=HM.out.keep;have HB:=Lib.hid hB;clear H hH hB hown
   cases last with
   |false=>
    have hfin:SidePost W0 base b false L WN w (.returned (.bool false)) V:=⟨false,_,rfl,hS,hbut,hkp,by rw[hW0,if_neg (by decide)]⟩;clear hW0 HWN HM hS hbut HB;go_wp2_with fail;go_ret;exact hfin
   |true=>
    rw[if_pos rfl]at hW0;by_cases h4:P.length=4
    ·have h4b:((P.length:Int)==4)=true:=beq_iff_eq.2 (by omega)
     have hfin:SidePost W0 base b true L WN w (.returned (.bool true)) V:=⟨true,_,rfl,hS,hbut,hkp,by rw[hW0,if_pos h4];exact⟨rfl,rfl⟩⟩;have H4:=Lib.hid h4;clear hW0 HWN HM hS hbut HB h4;go_wp2_with fail;go_ret;exact hfin
    ·have h4b:((P.length:Int)==4)=false:=beq_eq_false_iff_ne.2 (by omega)
     have hfin:SidePost W0 base b true L WN w (.returned (.bool false)) V:=⟨false,_,rfl,hS,hbut,hkp,by rw[hW0,if_neg h4]⟩;have H4:=Lib.hid h4;clear hW0 HWN HM hS hbut HB h4;go_wp2_with fail;go_ret;exact hfin
theorem piece_any (W0:World) (base b:Nat) (last:Bool) (L s:List UInt8) (w:World) (hE:Env W0) (hS:Side W0 base b last L w) (hL:L.length≤1000000000) (hs:s.length≤900000000):
 Calls Tryz.prog 265 #[.pointer (some ⟨b,0,none⟩), .string ⟨s.toArray⟩] w (SidePost W0 base b last L (pieceN s) w):=by
 have cc:=fun W (hW:Below W0.heap.size W0 W)=>count_16 s W (hE.below hW) (by omega)
 unfold pieceN
 cases hc:cntL 16 s with
 |none=>
  rw[hc]at cc;refine(piece_no W0 b s w 0 false (.inl rfl) hS.low cc).mono ?_;rintro e w' ⟨rfl,hb⟩;exact⟨false,_,rfl,hS.below hb,But.below hb hS.hw,Keep.below hb,rfl⟩
 |some n=>
  rw[hc]at cc;by_cases h:s=[]∨4<s.length
  ·refine(piece_no W0 b s w n true (.inr h) hS.low cc).mono ?_
   rintro e w' ⟨rfl,hb⟩;exact⟨false,_,rfl,hS.below hb,But.below hb hS.hw,Keep.below hb,by simp only[if_pos h]⟩
  ·refine(piece_ok W0 base b last L s w n (cnt_16_4 hc (by omega)) (fun e=>h (.inl e)) (by omega) hS hL cc).mono ?_
   rintro e w' ⟨rfl,h1,h2,h3⟩;exact⟨true,_,rfl,h1,h2,h3,by simp only[if_neg h];exact⟨trivial,trivial⟩⟩
theorem piecesN_step {fin:Bool} {P:List (List UInt8)} {done r:List UInt8} {k:Nat} (hk:k<P.length) (H:piecesN fin P=match piecesN fin (P.drop k)with|none=>none|some t=>some (done++t)) (h:pieceN P[k]=some r):
 piecesN fin P=match piecesN fin (P.drop (k+1))with|none=>none|some t=>some ((done++r)++t):=by
 rw[H,List.drop_eq_getElem_cons hk,piecesN,h]
 cases piecesN fin (P.drop (k+1))with
 |none=>rfl
 |some t=>simp
theorem piecesN_stop {fin:Bool} {P:List (List UInt8)} {done:List UInt8} {k:Nat} (hk:k<P.length) (H:piecesN fin P=match piecesN fin (P.drop k)with|none=>none|some t=>some (done++t)) (h:pieceN P[k]=none) (h2:k+1<P.length∨(46:UInt8)∉P[k]):piecesN fin P=none:=by
 rw[H,List.drop_eq_getElem_cons hk,piecesN,h];have:(if fin=true∧P.drop (k+1)=[]then fourB P[k]else none)=none:=by
  rcases h2 with h2|h2
  ·rw[if_neg]
   rintro⟨_,h3⟩;have:=List.drop_eq_nil_iff.1 h3;omega
  ·rw[four_point h2];split<;>rfl
 simp only[this]
theorem piecesN_last {fin:Bool} {P:List (List UInt8)} {done:List UInt8} {k:Nat} (hk:k<P.length) (H:piecesN fin P=match piecesN fin (P.drop k)with|none=>none|some t=>some (done++t)) (hl:k+1=P.length) (h2:(46:UInt8)∈P[k]):
 piecesN fin P=match sfourO fin P[k]with|none=>none|some t=>some (done++t):=by
 rw[H,List.drop_eq_getElem_cons hk,piecesN,piece_point h2,List.drop_of_length_le (by omega)]
 unfold sfourO
 cases fin<;>simp
theorem idx46 (x:List UInt8):Lib.indexByte x 46= -1↔(46:UInt8)∉x:=by
 constructor
 ·intro h hm
  obtain⟨k,hk,hk2⟩:=List.getElem_of_mem hm;exact Lib.indexByte_none h k (by rw[List.getElem?_eq_getElem hk,hk2])
 ·intro hm
  apply Classical.byContradiction;intro h;have hge:=Lib.indexByte_ge x 46;obtain⟨o,ho⟩:∃o:Nat,Lib.indexByte x 46=o:=⟨(Lib.indexByte x 46).toNat,by omega⟩;obtain⟨h1,_⟩:=Lib.indexByte_some ho;obtain⟨hlt,hc⟩:=List.getElem?_eq_some_iff.1 h1;exact hm (hc▸List.getElem_mem hlt)
theorem contains46 (x:List UInt8):Lib.contains x [46]=decide ((46:UInt8)∈x):=by
 have h:=idx46 x;have h2:=Lib.indexByte_ge x 46;unfold Lib.contains;rw[Lib.index_one];by_cases hm:(46:UInt8)∈x
 ·have:¬Lib.indexByte x 46= -1:=fun e=>h.1 e hm
  simp[hm];omega
 ·rw[h.2 hm]
  simp[hm]
set_option maxRecDepth 100000 in
theorem take_any (W0:World) (base b:Nat) (last:Bool) (s:List UInt8) (w:World) (hE:Env W0) (hp:Pow10 W0) (hS:Side W0 base b last [] w) (hs:s.length≤200000000):
 Calls Tryz.prog 227 #[.pointer (some ⟨b,0,none⟩), .string ⟨s.toArray⟩] w (SidePost W0 base b last [] (sideN last s) w):=by
 by_cases h0:s=[]
 ·subst h0
  have hfin:SidePost W0 base b last [] (sideN last []) w (.returned (.bool true)) w:=⟨true,_,rfl,hS,But.refl _ _ _,Keep.refl _,rfl,rfl⟩;generalize sideN last []=WN at*;go_enter Tryz.func227,Tryz.ntmps227;go_wp2_with fail;go_ret;exact hfin
 ·have h0b:=beq_ne h0
  have h0e:=isEmpty_ne h0;have csp:=split_any s 58 w (hE.below hS.low).shaped (by omega);obtain⟨hpx,hpl⟩:=partsL_le 58 s;have hw:sideN last s=piecesN last (partsL 58 s):=by unfold sideN;rw[if_neg h0]
  have HWN:=Lib.hid hw;clear hw;generalize sideN last s=WN at*;generalize partsL 58 s=P at*;have hstart:SFour W0 base b last [] w w.heap.size P (4*0) [] (w.alloc (.cells (strs P).toArray 9)):=⟨hS.below (below_alloc w _),But.below (below_alloc w _) hS.hw,Keep.below (below_alloc w _),Blk.new _ _ _,by simp⟩;go_enter Tryz.func227,Tryz.ntmps227;go_wp2_with fail;go_at_call 137;refine csp.mono ?_;rintro e w1 ⟨rfl,rfl⟩;generalize w.alloc (.cells (strs P).toArray 9)=w1 at*;generalize hg:w.heap.size=g at*;clear hg h0;go_wp2_with fail;go_loopw [15] (fun i wr=>∃(k:Nat) (r:List UInt8),k≤P.length∧i= .int .i64 k∧Hid (piecesN last P=match piecesN last (P.drop k)with|none=>none|some t=>some (r++t))∧Hid (SFour W0 base b last [] w g P (4*k) r wr)) (fun i _=>P.length-(intOf i).toNat)
  case atStart=>exact⟨0,[],Nat.zero_le _,rfl,by show _=_;rw[List.drop_zero];cases piecesN last P<;>rfl,hstart⟩
  case round=>
   obtain⟨V,rfl⟩:∃V,V=wr:=⟨wr,rfl⟩;obtain⟨k,r,hk,rfl,H,HM⟩:=hrel;clear hstart;have hlow:=HM.out.side.low;by_cases hlt:k<P.length
   ·have hc:=HM.out.row.cell k
    rw[List.getElem?_toArray,strs_get hlt]at hc;have hxl:=hpx _ (List.getElem_mem hlt);have hS1:=HM.out.side;rw[List.nil_append]at hS1;have hst:=fun r' h=>piecesN_step (r:=r') hlt H.out h
    have hno:=piecesN_stop hlt H.out;have hla:=piecesN_last hlt H.out;have hrl:r.length≤1000000000:=by have:=HM.out.len;omega
    have cpi:=fun W (hW:Side W0 base b last r W)=>piece_any W0 base b last r P[k] W hE hW hrl (by omega)
    have cfo:=fun W (hW:Side W0 base b last r W)=>sfour_any W0 base b last r P[k] W hE hp hW hrl (by omega)
    have cct:=fun W (hW:Below W0.heap.size W0 W)=>Tryz.strings_Contains_shaped ⟨(P[k]).toArray⟩ ⟨#[46]⟩ W (hE.below hW).shaped (by show(P[k]).length<_;omega)
    generalize P[k]=x at*;have hgo:∀(want:Option (List UInt8)) (e:Ending) (w':World),SidePost W0 base b last r want V e w'→∃(ok:Bool) (r':List UInt8),e= .returned (.bool ok)∧Side W0 base b last r' w'∧But base b w w'∧Keep w w'∧Blk w' g 9 (strs P).toArray∧match want with|none=>ok=false|some t=>ok=true∧r'=r++t:=fun want e w' ⟨ok,r',h1,h2,h3,h4,h5⟩=>
     ⟨ok,r',h1,h2,HM.out.but.trans h3,HM.out.keep.trans h4,h4 g _ _ (by decide) (by decide) HM.out.row,h5⟩
    have hrk:=HM.out.len;clear HM;by_cases hlast:k+1<P.length
    ·have hki:((k:Int)==(P.length:Int)-1)=false:=beq_eq_false_iff_ne.2 (by omega)
     have hkp:¬(k:Int)=(P.length:Int)-1:=by omega
     go_wp2_with fail;refine(cpi V hS1).mono ?_;intro e w2 hpost;obtain⟨ok,r',rfl,hS2,hbut2,hkp2,hrow2,hwant⟩:=hgo _ e w2 hpost
     cases hpn:pieceN x with
     |none=>
      rw[hpn]at hwant;have hW0:Hid (WN=none):=by show _=_;rw[HWN.out,hno hpn (.inl hlast)]
      have hfin:SidePost W0 base b last [] WN w (.returned (.bool false)) w2:=⟨false,_,rfl,hS2,hbut2,hkp2,by rw[hW0.out]⟩;simp only at hwant;subst hwant;clear hst hno hla cpi cfo cct hgo hpost H hS2 hbut2 hkp2 hrow2 hS1;go_wp2_with fail;go_ret;exact hfin
     |some t=>
      rw[hpn]at hwant;simp only at hwant;obtain⟨rfl,rfl⟩:=hwant;have HN:=Lib.hid (hst t hpn);have htl:=pieceN_len hpn;have HM2:Hid (SFour W0 base b last [] w g P (4*(k+1)) (r++t) w2):=⟨hS2,hbut2,hkp2,hrow2,by rw[List.length_append];omega⟩;clear hst hno hla cpi cfo cct hgo hpost H hS2 hbut2 hkp2 hrow2 hS1 hpn;go_wp2_with fail;go_roundw
      case rel=>exact⟨k+1,r++t,by omega,by go_num,HN,HM2⟩
      case measure=>simp[intOf];omega
    ·have hki:((k:Int)==(P.length:Int)-1)=true:=beq_iff_eq.2 (by omega)
     have hke:k+1=P.length:=by omega
     have ck:=cct V hlow;have c46:=contains46 x;rw[show(ByteArray.mk x.toArray).data.toList=x from rfl,show(ByteArray.mk #[46]).data.toList=[46]from rfl]at ck;rw[c46]at ck;by_cases hm:(46:UInt8)∈x
     ·rw[decide_eq_true hm]at ck
      have hl2:=hla hke hm;clear hla hst hno c46 cct cpi;go_wp2_with fail;go_at_call 70;refine ck.mono ?_;rintro e w9 ⟨rfl,rfl⟩;go_wp2_with fail;refine(cfo w9 hS1).mono ?_;intro e w2 hpost;obtain⟨ok,r',rfl,hS2,hbut2,hkp2,hrow2,hwant⟩:=hgo _ e w2 hpost
      cases hpn:sfourO last x with
      |none=>
       rw[hpn]at hwant hl2;simp only at hwant hl2;subst hwant;have hfin:SidePost W0 base b last [] WN w (.returned (.bool false)) w2:=⟨false,_,rfl,hS2,hbut2,hkp2,by rw[HWN.out,hl2]⟩;clear cfo hgo hpost H hS2 hbut2 hkp2 hrow2 hS1 hl2 hpn hm;go_wp2_with fail;go_ret;exact hfin
      |some t=>
       rw[hpn]at hwant hl2;simp only at hwant hl2;obtain⟨rfl,rfl⟩:=hwant;have HN:Hid (piecesN last P=match piecesN last (P.drop (k+1))with|none=>none|some t'=>some ((r++t)++t')):=by
        show _=_;rw[hl2,List.drop_of_length_le (by omega)];simp[piecesN]
       have htl:t.length=4:=by
        unfold sfourO at hpn
        cases last with
        |true=>exact fourB_len (by simpa using hpn)
        |false=>simp at hpn
       have HM2:Hid (SFour W0 base b last [] w g P (4*(k+1)) (r++t) w2):=⟨hS2,hbut2,hkp2,hrow2,by rw[List.length_append];omega⟩;have HK:=Lib.hid hke;clear cfo hgo hpost H hS2 hbut2 hkp2 hrow2 hS1 hpn hl2 hm hke;go_wp2_with fail;go_roundw
       case rel=>exact⟨k+1,r++t,by omega,by go_num,HN,HM2⟩
       case measure=>simp[intOf];omega
     ·rw[decide_eq_false hm]at ck
      have hno2:=fun h=>hno h (.inr hm)
      clear hla hno c46 cct cfo;go_wp2_with fail;go_at_call 70;refine ck.mono ?_;rintro e w9 ⟨rfl,rfl⟩;go_wp2_with fail;refine(cpi w9 hS1).mono ?_;intro e w2 hpost;obtain⟨ok,r',rfl,hS2,hbut2,hkp2,hrow2,hwant⟩:=hgo _ e w2 hpost
      cases hpn:pieceN x with
      |none=>
       rw[hpn]at hwant;simp only at hwant;subst hwant;have hfin:SidePost W0 base b last [] WN w (.returned (.bool false)) w2:=⟨false,_,rfl,hS2,hbut2,hkp2,by rw[HWN.out,hno2 hpn]⟩;clear cpi hgo hpost H hS2 hbut2 hkp2 hrow2 hS1 hst hno2 hpn hm;go_wp2_with fail;go_ret;exact hfin
      |some t=>
       rw[hpn]at hwant;simp only at hwant;obtain⟨rfl,rfl⟩:=hwant;have HN:=Lib.hid (hst t hpn);have htl:=pieceN_len hpn;have HM2:Hid (SFour W0 base b last [] w g P (4*(k+1)) (r++t) w2):=⟨hS2,hbut2,hkp2,hrow2,by rw[List.length_append];omega⟩;have HK:=Lib.hid hke;clear hst hno2 cpi hgo hpost H hS2 hbut2 hkp2 hrow2 hS1 hpn hm hke;go_wp2_with fail;go_roundw
       case rel=>exact⟨k+1,r++t,by omega,by go_num,HN,HM2⟩
       case measure=>simp[intOf];omega
   ·obtain rfl:k=P.length:=by omega
    have hH:=H.out;rw[List.drop_length]at hH;simp only[piecesN,List.append_nil]at hH;have hfin:SidePost W0 base b last [] WN w (.returned (.bool true)) V:=⟨true,_,rfl,HM.out.side,HM.out.but,HM.out.keep,by rw[HWN.out,hH];exact⟨rfl,rfl⟩⟩;clear hH H HM;go_wp2_with fail;go_ret;exact hfin
end Go.Proofs.YtjkipdoebkhkaaaGreatDoor
