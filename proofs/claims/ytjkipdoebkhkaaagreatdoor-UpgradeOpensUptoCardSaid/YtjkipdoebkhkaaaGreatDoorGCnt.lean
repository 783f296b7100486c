/- The walk of percent.Decode. -/
import Derived.Test.YtjkipdoebkhkaaaGreatDoorGInt
set_option linter.unusedVariables false
set_option linter.unusedSimpArgs false
set_option maxHeartbeats 16000000
namespace Go.Proofs.YtjkipdoebkhkaaaGreatDoor
open Go.RowKit
structure PctMem (w0:World) (B:Nat) (out:List UInt8) (wr:World):Prop where
 bld:Lib.IsBuilderF 171 5 B B (Lib.byteCells out) wr
 low:Below w0.heap.size w0 wr
 hB:w0.heap.size≤B
 sz:B<wr.heap.size
section
variable {w0 wr W:World} {B:Nat} {out:List UInt8}
theorem PctMem.below (h:PctMem w0 B out wr) (hb:Below wr.heap.size wr W):PctMem w0 B out W:=
 ⟨builder_below h.bld hb,h.low.trans (hb.mono h.low.size),h.hB,Nat.lt_of_lt_of_le h.sz hb.size⟩
theorem PctMem.drewN (h:PctMem w0 B out wr) (n:Nat):PctMem w0 B out (wr.drewN n):=⟨h.bld,⟨h.low.os,h.low.tape,h.low.output,h.low.size,h.low.block⟩,h.hB,h.sz⟩
theorem PctMem.more (h:PctMem w0 B out wr) {l:List UInt8} (hb:Lib.BuilderAtF 171 5 B B (.pointer (some ⟨B,0,none⟩)) (Lib.byteCells out++Lib.byteCells l) W) (hl:Below B wr W):PctMem w0 B (out++l) W:=
 ⟨.inr (by rw[Lib.byteCells_append];exact hb),h.low.trans (hl.mono h.hB),h.hB,Nat.lt_of_lt_of_le h.sz hl.size⟩
end
def strSz:Value→Nat
 | .string s=>s.size
 |_=>0
theorem cut37 (s:List UInt8) (w:World) (hE:Env w) (hs:s.length≤4000000000):
 Calls Tryz.prog 151 #[.string ⟨s.toArray⟩, .string ⟨#[37]⟩] w fun e w'=>e= .returned (.tuple #[.string ⟨(Lib.cut s [37]).1.toArray⟩, .string ⟨(Lib.cut s [37]).2.1.toArray⟩, .bool (Lib.cut s [37]).2.2])∧∃n,w'=w.drewN n:=
 (Tryz.strings_Cut_shaped ⟨s.toArray⟩ ⟨#[37]⟩ w hE.shaped (by show s.length<_;omega)).mono fun e w' h=>⟨by simpa using h.1,h.2⟩
theorem pct_start (w:World):PctMem w w.heap.size [] (w.alloc (.cells #[.pointer none, .slice none 0 0] 171)):=
 ⟨Lib.IsBuilderF.of (Lib.fresh_isBuilder _ _ w),(Below.refl _ w).alloc (Nat.le_refl _) _,Nat.le_refl _,by rw[World.size_alloc];omega⟩
section
variable (s0:List UInt8) (w:World)
def PctAt (v:Value) (wr:World):Prop:=∃l out:List UInt8,v= .string ⟨l.toArray⟩∧Hid (pctL s0=out++pctL l)∧out.length+l.length≤s0.length∧PctMem w w.heap.size out wr
end
set_option maxRecDepth 100000 in
theorem pct_any (s0:List UInt8) (w:World) (hE:Env w) (hs:s0.length≤4000000000):
 Calls Tryz.prog 229 #[.string ⟨s0.toArray⟩] w fun e w'=>e= .returned (.string ⟨(pctL s0).toArray⟩)∧Below w.heap.size w w':=by
 go_enter Tryz.func229,Tryz.ntmps229
 go_wp2_with fail
 go_loopw [0] (fun v wr=>PctAt s0 w v wr) (fun v _=>strSz v)
 case atStart=>exact⟨s0,[],rfl,by show _=_;simp,by simp,pct_start w⟩
 case round=>
  obtain⟨V,rfl⟩:∃V,V=wr:=⟨wr,rfl⟩;obtain⟨l,out,rfl,H,hlen,hm⟩:=hrel;have hEV:=hE.below hm.low;have cc:=cut37 l V hEV (by omega);rcases cut_one l 37 with ⟨hn,hc⟩|⟨a,b,rfl,hn,hc⟩
  ·rw[hc]at cc
   have HE:Hid (pctL s0=out++l):=by show _=_;rw[H.out,pctL_plain hn]
   clear hc hn H;go_wp2_with fail;go_at_call 151;refine cc.mono ?_;rintro e w1 ⟨rfl,n,rfl⟩;have hm1:=hm.drewN n;clear hm cc hEV;generalize V.drewN n=w1 at*;go_wp2_with fail;go_at_call 133;refine(writeString_k w.heap.size w.heap.size _ l w1 hm1.bld (by rw[Lib.byteCells_length];omega) hm1.low.size).mono ?_;rintro e w2 ⟨rfl,hb2,hl2,_⟩;have hm2:=hm1.more hb2 hl2;clear hb2 hl2 hm1;go_wp2_with fail;go_at_call 136;refine(Tryz.Builder_String_any_k w.heap.size w.heap.size (out++l) w2 hm2.bld (Nat.le_of_lt hm2.sz)).mono ?_;rintro e w3 ⟨rfl,h1,b1,k1⟩;go_wp2_with fail;go_ret;exact⟨by rw[HE.out];rfl,hm2.low.trans b1⟩
  ·rw[hc]at cc
   simp only[List.length_append,List.length_cons]at hlen;have HE:Hid (pctL s0=(out++a)++pctL (37::b)):=by show _=_;rw[H.out,pctL_cut hn,List.append_assoc]
   clear hc hn H;have hq:∃q:Option Nat,hx2 b=q:=⟨_,rfl⟩;have cw:∀(W W2:World) (c:UInt8),PctMem w w.heap.size (out++a) W→Calls Tryz.prog 134 #[.pointer (some ⟨w.heap.size,0,none⟩), .int .u8 (c.toNat:Int)] W fun e W'=>e= .returned .nilIface∧PctMem w w.heap.size (out++a++[c]) W':=fun W W2 c hW=>
    (writeByte_k w.heap.size w.heap.size _ _ W hW.bld (by rw[Lib.byteCells_length,List.length_append];omega) hW.low.size).mono fun e W' ⟨he,hb,hl,_⟩=>⟨he,hW.more (l:=[c]) hb hl⟩
   go_wp2_with fail;go_at_call 151;refine cc.mono ?_;rintro e w1 ⟨rfl,n,rfl⟩;have hm1:=hm.drewN n;clear hm cc hEV;generalize V.drewN n=w1 at*;go_wp2_with fail;go_at_call 133;refine(writeString_k w.heap.size w.heap.size _ a w1 hm1.bld (by rw[Lib.byteCells_length];omega) hm1.low.size).mono ?_;rintro e w2 ⟨rfl,hb2,hl2,_⟩;have hm2:=hm1.more hb2 hl2;clear hb2 hl2 hm1;by_cases h2:b.length<2
   ·have HN:Hid (pctL s0=(out++a++[37])++pctL b):=by
     show _=_;rw[HE.out,pctL_none (hx2_short h2)];simp
    clear HE hq;go_wp2_with(go_at_call 134;refine(cw _ w 37 hm2).mono ?_;rintro e w3 ⟨rfl,hm3⟩);go_roundw
    case rel=>exact⟨b,_,rfl,HN,by simp;omega,hm3⟩
    case measure=>simp[strSz,size_mk];omega
   ·obtain⟨x,y,r,rfl⟩:∃x y r,b=x::y::r:=by
     match b,h2 with
     |[],h2=>simp at h2
     |[x],h2=>simp at h2
     |x::y::r,_=>exact⟨x,y,r,rfl⟩
    simp only[List.length_cons]at hlen;clear h2 hq;have hmiss:hx2 (x::y::r)=none→Hid (pctL s0=(out++a++[37])++pctL (x::y::r)):=fun h=>by
     show _=_;rw[HE.out,pctL_none h];simp
    have hhit:∀v,hx2 (x::y::r)=some v→Hid (pctL s0=(out++a++[UInt8.ofNat v])++pctL r):=fun v h=>by
     show _=_;rw[HE.out,pctL_hit h];simp
    have hph:=parse_hx2 x y r;have hsg:(x.toNat=43∨x.toNat=45)→hx2 (x::y::r)=none:=fun h=>hx2_sign h
    have cpo:=fun v (h:parseB 16 255 0 [x,y]= .ok v) W=>pu16b_ok [x,y] (by simp) (by simp) v h W
    have cpb:=fun (h:∀v,parseB 16 255 0 [x,y]≠ .ok v) W (hW:Env W)=>pu16b_bad [x,y] (by simp) (by simp) h W hW
    have hE2:=hE.below hm2.low;have hx8:=x.toNat_lt;clear HE;by_cases h43:x.toNat=43
    ·have HN:=hmiss (hsg (.inl h43))
     have h43i:(x.toNat:Int)=43:=by omega
     clear hmiss hhit hph hsg cpo cpb h43;go_wp2_with(go_at_call 134;refine(cw _ w 37 hm2).mono ?_;rintro e w3 ⟨rfl,hm3⟩);go_roundw
     case rel=>exact⟨x::y::r,_,rfl,HN,by simp;omega,hm3⟩
     case measure=>simp[strSz,size_mk];omega
    ·by_cases h45:x.toNat=45
     ·have HN:=hmiss (hsg (.inr h45))
      have h45i:(x.toNat:Int)=45:=by omega
      clear hmiss hhit hph hsg cpo cpb h45 h43;go_wp2_with(go_at_call 134;refine(cw _ w 37 hm2).mono ?_;rintro e w3 ⟨rfl,hm3⟩);go_roundw
      case rel=>exact⟨x::y::r,_,rfl,HN,by simp;omega,hm3⟩
      case measure=>simp[strSz,size_mk];omega
     ·have h43b:((x.toNat:Int) !=43)=true:=bne_iff_ne.2 (by omega)
      have h45b:((x.toNat:Int) !=45)=true:=bne_iff_ne.2 (by omega);have h43p:¬(x.toNat:Int)=43:=by omega
      have h45p:¬(x.toNat:Int)=45:=by omega
      cases hp:parseB 16 255 0 [x,y]with
      |ok v=>
       rw[hp]at hph;have HN:=hhit v hph;have hv:=hx2_lt hph;have cp:=cpo v hp;have hvb:((UInt8.ofNat v).toNat:Int)=(v:Int):=by rw[UInt8.toNat_ofNat',Nat.mod_eq_of_lt (by omega)]
       clear hmiss hhit hph hsg cpo cpb hp h43 h45;go_wp2_with fail;go_at_call 247;refine(cp w2).mono ?_;rintro e w3 ⟨rfl,hb3⟩;have hm3:=hm2.below hb3;have cwv:=cw w3 w (UInt8.ofNat v) hm3;rw[hvb]at cwv;clear hvb cp;go_wp2_with(go_at_call 134;refine cwv.mono ?_;rintro e w4 ⟨rfl,hm4⟩);go_roundw
       case rel=>exact⟨r,_,rfl,HN,by simp;omega,hm4⟩
       case measure=>simp[strSz,size_mk];omega
      |_=>
       rw[hp]at hph;have HN:=hmiss hph;have cp:=cpb (by intro v h;rw[hp]at h;cases h) w2 hE2;clear hmiss hhit hph hsg cpo cpb hp h43 h45;go_wp2_with fail;go_at_call 247;refine cp.mono ?_;rintro e w3 ⟨n,T,q,hn,rfl,hb3⟩;have hm3:=hm2.below hb3;go_wp2_with(go_at_call 134;refine(cw _ w 37 hm3).mono ?_;rintro e w4 ⟨rfl,hm4⟩);go_roundw
       case rel=>exact⟨x::y::r,_,rfl,HN,by simp;omega,hm4⟩
       case measure=>simp[strSz,size_mk];omega
end Go.Proofs.YtjkipdoebkhkaaaGreatDoor
namespace Go.Proofs.YtjkipdoebkhkaaaGreatDoor
open Go.RowKit
theorem hex_or:∀c:Fin 256,(bits BinOp.or IntKind.u8 (c.val:Int) 32==120)=(c.val==120||c.val==88):=by decide+kernel
theorem hexPre_false {s:List UInt8} (h:s.length<2∨(s.getD 0 0).toNat≠48):hexPre s=false:=by
 unfold hexPre;rcases h with h|h
 ·rw[decide_eq_false (by omega)];rfl
 ·rw[show((s.getD 0 0).toNat==48)=false by simpa using h];simp
theorem hexPre_is {s:List UInt8} (h:2≤s.length) (h0:(s.getD 0 0).toNat=48):hexPre s=((s.getD 1 0).toNat==120||(s.getD 1 0).toNat==88):=by
 unfold hexPre;rw[decide_eq_true h,h0];rfl
theorem getD_is {s:List UInt8} {k:Nat} (h:k<s.length):s.getD k 0=s[k]:=by simp[List.getD,List.getElem?_eq_getElem h]
set_option maxRecDepth 100000 in
theorem hexed_any (s:List UInt8) (w:World) (hs:s.length≤140737488351232):
 Calls Tryz.prog 192 #[.string ⟨s.toArray⟩] w fun e w'=>e= .returned (.tuple #[.string ⟨(if hexPre s then s.drop 2 else []).toArray⟩, .bool (hexPre s)])∧w=w':=by
 by_cases h2:2≤s.length
 ·have g0:=getD_is (s:=s) (k:=0) (by omega)
  have g1:=getD_is (s:=s) (k:=1) (by omega);by_cases h0:(s.getD 0 0).toNat=48
  ·have hx:=hexPre_is h2 h0
   have ho:=hex_or ⟨(s.getD 1 0).toNat,(s.getD 1 0).toNat_lt⟩;simp only at ho;rw[←hx]at ho;rw[g0]at h0;rw[g1]at ho;have h00:((s[0]'(by omega)).toNat:Int)=48:=by omega
   have htk:List.take (s.length-2) (List.drop 2 s)=s.drop 2:=List.take_of_length_le (by simp)
   cases hh:hexPre s
   all_goals
    rw[hh]at ho;clear g0 g1 hx h0 hh;go_enter Tryz.func192,Tryz.ntmps192;go_wp2_with fail;go_ret2;exact⟨rfl,rfl⟩
  ·have hx:=hexPre_false (s:=s) (.inr h0)
   rw[g0]at h0;have h00:¬((s[0]'(by omega)).toNat:Int)=48:=by omega
   rw[hx];clear g0 g1 hx h0;go_enter Tryz.func192,Tryz.ntmps192;go_wp2_with fail;go_ret2;exact⟨rfl,rfl⟩
 ·have hx:=hexPre_false (s:=s) (.inl (by omega))
  rw[hx];have h2':s.length<2:=by omega
  clear hx h2;go_enter Tryz.func192,Tryz.ntmps192;go_wp2_with fail;go_ret2;exact⟨rfl,rfl⟩
theorem trimZ_any (s:List UInt8) (w:World):Calls Tryz.prog 185 #[.string ⟨s.toArray⟩, .string ⟨#[48]⟩] w fun e w'=>e= .returned (.string ⟨(s.dropWhile fun c=>c==48).toArray⟩)∧w=w':=
 (Tryz.strings_TrimLeft_one ⟨s.toArray⟩ 48 (by decide) w).mono fun e w' ⟨he,hw⟩=>⟨he,hw.symm⟩
def cntV (r:Option Nat):Value:= .tuple #[.int .i64 ((r.getD 0:Nat):Int), .bool r.isSome]
theorem cut_8:∀c:Fin 256,([48,49,50,51,52,53,54,55]:List UInt8).contains (UInt8.ofNat c.val)=(decide (0≤hexI c.val)&&decide (hexI c.val<8)):=by decide+kernel
theorem trim_8 {s:List UInt8}:Lib.trimS s [48,49,50,51,52,53,54,55]=[]↔allDig 8 s=true:=by
 rw[trimS_nil];unfold allDig;rw[List.all_eq_true];have key:∀c:UInt8,([48,49,50,51,52,53,54,55]:List UInt8).contains c=(decide (0≤hexI c.toNat)&&decide (hexI c.toNat<((8:Nat):Int))):=fun c=>by
  have:=cut_8 ⟨c.toNat,c.toNat_lt⟩;simpa using this
 exact⟨fun h c hc=>by rw[←key];exact h c hc,fun h c hc=>by rw[key];exact h c hc⟩
set_option maxRecDepth 100000 in
theorem count_8 (s:List UInt8) (w:World) (hE:Env w) (hs:s.length≤140737488351232):
 Calls Tryz.prog 193 #[.string ⟨s.toArray⟩, .int .i64 8] w fun e w'=>e= .returned (cntV (cntL 8 s))∧Below w.heap.size w w':=by
 have hbw:=Below.refl w.heap.size w
 have ct:=lift_below w (fun W=>trim_any s [48,49,50,51,52,53,54,55] W hs (by decide) (by decide))
 cases hd:allDig 8 s with
 |false=>
  have hne:Lib.trimS s [48,49,50,51,52,53,54,55]≠[]:=fun h=>by rw[trim_8.1 h]at hd;cases hd
  have hr:cntL 8 s=none:=cntF_none hd;rw[hr];have he:(Lib.trimS s [48,49,50,51,52,53,54,55]==[])=false:=by rw[beq_eq_false_iff_ne];exact hne
  have he2:(Lib.trimS s [48,49,50,51,52,53,54,55]).isEmpty=false:=by cases h:Lib.trimS s [48,49,50,51,52,53,54,55]with|nil=>exact absurd h hne|cons a l=>rfl
  generalize Lib.trimS s [48,49,50,51,52,53,54,55]=T at*;clear hd hne hr;go_enter Tryz.func193,Tryz.ntmps193;go_wp2_with(go_at_call 120;refine(ct _ (by assumption)).mono ?_;rintro e w1 ⟨rfl,hb1⟩);go_ret2;exact⟨rfl,by assumption⟩
 |true=>
  rw[trim_8.2 hd]at ct;have cl:=lift_same w (fun W=>trimZ_any s W);have hz:=cnt_zeros (base:=8) (s:=s) (by decide);have hdz:=allDig_zeros hd;have hlz:(s.dropWhile fun c=>c==48).length≤140737488351232:=Nat.le_trans (List.dropWhile_sublist _).length_le hs;rw[←hz];generalize (s.dropWhile fun c=>c==48)=T at*;by_cases hT:T=[]
  ·subst hT
   go_enter Tryz.func193,Tryz.ntmps193;go_wp2_with(first|(go_at_call 120;refine(ct _ (by assumption)).mono ?_;rintro e w1 ⟨rfl,hb1⟩)|(go_at_call 185;refine(cl _ (by assumption)).mono ?_;rintro e w1 ⟨rfl,hb1⟩));go_ret2;exact⟨rfl,by assumption⟩
  ·have he:(T==[])=false:=by rw[beq_eq_false_iff_ne];exact hT
   have he2:T.isEmpty=false:=by cases h:T with|nil=>exact absurd h hT|cons a l=>rfl
   have hcp:=cnt_parse (base:=8) (max:=18446744073709551615) (by decide) (by decide) (s:=T) (acc:=0) hdz;have hcl:cntL 8 T=some (cutP (parseB 8 18446744073709551615 0 T)):=hcp;rw[hcl];clear hcp hcl hz hdz hd
   cases hp:parseB 8 18446744073709551615 0 T with
   |ok v=>
    have hv:=parseB_le 8 18446744073709551615 T 0 v (by decide) hp;have cp:=lift_below w (fun W=>pu8_ok T hT hlz v hp W);have hcut:cutP (.ok v)=min 4294967296 v:=rfl;rw[hcut];clear hp hT hcut;by_cases hg:4294967296<v
    ·rw[Nat.min_eq_left (by omega)]
     go_enter Tryz.func193,Tryz.ntmps193;go_wp2_with(first|(go_at_call 120;refine(ct _ (by assumption)).mono ?_;rintro e w1 ⟨rfl,hb1⟩)|(go_at_call 185;refine(cl _ (by assumption)).mono ?_;rintro e w1 ⟨rfl,hb1⟩)|(go_at_call 247;refine(cp _ (by assumption)).mono ?_;rintro e w1 ⟨rfl,hb1⟩));go_ret2;exact⟨rfl,by assumption⟩
    ·rw[Nat.min_eq_right (by omega)]
     go_enter Tryz.func193,Tryz.ntmps193;go_wp2_with(first|(go_at_call 120;refine(ct _ (by assumption)).mono ?_;rintro e w1 ⟨rfl,hb1⟩)|(go_at_call 185;refine(cl _ (by assumption)).mono ?_;rintro e w1 ⟨rfl,hb1⟩)|(go_at_call 247;refine(cp _ (by assumption)).mono ?_;rintro e w1 ⟨rfl,hb1⟩));go_ret2;exact⟨rfl,by assumption⟩
   |_=>
    have cp:∀W,Below w.heap.size w W→Calls Tryz.prog 247 #[.string ⟨T.toArray⟩, .int .i64 8, .int .i64 64] W fun e w'=>∃(n:Int) (t:TypeId) (q:Value),0≤n∧e= .returned (.tuple #[.int .u64 n, .iface t q])∧Below w.heap.size w w':=fun W hW=>
     (pu8_bad T hT hlz (by rw[hp];intro v h;cases h) W (hE.below hW)).mono fun e W' ⟨n,t,q,h0,he,hb⟩=>⟨n,t,q,h0,he,hW.trans (hb.mono hW.size)⟩
    clear hp hT;show Calls Tryz.prog _ _ _ fun e w'=>e= .returned (cntV (some 4294967296))∧_
    go_enter Tryz.func193,Tryz.ntmps193;go_wp2_with(first|(go_at_call 120;refine(ct _ (by assumption)).mono ?_;rintro e w1 ⟨rfl,hb1⟩)|(go_at_call 185;refine(cl _ (by assumption)).mono ?_;rintro e w1 ⟨rfl,hb1⟩)|(go_at_call 247;refine(cp _ (by assumption)).mono ?_;rintro e w1 ⟨n,t,q,hn0,rfl,hb1⟩));go_ret2;exact⟨rfl,by assumption⟩
theorem cut_10:∀c:Fin 256,([48,49,50,51,52,53,54,55,56,57]:List UInt8).contains (UInt8.ofNat c.val)=(decide (0≤hexI c.val)&&decide (hexI c.val<10)):=by decide+kernel
theorem trim_10 {s:List UInt8}:Lib.trimS s [48,49,50,51,52,53,54,55,56,57]=[]↔allDig 10 s=true:=by
 rw[trimS_nil];unfold allDig;rw[List.all_eq_true];have key:∀c:UInt8,([48,49,50,51,52,53,54,55,56,57]:List UInt8).contains c=(decide (0≤hexI c.toNat)&&decide (hexI c.toNat<((10:Nat):Int))):=fun c=>by
  have:=cut_10 ⟨c.toNat,c.toNat_lt⟩;simpa using this
 exact⟨fun h c hc=>by rw[←key];exact h c hc,fun h c hc=>by rw[key];exact h c hc⟩
set_option maxRecDepth 100000 in
theorem count_10 (s:List UInt8) (w:World) (hE:Env w) (hs:s.length≤140737488351232):
 Calls Tryz.prog 193 #[.string ⟨s.toArray⟩, .int .i64 10] w fun e w'=>e= .returned (cntV (cntL 10 s))∧Below w.heap.size w w':=by
 have hbw:=Below.refl w.heap.size w
 have ct:=lift_below w (fun W=>trim_any s [48,49,50,51,52,53,54,55,56,57] W hs (by decide) (by decide))
 cases hd:allDig 10 s with
 |false=>
  have hne:Lib.trimS s [48,49,50,51,52,53,54,55,56,57]≠[]:=fun h=>by rw[trim_10.1 h]at hd;cases hd
  have hr:cntL 10 s=none:=cntF_none hd;rw[hr];have he:(Lib.trimS s [48,49,50,51,52,53,54,55,56,57]==[])=false:=by rw[beq_eq_false_iff_ne];exact hne
  have he2:(Lib.trimS s [48,49,50,51,52,53,54,55,56,57]).isEmpty=false:=by cases h:Lib.trimS s [48,49,50,51,52,53,54,55,56,57]with|nil=>exact absurd h hne|cons a l=>rfl
  generalize Lib.trimS s [48,49,50,51,52,53,54,55,56,57]=T at*;clear hd hne hr;go_enter Tryz.func193,Tryz.ntmps193;go_wp2_with(go_at_call 120;refine(ct _ (by assumption)).mono ?_;rintro e w1 ⟨rfl,hb1⟩);go_ret2;exact⟨rfl,by assumption⟩
 |true=>
  rw[trim_10.2 hd]at ct;have cl:=lift_same w (fun W=>trimZ_any s W);have hz:=cnt_zeros (base:=10) (s:=s) (by decide);have hdz:=allDig_zeros hd;have hlz:(s.dropWhile fun c=>c==48).length≤140737488351232:=Nat.le_trans (List.dropWhile_sublist _).length_le hs;rw[←hz];generalize (s.dropWhile fun c=>c==48)=T at*;by_cases hT:T=[]
  ·subst hT
   go_enter Tryz.func193,Tryz.ntmps193;go_wp2_with(first|(go_at_call 120;refine(ct _ (by assumption)).mono ?_;rintro e w1 ⟨rfl,hb1⟩)|(go_at_call 185;refine(cl _ (by assumption)).mono ?_;rintro e w1 ⟨rfl,hb1⟩));go_ret2;exact⟨rfl,by assumption⟩
  ·have he:(T==[])=false:=by rw[beq_eq_false_iff_ne];exact hT
   have he2:T.isEmpty=false:=by cases h:T with|nil=>exact absurd h hT|cons a l=>rfl
   have hcp:=cnt_parse (base:=10) (max:=18446744073709551615) (by decide) (by decide) (s:=T) (acc:=0) hdz;have hcl:cntL 10 T=some (cutP (parseB 10 18446744073709551615 0 T)):=hcp;rw[hcl];clear hcp hcl hz hdz hd
   cases hp:parseB 10 18446744073709551615 0 T with
   |ok v=>
    have hv:=parseB_le 10 18446744073709551615 T 0 v (by decide) hp;have cp:=lift_below w (fun W=>pu10_ok T hT hlz v hp W);have hcut:cutP (.ok v)=min 4294967296 v:=rfl;rw[hcut];clear hp hT hcut;by_cases hg:4294967296<v
    ·rw[Nat.min_eq_left (by omega)]
     go_enter Tryz.func193,Tryz.ntmps193;go_wp2_with(first|(go_at_call 120;refine(ct _ (by assumption)).mono ?_;rintro e w1 ⟨rfl,hb1⟩)|(go_at_call 185;refine(cl _ (by assumption)).mono ?_;rintro e w1 ⟨rfl,hb1⟩)|(go_at_call 247;refine(cp _ (by assumption)).mono ?_;rintro e w1 ⟨rfl,hb1⟩));go_ret2;exact⟨rfl,by assumption⟩
    ·rw[Nat.min_eq_right (by omega)]
     go_enter Tryz.func193,Tryz.ntmps193;go_wp2_with(first|(go_at_call 120;refine(ct _ (by assumption)).mono ?_;rintro e w1 ⟨rfl,hb1⟩)|(go_at_call 185;refine(cl _ (by assumption)).mono ?_;rintro e w1 ⟨rfl,hb1⟩)|(go_at_call 247;refine(cp _ (by assumption)).mono ?_;rintro e w1 ⟨rfl,hb1⟩));go_ret2;exact⟨rfl,by assumption⟩
   |_=>
    have cp:∀W,Below w.heap.size w W→Calls Tryz.prog 247 #[.string ⟨T.toArray⟩, .int .i64 10, .int .i64 64] W fun e w'=>∃(n:Int) (t:TypeId) (q:Value),0≤n∧e= .returned (.tuple #[.int .u64 n, .iface t q])∧Below w.heap.size w w':=fun W hW=>
     (pu10_bad T hT hlz (by rw[hp];intro v h;cases h) W (hE.below hW)).mono fun e W' ⟨n,t,q,h0,he,hb⟩=>⟨n,t,q,h0,he,hW.trans (hb.mono hW.size)⟩
    clear hp hT;show Calls Tryz.prog _ _ _ fun e w'=>e= .returned (cntV (some 4294967296))∧_
    go_enter Tryz.func193,Tryz.ntmps193;go_wp2_with(first|(go_at_call 120;refine(ct _ (by assumption)).mono ?_;rintro e w1 ⟨rfl,hb1⟩)|(go_at_call 185;refine(cl _ (by assumption)).mono ?_;rintro e w1 ⟨rfl,hb1⟩)|(go_at_call 247;refine(cp _ (by assumption)).mono ?_;rintro e w1 ⟨n,t,q,hn0,rfl,hb1⟩));go_ret2;exact⟨rfl,by assumption⟩
theorem cut_16:∀c:Fin 256,([48,49,50,51,52,53,54,55,56,57,97,98,99,100,101,102,65,66,67,68,69,70]:List UInt8).contains (UInt8.ofNat c.val)=(decide (0≤hexI c.val)&&decide (hexI c.val<16)):=by decide+kernel
theorem trim_16 {s:List UInt8}:Lib.trimS s [48,49,50,51,52,53,54,55,56,57,97,98,99,100,101,102,65,66,67,68,69,70]=[]↔allDig 16 s=true:=by
 rw[trimS_nil];unfold allDig;rw[List.all_eq_true];have key:∀c:UInt8,([48,49,50,51,52,53,54,55,56,57,97,98,99,100,101,102,65,66,67,68,69,70]:List UInt8).contains c=(decide (0≤hexI c.toNat)&&decide (hexI c.toNat<((16:Nat):Int))):=fun c=>by
  have:=cut_16 ⟨c.toNat,c.toNat_lt⟩;simpa using this
 exact⟨fun h c hc=>by rw[←key];exact h c hc,fun h c hc=>by rw[key];exact h c hc⟩
set_option maxRecDepth 100000 in
theorem count_16 (s:List UInt8) (w:World) (hE:Env w) (hs:s.length≤140737488351232):
 Calls Tryz.prog 193 #[.string ⟨s.toArray⟩, .int .i64 16] w fun e w'=>e= .returned (cntV (cntL 16 s))∧Below w.heap.size w w':=by
 have hbw:=Below.refl w.heap.size w
 have ct:=lift_below w (fun W=>trim_any s [48,49,50,51,52,53,54,55,56,57,97,98,99,100,101,102,65,66,67,68,69,70] W hs (by decide) (by decide))
 cases hd:allDig 16 s with
 |false=>
  have hne:Lib.trimS s [48,49,50,51,52,53,54,55,56,57,97,98,99,100,101,102,65,66,67,68,69,70]≠[]:=fun h=>by rw[trim_16.1 h]at hd;cases hd
  have hr:cntL 16 s=none:=cntF_none hd;rw[hr];have he:(Lib.trimS s [48,49,50,51,52,53,54,55,56,57,97,98,99,100,101,102,65,66,67,68,69,70]==[])=false:=by rw[beq_eq_false_iff_ne];exact hne
  have he2:(Lib.trimS s [48,49,50,51,52,53,54,55,56,57,97,98,99,100,101,102,65,66,67,68,69,70]).isEmpty=false:=by cases h:Lib.trimS s [48,49,50,51,52,53,54,55,56,57,97,98,99,100,101,102,65,66,67,68,69,70]with|nil=>exact absurd h hne|cons a l=>rfl
  generalize Lib.trimS s [48,49,50,51,52,53,54,55,56,57,97,98,99,100,101,102,65,66,67,68,69,70]=T at*;clear hd hne hr;go_enter Tryz.func193,Tryz.ntmps193;go_wp2_with(go_at_call 120;refine(ct _ (by assumption)).mono ?_;rintro e w1 ⟨rfl,hb1⟩);go_ret2;exact⟨rfl,by assumption⟩
 |true=>
  rw[trim_16.2 hd]at ct;have cl:=lift_same w (fun W=>trimZ_any s W);have hz:=cnt_zeros (base:=16) (s:=s) (by decide);have hdz:=allDig_zeros hd;have hlz:(s.dropWhile fun c=>c==48).length≤140737488351232:=Nat.le_trans (List.dropWhile_sublist _).length_le hs;rw[←hz];generalize (s.dropWhile fun c=>c==48)=T at*;by_cases hT:T=[]
  ·subst hT
   go_enter Tryz.func193,Tryz.ntmps193;go_wp2_with(first|(go_at_call 120;refine(ct _ (by assumption)).mono ?_;rintro e w1 ⟨rfl,hb1⟩)|(go_at_call 185;refine(cl _ (by assumption)).mono ?_;rintro e w1 ⟨rfl,hb1⟩));go_ret2;exact⟨rfl,by assumption⟩
  ·have he:(T==[])=false:=by rw[beq_eq_false_iff_ne];exact hT
   have he2:T.isEmpty=false:=by cases h:T with|nil=>exact absurd h hT|cons a l=>rfl
   have hcp:=cnt_parse (base:=16) (max:=18446744073709551615) (by decide) (by decide) (s:=T) (acc:=0) hdz;have hcl:cntL 16 T=some (cutP (parseB 16 18446744073709551615 0 T)):=hcp;rw[hcl];clear hcp hcl hz hdz hd
   cases hp:parseB 16 18446744073709551615 0 T with
   |ok v=>
    have hv:=parseB_le 16 18446744073709551615 T 0 v (by decide) hp;have cp:=lift_below w (fun W=>pu16_ok T hT hlz v hp W);have hcut:cutP (.ok v)=min 4294967296 v:=rfl;rw[hcut];clear hp hT hcut;by_cases hg:4294967296<v
    ·rw[Nat.min_eq_left (by omega)]
     go_enter Tryz.func193,Tryz.ntmps193;go_wp2_with(first|(go_at_call 120;refine(ct _ (by assumption)).mono ?_;rintro e w1 ⟨rfl,hb1⟩)|(go_at_call 185;refine(cl _ (by assumption)).mono ?_;rintro e w1 ⟨rfl,hb1⟩)|(go_at_call 247;refine(cp _ (by assumption)).mono ?_;rintro e w1 ⟨rfl,hb1⟩));go_ret2;exact⟨rfl,by assumption⟩
    ·rw[Nat.min_eq_right (by omega)]
     go_enter Tryz.func193,Tryz.ntmps193;go_wp2_with(first|(go_at_call 120;refine(ct _ (by assumption)).mono ?_;rintro e w1 ⟨rfl,hb1⟩)|(go_at_call 185;refine(cl _ (by assumption)).mono ?_;rintro e w1 ⟨rfl,hb1⟩)|(go_at_call 247;refine(cp _ (by assumption)).mono ?_;rintro e w1 ⟨rfl,hb1⟩));go_ret2;exact⟨rfl,by assumption⟩
   |_=>
    have cp:∀W,Below w.heap.size w W→Calls Tryz.prog 247 #[.string ⟨T.toArray⟩, .int .i64 16, .int .i64 64] W fun e w'=>∃(n:Int) (t:TypeId) (q:Value),0≤n∧e= .returned (.tuple #[.int .u64 n, .iface t q])∧Below w.heap.size w w':=fun W hW=>
     (pu16_bad T hT hlz (by rw[hp];intro v h;cases h) W (hE.below hW)).mono fun e W' ⟨n,t,q,h0,he,hb⟩=>⟨n,t,q,h0,he,hW.trans (hb.mono hW.size)⟩
    clear hp hT;show Calls Tryz.prog _ _ _ fun e w'=>e= .returned (cntV (some 4294967296))∧_
    go_enter Tryz.func193,Tryz.ntmps193;go_wp2_with(first|(go_at_call 120;refine(ct _ (by assumption)).mono ?_;rintro e w1 ⟨rfl,hb1⟩)|(go_at_call 185;refine(cl _ (by assumption)).mono ?_;rintro e w1 ⟨rfl,hb1⟩)|(go_at_call 247;refine(cp _ (by assumption)).mono ?_;rintro e w1 ⟨n,t,q,hn0,rfl,hb1⟩));go_ret2;exact⟨rfl,by assumption⟩
theorem isEmpty_ne {l:List UInt8} (h:l≠[]):l.isEmpty=false:=by cases l with|nil=>exact absurd rfl h|cons a l=>rfl
theorem beq_ne {l:List UInt8} (h:l≠[]):(l==[])=false:=by rw[beq_eq_false_iff_ne];exact h
set_option maxRecDepth 100000 in
theorem anum_any (s:List UInt8) (w:World) (hE:Env w) (hs:s.length≤140737488351232):
 Calls Tryz.prog 139 #[.string ⟨s.toArray⟩] w fun e w'=>e= .returned (cntV (numL s))∧Below w.heap.size w w':=by
 have hbw:=Below.refl w.heap.size w
 have ch:=lift_same w (fun W=>hexed_any s W hs)
 have hn:numL s=if hexPre s then cntL 16 (s.drop 2)else if s=[]then none else if (s.getD 0 0).toNat=48 then cntL 8 s else cntL 10 s:=rfl
 cases hh:hexPre s with
 |true=>
  rw[hh]at ch hn;rw[if_pos rfl]at hn;simp only[if_true]at ch;have cc:=lift_env hE (fun W hEW=>count_16 (s.drop 2) W hEW (by simp;omega));rw[hn];generalize cntL 16 (s.drop 2)=r at*;generalize s.drop 2=x at*;clear hh hn;simp only[cntV]at cc⊢;go_enter Tryz.func139,Tryz.ntmps139;go_wp2_with(first|(go_at_call 192;refine(ch _ (by assumption)).mono ?_;rintro e w1 ⟨rfl,hb1⟩)|(go_at_call 193;refine(cc _ (by assumption)).mono ?_;rintro e w1 ⟨rfl,hb1⟩));go_ret2;exact⟨rfl,by assumption⟩
 |false=>
  rw[hh]at ch hn;rw[if_neg (by simp)]at hn;simp only[Bool.false_eq_true,if_false]at ch;by_cases h0:s=[]
  ·rw[if_pos h0]at hn
   rw[hn];subst h0;go_enter Tryz.func139,Tryz.ntmps139;go_wp2_with(first|(go_at_call 192;refine(ch _ (by assumption)).mono ?_;rintro e w1 ⟨rfl,hb1⟩));go_ret2;exact⟨rfl,by assumption⟩
  ·have he:=isEmpty_ne h0
   have he2:=beq_ne h0;have hl:0<s.length:=List.length_pos_iff.2 h0;have g0:=getD_is (s:=s) (k:=0) hl;rw[if_neg h0,g0]at hn;by_cases h48:(s[0]'hl).toNat=48
   ·rw[if_pos h48]at hn
    have cc:=lift_env hE (fun W hEW=>count_8 s W hEW hs);rw[hn];have h480:((s[0]'hl).toNat:Int)=48:=by omega
    generalize cntL 8 s=r at*;clear hh hn h48 h0 g0;simp only[cntV]at cc⊢;go_enter Tryz.func139,Tryz.ntmps139;go_wp2_with(first|(go_at_call 192;refine(ch _ (by assumption)).mono ?_;rintro e w1 ⟨rfl,hb1⟩)|(go_at_call 193;refine(cc _ (by assumption)).mono ?_;rintro e w1 ⟨rfl,hb1⟩));go_ret2;exact⟨rfl,by assumption⟩
   ·rw[if_neg h48]at hn
    have cc:=lift_env hE (fun W hEW=>count_10 s W hEW hs);rw[hn];have h480:¬((s[0]'hl).toNat:Int)=48:=by omega
    generalize cntL 10 s=r at*;clear hh hn h48 h0 g0;simp only[cntV]at cc⊢;go_enter Tryz.func139,Tryz.ntmps139;go_wp2_with(first|(go_at_call 192;refine(ch _ (by assumption)).mono ?_;rintro e w1 ⟨rfl,hb1⟩)|(go_at_call 193;refine(cc _ (by assumption)).mono ?_;rintro e w1 ⟨rfl,hb1⟩));go_ret2;exact⟨rfl,by assumption⟩
set_option maxRecDepth 100000 in
theorem like_any (s:List UInt8) (w:World) (hE:Env w) (hs:s.length≤140737488351232):
 Calls Tryz.prog 138 #[.string ⟨s.toArray⟩] w fun e w'=>e= .returned (.bool (likeL s))∧Below w.heap.size w w':=by
 have hbw:=Below.refl w.heap.size w
 have ch:=lift_same w (fun W=>hexed_any s W hs)
 have hn:likeL s=if hexPre s then (numL s).isSome else !s.isEmpty&&allDig 10 s:=rfl
 cases hh:hexPre s with
 |true=>
  rw[hh]at ch hn;rw[if_pos rfl]at hn;simp only[if_true]at ch;have cc:=lift_env hE (fun W hEW=>anum_any s W hEW hs);rw[hn];generalize numL s=r at*;generalize s.drop 2=x at*;clear hh hn;simp only[cntV]at cc;go_enter Tryz.func138,Tryz.ntmps138;go_wp2_with(first|(go_at_call 192;refine(ch _ (by assumption)).mono ?_;rintro e w1 ⟨rfl,hb1⟩)|(go_at_call 139;refine(cc _ (by assumption)).mono ?_;rintro e w1 ⟨rfl,hb1⟩));go_ret;exact⟨rfl,by assumption⟩
 |false=>
  rw[hh]at ch hn;rw[if_neg (by simp)]at hn;simp only[Bool.false_eq_true,if_false]at ch;rw[hn];by_cases h0:s=[]
  ·subst h0
   clear hn hh;go_enter Tryz.func138,Tryz.ntmps138;go_wp2_with(first|(go_at_call 192;refine(ch _ (by assumption)).mono ?_;rintro e w1 ⟨rfl,hb1⟩));go_ret;exact⟨rfl,by assumption⟩
  ·have he:=isEmpty_ne h0
   have he2:=beq_ne h0;have ct:=lift_below w (fun W=>trim_any s [48,49,50,51,52,53,54,55,56,57] W hs (by decide) (by decide));have hd:(Lib.trimS s [48,49,50,51,52,53,54,55,56,57]).isEmpty=allDig 10 s:=by
    rw[Bool.eq_iff_iff,List.isEmpty_iff];exact trim_10
   have hd2:(Lib.trimS s [48,49,50,51,52,53,54,55,56,57]==[])=allDig 10 s:=by
    rw[Bool.eq_iff_iff,beq_iff_eq];exact trim_10
   have hr:(!s.isEmpty&&allDig 10 s)=allDig 10 s:=by rw[he];rfl
   rw[hr];generalize Lib.trimS s [48,49,50,51,52,53,54,55,56,57]=T at*
   cases hA:allDig 10 s
   all_goals
    rw[hA]at hd hd2;clear hn hh h0 hA hr;go_enter Tryz.func138,Tryz.ntmps138;go_wp2_with(first|(go_at_call 192;refine(ch _ (by assumption)).mono ?_;rintro e w1 ⟨rfl,hb1⟩)|(go_at_call 120;refine(ct _ (by assumption)).mono ?_;rintro e w1 ⟨rfl,hb1⟩));go_ret;exact⟨rfl,by assumption⟩
theorem setRow_same {w:World} {g:Nat} {cs:Array Value} {t:TypeId} {fr:Nat×Nat} (hg:w.heap[g]?=some (.cells cs t fr)):w.setRow g cs=w:=by
 unfold World.setRow;have hlt:g<w.heap.size:=(Array.getElem?_eq_some_iff.1 hg).1;have hv:w.heap[g]= .cells cs t fr:=(Array.getElem?_eq_some_iff.1 hg).2;have e:(w.heap.modify g fun| .cells _ elem frozen=> .cells cs elem frozen|o=>o)=w.heap:=by
  apply Array.ext_getElem?;intro k;rw[Array.getElem?_modify];split
  ·rename_i h
   subst h;rw[Array.getElem?_eq_getElem hlt,hv];rfl
  ·rfl
 exact congrArg (fun h=>({w with heap:=h}:World)) e
theorem wpList_store_same {P:Program} {ops:Array Oper} {rest:List Oper} {o:Oper} {a:Act} {w:World} {Q:Exit→Act→World→Prop} (hgd:o.guard=none) (ty:TypeId) (x y:Operand) (ho:o.op= .store ty x y)
 (g:Nat) (cells:Array Value) (hx:a.eval x= .pointer (some ⟨g,0,none⟩)) (hy:a.eval y= .agg cells)
 (t:TypeId) (hg:w.heap[g]?=some (.cells cells t (0,0))) (hi:(P.info? ty).map (·.size)=some cells.size) (h1:cells.all (·.oneCell')=true)
 (h:wpList P ops Q rest (a.put o.dst undef) w):wpList P ops Q (o::rest) a w:=
 wpList_store_row hgd ty x y ho g cells hx hy t cells hg hi rfl h1 (by rw[setRow_same hg];exact h)
theorem results_row3 {P:Program} {fn:Func} {p q r:Tmp} {ty:TypeId} (h:fn.results= #[.cell p ty, .tmp q, .tmp r]) (tmps:Array Value) (w:World) (g:Nat) (t:TypeId) (cs:Array Value) (fr:Nat×Nat) (d:TypeDesc)
 (hp:tmps.getD p undef= .pointer (some ⟨g,0,none⟩)) (hg:w.heap[g]?=some (.cells cs t fr))
 (hu:P.underlying ty=some d) (hd:(match d with| .struct _| .array _ _=>true|_=>false)=true) (hi:(P.info? ty).map (·.size)=some cs.size):
 (results fn tmps).run P w= .ok (.tuple #[.agg cs,tmps.getD q undef,tmps.getD r undef]) w:=by
 have hp':tmps[p]?.getD undef= .pointer (some ⟨g,0,none⟩):=by simpa using hp
 simp[results,h,hp',asAddr,run_loadVar_row w g t ty cs fr d hg hu hd hi]
def addrV (n:Nat):Value:= .agg #[.bool false, .int .u8 ((n/16777216 % 256:Nat):Int), .int .u8 ((n/65536 % 256:Nat):Int), .int .u8 ((n/256 % 256:Nat):Int), .int .u8 ((n % 256:Nat):Int),
 .int .u8 0, .int .u8 0, .int .u8 0, .int .u8 0, .int .u8 0, .int .u8 0, .int .u8 0, .int .u8 0, .int .u8 0, .int .u8 0, .int .u8 0, .int .u8 0]
def fourV (r:Bool×Nat×Nat):Value:= .tuple #[addrV r.2.2, .bool r.1, .int .i64 (r.2.1:Int)]
abbrev zeroA:Array Value:= #[.bool false, .int .u8 0, .int .u8 0, .int .u8 0, .int .u8 0, .int .u8 0, .int .u8 0, .int .u8 0, .int .u8 0, .int .u8 0, .int .u8 0, .int .u8 0, .int .u8 0, .int .u8 0, .int .u8 0, .int .u8 0, .int .u8 0]
structure FourW (w W2:World) (P:List (List UInt8)):Prop where
 env:Env W2
 below:Below w.heap.size w W2
 row:W2.heap[w.heap.size]?=some (.cells zeroA 132 (0,0))
 size:W2.heap.size=w.heap.size+2
 cell:∀j (h:j<P.length),W2.cell? ⟨w.heap.size+1,j,none⟩=some (.string ⟨(P[j]).toArray⟩)
theorem fourW (s:List UInt8) (w:World) (hE:Env w) (hs:s.length≤4000000000):∃W2,FourW w W2 (partsL 46 s)∧
 Calls Tryz.prog 137 #[.string ⟨s.toArray⟩, .string ⟨#[46]⟩] (w.alloc (.cells zeroA 132)) fun e w'=>e= .returned (.slice (some ⟨w.heap.size+1,0,none⟩) (partsL 46 s).length (partsL 46 s).length)∧w'=W2:=by
 have hE1:Env (w.alloc (.cells zeroA 132)):=hE.below ((Below.refl _ _).alloc (Nat.le_refl _) _)
 have cs:=split_any s 46 _ hE1.shaped (by omega)
 rw[World.size_alloc]at cs
 refine⟨_,⟨hE1.below ((Below.refl _ _).alloc (Nat.le_refl _) _),((Below.refl _ _).alloc (Nat.le_refl _) _).alloc (by rw[World.size_alloc];omega) _,heap_alloc2_old w _ _,by rw[World.size_alloc,World.size_alloc],fun j h=> ?_⟩,cs⟩
 rw[World.cell?_alloc_at _ _ _ _ (by rw[World.size_alloc]),List.getElem?_toArray,strs_get h]
theorem getLast_is {P:List (List UInt8)} {l:Nat} (h:P.length=l+1):P.getLastD []=P[l]'(by omega):=by
 rw[List.getLastD_eq_getLast?,List.getLast?_eq_getElem?,List.getElem?_eq_getElem (by omega)];simp[h]
theorem drop_at {P:List (List UInt8)} {k:Nat} (h:k<P.length):P.drop k=P[k]::P.drop (k+1):=List.drop_eq_getElem_cons h
theorem evalF_bad {x:List UInt8} {l:List (List UInt8)} {room all:Nat} (h:numL x=none):evalF (x::l) room all=none:=by rw[evalF,h]
theorem evalF_end {x:List UInt8} {room all n:Nat} (h:numL x=some n):evalF [x] room all=if n<room then some (all*room+n)else none:=by rw[evalF,h];rfl
theorem evalF_go {x:List UInt8} {l:List (List UInt8)} {room all n:Nat} (h:numL x=some n) (hl:l≠[]):evalF (x::l) room all=if n<256 then evalF l (room/256) (all*256+n)else none:=by
 conv=>lhs;rw[evalF,h]
 simp only[if_neg hl]
theorem or_add {a n m:Nat} (hn:n<2^m) (h:2^m*a+n<9223372036854775808):bits BinOp.or IntKind.i64 ((2^m*a:Nat):Int) (n:Int)=((2^m*a+n:Nat):Int):=by
 unfold bits;have h1:(BitVec.ofInt 64 ((2^m*a:Nat):Int))=BitVec.ofNat 64 (2^m*a):=BitVec.ofInt_natCast _ _;have h2:(BitVec.ofInt 64 (n:Int))=BitVec.ofNat 64 n:=BitVec.ofInt_natCast _ _;show IntKind.i64.wrap (((BitVec.ofInt 64 ((2^m*a:Nat):Int))|||(BitVec.ofInt 64 (n:Int))).toNat:Int)=_;rw[h1,h2,BitVec.toNat_or,BitVec.toNat_ofNat,BitVec.toNat_ofNat,Nat.mod_eq_of_lt (by omega),Nat.mod_eq_of_lt (by omega),←Nat.two_pow_add_eq_or_of_lt hn,IntKind.wrap_i64];omega
theorem parts_keep {s:List UInt8} {P:List (List UInt8)} (h:partsL 46 s=P) (hc:¬(1<P.length∧P.getLastD []=[])):fourParts s=P:=by unfold fourParts;rw[h,if_neg hc]
theorem parts_cut {s:List UInt8} {P:List (List UInt8)} (h:partsL 46 s=P) (hc:1<P.length∧P.getLastD []=[]):fourParts s=P.dropLast:=by unfold fourParts;rw[h,if_pos hc]
structure FourM (w:World) (Q:List (List UInt8)) (W:World):Prop where
 env:Env W
 low:Below w.heap.size w W
 row:W.heap[w.heap.size]?=some (.cells zeroA 132 (0,0))
 lt:w.heap.size+1<W.heap.size
 cell:∀j (h:j<Q.length),W.cell? ⟨w.heap.size+1,j,none⟩=some (.string ⟨(Q[j]).toArray⟩)
theorem FourM.calm {w W W':World} {Q:List (List UInt8)} (h:FourM w Q W) (hb:Below W.heap.size W W'):FourM w Q W':=
 ⟨h.env.below hb,h.low.trans (hb.mono (by have:=h.lt;omega)),(hb.block _ (by have:=h.lt;omega)).trans h.row,by have:=h.lt;have:=hb.size;omega,fun j hj=>(hb.cell (p:=⟨w.heap.size+1,j,none⟩) h.lt).trans (h.cell j hj)⟩
def FourAt (Q:List (List UInt8)) (k a:Nat):Prop:=a<256^k∧evalF Q 4294967296 0=evalF (Q.drop k) (4294967296/256^k) a
theorem FourAt.start (Q:List (List UInt8)):FourAt Q 0 0:=⟨by decide,by simp⟩
theorem FourAt.miss {Q:List (List UInt8)} {k a:Nat} (h:FourAt Q k a) (hk:k<Q.length) (hn:numL Q[k]=none):evalF Q 4294967296 0=none:=by
 rw[h.2,drop_at hk,evalF_bad hn]
theorem FourAt.big {Q:List (List UInt8)} {k a n:Nat} (h:FourAt Q k a) (hk:k+1<Q.length) (hn:numL (Q[k]'(by omega))=some n) (hb:¬n<256):evalF Q 4294967296 0=none:=by
 rw[h.2,drop_at (by omega),evalF_go hn (by rw[Ne,List.drop_eq_nil_iff];omega),if_neg hb]
theorem FourAt.next {Q:List (List UInt8)} {k a n:Nat} (h:FourAt Q k a) (hk:k+1<Q.length) (hn:numL (Q[k]'(by omega))=some n) (hb:n<256):FourAt Q (k+1) (a*256+n):=by
 refine⟨?_, ?_⟩
 ·have:=h.1
  rw[Nat.pow_succ];omega
 ·rw[h.2,drop_at (by omega),evalF_go hn (by rw[Ne,List.drop_eq_nil_iff];omega),if_pos hb,Nat.div_div_eq_div_mul,←Nat.pow_succ]
theorem FourAt.last {Q:List (List UInt8)} {k a n:Nat} (h:FourAt Q k a) (hk:k+1=Q.length) (hn:numL (Q[k]'(by omega))=some n):evalF Q 4294967296 0=if n<4294967296/256^k then some (a*(4294967296/256^k)+n)else none:=by
 rw[h.2,drop_at (by omega),show Q.drop (k+1)=[]from List.drop_of_length_le (by omega),evalF_end hn]
def FourIn (Q:List (List UInt8)) (k a:Nat):Prop:=(k=Q.length∧a<4294967296∧evalF Q 4294967296 0=some a)∨(k<Q.length∧FourAt Q k a)
theorem or_mul {a n m R:Nat} (hR:2^m=R) (hn:n<R) (h:a*R+n<9223372036854775808):bits BinOp.or IntKind.i64 ((a:Int)*(R:Int)) (n:Int)=((a*R+n:Nat):Int):=by
 subst hR;have:= @or_add a n m hn (by rw[Nat.mul_comm];exact h);rw[Nat.mul_comm a,←this,Int.natCast_mul,Int.mul_comm]
theorem or_32 {a n:Nat} (hb:n<4294967296) (ha:a≤16777215):bits BinOp.or IntKind.i64 ((a:Int)*4294967296) (n:Int)=((a*4294967296+n:Nat):Int):=or_mul (m:=32) (R:=4294967296) (by decide) hb (by omega)
theorem or_24 {a n:Nat} (hb:n<16777216) (ha:a≤16777215):bits BinOp.or IntKind.i64 ((a:Int)*16777216) (n:Int)=((a*16777216+n:Nat):Int):=or_mul (m:=24) (R:=16777216) (by decide) hb (by omega)
theorem or_16 {a n:Nat} (hb:n<65536) (ha:a≤16777215):bits BinOp.or IntKind.i64 ((a:Int)*65536) (n:Int)=((a*65536+n:Nat):Int):=or_mul (m:=16) (R:=65536) (by decide) hb (by omega)
theorem lt_32 {a n:Nat} (h:a<1) (hb:n<4294967296):a*4294967296+n<4294967296:=by omega
theorem lt_24 {a n:Nat} (h:a<256) (hb:n<16777216):a*16777216+n<4294967296:=by omega
theorem lt_16 {a n:Nat} (h:a<65536) (hb:n<65536):a*65536+n<4294967296:=by omega
theorem lt_8 {a n:Nat} (h:a<16777216) (hb:n<256):a*256+n<4294967296:=by omega
theorem or_8 {a n:Nat} (hb:n<256) (ha:a≤16777215):bits BinOp.or IntKind.i64 ((a:Int)*256) (n:Int)=((a*256+n:Nat):Int):=or_mul (m:=8) (R:=256) (by decide) hb (by omega)
set_option maxRecDepth 100000 in
theorem four_any (s:List UInt8) (w:World) (hE:Env w) (hs:s.length≤3999999999):
 Calls Tryz.prog 73 #[.string ⟨s.toArray⟩] w fun e w'=>e= .returned (fourV (fourL s))∧Below w.heap.size w w':=by
 obtain⟨W2,hW,cs⟩:=fourW s w hE (by omega)
 obtain⟨hP1,hP2⟩:=partsL_le 46 s
 have hne:=partsL_ne 46 s
 have hx:∀p∈partsL 46 s,p.length≤4000000000:=fun p hp=>by have:=hP1 p hp;omega
 have hk:= @parts_keep s _ rfl
 have hc:= @parts_cut s _ rfl
 have hdef:fourL s=if likeL ((fourParts s).getLastD [])=false then (false,0,0)else if 4<(fourParts s).length then (true,5,0)else match evalF (fourParts s) 4294967296 0 with|none=>(true,5,0)|some n=>(true,0,n):=rfl
 generalize partsL 46 s=P at*
 generalize fourParts s=Q at*
 generalize fourL s=r at*
 obtain⟨l,hl⟩:∃l,P.length=l+1:=⟨P.length-1,by have:=List.length_pos_iff.2 hne;omega⟩
 have hlast:=getLast_is hl
 have hQx:∀p∈Q,p.length≤4000000000:=fun p hp=>by
  by_cases h:1<P.length∧P.getLastD []=[]
  ·rw[hc h]at hp;exact hx p (List.dropLast_subset _ hp)
  ·rw[hk h]at hp;exact hx p hp
 obtain⟨hE2,hb2,hrow,hsz,hcell⟩:=hW
 obtain⟨b,hb⟩:∃b:Bool,b=decide (1<P.length∧P.getLastD []=[]):=⟨_,rfl⟩
 have hQ:(b=true→Q=P.dropLast∧0<l)∧(b=false→Q=P):=⟨fun h=>by
  have:=of_decide_eq_true (hb.symm.trans h);exact⟨hc this,by omega⟩,fun h=>hk (of_decide_eq_false (hb.symm.trans h))⟩
 have hcl:=hcell l (by omega)
 rw[hlast]at hb
 have hM:FourM w Q W2:=⟨hE2,hb2,hrow,by omega,fun j hj=>by
  cases b with
  |true=>
   obtain⟨hq,_⟩:=hQ.1 rfl;subst hq;have hj2:j<P.length:=by rw[List.length_dropLast]at hj;omega
   rw[hcell j hj2,List.getElem_dropLast]
  |false=>
   have hq:=hQ.2 rfl;subst hq;exact hcell j hj⟩
 have HX:=Lib.hid hQx
 have HD:=Lib.hid hdef
 have HQ:=Lib.hid hQ
 rw[hl]at cs
 generalize hLL:P[l]'(by omega)=L at*
 clear hk hc hdef hQ hQx hE2 hb2 hrow hcell hx hP1 hne hlast hE hLL
 go_enter Tryz.func73,Tryz.ntmps73
 go_upto_region 3 with (go_at_call 137;refine cs.mono ?_;rintro e w1 ⟨rfl,rfl⟩)
 go_cut [28]from 19 to 28 (fun a wx=>a= .bool b∧w1=wx)
 case first=>
  clear HX HD HQ hM;by_cases h1:0<l
  ·have hi1:(1:Int)<(l:Int)+1:=by omega
   have hi2:(0:Int)<(l:Int):=by omega
   by_cases h2:L=[]
   ·have HB:Hid (b=true):=by show _=_;rw[hb];exact decide_eq_true ⟨by omega,h2⟩
    rw[h2]at hcl;clear hb h2;go_wp2_with fail;go_meet;exact⟨by rw[HB.out],rfl⟩
   ·have HB:Hid (b=false):=by show _=_;rw[hb];exact decide_eq_false (fun e=>h2 e.2)
    have b1:=isEmpty_ne h2;have b2:=beq_ne h2;clear hb h2;go_wp2_with fail;go_meet;exact⟨by rw[HB.out],rfl⟩
  ·have HB:Hid (b=false):=by show _=_;rw[hb];exact decide_eq_false (fun e=>by omega)
   have hl0:l=0:=by omega
   have hi1:¬(0:Int)<(l:Int):=by omega
   clear hb hl0;go_wp2_with fail;go_meet;exact⟨by rw[HB.out],rfl⟩
 case rest=>
  obtain⟨rfl,rfl⟩:=hcut;clear hb hcl;go_upto_if 28 with fail;go_cut [5]from 29 to 32 (fun v wx=>v= .slice (some ⟨w.heap.size+1,0,none⟩) Q.length (l+1)∧w1=wx)
  case first=>
   clear HX HD hM
   cases b with
   |true=>
    obtain⟨hq,hl0⟩:=HQ.out.1 rfl;have hql:Q.length=l:=by rw[hq,List.length_dropLast];omega
    have HL:=Lib.hid hql;clear HQ hq hql;go_wp2_with fail;go_meet
    case rel=>exact⟨by rw[HL.out],rfl⟩
   |false=>
    have hq:=HQ.out.2 rfl;have hql:Q.length=l+1:=by rw[hq];exact hl
    have HL:=Lib.hid hql;clear HQ hq hql;go_wp2_with fail;go_meet
    case rel=>exact⟨by rw[HL.out],rfl⟩
  case rest=>
   obtain⟨rfl,rfl⟩:=hcut;have hQl:1≤Q.length∧Q.length≤l+1:=by
    cases b with
    |true=>obtain⟨hq,hl0⟩:=HQ.out.1 rfl;rw[hq,List.length_dropLast];omega
    |false=>rw[HQ.out.2 rfl];omega
   obtain⟨m,hm⟩:∃m,Q.length=m+1:=⟨Q.length-1,by omega⟩;have hml:m≤l:=by omega
   have hlast:=getLast_is hm;have hd:=HD.out;rw[hlast]at hd;have cm:=hM.cell m (by omega);have cl:=like_any (Q[m]'(by omega)) w1 hM.env (by have:=HX.out _ (List.getElem_mem (show m<Q.length by omega));omega);have hlt:=hM.lt;rw[hm];clear HD HQ hQl hlast;generalize hLL:Q[m]'(by omega)=L2 at*;clear hLL
   cases hk:likeL L2 with
   |false=>
    rw[hk,if_pos rfl]at hd;subst hd;rw[hk]at cl;clear hk hm;go_wp2_with fail;go_at_call 138;refine cl.mono ?_;rintro e w3 ⟨rfl,hb3⟩;have hM3:=hM.calm hb3;have hz3:=hM3.row;have hlow:=hM3.low;go_upto_region 7 with fail;go_step;refine wpList_load_row (o:=⟨some _, .load 132 (.tmp 2),_,_,_,_⟩) rfl 132 (.tmp 2) rfl w.heap.size rfl 132 zeroA (0,0) _ hz3 Tryz.underlying132 rfl (by kernel_rfl) ?_;refine wpList_store_same (o:=⟨none, .store 132 (.tmp 2) (.tmp _),_,_,_,_⟩) rfl 132 (.tmp 2) _ rfl w.heap.size zeroA rfl rfl 132 hz3 (by kernel_rfl) (by decide+kernel) ?_;go_wp2_with fail;exact bodyPost_ret (results_row3 (fn:=Tryz.f73) (p:=2) (q:=3) (r:=4) (ty:=132) rfl _ _ w.heap.size 132 zeroA (0,0) _ rfl hz3 Tryz.underlying132 rfl (by kernel_rfl)) rfl ⟨rfl,hlow⟩
   |true=>
    rw[hk,if_neg (by simp)]at hd;rw[hk]at cl;have HD:=Lib.hid hd;have HMM:=Lib.hid hm;clear hk hm hd;go_wp2_with fail;go_at_call 138;refine cl.mono ?_;rintro e w3 ⟨rfl,hb3⟩;have hM3:=hM.calm hb3;clear cl cm hM hb3 hlt;by_cases hbig:3<m
    ·have hbi:(3:Int)<(m:Int):=by omega
     have hd:=HD.out;rw[if_pos (by have:=HMM.out;omega)]at hd;subst hd;have hz3:=hM3.row;have hlow:=hM3.low;go_upto_region 9 with fail;go_step;refine wpList_load_row (o:=⟨some _, .load 132 (.tmp 2),_,_,_,_⟩) rfl 132 (.tmp 2) rfl w.heap.size rfl 132 zeroA (0,0) _ hz3 Tryz.underlying132 rfl (by kernel_rfl) ?_;refine wpList_store_same (o:=⟨none, .store 132 (.tmp 2) (.tmp _),_,_,_,_⟩) rfl 132 (.tmp 2) _ rfl w.heap.size zeroA rfl rfl 132 hz3 (by kernel_rfl) (by decide+kernel) ?_;go_wp2_with fail;exact bodyPost_ret (results_row3 (fn:=Tryz.f73) (p:=2) (q:=3) (r:=4) (ty:=132) rfl _ _ w.heap.size 132 zeroA (0,0) _ rfl hz3 Tryz.underlying132 rfl (by kernel_rfl)) rfl ⟨rfl,hlow⟩
    ·have hbi:¬(3:Int)<(m:Int):=by omega
     have hd:=HD.out;rw[if_neg (by have:=HMM.out;omega)]at hd;have HR:=Lib.hid hd;clear HD hd;obtain rfl|rfl|rfl|rfl:m=0∨m=1∨m=2∨m=3:=by omega
     all_goals
      simp only[Nat.reduceAdd,Int.cast_ofNat_Int,Int.ofNat_zero,Int.ofNat_one,Int.natCast_zero,Int.natCast_one];clear hbig hbi hml;go_wp2_with fail;go_loopw [8,9,10,11,12,13,48,53] (fun a8 _ _ _ _ _ a48 _ wr=>∃k a:Nat,k≤Q.length∧a48= .int .i64 k∧a8= .int .i64 a∧Hid (FourIn Q k a)∧FourM w Q wr) (fun _ _ _ _ _ _ a48 _ _=>Q.length-(intOf a48).toNat)
      case atStart=>exact⟨0,0,Nat.zero_le _,rfl,rfl, .inr ⟨by have:=HMM.out;omega,FourAt.start Q⟩,hM3⟩
      case round=>
       obtain⟨k,a,hk,rfl,rfl,HA,hMr⟩:=hrel;have hV:=hMr.lt;by_cases hkl:k<Q.length
       ·obtain⟨_,hA⟩:=HA.out.resolve_left (fun e=>by omega)
        have ck:=hMr.cell k hkl;have hki:(k:Int)<(Q.length:Int):=by omega
        have hA1:=hA.1;have ha:a≤16777215:=by
         have h2:256^k≤256^3:=Nat.pow_le_pow_right (by decide) (by have:=HMM.out;omega);have h3:(256:Nat)^3=16777216:=by decide
         omega
        have cn:=anum_any Q[k] wr hMr.env (by have:=HX.out _ (List.getElem_mem hkl);omega);obtain⟨x,hx⟩:∃x,Q[k]=x:=⟨_,rfl⟩;rw[hx]at ck cn;have HK:=Lib.hid hx;have HAA:=Lib.hid hA;clear hx HA hA;by_cases hk1:k+1<Q.length
        ·first|(exfalso;have:=HMM.out;omega)|skip
         all_goals
          first
           |(have hg:Q.length=1:=by have:=HMM.out;omega
             have hkb:((k:Int)==0)=false:=beq_eq_false_iff_ne.2 (by omega)
             have hkq:(k:Int)<1:=by omega
             clear hg)
           |(have hg:Q.length=2:=by have:=HMM.out;omega
             have hkb:((k:Int)==1)=false:=beq_eq_false_iff_ne.2 (by omega)
             have hkq:(k:Int)<2:=by omega
             clear hg)
           |(have hg:Q.length=3:=by have:=HMM.out;omega
             have hkb:((k:Int)==2)=false:=beq_eq_false_iff_ne.2 (by omega)
             have hkq:(k:Int)<3:=by omega
             clear hg)
           |(have hg:Q.length=4:=by have:=HMM.out;omega
             have hkb:((k:Int)==3)=false:=beq_eq_false_iff_ne.2 (by omega)
             have hkq:(k:Int)<4:=by omega
             clear hg)
          cases hn:numL x with
          |none=>
           have hr:=HR.out;rw[HAA.out.miss hkl (by rw[HK.out];exact hn)]at hr;simp only at hr;subst hr;rw[hn]at cn;simp only[cntV]at cn;clear HK HAA hn HR HX hA1;go_wp2_with fail;go_at_call 139;refine cn.mono ?_;rintro e w4 ⟨rfl,hb4⟩;have hM4:=hMr.calm hb4;have hz4:=hM4.row;have hlow4:=hM4.low;clear hM4 hMr hb4;go_upto_region 19 with fail;go_step;refine wpList_load_row (o:=⟨some _, .load 132 (.tmp 2),_,_,_,_⟩) rfl 132 (.tmp 2) rfl w.heap.size rfl 132 zeroA (0,0) _ hz4 Tryz.underlying132 rfl (by kernel_rfl) ?_;refine wpList_store_same (o:=⟨none, .store 132 (.tmp 2) (.tmp _),_,_,_,_⟩) rfl 132 (.tmp 2) _ rfl w.heap.size zeroA rfl rfl 132 hz4 (by kernel_rfl) (by decide+kernel) ?_;go_wp2_with fail;exact bodyPost_ret (results_row3 (fn:=Tryz.f73) (p:=2) (q:=3) (r:=4) (ty:=132) rfl _ _ w.heap.size 132 zeroA (0,0) _ rfl hz4 Tryz.underlying132 rfl (by kernel_rfl)) rfl ⟨rfl,hlow4⟩
          |some n=>
           rw[hn]at cn;simp only[cntV]at cn;by_cases hb:n<256
           ·have hN:=HAA.out.next hk1 (by rw[HK.out];exact hn) hb
            have ho:bits BinOp.or IntKind.i64 ((a:Int)*256) (n:Int)=((a*256+n:Nat):Int):=or_8 hb ha;generalize hA':a*256+n=A at*;have HN:Hid (FourIn Q (k+1) A):= .inr ⟨hk1,hN⟩;clear HK HAA hn hN hA' HR hA1;go_wp2_with fail;go_at_call 139;refine cn.mono ?_;rintro e w4 ⟨rfl,hb4⟩;have hM4:=hMr.calm hb4;clear hMr hb4 cn ck;go_wp2_with fail;go_roundw
            case rel=>first|exact⟨k+1,A,by omega,by go_num,rfl,HN,hM4⟩|((repeat apply Exists.intro);exact⟨⟨k+1,A,by omega,(by go_num:Value.int .i64 ((k:Int)+1)= .int .i64 ((k+1:Nat):Int)),rfl,HN,hM4⟩,rfl⟩)
            case measure=>simp[intOf];omega
           ·have hr:=HR.out
            rw[HAA.out.big hk1 (by rw[HK.out];exact hn) hb]at hr;simp only at hr;subst hr;clear HK HAA hn HR HX hA1;go_wp2_with fail;go_at_call 139;refine cn.mono ?_;rintro e w4 ⟨rfl,hb4⟩;have hM4:=hMr.calm hb4;have hz4:=hM4.row;have hlow4:=hM4.low;clear hM4 hMr hb4;go_upto_region 19 with fail;go_step;refine wpList_load_row (o:=⟨some _, .load 132 (.tmp 2),_,_,_,_⟩) rfl 132 (.tmp 2) rfl w.heap.size rfl 132 zeroA (0,0) _ hz4 Tryz.underlying132 rfl (by kernel_rfl) ?_;refine wpList_store_same (o:=⟨none, .store 132 (.tmp 2) (.tmp _),_,_,_,_⟩) rfl 132 (.tmp 2) _ rfl w.heap.size zeroA rfl rfl 132 hz4 (by kernel_rfl) (by decide+kernel) ?_;go_wp2_with fail;exact bodyPost_ret (results_row3 (fn:=Tryz.f73) (p:=2) (q:=3) (r:=4) (ty:=132) rfl _ _ w.heap.size 132 zeroA (0,0) _ rfl hz4 Tryz.underlying132 rfl (by kernel_rfl)) rfl ⟨rfl,hlow4⟩
        ·have hk2:k+1=Q.length:=by omega
         first
          |(have hg:Q.length=1:=by have:=HMM.out;omega
            have hkb:((k:Int)==0)=true:=beq_iff_eq.2 (by omega)
            have hkq:(k:Int)<1:=by omega
            clear hg)
          |(have hg:Q.length=2:=by have:=HMM.out;omega
            have hkb:((k:Int)==1)=true:=beq_iff_eq.2 (by omega)
            have hkq:(k:Int)<2:=by omega
            clear hg)
          |(have hg:Q.length=3:=by have:=HMM.out;omega
            have hkb:((k:Int)==2)=true:=beq_iff_eq.2 (by omega)
            have hkq:(k:Int)<3:=by omega
            clear hg)
          |(have hg:Q.length=4:=by have:=HMM.out;omega
            have hkb:((k:Int)==3)=true:=beq_iff_eq.2 (by omega)
            have hkq:(k:Int)<4:=by omega
            clear hg)
         cases hn:numL x with
         |none=>
          have hr:=HR.out;rw[HAA.out.miss hkl (by rw[HK.out];exact hn)]at hr;simp only at hr;subst hr;rw[hn]at cn;simp only[cntV]at cn;clear HK HAA hn HR HX hA1;go_wp2_with fail;go_at_call 139;refine cn.mono ?_;rintro e w4 ⟨rfl,hb4⟩;have hM4:=hMr.calm hb4;have hz4:=hM4.row;have hlow4:=hM4.low;clear hM4 hMr hb4;go_upto_region 19 with fail;go_step;refine wpList_load_row (o:=⟨some _, .load 132 (.tmp 2),_,_,_,_⟩) rfl 132 (.tmp 2) rfl w.heap.size rfl 132 zeroA (0,0) _ hz4 Tryz.underlying132 rfl (by kernel_rfl) ?_;refine wpList_store_same (o:=⟨none, .store 132 (.tmp 2) (.tmp _),_,_,_,_⟩) rfl 132 (.tmp 2) _ rfl w.heap.size zeroA rfl rfl 132 hz4 (by kernel_rfl) (by decide+kernel) ?_;go_wp2_with fail;exact bodyPost_ret (results_row3 (fn:=Tryz.f73) (p:=2) (q:=3) (r:=4) (ty:=132) rfl _ _ w.heap.size 132 zeroA (0,0) _ rfl hz4 Tryz.underlying132 rfl (by kernel_rfl)) rfl ⟨rfl,hlow4⟩
         |some n=>
          rw[hn]at cn;simp only[cntV]at cn;have hL:=HAA.out.last hk2 (by rw[HK.out];exact hn);by_cases hb:n<4294967296/256^k
          ·rw[if_pos hb]at hL
           first
            |(have hg:Q.length=4:=by have:=HMM.out;omega
              have hR:4294967296/256^k=256:=by rw[show k=3 by omega]
              have hB:a<16777216:=by have:=hA1;rw[show k=3 by omega]at this;exact this
              rw[hR]at hb
              try rw[hR]at hL
              have ho:bits BinOp.or IntKind.i64 ((a:Int)*256) (n:Int)=((a*256+n:Nat):Int):=or_8 hb ha
              have hA2:=lt_8 hB hb
              generalize hA':a*256+n=A at*
              clear hg hR hA')
            |(have hg:Q.length=3:=by have:=HMM.out;omega
              have hR:4294967296/256^k=65536:=by rw[show k=2 by omega]
              have hB:a<65536:=by have:=hA1;rw[show k=2 by omega]at this;exact this
              rw[hR]at hb
              try rw[hR]at hL
              have ho:bits BinOp.or IntKind.i64 ((a:Int)*65536) (n:Int)=((a*65536+n:Nat):Int):=or_16 hb ha
              have hA2:=lt_16 hB hb
              generalize hA':a*65536+n=A at*
              clear hg hR hA')
            |(have hg:Q.length=2:=by have:=HMM.out;omega
              have hR:4294967296/256^k=16777216:=by rw[show k=1 by omega]
              have hB:a<256:=by have:=hA1;rw[show k=1 by omega]at this;exact this
              rw[hR]at hb
              try rw[hR]at hL
              have ho:bits BinOp.or IntKind.i64 ((a:Int)*16777216) (n:Int)=((a*16777216+n:Nat):Int):=or_24 hb ha
              have hA2:=lt_24 hB hb
              generalize hA':a*16777216+n=A at*
              clear hg hR hA')
            |(have hg:Q.length=1:=by have:=HMM.out;omega
              have hR:4294967296/256^k=4294967296:=by rw[show k=0 by omega]
              have hB:a<1:=by have:=hA1;rw[show k=0 by omega]at this;exact this
              rw[hR]at hb
              try rw[hR]at hL
              have ho:bits BinOp.or IntKind.i64 ((a:Int)*4294967296) (n:Int)=((a*4294967296+n:Nat):Int):=or_32 hb ha
              have hA2:=lt_32 hB hb
              generalize hA':a*4294967296+n=A at*
              clear hg hR hA')
           all_goals
            have HN:Hid (FourIn Q (k+1) A):= .inl ⟨hk2,hA2,hL⟩;clear HK HAA hn hL HR hA1 hA2;go_wp2_with fail;go_at_call 139;refine cn.mono ?_;rintro e w4 ⟨rfl,hb4⟩;have hM4:=hMr.calm hb4;clear hMr hb4 cn ck;go_wp2_with fail;go_roundw
            case rel=>first|exact⟨k+1,A,by omega,by go_num,rfl,HN,hM4⟩|((repeat apply Exists.intro);exact⟨⟨k+1,A,by omega,(by go_num:Value.int .i64 ((k:Int)+1)= .int .i64 ((k+1:Nat):Int)),rfl,HN,hM4⟩,rfl⟩)
            case measure=>simp[intOf];omega
          ·rw[if_neg hb]at hL
           have hr:=HR.out;rw[hL]at hr;simp only at hr;subst hr
           first
            |(have hg:Q.length=4:=by have:=HMM.out;omega
              have hR:4294967296/256^k=256:=by rw[show k=3 by omega]
              have hB:a<16777216:=by have:=hA1;rw[show k=3 by omega]at this;exact this
              rw[hR]at hb
              try rw[hR]at hL
              clear hg hR)
            |(have hg:Q.length=3:=by have:=HMM.out;omega
              have hR:4294967296/256^k=65536:=by rw[show k=2 by omega]
              have hB:a<65536:=by have:=hA1;rw[show k=2 by omega]at this;exact this
              rw[hR]at hb
              try rw[hR]at hL
              clear hg hR)
            |(have hg:Q.length=2:=by have:=HMM.out;omega
              have hR:4294967296/256^k=16777216:=by rw[show k=1 by omega]
              have hB:a<256:=by have:=hA1;rw[show k=1 by omega]at this;exact this
              rw[hR]at hb
              try rw[hR]at hL
              clear hg hR)
            |(have hg:Q.length=1:=by have:=HMM.out;omega
              have hR:4294967296/256^k=4294967296:=by rw[show k=0 by omega]
              have hB:a<1:=by have:=hA1;rw[show k=0 by omega]at this;exact this
              rw[hR]at hb
              try rw[hR]at hL
              clear hg hR)
           clear HK HAA hn hL HR HX hA1;go_wp2_with fail;go_at_call 139;refine cn.mono ?_;rintro e w4 ⟨rfl,hb4⟩;have hM4:=hMr.calm hb4;have hz4:=hM4.row;have hlow4:=hM4.low;clear hM4 hMr hb4;go_upto_region 19 with fail;go_step;refine wpList_load_row (o:=⟨some _, .load 132 (.tmp 2),_,_,_,_⟩) rfl 132 (.tmp 2) rfl w.heap.size rfl 132 zeroA (0,0) _ hz4 Tryz.underlying132 rfl (by kernel_rfl) ?_;refine wpList_store_same (o:=⟨none, .store 132 (.tmp 2) (.tmp _),_,_,_,_⟩) rfl 132 (.tmp 2) _ rfl w.heap.size zeroA rfl rfl 132 hz4 (by kernel_rfl) (by decide+kernel) ?_;go_wp2_with fail;exact bodyPost_ret (results_row3 (fn:=Tryz.f73) (p:=2) (q:=3) (r:=4) (ty:=132) rfl _ _ w.heap.size 132 zeroA (0,0) _ rfl hz4 Tryz.underlying132 rfl (by kernel_rfl)) rfl ⟨rfl,hlow4⟩
       ·obtain⟨_,hA2,hev⟩:=HA.out.resolve_right (fun e=>by omega)
        have hr:=HR.out;rw[hev]at hr;simp only at hr;subst hr;have hz6:=hMr.row;have hlow:=hMr.low;have hkn:k=Q.length:=by omega
        first
         |(have hg:Q.length=1:=by have:=HMM.out;omega
           have hkq:¬(k:Int)<1:=by omega
           clear hg)
         |(have hg:Q.length=2:=by have:=HMM.out;omega
           have hkq:¬(k:Int)<2:=by omega
           clear hg)
         |(have hg:Q.length=3:=by have:=HMM.out;omega
           have hkq:¬(k:Int)<3:=by omega
           clear hg)
         |(have hg:Q.length=4:=by have:=HMM.out;omega
           have hkq:¬(k:Int)<4:=by omega
           clear hg)
        clear hkn hev HA hMr HR;go_wp2_with fail;have e1:wr.cell? ⟨w.heap.size,1,none⟩=some (.int .u8 0):=by rw[cell_of_row _ _ _ _ _ _ hz6];rfl
        have e2:wr.cell? ⟨w.heap.size,2,none⟩=some (.int .u8 0):=by rw[cell_of_row _ _ _ _ _ _ hz6];rfl
        have e3:wr.cell? ⟨w.heap.size,3,none⟩=some (.int .u8 0):=by rw[cell_of_row _ _ _ _ _ _ hz6];rfl
        have e4:wr.cell? ⟨w.heap.size,4,none⟩=some (.int .u8 0):=by rw[cell_of_row _ _ _ _ _ _ hz6];rfl
        have f1:wr.frozen? ⟨w.heap.size,1,none⟩=false:=frozen_of_row _ _ _ _ _ hz6;have f2:wr.frozen? ⟨w.heap.size,2,none⟩=false:=frozen_of_row _ _ _ _ _ hz6;have f3:wr.frozen? ⟨w.heap.size,3,none⟩=false:=frozen_of_row _ _ _ _ _ hz6;have f4:wr.frozen? ⟨w.heap.size,4,none⟩=false:=frozen_of_row _ _ _ _ _ hz6;refine wp_loop_rounds 5 ?_;rw[rounds_succ];go_wp2_with fail;rw[rounds_succ];go_wp2_with fail;rw[rounds_succ];go_wp2_with fail;rw[rounds_succ];go_wp2_with fail;rw[rounds_succ];go_upto_region 27 with fail;have hzf:=heap_setCell_same _ w.heap.size 4 _ _ (.int .u8 ((a:Int) % 256)) (heap_setCell_same _ w.heap.size 3 _ _ (.int .u8 ((a:Int)/256 % 256)) (heap_setCell_same _ w.heap.size 2 _ _ (.int .u8 ((a:Int)/65536 % 256)) (heap_setCell_same _ w.heap.size 1 _ _ (.int .u8 ((a:Int)/16777216)) hz6)));have hbf:=(((hlow.setCell (p:=⟨w.heap.size,1,none⟩) (Nat.le_refl _) (.int .u8 ((a:Int)/16777216))).setCell (p:=⟨w.heap.size,2,none⟩) (Nat.le_refl _) (.int .u8 ((a:Int)/65536 % 256))).setCell (p:=⟨w.heap.size,3,none⟩) (Nat.le_refl _) (.int .u8 ((a:Int)/256 % 256))).setCell (p:=⟨w.heap.size,4,none⟩) (Nat.le_refl _) (.int .u8 ((a:Int) % 256));have hzf:_=some (Obj.cells #[.bool false, .int .u8 ((a:Int)/16777216), .int .u8 ((a:Int)/65536 % 256), .int .u8 ((a:Int)/256 % 256), .int .u8 ((a:Int) % 256), .int .u8 0, .int .u8 0, .int .u8 0, .int .u8 0, .int .u8 0, .int .u8 0, .int .u8 0, .int .u8 0, .int .u8 0, .int .u8 0, .int .u8 0, .int .u8 0] 132 (0,0)):=hzf;go_step;refine wpList_load_row (o:=⟨some _, .load 132 (.tmp 2),_,_,_,_⟩) rfl 132 (.tmp 2) rfl w.heap.size rfl 132 #[.bool false, .int .u8 ((a:Int)/16777216), .int .u8 ((a:Int)/65536 % 256), .int .u8 ((a:Int)/256 % 256), .int .u8 ((a:Int) % 256), .int .u8 0, .int .u8 0, .int .u8 0, .int .u8 0, .int .u8 0, .int .u8 0, .int .u8 0, .int .u8 0, .int .u8 0, .int .u8 0, .int .u8 0, .int .u8 0] (0,0) _ hzf Tryz.underlying132 rfl (by kernel_rfl) ?_;refine wpList_store_same (o:=⟨none, .store 132 (.tmp 2) (.tmp _),_,_,_,_⟩) rfl 132 (.tmp 2) _ rfl w.heap.size #[.bool false, .int .u8 ((a:Int)/16777216), .int .u8 ((a:Int)/65536 % 256), .int .u8 ((a:Int)/256 % 256), .int .u8 ((a:Int) % 256), .int .u8 0, .int .u8 0, .int .u8 0, .int .u8 0, .int .u8 0, .int .u8 0, .int .u8 0, .int .u8 0, .int .u8 0, .int .u8 0, .int .u8 0, .int .u8 0] rfl rfl 132 hzf (by kernel_rfl) (by simp[Value.oneCell']) ?_;go_wp2_with fail;refine bodyPost_ret (results_row3 (fn:=Tryz.f73) (p:=2) (q:=3) (r:=4) (ty:=132) rfl _ _ w.heap.size 132 #[.bool false, .int .u8 ((a:Int)/16777216), .int .u8 ((a:Int)/65536 % 256), .int .u8 ((a:Int)/256 % 256), .int .u8 ((a:Int) % 256), .int .u8 0, .int .u8 0, .int .u8 0, .int .u8 0, .int .u8 0, .int .u8 0, .int .u8 0, .int .u8 0, .int .u8 0, .int .u8 0, .int .u8 0, .int .u8 0] (0,0) _ rfl hzf Tryz.underlying132 rfl (by kernel_rfl)) rfl ⟨?_,hbf⟩;simp[fourV,addrV];omega
end Go.Proofs.YtjkipdoebkhkaaaGreatDoor
