/- The walk of percent.Decode. -/
import Derived.Test.YtpkoodnbkffpoaaGreatDoorGInt
import Derived.Test.YtpkoodnbkffpoaaGreatDoorGJoin
set_option linter.unusedVariables false
set_option linter.unusedSimpArgs false
set_option maxHeartbeats 16000000
namespace Go.Proofs.YtpkoodnbkffpoaaGreatDoor
open Go.RowKit
structure PctMem (w0:World) (B:Nat) (out:List UInt8) (wr:World):Prop where
 bld:Lib.IsBuilderF 159 5 B B (Lib.byteCells out) wr
 low:Below w0.heap.size w0 wr
 hB:w0.heap.size≤B
 sz:B<wr.heap.size
section
variable {w0 wr W:World} {B:Nat} {out:List UInt8}
theorem PctMem.below (h:PctMem w0 B out wr) (hb:Below wr.heap.size wr W):PctMem w0 B out W:=
 ⟨builder_below h.bld hb,h.low.trans (hb.mono h.low.size),h.hB,Nat.lt_of_lt_of_le h.sz hb.size⟩
theorem PctMem.drewN (h:PctMem w0 B out wr) (n:Nat):PctMem w0 B out (wr.drewN n):=⟨h.bld,⟨h.low.os,h.low.tape,h.low.output,h.low.size,h.low.block⟩,h.hB,h.sz⟩
theorem PctMem.more (h:PctMem w0 B out wr) {l:List UInt8} (hb:Lib.BuilderAtF 159 5 B B (.pointer (some ⟨B,0,none⟩)) (Lib.byteCells out++Lib.byteCells l) W) (hl:Below B wr W):PctMem w0 B (out++l) W:=
 ⟨.inr (by rw[Lib.byteCells_append];exact hb),h.low.trans (hl.mono h.hB),h.hB,Nat.lt_of_lt_of_le h.sz hl.size⟩
end
def strSz:Value→Nat
 | .string s=>s.size
 |_=>0
theorem cut37 (s:List UInt8) (w:World) (hE:Env w) (hs:s.length≤4000000000):
 Calls Tryz.prog 127 #[.string ⟨s.toArray⟩, .string ⟨#[37]⟩] w fun e w'=>e= .returned (.tuple #[.string ⟨(Lib.cut s [37]).1.toArray⟩, .string ⟨(Lib.cut s [37]).2.1.toArray⟩, .bool (Lib.cut s [37]).2.2])∧∃n,w'=w.drewN n:=
 (Tryz.strings_Cut_shaped ⟨s.toArray⟩ ⟨#[37]⟩ w hE.shaped (by show s.length<_;omega)).mono fun e w' h=>⟨by simpa using h.1,h.2⟩
theorem pct_start (w:World):PctMem w w.heap.size [] (w.alloc (.cells #[.pointer none, .slice none 0 0] 159)):=
 ⟨Lib.IsBuilderF.of (Lib.fresh_isBuilder _ _ w),(Below.refl _ w).alloc (Nat.le_refl _) _,Nat.le_refl _,by rw[World.size_alloc];omega⟩
section
variable (s0:List UInt8) (w:World)
def PctAt (v:Value) (wr:World):Prop:=∃l out:List UInt8,v= .string ⟨l.toArray⟩∧Hid (pctL s0=out++pctL l)∧out.length+l.length≤s0.length∧PctMem w w.heap.size out wr
end
set_option maxRecDepth 100000 in
theorem pct_any (s0:List UInt8) (w:World) (hE:Env w) (hs:s0.length≤4000000000):
 Calls Tryz.prog 131 #[.string ⟨s0.toArray⟩] w fun e w'=>e= .returned (.string ⟨(pctL s0).toArray⟩)∧Below w.heap.size w w':=by
 go_enter Tryz.func131,Tryz.ntmps131
 go_wp2_with fail
 go_loopw [0] (fun v wr=>PctAt s0 w v wr) (fun v _=>strSz v)
 case atStart=>exact⟨s0,[],rfl,by show _=_;simp,by simp,pct_start w⟩
 case round=>
  obtain⟨V,rfl⟩:∃V,V=wr:=⟨wr,rfl⟩;obtain⟨l,out,rfl,H,hlen,hm⟩:=hrel;have hEV:=hE.below hm.low;have cc:=cut37 l V hEV (by omega);rcases cut_one l 37 with ⟨hn,hc⟩|⟨a,b,rfl,hn,hc⟩
  ·rw[hc]at cc
   have HE:Hid (pctL s0=out++l):=by show _=_;rw[H.out,pctL_plain hn]
   clear hc hn H;go_wp2_with fail;go_at_call 127;refine cc.mono ?_;rintro e w1 ⟨rfl,n,rfl⟩;have hm1:=hm.drewN n;clear hm cc hEV;generalize V.drewN n=w1 at*;go_wp2_with fail;go_at_call 114;refine(writeString_k w.heap.size w.heap.size _ l w1 hm1.bld (by rw[Lib.byteCells_length];omega) hm1.low.size).mono ?_;rintro e w2 ⟨rfl,hb2,hl2,_⟩;have hm2:=hm1.more hb2 hl2;clear hb2 hl2 hm1;go_wp2_with fail;go_at_call 118;refine(Tryz.Builder_String_any_k w.heap.size w.heap.size (out++l) w2 hm2.bld (Nat.le_of_lt hm2.sz)).mono ?_;rintro e w3 ⟨rfl,h1,b1,k1⟩;go_wp2_with fail;go_ret;exact⟨by rw[HE.out];rfl,hm2.low.trans b1⟩
  ·rw[hc]at cc
   simp only[List.length_append,List.length_cons]at hlen;have HE:Hid (pctL s0=(out++a)++pctL (37::b)):=by show _=_;rw[H.out,pctL_cut hn,List.append_assoc]
   clear hc hn H;have hq:∃q:Option Nat,hx2 b=q:=⟨_,rfl⟩;have cw:∀(W W2:World) (c:UInt8),PctMem w w.heap.size (out++a) W→Calls Tryz.prog 115 #[.pointer (some ⟨w.heap.size,0,none⟩), .int .u8 (c.toNat:Int)] W fun e W'=>e= .returned .nilIface∧PctMem w w.heap.size (out++a++[c]) W':=fun W W2 c hW=>
    (writeByte_k w.heap.size w.heap.size _ _ W hW.bld (by rw[Lib.byteCells_length,List.length_append];omega) hW.low.size).mono fun e W' ⟨he,hb,hl,_⟩=>⟨he,hW.more (l:=[c]) hb hl⟩
   go_wp2_with fail;go_at_call 127;refine cc.mono ?_;rintro e w1 ⟨rfl,n,rfl⟩;have hm1:=hm.drewN n;clear hm cc hEV;generalize V.drewN n=w1 at*;go_wp2_with fail;go_at_call 114;refine(writeString_k w.heap.size w.heap.size _ a w1 hm1.bld (by rw[Lib.byteCells_length];omega) hm1.low.size).mono ?_;rintro e w2 ⟨rfl,hb2,hl2,_⟩;have hm2:=hm1.more hb2 hl2;clear hb2 hl2 hm1;by_cases h2:b.length<2
   ·have HN:Hid (pctL s0=(out++a++[37])++pctL b):=by
     show _=_;rw[HE.out,pctL_none (hx2_short h2)];simp
    clear HE hq;go_wp2_with(go_at_call 115;refine(cw _ w 37 hm2).mono ?_;rintro e w3 ⟨rfl,hm3⟩);go_roundw
    case rel=>exact⟨b,_,rfl,HN,by simp;omega,hm3⟩
    case measure=>simp[strSz,size_mk];omega
   ·obtain⟨x,y,r,rfl⟩:∃x y r,b=x::y::r:=by
     match b,h2 with
     |[],h2=>simp at h2
     |[x],h2=>simp at h2
     |x::y::r,_=>exact⟨x,y,r,rfl⟩
    simp only[List.length_cons]at hlen;clear h2 hq;have hmiss:hx2 (x::y::r)=none→Hid (pctL s0=(out++a++[37])++pctL (x::y::r)):=fun h=>by
     show _=_;rw[HE.out,pctL_none h];simp
    have hhit:∀v,hx2 (x::y::r)=some v→Hid (pctL s0=(out++a++[UInt8.ofNat v])++pctL r):=fun v h=>by
     show _=_;rw[HE.out,pctL_hit h];simp
    have hph:=parse_hx2 x y r;have hsg:(x.toNat=43∨x.toNat=45)→hx2 (x::y::r)=none:=fun h=>hx2_sign h
    have cpo:=fun v (h:parseB 16 255 0 [x,y]= .ok v) W=>pu16b_ok [x,y] (by simp) (by simp) v h W
    have cpb:=fun (h:∀v,parseB 16 255 0 [x,y]≠ .ok v) W (hW:Env W)=>pu16b_bad [x,y] (by simp) (by simp) h W hW
    have hE2:=hE.below hm2.low;have hx8:=x.toNat_lt;clear HE;by_cases h43:x.toNat=43
    ·have HN:=hmiss (hsg (.inl h43))
     have h43i:(x.toNat:Int)=43:=by omega
     clear hmiss hhit hph hsg cpo cpb h43;go_wp2_with(go_at_call 115;refine(cw _ w 37 hm2).mono ?_;rintro e w3 ⟨rfl,hm3⟩);go_roundw
     case rel=>exact⟨x::y::r,_,rfl,HN,by simp;omega,hm3⟩
     case measure=>simp[strSz,size_mk];omega
    ·by_cases h45:x.toNat=45
     ·have HN:=hmiss (hsg (.inr h45))
      have h45i:(x.toNat:Int)=45:=by omega
      clear hmiss hhit hph hsg cpo cpb h45 h43;go_wp2_with(go_at_call 115;refine(cw _ w 37 hm2).mono ?_;rintro e w3 ⟨rfl,hm3⟩);go_roundw
      case rel=>exact⟨x::y::r,_,rfl,HN,by simp;omega,hm3⟩
      case measure=>simp[strSz,size_mk];omega
     ·have h43b:((x.toNat:Int) !=43)=true:=bne_iff_ne.2 (by omega)
      have h45b:((x.toNat:Int) !=45)=true:=bne_iff_ne.2 (by omega);have h43p:¬(x.toNat:Int)=43:=by omega
      have h45p:¬(x.toNat:Int)=45:=by omega
      cases hp:parseB 16 255 0 [x,y]with
      |ok v=>
       rw[hp]at hph;have HN:=hhit v hph;have hv:=hx2_lt hph;have cp:=cpo v hp;have hvb:((UInt8.ofNat v).toNat:Int)=(v:Int):=by rw[UInt8.toNat_ofNat',Nat.mod_eq_of_lt (by omega)]
       clear hmiss hhit hph hsg cpo cpb hp h43 h45;go_wp2_with fail;go_at_call 165;refine(cp w2).mono ?_;rintro e w3 ⟨rfl,hb3⟩;have hm3:=hm2.below hb3;have cwv:=cw w3 w (UInt8.ofNat v) hm3;rw[hvb]at cwv;clear hvb cp;go_wp2_with(go_at_call 115;refine cwv.mono ?_;rintro e w4 ⟨rfl,hm4⟩);go_roundw
       case rel=>exact⟨r,_,rfl,HN,by simp;omega,hm4⟩
       case measure=>simp[strSz,size_mk];omega
      |_=>
       rw[hp]at hph;have HN:=hmiss hph;have cp:=cpb (by intro v h;rw[hp]at h;cases h) w2 hE2;clear hmiss hhit hph hsg cpo cpb hp h43 h45;go_wp2_with fail;go_at_call 165;refine cp.mono ?_;rintro e w3 ⟨n,T,q,hn,rfl,hb3⟩;have hm3:=hm2.below hb3;go_wp2_with(go_at_call 115;refine(cw _ w 37 hm3).mono ?_;rintro e w4 ⟨rfl,hm4⟩);go_roundw
       case rel=>exact⟨x::y::r,_,rfl,HN,by simp;omega,hm4⟩
       case measure=>simp[strSz,size_mk];omega
end Go.Proofs.YtpkoodnbkffpoaaGreatDoor
namespace Go.Proofs.YtpkoodnbkffpoaaGreatDoor
open Go.RowKit
theorem hex_or:∀c:Fin 256,(bits BinOp.or IntKind.u8 (c.val:Int) 32==120)=(c.val==120||c.val==88):=by decide+kernel
theorem hexPre_false {s:List UInt8} (h:s.length<2∨(s.getD 0 0).toNat≠48):hexPre s=false:=by
 unfold hexPre;rcases h with h|h
 ·rw[decide_eq_false (by omega)];rfl
 ·rw[show((s.getD 0 0).toNat==48)=false by simpa using h];simp
theorem hexPre_is {s:List UInt8} (h:2≤s.length) (h0:(s.getD 0 0).toNat=48):hexPre s=((s.getD 1 0).toNat==120||(s.getD 1 0).toNat==88):=by
 unfold hexPre;rw[decide_eq_true h,h0];rfl
theorem getD_is {s:List UInt8} {k:Nat} (h:k<s.length):s.getD k 0=s[k]:=by simp[List.getD,List.getElem?_eq_getElem h]
set_option maxRecDepth 100000 in
theorem hexed_any (s:List UInt8) (w:World) (hs:s.length≤140737488351232):
 Calls Tryz.prog 156 #[.string ⟨s.toArray⟩] w fun e w'=>e= .returned (.tuple #[.string ⟨(if hexPre s then s.drop 2 else []).toArray⟩, .bool (hexPre s)])∧w=w':=by
 by_cases h2:2≤s.length
 ·have g0:=getD_is (s:=s) (k:=0) (by omega)
  have g1:=getD_is (s:=s) (k:=1) (by omega);by_cases h0:(s.getD 0 0).toNat=48
  ·have hx:=hexPre_is h2 h0
   have ho:=hex_or ⟨(s.getD 1 0).toNat,(s.getD 1 0).toNat_lt⟩;simp only at ho;rw[←hx]at ho;rw[g0]at h0;rw[g1]at ho;have h00:((s[0]'(by omega)).toNat:Int)=48:=by omega
   have htk:List.take (s.length-2) (List.drop 2 s)=s.drop 2:=List.take_of_length_le (by simp)
   cases hh:hexPre s
   all_goals
    rw[hh]at ho;clear g0 g1 hx h0 hh;go_enter Tryz.func156,Tryz.ntmps156;go_wp2_with fail;go_ret2;exact⟨rfl,rfl⟩
  ·have hx:=hexPre_false (s:=s) (.inr h0)
   rw[g0]at h0;have h00:¬((s[0]'(by omega)).toNat:Int)=48:=by omega
   rw[hx];clear g0 g1 hx h0;go_enter Tryz.func156,Tryz.ntmps156;go_wp2_with fail;go_ret2;exact⟨rfl,rfl⟩
 ·have hx:=hexPre_false (s:=s) (.inl (by omega))
  rw[hx];have h2':s.length<2:=by omega
  clear hx h2;go_enter Tryz.func156,Tryz.ntmps156;go_wp2_with fail;go_ret2;exact⟨rfl,rfl⟩
theorem trimZ_any (s:List UInt8) (w:World):Calls Tryz.prog 148 #[.string ⟨s.toArray⟩, .string ⟨#[48]⟩] w fun e w'=>e= .returned (.string ⟨(s.dropWhile fun c=>c==48).toArray⟩)∧w=w':=
 (Tryz.strings_TrimLeft_one ⟨s.toArray⟩ 48 (by decide) w).mono fun e w' ⟨he,hw⟩=>⟨he,hw.symm⟩
def cntV (r:Option Nat):Value:= .tuple #[.int .i64 ((r.getD 0:Nat):Int), .bool r.isSome]
theorem cut_8:∀c:Fin 256,([48,49,50,51,52,53,54,55]:List UInt8).contains (UInt8.ofNat c.val)=(decide (0≤hexI c.val)&&decide (hexI c.val<8)):=by decide+kernel
theorem trim_8 {s:List UInt8}:Lib.trimS s [48,49,50,51,52,53,54,55]=[]↔allDig 8 s=true:=by
 rw[trimS_nil];unfold allDig;rw[List.all_eq_true];have key:∀c:UInt8,([48,49,50,51,52,53,54,55]:List UInt8).contains c=(decide (0≤hexI c.toNat)&&decide (hexI c.toNat<((8:Nat):Int))):=fun c=>by
  have:=cut_8 ⟨c.toNat,c.toNat_lt⟩;simpa using this
 exact⟨fun h c hc=>by rw[←key];exact h c hc,fun h c hc=>by rw[key];exact h c hc⟩
set_option maxRecDepth 100000 in
theorem count_8 (s:List UInt8) (w:World) (hE:Env w) (hs:s.length≤140737488351232):
 Calls Tryz.prog 157 #[.string ⟨s.toArray⟩, .int .i64 8] w fun e w'=>e= .returned (cntV (cntL 8 s))∧Below w.heap.size w w':=by
 have hbw:=Below.refl w.heap.size w
 have ct:=lift_below w (fun W=>trim_any s [48,49,50,51,52,53,54,55] W hs (by decide) (by decide))
 cases hd:allDig 8 s with
 |false=>
  have hne:Lib.trimS s [48,49,50,51,52,53,54,55]≠[]:=fun h=>by rw[trim_8.1 h]at hd;cases hd
  have hr:cntL 8 s=none:=cntF_none hd;rw[hr];have he:(Lib.trimS s [48,49,50,51,52,53,54,55]==[])=false:=by rw[beq_eq_false_iff_ne];exact hne
  have he2:(Lib.trimS s [48,49,50,51,52,53,54,55]).isEmpty=false:=by cases h:Lib.trimS s [48,49,50,51,52,53,54,55]with|nil=>exact absurd h hne|cons a l=>rfl
  generalize Lib.trimS s [48,49,50,51,52,53,54,55]=T at*;clear hd hne hr;go_enter Tryz.func157,Tryz.ntmps157;go_wp2_with(go_at_call 102;refine(ct _ (by assumption)).mono ?_;rintro e w1 ⟨rfl,hb1⟩);go_ret2;exact⟨rfl,by assumption⟩
 |true=>
  rw[trim_8.2 hd]at ct;have cl:=lift_same w (fun W=>trimZ_any s W);have hz:=cnt_zeros (base:=8) (s:=s) (by decide);have hdz:=allDig_zeros hd;have hlz:(s.dropWhile fun c=>c==48).length≤140737488351232:=Nat.le_trans (List.dropWhile_sublist _).length_le hs;rw[←hz];generalize (s.dropWhile fun c=>c==48)=T at*;by_cases hT:T=[]
  ·subst hT
   go_enter Tryz.func157,Tryz.ntmps157;go_wp2_with(first|(go_at_call 102;refine(ct _ (by assumption)).mono ?_;rintro e w1 ⟨rfl,hb1⟩)|(go_at_call 148;refine(cl _ (by assumption)).mono ?_;rintro e w1 ⟨rfl,hb1⟩));go_ret2;exact⟨rfl,by assumption⟩
  ·have he:(T==[])=false:=by rw[beq_eq_false_iff_ne];exact hT
   have he2:T.isEmpty=false:=by cases h:T with|nil=>exact absurd h hT|cons a l=>rfl
   have hcp:=cnt_parse (base:=8) (max:=18446744073709551615) (by decide) (by decide) (s:=T) (acc:=0) hdz;have hcl:cntL 8 T=some (cutP (parseB 8 18446744073709551615 0 T)):=hcp;rw[hcl];clear hcp hcl hz hdz hd
   cases hp:parseB 8 18446744073709551615 0 T with
   |ok v=>
    have hv:=parseB_le 8 18446744073709551615 T 0 v (by decide) hp;have cp:=lift_below w (fun W=>pu8_ok T hT hlz v hp W);have hcut:cutP (.ok v)=min 4294967296 v:=rfl;rw[hcut];clear hp hT hcut;by_cases hg:4294967296<v
    ·rw[Nat.min_eq_left (by omega)]
     go_enter Tryz.func157,Tryz.ntmps157;go_wp2_with(first|(go_at_call 102;refine(ct _ (by assumption)).mono ?_;rintro e w1 ⟨rfl,hb1⟩)|(go_at_call 148;refine(cl _ (by assumption)).mono ?_;rintro e w1 ⟨rfl,hb1⟩)|(go_at_call 165;refine(cp _ (by assumption)).mono ?_;rintro e w1 ⟨rfl,hb1⟩));go_ret2;exact⟨rfl,by assumption⟩
    ·rw[Nat.min_eq_right (by omega)]
     go_enter Tryz.func157,Tryz.ntmps157;go_wp2_with(first|(go_at_call 102;refine(ct _ (by assumption)).mono ?_;rintro e w1 ⟨rfl,hb1⟩)|(go_at_call 148;refine(cl _ (by assumption)).mono ?_;rintro e w1 ⟨rfl,hb1⟩)|(go_at_call 165;refine(cp _ (by assumption)).mono ?_;rintro e w1 ⟨rfl,hb1⟩));go_ret2;exact⟨rfl,by assumption⟩
   |_=>
    have cp:∀W,Below w.heap.size w W→Calls Tryz.prog 165 #[.string ⟨T.toArray⟩, .int .i64 8, .int .i64 64] W fun e w'=>∃(n:Int) (t:TypeId) (q:Value),0≤n∧e= .returned (.tuple #[.int .u64 n, .iface t q])∧Below w.heap.size w w':=fun W hW=>
     (pu8_bad T hT hlz (by rw[hp];intro v h;cases h) W (hE.below hW)).mono fun e W' ⟨n,t,q,h0,he,hb⟩=>⟨n,t,q,h0,he,hW.trans (hb.mono hW.size)⟩
    clear hp hT;show Calls Tryz.prog _ _ _ fun e w'=>e= .returned (cntV (some 4294967296))∧_
    go_enter Tryz.func157,Tryz.ntmps157;go_wp2_with(first|(go_at_call 102;refine(ct _ (by assumption)).mono ?_;rintro e w1 ⟨rfl,hb1⟩)|(go_at_call 148;refine(cl _ (by assumption)).mono ?_;rintro e w1 ⟨rfl,hb1⟩)|(go_at_call 165;refine(cp _ (by assumption)).mono ?_;rintro e w1 ⟨n,t,q,hn0,rfl,hb1⟩));go_ret2;exact⟨rfl,by assumption⟩
theorem cut_10:∀c:Fin 256,([48,49,50,51,52,53,54,55,56,57]:List UInt8).contains (UInt8.ofNat c.val)=(decide (0≤hexI c.val)&&decide (hexI c.val<10)):=by decide+kernel
theorem trim_10 {s:List UInt8}:Lib.trimS s [48,49,50,51,52,53,54,55,56,57]=[]↔allDig 10 s=true:=by
 rw[trimS_nil];unfold allDig;rw[List.all_eq_true];have key:∀c:UInt8,([48,49,50,51,52,53,54,55,56,57]:List UInt8).contains c=(decide (0≤hexI c.toNat)&&decide (hexI c.toNat<((10:Nat):Int))):=fun c=>by
  have:=cut_10 ⟨c.toNat,c.toNat_lt⟩;simpa using this
 exact⟨fun h c hc=>by rw[←key];exact h c hc,fun h c hc=>by rw[key];exact h c hc⟩
set_option maxRecDepth 100000 in
theorem count_10 (s:List UInt8) (w:World) (hE:Env w) (hs:s.length≤140737488351232):
 Calls Tryz.prog 157 #[.string ⟨s.toArray⟩, .int .i64 10] w fun e w'=>e= .returned (cntV (cntL 10 s))∧Below w.heap.size w w':=by
 have hbw:=Below.refl w.heap.size w
 have ct:=lift_below w (fun W=>trim_any s [48,49,50,51,52,53,54,55,56,57] W hs (by decide) (by decide))
 cases hd:allDig 10 s with
 |false=>
  have hne:Lib.trimS s [48,49,50,51,52,53,54,55,56,57]≠[]:=fun h=>by rw[trim_10.1 h]at hd;cases hd
  have hr:cntL 10 s=none:=cntF_none hd;rw[hr];have he:(Lib.trimS s [48,49,50,51,52,53,54,55,56,57]==[])=false:=by rw[beq_eq_false_iff_ne];exact hne
  have he2:(Lib.trimS s [48,49,50,51,52,53,54,55,56,57]).isEmpty=false:=by cases h:Lib.trimS s [48,49,50,51,52,53,54,55,56,57]with|nil=>exact absurd h hne|cons a l=>rfl
  generalize Lib.trimS s [48,49,50,51,52,53,54,55,56,57]=T at*;clear hd hne hr;go_enter Tryz.func157,Tryz.ntmps157;go_wp2_with(go_at_call 102;refine(ct _ (by assumption)).mono ?_;rintro e w1 ⟨rfl,hb1⟩);go_ret2;exact⟨rfl,by assumption⟩
 |true=>
  rw[trim_10.2 hd]at ct;have cl:=lift_same w (fun W=>trimZ_any s W);have hz:=cnt_zeros (base:=10) (s:=s) (by decide);have hdz:=allDig_zeros hd;have hlz:(s.dropWhile fun c=>c==48).length≤140737488351232:=Nat.le_trans (List.dropWhile_sublist _).length_le hs;rw[←hz];generalize (s.dropWhile fun c=>c==48)=T at*;by_cases hT:T=[]
  ·subst hT
   go_enter Tryz.func157,Tryz.ntmps157;go_wp2_with(first|(go_at_call 102;refine(ct _ (by assumption)).mono ?_;rintro e w1 ⟨rfl,hb1⟩)|(go_at_call 148;refine(cl _ (by assumption)).mono ?_;rintro e w1 ⟨rfl,hb1⟩));go_ret2;exact⟨rfl,by assumption⟩
  ·have he:(T==[])=false:=by rw[beq_eq_false_iff_ne];exact hT
   have he2:T.isEmpty=false:=by cases h:T with|nil=>exact absurd h hT|cons a l=>rfl
   have hcp:=cnt_parse (base:=10) (max:=18446744073709551615) (by decide) (by decide) (s:=T) (acc:=0) hdz;have hcl:cntL 10 T=some (cutP (parseB 10 18446744073709551615 0 T)):=hcp;rw[hcl];clear hcp hcl hz hdz hd
   cases hp:parseB 10 18446744073709551615 0 T with
   |ok v=>
    have hv:=parseB_le 10 18446744073709551615 T 0 v (by decide) hp;have cp:=lift_below w (fun W=>pu10_ok T hT hlz v hp W);have hcut:cutP (.ok v)=min 4294967296 v:=rfl;rw[hcut];clear hp hT hcut;by_cases hg:4294967296<v
    ·rw[Nat.min_eq_left (by omega)]
     go_enter Tryz.func157,Tryz.ntmps157;go_wp2_with(first|(go_at_call 102;refine(ct _ (by assumption)).mono ?_;rintro e w1 ⟨rfl,hb1⟩)|(go_at_call 148;refine(cl _ (by assumption)).mono ?_;rintro e w1 ⟨rfl,hb1⟩)|(go_at_call 165;refine(cp _ (by assumption)).mono ?_;rintro e w1 ⟨rfl,hb1⟩));go_ret2;exact⟨rfl,by assumption⟩
    ·rw[Nat.min_eq_right (by omega)]
     go_enter Tryz.func157,Tryz.ntmps157;go_wp2_with(first|(go_at_call 102;refine(ct _ (by assumption)).mono ?_;rintro e w1 ⟨rfl,hb1⟩)|(go_at_call 148;refine(cl _ (by assumption)).mono ?_;rintro e w1 ⟨rfl,hb1⟩)|(go_at_call 165;refine(cp _ (by assumption)).mono ?_;rintro e w1 ⟨rfl,hb1⟩));go_ret2;exact⟨rfl,by assumption⟩
   |_=>
    have cp:∀W,Below w.heap.size w W→Calls Tryz.prog 165 #[.string ⟨T.toArray⟩, .int .i64 10, .int .i64 64] W fun e w'=>∃(n:Int) (t:TypeId) (q:Value),0≤n∧e= .returned (.tuple #[.int .u64 n, .iface t q])∧Below w.heap.size w w':=fun W hW=>
     (pu10_bad T hT hlz (by rw[hp];intro v h;cases h) W (hE.below hW)).mono fun e W' ⟨n,t,q,h0,he,hb⟩=>⟨n,t,q,h0,he,hW.trans (hb.mono hW.size)⟩
    clear hp hT;show Calls Tryz.prog _ _ _ fun e w'=>e= .returned (cntV (some 4294967296))∧_
    go_enter Tryz.func157,Tryz.ntmps157;go_wp2_with(first|(go_at_call 102;refine(ct _ (by assumption)).mono ?_;rintro e w1 ⟨rfl,hb1⟩)|(go_at_call 148;refine(cl _ (by assumption)).mono ?_;rintro e w1 ⟨rfl,hb1⟩)|(go_at_call 165;refine(cp _ (by assumption)).mono ?_;rintro e w1 ⟨n,t,q,hn0,rfl,hb1⟩));go_ret2;exact⟨rfl,by assumption⟩
theorem cut_16:∀c:Fin 256,([48,49,50,51,52,53,54,55,56,57,97,98,99,100,101,102,65,66,67,68,69,70]:List UInt8).contains (UInt8.ofNat c.val)=(decide (0≤hexI c.val)&&decide (hexI c.val<16)):=by decide+kernel
theorem trim_16 {s:List UInt8}:Lib.trimS s [48,49,50,51,52,53,54,55,56,57,97,98,99,100,101,102,65,66,67,68,69,70]=[]↔allDig 16 s=true:=by
 rw[trimS_nil];unfold allDig;rw[List.all_eq_true];have key:∀c:UInt8,([48,49,50,51,52,53,54,55,56,57,97,98,99,100,101,102,65,66,67,68,69,70]:List UInt8).contains c=(decide (0≤hexI c.toNat)&&decide (hexI c.toNat<((16:Nat):Int))):=fun c=>by
  have:=cut_16 ⟨c.toNat,c.toNat_lt⟩;simpa using this
 exact⟨fun h c hc=>by rw[←key];exact h c hc,fun h c hc=>by rw[key];exact h c hc⟩
set_option maxRecDepth 100000 in
theorem count_16 (s:List UInt8) (w:World) (hE:Env w) (hs:s.length≤140737488351232):
 Calls Tryz.prog 157 #[.string ⟨s.toArray⟩, .int .i64 16] w fun e w'=>e= .returned (cntV (cntL 16 s))∧Below w.heap.size w w':=by
 have hbw:=Below.refl w.heap.size w
 have ct:=lift_below w (fun W=>trim_any s [48,49,50,51,52,53,54,55,56,57,97,98,99,100,101,102,65,66,67,68,69,70] W hs (by decide) (by decide))
 cases hd:allDig 16 s with
 |false=>
  have hne:Lib.trimS s [48,49,50,51,52,53,54,55,56,57,97,98,99,100,101,102,65,66,67,68,69,70]≠[]:=fun h=>by rw[trim_16.1 h]at hd;cases hd
  have hr:cntL 16 s=none:=cntF_none hd;rw[hr];have he:(Lib.trimS s [48,49,50,51,52,53,54,55,56,57,97,98,99,100,101,102,65,66,67,68,69,70]==[])=false:=by rw[beq_eq_false_iff_ne];exact hne
  have he2:(Lib.trimS s [48,49,50,51,52,53,54,55,56,57,97,98,99,100,101,102,65,66,67,68,69,70]).isEmpty=false:=by cases h:Lib.trimS s [48,49,50,51,52,53,54,55,56,57,97,98,99,100,101,102,65,66,67,68,69,70]with|nil=>exact absurd h hne|cons a l=>rfl
  generalize Lib.trimS s [48,49,50,51,52,53,54,55,56,57,97,98,99,100,101,102,65,66,67,68,69,70]=T at*;clear hd hne hr;go_enter Tryz.func157,Tryz.ntmps157;go_wp2_with(go_at_call 102;refine(ct _ (by assumption)).mono ?_;rintro e w1 ⟨rfl,hb1⟩);go_ret2;exact⟨rfl,by assumption⟩
 |true=>
  rw[trim_16.2 hd]at ct;have cl:=lift_same w (fun W=>trimZ_any s W);have hz:=cnt_zeros (base:=16) (s:=s) (by decide);have hdz:=allDig_zeros hd;have hlz:(s.dropWhile fun c=>c==48).length≤140737488351232:=Nat.le_trans (List.dropWhile_sublist _).length_le hs;rw[←hz];generalize (s.dropWhile fun c=>c==48)=T at*;by_cases hT:T=[]
  ·subst hT
   go_enter Tryz.func157,Tryz.ntmps157;go_wp2_with(first|(go_at_call 102;refine(ct _ (by assumption)).mono ?_;rintro e w1 ⟨rfl,hb1⟩)|(go_at_call 148;refine(cl _ (by assumption)).mono ?_;rintro e w1 ⟨rfl,hb1⟩));go_ret2;exact⟨rfl,by assumption⟩
  ·have he:(T==[])=false:=by rw[beq_eq_false_iff_ne];exact hT
   have he2:T.isEmpty=false:=by cases h:T with|nil=>exact absurd h hT|cons a l=>rfl
   have hcp:=cnt_parse (base:=16) (max:=18446744073709551615) (by decide) (by decide) (s:=T) (acc:=0) hdz;have hcl:cntL 16 T=some (cutP (parseB 16 18446744073709551615 0 T)):=hcp;rw[hcl];clear hcp hcl hz hdz hd
   cases hp:parseB 16 18446744073709551615 0 T with
   |ok v=>
    have hv:=parseB_le 16 18446744073709551615 T 0 v (by decide) hp;have cp:=lift_below w (fun W=>pu16_ok T hT hlz v hp W);have hcut:cutP (.ok v)=min 4294967296 v:=rfl;rw[hcut];clear hp hT hcut;by_cases hg:4294967296<v
    ·rw[Nat.min_eq_left (by omega)]
     go_enter Tryz.func157,Tryz.ntmps157;go_wp2_with(first|(go_at_call 102;refine(ct _ (by assumption)).mono ?_;rintro e w1 ⟨rfl,hb1⟩)|(go_at_call 148;refine(cl _ (by assumption)).mono ?_;rintro e w1 ⟨rfl,hb1⟩)|(go_at_call 165;refine(cp _ (by assumption)).mono ?_;rintro e w1 ⟨rfl,hb1⟩));go_ret2;exact⟨rfl,by assumption⟩
    ·rw[Nat.min_eq_right (by omega)]
     go_enter Tryz.func157,Tryz.ntmps157;go_wp2_with(first|(go_at_call 102;refine(ct _ (by assumption)).mono ?_;rintro e w1 ⟨rfl,hb1⟩)|(go_at_call 148;refine(cl _ (by assumption)).mono ?_;rintro e w1 ⟨rfl,hb1⟩)|(go_at_call 165;refine(cp _ (by assumption)).mono ?_;rintro e w1 ⟨rfl,hb1⟩));go_ret2;exact⟨rfl,by assumption⟩
   |_=>
    have cp:∀W,Below w.heap.size w W→Calls Tryz.prog 165 #[.string ⟨T.toArray⟩, .int .i64 16, .int .i64 64] W fun e w'=>∃(n:Int) (t:TypeId) (q:Value),0≤n∧e= .returned (.tuple #[.int .u64 n, .iface t q])∧Below w.heap.size w w':=fun W hW=>
     (pu16_bad T hT hlz (by rw[hp];intro v h;cases h) W (hE.below hW)).mono fun e W' ⟨n,t,q,h0,he,hb⟩=>⟨n,t,q,h0,he,hW.trans (hb.mono hW.size)⟩
    clear hp hT;show Calls Tryz.prog _ _ _ fun e w'=>e= .returned (cntV (some 4294967296))∧_
    go_enter Tryz.func157,Tryz.ntmps157;go_wp2_with(first|(go_at_call 102;refine(ct _ (by assumption)).mono ?_;rintro e w1 ⟨rfl,hb1⟩)|(go_at_call 148;refine(cl _ (by assumption)).mono ?_;rintro e w1 ⟨rfl,hb1⟩)|(go_at_call 165;refine(cp _ (by assumption)).mono ?_;rintro e w1 ⟨n,t,q,hn0,rfl,hb1⟩));go_ret2;exact⟨rfl,by assumption⟩
theorem isEmpty_ne {l:List UInt8} (h:l≠[]):l.isEmpty=false:=by cases l with|nil=>exact absurd rfl h|cons a l=>rfl
theorem beq_ne {l:List UInt8} (h:l≠[]):(l==[])=false:=by rw[beq_eq_false_iff_ne];exact h
set_option maxRecDepth 100000 in
theorem anum_any (s:List UInt8) (w:World) (hE:Env w) (hs:s.length≤140737488351232):
 Calls Tryz.prog 121 #[.string ⟨s.toArray⟩] w fun e w'=>e= .returned (cntV (numL s))∧Below w.heap.size w w':=by
 have hbw:=Below.refl w.heap.size w
 have ch:=lift_same w (fun W=>hexed_any s W hs)
 have hn:numL s=if hexPre s then cntL 16 (s.drop 2)else if s=[]then none else if (s.getD 0 0).toNat=48 then cntL 8 s else cntL 10 s:=rfl
 cases hh:hexPre s with
 |true=>
  rw[hh]at ch hn;rw[if_pos rfl]at hn;simp only[if_true]at ch;have cc:=lift_env hE (fun W hEW=>count_16 (s.drop 2) W hEW (by simp;omega));rw[hn];generalize cntL 16 (s.drop 2)=r at*;generalize s.drop 2=x at*;clear hh hn;simp only[cntV]at cc⊢;go_enter Tryz.func121,Tryz.ntmps121;go_wp2_with(first|(go_at_call 156;refine(ch _ (by assumption)).mono ?_;rintro e w1 ⟨rfl,hb1⟩)|(go_at_call 157;refine(cc _ (by assumption)).mono ?_;rintro e w1 ⟨rfl,hb1⟩));go_ret2;exact⟨rfl,by assumption⟩
 |false=>
  rw[hh]at ch hn;rw[if_neg (by simp)]at hn;simp only[Bool.false_eq_true,if_false]at ch;by_cases h0:s=[]
  ·rw[if_pos h0]at hn
   rw[hn];subst h0;go_enter Tryz.func121,Tryz.ntmps121;go_wp2_with(first|(go_at_call 156;refine(ch _ (by assumption)).mono ?_;rintro e w1 ⟨rfl,hb1⟩));go_ret2;exact⟨rfl,by assumption⟩
  ·have he:=isEmpty_ne h0
   have he2:=beq_ne h0;have hl:0<s.length:=List.length_pos_iff.2 h0;have g0:=getD_is (s:=s) (k:=0) hl;rw[if_neg h0,g0]at hn;by_cases h48:(s[0]'hl).toNat=48
   ·rw[if_pos h48]at hn
    have cc:=lift_env hE (fun W hEW=>count_8 s W hEW hs);rw[hn];have h480:((s[0]'hl).toNat:Int)=48:=by omega
    generalize cntL 8 s=r at*;clear hh hn h48 h0 g0;simp only[cntV]at cc⊢;go_enter Tryz.func121,Tryz.ntmps121;go_wp2_with(first|(go_at_call 156;refine(ch _ (by assumption)).mono ?_;rintro e w1 ⟨rfl,hb1⟩)|(go_at_call 157;refine(cc _ (by assumption)).mono ?_;rintro e w1 ⟨rfl,hb1⟩));go_ret2;exact⟨rfl,by assumption⟩
   ·rw[if_neg h48]at hn
    have cc:=lift_env hE (fun W hEW=>count_10 s W hEW hs);rw[hn];have h480:¬((s[0]'hl).toNat:Int)=48:=by omega
    generalize cntL 10 s=r at*;clear hh hn h48 h0 g0;simp only[cntV]at cc⊢;go_enter Tryz.func121,Tryz.ntmps121;go_wp2_with(first|(go_at_call 156;refine(ch _ (by assumption)).mono ?_;rintro e w1 ⟨rfl,hb1⟩)|(go_at_call 157;refine(cc _ (by assumption)).mono ?_;rintro e w1 ⟨rfl,hb1⟩));go_ret2;exact⟨rfl,by assumption⟩
set_option maxRecDepth 100000 in
theorem like_any (s:List UInt8) (w:World) (hE:Env w) (hs:s.length≤140737488351232):
 Calls Tryz.prog 120 #[.string ⟨s.toArray⟩] w fun e w'=>e= .returned (.bool (likeL s))∧Below w.heap.size w w':=by
 have hbw:=Below.refl w.heap.size w
 have ch:=lift_same w (fun W=>hexed_any s W hs)
 have hn:likeL s=if hexPre s then (numL s).isSome else !s.isEmpty&&allDig 10 s:=rfl
 cases hh:hexPre s with
 |true=>
  rw[hh]at ch hn;rw[if_pos rfl]at hn;simp only[if_true]at ch;have cc:=lift_env hE (fun W hEW=>anum_any s W hEW hs);rw[hn];generalize numL s=r at*;generalize s.drop 2=x at*;clear hh hn;simp only[cntV]at cc;go_enter Tryz.func120,Tryz.ntmps120;go_wp2_with(first|(go_at_call 156;refine(ch _ (by assumption)).mono ?_;rintro e w1 ⟨rfl,hb1⟩)|(go_at_call 121;refine(cc _ (by assumption)).mono ?_;rintro e w1 ⟨rfl,hb1⟩));go_ret;exact⟨rfl,by assumption⟩
 |false=>
  rw[hh]at ch hn;rw[if_neg (by simp)]at hn;simp only[Bool.false_eq_true,if_false]at ch;rw[hn];by_cases h0:s=[]
  ·subst h0
   clear hn hh;go_enter Tryz.func120,Tryz.ntmps120;go_wp2_with(first|(go_at_call 156;refine(ch _ (by assumption)).mono ?_;rintro e w1 ⟨rfl,hb1⟩));go_ret;exact⟨rfl,by assumption⟩
  ·have he:=isEmpty_ne h0
   have he2:=beq_ne h0;have ct:=lift_below w (fun W=>trim_any s [48,49,50,51,52,53,54,55,56,57] W hs (by decide) (by decide));have hd:(Lib.trimS s [48,49,50,51,52,53,54,55,56,57]).isEmpty=allDig 10 s:=by
    rw[Bool.eq_iff_iff,List.isEmpty_iff];exact trim_10
   have hd2:(Lib.trimS s [48,49,50,51,52,53,54,55,56,57]==[])=allDig 10 s:=by
    rw[Bool.eq_iff_iff,beq_iff_eq];exact trim_10
   have hr:(!s.isEmpty&&allDig 10 s)=allDig 10 s:=by rw[he];rfl
   rw[hr];generalize Lib.trimS s [48,49,50,51,52,53,54,55,56,57]=T at*
   cases hA:allDig 10 s
   all_goals
    rw[hA]at hd hd2;clear hn hh h0 hA hr;go_enter Tryz.func120,Tryz.ntmps120;go_wp2_with(first|(go_at_call 156;refine(ch _ (by assumption)).mono ?_;rintro e w1 ⟨rfl,hb1⟩)|(go_at_call 102;refine(ct _ (by assumption)).mono ?_;rintro e w1 ⟨rfl,hb1⟩));go_ret;exact⟨rfl,by assumption⟩
theorem setRow_same {w:World} {g:Nat} {cs:Array Value} {t:TypeId} {fr:Nat×Nat} (hg:w.heap[g]?=some (.cells cs t fr)):w.setRow g cs=w:=by
 unfold World.setRow;have hlt:g<w.heap.size:=(Array.getElem?_eq_some_iff.1 hg).1;have hv:w.heap[g]= .cells cs t fr:=(Array.getElem?_eq_some_iff.1 hg).2;have e:(w.heap.modify g fun| .cells _ elem frozen=> .cells cs elem frozen|o=>o)=w.heap:=by
  apply Array.ext_getElem?;intro k;rw[Array.getElem?_modify];split
  ·rename_i h
   subst h;rw[Array.getElem?_eq_getElem hlt,hv];rfl
  ·rfl
 exact congrArg (fun h=>({w with heap:=h}:World)) e
theorem wpList_store_same {P:Program} {ops:Array Oper} {rest:List Oper} {o:Oper} {a:Act} {w:World} {Q:Exit→Act→World→Prop} (hgd:o.guard=none) (ty:TypeId) (x y:Operand) (ho:o.op= .store ty x y)
 (g:Nat) (cells:Array Value) (hx:a.eval x= .pointer (some ⟨g,0,none⟩)) (hy:a.eval y= .agg cells)
 (t:TypeId) (hg:w.heap[g]?=some (.cells cells t (0,0))) (hi:(P.info? ty).map (·.size)=some cells.size) (h1:cells.all (·.oneCell')=true)
 (h:wpList P ops Q rest (a.put o.dst undef) w):wpList P ops Q (o::rest) a w:=
 wpList_store_row hgd ty x y ho g cells hx hy t cells hg hi rfl h1 (by rw[setRow_same hg];exact h)
theorem results_row3 {P:Program} {fn:Func} {p q r:Tmp} {ty:TypeId} (h:fn.results= #[.cell p ty, .tmp q, .tmp r]) (tmps:Array Value) (w:World) (g:Nat) (t:TypeId) (cs:Array Value) (fr:Nat×Nat) (d:TypeDesc)
 (hp:tmps.getD p undef= .pointer (some ⟨g,0,none⟩)) (hg:w.heap[g]?=some (.cells cs t fr))
 (hu:P.underlying ty=some d) (hd:(match d with| .struct _| .array _ _=>true|_=>false)=true) (hi:(P.info? ty).map (·.size)=some cs.size):
 (results fn tmps).run P w= .ok (.tuple #[.agg cs,tmps.getD q undef,tmps.getD r undef]) w:=by
 have hp':tmps[p]?.getD undef= .pointer (some ⟨g,0,none⟩):=by simpa using hp
 simp[results,h,hp',asAddr,run_loadVar_row w g t ty cs fr d hg hu hd hi]
end Go.Proofs.YtpkoodnbkffpoaaGreatDoor
