/- The walk of the reader's scheme. -/
import Derived.Test.YtlhcfmcbpljbiaaGreatDoorGUrl1
set_option linter.unusedVariables false
set_option linter.unusedSimpArgs false
set_option maxHeartbeats 16000000
namespace Go.Proofs.YtlhcfmcbpljbiaaGreatDoor
open Go.RowKit
theorem index_cut (c:UInt8):∀s:List UInt8,Lib.indexByte s c=match cutF c s with|(a,some _)=>(a.length:Int)|(_,none)=> -1
 |[]=>rfl
 |x::s=>by
  have ih:=index_cut c s;rw[Lib.indexByte,cutF];by_cases h:x=c
  ·subst h
   simp
  ·have hb:(x==c)=false:=beq_eq_false_iff_ne.2 h
   rw[hb,if_neg h,ih]
   cases hc:cutF c s with
   |mk a o=>
    cases o with
    |none=>simp
    |some b=>
     have h1:¬((a.length:Int)= -1):=by omega
     simp[h1]
abbrev setSch:List UInt8:=[97,98,99,100,101,102,103,104,105,106,107,108,109,110,111,112,113,114,115,116,117,118,119,120,121,122,48,49,50,51,52,53,54,55,56,57,43,45,46]
theorem sch_low:∀k:Fin 256,setSch.contains (lowB (UInt8.ofNat k.val))=schB (UInt8.ofNat k.val):=by decide+kernel
theorem sch_trim (a:List UInt8):(Lib.trimS (lowerL a) setSch==[])=a.all schB:=by
 rw[Bool.eq_iff_iff,beq_iff_eq,trimS_nil,List.all_eq_true];have key:∀c:UInt8,setSch.contains (lowB c)=schB c:=fun c=>by
  have:=sch_low ⟨c.toNat,c.toNat_lt⟩;simpa using this
 constructor
 ·intro h c hc
  rw[←key];exact h _ (List.mem_map.2 ⟨c,hc,rfl⟩)
 ·intro h c hc
  obtain⟨d,hd,rfl⟩:=List.mem_map.1 hc;rw[key];exact h d hd
theorem sch_first:∀k:Fin 256,schB (UInt8.ofNat k.val)=true→(decide (0≤Lib.indexByte [48,49,50,51,52,53,54,55,56,57,43,45,46] (UInt8.ofNat k.val))= !letterB (UInt8.ofNat k.val)):=by decide+kernel
def SchPost (R:Nat) (u base:UrlL) (s:List UInt8) (w:World) (e:Ending) (w':World):Prop:=
 KeptX w.heap.size R w w'∧match schemeU s with
  |none=>e= .returned (.bool false)∧RdAt R u base s w'
  |some (c,r)=>if ownP c=0 then e=panE 6 else e= .returned (.bool true)∧RdAt R {u with scheme:=c} base r w'
set_option maxRecDepth 100000 in
theorem scheme_r (R:Nat) (u base:UrlL) (s:List UInt8) (w:World) (h:RdAt R u base s w) (hs:s.length≤40000000):
 Calls Tryz.prog 128 #[.pointer (some ⟨R,0,none⟩)] w (SchPost R u base s w):=by
 have c10:=h.cell 10
 have hx:(cellsR u base s)[10]?=some (.string ⟨s.toArray⟩):=rfl
 rw[hx]at c10
 have ci:=Tryz.strings_IndexByte ⟨s.toArray⟩ 58 w
 have hic:=index_cut 58 s
 cases hcut:cutF 58 s with
 |mk a o=>
  rw[hcut]at hic
  cases o with
  |none=>
   simp only at hic;have hn:schemeU s=none:=by unfold schemeU;rw[hcut]
   have ci2:Calls Tryz.prog 180 #[.string ⟨s.toArray⟩, .int .u8 58] w fun e w'=>e= .returned (.int .i64 (-1))∧w=w':=ci.mono fun e w' ⟨he,hw⟩=>⟨by rw[he,←hic];rfl,hw.symm⟩
   have HN:=Lib.hid hn;clear ci hic hn hcut;go_enter Tryz.func128,Tryz.ntmps128;go_wp2_with(go_at_call 180;refine ci2.mono ?_;rintro e w1 ⟨rfl,rfl⟩);go_ret;exact⟨KeptX.refl _ _ _,by rw[HN.out];exact⟨rfl,h⟩⟩
  |some b=>
   simp only at hic;obtain⟨f1,f2,_⟩:= @cutF_fst 58 s;rw[hcut]at f1 f2;have hsb:=f2 b rfl;have ci2:Calls Tryz.prog 180 #[.string ⟨s.toArray⟩, .int .u8 58] w fun e w'=>e= .returned (.int .i64 (a.length:Int))∧w=w':=ci.mono fun e w' ⟨he,hw⟩=>⟨by rw[he,←hic];rfl,hw.symm⟩
   have hsc:schemeU s=if a.all schB&&beginsB a then some (lowerL a,b)else none:=by unfold schemeU;rw[hcut]
   clear ci hic hcut f1 f2
   cases a with
   |nil=>
    have HN:Hid (schemeU s=none):=by show _=_;rw[hsc];rfl
    clear hsc hsb;go_enter Tryz.func128,Tryz.ntmps128;go_wp2_with(go_at_call 180;refine ci2.mono ?_;rintro e w1 ⟨rfl,rfl⟩);go_ret;exact⟨KeptX.refl _ _ _,by rw[HN.out];exact⟨rfl,h⟩⟩
   |cons x a=>
    simp only at hsb;have hat:¬((a.length:Int)+1<1):=by omega
    have hlen:s.length=a.length+b.length+2:=by rw[hsb];simp;omega
    have ht:s.take (a.length+1)=x::a:=by rw[hsb];simp
    have hd:s.drop (a.length+2)=b:=by rw[hsb];simp
    have cl:=lift_below w (fun W=>lower_any (x::a) W (by simp;omega));have ctr:=lift_below w (fun W=>trim_any (lowerL (x::a)) setSch W (by simp[lowerL];omega) (by decide) (by decide));have htr:=sch_trim (x::a);have HA:=Lib.hid hsb;clear hsb
    cases hall:(x::a).all schB with
    |false=>
     rw[hall]at htr hsc;have HN:Hid (schemeU s=none):=by show _=_;rw[hsc];rfl
     have htr2:(Lib.trimS (lowerL (x::a)) setSch !=[])=true:=by rw[bne,htr];rfl
     clear hsc hall;generalize Lib.trimS (lowerL (x::a)) setSch=T at*;go_enter Tryz.func128,Tryz.ntmps128;go_wp2_with(go_at_call 180;refine ci2.mono ?_;rintro e w1 ⟨rfl,rfl⟩);go_at_call 182;refine(cl _ (Below.refl _ _)).mono ?_;rintro e w2 ⟨rfl,hb2⟩;go_wp2_with fail;go_at_call 122;refine(ctr _ hb2).mono ?_;rintro e w3 ⟨rfl,hb3⟩;have hR3:=h.below hb3;have hlt:=h.lt;clear cl ctr hb2;go_wp2_with fail;go_ret;exact⟨KeptX.of_below hb3 (by omega),by rw[HN.out];exact⟨rfl,hR3⟩⟩
    |true=>
     rw[hall]at htr hsc;have htr2:(Lib.trimS (lowerL (x::a)) setSch !=[])=false:=by rw[bne,htr];rfl
     have hs0:∀hh,s[0]'hh=x:=fun hh=>by
      have:=congrArg (fun l:List UInt8=>l[0]?) HA.out;simp only[List.getElem?_eq_getElem hh,List.cons_append,List.getElem?_cons_zero,Option.some.injEq]at this;exact this
     have hs00:0<s.length:=by omega
     have hfx:=sch_first ⟨x.toNat,x.toNat_lt⟩;have hall0:schB x=true:=by have:=List.all_eq_true.1 hall x List.mem_cons_self;exact this
     rw[show UInt8.ofNat (⟨x.toNat,x.toNat_lt⟩:Fin 256).val=x by simp]at hfx;have hfx2:=hfx hall0;have cx:=(fun W:World=>(Tryz.strings_IndexByte ⟨#[48,49,50,51,52,53,54,55,56,57,43,45,46]⟩ (x.toNat:Int) W).mono (R':=fun e W'=>e= .returned (.int .i64 (Lib.indexByte [48,49,50,51,52,53,54,55,56,57,43,45,46] x))∧W=W') fun e W' ⟨he,hw⟩=>⟨by rw[he];simp,hw.symm⟩);generalize Lib.indexByte [48,49,50,51,52,53,54,55,56,57,43,45,46] x=Z at*;have HSC:=Lib.hid hsc;clear hsc hall hfx hall0;generalize Lib.trimS (lowerL (x::a)) setSch=T at*
     cases hl:letterB x with
     |false=>
      rw[hl]at hfx2;have hz:0≤Z:=by simpa using hfx2
      have HN:Hid (schemeU s=none):=by show _=_;rw[HSC.out];show(if (true&&letterB x)=true then _ else _)=_;rw[hl];rfl
      clear hfx2 HSC hl;go_enter Tryz.func128,Tryz.ntmps128;go_wp2_with(go_at_call 180;refine ci2.mono ?_;rintro e w1 ⟨rfl,rfl⟩);go_at_call 182;refine(cl _ (Below.refl _ _)).mono ?_;rintro e w2 ⟨rfl,hb2⟩;go_wp2_with fail;go_at_call 122;refine(ctr _ hb2).mono ?_;rintro e w3 ⟨rfl,hb3⟩;have hR3:=h.below hb3;have hlt:=h.lt;have c103:=(hR3.cell 10).trans hx;clear cl ctr hb2 ci2;go_wp2_with fail;go_at_call 180;refine(cx _).mono ?_;rintro e w4 ⟨rfl,rfl⟩;go_wp2_with fail;go_ret;exact⟨KeptX.of_below (by assumption) (by omega),by rw[HN.out];exact⟨rfl,by assumption⟩⟩
     |true=>
      rw[hl]at hfx2;have hz:¬0≤Z:=by simpa using hfx2
      have HN:Hid (schemeU s=some (lowerL (x::a),b)):=by show _=_;rw[HSC.out];show(if (true&&letterB x)=true then _ else _)=_;rw[hl];rfl
      clear hfx2 HSC hl;generalize lowerL (x::a)=c at*;go_enter Tryz.func128,Tryz.ntmps128;go_wp2_with(go_at_call 180;refine ci2.mono ?_;rintro e w1 ⟨rfl,rfl⟩);go_at_call 182;refine(cl _ (Below.refl _ _)).mono ?_;rintro e w2 ⟨rfl,hb2⟩;go_wp2_with fail;go_at_call 122;refine(ctr _ hb2).mono ?_;rintro e w3 ⟨rfl,hb3⟩;have hR3:=h.below hb3;have hlt:=h.lt;have c103:=(hR3.cell 10).trans hx;clear ctr hb2 ci2;go_wp2_with fail;go_at_call 180;refine(cx _).mono ?_;rintro e w4 ⟨rfl,rfl⟩;go_wp2_with fail;have hfree:=hR3.free;have f0:=hfree 0;have f10:=hfree 10;have c03:=hR3.cell 0;have hx0:(cellsR u base s)[0]?=some (.string ⟨u.scheme.toArray⟩):=rfl;rw[hx0]at c03;have hb3d:=hb3.drew;clear hfree;have g1:IntKind.i64.wrap ((a.length:Int)+1+1)=(a.length:Int)+2:=(IntWalk.i64_in _ (by omega)).trans (by omega);have g2:(0:Int)≤(a.length:Int)+2∧(a.length:Int)+2≤(s.length:Int):=by omega
      have g3:((a.length:Int)+2).toNat=a.length+2:=by omega
      go_region_with(go_at_call 182;refine(cl _ (by assumption)).mono ?_;rintro e w5 ⟨rfl,hb5⟩;have hR5:=h.below hb5;have c105:=(hR5.cell 10).trans hx;have c05:=(hR5.cell 0).trans hx0;have f05:=hR5.free 0;have f105:=hR5.free 10)
      all_goals
       clear c103 c05 c105 f05 f105 f0 f10 c03 hb3d hb3 hR3 cl cx g1 g2 g3;have hRa:RdAt R {u with scheme:=c} base s (w5.setCell ⟨R,0,none⟩ (.string ⟨c.toArray⟩)):=hR5.set 0 _ rfl;have hRb:RdAt R u base b (w5.setCell ⟨R,10,none⟩ (.string ⟨b.toArray⟩)):=hR5.set 10 _ rfl;have hKa:=((KeptX.of_below hb5 (Nat.le_of_lt hlt)).next (hR5.kept 0 (.string ⟨c.toArray⟩))).next (hRa.kept 10 (.string ⟨b.toArray⟩));have hRc:RdAt R {u with scheme:=c} base b ((w5.setCell ⟨R,0,none⟩ (.string ⟨c.toArray⟩)).setCell ⟨R,10,none⟩ (.string ⟨b.toArray⟩)):=hRa.set 10 _ rfl;have hKd:=((KeptX.of_below hb5 (Nat.le_of_lt hlt)).next (hR5.kept 10 (.string ⟨b.toArray⟩))).next (hRb.kept 0 (.string ⟨c.toArray⟩));have hRd:RdAt R {u with scheme:=c} base b ((w5.setCell ⟨R,10,none⟩ (.string ⟨b.toArray⟩)).setCell ⟨R,0,none⟩ (.string ⟨c.toArray⟩)):=hRb.set 0 _ rfl;clear hRa hRb
       first
       |generalize (w5.setCell ⟨R,0,none⟩ (.string ⟨c.toArray⟩)).setCell ⟨R,10,none⟩ (.string ⟨b.toArray⟩)=w6 at*
       |generalize (w5.setCell ⟨R,10,none⟩ (.string ⟨b.toArray⟩)).setCell ⟨R,0,none⟩ (.string ⟨c.toArray⟩)=w6 at*
      all_goals
       have c6:w6.cell? ⟨R,0,none⟩=some (.string ⟨c.toArray⟩):=by first|exact hRc.cell 0|exact hRd.cell 0
       have hR6:RdAt R {u with scheme:=c} base b w6:=by first|exact hRc|exact hRd
       have hK6:KeptX w.heap.size R w w6:=by first|exact hKa|exact hKd
       clear hRc hRd hKa hKd hR5 hb5;have HP:Hid (∀e,(ownP c=0→e=panE 6→SchPost R u base s w e w6)∧(ownP c≠0→e= .returned (.bool true)→SchPost R u base s w e w6)):=fun e=>⟨fun h0 he=>⟨hK6,by rw[HN.out];show(if _ then _ else _);rw[if_pos h0];exact he⟩,fun h0 he=>⟨hK6,by rw[HN.out];show(if _ then _ else _);rw[if_neg h0];exact⟨he,hR6⟩⟩⟩
       clear hR6 hK6 HN;go_wp2_with(go_at_call 183;refine(own_p c _).mono ?_;rintro e w7 ⟨rfl,rfl⟩);by_cases h0:ownP c=0
       ·have h0b:(((ownP c:Nat):Int)==0)=true:=by rw[h0];rfl
        have HP0:=Lib.hid ((HP.out (panE 6)).1 h0 rfl);clear HP h0;go_wp2_with fail;go_at_call 131;rw[h0b];refine(wrong_yes 6 _).mono ?_;rintro e w8 ⟨rfl,rfl⟩;exact⟨rfl,HP0.out⟩
       ·have h0b:(((ownP c:Nat):Int)==0)=false:=beq_eq_false_iff_ne.2 (by omega)
        have HP0:=Lib.hid ((HP.out (.returned (.bool true))).2 h0 rfl);clear HP h0;go_wp2_with fail;go_at_call 131;rw[h0b];refine(wrong_no 6 _).mono ?_;rintro e w8 ⟨rfl,rfl⟩;go_wp2_with fail;go_ret;exact HP0.out
end Go.Proofs.YtlhcfmcbpljbiaaGreatDoor
