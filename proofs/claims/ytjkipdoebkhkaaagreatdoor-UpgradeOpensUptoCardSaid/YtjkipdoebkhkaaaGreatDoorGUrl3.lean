/- The walk of the reader's scheme. -/
import Derived.Test.YtjkipdoebkhkaaaGreatDoorGUrl2
import Derived.Test.YtjkipdoebkhkaaaGreatDoorGTrie
set_option linter.unusedVariables false
set_option linter.unusedSimpArgs false
set_option maxHeartbeats 16000000
namespace Go.Proofs.YtjkipdoebkhkaaaGreatDoor
open Go.RowKit
theorem index_cut (c:UInt8):∀s:List UInt8,Lib.indexByte s c=match cutF c s with|(a,some _)=>(a.length:Int)|(_,none)=> -1
 |[]=>rfl
 |x::s=>by
  have ih:=index_cut c s;rw[Lib.indexByte,cutF];by_cases h:x=c
  ·subst h
   simp
  ·have hb:(x==c)=false:=beq_eq_false_iff_ne.2 h
   rw[hb,if_neg h,ih]
   cases hc:cutF c s with
   |mk a o=>
    cases o with
    |none=>simp
    |some b=>
     have h1:¬((a.length:Int)= -1):=by omega
     simp[h1]
abbrev setSch:List UInt8:=[97,98,99,100,101,102,103,104,105,106,107,108,109,110,111,112,113,114,115,116,117,118,119,120,121,122,48,49,50,51,52,53,54,55,56,57,43,45,46]
theorem sch_low:∀k:Fin 256,setSch.contains (lowB (UInt8.ofNat k.val))=schB (UInt8.ofNat k.val):=by decide+kernel
theorem sch_trim (a:List UInt8):(Lib.trimS (lowerL a) setSch==[])=a.all schB:=by
 rw[Bool.eq_iff_iff,beq_iff_eq,trimS_nil,List.all_eq_true];have key:∀c:UInt8,setSch.contains (lowB c)=schB c:=fun c=>by
  have:=sch_low ⟨c.toNat,c.toNat_lt⟩;simpa using this
 constructor
 ·intro h c hc
  rw[←key];exact h _ (List.mem_map.2 ⟨c,hc,rfl⟩)
 ·intro h c hc
  obtain⟨d,hd,rfl⟩:=List.mem_map.1 hc;rw[key];exact h d hd
theorem sch_first:∀k:Fin 256,schB (UInt8.ofNat k.val)=true→(decide (0≤Lib.indexByte [48,49,50,51,52,53,54,55,56,57,43,45,46] (UInt8.ofNat k.val))= !letterB (UInt8.ofNat k.val)):=by decide+kernel
def SchPost (R:Nat) (u base:UrlL) (s:List UInt8) (w:World) (e:Ending) (w':World):Prop:=
 KeptX w.heap.size R w w'∧match schemeU s with
  |none=>e= .returned (.bool false)∧RdAt R u base s w'
  |some (c,r)=>if ownP c=0 then e=panE 6 else e= .returned (.bool true)∧RdAt R {u with scheme:=c} base r w'
set_option maxRecDepth 100000 in
theorem scheme_r (R:Nat) (u base:UrlL) (s:List UInt8) (w:World) (h:RdAt R u base s w) (hs:s.length≤40000000):
 Calls Tryz.prog 129 #[.pointer (some ⟨R,0,none⟩)] w (SchPost R u base s w):=by
 have c10:=h.cell 10
 have hx:(cellsR u base s)[10]?=some (.string ⟨s.toArray⟩):=rfl
 rw[hx]at c10
 have ci:=Tryz.strings_IndexByte ⟨s.toArray⟩ 58 w
 have hic:=index_cut 58 s
 cases hcut:cutF 58 s with
 |mk a o=>
  rw[hcut]at hic
  cases o with
  |none=>
   simp only at hic;have hn:schemeU s=none:=by unfold schemeU;rw[hcut]
   have ci2:Calls Tryz.prog 182 #[.string ⟨s.toArray⟩, .int .u8 58] w fun e w'=>e= .returned (.int .i64 (-1))∧w=w':=ci.mono fun e w' ⟨he,hw⟩=>⟨by rw[he,←hic];rfl,hw.symm⟩
   have HN:=Lib.hid hn;clear ci hic hn hcut;go_enter Tryz.func129,Tryz.ntmps129;go_wp2_with(go_at_call 182;refine ci2.mono ?_;rintro e w1 ⟨rfl,rfl⟩);go_ret;exact⟨KeptX.refl _ _ _,by rw[HN.out];exact⟨rfl,h⟩⟩
  |some b=>
   simp only at hic;obtain⟨f1,f2,_⟩:= @cutF_fst 58 s;rw[hcut]at f1 f2;have hsb:=f2 b rfl;have ci2:Calls Tryz.prog 182 #[.string ⟨s.toArray⟩, .int .u8 58] w fun e w'=>e= .returned (.int .i64 (a.length:Int))∧w=w':=ci.mono fun e w' ⟨he,hw⟩=>⟨by rw[he,←hic];rfl,hw.symm⟩
   have hsc:schemeU s=if a.all schB&&beginsB a then some (lowerL a,b)else none:=by unfold schemeU;rw[hcut]
   clear ci hic hcut f1 f2
   cases a with
   |nil=>
    have HN:Hid (schemeU s=none):=by show _=_;rw[hsc];rfl
    clear hsc hsb;go_enter Tryz.func129,Tryz.ntmps129;go_wp2_with(go_at_call 182;refine ci2.mono ?_;rintro e w1 ⟨rfl,rfl⟩);go_ret;exact⟨KeptX.refl _ _ _,by rw[HN.out];exact⟨rfl,h⟩⟩
   |cons x a=>
    simp only at hsb;have hat:¬((a.length:Int)+1<1):=by omega
    have hlen:s.length=a.length+b.length+2:=by rw[hsb];simp;omega
    have ht:s.take (a.length+1)=x::a:=by rw[hsb];simp
    have hd:s.drop (a.length+2)=b:=by rw[hsb];simp
    have cl:=lift_below w (fun W=>lower_any (x::a) W (by simp;omega));have ctr:=lift_below w (fun W=>trim_any (lowerL (x::a)) setSch W (by simp[lowerL];omega) (by decide) (by decide));have htr:=sch_trim (x::a);have HA:=Lib.hid hsb;clear hsb
    cases hall:(x::a).all schB with
    |false=>
     rw[hall]at htr hsc;have HN:Hid (schemeU s=none):=by show _=_;rw[hsc];rfl
     have htr2:(Lib.trimS (lowerL (x::a)) setSch !=[])=true:=by rw[bne,htr];rfl
     clear hsc hall;generalize Lib.trimS (lowerL (x::a)) setSch=T at*;go_enter Tryz.func129,Tryz.ntmps129;go_wp2_with(go_at_call 182;refine ci2.mono ?_;rintro e w1 ⟨rfl,rfl⟩);go_at_call 102;refine(cl _ (Below.refl _ _)).mono ?_;rintro e w2 ⟨rfl,hb2⟩;go_wp2_with fail;go_at_call 120;refine(ctr _ hb2).mono ?_;rintro e w3 ⟨rfl,hb3⟩;have hR3:=h.below hb3;have hlt:=h.lt;clear cl ctr hb2;go_wp2_with fail;go_ret;exact⟨KeptX.of_below hb3 (by omega),by rw[HN.out];exact⟨rfl,hR3⟩⟩
    |true=>
     rw[hall]at htr hsc;have htr2:(Lib.trimS (lowerL (x::a)) setSch !=[])=false:=by rw[bne,htr];rfl
     have hs0:∀hh,s[0]'hh=x:=fun hh=>by
      have:=congrArg (fun l:List UInt8=>l[0]?) HA.out;simp only[List.getElem?_eq_getElem hh,List.cons_append,List.getElem?_cons_zero,Option.some.injEq]at this;exact this
     have hs00:0<s.length:=by omega
     have hfx:=sch_first ⟨x.toNat,x.toNat_lt⟩;have hall0:schB x=true:=by have:=List.all_eq_true.1 hall x List.mem_cons_self;exact this
     rw[show UInt8.ofNat (⟨x.toNat,x.toNat_lt⟩:Fin 256).val=x by simp]at hfx;have hfx2:=hfx hall0;have cx:=(fun W:World=>(Tryz.strings_IndexByte ⟨#[48,49,50,51,52,53,54,55,56,57,43,45,46]⟩ (x.toNat:Int) W).mono (R':=fun e W'=>e= .returned (.int .i64 (Lib.indexByte [48,49,50,51,52,53,54,55,56,57,43,45,46] x))∧W=W') fun e W' ⟨he,hw⟩=>⟨by rw[he];simp,hw.symm⟩);generalize Lib.indexByte [48,49,50,51,52,53,54,55,56,57,43,45,46] x=Z at*;have HSC:=Lib.hid hsc;clear hsc hall hfx hall0;generalize Lib.trimS (lowerL (x::a)) setSch=T at*
     cases hl:letterB x with
     |false=>
      rw[hl]at hfx2;have hz:0≤Z:=by simpa using hfx2
      have HN:Hid (schemeU s=none):=by show _=_;rw[HSC.out];show(if (true&&letterB x)=true then _ else _)=_;rw[hl];rfl
      clear hfx2 HSC hl;go_enter Tryz.func129,Tryz.ntmps129;go_wp2_with(go_at_call 182;refine ci2.mono ?_;rintro e w1 ⟨rfl,rfl⟩);go_at_call 102;refine(cl _ (Below.refl _ _)).mono ?_;rintro e w2 ⟨rfl,hb2⟩;go_wp2_with fail;go_at_call 120;refine(ctr _ hb2).mono ?_;rintro e w3 ⟨rfl,hb3⟩;have hR3:=h.below hb3;have hlt:=h.lt;have c103:=(hR3.cell 10).trans hx;clear cl ctr hb2 ci2;go_wp2_with fail;go_at_call 182;refine(cx _).mono ?_;rintro e w4 ⟨rfl,rfl⟩;go_wp2_with fail;go_ret;exact⟨KeptX.of_below (by assumption) (by omega),by rw[HN.out];exact⟨rfl,by assumption⟩⟩
     |true=>
      rw[hl]at hfx2;have hz:¬0≤Z:=by simpa using hfx2
      have HN:Hid (schemeU s=some (lowerL (x::a),b)):=by show _=_;rw[HSC.out];show(if (true&&letterB x)=true then _ else _)=_;rw[hl];rfl
      clear hfx2 HSC hl;generalize lowerL (x::a)=c at*;go_enter Tryz.func129,Tryz.ntmps129;go_wp2_with(go_at_call 182;refine ci2.mono ?_;rintro e w1 ⟨rfl,rfl⟩);go_at_call 102;refine(cl _ (Below.refl _ _)).mono ?_;rintro e w2 ⟨rfl,hb2⟩;go_wp2_with fail;go_at_call 120;refine(ctr _ hb2).mono ?_;rintro e w3 ⟨rfl,hb3⟩;have hR3:=h.below hb3;have hlt:=h.lt;have c103:=(hR3.cell 10).trans hx;clear ctr hb2 ci2;go_wp2_with fail;go_at_call 182;refine(cx _).mono ?_;rintro e w4 ⟨rfl,rfl⟩;go_wp2_with fail;have hfree:=hR3.free;have f0:=hfree 0;have f10:=hfree 10;have c03:=hR3.cell 0;have hx0:(cellsR u base s)[0]?=some (.string ⟨u.scheme.toArray⟩):=rfl;rw[hx0]at c03;have hb3d:=hb3.drew;clear hfree;have g1:IntKind.i64.wrap ((a.length:Int)+1+1)=(a.length:Int)+2:=(IntWalk.i64_in _ (by omega)).trans (by omega);have g2:(0:Int)≤(a.length:Int)+2∧(a.length:Int)+2≤(s.length:Int):=by omega
      have g3:((a.length:Int)+2).toNat=a.length+2:=by omega
      go_region_with(go_at_call 102;refine(cl _ (by assumption)).mono ?_;rintro e w5 ⟨rfl,hb5⟩;have hR5:=h.below hb5;have c105:=(hR5.cell 10).trans hx;have c05:=(hR5.cell 0).trans hx0;have f05:=hR5.free 0;have f105:=hR5.free 10)
      all_goals
       clear c103 c05 c105 f05 f105 f0 f10 c03 hb3d hb3 hR3 cl cx g1 g2 g3;have hRa:RdAt R {u with scheme:=c} base s (w5.setCell ⟨R,0,none⟩ (.string ⟨c.toArray⟩)):=hR5.set 0 _ rfl;have hRb:RdAt R u base b (w5.setCell ⟨R,10,none⟩ (.string ⟨b.toArray⟩)):=hR5.set 10 _ rfl;have hKa:=((KeptX.of_below hb5 (Nat.le_of_lt hlt)).next (hR5.kept 0 (.string ⟨c.toArray⟩))).next (hRa.kept 10 (.string ⟨b.toArray⟩));have hRc:RdAt R {u with scheme:=c} base b ((w5.setCell ⟨R,0,none⟩ (.string ⟨c.toArray⟩)).setCell ⟨R,10,none⟩ (.string ⟨b.toArray⟩)):=hRa.set 10 _ rfl;have hKd:=((KeptX.of_below hb5 (Nat.le_of_lt hlt)).next (hR5.kept 10 (.string ⟨b.toArray⟩))).next (hRb.kept 0 (.string ⟨c.toArray⟩));have hRd:RdAt R {u with scheme:=c} base b ((w5.setCell ⟨R,10,none⟩ (.string ⟨b.toArray⟩)).setCell ⟨R,0,none⟩ (.string ⟨c.toArray⟩)):=hRb.set 0 _ rfl;clear hRa hRb
       first
       |generalize (w5.setCell ⟨R,0,none⟩ (.string ⟨c.toArray⟩)).setCell ⟨R,10,none⟩ (.string ⟨b.toArray⟩)=w6 at*
       |generalize (w5.setCell ⟨R,10,none⟩ (.string ⟨b.toArray⟩)).setCell ⟨R,0,none⟩ (.string ⟨c.toArray⟩)=w6 at*
      all_goals
       have c6:w6.cell? ⟨R,0,none⟩=some (.string ⟨c.toArray⟩):=by first|exact hRc.cell 0|exact hRd.cell 0
       have hR6:RdAt R {u with scheme:=c} base b w6:=by first|exact hRc|exact hRd
       have hK6:KeptX w.heap.size R w w6:=by first|exact hKa|exact hKd
       clear hRc hRd hKa hKd hR5 hb5;have HP:Hid (∀e,(ownP c=0→e=panE 6→SchPost R u base s w e w6)∧(ownP c≠0→e= .returned (.bool true)→SchPost R u base s w e w6)):=fun e=>⟨fun h0 he=>⟨hK6,by rw[HN.out];show(if _ then _ else _);rw[if_pos h0];exact he⟩,fun h0 he=>⟨hK6,by rw[HN.out];show(if _ then _ else _);rw[if_neg h0];exact⟨he,hR6⟩⟩⟩
       clear hR6 hK6 HN;go_wp2_with(go_at_call 184;refine(own_p c _).mono ?_;rintro e w7 ⟨rfl,rfl⟩);by_cases h0:ownP c=0
       ·have h0b:(((ownP c:Nat):Int)==0)=true:=by rw[h0];rfl
        have HP0:=Lib.hid ((HP.out (panE 6)).1 h0 rfl);clear HP h0;go_wp2_with fail;go_at_call 131;rw[h0b];refine(wrong_yes 6 _).mono ?_;rintro e w8 ⟨rfl,rfl⟩;exact⟨rfl,HP0.out⟩
       ·have h0b:(((ownP c:Nat):Int)==0)=false:=beq_eq_false_iff_ne.2 (by omega)
        have HP0:=Lib.hid ((HP.out (.returned (.bool true))).2 h0 rfl);clear HP h0;go_wp2_with fail;go_at_call 131;rw[h0b];refine(wrong_no 6 _).mono ?_;rintro e w8 ⟨rfl,rfl⟩;go_wp2_with fail;go_ret;exact HP0.out
theorem e_pstr:Elem1 Tryz.prog 59 9 (.string ⟨#[]⟩) 16:=⟨Tryz.underlying59,info_parts (by kernel_rfl),rfl⟩
def Piece (W1:World) (row:Option Nat) (v:Value) (L:List (List UInt8)) (w:World):Prop:=
 W1.grownBy w row∧((v= .slice none 0 0∧L=[])∨∃g o cap,v= .slice (some ⟨g,o,none⟩) L.length cap∧(some g=row∨W1.heap.size≤g)∧g<w.heap.size∧L.length≤cap∧
  (∀j u,(strs L)[j]?=some u→w.cell? ⟨g,o+j,none⟩=some u)∧∀j,j<cap→(w.cell? ⟨g,o+j,none⟩).isSome=true∧w.frozen? ⟨g,o+j,none⟩=false)
theorem Piece.below {W1:World} {row:Option Nat} {v:Value} {L:List (List UInt8)} {w w':World} (h:Piece W1 row v L w) (hb:Below w.heap.size w w'):Piece W1 row v L w':=by
 obtain⟨h1,h2⟩:=h;refine⟨grown_below h1 hb, ?_⟩;rcases h2 with h2|⟨g,o,cap,e,hg,hl,hn,hc,hz⟩
 ·exact .inl h2
 ·have he:=hb.block g hl
  refine .inr ⟨g,o,cap,e,hg,by have:=hb.size;omega,hn,fun j u hj=>(hb.cell (p:=⟨g,o+j,none⟩) hl).trans (hc j u hj),fun j hj=> ?_⟩;have:=hz j hj;refine⟨by rw[hb.cell (p:=⟨g,o+j,none⟩) hl];exact this.1, ?_⟩;rw[←this.2];simp only[World.frozen?,he]
theorem Piece.pop {W1:World} {row:Option Nat} {L:List (List UInt8)} {w:World} {a:Option Addr} {n cap:Nat} (h:Piece W1 row (.slice a n cap) L w):Piece W1 row (.slice a (n-1) cap) L.dropLast w∧n=L.length∧L.length≤cap:=by
 obtain⟨h1,h2⟩:=h;rcases h2 with ⟨e,rfl⟩|⟨g,o,c,e,hg,hl,hn,hc,hz⟩
 ·simp only[Value.slice.injEq]at e
  obtain⟨rfl,rfl,rfl⟩:=e;exact⟨⟨h1, .inl ⟨rfl,rfl⟩⟩,rfl,Nat.le_refl _⟩
 ·simp only[Value.slice.injEq]at e
  obtain⟨rfl,rfl,rfl⟩:=e;refine⟨⟨h1, .inr ⟨g,o,cap,by rw[List.length_dropLast],hg,hl,by rw[List.length_dropLast];omega,fun j u hj=>hc j u ?_,hz⟩⟩,rfl,hn⟩;have hjl:j<L.dropLast.length:=by
   have:=(List.getElem?_eq_some_iff.1 hj).1;simpa using this
  rw[strs,List.getElem?_map]at hj⊢;rw[List.length_dropLast]at hjl;rw[List.dropLast_eq_take,List.getElem?_take_of_lt hjl]at hj;exact hj
theorem piece_own {W1:World} {row:Option Nat} {B n:Nat} {v:Value} {L:List (List UInt8)} {w:World} (hg:W1.grownBy w row) (ho:w.ownsRow B 9 1 v n (strs L)) (hB:W1.heap.size≤B):Piece W1 row v L w:=by
 have hl:n=L.length:=by have:=own_len ho;simp at this;omega
 subst hl;refine⟨hg, ?_⟩;rcases ho.2 with ⟨rfl,h0⟩|⟨g,cap,cur,rfl,hb,hh,hn,hm,hsz,htake⟩
 ·exact .inl ⟨rfl,List.length_eq_zero_iff.1 h0⟩
 ·refine .inr ⟨g,0,cap,rfl, .inr (by omega),(Array.getElem?_eq_some_iff.1 hh).1,hn,fun j u hj=> ?_,fun j hj=>⟨?_,Lib.frozen_of_heap hh _⟩⟩
  ·have:=ho.cells (g:=g) rfl j u hj
   rw[Addr.add_lit]at this;exact this
  ·rw[Nat.zero_add,Lib.cell_of_heap hh,Array.getElem?_eq_getElem (by omega)];rfl
theorem grown_setCells_row (g:Nat) (vs:List Value) (w:World) (o:Nat) {W1:World} {row:Option Nat} (h:W1.grownBy w row) (hg:some g=row∨W1.heap.size≤g):W1.grownBy (w.setCells g o vs) row:=by
 induction vs generalizing w o with
 |nil=>exact h
 |cons v vs ih=>
  refine ih (w.setCell ⟨g,o,none⟩ v) (o+1) ⟨h.os,h.tape,h.output,by rw[World.size_setCell];exact h.size,fun k hk hne=> ?_⟩;refine(Below.heap_setCell _ _ _ _ ?_).trans (h.block k hk hne);show k≠g;rintro rfl;rcases hg with hg|hg
  ·exact hne hg
  ·omega
theorem run_append_piece (W1:World) (row:Option Nat) (w0:World) (ty e':TypeId) (v:Value) (L:List (List UInt8)) (p:List UInt8) (hP:Piece W1 row v L w0) (hlen:L.length≤10000000):
 ∃v' w',(Builtin.append_ #[59,59] ty #[v, .slice (some ⟨w0.heap.size,0,none⟩) 1 1]).run Tryz.prog (w0.alloc (.cells #[.string ⟨p.toArray⟩] e'))= .ok v' w'∧Piece W1 row v' (L++[p]) w':=by
 obtain⟨i,hi,hz,hsize,hby⟩:=e_pstr.hi
 have hP1:=hP.below (below_alloc w0 (.cells #[.string ⟨p.toArray⟩] e'))
 have hnews:∀j u,([Value.string ⟨p.toArray⟩]:List Value)[j]?=some u→(w0.alloc (.cells #[.string ⟨p.toArray⟩] e')).cell? ((⟨w0.heap.size,0,none⟩:Addr).add j)=some u:=fun j u hj=>by
  rw[Addr.add_lit,Nat.zero_add,World.cell?_alloc_at _ _ _ j rfl];simpa using hj
 have h1:∀u∈([Value.string ⟨p.toArray⟩]:List Value),u.oneCell'=true:=fun u hu=>by rw[List.mem_singleton]at hu;rw[hu];rfl
 have hsn:strs (L++[p])=strs L++[.string ⟨p.toArray⟩]:=by simp[strs]
 obtain⟨g1,g2⟩:=hP1
 have hsz:=g1.size
 generalize w0.alloc (.cells #[.string ⟨p.toArray⟩] e')=w at*
 rcases g2 with ⟨rfl,rfl⟩|⟨g,o,cap,rfl,hg,hl,hn,hc,hzz⟩
 ·obtain⟨g,cap,w',hr,ho,hgr,_,_⟩:=run_append_lies (P:=Tryz.prog) w 59 ty w.heap.size 9 i (.string ⟨#[]⟩) 1 16 Tryz.underlying59 hi hz hsize hby rfl (by omega) (.slice none 0 0) 0 [] (World.ownsRow_nil _ _ _ _) ⟨w0.heap.size,0,none⟩ 1 1 [.string ⟨p.toArray⟩] rfl hnews h1 (by omega) (by unfold maxLen;omega) (by omega) (Nat.le_refl _) _ rfl
  exact⟨_,w',hr,piece_own (L:=[p]) (grown_below g1 (below_of_grown hgr (Nat.le_refl _) (fun k hk=>by cases hk))) ho hsz⟩
 ·by_cases hroom:L.length+1≤cap
  ·have hk:=hzz L.length (by omega)
   have hr:=run_append_room_cells (P:=Tryz.prog) w 59 ty 9 i Tryz.underlying59 hi g o L.length cap ⟨w0.heap.size,0,none⟩ 1 1 [.string ⟨p.toArray⟩] (by rw[hsize];rfl) hnews h1 hroom
    (fun j hj=>by(rw[hsize];simp only[List.length_singleton]at hj;have:j=0:=(by omega);subst this;simpa using hk.1))
    (fun j hj=>by(rw[hsize];simp only[List.length_singleton]at hj;have:j=0:=(by omega);subst this;simpa using hk.2))
   rw[hsize,Nat.mul_one]at hr;refine⟨_,_,hr,grown_setCells_row g _ w _ g1 hg, .inr ⟨g,o,cap,by rw[List.length_append];rfl,hg, ?_,by rw[List.length_append];exact hroom,fun j u hj=> ?_,fun j hj=> ?_⟩⟩
   ·show g<(w.setCell ⟨g,o+L.length,none⟩ _).heap.size
    rw[World.size_setCell];exact hl
   ·show(w.setCell ⟨g,o+L.length,none⟩ (.string ⟨p.toArray⟩)).cell? ⟨g,o+j,none⟩=some u
    rw[hsn]at hj;by_cases hjl:j<L.length
    ·rw[List.getElem?_append_left (by simpa using hjl)]at hj
     rw[World.cell?_setCell_other _ _ _ _ (by first|(simp;omega)|simp)];exact hc j u hj
    ·have hjj:j=L.length:=by
      have:=(List.getElem?_eq_some_iff.1 hj).1;simp at this;omega
     subst hjj;rw[List.getElem?_append_right (by simp)]at hj;simp at hj;subst hj;obtain⟨x,hx⟩:=Option.isSome_iff_exists.1 hk.1;exact World.cell?_setCell_same w ⟨g,o+L.length,none⟩ _ hx
   ·show((w.setCell ⟨g,o+L.length,none⟩ (.string ⟨p.toArray⟩)).cell? ⟨g,o+j,none⟩).isSome=true∧(w.setCell ⟨g,o+L.length,none⟩ (.string ⟨p.toArray⟩)).frozen? ⟨g,o+j,none⟩=false
    have hj2:=hzz j hj;refine⟨?_,by rw[World.frozen?_setCell];exact hj2.2⟩;by_cases e:j=L.length
    ·subst e
     obtain⟨x,hx⟩:=Option.isSome_iff_exists.1 hk.1;rw[World.cell?_setCell_same w ⟨g,o+L.length,none⟩ _ hx];rfl
    ·rw[World.cell?_setCell_other _ _ _ _ (by first|(simp;omega)|simp)]
     exact hj2.1
  ·obtain⟨v',w',hr,ho,hgr⟩:=run_append_arg_grows (P:=Tryz.prog) w 59 ty 9 i (.string ⟨#[]⟩) 1 16 Tryz.underlying59 hi hz hsize hby rfl (by omega) ⟨g,o,none⟩ L.length cap (strs L) (by simp) (fun j u hj=>by rw[Addr.add_lit];exact hc j u hj) ⟨w0.heap.size,0,none⟩ 1 1 [.string ⟨p.toArray⟩] rfl hnews (by omega) (by unfold maxLen;omega) (by omega)
   rw[←hsn]at ho;exact⟨v',w',hr,piece_own (grown_below g1 (below_of_grown hgr (Nat.le_refl _) (fun k hk=>by cases hk))) ho hsz⟩
theorem wpList_append_piece (W1:World) (row:Option Nat) (w0:World) {ops:Array Oper} {rest:List Oper} {op:Oper} {a:Act} {Q:Exit→Act→World→Prop} (hgd:op.guard=none) (s x:Operand)
 (ho:op.op= .call {callee:= .builtin .append,args:= #[s,x],argTypes:= #[59,59]}) (e':TypeId) (v:Value) (L:List (List UInt8)) (p:List UInt8) (hs:a.eval s=v) (hP:Piece W1 row v L w0)
 (hx:a.eval x= .slice (some ⟨w0.heap.size,0,none⟩) 1 1) (hlen:L.length≤10000000) (h:∀v' w',Piece W1 row v' (L++[p]) w'→wpList Tryz.prog ops Q rest (a.put op.dst v') w'):
 wpList Tryz.prog ops Q (op::rest) a (w0.alloc (.cells #[.string ⟨p.toArray⟩] e')):=by
 refine wpList_plain hgd fun K hK=> ?_
 obtain⟨v',w',hr,hp⟩:=run_append_piece W1 row w0 op.type e' v L p hP hlen
 unfold Oper.wp execOp
 simp only[ho,resolve,invoke,builtin,Sem.run_bind,Sem.run_pure,Result.andThen_ok,List.map_toArray,List.map_cons,List.map_nil,hs,hx,hr]
 exact hK _ _ (h v' w' hp)
theorem replaceK_flat:∀(n:Nat) (s:List UInt8),s.length≤n→Lib.replaceK [92] [47] (s.count 92) s=flatS s
 |n,s,hn=>by
  have hf:= @cutF_fst 92 s;have hi:=(Lib.index_one s 92).trans (index_cut 92 s)
  cases hc:cutF 92 s with
  |mk a o=>
   rw[hc]at hf hi
   cases o with
   |none=>
    have h92:(92:UInt8)∉s:=fun h=>by
     have e:=hf.2.2 rfl;simp only at e;have:=hf.1 92 (by simp only;rw[e];exact h);exact this.2 rfl
    rw[List.count_eq_zero.2 h92,flatS_id h92];rfl
   |some b=>
    have e:=hf.2.1 b rfl;simp only at e hi;have ha:(92:UInt8)∉a:=fun h=>(hf.1 92 h).2 rfl
    have hl:=congrArg List.length e;simp only[List.length_append,List.length_cons]at hl
    match n,hn with
    |0,hn=>omega
    |n+1,hn=>
     have hcnt:s.count 92=b.count 92+1:=by rw[e,List.count_append,List.count_eq_zero.2 ha];simp
     rw[hcnt,Lib.replaceK_hit [92] [47] (b.count 92) s a.length hi];have ht:s.take a.length=a:=by rw[e];simp
     have hd:s.drop (a.length+([92]:List UInt8).length)=b:=by rw[e];simp
     rw[ht,hd,replaceK_flat n b (by omega),e];unfold flatS;rw[List.map_append];have:=flatS_id ha;unfold flatS at this;rw[this];simp
theorem replace_flat (s:List UInt8):Lib.replaceAll s [92] [47]=flatS s:=by
 show(if ([92]:List UInt8)==[47]then s else Lib.replaceK [92] [47] (Lib.replaceNum s [92] (-1)) s)=flatS s;rw[if_neg (by decide)];have:Lib.replaceNum s [92] (-1)=s.count 92:=by unfold Lib.replaceNum;rw[if_pos (.inl (by decide)),Lib.count_one]
 rw[this];exact replaceK_flat _ s (Nat.le_refl _)
theorem pathF_ne:∀(r l:List (List UInt8)),r≠[]→pathF l r≠[]
 |[],l,h=>absurd rfl h
 |x::r,l,_=>by
  by_cases h0:r=[]
  ·subst h0
   rw[pathF];split
   ·simp[pathF]
   ·split<;>simp[pathF]
  ·rw[pathF]
   split
   ·exact pathF_ne r _ h0
   ·split
    ·exact pathF_ne r _ h0
    ·exact pathF_ne r _ h0
theorem jo_path (b:List UInt8):(ByteArray.mk #[47])++(ByteArray.mk b.toArray)=ByteArray.mk (47::b).toArray:=ba_append [47] b
attribute [local go_sem] jo_path
theorem Piece.form {W1:World} {row:Option Nat} {v:Value} {L:List (List UInt8)} {w:World} (h:Piece W1 row v L w):∃a cap,v= .slice a L.length cap∧L.length≤cap:=by
 rcases h.2 with ⟨rfl,rfl⟩|⟨g,o,cap,rfl,_,_,hn,_⟩
 ·exact⟨none,0,rfl,Nat.le_refl _⟩
 ·exact⟨_,cap,rfl,hn⟩
def RestPost (lo R:Nat) (u base:UrlL) (s:List UInt8) (L:List (List UInt8)) (w:World) (e:Ending) (w':World):Prop:=
 e= .returned (.tuple #[])∧KeptX lo R w w'∧RdAt R {u with path:=pathL L s} base s w'
set_option maxRecDepth 100000 in
theorem rest_r (lo R:Nat) (u base:UrlL) (s:List UInt8) (v:Value) (L:List (List UInt8)) (row:Option Nat) (w:World) (h:RdAt R u base s w) (hE:EnvR R w) (hs:s.length≤100000) (hRlo:R<lo) (hlo:lo≤w.heap.size)
 (hrow:∀g,row=some g→lo≤g∧g<w.heap.size) (hv:∀W,Below w.heap.size w W→Piece W row v L W) (hL:L.length≤50000) (hbl:(backL 47 L).length≤1000000):
 Calls Tryz.prog 183 #[.pointer (some ⟨R,0,none⟩),v] w (RestPost lo R u base s L w):=by
 have c10:w.cell? ⟨R,10,none⟩=some (.string ⟨s.toArray⟩):=h.cell 10
 have cr:Calls Tryz.prog 238 #[.string ⟨s.toArray⟩, .string ⟨#[92]⟩, .string ⟨#[47]⟩] w fun e w'=>e= .returned (.string ⟨(flatS s).toArray⟩)∧Below w.heap.size w w':=by
  have:=Tryz.strings_ReplaceAll_shaped ⟨s.toArray⟩ ⟨#[92]⟩ ⟨#[47]⟩ w hE.env.t.env.shaped (by show s.length<_;omega) (by decide) (by show s.length+Lib.count s [92]*1≤_;rw[Lib.count_one];have:=List.count_le_length (a:=(92:UInt8)) (l:=s);omega);have e:Lib.replaceAll (ByteArray.mk s.toArray).data.toList (ByteArray.mk #[92]).data.toList (ByteArray.mk #[47]).data.toList=flatS s:=replace_flat s;rw[e]at this;exact this
 have hfl:(flatS s).length=s.length:=List.length_map ..
 have hmf:∀(fn:Fn) (first cap:Array Value) (w:World),(Instr.makeFunc fn first cap).run Tryz.prog w= .ok (.func fn first cap) w:=fun _ _ _ _=>rfl
 have hPn:(slashP s).length≤s.length+1:=by have:=(partsL_le 47 (flatS s)).2;rw[hfl]at this;exact this
 have hPs:∀p∈slashP s,p.length≤s.length:=fun p hp=>by have:=(partsL_le 47 (flatS s)).1 p hp;rw[hfl]at this;exact this
 have hne:=slashP_ne s
 have hdef:partsL 47 (flatS s)=slashP s:=rfl
 have hjl:=pathF_len (slashP s) L
 have hsum:=sum_parts 47 (flatS s)
 rw[hdef,hfl]at hsum
 go_enter Tryz.func183,Tryz.ntmps183
 go_wp2_with fail
 go_at_call 238
 refine cr.mono ?_
 rintro e w1 ⟨rfl,hb1⟩
 have cs:=split_any (flatS s) 47 w1 (shaped_below hE.env.t.env.shaped hb1) (by rw[hfl];omega)
 rw[hdef]at cs
 clear cr c10
 go_wp2_with fail
 go_at_call 137
 refine cs.mono ?_
 rintro e w2 ⟨rfl,hw2⟩
 have hb2:Below w.heap.size w w2:=by rw[hw2];exact hb1.alloc hb1.size _
 have hR2:=h.below hb2
 have hrow2:w2.heap[w1.heap.size]?=some (.cells (strs (slashP s)).toArray 9 (0,0)):=by rw[hw2];exact heap_alloc_new w1 _
 have hs2:w2.heap.size=w1.heap.size+1:=by rw[hw2];exact World.size_alloc _ _
 have hP2:Piece w2 row v L w2:=hv w2 hb2
 have hrne:row≠some w1.heap.size:=fun e=>by have:=hrow _ e;have:=hb1.size;omega
 have hrR:row≠some R:=fun e=>by have:=hrow _ e;omega
 have hw1z:=hb1.size
 clear cs hw2 hv hb1 h
 generalize hPP:slashP s=P at*
 go_wp2_with fail
 go_loopw [1,16] (fun a1 a16 wr=>∃(k:Nat) (M:List (List UInt8)),k≤P.length∧a16= .int .i64 k∧M.length≤L.length+k∧Piece w2 row a1 M wr∧Hid (pathF L P=pathF M (P.drop k))) (fun _ i _=>P.length-(intOf i).toNat)
 case atStart=>exact⟨0,L,Nat.zero_le _,rfl,by omega,hP2,rfl⟩
 case round=>
  obtain⟨k,M,hk,rfl,hML,hPc,HP⟩:=hrel;obtain⟨V,rfl⟩:∃V,V=wr:=⟨wr,rfl⟩;clear hP2;by_cases hlt:k<P.length
  ·have hki:(k:Int)<(P.length:Int):=by omega
   have hg:=hPc.1;have ck:V.cell? ⟨w1.heap.size,k,none⟩=some (.string ⟨(P[k]).toArray⟩):=by
    have e:V.heap[w1.heap.size]?=w2.heap[w1.heap.size]?:=hg.block _ (by omega) (fun e=>hrne e.symm);rw[Lib.cell_of_heap (e.trans hrow2),List.getElem?_toArray];exact strs_get hlt
   have hxl:=hPs P[k] (List.getElem_mem _);have hdr:P.drop k=P[k]::P.drop (k+1):=List.drop_eq_getElem_cons hlt;have hlast:(P.drop (k+1)=[])↔k+1=P.length:=by rw[List.drop_eq_nil_iff];omega
   have hPF:=HP.out;rw[hdr,pathF]at hPF;generalize hx:P[k]=x at*;clear hg HP hdr;have cn:=fun W hc=>new_rep dotsL 4 (.inl rfl) rfl ⟨V.heap.size,0,none⟩ W hc
   have ce:=fun W=>encode_p 4 (by omega) (by omega) x W (by omega)
   obtain⟨a,cap,rfl,hcap⟩:=hPc.form;clear cn;go_wp2_with fail;go_at_call 126;refine(new_rep dotsL 4 (.inl rfl) rfl ⟨V.heap.size,0,none⟩ _ (fun j u' hj=> ?_)).mono ?_
   ·rw[Addr.add_lit,Nat.zero_add,World.cell?_alloc_at _ _ _ j rfl,List.getElem?_toArray]
    exact hj
   intro e w4 hnp;obtain⟨Pn,rfl,hb4,cu⟩:=dots_use hnp x (by omega);clear hnp;go_wp2_with fail;go_at_call 127;refine cu.mono ?_;rintro e w5 ⟨rfl,hb5⟩;have hbV:=(below_alloc V (.cells #[.string ⟨#[37,50,101]⟩, .string ⟨#[46]⟩, .string ⟨#[37,50,69]⟩, .string ⟨#[46]⟩] 9)).trans (hb5.mono (by rw[World.size_alloc];omega));have hP5:=hPc.below hbV;clear cu hb4 hb5 hbV hPc ck;by_cases h1:bareP x=[46]
   ·rw[if_pos h1]at hPF
    rw[h1];clear ce;by_cases hkl:k+1=P.length
    ·rw[if_pos (hlast.2 hkl)]at hPF
     have HP:=Lib.hid hPF;have hkb:((k:Int)==(P.length:Int)-1)=true:=beq_iff_eq.2 (by omega);clear hPF h1;go_wp2_with(at_builtin;refine wpList_append_piece w2 row _ rfl _ _ rfl _ (.slice a M.length cap) M [] rfl hP5 rfl (by omega) ?_;intro v6 w6 hP6);go_roundw
     case rel=>exact⟨k+1,M++[[]],by omega,by go_num,by rw[List.length_append,List.length_singleton];omega,hP6,HP⟩
     case measure=>simp[intOf];omega
    ·rw[if_neg (fun e=>hkl (hlast.1 e))]at hPF
     have HP:=Lib.hid hPF;have hkb:((k:Int)==(P.length:Int)-1)=false:=beq_eq_false_iff_ne.2 (by omega);clear hPF h1;go_wp2_with fail;go_roundw
     case rel=>exact⟨k+1,M,by omega,by go_num,by omega,hP5,HP⟩
     case measure=>simp[intOf];omega
   ·by_cases h2:bareP x=[46,46]
    ·rw[if_neg h1,if_pos h2]at hPF
     rw[h2];clear ce;by_cases hM:M=[]
     ·subst hM
      by_cases hkl:k+1=P.length
      ·rw[if_pos (hlast.2 hkl)]at hPF
       have HP:=Lib.hid hPF;have hkb:((k:Int)==(P.length:Int)-1)=true:=beq_iff_eq.2 (by omega);clear hPF h1 h2;go_wp2_with(at_builtin;refine wpList_append_piece w2 row _ rfl _ _ rfl _ (.slice a 0 cap) [] [] rfl hP5 rfl (by simp) ?_;intro v6 w6 hP6);go_roundw
       case rel=>exact⟨k+1,[[]],by omega,by go_num,by simp;omega,hP6,HP⟩
       case measure=>simp[intOf];omega
      ·rw[if_neg (fun e=>hkl (hlast.1 e))]at hPF
       have HP:=Lib.hid hPF;have hkb:((k:Int)==(P.length:Int)-1)=false:=beq_eq_false_iff_ne.2 (by omega);clear hPF h1 h2;go_wp2_with fail;go_roundw
       case rel=>exact⟨k+1,[],by omega,by go_num,by simp,hP5,HP⟩
       case measure=>simp[intOf];omega
     ·have hMl:0<M.length:=List.length_pos_iff.2 hM
      have hMi:(0:Int)<(M.length:Int):=by omega
      have hci:(M.length:Int)-1≤(cap:Int):=by omega
      have hc0:(0:Int)≤(M.length:Int)-1:=by omega
      have htn:((M.length:Int)-1).toNat=M.length-1:=by omega
      obtain⟨hP6,_,_⟩:=hP5.pop;by_cases hkl:k+1=P.length
      ·rw[if_pos (hlast.2 hkl)]at hPF
       have HP:=Lib.hid hPF;have hkb:((k:Int)==(P.length:Int)-1)=true:=beq_iff_eq.2 (by omega);clear hPF h1 h2;go_wp2_with(at_builtin;go_loud(refine wpList_append_piece w2 row _ rfl _ _ rfl _ (.slice a (M.length-1) cap) M.dropLast [] rfl hP6 rfl (by rw[List.length_dropLast];omega) ?_;intro v6 w6 hP7));go_roundw
       case rel=>exact⟨k+1,M.dropLast++[[]],by omega,by go_num,by rw[List.length_append,List.length_dropLast,List.length_singleton];omega,hP7,HP⟩
       case measure=>simp[intOf];omega
      ·rw[if_neg (fun e=>hkl (hlast.1 e))]at hPF
       have HP:=Lib.hid hPF;have hkb:((k:Int)==(P.length:Int)-1)=false:=beq_eq_false_iff_ne.2 (by omega);clear hPF h1 h2;go_wp2_with fail;go_roundw
       case rel=>exact⟨k+1,M.dropLast,by omega,by go_num,by rw[List.length_dropLast];omega,hP6,HP⟩
       case measure=>simp[intOf];omega
    ·rw[if_neg h1,if_neg h2]at hPF
     have HP:=Lib.hid hPF;have q1:(bareP x==[46,46])=false:=beq_eq_false_iff_ne.2 h2;have q2:(bareP x==[46])=false:=beq_eq_false_iff_ne.2 h1;clear hPF;generalize bareP x=B at*;generalize encP 4 x=E at*;go_wp2_with(first|(go_at_call 189;refine(ce _).mono ?_;rintro e w6 ⟨rfl,hb6⟩;have hP6:=hP5.below hb6)|(at_builtin;go_loud(refine wpList_append_piece w2 row _ rfl _ _ rfl _ (.slice a M.length cap) M E rfl hP6 rfl (by omega) ?_;intro v7 w7 hP7)));go_roundw
     case rel=>exact⟨k+1,M++[E],by omega,by go_num,by rw[List.length_append,List.length_singleton];omega,hP7,HP⟩
     case measure=>simp[intOf];omega
  ·have hki:¬(k:Int)<(P.length:Int):=by omega
   have hPF:=HP.out;rw[List.drop_eq_nil_of_le (by omega)]at hPF;have hPM:pathF L P=M:=by rw[hPF,pathF]
   have hMne:M≠[]:=by rw[←hPM];exact pathF_ne P L hne
   rw[hPM]at hjl;have hpath:pathL L s=47::joinL 47 M:=by
    unfold pathL;rw[hPP,hPM]
    cases M with
    |nil=>exact absurd rfl hMne
    |cons m M=>exact back_join
   have hjn:(joinL 47 M).length≤4000000:=by
    have h1:pathL L s=backL 47 M:=by unfold pathL;rw[hPP,hPM]
    rw[←h1,hpath,List.length_cons]at hjl;omega
   have HT:=Lib.hid hpath;have hg:=hPc.1;have hRV:RdAt R u base s V:=(hg.block R (by have:=hb2.size;omega) (fun e=>hrR e.symm)).trans hR2;have k5:V.cell? ⟨R,5,none⟩=some (.string ⟨_⟩):=hRV.cell 5;have f5:=hRV.free 5;have hR6:=hRV.set (s':=s) (u':= {u with path:=47::joinL 47 M}) 5 (.string ⟨(47::joinL 47 M).toArray⟩) rfl;have hKV:KeptX lo R w V:=by
    refine⟨⟨hg.os.trans hb2.os,hg.tape.trans hb2.tape,hg.output.trans hb2.output,by have:=hg.size;have:=hb2.size;omega,fun i hi=>(hg.block i (by have:=hb2.size;omega) (fun e=>by have:=hrow i e.symm;omega)).trans (hb2.block i (by omega))⟩,fun i hi hiR=>(hg.block i (by have:=hb2.size;omega) (fun e=>by have:=hrow i e.symm;omega)).trans (hb2.block i (by omega))⟩
   rcases hPc.2 with ⟨_,e⟩|⟨g,o,cap,rfl,e2,e3,e4,e5,_⟩
   ·exact absurd e hMne
   have hT2:Texts V g o M:=fun j hj=>e5 j _ (strs_get hj)
   have cj:=join_at g o cap M.length M 47 V rfl hT2 e3 (by omega) e4 (by omega);have hKVs:w.heap.size≤V.heap.size:=hKV.1.size;have hsum:¬9223372036854775807<1+(joinL 47 M).length:=by omega
   have hVl:=hRV.lt;clear hPc e5 hPF hPM hpath HP hg hT2 hR6;generalize joinL 47 M=J at*;go_wp2_with fail;go_at_call 88;refine cj.mono ?_;rintro e w6 ⟨rfl,hb6⟩;have hR7:=hRV.below hb6;have k57:w6.cell? ⟨R,5,none⟩=some (.string ⟨_⟩):=hR7.cell 5;have f57:=hR7.free 5;have hR8:=hR7.set (s':=s) (u':= {u with path:=47::J}) 5 (.string ⟨(47::J).toArray⟩) rfl;have hVs:lo≤V.heap.size:=Nat.le_trans hlo hKVs;have hK8:KeptX lo R w (w6.setCell ⟨R,5,none⟩ (.string ⟨(47::J).toArray⟩)):=by
    refine⟨(hKV.1.trans (hb6.mono (by omega))).setCell (p:=⟨R,5,none⟩) (Nat.le_refl _) _,fun i hi hiR=> ?_⟩;exact(Below.heap_setCell _ _ _ _ (by exact hiR)).trans ((hb6.block i (by omega)).trans (hKV.2 i hi hiR))
   clear cj k5 f5 hb6 hKV hRV hR7;go_wp2_with fail
   first|go_end0|refine bodyPost_ret (results_none rfl _ _ _) rfl ?_
   exact⟨rfl,hK8,by rw[HT.out];exact hR8⟩
end Go.Proofs.YtjkipdoebkhkaaaGreatDoor
namespace Go.Proofs.YtjkipdoebkhkaaaGreatDoor
open Go.RowKit
def slS:List UInt8:=[47,92]
theorem slS_is (c:UInt8):slS.contains c=slashB c:=by
 unfold slS slashB;simp only[List.contains_cons,List.contains_nil,Bool.or_false]
def strN (v:Value):Nat:=match v with| .string b=>b.size|_=>0
set_option maxRecDepth 100000 in
theorem trim_set (b:Nat) (s:List UInt8) (w:World) (hb:∀x:UInt8,w.cell? ⟨b,x.toNat,none⟩=some (.bool (slashB x))) (hs:s.length≤4000000000):
 Calls Tryz.prog 169 #[.string ⟨s.toArray⟩, .pointer (some ⟨b,0,none⟩)] w fun e w'=>e= .returned (.string ⟨(s.dropWhile slashB).toArray⟩)∧w=w':=by
 have hnot:∀(x:Bool) (w:World),(Op.unary .not (.bool x)).run Tryz.prog w= .ok (.bool (!x)) w:=fun _ _=>rfl
 have cc:=fun (x:UInt8)=>Tryz.asciiSet_contains b x (slashB x) w (hb x)
 go_enter Tryz.func169,Tryz.ntmps169
 go_wp2_with fail
 go_loopw [0] (fun a0 wr=>w=wr∧∃t:List UInt8,a0= .string ⟨t.toArray⟩∧t.length≤s.length∧Hid (t.dropWhile slashB=s.dropWhile slashB)) (fun a0 _=>strN a0)
 case atStart=>exact⟨rfl,s,rfl,Nat.le_refl _,rfl⟩
 case round=>
  obtain⟨rfl,t,rfl,htl,HT⟩:=hrel
  cases t with
  |nil=>
   go_wp2_with fail;go_ret;exact⟨by rw[←HT.out];rfl,rfl⟩
  |cons x t=>
   have cx:=cc x;have hT:=HT.out;rw[List.dropWhile_cons]at hT;have hl:(0:Int)<((x::t).length:Int):=by simp only[List.length_cons];omega
   simp only[List.length_cons]at htl;clear cc hb HT
   cases hx:slashB x with
   |true=>
    rw[hx]at cx;rw[if_pos hx]at hT;have HT:=Lib.hid hT;clear hT;go_wp2_with(go_at_call 222;refine cx.mono ?_;rintro e w2 ⟨rfl,rfl⟩);go_roundw
    case rel=>exact⟨by trivial,t,rfl,by omega,HT⟩
    case measure=>simp[strN,ByteArray.size]
   |false=>
    rw[hx]at cx;rw[if_neg (by rw[hx];simp)]at hT;have HT:=Lib.hid hT;clear hT;go_wp2_with(go_at_call 222;refine cx.mono ?_;rintro e w2 ⟨rfl,rfl⟩);go_ret;exact⟨by rw[←HT.out];rfl,rfl⟩
set_option maxRecDepth 100000 in
theorem trimL_sl (s:List UInt8) (w:World) (hs:s.length≤4000000000):
 Calls Tryz.prog 185 #[.string ⟨s.toArray⟩, .string ⟨#[47,92]⟩] w fun e w'=>e= .returned (.string ⟨(s.dropWhile slashB).toArray⟩)∧Below w.heap.size w w':=by
 have hv:∀w,(zeroValue 210).run Tryz.prog w= .ok (.agg (Array.replicate 256 (.bool false))) w:=fun w=>by kernel_rfl
 by_cases h0:s=[]
 ·subst h0
  go_enter Tryz.func185,Tryz.ntmps185;go_wp2_with fail;go_ret;exact⟨rfl,Below.refl _ _⟩
 ·have q0:(s==[])=false:=beq_eq_false_iff_ne.2 h0
  have q1:(!s.isEmpty)=true:=by cases s with|nil=>exact absurd rfl h0|cons _ _=>rfl
  have q2:s.isEmpty=false:=by cases s with|nil=>exact absurd rfl h0|cons _ _=>rfl
  have cm:=Tryz.strings_makeASCIISet hv ⟨#[47,92]⟩ w (by decide) (fun j b hj=>(show ∀c∈([47,92]:List UInt8),c.toNat<128 by decide) b (List.mem_of_getElem? hj));have cm:Calls Tryz.prog 168 #[.string ⟨#[47,92]⟩] w fun e w'=>e= .returned (.tuple #[.agg (Lib.setCells [47,92]), .bool true])∧w'=w.alloc (.cells (Lib.setCells [47,92]) 210):=cm
  have hsz:=Lib.setCells_size [47,92];have hone:=Lib.setCells_one [47,92];have hat:∀x:UInt8,(Lib.setCells [47,92])[x.toNat]?=some (.bool (slashB x)):=fun x=>by rw[Lib.setCells_at,←slS_is];rfl
  generalize Lib.setCells [47,92]=A at*;obtain⟨w2,hw2⟩:∃w2,(w.alloc (.cells A 210)).alloc (.cells (Array.replicate 256 (Value.bool false)) 210)=w2:=⟨_,rfl⟩;have hb2:Below w.heap.size w w2:=by rw[←hw2];exact((Below.refl w.heap.size w).alloc (Nat.le_refl _) _).alloc (by rw[World.size_alloc];omega) _
  have hh2:w2.heap[w.heap.size+1]?=some (.cells (Array.replicate 256 (Value.bool false)) 210 (0,0)):=by
   have:=heap_alloc_new (w.alloc (.cells A 210)) (.cells (Array.replicate 256 (Value.bool false)) 210);rw[World.size_alloc,hw2]at this;exact this
  have hst:(storeCells ⟨w.heap.size+1,0,none⟩ A.toList).run Tryz.prog ((w.alloc (.cells A 210)).alloc (.cells (Array.replicate 256 (Value.bool false)) 210))= .ok () (w2.setRow (w.heap.size+1) A):=by
   rw[hw2];exact store_cells (run_storeVar_row (P:=Tryz.prog) w2 (w.heap.size+1) 210 210 _ A hh2 (by rw[hsz];kernel_rfl) (by rw[hsz];simp) hone)
  have hb3:Below w.heap.size w (w2.setRow (w.heap.size+1) A):=⟨hb2.os,hb2.tape,hb2.output,by rw[setRow_size];exact hb2.size,fun k hk=>(setRow_other _ _ _ _ (by omega)).trans (hb2.block k hk)⟩;have hcell:∀x:UInt8,(w2.setRow (w.heap.size+1) A).cell? ⟨w.heap.size+1,x.toNat,none⟩=some (.bool (slashB x)):=fun x=>by
   rw[cell_setRow_same w2 (w.heap.size+1) _ _ _ _ _ hh2];exact hat x
  generalize w2.setRow (w.heap.size+1) A=w3 at*;have ct:=trim_set (w.heap.size+1) s w3 hcell hs;clear hw2 hh2 hb2 hcell hat hone;go_enter Tryz.func185,Tryz.ntmps185;go_wp2_with fail;go_at_call 168;refine cm.mono ?_;rintro e w1 ⟨rfl,rfl⟩;clear cm;go_wp2_with fail;go_at_call 169;refine ct.mono ?_;rintro e w4 ⟨rfl,rfl⟩;clear ct hst;go_wp2_with fail;go_ret;exact⟨rfl,hb3⟩
def idxS (s:List UInt8):Int:=if s.all (fun c=> !slashB c)=true then -1 else ((s.takeWhile fun c=> !slashB c).length:Int)
def IdxSl:Prop:=∀(s:List UInt8) (w:World),s.length≤100000→Calls Tryz.prog 186 #[.string ⟨s.toArray⟩, .string ⟨#[47,92]⟩] w fun e w'=>e= .returned (.int .i64 (idxS s))∧Below w.heap.size w w'
theorem sl_none {s:List UInt8} (h:s.all (fun c=> !slashB c)=true):(s.takeWhile fun c=> !slashB c)=s∧(s.dropWhile fun c=> !slashB c)=[]:=by
 have h:=List.all_eq_true.1 h;revert h
 induction s with
 |nil=>intro _;exact⟨rfl,rfl⟩
 |cons c s ih=>
  intro h;have hc:=h c List.mem_cons_self;obtain⟨i1,i2⟩:=ih (List.all_eq_true.2 fun d hd=>h d (List.mem_cons_of_mem _ hd)) fun d hd=>h d (List.mem_cons_of_mem _ hd)
  rw[List.takeWhile_cons,List.dropWhile_cons,if_pos hc,if_pos hc,i1,i2];exact⟨rfl,rfl⟩
theorem sl_some {s:List UInt8} (h:¬s.all (fun c=> !slashB c)=true):∃c,s=(s.takeWhile fun c=> !slashB c)++c::(s.dropWhile fun c=> !slashB c).tail:=by
 have e:=(List.takeWhile_append_dropWhile (p:=fun c=> !slashB c) (l:=s)).symm
 cases hd:s.dropWhile fun c=> !slashB c with
 |nil=>
  exfalso;refine h (List.all_eq_true.2 fun c hc=> ?_);rw[hd,List.append_nil]at e;rw[e]at hc;have:∀(l:List UInt8) (c:UInt8),c∈l.takeWhile (fun c=> !slashB c)→(!slashB c)=true:=fun l=>by
   induction l with
   |nil=>intro c hc;cases hc
   |cons x l ih=>
    intro c hc;rw[List.takeWhile_cons]at hc;split at hc
    ·rcases List.mem_cons.1 hc with rfl|hc
     ·assumption
     ·exact ih c hc
    ·cases hc
  exact this s c hc
 |cons c t=>
  rw[hd]at e;exact⟨c,e⟩
def ColEq (x:List UInt8) (inn:Bool) (k:Nat):Prop:=colonF false x=(x.take k++(colonF inn (x.drop k)).1,(colonF inn (x.drop k)).2)
theorem ColEq.start (x:List UInt8):ColEq x false 0:=by simp[ColEq]
theorem ColEq.hit {x:List UInt8} {k:Nat} (h:ColEq x false k) (hk:k<x.length) (hc:x[k]=58):colonF false x=(x.take k,x.drop (k+1)):=by
 unfold ColEq at h;rw[h,List.drop_eq_getElem_cons hk,colonF,if_pos ⟨hc,rfl⟩];simp
theorem ColEq.miss {x:List UInt8} {inn:Bool} {k:Nat} (h:ColEq x inn k) (hk:k<x.length) (hc:¬(x[k]=58∧inn=false)):ColEq x (x[k]==91||(inn&&x[k] !=93)) (k+1):=by
 unfold ColEq at h⊢;rw[h,List.drop_eq_getElem_cons hk,colonF,if_neg hc,List.take_succ_eq_append_getElem hk,List.append_assoc];rfl
theorem ColEq.end_ {x:List UInt8} {inn:Bool} {k:Nat} (h:ColEq x inn k) (hk:x.length≤k):colonF false x=(x,[]):=by
 unfold ColEq at h;rw[h,List.take_of_length_le hk,List.drop_eq_nil_of_le hk];simp[colonF]
theorem colon_len2:∀(b:Bool) (s:List UInt8),(colonF b s).1.length≤s.length∧(colonF b s).2.length≤s.length
 |_,[]=>by simp[colonF]
 |b,c::r=>by
  have ih:=colon_len2 (c==91||(b&&c !=93)) r;rw[colonF];split
  ·simp
  ·simp only[List.length_cons];omega
def PlacePost (R:Nat) (u base:UrlL) (t:List UInt8) (w:World) (e:Ending) (w':World):Prop:=
 KeptX w.heap.size R w w'∧match placeU u t with
  | .error n=>e=panE n
  | .ok v=>e= .returned (.tuple #[])∧∃s,RdAt R v base s w'
set_option maxRecDepth 100000 in
theorem place_r (hIA:IdxSl) (R:Nat) (u base:UrlL) (s:List UInt8) (w:World) (h:RdAt R u base s w) (hE:EnvR R w) (hs:s.length≤4100) (hu:u.user=[]) (hp:u.pass=[]):
 Calls Tryz.prog 130 #[.pointer (some ⟨R,0,none⟩)] w (PlacePost R u base (s.dropWhile slashB) w):=by
 have c10:w.cell? ⟨R,10,none⟩=some (.string ⟨s.toArray⟩):=h.cell 10
 have ct:=trimL_sl s w (by omega)
 have htl:=(List.dropWhile_sublist slashB (l:=s)).length_le
 have hlt:=h.lt
 generalize s.dropWhile slashB=t at*
 go_enter Tryz.func130,Tryz.ntmps130
 go_wp2_with fail
 go_at_call 185
 refine ct.mono ?_
 rintro e w1 ⟨rfl,hb1⟩
 have hR1:=h.below hb1
 have hK1:=KeptX.of_below hb1 (Nat.le_of_lt hlt)
 have k10:w1.cell? ⟨R,10,none⟩=some (.string ⟨s.toArray⟩):=hR1.cell 10
 have f10:=hR1.free 10
 have hR2:=hR1.set (s':=t) (u':=u) 10 (.string ⟨t.toArray⟩) rfl
 have hR3:=hR2.set (s':=[]) (u':=u) 10 (.string ⟨#[]⟩) rfl
 have hK3:=(hK1.next (hR1.kept 10 (.string ⟨t.toArray⟩))).next (hR2.kept 10 (.string ⟨#[]⟩))
 have ci:=hIA t ((w1.setCell ⟨R,10,none⟩ (.string ⟨t.toArray⟩)).setCell ⟨R,10,none⟩ (.string ⟨#[]⟩)) (by omega)
 have hE3:=hE.kept hK3
 have hE0:=hE
 clear ct c10 hb1 h
 go_wp2_with fail
 generalize (w1.setCell ⟨R,10,none⟩ (.string ⟨t.toArray⟩)).setCell ⟨R,10,none⟩ (.string ⟨#[]⟩)=w3 at*
 go_at_call 186
 refine ci.mono ?_
 rintro e w4 ⟨rfl,hb4⟩
 have hR4:=hR3.below hb4
 have hK4:=hK3.calm (Nat.le_of_lt hR3.lt) hb4
 have hE4:=hE3.below hb4
 clear ci k10 f10 hR1 hR2 hR3 hK1 hK3 hE3 hb4
 have hdef:placeU u t=match hostL (colonF false (userU (t.takeWhile fun c=> !slashB c)).2).1 with
  |none=> .error 5
  |some x=>match portU u.scheme (colonF false (userU (t.takeWhile fun c=> !slashB c)).2).2 with
   |none=> .error 4
   |some q=> .ok {u with user:=(userU (t.takeWhile fun c=> !slashB c)).1.1,pass:=(userU (t.takeWhile fun c=> !slashB c)).1.2,host:=x,port:=q,path:=pathL [] (t.dropWhile fun c=> !slashB c).tail}:=rfl
 have hn:= @sl_none t
 have hso:= @sl_some t
 have hidx:idxS t=if t.all (fun c=> !slashB c)=true then -1 else ((t.takeWhile fun c=> !slashB c).length:Int):=rfl
 have hal:(t.takeWhile fun c=> !slashB c).length≤t.length:=(List.takeWhile_sublist _).length_le
 have hrl:(t.dropWhile fun c=> !slashB c).tail.length≤t.length:=by rw[List.length_tail];have:=(List.dropWhile_sublist (fun c=> !slashB c) (l:=t)).length_le;omega
 generalize ha:(t.takeWhile fun c=> !slashB c)=a at*
 generalize hr:(t.dropWhile fun c=> !slashB c).tail=rest at*
 have HD:=Lib.hid hdef
 clear hdef
 have HI:=Lib.hid hidx
 clear hidx
 generalize idxS t=I at*
 go_upto_if 28 with fail
 go_cut [2] (fun a2 wx=>a2= .string ⟨a.toArray⟩∧RdAt R u base rest wx∧KeptX w.heap.size R w wx)
 case first=>
  by_cases hall:t.all (fun c=> !slashB c)=true
  ·have hidx:=HI.out
   rw[if_pos hall]at hidx;obtain⟨e1,e2⟩:=hn hall;have ea:t=a:=e1.symm;have er:rest=[]:=by rw[←hr,e2];rfl
   subst ea;subst er;subst hidx;clear hn hso HI hall e1 e2 ha hr;go_wp2_with fail;go_meet
   case rel=>exact⟨rfl,hR4,hK4⟩
  ·have hidx:=HI.out
   rw[if_neg hall]at hidx;obtain⟨c,ec⟩:=hso hall;have hai:¬(a.length:Int)<0:=by omega
   have hai2:(0:Int)≤(a.length:Int):=by omega
   have hta:List.take a.length t=a:=by rw[ec];simp
   have htd:List.drop (a.length+1) t=rest:=by rw[ec];simp
   have htl2:t.length=a.length+(rest.length+1):=by rw[ec];simp
   have htt:List.take (t.length-(a.length+1)) (List.drop (a.length+1) t)=rest:=by rw[htd,List.take_of_length_le (by omega)]
   have htk:List.take (a.length+(rest.length+1)-(a.length+1)) rest=rest:=List.take_of_length_le (by omega);have hb1:(a.length:Int)≤(t.length:Int):=by omega
   have hb2:(a.length:Int)+1≤(t.length:Int):=by omega
   subst hidx;have k10:w4.cell? ⟨R,10,none⟩=some (.string ⟨[].toArray⟩):=hR4.cell 10;have f10:=hR4.free 10;have hR5:=hR4.set (s':=rest) (u':=u) 10 (.string ⟨rest.toArray⟩) rfl;have hK5:=hK4.next (hR4.kept 10 (.string ⟨rest.toArray⟩));clear hn hso HI hall ec ha hr;go_wp2_with fail;go_region
   all_goals
    go_wp2_with fail;go_meet
    case rel=>exact⟨rfl,hR5,⟨hK5.1.drew,hK5.2⟩⟩
 case rest=>
  obtain⟨rfl,hR5,hK5⟩:=hcut;have hE5:=hE.kept hK5;have hul:=userU_len a;have cu:=user_r R u base rest a wc hR5 hE5 (by omega) hu hp;clear hn hso HI hR4 hK4 ha hr hE hE4
  cases hus:userU a with
  |mk o x=>
  obtain⟨us,ps⟩:=o;rw[hus]at hul HD;unfold UserPost at cu;rw[hus]at cu;simp only at hul HD cu;clear hus hE5 hR5;have hKw:=hK5;go_wp2_with fail;go_at_call 187;refine cu.mono ?_;rintro e w6 ⟨rfl,hK6a,hR6⟩;have hK6:=hKw.next hK6a;have hE6:=hE0.kept hK6;clear cu hK6a hKw hK5 hE0;go_upto_block 0 with fail;go_cut [4,5] (fun a4 a5 wx=>a4= .string ⟨(colonF false x).1.toArray⟩∧a5= .string ⟨(colonF false x).2.toArray⟩∧EnvR R wx∧RdAt R {u with user:=us,pass:=ps} base rest wx∧KeptX w.heap.size R w wx)
  case first=>
   clear HD;go_wp2_with fail;go_loop [4,5,6,45] (fun a4 a5 a6 a45=>∃(k:Nat) (inn:Bool),k≤x.length∧a4= .string ⟨x.toArray⟩∧a5= .string ⟨#[]⟩∧a45= .int .i64 k∧a6= .bool inn∧Hid (ColEq x inn k)) (fun _ _ _ i=>x.length-(intOf i).toNat)
   case atStart=>exact⟨0,false,Nat.zero_le _,rfl,rfl,rfl,rfl,ColEq.start x⟩
   case round=>
    obtain⟨k,inn,hk,rfl,rfl,rfl,rfl,HQ⟩:=hrel;by_cases hlt:k<x.length
    ·have hki:(k:Int)<(x.length:Int):=by omega
     by_cases hc:x[k]=58∧inn=false
     ·obtain⟨hc1,rfl⟩:=hc
      have HC:=Lib.hid (HQ.out.hit hlt hc1);have htl1:(x.take k).length≤x.length:=by rw[List.length_take];omega
      have htl2:(x.drop (k+1)).length≤x.length:=by rw[List.length_drop];omega
      have hts:List.take (x.length-(k+1)) (List.drop (k+1) x)=x.drop (k+1):=List.take_of_length_le (by simp);have hk1:(k:Int)+1≤(x.length:Int):=by omega
      have hk2:(k:Int)≤(x.length:Int):=by omega
      clear HQ;go_wp2_with fail;go_region
      all_goals
       have hE6d:EnvR R w6.drew:=hE6.below (Below.refl _ _).drew;have hR6d:RdAt R {u with user:=us,pass:=ps} base rest w6.drew:=hR6;have hK6d:KeptX w.heap.size R w w6.drew:=⟨hK6.1.drew,hK6.2⟩;go_wp2_with fail;go_meet
       case rel=>exact⟨by rw[HC.out],by rw[HC.out],hE6d,hR6d,hK6d⟩
     ·have HS:=Lib.hid (HQ.out.miss hlt hc)
      clear HQ;generalize hx:x[k]=c at*
      cases inn with
      |true=>
       by_cases h93:c=93
       ·subst h93
        go_wp2_with fail;go_round
        case rel=>exact⟨k+1,_,by omega,rfl,rfl,by go_num,rfl,HS⟩
        case measure=>simp[intOf];omega
       ·have z93:((c.toNat:Int)==93)=false:=beq_eq_false_iff_ne.2 (fun e=>h93 (UInt8.toNat_inj.1 (by show c.toNat=93;omega)))
        by_cases h91:c=91
        ·subst h91
         go_wp2_with fail;go_round
         case rel=>exact⟨k+1,_,by omega,rfl,rfl,by go_num,rfl,HS⟩
         case measure=>simp[intOf];omega
        ·have z91:((c.toNat:Int)==91)=false:=beq_eq_false_iff_ne.2 (fun e=>h91 (UInt8.toNat_inj.1 (by show c.toNat=91;omega)))
         have q91:(c==91)=false:=beq_eq_false_iff_ne.2 h91;have HS2:Hid (ColEq x true (k+1)):=by
          have:=HS.out;rw[q91,show(c !=93)=true from bne_iff_ne.2 h93]at this;exact this
         clear HS;go_wp2_with fail
         all_goals
          go_round
          case rel=>exact⟨k+1,true,by omega,rfl,rfl,by go_num,by first|rfl|(rw[bne,z93];rfl),HS2⟩
          case measure=>simp[intOf];omega
      |false=>
       have h58:c≠58:=fun e=>hc ⟨e,rfl⟩
       have z58:((c.toNat:Int)==58)=false:=beq_eq_false_iff_ne.2 (fun e=>h58 (UInt8.toNat_inj.1 (by show c.toNat=58;omega)));by_cases h91:c=91
       ·subst h91
        go_wp2_with fail;go_round
        case rel=>exact⟨k+1,_,by omega,rfl,rfl,by go_num,rfl,HS⟩
        case measure=>simp[intOf];omega
       ·have z91:((c.toNat:Int)==91)=false:=beq_eq_false_iff_ne.2 (fun e=>h91 (UInt8.toNat_inj.1 (by show c.toNat=91;omega)))
        have q91:(c==91)=false:=beq_eq_false_iff_ne.2 h91;have HS2:Hid (ColEq x false (k+1)):=by
         have:=HS.out;rw[q91]at this;exact this
        clear HS;go_wp2_with fail;go_round
        case rel=>exact⟨k+1,false,by omega,rfl,rfl,by go_num,rfl,HS2⟩
        case measure=>simp[intOf];omega
    ·have hki:¬(k:Int)<(x.length:Int):=by omega
     have HC:=Lib.hid (HQ.out.end_ (by omega));clear HQ;go_wp2_with fail;go_meet
     case rel=>exact⟨by rw[HC.out],by rw[HC.out],hE6,hR6,hK6⟩
  case rest=>
   obtain⟨rfl,rfl,hE6c,hR6c,hK6c⟩:=hcut;clear hE6 hR6 hK6;have hE6:=hE6c;have hR6:=hR6c;have hK6:=hK6c;have hcl:=colon_len2 false x;generalize hcx:colonF false x=cx at*;obtain⟨h1,q1⟩:=cx;simp only at hcl;have HC:Hid (colonF false x=(h1,q1)):=hcx;clear hE6c hR6c hK6c hcx;have hH:=HC.out;have cp:=hparse_any h1 wc hE6.env (by omega)
   cases hh:hostL h1 with
   |none=>
    have HN:Hid (placeU u t= .error 5):=by
     show _=_;rw[HD.out];simp only[hh]
    rw[hh]at cp;unfold optV at cp;simp only at cp;clear HD HC hH hh;go_wp2_with fail;go_at_call 121;refine cp.mono ?_;rintro e w7 ⟨rfl,hb7⟩;have hK7:=hK6.calm (Nat.le_of_lt hR6.lt) hb7;clear cp hb7;go_wp2_with fail;go_at_call 131;refine(wrong_yes 5 _).mono ?_;rintro e w8 ⟨rfl,rfl⟩;exact⟨rfl,hK7,by rw[HN.out];rfl⟩
   |some x1=>
    rw[hh]at cp;unfold optV at cp;simp only at cp;have hN:placeU u t=match portU u.scheme q1 with
     |none=> .error 4
     |some q=> .ok {u with user:=us,pass:=ps,host:=x1,port:=q,path:=pathL [] rest}:=by
     rw[HD.out];simp only[hh]
    have HN:=Lib.hid hN;clear HD HC hH hh hN;go_wp2_with fail;go_at_call 121;refine cp.mono ?_;rintro e w7 ⟨rfl,hb7⟩;have hK7:=hK6.calm (Nat.le_of_lt hR6.lt) hb7;have hR7:=hR6.below hb7;have hE7:=hE6.below hb7;have k3:w7.cell? ⟨R,3,none⟩=some (.string ⟨_⟩):=hR7.cell 3;have f3:=hR7.free 3;have hR8:=hR7.set (s':=rest) (u':= {u with user:=us,pass:=ps,host:=x1}) 3 (.string ⟨x1.toArray⟩) rfl;have hK8:=hK7.next (hR7.kept 3 (.string ⟨x1.toArray⟩));have hE8:=hE7.kept (hR7.kept 3 (.string ⟨x1.toArray⟩));clear cp hb7 hR6 hE6 hR7 hK7 hE7 hK6;go_wp2_with fail;go_at_call 131;refine(wrong_no 5 _).mono ?_;rintro e w8 ⟨rfl,rfl⟩;go_wp2_with fail;generalize w7.setCell ⟨R,3,none⟩ (.string ⟨x1.toArray⟩)=w8 at*;have co:=port_r R {u with user:=us,pass:=ps,host:=x1} base rest q1 w8 hR8 (by omega);go_at_call 188;refine co.mono ?_;rintro e w9 ⟨hK9,hp9⟩;have hK10:=hK8.next hK9;have hE9:=hE8.kept hK9;clear co hK8 hE8 hR8 k3 f3 hK9
    cases hq:portU u.scheme q1 with
    |none=>
     have hp9:e=panE 4:=by
      have e2:portU ({u with user:=us,pass:=ps,host:=x1}:UrlL).scheme q1=none:=hq;rw[e2]at hp9;exact hp9
     subst hp9;exact⟨rfl,hK10,by rw[HN.out];simp only[hq];rfl⟩
    |some qp=>
     have hp9:e= .returned (.tuple #[])∧RdAt R {u with user:=us,pass:=ps,host:=x1,port:=qp} base rest w9:=by
      have e2:portU ({u with user:=us,pass:=ps,host:=x1}:UrlL).scheme q1=some qp:=hq;rw[e2]at hp9;exact hp9
     obtain⟨rfl,hR9⟩:=hp9;have hl9:=hR9.lt;have cr:=rest_r w9.heap.size R {u with user:=us,pass:=ps,host:=x1,port:=qp} base rest (.slice none 0 0) [] none w9 hR9 hE9 (by omega) hl9 (Nat.le_refl _) (fun g hg=>by cases hg) (fun W hW=>⟨⟨rfl,rfl,rfl,Nat.le_refl _,fun _ _ _=>rfl⟩, .inl ⟨rfl,rfl⟩⟩) (by simp) (by simp[backL]);clear hE9 hR9;go_wp2_with fail;go_at_call 183;refine cr.mono ?_;rintro e w10 ⟨rfl,hK11,hR11⟩;have hK12:=hK10.next hK11;clear cr hK10 hK11;go_wp2_with fail
     first|go_end0|refine bodyPost_ret (results_none rfl _ _ _) rfl ?_
     exact⟨hK12,by rw[HN.out];simp only[hq];exact⟨trivial,_,hR11⟩⟩
theorem slash_in (c:UInt8):([47,92]:List UInt8).contains c=slashB c:=by
 unfold slashB;simp[List.contains_cons];rfl
theorem idxS_cons (c:UInt8) (s:List UInt8):idxS (c::s)=if slashB c=true then 0 else if idxS s= -1 then -1 else idxS s+1:=by
 unfold idxS;rw[List.all_cons,List.takeWhile_cons]
 cases hc:slashB c with
 |true=>simp
 |false=>
  simp only[Bool.not_false,Bool.true_and,if_true,Bool.false_eq_true,if_false];by_cases h:(s.all fun c=> !slashB c)=true
  ·rw[if_pos h,if_pos h,if_pos rfl]
  ·rw[if_neg h,if_neg h,if_neg (by omega),List.length_cons];rfl
theorem idxS_any:∀s:List UInt8,Lib.indexAny s [47,92]=idxS s
 |[]=>rfl
 |c::s=>by
  rw[idxS_cons,Lib.indexAny,slash_in,idxS_any s];by_cases h:idxS s= -1
  ·simp[h]
  ·have hb:¬(idxS s== -1)=true:=fun e=>h (by simpa using e)
   rw[if_neg h,if_neg hb]
theorem dec_tail (n b0 b1 b2 b3:Nat) (hn:1≤n):
 (Lib.decodeN n b0 b1 b2 b3).2≤n∧(2≤(Lib.decodeN n b0 b1 b2 b3).2→b1/64=2)∧(3≤(Lib.decodeN n b0 b1 b2 b3).2→b2/64=2)∧(4≤(Lib.decodeN n b0 b1 b2 b3).2→b3/64=2)∧(Lib.decodeN n b0 b1 b2 b3).2≤4:=by
 unfold Lib.decodeN
 repeat' split
 all_goals(simp only;omega)
theorem skip_high (s:ByteArray) (i:Nat) (h:i<s.size):i+(Utf8.decode s i).2≤s.size∧∀j,i<j→j<i+(Utf8.decode s i).2→∃hj:j<s.size,128≤(s[j]'hj).toNat:=by
 rw[Lib.decode_at];obtain⟨hw,c1,c2,c3,c4⟩:=dec_tail (s.size-i) (s.get! i).toNat (s.get! (i+1)).toNat (s.get! (i+2)).toNat (s.get! (i+3)).toNat (by omega);refine⟨by omega,fun j h1 h2=> ?_⟩;rcases(by omega:j=i+1∨j=i+2∨j=i+3)with rfl|rfl|rfl
 ·have c:=c1 (by omega)
  have e:s.get! (i+1)=s[i+1]'(by omega):=get_at s (i+1) (by omega);exact⟨by omega,by rw[←e];omega⟩
 ·have c:=c2 (by omega)
  have e:s.get! (i+2)=s[i+2]'(by omega):=get_at s (i+2) (by omega);exact⟨by omega,by rw[←e];omega⟩
 ·have c:=c3 (by omega)
  have e:s.get! (i+3)=s[i+3]'(by omega):=get_at s (i+3) (by omega);exact⟨by omega,by rw[←e];omega⟩
theorem Lib.rune_valid_at (s:ByteArray) (i:Nat):Lib.validRune ((Utf8.decode s i).1:Int)=true:=by
 rw[Lib.decode_at];have h0:(s.get! i).toNat<256:=(s.get! i).toNat_lt;generalize (s.get! i).toNat=b0 at*;unfold Lib.decodeN Lib.validRune;rw[decide_eq_true_iff]
 repeat' split
 all_goals(simp only at*;omega)
theorem high_no {c:UInt8} (h:128≤c.toNat):slashB c=false:=by
 unfold slashB;have h1:c≠47:=fun e=>by rw[e]at h;exact absurd h (by decide)
 have h2:c≠92:=fun e=>by rw[e]at h;exact absurd h (by decide)
 simp[h1,h2]
theorem no_skip {s:List UInt8} {i d:Nat} (h:Lib.NoAny s [47,92] i) (hd:∀j,i≤j→j<i+d→∃hj:j<s.length,128≤(s[j]'hj).toNat):Lib.NoAny s [47,92] (i+d):=by
 intro j b hj hb;by_cases hji:j<i
 ·exact h j b hji hb
 ·obtain⟨hl,h8⟩:=hd j (by omega) hj
  rw[List.getElem?_eq_getElem hl]at hb;injection hb with hb;rw[slash_in,←hb];exact high_no h8
set_option maxRecDepth 100000 in
theorem idxrune_high (r:Int) (w:World) (h:128≤r) (hv:Lib.validRune r=true):
 Calls Tryz.prog 239 #[.string ⟨#[47,92]⟩, .int .i32 r] w fun e w'=>e= .returned (.int .i64 (-1))∧Below w.heap.size w w':=by
 have h0:(0:Int)≤r:=by omega
 have h1:¬r<128:=by omega
 have cv:=fun W=>Tryz.utf8_ValidRune r W
 rw[hv]at cv
 by_cases hr:r=65533
 ·subst hr
  have n0:∀ty,(Instr.next (.pointer (some ⟨w.heap.size,0,none⟩)) true ty).run Tryz.prog (w.iter ⟨#[47,92]⟩ 0)= .ok (.tuple #[.bool true, .int .i64 0, .int .i32 47]) (w.iter ⟨#[47,92]⟩ 1):=fun ty=>run_next_ascii (P:=Tryz.prog) w ⟨#[47,92]⟩ 0 ty (by decide) (by decide)
  have n1:∀ty,(Instr.next (.pointer (some ⟨w.heap.size,0,none⟩)) true ty).run Tryz.prog (w.iter ⟨#[47,92]⟩ 1)= .ok (.tuple #[.bool true, .int .i64 1, .int .i32 92]) (w.iter ⟨#[47,92]⟩ 2):=fun ty=>run_next_ascii (P:=Tryz.prog) w ⟨#[47,92]⟩ 1 ty (by decide) (by decide)
  have n2:=run_next_end (P:=Tryz.prog) w ⟨#[47,92]⟩ 2;clear cv;go_enter Tryz.func239,Tryz.ntmps239;go_wp2_with fail;refine wp_loop_rounds 3 ?_;rw[rounds_succ];go_wp2_with fail;rw[rounds_succ];go_wp2_with fail;rw[rounds_succ];go_wp2_with fail;go_ret;exact⟨rfl,((Below.refl _ w).alloc (Nat.le_refl _) (.stringIter ⟨#[47,92]⟩ 2))⟩
 ·have hr2:(r==65533)=false:=beq_eq_false_iff_ne.2 hr
  have hval:Utf8.valid r=true:=by
   unfold Utf8.valid;unfold Lib.validRune at hv;simp at hv⊢;omega
  obtain⟨e1,e2,e3⟩:=encode_facts r hval h;have ci:=fun (s:ByteArray) (c:Int) W=>Tryz.strings_IndexByte s c W
  have hmp:∀W:World,(convert 21 9 (.int .i32 r)).run Tryz.prog W= .ok (.string (Utf8.encode r)) W:=fun W=>run_convert_int_string W _ _ _ _ (by kernel_rfl) (by kernel_rfl)
  generalize Utf8.encode r=rs at*;by_cases h3:rs.size=2
  ·obtain⟨a,b,rfl⟩:∃a b:UInt8,rs=⟨#[a,b]⟩:=by
    obtain⟨⟨l⟩⟩:=rs;have hl:l.length=2:=h3
    match l,hl with
    |[a,b],_=>exact⟨a,b,rfl⟩
   have hb:128≤b.toNat:=e3 (by show 1<2;omega);have hne:((92:Int) !=(b.toNat:Int))=true:=by
    rw[bne_iff_ne];omega
   clear e1 e2 e3 h3 hv hval h hr;go_enter Tryz.func239,Tryz.ntmps239;go_wp2_with fail;go_at_call 280;refine(cv _).mono ?_;rintro e w1 ⟨rfl,rfl⟩;clear cv;go_wp2_with fail;go_step3;go_wp2_with fail;refine wp_loop_rounds 1 ?_;rw[rounds_succ];go_wp2_with fail;go_step3;go_wp2_with fail;go_region;go_wp2_with fail;go_region_with(go_at_call 182;refine(ci _ _ _).mono ?_;rintro e w2 ⟨rfl,rfl⟩)
   all_goals
    go_wp2_with fail;simp only[Exit.noGoto,Exit.inBlock,Exit.then];go_ret;exact⟨rfl,(Below.refl _ _).drew.drew⟩
  ·obtain⟨n,hz,hn⟩:∃n:Int,(rs.size:Int)=n∧(n=3∨n=4):=⟨_,rfl,by omega⟩
   clear e1 e2 e3 h3 hv hval h hr;rcases hn with rfl|rfl
   all_goals
    go_enter Tryz.func239,Tryz.ntmps239;go_wp2_with fail;go_at_call 280;refine(cv _).mono ?_;rintro e w1 ⟨rfl,rfl⟩;clear cv;go_wp2_with fail;go_step3;go_wp2_with fail;refine wp_loop_rounds 1 ?_;rw[rounds_succ];go_wp2_with fail;rw[Exit.noGoto_ret];go_ret;exact⟨rfl,Below.refl _ _⟩
set_option maxRecDepth 100000 in
theorem idx_short (s:List UInt8) (w:World) (hs:s.length≤8):
 Calls Tryz.prog 186 #[.string ⟨s.toArray⟩, .string ⟨#[47,92]⟩] w fun e w'=>e= .returned (.int .i64 (idxS s))∧Below w.heap.size w w':=by
 have h8:decide ((8:Int)<(s.length:Int))=false:=decide_eq_false (by omega)
 have cu:=fun W=>Tryz.strings_shouldUseASCIISet (s.length:Int) W
 rw[h8]at cu
 have ca:=fun r W (h0:0≤r) (h1:r<128)=>Tryz.strings_IndexRune_ascii ⟨#[47,92]⟩ r W h0 h1
 go_enter Tryz.func186,Tryz.ntmps186
 go_wp2_with fail
 go_at_call 240
 refine(cu _).mono ?_
 rintro e w1 ⟨rfl,rfl⟩
 clear cu
 go_wp2_with fail
 go_loopw [] (fun wr=>∃i:Nat,i≤s.length∧Hid (Lib.NoAny s [47,92] i)∧wr.heap[w1.heap.size]?=some (.stringIter ⟨s.toArray⟩ i)∧Below w1.heap.size w1 wr) (fun wr=>s.length-wr.iterPos w1.heap.size)
 case atStart=>exact⟨0,Nat.zero_le _,Lib.NoAny.zero _ _,World.iter_heap w1 _ 0,(Below.refl _ w1).alloc (Nat.le_refl _) _⟩
 case round=>
  obtain⟨i,hil,hp,hit,hbl⟩:=hrel;by_cases hlt:i<s.length
  ·have hnx:∀ty,(Instr.next (.pointer (some ⟨w1.heap.size,0,none⟩)) true ty).run Tryz.prog wr=_:=fun ty=>Lib.run_next_any_at wr w1.heap.size ⟨s.toArray⟩ i ty hit hlt
   by_cases hc:(s[i]'hlt).toNat<128
   ·have hd:=decode_ascii ⟨s.toArray⟩ i hlt hc
    rw[idx_mk]at hd;rw[hd]at hnx;have hit2:=Lib.iterAt_heap wr w1.heap.size ⟨s.toArray⟩ i (i+1) hit;have hx:s[i]?=some s[i]:=List.getElem?_eq_getElem hlt;have hib:=Lib.contains_iff_indexByte [47,92] s[i];rw[slash_in]at hib;by_cases hsl:slashB s[i]=true
    ·have HF:=Lib.hid (idxS_any s▸Lib.indexAny_hit hp.out hx (by rw[slash_in];exact hsl):idxS s=i)
     rw[hsl]at hib;have hib2:(0:Int)≤Lib.indexByte [47,92] s[i]:=of_decide_eq_true hib.symm;clear hd hp hx hib hsl;generalize s[i]=c at*;have cc:=ca (c.toNat:Int);rw[show((c.toNat:Int)).toNat.toUInt8=c by simp]at cc;clear ca;go_wp2_with fail;go_at_call 239;refine(cc _ (by omega) (by omega)).mono ?_;rintro e w2 ⟨rfl,rfl⟩;go_wp2_with fail;go_ret;exact⟨by rw[HF.out];rfl,Lib.below_iterAt hbl (Nat.le_refl _) _ _⟩
    ·have hsl2:slashB s[i]=false:=Bool.eq_false_iff.2 hsl
     have HP:=Lib.hid (hp.out.succ hx (by rw[slash_in];exact hsl2));rw[hsl2]at hib;have hib2:¬(0:Int)≤Lib.indexByte [47,92] s[i]:=of_decide_eq_false hib.symm;clear hd hp hx hib hsl hsl2;generalize s[i]=c at*;have cc:=ca (c.toNat:Int);rw[show((c.toNat:Int)).toNat.toUInt8=c by simp]at cc;clear ca;go_wp2_with fail;go_at_call 239;refine(cc _ (by omega) (by omega)).mono ?_;rintro e w2 ⟨rfl,rfl⟩;go_wp2_with fail;go_roundw
     case rel=>exact⟨i+1,by omega,HP,hit2,Lib.below_iterAt hbl (Nat.le_refl _) _ _⟩
     case measure=>simp only[World.iterPos,hit2,hit];omega
   ·have hh:=decode_high ⟨s.toArray⟩ i hlt (by rw[idx_mk];omega)
    obtain⟨hk1,hk2⟩:=skip_high ⟨s.toArray⟩ i hlt;have hval:=Lib.rune_valid_at ⟨s.toArray⟩ i;have HP:Hid (Lib.NoAny s [47,92] (i+(Utf8.decode ⟨s.toArray⟩ i).2)):=by
     refine no_skip hp.out fun j hj1 hj2=> ?_
     rcases Nat.lt_or_eq_of_le hj1 with hlt2|rfl
     ·obtain⟨hj,h8⟩:=hk2 j hlt2 hj2
      exact⟨hj,by rw[idx_mk]at h8;exact h8⟩
     ·exact⟨hlt,by omega⟩
    have hit2:=Lib.iterAt_heap wr w1.heap.size ⟨s.toArray⟩ i (i+(Utf8.decode ⟨s.toArray⟩ i).2) hit;have hdl:i+(Utf8.decode ⟨s.toArray⟩ i).2≤s.length:=hk1;clear hk1 hk2 hp;generalize Utf8.decode ⟨s.toArray⟩ i=d at*;obtain⟨x,z⟩:=d;simp only at hnx hh hit2 HP hdl hval;have cc:=fun W=>idxrune_high (x:Int) W (by omega) hval
    clear ca hval;go_wp2_with fail;go_at_call 239;refine(cc _).mono ?_;rintro e w2 ⟨rfl,hb2⟩;clear cc;have hbi:=Lib.below_iterAt hbl (Nat.le_refl _) ⟨s.toArray⟩ (i+z);have hlt3:w1.heap.size<(wr.iterAt w1.heap.size ⟨s.toArray⟩ (i+z)).heap.size:=by
     rcases Nat.lt_or_ge w1.heap.size (wr.iterAt w1.heap.size ⟨s.toArray⟩ (i+z)).heap.size with h|h
     ·exact h
     ·rw[Array.getElem?_eq_none h]at hit2;cases hit2
    have hit3:=(hb2.block _ hlt3).trans hit2;go_wp2_with fail;go_roundw
    case rel=>exact⟨i+z,hdl,HP,hit3,hbi.trans (hb2.mono hbi.size)⟩
    case measure=>simp only[World.iterPos,hit3,hit];omega
  ·obtain rfl:i=s.length:=by omega
   have hnx:∀ty,(Instr.next (.pointer (some ⟨w1.heap.size,0,none⟩)) true ty).run Tryz.prog wr=_:=fun ty=>Lib.run_next_end_at wr w1.heap.size ⟨s.toArray⟩ s.length ty hit hlt
   have HF:=Lib.hid (idxS_any s▸Lib.indexAny_none hp.out:idxS s= -1);clear hp;go_wp2_with fail;go_ret;exact⟨by rw[HF.out];rfl,hbl⟩
theorem idx_sl:IdxSl:=fun s w hs=>by
 by_cases h8:s.length≤8
 ·exact idx_short s w h8
 ·have:=Tryz.strings_IndexAny_long (fun w=>by kernel_rfl) ⟨s.toArray⟩ ⟨#[47,92]⟩ w (by decide) (by show 8<s.length;omega) (by show s.length<_;omega) (by decide) (by
   intro j b hb;have:b∈([47,92]:List UInt8):=List.mem_of_getElem? hb;simp at this;rcases this with rfl|rfl<;>decide)
  refine this.mono ?_;rintro e w1 ⟨rfl,rfl⟩;refine⟨by rw[←idxS_any],((Below.refl _ w).alloc (Nat.le_refl _) _).alloc (by simp) _⟩
end Go.Proofs.YtjkipdoebkhkaaaGreatDoor
