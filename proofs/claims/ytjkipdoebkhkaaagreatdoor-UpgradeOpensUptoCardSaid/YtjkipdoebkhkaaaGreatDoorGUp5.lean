/- Seals: the search for a host walked. Printed by mkseal.py out of XConnFind. -/
import Derived.Test.YtjkipdoebkhkaaaGreatDoorGUp4
import Derived.Deep.RegionHeld
import Derived.Test.YtjkipdoebkhkaaaGreatDoorGREnc
set_option linter.unusedVariables false
set_option linter.unusedSimpArgs false
set_option maxHeartbeats 16000000
namespace Go.Proofs.YtjkipdoebkhkaaaGreatDoor
open Go.RowKit
def cmpS (a b:List UInt8):Int:=if a<b then -1 else if b<a then 1 else 0
theorem cmpS_neg {a b:List UInt8}:cmpS a b<0↔a<b:=by unfold cmpS;split<;>(try split)<;>simp_all
theorem cmpS_zero {a b:List UInt8}:cmpS a b=0↔a=b:=by
 unfold cmpS;constructor
 ·intro h
  split at h
  ·omega
  ·rename_i h1
   split at h
   ·omega
   ·rename_i h2
    exact List.le_antisymm (List.not_lt.1 h2) (List.not_lt.1 h1)
 ·rintro rfl
  rw[if_neg (List.lt_irrefl _),if_neg (List.lt_irrefl _)]
theorem nan_any (a:List UInt8) (w:World):Calls Tryz.prog 75 #[.string ⟨a.toArray⟩] w fun e w'=>e= .returned (.bool false)∧w=w':=by
 go_enter Tryz.func75,Tryz.ntmps75;go_wp2_with fail;go_ret;exact⟨by simp,rfl⟩
theorem cmp_any (a b:List UInt8) (w:World):Calls Tryz.prog 35 #[.string ⟨a.toArray⟩, .string ⟨b.toArray⟩] w fun e w'=>e= .returned (.int .i64 (cmpS a b))∧w=w':=by
 have cn:=nan_any;by_cases h1:a<b
 ·have hr:cmpS a b= -1:=by unfold cmpS;rw[if_pos h1]
  have hb:Op.bytesLess a b=true:=by rw[bytesLess_eq];exact decide_eq_true h1
  rw[hr];clear hr h1;go_enter Tryz.func35,Tryz.ntmps35;go_wp2_with(go_at_call 75;refine(cn _ _).mono ?_;rintro e w1 ⟨rfl,rfl⟩);go_ret;exact⟨rfl,rfl⟩
 ·have hb:Op.bytesLess a b=false:=by rw[bytesLess_eq];exact decide_eq_false h1
  by_cases h2:b<a
  ·have hr:cmpS a b=1:=by unfold cmpS;rw[if_neg h1,if_pos h2]
   have he:(a==b)=false:=beq_eq_false_iff_ne.2 (fun e=>List.lt_irrefl _ (e▸h2));rw[hr];clear hr h1 h2;go_enter Tryz.func35,Tryz.ntmps35;go_wp2_with(go_at_call 75;refine(cn _ _).mono ?_;rintro e w1 ⟨rfl,rfl⟩);go_ret;exact⟨rfl,rfl⟩
  ·obtain rfl:a=b:=List.le_antisymm (List.not_lt.1 h2) (List.not_lt.1 h1)
   have hr:cmpS a a=0:=cmpS_zero.2 rfl;rw[hr];clear hr h1 h2;go_enter Tryz.func35,Tryz.ntmps35;go_wp2_with(go_at_call 75;refine(cn _ _).mono ?_;rintro e w1 ⟨rfl,rfl⟩);go_ret;exact⟨rfl,rfl⟩
theorem apply3_any (x:SealL) (n:List UInt8) (w:World):Calls Tryz.prog 46 #[.agg #[.string ⟨x.host.toArray⟩, .bool x.subs, .int .i64 x.till], .string ⟨n.toArray⟩] w fun e w'=>e= .returned (.int .i64 (cmpS x.host n))∧Below w.heap.size w w':=by
 have hc:=fun W=>cmp_any x.host n W
 generalize cmpS x.host n=r at*;have hb:=below_alloc w (.cells #[.string ⟨x.host.toArray⟩, .bool x.subs, .int .i64 x.till] 44);go_enter Tryz.func46,Tryz.ntmps46;go_wp2_with(go_at_call 35;refine(hc _).mono ?_;rintro e w1 ⟨rfl,rfl⟩);go_ret;exact⟨rfl,hb⟩
theorem seal_szz (x:SealL):(Tryz.prog.info? 44).map (·.size)=some (cellsS x).length:=by kernel_rfl
theorem place_splitS {S:List SealL} (hp:SrtS S) (h:List UInt8):∀i x,S[i]?=some x→(x.host<h↔i<placeS S h):=by
 intro i x hx;obtain⟨A,M,B,hS,hl,hA,hB,hM⟩:=three_place hp h;rw[←hl];constructor
 ·intro hlt
  refine Classical.byContradiction fun hn=> ?_
  have hx2:(M++B)[i-A.length]?=some x:=by
   rw[hS,List.append_assoc,List.getElem?_append_right (by omega)]at hx;exact hx
  have hm:=List.mem_of_getElem? hx2;rcases List.mem_append.1 hm with h1|h1
  ·rcases hM with ⟨rfl,_⟩|⟨y,rfl,hy,_⟩
   ·cases h1
   ·rw[List.mem_singleton]at h1
    subst h1;exact List.lt_irrefl _ (hy▸hlt)
  ·exact List.lt_irrefl _ (List.lt_trans hlt (hB x h1))
 ·intro hlt
  rw[hS,List.append_assoc,List.getElem?_append_left hlt]at hx;exact hA x (List.mem_of_getElem? hx)
theorem placeS_le (S:List SealL) (h:List UInt8):placeS S h≤S.length:=List.length_filter_le _ _
set_option maxRecDepth 100000 in
theorem bsearchS_any (X:List SealL) (hp:SrtS X) (v:Value) (n:List UInt8) (w:World) (ht:RowS 3 cellsS w v X) (hl:X.length≤1000):
 Calls Tryz.prog 45 #[v, .string ⟨n.toArray⟩, .func (.func 46) #[] #[]] w fun e w'=>e= .returned (.tuple #[.int .i64 (placeS X n), .bool (foundS X n)])∧Below w.heap.size w w':=by
 have hbw:=Below.refl w.heap.size w
 have hpl:=placeS_le X n
 rcases ht with ⟨rfl,rfl⟩|⟨a,c,rfl,hc,hab,hcell⟩
 ·go_enter Tryz.func45,Tryz.ntmps45
  go_wp2_with fail;go_loop [9,10] (fun i j=>i= .int .i64 0∧j= .int .i64 0) (fun _ _=>0)
  case atStart=>exact⟨rfl,rfl⟩
  case round=>
   obtain⟨rfl,rfl⟩:=hrel;go_wp2_with fail;go_ret2;exact⟨rfl,hbw⟩
 ·have hrow:RowS 3 cellsS w (.slice (some a) X.length c) X:= .inr ⟨a,c,rfl,hc,hab,hcell⟩
  have HC:=Lib.hid fun (k:Nat) (hk:k<X.length) W (hW:Below w.heap.size w W)=>hrow.each k hk W hW
  have HS:=Lib.hid (place_splitS hp n);have HF:Hid (∀(h:placeS X n<X.length),foundS X n=decide (X[placeS X n].host=n)):=fun h=>by unfold foundS;rw[List.getElem?_eq_getElem h]
  have HF2:Hid (placeS X n=X.length→foundS X n=false):=fun h=>by unfold foundS;rw[List.getElem?_eq_none (by omega)]
  generalize placeS X n=q at*;generalize foundS X n=fd at*;clear hcell hrow hp;go_enter Tryz.func45,Tryz.ntmps45;go_wp2_with fail;go_loopw [9,10] (fun i j wr=>∃lo hi:Nat,i= .int .i64 lo∧j= .int .i64 hi∧lo≤q∧q≤hi∧hi≤X.length∧Below w.heap.size w wr) (fun i j _=>(intOf j).toNat-(intOf i).toNat)
  case atStart=>exact⟨0,X.length,rfl,rfl,Nat.zero_le _,hpl,Nat.le_refl _,hbw⟩
  case round=>
   obtain⟨lo,hi,rfl,rfl,hlq,hqh,hhi,hbr⟩:=hrel;by_cases hlt:lo<hi
   ·have hm:(lo+hi)/2<X.length:=by omega
    have hck:=HC.out ((lo+hi)/2) hm _ hbr;have hsp:=HS.out ((lo+hi)/2) _ (List.getElem?_eq_getElem hm);have hik:=seal_szz X[(lo+hi)/2];have cp:=fun W=>apply3_any X[(lo+hi)/2] n W
    have hlti:(lo:Int)<(hi:Int):=by omega
    have hmi:((lo:Int)+(hi:Int))/2<(X.length:Int):=by omega
    have hmn:(((lo:Int)+(hi:Int))/2).toNat=(lo+hi)/2:=by omega
    generalize hcx:cmpS X[(lo+hi)/2].host n=r at cp;have hr:r<0↔(lo+hi)/2<q:=by rw[←hcx,cmpS_neg];exact hsp
    clear hcx hsp;generalize X[(lo+hi)/2]=x at*;have CP:=Lib.hid cp;clear cp;by_cases hrn:r<0
    ·have hq:=hr.1 hrn
     clear hr;go_wp2_with(first|(refine wpList_load_at (o:=⟨some 28, .load 44 (.tmp 27),_,_,_,_⟩) rfl 44 (.tmp 27) rfl (a.add ((lo+hi)/2*3)) rfl [.string ⟨x.host.toArray⟩, .bool x.subs, .int .i64 x.till] _ hck Tryz.underlying44 rfl hik ?_)|(go_at_call 46;refine(CP.out _).mono ?_;rintro e w1 ⟨rfl,hb1⟩));have hb2:=hbr.trans (hb1.mono hbr.size);go_roundw
     case rel=>exact⟨(lo+hi)/2+1,hi,by go_num,rfl,by omega,hqh,hhi,hb2⟩
     case measure=>simp[intOf];omega
    ·have hq:¬(lo+hi)/2<q:=fun h=>hrn (hr.2 h)
     have hrn2:0≤r:=by omega
     clear hr hrn;go_wp2_with(first|(refine wpList_load_at (o:=⟨some 28, .load 44 (.tmp 27),_,_,_,_⟩) rfl 44 (.tmp 27) rfl (a.add ((lo+hi)/2*3)) rfl [.string ⟨x.host.toArray⟩, .bool x.subs, .int .i64 x.till] _ hck Tryz.underlying44 rfl hik ?_)|(go_at_call 46;refine(CP.out _).mono ?_;rintro e w1 ⟨rfl,hb1⟩));have hb2:=hbr.trans (hb1.mono hbr.size);go_roundw
     case rel=>exact⟨lo,(lo+hi)/2,rfl,by go_num,hlq,by omega,by omega,hb2⟩
     case measure=>simp[intOf];omega
   ·obtain rfl:lo=q:=by omega
    obtain rfl:lo=hi:=by omega
    by_cases hlx:lo<X.length
    ·have hck:=HC.out lo hlx _ hbr
     have hik:=seal_szz X[lo];have cp:=fun W=>apply3_any X[lo] n W
     have hf:=HF.out hlx;have hloi:(lo:Int)<(X.length:Int):=by omega
     generalize hcx:cmpS X[lo].host n=r at cp;have hr:r=0↔X[lo].host=n:=by rw[←hcx,cmpS_zero]
     clear hcx;generalize X[lo]=x at*;have CP:=Lib.hid cp;clear cp;have hrd:fd=decide (r=0):=by
      rw[hf];by_cases h:x.host=n
      ·rw[decide_eq_true (hr.2 h)];simp[h]
      ·rw[decide_eq_false (fun e=>h (hr.1 e))];simp[h]
     have HR:=Lib.hid hrd;clear hrd hf hr;go_wp2_with(first|(refine wpList_load_at (o:=⟨some 44, .load 44 (.tmp 43),_,_,_,_⟩) rfl 44 (.tmp 43) rfl (a.add (lo*3)) rfl [.string ⟨x.host.toArray⟩, .bool x.subs, .int .i64 x.till] _ hck Tryz.underlying44 rfl hik ?_)|(go_at_call 46;refine(CP.out _).mono ?_;rintro e w1 ⟨rfl,hb1⟩))
     all_goals
      have hb2:=hbr.trans (hb1.mono hbr.size);go_ret2;exact⟨by simp only[HR.out];rfl,hb2⟩
    ·have hf:=HF2.out (by omega)
     have hlx2:X.length≤lo:=by omega
     subst hf;go_wp2_with fail;go_ret2;exact⟨rfl,hbr⟩
theorem tell1_any (x:SealL) (h:List UInt8) (B:Nat) (w:World) (hB:B<w.heap.size) (hc:w.cell? ⟨B,3,none⟩=some (.string ⟨h.toArray⟩)):
 Calls Tryz.prog 30 #[.agg #[.string ⟨x.host.toArray⟩, .bool x.subs, .int .i64 x.till], .pointer (some ⟨B,0,none⟩)] w fun e w'=>e= .returned (.bool (decide (x.host=h)))∧Below w.heap.size w w':=by
 have hb:=below_alloc w (.cells #[.string ⟨x.host.toArray⟩, .bool x.subs, .int .i64 x.till] 44)
 have hc2:(w.alloc (.cells #[.string ⟨x.host.toArray⟩, .bool x.subs, .int .i64 x.till] 44)).cell? ⟨B,3,none⟩=some (.string ⟨h.toArray⟩):=(hb.cell (p:=⟨B,3,none⟩) hB).trans hc
 have e:(x.host==h)=decide (x.host=h):=by
  by_cases e:x.host=h
  ·simp[e]
  ·rw[decide_eq_false e];exact beq_eq_false_iff_ne.2 e
 go_enter Tryz.func30,Tryz.ntmps30
 go_wp2_with fail
 go_ret
 exact⟨by rw[←e];rfl,hb⟩
def idxSl (X:List SealL) (h:List UInt8):Int:=match X.findIdx? (fun s=>decide (s.host=h))with|none=> -1|some i=>(i:Int)
theorem idxSl_none {X:List SealL} {h:List UInt8} (H:∀(j:Nat) (hj:j<X.length),X[j].host≠h):idxSl X h= -1∧hasS X h=none:=by
 have h1:X.findIdx? (fun s=>decide (s.host=h))=none:=by
  rw[List.findIdx?_eq_none_iff];intro x hx;obtain⟨j,hj,rfl⟩:=List.getElem_of_mem hx;exact decide_eq_false (H j hj)
 refine⟨by unfold idxSl;rw[h1], ?_⟩;unfold hasS;rw[List.find?_eq_none];intro x hx;obtain⟨j,hj,rfl⟩:=List.getElem_of_mem hx;simpa using H j hj
theorem idxSl_some {X:List SealL} {h:List UInt8} {i:Nat} (hi:i<X.length) (he:X[i].host=h) (H:∀(j:Nat) (hj:j<i),(X[j]'(by omega)).host≠h):idxSl X h=(i:Int)∧hasS X h=some X[i]:=by
 have h1:X.findIdx? (fun s=>decide (s.host=h))=some i:=by
  rw[List.findIdx?_eq_some_iff_getElem];exact⟨hi,by simpa using he,fun j hj=>by simpa using H j hj⟩
 refine⟨by unfold idxSl;rw[h1], ?_⟩;unfold hasS;rw[List.find?_eq_some_iff_getElem];exact⟨by simpa using he,i,hi,rfl,fun j hj=>by simpa using H j hj⟩
set_option maxRecDepth 100000 in
theorem index_tell (X:List SealL) (v:Value) (h:List UInt8) (B:Nat) (w:World) (hB:B<w.heap.size) (hc:w.cell? ⟨B,3,none⟩=some (.string ⟨h.toArray⟩)) (hrow:RowS 3 cellsS w v X) (hl:X.length≤1048576):
 Calls Tryz.prog 29 #[v, .func (.func 30) #[] #[.pointer (some ⟨B,0,none⟩)]] w fun e w'=>e= .returned (.int .i64 (idxSl X h))∧Below w.heap.size w w':=by
 have hbw:=Below.refl w.heap.size w
 obtain⟨a1,a2,a3,rfl,ha2,ha3⟩:=hrow.conc
 subst ha2
 have HR:=Lib.hid hrow
 have CT:=Lib.hid (fun (x:SealL) W (hW:Below w.heap.size w W)=>tell1_any x h B W (Nat.lt_of_lt_of_le hB hW.size) ((hW.cell (p:=⟨B,3,none⟩) hB).trans hc))
 have hik:(Tryz.prog.info? 44).map (·.size)=some 3:=by kernel_rfl
 clear hc hrow
 go_enter Tryz.func29,Tryz.ntmps29
 go_wp2_with fail
 go_loopw [8] (fun is wr=>∃k:Nat,k≤X.length∧is= .int .i64 k∧Hid (∀(j:Nat) (hj:j<X.length),j<k→X[j].host≠h)∧Below w.heap.size w wr) (fun i _=>X.length-(intOf i).toNat)
 case atStart=>exact⟨0,Nat.zero_le _,rfl,Lib.hid (fun j _ hj=>by omega),hbw⟩
 case round=>
  obtain⟨k,hk,rfl,HN,hbr⟩:=hrel;by_cases hlt:k<X.length
  ·obtain⟨a,rfl⟩:∃a,a1=some a:=by
    rcases HR.out with ⟨h1,h2⟩|⟨x,c,h1,_⟩
    ·rw[h2]at hlt;simp at hlt
    ·injection h1 with h1;exact⟨x,h1⟩
   have hck:=HR.out.each k hlt _ hbr;have hki:(k:Int)<(X.length:Int):=by omega
   obtain⟨x,hx⟩:∃x,X[k]=x:=⟨_,rfl⟩;rw[hx]at hck;have HX:=Lib.hid hx;clear hx;have cx:=CT.out x _ hbr;by_cases he:x.host=h
   ·rw[decide_eq_true he]at cx
    have HI:Hid (idxSl X h=(k:Int)):=(idxSl_some hlt (by rw[HX.out];exact he) (fun j hj=>HN.out j (by omega) hj)).1;clear he;go_wp2_with(first|(refine wpList_load_at (o:=⟨some 15, .load 44 (.tmp 14),_,_,_,_⟩) rfl 44 (.tmp 14) rfl (a.add (k*3)) rfl [.string ⟨x.host.toArray⟩, .bool x.subs, .int .i64 x.till] _ hck Tryz.underlying44 rfl hik ?_)|(go_at_call 30;refine cx.mono ?_;rintro e w1 ⟨rfl,hb1⟩));go_ret;exact⟨by rw[HI.out];rfl,below_nx hbr hb1⟩
   ·rw[decide_eq_false he]at cx
    have HE:=Lib.hid he;clear he;go_wp2_with(first|(refine wpList_load_at (o:=⟨some 15, .load 44 (.tmp 14),_,_,_,_⟩) rfl 44 (.tmp 14) rfl (a.add (k*3)) rfl [.string ⟨x.host.toArray⟩, .bool x.subs, .int .i64 x.till] _ hck Tryz.underlying44 rfl hik ?_)|(go_at_call 30;refine cx.mono ?_;rintro e w1 ⟨rfl,hb1⟩));have hb2:=below_nx hbr hb1;go_roundw
    case rel=>
     refine⟨k+1,by omega,by go_num,Lib.hid (fun j hj hjk=> ?_),hb2⟩;rcases Nat.lt_or_ge j k with h1|h1
     ·exact HN.out j hj h1
     ·obtain rfl:j=k:=by omega
      rw[HX.out];exact HE.out
    case measure=>simp[intOf];omega
  ·have HI:Hid (idxSl X h= -1):=(idxSl_none (fun j hj=>HN.out j hj (by omega))).1
   have hkl:(X.length:Int)≤(k:Int):=by omega
   go_wp2_with fail;go_ret;exact⟨by rw[HI.out];rfl,hbr⟩
def orI (x y:Int):Int:=if x=0 then y else x
set_option maxRecDepth 100000 in
theorem or_any (g:Nat) (x y:Int) (w:World) (h0:w.cell? ⟨g,0,none⟩=some (.int .i64 x)) (h1:w.cell? ⟨g,1,none⟩=some (.int .i64 y)):
 Calls Tryz.prog 33 #[.slice (some ⟨g,0,none⟩) 2 2] w fun e w'=>e= .returned (.int .i64 (orI x y))∧w=w':=by
 obtain⟨r,hr⟩:∃r,orI x y=r:=⟨_,rfl⟩
 rw[hr]
 have HR:=Lib.hid hr
 clear hr
 go_enter Tryz.func33,Tryz.ntmps33
 go_wp2_with fail
 go_loop [8] (fun is=>∃j:Int,(j=0∨j=1∨j=2)∧is= .int .i64 j∧Hid (1≤j→x=0)∧Hid (2≤j→y=0)) (fun i=>2-(intOf i).toNat)
 case atStart=>exact⟨0, .inl rfl,rfl,Lib.hid (fun h=>by omega),Lib.hid (fun h=>by omega)⟩
 case round=>
  obtain⟨j,hj,rfl,HX,HY⟩:=hrel;rcases hj with rfl|rfl|rfl
  ·by_cases hx:x=0
   ·subst hx
    go_wp2_with fail;go_roundw
    case rel=>exact⟨1, .inr (.inl rfl),rfl,Lib.hid (fun _=>by first|rfl|trivial),Lib.hid (fun h=>by omega)⟩
    case measure=>simp[intOf]
   ·have hr:r=x:=by rw[←HR.out];unfold orI;rw[if_neg hx]
    have hxe:(x==0)=false:=beq_eq_false_iff_ne.2 hx;clear HR HX HY;subst hr;go_wp2_with fail;go_ret;exact⟨rfl,rfl⟩
  ·have hx:=HX.out (by omega)
   by_cases hy:y=0
   ·subst hy
    go_wp2_with fail;go_roundw
    case rel=>exact⟨2, .inr (.inr rfl),rfl,Lib.hid (fun _=>hx),Lib.hid (fun _=>by first|rfl|trivial)⟩
    case measure=>simp[intOf]
   ·have hr:r=y:=by rw[←HR.out];unfold orI;rw[if_pos hx]
    have hye:(y==0)=false:=beq_eq_false_iff_ne.2 hy;clear HR HX HY;subst hr;go_wp2_with fail;go_ret;exact⟨rfl,rfl⟩
  ·have hx:=HX.out (by omega)
   have hy:=HY.out (by omega);have hr:r=0:=by rw[←HR.out];unfold orI;rw[if_pos hx,hy]
   clear HR HX HY;subst hr;go_wp2_with fail;go_ret;exact⟨rfl,rfl⟩
def cmpSl (a b:SealL):Int:=orI (Lib.compareInt a.till b.till) (cmpS a.host b.host)
theorem cmpSl_less (a b:SealL):cmpSl a b<0↔lessS a b=true:=by
 unfold cmpSl orI lessS Lib.compareInt;simp only[Bool.or_eq_true,Bool.and_eq_true,decide_eq_true_eq];by_cases h1:a.till<b.till
 ·simp[h1]
 ·by_cases h2:b.till<a.till
  ·have h3:¬a.till=b.till:=by omega
   simp[h1,h2,h3]
  ·have h3:a.till=b.till:=by omega
   simp only[h1,h2,h3,if_false,Int.lt_irrefl,if_true,false_or,true_and];exact cmpS_neg
set_option maxRecDepth 100000 in
theorem tell2_any (x y:SealL) (w:World):
 Calls Tryz.prog 32 #[.agg #[.string ⟨x.host.toArray⟩, .bool x.subs, .int .i64 x.till], .agg #[.string ⟨y.host.toArray⟩, .bool y.subs, .int .i64 y.till]] w fun e w'=>e= .returned (.int .i64 (cmpSl x y))∧Below w.heap.size w w':=by
 obtain⟨W1,hW1⟩:∃W,w.alloc (.cells #[.string ⟨x.host.toArray⟩, .bool x.subs, .int .i64 x.till] 44)=W:=⟨_,rfl⟩
 obtain⟨W0,hW0⟩:∃W,W1.alloc (.cells #[.string ⟨y.host.toArray⟩, .bool y.subs, .int .i64 y.till] 44)=W:=⟨_,rfl⟩
 have hb1:Below w.heap.size w W1:=by rw[←hW1];exact below_alloc w _
 have hb2:Below W1.heap.size W1 W0:=by rw[←hW0];exact below_alloc W1 _
 have hs1:W1.heap.size=w.heap.size+1:=by rw[←hW1,World.size_alloc]
 have hx:W0.heap[w.heap.size]?=some (.cells #[.string ⟨x.host.toArray⟩, .bool x.subs, .int .i64 x.till] 44 (0,0)):=(hb2.block _ (by omega)).trans (by rw[←hW1];exact heap_alloc_new w _)
 have hy:W0.heap[w.heap.size+1]?=some (.cells #[.string ⟨y.host.toArray⟩, .bool y.subs, .int .i64 y.till] 44 (0,0)):=by rw[←hs1,←hW0];exact heap_alloc_new W1 _
 have hb0:=below_nx hb1 hb2
 have x0:W0.cell? ⟨w.heap.size,0,none⟩=some (.string ⟨x.host.toArray⟩):=by rw[Lib.cell_of_heap hx];rfl
 have x2:W0.cell? ⟨w.heap.size,2,none⟩=some (.int .i64 x.till):=by rw[Lib.cell_of_heap hx];rfl
 have y0:W0.cell? ⟨w.heap.size+1,0,none⟩=some (.string ⟨y.host.toArray⟩):=by rw[Lib.cell_of_heap hy];rfl
 have y2:W0.cell? ⟨w.heap.size+1,2,none⟩=some (.int .i64 y.till):=by rw[Lib.cell_of_heap hy];rfl
 have HW:Hid ((w.alloc (.cells #[.string ⟨x.host.toArray⟩, .bool x.subs, .int .i64 x.till] 44)).alloc (.cells #[.string ⟨y.host.toArray⟩, .bool y.subs, .int .i64 y.till] 44)=W0):=by show _=_;rw[hW1,hW0]
 have hlast:=(below_nx hb0 (below_alloc W0 (.cells #[.int .i64 (Lib.compareInt x.till y.till), .int .i64 (cmpS x.host y.host)] 3))).drew
 have O0:Hid ((W0.alloc (.cells #[.int .i64 (Lib.compareInt x.till y.till), .int .i64 (cmpS x.host y.host)] 3)).drew.cell? ⟨W0.heap.size,0,none⟩=some (.int .i64 (Lib.compareInt x.till y.till))):=by
  show(W0.alloc (.cells #[.int .i64 (Lib.compareInt x.till y.till), .int .i64 (cmpS x.host y.host)] 3)).cell? ⟨W0.heap.size,0,none⟩=_;rw[Lib.cell_of_heap (heap_alloc_new _ _)];rfl
 have O1:Hid ((W0.alloc (.cells #[.int .i64 (Lib.compareInt x.till y.till), .int .i64 (cmpS x.host y.host)] 3)).drew.cell? ⟨W0.heap.size,1,none⟩=some (.int .i64 (cmpS x.host y.host))):=by
  show(W0.alloc (.cells #[.int .i64 (Lib.compareInt x.till y.till), .int .i64 (cmpS x.host y.host)] 3)).cell? ⟨W0.heap.size,1,none⟩=_;rw[Lib.cell_of_heap (heap_alloc_new _ _)];rfl
 clear hW0 hW1 hb1 hb2 hx hy hs1 hb0
 go_enter Tryz.func32,Tryz.ntmps32
 go_upto_region 1 with fail
 rw[HW.out]
 go_region_law (first
  |(go_simp;go_at_call 34;refine(Tryz.cmp_Compare_int _ _ _).mono ?_;rintro e w' ⟨rfl,rfl⟩)
  |(go_simp;go_at_call 35;refine(cmp_any _ _ _).mono ?_;rintro e w' ⟨rfl,rfl⟩)
  |(go_simp;go_at_call 33;refine(or_any _ _ _ _ O0.out O1.out).mono ?_;rintro e w' ⟨rfl,rfl⟩))
 all_goals
  go_wp2_with fail;go_ret;exact⟨rfl,hlast⟩
structure MinW (w:World) (m:SealL) (wr:World):Prop where
 low:Below w.heap.size w wr
 rs:wr.heap[w.heap.size]?=some (.cells #[.string ⟨#[]⟩, .bool false, .int .i64 0] 44 (0,0))
 mn:wr.heap[w.heap.size+1]?=some (.cells #[.string ⟨m.host.toArray⟩, .bool m.subs, .int .i64 m.till] 44 (0,0))
theorem MinW.below {w wr wx:World} {m:SealL} (h:MinW w m wr) (k:Below wr.heap.size wr wx):MinW w m wx:=
 ⟨below_nx h.low k,(k.block _ (Array.getElem?_eq_some_iff.1 h.rs).1).trans h.rs,(k.block _ (Array.getElem?_eq_some_iff.1 h.mn).1).trans h.mn⟩
theorem MinW.cells {w wr:World} {m:SealL} (h:MinW w m wr):wr.cell? ⟨w.heap.size+1,0,none⟩=some (.string ⟨m.host.toArray⟩)∧wr.cell? ⟨w.heap.size+1,1,none⟩=some (.bool m.subs)∧wr.cell? ⟨w.heap.size+1,2,none⟩=some (.int .i64 m.till)∧wr.frozen? ⟨w.heap.size+1,0,none⟩=false∧wr.frozen? ⟨w.heap.size+1,1,none⟩=false∧wr.frozen? ⟨w.heap.size+1,2,none⟩=false:=by
 have hr:=h.mn;exact⟨by rw[Lib.cell_of_heap hr];rfl,by rw[Lib.cell_of_heap hr];rfl,by rw[Lib.cell_of_heap hr];rfl,by simp[World.frozen?,hr],by simp[World.frozen?,hr],by simp[World.frozen?,hr]⟩
theorem MinW.cells2 {w wr:World} {m:SealL} (h:MinW w m wr):wr.cell? ⟨w.heap.size,0,none⟩=some (.string ⟨#[]⟩)∧wr.cell? ⟨w.heap.size,1,none⟩=some (.bool false)∧wr.cell? ⟨w.heap.size,2,none⟩=some (.int .i64 0)∧wr.frozen? ⟨w.heap.size,0,none⟩=false∧wr.frozen? ⟨w.heap.size,1,none⟩=false∧wr.frozen? ⟨w.heap.size,2,none⟩=false:=by
 have hr:=h.rs;exact⟨by rw[Lib.cell_of_heap hr];rfl,by rw[Lib.cell_of_heap hr];rfl,by rw[Lib.cell_of_heap hr];rfl,by simp[World.frozen?,hr],by simp[World.frozen?,hr],by simp[World.frozen?,hr]⟩
theorem MinW.set {w wr:World} {m:SealL} (h:MinW w m wr) (x:SealL):MinW w x (((wr.setCell ⟨w.heap.size+1,0,none⟩ (.string ⟨x.host.toArray⟩)).setCell ⟨w.heap.size+1,1,none⟩ (.bool x.subs)).setCell ⟨w.heap.size+1,2,none⟩ (.int .i64 x.till)):=
 ⟨((h.low.setCell (p:=⟨w.heap.size+1,0,none⟩) (by simp only;omega) _).setCell (p:=⟨w.heap.size+1,1,none⟩) (by simp only;omega) _).setCell (p:=⟨w.heap.size+1,2,none⟩) (by simp only;omega) _,
   (heap_setCell_other _ ⟨w.heap.size+1,2,none⟩ _ _ (by simp only;omega)).trans ((heap_setCell_other _ ⟨w.heap.size+1,1,none⟩ _ _ (by simp only;omega)).trans ((heap_setCell_other _ ⟨w.heap.size+1,0,none⟩ _ _ (by simp only;omega)).trans h.rs)),
   heap_setCell_same _ (w.heap.size+1) 2 _ _ _ (heap_setCell_same _ (w.heap.size+1) 1 _ _ _ (heap_setCell_same wr (w.heap.size+1) 0 _ _ _ h.mn))⟩
theorem leastS_snoc:∀(l:List SealL) (m x:SealL),leastS m (l++[x])=if lessS x (leastS m l)then x else leastS m l
 |[],m,x=>rfl
 |y::l,m,x=>leastS_snoc l (if lessS y m then y else m) x
theorem min_results {B:Nat} {W:World} {m:SealL} {tmps:Array Value} (h2:tmps[4]?.getD undef= .pointer (some ⟨B,0,none⟩)) (hB:W.heap[B]?=some (.cells #[.string ⟨m.host.toArray⟩, .bool m.subs, .int .i64 m.till] 44 (0,0))):
 (results Tryz.f31 tmps).run Tryz.prog W= .ok (sealVal m) W:=by
 have c0:W.cell? ⟨B,0,none⟩=some (.string ⟨m.host.toArray⟩):=by rw[Lib.cell_of_heap hB];rfl
 have c1:W.cell? ⟨B,1,none⟩=some (.bool m.subs):=by rw[Lib.cell_of_heap hB];rfl
 have c2:W.cell? ⟨B,2,none⟩=some (.int .i64 m.till):=by rw[Lib.cell_of_heap hB];rfl
 simp[results,Tryz.results31,go_sem,h2,c0,c1,c2]
 rfl
set_option maxRecDepth 100000 in
theorem min_any (m0:SealL) (l:List SealL) (v:Value) (w:World) (hrow:RowS 3 cellsS w v (m0::l)) (hl:(m0::l).length≤1048576):
 Calls Tryz.prog 31 #[v, .func (.func 32) #[] #[]] w fun e w'=>e= .returned (sealVal (leastS m0 l))∧Below w.heap.size w w':=by
 obtain⟨X,hX⟩:∃X,X=m0::l:=⟨_,rfl⟩
 rw[←hX]at hrow hl
 obtain⟨a1,a2,a3,rfl,ha2,ha3⟩:=hrow.conc
 subst ha2
 have hXl:X.length=l.length+1:=by rw[hX];rfl
 obtain⟨a,rfl⟩:∃a,a1=some a:=by
  rcases hrow with ⟨h1,h2⟩|⟨x,c,h1,_⟩
  ·rw[h2]at hXl;simp at hXl
  ·injection h1 with h1;exact⟨x,h1⟩
 have HX:=Lib.hid hX
 have HR:=Lib.hid hrow
 have hik:(Tryz.prog.info? 44).map (·.size)=some 3:=by kernel_rfl
 have h0l:0<X.length:=by omega
 have hx0:X[0]=m0:=by simp[HX.out]
 have h1i:¬(X.length:Int)<1:=by omega
 have h0i:(0:Int)<(X.length:Int):=by omega
 clear hX hrow
 have hst:Hid (∀k (hk:k<X.length),1≤k→leastS m0 (l.take (k+1-1))=(if lessS X[k] (leastS m0 (l.take (k-1)))then X[k]else leastS m0 (l.take (k-1)))):=Lib.hid (fun k hk h0=>by
  obtain⟨j,rfl⟩:∃j,k=j+1:=⟨k-1,by omega⟩;have hj:j<l.length:=by omega
  have e1:X[j+1]=l[j]:=by simp[HX.out]
  rw[e1,Nat.add_sub_cancel,Nat.add_sub_cancel,List.take_add_one,List.getElem?_eq_getElem hj];exact leastS_snoc _ _ _)
 have hend:Hid (leastS m0 (l.take (X.length-1))=leastS m0 l):=Lib.hid (by rw[hXl,Nat.add_sub_cancel,List.take_length])
 obtain⟨W1,hW1⟩:∃W,w.alloc (.cells #[.string ⟨#[]⟩, .bool false, .int .i64 0] 44)=W:=⟨_,rfl⟩
 obtain⟨W2,hW2⟩:∃W,W1.alloc (.cells #[.string ⟨m0.host.toArray⟩, .bool m0.subs, .int .i64 m0.till] 44)=W:=⟨_,rfl⟩
 have hb1:Below w.heap.size w W1:=by rw[←hW1];exact below_alloc w _
 have hb12:Below W1.heap.size W1 W2:=by rw[←hW2];exact below_alloc W1 _
 have hs1:W1.heap.size=w.heap.size+1:=by rw[←hW1,World.size_alloc]
 have hM2:MinW w m0 W2:=⟨below_nx hb1 hb12,(hb12.block _ (by omega)).trans (by rw[←hW1];exact heap_alloc_new w _),by rw[←hs1,←hW2];exact heap_alloc_new W1 _⟩
 have hx0c:=HR.out.each 0 h0l W1 hb1
 rw[hx0]at hx0c
 have HM2:=Lib.hid hM2
 have HW1:=Lib.hid hW1
 have HW2:=Lib.hid hW2
 have Hs1:=Lib.hid hs1
 clear hW1 hW2 hM2 hs1 hb12 hx0 hXl
 go_enter Tryz.func31,Tryz.ntmps31
 go_upto_region 3 with fail
 rw[HW1.out]
 go_upto_region 4 with (refine wpList_load_at (o:=⟨some 13, .load 44 (.tmp 12),_,_,_,_⟩) rfl 44 (.tmp 12) rfl (a.add (0*3)) rfl [.string ⟨m0.host.toArray⟩, .bool m0.subs, .int .i64 m0.till] _ hx0c Tryz.underlying44 rfl hik ?_)
 rw[HW2.out]
 try simp only[Hs1.out]
 clear hx0c HW1 HW2 Hs1 hb1
 have hle0:Hid (leastS m0 (l.take (1-1))=m0):=Lib.hid rfl
 go_wp2_with fail
 go_loopw [6] (fun i wr=>∃(k:Nat) (m:SealL),1≤k∧k≤X.length∧i= .int .i64 k∧Hid (leastS m0 (l.take (k-1))=m)∧Hid (MinW w m wr)) (fun i _=>X.length-(intOf i).toNat)
 case atStart=>exact⟨1,m0,Nat.le_refl _,h0l,rfl,hle0,HM2⟩
 case round=>
  obtain⟨k,m,hk1,hk,rfl,HLe,HM⟩:=hrel;have hbr:=HM.out.low;by_cases hlt:k<X.length
  ·have hki:(k:Int)<(X.length:Int):=by omega
   have hs3:=hst.out k hlt hk1;rw[HLe.out]at hs3;have hX4:=fun W (hW:Below wr.heap.size wr W)=>HR.out.each k hlt W (below_nx hbr hW)
   obtain⟨x,hx⟩:∃x,X[k]=x:=⟨_,rfl⟩;rw[hx]at hs3;rw[hx]at hX4;clear hx;have hM4:∀W,Below wr.heap.size wr W→∀j v,[Value.string ⟨m.host.toArray⟩, .bool m.subs, .int .i64 m.till][j]?=some v→W.cell? ((⟨w.heap.size+1,0,none⟩:Addr).add j)=some v:=fun W hW j v hv=>by
    rw[Addr.add_lit,Nat.zero_add,Lib.cell_of_heap (HM.out.below hW).mn];simpa using hv
   have CT:=fun W=>tell2_any x m W
   have hlr:=cmpSl_less x m;generalize cmpSl x m=r at CT hlr;by_cases hr:r<0
   ·rw[if_pos (hlr.1 hr)]at hs3
    have HS3:=Lib.hid hs3;clear hs3 hlr hst hend HLe hle0 HM2 HR HX;go_upto_region 7 with fail;have hS:=(Below.refl wr.heap.size wr).drew;refine wp_region_held_drew (S:=fun W=>Below wr.heap.size wr W) (by kernel_rfl) hS (fun _=> ?_);refine wpAnyH_take (i:=0) (oi:=⟨some 20, .move (.tmp 1),_,_,_,_⟩) (v:= .func (.func 32) #[] #[]) rfl (by kernel_rfl) (by kernel_rfl) (by kernel_rfl) (fun _ _ _ h=>h) (.inl ⟨by rfl,fun W hW=>by go_simp⟩) hS ?_
    try simp only[Act.put,List.setIfInBounds_toArray,List.set_cons_zero,List.set_cons_succ]
    refine wpAnyH_take (i:=1) (oi:=⟨some 21, .move (.tmp 0),_,_,_,_⟩) (v:= .slice (some a) X.length a3) rfl (by kernel_rfl) (by kernel_rfl) (by kernel_rfl) (fun _ _ _ h=>h) (.inl ⟨by rfl,fun W hW=>by go_simp⟩) hS ?_
    try simp only[Act.put,List.setIfInBounds_toArray,List.set_cons_zero,List.set_cons_succ]
    refine wpAnyH_take (i:=2) (oi:=⟨some 22, .move (.tmp 6),_,_,_,_⟩) (v:= .int .i64 k) rfl (by kernel_rfl) (by kernel_rfl) (by kernel_rfl) (fun _ _ _ h=>h) (.inl ⟨by rfl,fun W hW=>by go_simp⟩) hS ?_
    try simp only[Act.put,List.setIfInBounds_toArray,List.set_cons_zero,List.set_cons_succ]
    refine wpAnyH_take (i:=3) (oi:=⟨some 23, .indexAddr 23 (.tmp 21) (.tmp 22),_,_,_,_⟩) (v:= .pointer (some (a.add (k*3)))) rfl (by kernel_rfl) (by kernel_rfl) (by kernel_rfl) (fun _ _ _ h=>h) (.inl ⟨by rfl,fun W hW=>by go_simp⟩) hS ?_
    try simp only[Act.put,List.setIfInBounds_toArray,List.set_cons_zero,List.set_cons_succ]
    refine wpAnyH_take (i:=4) (oi:=⟨some 24, .load 44 (.tmp 23),_,_,_,_⟩) (v:= .agg #[.string ⟨x.host.toArray⟩, .bool x.subs, .int .i64 x.till]) rfl (by kernel_rfl) (by kernel_rfl) (by kernel_rfl) (fun _ _ _ h=>h) (yieldsIf_load_at (by rfl) 44 (.tmp 23) rfl (a.add (k*3)) rfl [.string ⟨x.host.toArray⟩, .bool x.subs, .int .i64 x.till] _ hX4 Tryz.underlying44 rfl hik) hS ?_
    try simp only[Act.put,List.setIfInBounds_toArray,List.set_cons_zero,List.set_cons_succ]
    refine wpAnyH_take (i:=5) (oi:=⟨some 25, .load 44 (.tmp 5),_,_,_,_⟩) (v:= .agg #[.string ⟨m.host.toArray⟩, .bool m.subs, .int .i64 m.till]) rfl (by kernel_rfl) (by kernel_rfl) (by kernel_rfl) (fun _ _ _ h=>h) (yieldsIf_load_at (by rfl) 44 (.tmp 5) rfl ⟨w.heap.size+1,0,none⟩ rfl [.string ⟨m.host.toArray⟩, .bool m.subs, .int .i64 m.till] _ hM4 Tryz.underlying44 rfl hik) hS ?_
    try simp only[Act.put,List.setIfInBounds_toArray,List.set_cons_zero,List.set_cons_succ]
    refine wpAnyH_ready (rs:=[6]) (by kernel_rfl) (by simp) ?_;refine AllReadyH.cons (o:=⟨some 26, .call {callee:= .value (.tmp 20),args:= #[.tmp 24, .tmp 25],argTypes:= #[44,44]},_,_,_,_⟩) rfl (fun K hK=> ?_) AllReadyH.nil;go_simp;go_at_call 32;refine(CT _).mono ?_;rintro e z1 ⟨rfl,hn⟩;go_wp2_with fail;have hS1:=hS.trans (hn.mono hS.size);refine hK.out _ _ hS1 (fun _=> ?_);clear hK hS hn K;have hS:=hS1;clear hS1
    try simp only[Act.put,List.setIfInBounds_toArray,List.set_cons_zero,List.set_cons_succ]
    refine wpAnyH_take (i:=7) (oi:=⟨some 27, .binOp .lss 3 (.tmp 26) (.const (.int .i64 0)) 3,_,_,_,_⟩) (v:= .bool true) rfl (by kernel_rfl) (by kernel_rfl) (by kernel_rfl) (fun _ _ _ h=>h) (.inl ⟨by rfl,fun W hW=>by go_simp⟩) hS ?_
    try simp only[Act.put,List.setIfInBounds_toArray,List.set_cons_zero,List.set_cons_succ]
    refine wpAnyH_done (by kernel_rfl) ?_ _;have hMz:=HM.out.below hS;obtain⟨q0,q1,q2,q3,q4,q5⟩:=hMz.cells;have hck:=hX4 _ hS;clear hM4 CT hX4;have HMZ:=Lib.hid hMz;clear hMz;go_wp2_with(refine wpList_load_at (o:=⟨some 31, .load 44 (.tmp 30),_,_,_,_⟩) rfl 44 (.tmp 30) rfl (a.add (k*3)) rfl [.string ⟨x.host.toArray⟩, .bool x.subs, .int .i64 x.till] _ hck Tryz.underlying44 rfl hik ?_);go_roundw
    case rel=>exact⟨k+1,x,by omega,by omega,by go_num,HS3,Lib.hid (HMZ.out.set x)⟩
    case measure=>simp[intOf];omega
   ·have hr0:0≤r:=by omega
    rw[if_neg (fun h=>hr (hlr.2 h))]at hs3;have HS3:=Lib.hid hs3;clear hs3 hlr hst hend HLe hle0 HM2 HR HX hr;go_upto_region 7 with fail;have hS:=(Below.refl wr.heap.size wr).drew;refine wp_region_held_drew (S:=fun W=>Below wr.heap.size wr W) (by kernel_rfl) hS (fun _=> ?_);refine wpAnyH_take (i:=0) (oi:=⟨some 20, .move (.tmp 1),_,_,_,_⟩) (v:= .func (.func 32) #[] #[]) rfl (by kernel_rfl) (by kernel_rfl) (by kernel_rfl) (fun _ _ _ h=>h) (.inl ⟨by rfl,fun W hW=>by go_simp⟩) hS ?_
    try simp only[Act.put,List.setIfInBounds_toArray,List.set_cons_zero,List.set_cons_succ]
    refine wpAnyH_take (i:=1) (oi:=⟨some 21, .move (.tmp 0),_,_,_,_⟩) (v:= .slice (some a) X.length a3) rfl (by kernel_rfl) (by kernel_rfl) (by kernel_rfl) (fun _ _ _ h=>h) (.inl ⟨by rfl,fun W hW=>by go_simp⟩) hS ?_
    try simp only[Act.put,List.setIfInBounds_toArray,List.set_cons_zero,List.set_cons_succ]
    refine wpAnyH_take (i:=2) (oi:=⟨some 22, .move (.tmp 6),_,_,_,_⟩) (v:= .int .i64 k) rfl (by kernel_rfl) (by kernel_rfl) (by kernel_rfl) (fun _ _ _ h=>h) (.inl ⟨by rfl,fun W hW=>by go_simp⟩) hS ?_
    try simp only[Act.put,List.setIfInBounds_toArray,List.set_cons_zero,List.set_cons_succ]
    refine wpAnyH_take (i:=3) (oi:=⟨some 23, .indexAddr 23 (.tmp 21) (.tmp 22),_,_,_,_⟩) (v:= .pointer (some (a.add (k*3)))) rfl (by kernel_rfl) (by kernel_rfl) (by kernel_rfl) (fun _ _ _ h=>h) (.inl ⟨by rfl,fun W hW=>by go_simp⟩) hS ?_
    try simp only[Act.put,List.setIfInBounds_toArray,List.set_cons_zero,List.set_cons_succ]
    refine wpAnyH_take (i:=4) (oi:=⟨some 24, .load 44 (.tmp 23),_,_,_,_⟩) (v:= .agg #[.string ⟨x.host.toArray⟩, .bool x.subs, .int .i64 x.till]) rfl (by kernel_rfl) (by kernel_rfl) (by kernel_rfl) (fun _ _ _ h=>h) (yieldsIf_load_at (by rfl) 44 (.tmp 23) rfl (a.add (k*3)) rfl [.string ⟨x.host.toArray⟩, .bool x.subs, .int .i64 x.till] _ hX4 Tryz.underlying44 rfl hik) hS ?_
    try simp only[Act.put,List.setIfInBounds_toArray,List.set_cons_zero,List.set_cons_succ]
    refine wpAnyH_take (i:=5) (oi:=⟨some 25, .load 44 (.tmp 5),_,_,_,_⟩) (v:= .agg #[.string ⟨m.host.toArray⟩, .bool m.subs, .int .i64 m.till]) rfl (by kernel_rfl) (by kernel_rfl) (by kernel_rfl) (fun _ _ _ h=>h) (yieldsIf_load_at (by rfl) 44 (.tmp 5) rfl ⟨w.heap.size+1,0,none⟩ rfl [.string ⟨m.host.toArray⟩, .bool m.subs, .int .i64 m.till] _ hM4 Tryz.underlying44 rfl hik) hS ?_
    try simp only[Act.put,List.setIfInBounds_toArray,List.set_cons_zero,List.set_cons_succ]
    refine wpAnyH_ready (rs:=[6]) (by kernel_rfl) (by simp) ?_;refine AllReadyH.cons (o:=⟨some 26, .call {callee:= .value (.tmp 20),args:= #[.tmp 24, .tmp 25],argTypes:= #[44,44]},_,_,_,_⟩) rfl (fun K hK=> ?_) AllReadyH.nil;go_simp;go_at_call 32;refine(CT _).mono ?_;rintro e z1 ⟨rfl,hn⟩;go_wp2_with fail;have hS1:=hS.trans (hn.mono hS.size);refine hK.out _ _ hS1 (fun _=> ?_);clear hK hS hn K;have hS:=hS1;clear hS1
    try simp only[Act.put,List.setIfInBounds_toArray,List.set_cons_zero,List.set_cons_succ]
    refine wpAnyH_take (i:=7) (oi:=⟨some 27, .binOp .lss 3 (.tmp 26) (.const (.int .i64 0)) 3,_,_,_,_⟩) (v:= .bool false) rfl (by kernel_rfl) (by kernel_rfl) (by kernel_rfl) (fun _ _ _ h=>h) (.inl ⟨by rfl,fun W hW=>by go_simp⟩) hS ?_
    try simp only[Act.put,List.setIfInBounds_toArray,List.set_cons_zero,List.set_cons_succ]
    refine wpAnyH_done (by kernel_rfl) ?_ _;have HMZ:=Lib.hid (HM.out.below hS);clear hM4 CT hX4;go_wp2_with fail;go_roundw
    case rel=>exact⟨k+1,m,by omega,by omega,by go_num,HS3,HMZ⟩
    case measure=>simp[intOf];omega
  ·obtain rfl:k=X.length:=by omega
   have hm:m=leastS m0 l:=by rw[←hend.out,HLe.out]
   have HMm:=Lib.hid hm;obtain⟨q0,q1,q2,q3,q4,q5⟩:=HM.out.cells;obtain⟨r0,r1,r2,r3,r4,r5⟩:=HM.out.cells2;have HR2:=Lib.hid HM.out.rs;clear hm hst hend HLe hle0 HM2;go_wp2_with fail;have hset:=heap_setCell_same _ w.heap.size 2 _ _ (.int .i64 m.till) (heap_setCell_same _ w.heap.size 1 _ _ (.bool m.subs) (heap_setCell_same wr w.heap.size 0 _ _ (.string ⟨m.host.toArray⟩) HR2.out));have hb3:Below w.heap.size w (((wr.setCell ⟨w.heap.size,0,none⟩ (.string ⟨m.host.toArray⟩)).setCell ⟨w.heap.size,1,none⟩ (.bool m.subs)).setCell ⟨w.heap.size,2,none⟩ (.int .i64 m.till)):=((hbr.setCell (p:=⟨w.heap.size,0,none⟩) (Nat.le_refl _) _).setCell (p:=⟨w.heap.size,1,none⟩) (Nat.le_refl _) _).setCell (p:=⟨w.heap.size,2,none⟩) (Nat.le_refl _) _;rw[←HMm.out];exact⟨rfl,_,min_results rfl hset,rfl,hb3⟩
end Go.Proofs.YtjkipdoebkhkaaaGreatDoor
