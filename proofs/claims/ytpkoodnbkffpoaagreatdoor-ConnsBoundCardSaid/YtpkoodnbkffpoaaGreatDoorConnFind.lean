/- Connections: the search for a number walked. -/
import Derived.Test.YtpkoodnbkffpoaaGreatDoorConnFns
set_option linter.unusedVariables false
set_option linter.unusedSimpArgs false
set_option maxHeartbeats 16000000
namespace Go.Proofs.YtpkoodnbkffpoaaGreatDoor
open Go.RowKit
theorem conn_size (x:ConnL):(Tryz.prog.info? 73).map (·.size)=some (cellsC x).length:=by kernel_rfl
theorem cmpI_neg {a b:Nat}:cmpI a b<0↔a<b:=by unfold cmpI;split<;>(try split)<;>omega
theorem cmpI_zero {a b:Nat}:cmpI a b=0↔a=b:=by unfold cmpI;split<;>(try split)<;>omega
set_option maxRecDepth 100000 in
theorem bsearch_any (X:List ConnL) (hp:X.Pairwise fun x y=>x.id<y.id) (v:Value) (n:Nat) (w:World) (ht:RowS 5 cellsC w v X) (hl:X.length≤1000):
 Calls Tryz.prog 69 #[v, .int .i64 n, .func (.func 70) #[] #[]] w fun e w'=>e= .returned (.tuple #[.int .i64 (placeL X n), .bool (foundL X n)])∧Below w.heap.size w w':=by
 have hbw:=Below.refl w.heap.size w
 have hpl:=placeL_le X n
 rcases ht with ⟨rfl,rfl⟩|⟨a,c,rfl,hc,hab,hcell⟩
 ·go_enter Tryz.func69,Tryz.ntmps69
  go_wp2_with fail;go_loop [9,10] (fun i j=>i= .int .i64 0∧j= .int .i64 0) (fun _ _=>0)
  case atStart=>exact⟨rfl,rfl⟩
  case round=>
   obtain⟨rfl,rfl⟩:=hrel;go_wp2_with fail;go_ret2;exact⟨rfl,hbw⟩
 ·have hrow:RowS 5 cellsC w (.slice (some a) X.length c) X:= .inr ⟨a,c,rfl,hc,hab,hcell⟩
  have HC:=Lib.hid fun (k:Nat) (hk:k<X.length) W (hW:Below w.heap.size w W)=>hrow.each k hk W hW
  have HS:=Lib.hid (place_split hp n);have HF:Hid (∀(h:placeL X n<X.length),foundL X n=(X[placeL X n].id==n)):=fun h=>by unfold foundL;rw[List.getElem?_eq_getElem h]
  have HF2:Hid (placeL X n=X.length→foundL X n=false):=fun h=>by unfold foundL;rw[List.getElem?_eq_none (by omega)]
  generalize placeL X n=q at*;generalize foundL X n=fd at*;clear hcell hrow hp;go_enter Tryz.func69,Tryz.ntmps69;go_wp2_with fail;go_loopw [9,10] (fun i j wr=>∃lo hi:Nat,i= .int .i64 lo∧j= .int .i64 hi∧lo≤q∧q≤hi∧hi≤X.length∧Below w.heap.size w wr) (fun i j _=>(intOf j).toNat-(intOf i).toNat)
  case atStart=>exact⟨0,X.length,rfl,rfl,Nat.zero_le _,hpl,Nat.le_refl _,hbw⟩
  case round=>
   obtain⟨lo,hi,rfl,rfl,hlq,hqh,hhi,hbr⟩:=hrel;by_cases hlt:lo<hi
   ·have hm:(lo+hi)/2<X.length:=by omega
    have hck:=HC.out ((lo+hi)/2) hm _ hbr;have hsp:=HS.out ((lo+hi)/2) _ (List.getElem?_eq_getElem hm);have hik:=conn_size X[(lo+hi)/2];have cp:=fun W=>place1_any X[(lo+hi)/2] n W
    have hlti:(lo:Int)<(hi:Int):=by omega
    have hmi:((lo:Int)+(hi:Int))/2<(X.length:Int):=by omega
    have hmn:(((lo:Int)+(hi:Int))/2).toNat=(lo+hi)/2:=by omega
    generalize hcx:cmpI X[(lo+hi)/2].id n=r at cp;have hr:r<0↔(lo+hi)/2<q:=by rw[←hcx,cmpI_neg];exact hsp
    clear hcx hsp;generalize X[(lo+hi)/2]=x at*;have CP:=Lib.hid cp;clear cp;by_cases hrn:r<0
    ·have hq:=hr.1 hrn
     clear hr;go_wp2_with(first|(refine wpList_load_at (o:=⟨some 28, .load 73 (.tmp 27),_,_,_,_⟩) rfl 73 (.tmp 27) rfl (a.add ((lo+hi)/2*5)) rfl [.int .i64 x.id, .bool x.key.safe, .string ⟨x.key.host.toArray⟩, .int .i64 x.key.port, .int .i64 x.given] _ hck Tryz.underlying73 rfl hik ?_)|(go_at_call 70;refine(CP.out _).mono ?_;rintro e w1 ⟨rfl,hb1⟩));have hb2:=hbr.trans (hb1.mono hbr.size);go_roundw
     case rel=>exact⟨(lo+hi)/2+1,hi,by go_num,rfl,by omega,hqh,hhi,hb2⟩
     case measure=>simp[intOf];omega
    ·have hq:¬(lo+hi)/2<q:=fun h=>hrn (hr.2 h)
     have hrn2:0≤r:=by omega
     clear hr hrn;go_wp2_with(first|(refine wpList_load_at (o:=⟨some 28, .load 73 (.tmp 27),_,_,_,_⟩) rfl 73 (.tmp 27) rfl (a.add ((lo+hi)/2*5)) rfl [.int .i64 x.id, .bool x.key.safe, .string ⟨x.key.host.toArray⟩, .int .i64 x.key.port, .int .i64 x.given] _ hck Tryz.underlying73 rfl hik ?_)|(go_at_call 70;refine(CP.out _).mono ?_;rintro e w1 ⟨rfl,hb1⟩));have hb2:=hbr.trans (hb1.mono hbr.size);go_roundw
     case rel=>exact⟨lo,(lo+hi)/2,rfl,by go_num,hlq,by omega,by omega,hb2⟩
     case measure=>simp[intOf];omega
   ·obtain rfl:lo=q:=by omega
    obtain rfl:lo=hi:=by omega
    by_cases hlx:lo<X.length
    ·have hck:=HC.out lo hlx _ hbr
     have hik:=conn_size X[lo];have cp:=fun W=>place1_any X[lo] n W
     have hf:=HF.out hlx;have hloi:(lo:Int)<(X.length:Int):=by omega
     generalize hcx:cmpI X[lo].id n=r at cp;have hr:r=0↔X[lo].id=n:=by rw[←hcx,cmpI_zero]
     clear hcx;generalize X[lo]=x at*;have CP:=Lib.hid cp;clear cp;have hrd:fd=decide (r=0):=by
      rw[hf];by_cases h:x.id=n
      ·rw[decide_eq_true (hr.2 h)];simp[h]
      ·rw[decide_eq_false (fun e=>h (hr.1 e))];simp[h]
     have HR:=Lib.hid hrd;clear hrd hf hr;go_wp2_with(first|(refine wpList_load_at (o:=⟨some 44, .load 73 (.tmp 43),_,_,_,_⟩) rfl 73 (.tmp 43) rfl (a.add (lo*5)) rfl [.int .i64 x.id, .bool x.key.safe, .string ⟨x.key.host.toArray⟩, .int .i64 x.key.port, .int .i64 x.given] _ hck Tryz.underlying73 rfl hik ?_)|(go_at_call 70;refine(CP.out _).mono ?_;rintro e w1 ⟨rfl,hb1⟩))
     all_goals
      have hb2:=hbr.trans (hb1.mono hbr.size);go_ret2;exact⟨by simp only[HR.out];rfl,hb2⟩
    ·have hf:=HF2.out (by omega)
     have hlx2:X.length≤lo:=by omega
     subst hf;go_wp2_with fail;go_ret2;exact⟨rfl,hbr⟩
end Go.Proofs.YtpkoodnbkffpoaaGreatDoor
