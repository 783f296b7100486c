/- What a suffix is, plain; the walks of the reference's wrong, Suffix and Own. -/
import Derived.Test.YtlhcfmcbpljbiaaGreatDoorGSu2
import Derived.Test.YtlhcfmcbpljbiaaGreatDoorGHP
import Derived.Test.YtlhcfmcbpljbiaaGreatDoorGSu3
set_option linter.unusedVariables false
set_option linter.unusedSimpArgs false
set_option maxHeartbeats 16000000
namespace Go.Proofs.YtlhcfmcbpljbiaaGreatDoor
open Go.RowKit
theorem host_nilS:hostL []=none:=by
 have e:(labelL []).2=5:=by unfold labelL;rw[if_pos (.inl rfl)]
 have hn:nameL []=none:=by
  unfold nameL;rw[pctL_plain (by decide),show cutLast (partsL 46 [])=[[]]by decide+kernel,labelsM_cons,e,if_pos (by simp)]
 unfold hostL;rw[if_neg (by decide),hn]
def wrongL (rules:List (List UInt8)) (host:List UInt8):Nat:=if checkL rules=false then 1 else if hostL host=some host∧machineL host=false then 0 else 5
def ownL (rules:List (List UInt8)) (host:List UInt8):List UInt8×Nat:=
 if wrongL rules host=0 then (if (partsL 46 host).length<manyL rules (partsL 46 host)+1 then ([],0)else (lastL (partsL 46 host) (manyL rules (partsL 46 host)+1),0))else ([],wrongL rules host)
def sufV (r:List UInt8×Nat):Value:= .tuple #[.string ⟨r.1.toArray⟩, .int .i64 (r.2:Int)]
theorem wrong_ok {L:List (List UInt8)} {h:List UInt8} (hw:wrongL L h=0):checkL L=true∧hostL h=some h∧machineL h=false:=by
 unfold wrongL at hw;split at hw
 ·cases hw
 ·rename_i hc
  split at hw
  ·rename_i hh
   exact⟨by simpa using hc,hh⟩
  ·cases hw
theorem many_bd {L H:List (List UInt8)} (hc:checkL L=true) (hH:H≠[]):1≤manyL L H∧manyL L H≤H.length:=by
 have:=List.length_pos_iff.2 hH;exact⟨manyF_ge (Nat.le_refl _) (check_may hc).2,manyF_le (by omega)⟩
open Go.RowKit Go.Shelf
attribute [local go_sem] Oper.semAt_some
theorem run_loadVar_one {P:Program} (W:World) (B:Nat) (ty:TypeId) (v:Value) (d:TypeDesc) (hu:P.underlying ty=some d) (hd:(match d with| .struct _| .array _ _=>true|_=>false)=false) (hc:W.cell? ⟨B,0,none⟩=some v):(loadVar ty ⟨B,0,none⟩).run P W= .ok v W:=by
 have hagg:(isAgg ty).run P W= .ok false W:=by
  unfold isAgg;rw[Sem.run_bind,run_underlying hu W]
  cases d<;>simp_all
 simp[loadVar,Sem.run_bind,hagg,hc,go_sem]
theorem results_three {P:Program} {fn:Func} {p q r:Tmp} {t1 t2 t3:TypeId} (h:fn.results= #[.cell p t1, .cell q t2, .cell r t3]) (tmps:Array Value) (W:World) (B1 B2 B3:Nat) (v1 v2 v3:Value)
 (h1:tmps.getD p undef= .pointer (some ⟨B1,0,none⟩)) (h2:tmps.getD q undef= .pointer (some ⟨B2,0,none⟩)) (h3:tmps.getD r undef= .pointer (some ⟨B3,0,none⟩))
 (l1:(loadVar t1 ⟨B1,0,none⟩).run P W= .ok v1 W) (l2:(loadVar t2 ⟨B2,0,none⟩).run P W= .ok v2 W) (l3:(loadVar t3 ⟨B3,0,none⟩).run P W= .ok v3 W):(results fn tmps).run P W= .ok (.tuple #[v1,v2,v3]) W:=by
 have h1':tmps[p]?.getD undef= .pointer (some ⟨B1,0,none⟩):=by simpa using h1
 have h2':tmps[q]?.getD undef= .pointer (some ⟨B2,0,none⟩):=by simpa using h2
 have h3':tmps[r]?.getD undef= .pointer (some ⟨B3,0,none⟩):=by simpa using h3
 simp[results,h,h1',h2',h3',asAddr,l1,l2,l3]
structure Res3 (W:World) (lo:Nat) (v1 v2 v3:Value):Prop where
 b1:Boxed W lo 22 v1
 b2:Boxed W (lo+1) 3 v2
 b3:Boxed W (lo+2) 62 v3
theorem Res3.results {W:World} {lo:Nat} {v1 v2 v3:Value} (h:Res3 W lo v1 v2 v3) {tmps:Array Value} (h1:tmps.getD 4 undef= .pointer (some ⟨lo,0,none⟩)) (h2:tmps.getD 5 undef= .pointer (some ⟨lo+1,0,none⟩)) (h3:tmps.getD 6 undef= .pointer (some ⟨lo+2,0,none⟩)):
 (results Tryz.f137 tmps).run Tryz.prog W= .ok (.tuple #[v1,v2,v3]) W:=
 results_three (p:=4) (q:=5) (r:=6) rfl tmps W lo (lo+1) (lo+2) v1 v2 v3 h1 h2 h3 (run_loadVar_one W lo _ _ _ Tryz.underlying22 rfl h.b1.cell) (run_loadVar_one W (lo+1) _ _ _ Tryz.underlying3 rfl h.b2.cell) (run_loadVar_one W (lo+2) _ _ _ Tryz.underlying62 rfl h.b3.cell)
theorem Res3.new (w:World):Res3 (((w.alloc (.cells #[.slice none 0 0] 22)).alloc (.cells #[.int .i64 0] 3)).alloc (.cells #[.int .i64 0] 62)) w.heap.size (.slice none 0 0) (.int .i64 0) (.int .i64 0):=by
 have h1:=Boxed.new w 22 (.slice none 0 0);have h2:=Boxed.new (w.alloc (.cells #[.slice none 0 0] 22)) 3 (.int .i64 0);have h3:=Boxed.new ((w.alloc (.cells #[.slice none 0 0] 22)).alloc (.cells #[.int .i64 0] 3)) 62 (.int .i64 0);rw[World.size_alloc]at h2;rw[World.size_alloc,World.size_alloc]at h3;exact⟨(h1.alloc _).alloc _,h2.alloc _,h3⟩
theorem Res3.below {A B:World} {lo:Nat} {v1 v2 v3:Value} (h:Res3 A lo v1 v2 v3) (hb:Below A.heap.size A B):Res3 B lo v1 v2 v3:=
 ⟨(hb.block _ h.b1.lt).trans h.b1,(hb.block _ h.b2.lt).trans h.b2,(hb.block _ h.b3.lt).trans h.b3⟩
theorem Res3.set1 {A:World} {lo:Nat} {v1 v2 v3:Value} (h:Res3 A lo v1 v2 v3) (u:Value):Res3 (A.setCell ⟨lo,0,none⟩ u) lo u v2 v3:=⟨h.b1.set u,h.b2.other (by omega) u,h.b3.other (by omega) u⟩
theorem Res3.set2 {A:World} {lo:Nat} {v1 v2 v3:Value} (h:Res3 A lo v1 v2 v3) (u:Value):Res3 (A.setCell ⟨lo+1,0,none⟩ u) lo v1 u v3:=⟨h.b1.other (by omega) u,h.b2.set u,h.b3.other (by omega) u⟩
theorem Res3.set3 {A:World} {lo:Nat} {v1 v2 v3:Value} (h:Res3 A lo v1 v2 v3) (u:Value):Res3 (A.setCell ⟨lo+2,0,none⟩ u) lo v1 v2 u:=⟨h.b1.other (by omega) u,h.b2.other (by omega) u,h.b3.set u⟩
set_option maxRecDepth 1000000 in
theorem parts_bad (L:List (List UInt8)) (ad:Option Addr) (c:Nat) (h:List UInt8) (w:World) (hE:EnvH w) (ht:Txt w (.slice ad L.length c) L) (hl:L.length≤1000000) (hs:∀p∈L,p.length≤4000000000) (hh:h.length≤1000) (hw:wrongL L h≠0):
 Calls Tryz.prog 137 #[.slice ad L.length c, .string ⟨h.toArray⟩] w fun e w'=>e= .returned (.tuple #[.slice none 0 0, .int .i64 0, .int .i64 (wrongL L h:Int)])∧Below w.heap.size w w':=by
 have hm:wrongL L h=if checkL L=false then 1 else if hostL h=some h∧machineL h=false then 0 else 5:=rfl
 have hb0:=((((Below.refl w.heap.size w).alloc (Nat.le_refl _) (.cells #[.slice none 0 0] 22)).alloc (by simp) (.cells #[.int .i64 0] 3)).alloc (by simp;omega) (.cells #[.int .i64 0] 62))
 have hE0:=hE.below hb0
 have cc:=check_any L (.slice ad L.length c) _ hE0.t.env.shaped (ht.below hb0 (Nat.le_refl _)) (by omega) hs
 refine(callsIn_wide (n:=4)).1 (callsIn_of_wp_marks Tryz.func137 rfl trivial (wpIn_wide.2 ?_) rfl)
 simp only[Tryz.ntmps137,List.size_toArray,List.length_cons,List.length_nil,Nat.reduceAdd,Nat.reduceSub,Array.replicate_succ,Array.replicate_zero,List.push_toArray,List.append_toArray,List.nil_append,List.cons_append]
 cases hc:checkL L with
 |false=>
  rw[hc,if_pos rfl]at hm;rw[hc]at cc;go_wp2_with fail;go_at_call 39;refine cc.mono ?_;rintro e w1 ⟨rfl,hb1⟩;have hr1:=(Res3.new w).below hb1;have c1:=hr1.b1.cell;have c2:=hr1.b2.cell;have c3:=hr1.b3.cell;have f1:=hr1.b1.frozen;have f2:=hr1.b2.frozen;have f3:=hr1.b3.frozen;have hb2:=hb0.trans (hb1.mono hb0.size);have HM:=Lib.hid hm;clear hm ht cc hE0;go_wp2_with fail;exact⟨_,(((hr1.set1 (.slice none 0 0)).set2 (.int .i64 0)).set3 (.int .i64 1)).results rfl rfl rfl,by rw[HM.out];rfl,((hb2.setCell (p:=⟨w.heap.size,0,none⟩) (Nat.le_refl _) _).setCell (p:=⟨w.heap.size+1,0,none⟩) (Nat.le_add_right _ _) _).setCell (p:=⟨w.heap.size+2,0,none⟩) (Nat.le_add_right _ _) _⟩
 |true=>
  rw[hc,if_neg (by simp)]at hm;rw[hc]at cc;have hno:¬(hostL h=some h∧machineL h=false):=fun e=>hw (by rw[hm,if_pos e])
  rw[if_neg hno]at hm;have HM:=Lib.hid hm;have cp:=fun W hW=>hparse_any h W (hE0.below hW) (by omega)
  have cm:=fun W hW=>machine_any h W (hE0.below hW).t.env (by omega)
  have hr0:=Res3.new w;clear hm ht hE0;generalize hw0:(((w.alloc (.cells #[.slice none 0 0] 22)).alloc (.cells #[.int .i64 0] 3)).alloc (.cells #[.int .i64 0] 62))=w0 at*;go_wp2_with fail;go_at_call 39;refine cc.mono ?_;rintro e w1 ⟨rfl,hb1⟩
  cases hx:hostL h with
  |none=>
   rw[hx]at cp;simp only[optV]at cp;go_wp2_with fail;go_at_call 113;refine(cp _ hb1).mono ?_;rintro e w2 ⟨rfl,hb2⟩;have hb2':=hb1.trans (hb2.mono hb1.size);have hrE:=hr0.below hb2';have hbE:=hb0.trans (hb2'.mono hb0.size);have c1:=hrE.b1.cell;have c2:=hrE.b2.cell;have c3:=hrE.b3.cell;have f1:=hrE.b1.frozen;have f2:=hrE.b2.frozen;have f3:=hrE.b3.frozen;go_wp2_with fail;exact⟨_,(((hrE.set1 (.slice none 0 0)).set2 (.int .i64 0)).set3 (.int .i64 5)).results rfl rfl rfl,by rw[HM.out];rfl,((hbE.setCell (p:=⟨w.heap.size,0,none⟩) (Nat.le_refl _) _).setCell (p:=⟨w.heap.size+1,0,none⟩) (Nat.le_add_right _ _) _).setCell (p:=⟨w.heap.size+2,0,none⟩) (Nat.le_add_right _ _) _⟩
  |some x=>
   rw[hx]at cp;simp only[optV]at cp;by_cases hxh:x=h
   ·subst hxh
    have hmx:machineL x=true:=by
     cases hmx:machineL x with
     |true=>rfl
     |false=>exact absurd ⟨hx,hmx⟩ hno
    rw[hmx]at cm;have hq:(x==x)=true:=beq_self_eq_true x;clear hno;go_wp2_with fail;go_at_call 113;refine(cp _ hb1).mono ?_;rintro e w2 ⟨rfl,hb2⟩;have hb2':=hb1.trans (hb2.mono hb1.size);go_wp2_with fail;go_at_call 101;refine(cm _ hb2').mono ?_;rintro e w3 ⟨rfl,hb3⟩;have hb3':=hb2'.trans (hb3.mono hb2'.size);have hrE:=hr0.below hb3';have hbE:=hb0.trans (hb3'.mono hb0.size);have c1:=hrE.b1.cell;have c2:=hrE.b2.cell;have c3:=hrE.b3.cell;have f1:=hrE.b1.frozen;have f2:=hrE.b2.frozen;have f3:=hrE.b3.frozen;go_wp2_with fail;exact⟨_,(((hrE.set1 (.slice none 0 0)).set2 (.int .i64 0)).set3 (.int .i64 5)).results rfl rfl rfl,by rw[HM.out];rfl,((hbE.setCell (p:=⟨w.heap.size,0,none⟩) (Nat.le_refl _) _).setCell (p:=⟨w.heap.size+1,0,none⟩) (Nat.le_add_right _ _) _).setCell (p:=⟨w.heap.size+2,0,none⟩) (Nat.le_add_right _ _) _⟩
   ·have hq:(x==h)=false:=beq_eq_false_iff_ne.2 hxh
    clear hno;go_wp2_with fail;go_at_call 113;refine(cp _ hb1).mono ?_;rintro e w2 ⟨rfl,hb2⟩;have hb2':=hb1.trans (hb2.mono hb1.size);have hrE:=hr0.below hb2';have hbE:=hb0.trans (hb2'.mono hb0.size);have c1:=hrE.b1.cell;have c2:=hrE.b2.cell;have c3:=hrE.b3.cell;have f1:=hrE.b1.frozen;have f2:=hrE.b2.frozen;have f3:=hrE.b3.frozen;go_wp2_with fail;exact⟨_,(((hrE.set1 (.slice none 0 0)).set2 (.int .i64 0)).set3 (.int .i64 5)).results rfl rfl rfl,by rw[HM.out];rfl,((hbE.setCell (p:=⟨w.heap.size,0,none⟩) (Nat.le_refl _) _).setCell (p:=⟨w.heap.size+1,0,none⟩) (Nat.le_add_right _ _) _).setCell (p:=⟨w.heap.size+2,0,none⟩) (Nat.le_add_right _ _) _⟩
end Go.Proofs.YtlhcfmcbpljbiaaGreatDoor
namespace Go.Proofs.YtlhcfmcbpljbiaaGreatDoor
open Go.RowKit Go.Shelf
attribute [local go_sem] Oper.semAt_some
def mxF (pre:List RuleAt):Nat:=pre.foldl (fun n x=>max n (sufP x.1).length) 1
theorem mxF_snoc (pre:List RuleAt) (x:RuleAt):mxF (pre++[x])=max (mxF pre) (sufP x.1).length:=by simp[mxF]
def PartsI (w:World) (lo b N0:Nat) (P:List (List UInt8)) (pre:List RuleAt) (W:World):Prop:=
 (Res3 W lo (.slice (some ⟨b,0,none⟩) P.length P.length) (.int .i64 (mxF pre:Int)) (.int .i64 0)∧Txt W (.slice (some ⟨b,0,none⟩) P.length P.length) P∧Below lo w W)∧(∀x∈pre,exceptB x.1=false)∧N0≤W.heap.size
def PartsX (w:World) (lo b:Nat) (P:List (List UInt8)) (c:Code) (pre:List RuleAt) (W:World):Prop:=
 (∃n:Nat,Res3 W lo (.slice (some ⟨b,0,none⟩) P.length P.length) (.int .i64 (IntKind.i64.wrap ((n:Int)-1))) (.int .i64 0)∧Txt W (.slice (some ⟨b,0,none⟩) P.length P.length) P∧Below lo w W∧
  c= .ret∧∃p x,pre=p++[x]∧(∀y∈p,exceptB y.1=false)∧exceptB x.1=true∧n=(sufP x.1).length)
theorem own_parts {w A B:World} {lo b:Nat} {P:List (List UInt8)} {v:Value} {row:Option Nat} (hP:P≠[])
 (h:Res3 A lo (.slice (some ⟨b,0,none⟩) P.length P.length) v (.int .i64 0)∧Txt A (.slice (some ⟨b,0,none⟩) P.length P.length) P∧Below lo w A) (hg:A.grownBy B row) (hlo:lo≤A.heap.size) (hr:∀r,row=some r→lo≤r∧∃o:Obj,A.heap[r]?=some o∧o.isCells=false):
 Res3 B lo (.slice (some ⟨b,0,none⟩) P.length P.length) v (.int .i64 0)∧Txt B (.slice (some ⟨b,0,none⟩) P.length P.length) P∧Below lo w B:=by
 obtain⟨hR,hT,hB⟩:=h
 have hk:∀k o,A.heap[k]?=some o→o.isCells=true→some k≠row:=fun k o h1 h2 e=>by
  obtain⟨_,o',h3,h4⟩:=hr k e.symm;rw[h1]at h3;cases h3;rw[h2]at h4;cases h4
 have hc:∀p v,A.cell? p=some v→B.cell? p=some v:=fun p v h1=>by
  obtain⟨o,h2,h3⟩:=cell_heap h1;have:=hg.block p.block (Array.getElem?_eq_some_iff.1 h2).1 (hk _ o h2 h3);exact(World.cell?_of_block (w:=A) this).trans h1
 refine⟨⟨hR.b1.kept hg (hk _ _ hR.b1 rfl),hR.b2.kept hg (hk _ _ hR.b2 rfl),hR.b3.kept hg (hk _ _ hR.b3 rfl)⟩, ?_,hB.grown hg hlo (fun k e=>(hr k e).1)⟩
 rcases hT with ⟨h1,_⟩|⟨a,c,e,hcc,hb,hcell⟩
 ·cases h1
 ·exact .inr ⟨a,c,e,hcc,fun h0=>Nat.lt_of_lt_of_le (hb h0) hg.size,fun k hk'=>hc _ _ (hcell k hk')⟩
def goF:Nat→List (List UInt8)→Nat
 |n,[]=>n
 |n,r::rs=>if exceptB r then (sufP r).length-1 else goF (max n (sufP r).length) rs
theorem manyF_fit {H:List (List UInt8)}:∀(L:List (List UInt8)) (n:Nat),manyF n L H=goF n (fitting L H)
 |[],n=>rfl
 |r::rs,n=>by
  unfold manyF fitting;by_cases hf:fitsL (sufP r) H=true
  ·rw[if_pos hf,List.filter_cons_of_pos (p:=fun s=>fitsL (sufP s) H) hf,goF]
   split
   ·rfl
   ·exact manyF_fit rs _
  ·rw[if_neg hf,List.filter_cons_of_neg (p:=fun s=>fitsL (sufP s) H) hf]
   exact manyF_fit rs n
theorem goF_app:∀(A B:List (List UInt8)) (n:Nat),(∀r∈A,exceptB r=false)→goF n (A++B)=goF (A.foldl (fun n r=>max n (sufP r).length) n) B
 |[],B,n,_=>rfl
 |r::A,B,n,h=>by
  rw[List.cons_append,goF,if_neg (by rw[h r List.mem_cons_self];simp),goF_app A B _ (fun s hs=>h s (List.mem_cons_of_mem _ hs))];rfl
theorem many_done {L H:List (List UInt8)} {xs:List RuleAt} (h:xs.map (·.1)=fitting L H) (hx:∀x∈xs,exceptB x.1=false):manyL L H=mxF xs:=by
 unfold manyL;have h1:∀r∈xs.map (·.1),exceptB r=false:=fun r hr=>by
  obtain⟨x,h2,rfl⟩:=List.mem_map.1 hr;exact hx x h2
 have h2:=goF_app (xs.map (·.1)) [] 1 h1;rw[List.append_nil]at h2;rw[manyF_fit,←h,h2,List.foldl_map];rfl
theorem many_stop {L H:List (List UInt8)} {p:List RuleAt} {x:RuleAt} {k:Nat} (h:(p++[x]).map (·.1)=fitting (L.take k) H) (hp:∀y∈p,exceptB y.1=false) (hx:exceptB x.1=true):manyL L H=(sufP x.1).length-1∧(sufP x.1).length≤H.length:=by
 have hL:fitting L H=fitting (L.take k) H++fitting (L.drop k) H:=by
  unfold fitting;rw[←List.filter_append,List.take_append_drop]
 have h1:∀r∈p.map (·.1),exceptB r=false:=fun r hr=>by
  obtain⟨x,h2,rfl⟩:=List.mem_map.1 hr;exact hp x h2
 have hmem:x.1∈fitting (L.take k) H:=by rw[←h];simp
 refine⟨?_,fits_le (List.mem_filter.1 hmem).2⟩;unfold manyL;rw[manyF_fit,hL,←h,List.map_append,List.append_assoc,goF_app _ _ _ h1];show goF _ (x.1::_)=_;rw[goF,if_pos hx]
abbrev roundT (lo B1:Nat) (ad:Option Addr) (m c:Nat) (h:List UInt8) (b n:Nat) (x:RuleAt) (Bx:Nat):Array Value:=
 #[.slice ad m c, .string ⟨h.toArray⟩,undef,undef, .pointer (some ⟨lo,0,none⟩), .pointer (some ⟨lo+1,0,none⟩), .pointer (some ⟨lo+1+1,0,none⟩), .string ⟨h.toArray⟩,
  .int .i64 0, .pointer (some ⟨Bx,0,none⟩), .slice ad m c, .bool true, .bool false, .tuple #[.string ⟨h.toArray⟩, .int .i64 0], .string ⟨h.toArray⟩, .tuple #[.string ⟨h.toArray⟩, .int .i64 0],
  .string ⟨h.toArray⟩, .int .i64 0, .int .i64 0, .bool false, .bool false, .string ⟨h.toArray⟩, .string ⟨h.toArray⟩, .bool false, .bool false, .bool false, .string ⟨h.toArray⟩, .bool false, .bool false,
  .string ⟨h.toArray⟩, .slice (some ⟨b,0,none⟩) n n, .slice ad m c, .slice (some ⟨b,0,none⟩) n n,
  .func (.func 237) #[] #[.pointer (some ⟨B1,0,none⟩), .pointer (some ⟨B1+1,0,none⟩)],
  .agg #[.slice (some ⟨x.2,0,none⟩) (sufP x.1).length (sufP x.1).length, .bool (exceptB x.1)],undef,undef,undef,undef,undef,undef,undef,undef,undef,undef,undef,undef,undef,undef]
abbrev AtRound (B lo B1:Nat) (ad:Option Addr) (m c:Nat) (h:List UInt8) (b n:Nat) (x:RuleAt) (a':Act) (W:World):Prop:=
 ∃Bx,B≤Bx∧W.heap[Bx]?=some (.cells #[.slice (some ⟨x.2,0,none⟩) (sufP x.1).length (sufP x.1).length, .bool (exceptB x.1)] 153 (0,0))∧a'= {tmps:=roundT lo B1 ad m c h b n x Bx,defers:=[]}
theorem keepX_set {lo i:Nat} {W:World} (hi:i<3) (v:Value):KeepX lo W (W.setCell ⟨lo+i,0,none⟩ v):=
 ⟨(Below.refl lo W).setCell (p:=⟨lo+i,0,none⟩) (Nat.le_add_right _ _) v,fun k o h1 _ h3=>(Below.heap_setCell _ _ _ _ (by show k≠lo+i;omega)).trans h1⟩
theorem txt_heap {A B:World} {b o n c:Nat} {L:List (List UInt8)} (h:Txt A (.slice (some ⟨b,o,none⟩) n c) L) (e:B.heap[b]?=A.heap[b]?) (hs:A.heap.size≤B.heap.size):Txt B (.slice (some ⟨b,o,none⟩) n c) L:=by
 rcases h with ⟨h1,_⟩|⟨a,c',e1,hcc,hb,hcell⟩
 ·cases h1
 ·injection e1 with e2 e3 e4
  injection e2 with e2;subst e2 e3 e4;exact .inr ⟨⟨b,o,none⟩,c,rfl,hcc,fun h0=>Nat.lt_of_lt_of_le (hb h0) hs,fun k hk=>(World.cell?_of_block (w:=A) (by rw[Go.ChangeShapes.block_add];exact e)).trans (hcell k hk)⟩
set_option maxRecDepth 1000000 in
theorem parts_good (L:List (List UInt8)) (ad:Option Addr) (c:Nat) (h:List UInt8) (w:World) (hE:EnvH w) (ht:Txt w (.slice ad L.length c) L) (hl:L.length≤1000000) (hs:∀p∈L,p.length≤4000000000) (hh:h.length≤1000) (hw:wrongL L h=0):
 Calls Tryz.prog 137 #[.slice ad L.length c, .string ⟨h.toArray⟩] w fun e w'=>∃b,e= .returned (.tuple #[.slice (some ⟨b,0,none⟩) (partsL 46 h).length (partsL 46 h).length, .int .i64 (manyL L (partsL 46 h):Int), .int .i64 0])∧Txt w' (.slice (some ⟨b,0,none⟩) (partsL 46 h).length (partsL 46 h).length) (partsL 46 h)∧Below w.heap.size w w':=by
 obtain⟨hc,hx,hmx⟩:=wrong_ok hw
 have hb0:=((((Below.refl w.heap.size w).alloc (Nat.le_refl _) (.cells #[.slice none 0 0] 22)).alloc (by simp) (.cells #[.int .i64 0] 3)).alloc (by simp;omega) (.cells #[.int .i64 0] 62))
 have hE0:=hE.below hb0
 have cc:=check_any L (.slice ad L.length c) _ hE0.t.env.shaped (ht.below hb0 (Nat.le_refl _)) (by omega) hs
 have cp:=fun W hW=>hparse_any h W (hE0.below hW) (by omega)
 have cm:=fun W hW=>machine_any h W (hE0.below hW).t.env (by omega)
 have cl:=fun W hW=>labels_any h W (hE0.below hW).t.env (by omega)
 have hne:h≠[]:=fun e=>by rw[e,host_nilS]at hx;cases hx
 have eL:labelsL h=partsL 46 h:=by unfold labelsL;rw[if_neg hne,hmx,if_neg (by simp)]
 have hPn:=partsL_ne 46 h
 have hPl:=(partsL_le 46 h).2
 rw[eL]at cl
 rw[hc]at cc
 rw[hx]at cp
 rw[hmx]at cm
 simp only[optV]at cp
 have hr0:=Res3.new w
 have hsz0:(((w.alloc (.cells #[.slice none 0 0] 22)).alloc (.cells #[.int .i64 0] 3)).alloc (.cells #[.int .i64 0] 62)).heap.size=w.heap.size+3:=by simp
 have hq:(h==h)=true:=beq_self_eq_true h
 refine(callsIn_wide (n:=4)).1 (callsIn_of_wp_marks Tryz.func137 rfl trivial (wpIn_wide.2 ?_) rfl)
 simp only[Tryz.ntmps137,List.size_toArray,List.length_cons,List.length_nil,Nat.reduceAdd,Nat.reduceSub,Array.replicate_succ,Array.replicate_zero,List.push_toArray,List.append_toArray,List.nil_append,List.cons_append]
 generalize hw0:(((w.alloc (.cells #[.slice none 0 0] 22)).alloc (.cells #[.int .i64 0] 3)).alloc (.cells #[.int .i64 0] 62))=w0 at*
 generalize hPP:partsL 46 h=P at*
 go_wp2_with fail
 go_at_call 39
 refine cc.mono ?_
 rintro e w1 ⟨rfl,hb1⟩
 go_wp2_with fail
 go_at_call 113
 refine(cp _ hb1).mono ?_
 rintro e w2 ⟨rfl,hb2⟩
 have hb2':=hb1.trans (hb2.mono hb1.size)
 go_wp2_with fail
 go_at_call 101
 refine(cm _ hb2').mono ?_
 rintro e w3 ⟨rfl,hb3⟩
 have hb3':=hb2'.trans (hb3.mono hb2'.size)
 go_wp2_with fail
 go_at_call 192
 refine(cl _ hb3').mono ?_
 rintro e w4 ⟨ad4,rfl,hown,hb4⟩
 have hb4':=hb3'.trans (hb4.mono hb3'.size)
 obtain⟨b,rfl,hbb,hbl,_,_⟩:=txt_own hown rfl (List.length_pos_iff.2 hPn)
 have htP:=Txt.own hown rfl
 have hr4:=hr0.below hb4'
 have c1:=hr4.b1.cell
 have c2:=hr4.b2.cell
 have c3:=hr4.b3.cell
 have f1:=hr4.b1.frozen
 have f2:=hr4.b2.frozen
 have f3:=hr4.b3.frozen
 have hbE:=hb0.trans (hb4'.mono hb0.size)
 have hb3z:=hb3'.size
 clear cc cp cm cl hown hb1 hb2 hb3 hb2' hE0
 go_wp2_with fail
 go_at_call 193
 refine(fit_any ad L.length c P b P.length _).mono ?_
 rintro e w6 ⟨rfl,rfl⟩
 have hr5:=(hr4.set1 (.slice (some ⟨b,0,none⟩) P.length P.length)).set2 (.int .i64 1)
 have hbE5:=(hbE.setCell (p:=⟨w.heap.size,0,none⟩) (Nat.le_refl _) (.slice (some ⟨b,0,none⟩) P.length P.length)).setCell (p:=⟨w.heap.size+1,0,none⟩) (Nat.le_add_right _ _) (.int .i64 1)
 have hbb3:w.heap.size+3≤b:=by omega
 have htP5:Txt ((w4.setCell ⟨w.heap.size,0,none⟩ (.slice (some ⟨b,0,none⟩) P.length P.length)).setCell ⟨w.heap.size+1,0,none⟩ (.int .i64 1)) (.slice (some ⟨b,0,none⟩) P.length P.length) P:=
  txt_heap htP ((Below.heap_setCell _ _ _ _ (by show b≠w.heap.size+1;omega)).trans (Below.heap_setCell _ _ _ _ (by show b≠w.heap.size;omega))) (by simp[World.setCell])
 have hsz5:w.heap.size+3≤((w4.setCell ⟨w.heap.size,0,none⟩ (.slice (some ⟨b,0,none⟩) P.length P.length)).setCell ⟨w.heap.size+1,0,none⟩ (.int .i64 1)).heap.size:=by
  have:=hb4'.size;simp[World.setCell];omega
 clear c1 c2 c3 f1 f2 f3 hr4 hbE htP hb4 hb4' hb3' hr0 hb0 hb3z hbb hbl
 generalize ((w4.setCell ⟨w.heap.size,0,none⟩ (.slice (some ⟨b,0,none⟩) P.length P.length)).setCell ⟨w.heap.size+1,0,none⟩ (.int .i64 1))=w5 at*
 have hB1:=Boxed.new w5 22 (.slice ad L.length c)
 have hB2:=Boxed.new (w5.alloc (.cells #[.slice ad L.length c] 22)) 22 (.slice (some ⟨b,0,none⟩) P.length P.length)
 rw[World.size_alloc]at hB2
 have hB1':=hB1.alloc (.cells #[.slice (some ⟨b,0,none⟩) P.length P.length] 22)
 have hb57:Below w5.heap.size w5 ((w5.alloc (.cells #[.slice ad L.length c] 22)).alloc (.cells #[.slice (some ⟨b,0,none⟩) P.length P.length] 22)):=((Below.refl _ _).alloc (Nat.le_refl _) _).alloc (by simp) _
 have hr7:=hr5.below hb57
 have htP7:=htP5.below hb57 (Nat.le_refl _)
 have hbE7:=hbE5.trans (hb57.mono hbE5.size)
 have hsz7:((w5.alloc (.cells #[.slice ad L.length c] 22)).alloc (.cells #[.slice (some ⟨b,0,none⟩) P.length P.length] 22)).heap.size=w5.heap.size+2:=by simp
 clear hb57 hB1 hr5 htP5 hbE5
 have hPn0:=List.length_pos_iff.2 hPn
 obtain⟨w7,hw7⟩:∃w7,((w5.alloc (.cells #[.slice ad L.length c] 22)).alloc (.cells #[.slice (some ⟨b,0,none⟩) P.length P.length] 22))=w7:=⟨_,rfl⟩
 rw[hw7]at hB1' hB2 hr7 htP7 hbE7 hsz7
 have hseq:=fit_seq 3 (by omega) w5.heap.size (w5.heap.size+1) w.heap.size ad c L P b P.length hl hs (by omega) w7 (fun W' hW'=>(hE.below (hbE7.trans hW')).t.env.shaped) hbE7.size hB1'.cell hB2.cell (by omega) (by omega)
  ⟨ht.below hbE7 (Nat.le_refl _),fun a n' c' e h0=> .inl (by
   rcases ht with ⟨h1,h2⟩|⟨a',c2,h1,_,h3,_⟩
   ·rw[h2]at h0;simp at h0
   ·rw[h1]at e
    injection e with e;injection e with e;rw[←e];exact h3 h0)⟩ ⟨htP7,fun a n' c' e h0=> .inr (by injection e with e;injection e with e;rw[←e];exact hbb3)⟩
 go_wp2_with fail
 clear hw7 hB1' hB2
 have hlo7:w.heap.size≤w7.heap.size:=hbE7.size
 refine wpIn_wide.1 (wpIn_rangeFunc_ownH (F:=Fence.wide) (n:=4) (P:=Tryz.prog) rfl (by omega) (gf:=237) (lb:= #[.pointer (some ⟨w5.heap.size,0,none⟩), .pointer (some ⟨w5.heap.size+1,0,none⟩)]) rfl trivial (enters_of Tryz.func237 (by kernel_rfl) rfl)
  hseq (fun h k=>h.trans k) ?hKb (Below.refl _ _) (fun _=>rfl) (PartsI w w.heap.size b w7.heap.size P) (PartsX w w.heap.size b P) ?own ?ownx ?start (AtRound w7.heap.size w.heap.size w5.heap.size ad L.length c h b P.length) ?ownax ?assign ?body ?done ?stop)
 case hKb=>
  intro W l o o' hle hl1 hc1 _;have hlt:=(Array.getElem?_eq_some_iff.1 hl1).1;refine⟨(Below.refl _ W).grown (grownBy_putObj' W l o') (by omega) (fun k e=>by cases e;omega),fun k ob h1 h2 _=>(World.putObj_heap_other (fun e=> ?_)).trans h1⟩;subst e;rw[h1]at hl1;cases hl1;rw[h2]at hc1;cases hc1
 case own=>
  rintro pre A B row ⟨h1,h2,h3⟩ hg hrr;exact⟨own_parts hPn h1 hg h1.2.2.size (fun r e=>⟨Nat.le_trans hlo7 (hrr r e).1,(hrr r e).2⟩),h2,Nat.le_trans h3 hg.size⟩
 case ownx=>
  rintro cd pre A B row ⟨n,h1,h2,h3,hrest⟩ hg hrr;obtain⟨g1,g2,g3⟩:=own_parts hPn ⟨h1,h2,h3⟩ hg h3.size (fun r e=>⟨Nat.le_trans hlo7 (hrr r e).1,(hrr r e).2⟩);exact⟨n,g1,g2,g3,hrest⟩
 case start=>exact⟨⟨hr7,htP7,hbE7⟩,by simp,Nat.le_refl _⟩
 case ownax=>
  rintro x a' _ A B row ⟨Bx,h1,h2,h3⟩ hg hrr;refine⟨Bx,h1,(hg.block Bx (Array.getElem?_eq_some_iff.1 h2).1 (fun e=> ?_)).trans h2,h3⟩;obtain⟨_,o',h4,h5⟩:=hrr Bx e.symm;rw[h2]at h4;cases h4;cases h5
 case assign=>
  intro l pre x W K hI hK;gi_wp2;exact hK _ _ ((KeepsOthers.alloc _ _).from _) (KeepX.of ((Below.refl _ W).alloc (Nat.le_refl _) _) hI.1.2.2.size) ⟨own_parts hPn hI.1 (World.grownBy_alloc W _ none) hI.1.2.2.size (fun r e=>by cases e),hI.2.1,by rw[World.size_alloc];have:=hI.2.2;omega⟩ ⟨W.heap.size,hI.2.2,heap_alloc_new W _,rfl⟩
 case body=>
  rintro l pre x a' W hle ⟨r,hr⟩ ⟨⟨hR,hT,hB⟩,hpre,hN0⟩ ⟨Bx,hBx,hrow,rfl⟩ hlen;have c1:=hR.b1.cell;have c2:=hR.b2.cell;have c3:=hR.b3.cell;have f1:=hR.b1.frozen;have f2:=hR.b2.frozen;have f3:=hR.b3.frozen;have cb0:W.cell? ⟨Bx,0,none⟩=some (.slice (some ⟨x.2,0,none⟩) (sufP x.1).length (sufP x.1).length):=by simp[World.cell?,hrow]
  have cb1:W.cell? ⟨Bx,1,none⟩=some (.bool (exceptB x.1)):=by simp[World.cell?,hrow]
  have hmx2:=mxF_snoc pre x
  cases hxx:exceptB x.1 with
  |true=>
   rw[hxx]at cb1;gi_wp2;gi_region
   all_goals gi_wp2
   all_goals
    refine⟨?_,(sufP x.1).length, ?_, ?_, ?_,rfl,pre,x,rfl,hpre,hxx,rfl⟩
    ·exact((((KeepsOthers.setCell _ _ _).trans (KeepsOthers.setCell _ _ _)).trans (KeepsOthers.setCell _ _ _)).trans (KeepsOthers.drew _)).from _
    ·have:=((hR.set1 (.slice (some ⟨b,0,none⟩) P.length P.length)).set2 (.int .i64 (IntKind.i64.wrap (((sufP x.1).length:Int)-1)))).set3 (.int .i64 0)
     exact⟨this.b1,this.b2,this.b3⟩
    ·have h1:=txt_heap hT (Below.heap_setCell W ⟨w.heap.size,0,none⟩ (.slice (some ⟨b,0,none⟩) P.length P.length) _ (by show b≠w.heap.size;omega)) (by simp[World.setCell])
     have h2:=txt_heap h1 (Below.heap_setCell _ ⟨w.heap.size+1,0,none⟩ (.int .i64 (IntKind.i64.wrap (((sufP x.1).length:Int)-1))) _ (by show b≠w.heap.size+1;omega)) (by simp[World.setCell]);have h3:=txt_heap h2 (Below.heap_setCell _ ⟨w.heap.size+1+1,0,none⟩ (.int .i64 0) _ (by show b≠w.heap.size+1+1;omega)) (by simp[World.setCell]);exact h3
    ·exact(((hB.setCell (p:=⟨w.heap.size,0,none⟩) (Nat.le_refl _) _).setCell (p:=⟨w.heap.size+1,0,none⟩) (Nat.le_add_right _ _) _).setCell (p:=⟨w.heap.size+2,0,none⟩) (Nat.le_add_right _ _) _).drew
  |false=>
   rw[hxx]at cb1;gi_wp2;have em:(max (mxF pre:Int) ((sufP x.1).length:Int))=((mxF (pre++[x]):Nat):Int):=by rw[hmx2];omega
   rw[em];exact⟨(KeepsOthers.setCell _ _ _).from _,keepX_set (by omega) _,⟨hR.set2 _,txt_heap hT (Below.heap_setCell _ _ _ _ (by show b≠w.heap.size+1;omega)) (by simp[World.setCell]),hB.setCell (p:=⟨w.heap.size+1,0,none⟩) (Nat.le_add_right _ _) _⟩,fun y hy=>by
    rcases List.mem_append.1 hy with hy|hy
    ·exact hpre y hy
    ·rw[List.mem_singleton]at hy;rw[hy];exact hxx,by simpa[World.setCell]using hN0⟩
 case done=>
  rintro D xs W hD hS ⟨⟨hR,hT,hB⟩,hpre,hN0⟩ hK;have c1:=hR.b1.cell;have c2:=hR.b2.cell;have c3:=hR.b3.cell;have f1:=hR.b1.frozen;have f2:=hR.b2.frozen;have f3:=hR.b3.frozen;have hmy:=many_done hS hpre;have hK':=(((KeepsOthers.setCell W ⟨w.heap.size,0,none⟩ (.slice (some ⟨b,0,none⟩) P.length P.length)).trans (KeepsOthers.setCell _ ⟨w.heap.size+1,0,none⟩ (.int .i64 (mxF xs:Int)))).trans (KeepsOthers.setCell _ ⟨w.heap.size+1+1,0,none⟩ (.int .i64 0))).same D _ hK rfl;have hRx:=((hR.set1 (.slice (some ⟨b,0,none⟩) P.length P.length)).set2 (.int .i64 (mxF xs:Int))).set3 (.int .i64 0);have hTx:=txt_heap (txt_heap (txt_heap hT (Below.heap_setCell W ⟨w.heap.size,0,none⟩ (.slice (some ⟨b,0,none⟩) P.length P.length) _ (by show b≠w.heap.size;omega)) (by simp[World.setCell])) (Below.heap_setCell _ ⟨w.heap.size+1,0,none⟩ (.int .i64 (mxF xs:Int)) _ (by show b≠w.heap.size+1;omega)) (by simp[World.setCell])) (Below.heap_setCell _ ⟨w.heap.size+1+1,0,none⟩ (.int .i64 0) _ (by show b≠w.heap.size+1+1;omega)) (by simp[World.setCell]);have hBx:=((hB.setCell (p:=⟨w.heap.size,0,none⟩) (Nat.le_refl _) (.slice (some ⟨b,0,none⟩) P.length P.length)).setCell (p:=⟨w.heap.size+1,0,none⟩) (Nat.le_add_right _ _) (.int .i64 (mxF xs:Int))).setCell (p:=⟨w.heap.size+1+1,0,none⟩) (by show w.heap.size≤w.heap.size+1+1;omega) (.int .i64 0);have hD':=own_parts (row:=some D) hPn ⟨hRx,hTx,hBx⟩ (grownBy_putObj' _ D (.deferred none)) hBx.size (fun r e=>by cases e;exact⟨Nat.le_trans hlo7 hD,_,hK',rfl⟩);obtain⟨Vd,hVd⟩:∃V,V=(((W.setCell ⟨w.heap.size,0,none⟩ (.slice (some ⟨b,0,none⟩) P.length P.length)).setCell ⟨w.heap.size+1,0,none⟩ (.int .i64 (mxF xs:Int))).setCell ⟨w.heap.size+1+1,0,none⟩ (.int .i64 0)).drew:=⟨_,rfl⟩;have hDd:Res3 (Vd.putObj D (.deferred none)) w.heap.size (.slice (some ⟨b,0,none⟩) P.length P.length) (.int .i64 (mxF xs:Int)) (.int .i64 0)∧Txt (Vd.putObj D (.deferred none)) (.slice (some ⟨b,0,none⟩) P.length P.length) P∧Below w.heap.size w (Vd.putObj D (.deferred none)):=by
   refine own_parts (row:=some D) (A:=Vd) hPn ?_ (grownBy_putObj' _ D (.deferred none)) (by rw[hVd];exact hBx.size) (fun r e=>by cases e;exact⟨Nat.le_trans hlo7 hD,_,by rw[hVd];exact hK',rfl⟩);rw[hVd];exact⟨⟨hRx.b1,hRx.b2,hRx.b3⟩,hTx,hBx.drew⟩
  rw[hVd]at hDd;go_wp2_with fail;go_region
  all_goals go_wp2_with fail
  all_goals refine⟨by simp, .inl ⟨_,_,rfl,run_takeDeferred hK', ?_⟩⟩
  all_goals first|exact⟨_,hD'.1.results rfl rfl rfl,b,by rw[hmy],hD'.2.1,hD'.2.2⟩|exact⟨_,hDd.1.results rfl rfl rfl,b,by rw[hmy],hDd.2.1,hDd.2.2⟩
 case stop=>
  rintro D cd pre W hD ⟨k,hSp⟩ ⟨n,hR,hT,hB,rfl,p,x,rfl,hp,hxx,hn⟩ hK;obtain⟨hmy,hle⟩:=many_stop hSp hp hxx;have hD':=own_parts (row:=some D) hPn ⟨hR,hT,hB⟩ (grownBy_putObj' W D (.deferred none)) hB.size (fun r e=>by cases e;exact⟨Nat.le_trans hlo7 hD,_,hK,rfl⟩);have hpos:=List.length_pos_iff.2 (sufP_ne x.1);have hwr:IntKind.i64.wrap ((n:Int)-1)=((manyL L P:Nat):Int):=by
   rw[hn,hmy];simp[IntKind.wrap,IntKind.signed,IntKind.bits];omega
  rw[hwr]at hD';gi_wp2;refine⟨by simp, .inl ⟨_,_,rfl,run_takeDeferred hK, ?_⟩⟩;exact⟨_,hD'.1.results rfl rfl rfl,b,rfl,hD'.2.1,hD'.2.2⟩
end Go.Proofs.YtlhcfmcbpljbiaaGreatDoor
namespace Go.Proofs.YtlhcfmcbpljbiaaGreatDoor
open Go.RowKit Go.Shelf
theorem Txt.form {w:World} {v:Value} {L:List (List UInt8)} (h:Txt w v L):∃ad c,v= .slice ad L.length c:=by
 rcases h with ⟨h1,h2⟩|⟨a,c,h1,_⟩
 ·subst h2;exact⟨none,0,h1⟩
 ·exact⟨some a,c,h1⟩
theorem tail_from {b p:Nat} {w:World} (l:List (List UInt8)) (hT:Txt w (.slice (some ⟨b,0,none⟩) l.length l.length) l) (h0:l≠[]) (hN:l.length≤4000000000) (hp:p≤l.length) (hlen:(joinL 46 (l.drop p)).length≤4000000000):
 ∃x,(∀W,(Instr.slice 22 (.slice (some ⟨b,0,none⟩) l.length l.length) (some (.int .i64 (p:Int))) none none).run Tryz.prog W= .ok x W)∧∀W,Below w.heap.size w W→Calls Tryz.prog 138 #[x, .string ⟨#[46]⟩] W fun e w'=>e= .returned (.string ⟨(joinL 46 (l.drop p)).toArray⟩)∧Below W.heap.size W w':=by
 have ht:Tryz.prog.underlying 22=some (.slice (Tryz.prog.elem 22)):=by kernel_rfl
 have hel:Tryz.prog.elem 22=9:=by kernel_rfl
 obtain⟨_,_,hg,hc⟩:=txt_cell hT (List.length_pos_iff.2 h0)
 refine⟨.slice (some (if l.length=p then ⟨b,0,none⟩else ⟨b,p,none⟩)) (l.length-p) (l.length-p),fun W=> ?_,fun W hW=> ?_⟩
 ·rw[run_slice_l _ _ _ _ _ ht .i64 (p:Int) (by omega) (by omega),hel,Tryz.sizeOf9 W]
  simp only[Result.andThen,sliced,Int.toNat_natCast,Nat.mul_one];by_cases h0:l.length=p
  ·rw[if_pos h0,if_pos h0]
  ·rw[if_neg h0,if_neg h0,Option.map_some,Addr.add_lit,Nat.zero_add]
 ·by_cases h0:l.length=p
  ·have hmp:l.length-p=0:=by omega
   rw[if_pos h0,hmp,List.drop_of_length_le (by omega)];exact(join_none _ _ 46 W).mono fun e w' ⟨he,hw⟩=>⟨he,hw▸Below.refl _ _⟩
  ·rw[if_neg h0]
   refine join_at b p (l.length-p) (l.length-p) (l.drop p) 46 W (by rw[List.length_drop]) (fun j hj=> ?_) (Nat.lt_of_lt_of_le hg hW.size) (by omega) (by omega) hlen;have hj2:p+j<l.length:=by rw[List.length_drop]at hj;omega
   rw[List.getElem_drop];have:=hc W hW (p+j) hj2;rwa[Nat.zero_add]at this
set_option maxRecDepth 100000 in
theorem own_any (L:List (List UInt8)) (h:List UInt8) (v:Value) (w:World) (hE:EnvH w) (ht:Txt w v L) (hl:L.length≤1000000) (hs:∀p∈L,p.length≤4000000000) (hh:h.length≤1000):
 Calls Tryz.prog 87 #[v, .string ⟨h.toArray⟩] w fun e w'=>e= .returned (sufV (ownL L h))∧Below w.heap.size w w':=by
 obtain⟨ad,c,rfl⟩:=ht.form
 have hm:ownL L h=if wrongL L h=0 then (if (partsL 46 h).length<manyL L (partsL 46 h)+1 then ([],0)else (lastL (partsL 46 h) (manyL L (partsL 46 h)+1),0))else ([],wrongL L h):=rfl
 by_cases h0:wrongL L h=0
 ·rw[if_pos h0]at hm
  have cw:=parts_good L ad c h w hE ht hl hs hh h0;obtain⟨hc,_,_⟩:=wrong_ok h0;have hPn:=partsL_ne 46 h;obtain⟨hb1,hb2⟩:=many_bd hc hPn;have hj:=join_parts 46 h;have hPl:=(partsL_le 46 h).2;have hP0:=List.length_pos_iff.2 hPn;have hd:=join_drop_le (partsL 46 h) ((partsL 46 h).length-(manyL L (partsL 46 h)+1));rw[hj]at hd;by_cases hn:(partsL 46 h).length<manyL L (partsL 46 h)+1
  ·rw[if_pos hn]at hm
   have hni:(manyL L (partsL 46 h):Int)=((partsL 46 h).length:Int):=by omega
   have HM:=Lib.hid hm;clear hm h0 hc hj ht;generalize hP:partsL 46 h=P at*;generalize manyL L P=n at*;go_enter Tryz.func87,Tryz.ntmps87;go_wp2_with fail;go_at_call 137;refine cw.mono ?_;rintro e w1 ⟨b,rfl,htP,hb1'⟩;clear cw;go_wp2_with fail;go_ret2;exact⟨by rw[HM.out];rfl,hb1'⟩
  ·rw[if_neg hn]at hm
   have hni:¬(manyL L (partsL 46 h):Int)=((partsL 46 h).length:Int):=by omega
   have HM:=Lib.hid hm;clear hm h0 hc hj ht;unfold lastL at HM;generalize hP:partsL 46 h=P at*;generalize manyL L P=n at*;obtain⟨m,hmn⟩:∃m:Nat,m+(n+1)=P.length:=⟨P.length-(n+1),by omega⟩;rw[show P.length-(n+1)=m by omega]at HM hd;have hmi:(P.length:Int)-(n:Int)-1=(m:Int):=by omega
   have wr0:IntKind.i64.wrap ((P.length:Int)-(n:Int))=(P.length:Int)-(n:Int):=IntWalk.i64_in _ (by omega);have wr1:IntKind.i64.wrap ((P.length:Int)-(n:Int)-1)=(m:Int):=by rw[IntWalk.i64_in _ (by omega)];exact hmi
   go_enter Tryz.func87,Tryz.ntmps87;go_wp2_with fail;go_at_call 137;refine cw.mono ?_;rintro e w1 ⟨b,rfl,htP,hb1'⟩;obtain⟨x,hx,cx⟩:=tail_from (p:=m) P htP hPn (by omega) (by omega) (by omega);have cx1:=cx w1 (Below.refl _ _);clear cx cw;go_wp2_with fail;go_at_call 138;refine cx1.mono ?_;rintro e w4 ⟨rfl,hb4⟩;go_wp2_with fail;go_ret2;exact⟨by rw[HM.out];rfl,hb1'.trans (hb4.mono hb1'.size)⟩
 ·rw[if_neg h0]at hm
  have cw:=parts_bad L ad c h w hE ht hl hs hh h0;have h0i:¬(wrongL L h:Int)=0:=by omega
  have HM:=Lib.hid hm;clear hm h0 ht;generalize wrongL L h=n at*;go_enter Tryz.func87,Tryz.ntmps87;go_wp2_with fail;go_at_call 137;refine cw.mono ?_;rintro e w1 ⟨rfl,hb1⟩;go_wp2_with fail;go_ret2;exact⟨by rw[HM.out];rfl,hb1⟩
end Go.Proofs.YtlhcfmcbpljbiaaGreatDoor
