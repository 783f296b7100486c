/- jar.keyOf, jar.may: walked. Printed by mkmay.py. -/
import Derived.Test.YtjkipdoebkhkaaaGreatDoorGJar1
import Derived.WideKeyEntry
import Derived.DeepKeys4
set_option linter.unusedVariables false
set_option linter.unusedSimpArgs false
set_option maxHeartbeats 16000000
namespace Go.Proofs.YtjkipdoebkhkaaaGreatDoor
open Go.RowKit
def keyV (c:CookieL):Value:= .agg #[.string ⟨c.name.toArray⟩, .string ⟨c.host.toArray⟩, .string ⟨c.path.toArray⟩, .bool c.bare]
theorem keyV_eq {c d:CookieL}:keyV d=keyV c↔keyE c d=true:=by
 unfold keyV keyE;simp only[Value.agg.injEq,Array.mk.injEq,List.cons.injEq,Value.string.injEq,ByteArray.mk.injEq,Value.bool.injEq,and_true,decide_eq_true_eq];constructor
 ·rintro⟨h1,h2,h3,h4⟩
  exact⟨(by simpa using h1.symm),(by simpa using h2.symm),(by simpa using h3.symm),h4.symm⟩
 ·rintro⟨h1,h2,h3,h4⟩
  rw[h1,h2,h3,h4];exact⟨rfl,rfl,rfl,rfl⟩
theorem jkey_results {B:Nat} {W:World} {a b c:List UInt8} {q:Bool} {tmps:Array Value} (h2:tmps[2]?.getD undef= .pointer (some ⟨B,0,none⟩)) (hU:W.heap[B]?=some (.cells #[.string ⟨a.toArray⟩, .string ⟨b.toArray⟩, .string ⟨c.toArray⟩, .bool q] 79 (0,0))):
 (results Tryz.f24 tmps).run Tryz.prog W= .ok (.agg #[.string ⟨a.toArray⟩, .string ⟨b.toArray⟩, .string ⟨c.toArray⟩, .bool q]) W:=by
 have c0:W.cell? ⟨B,0,none⟩=some (.string ⟨a.toArray⟩):=by rw[Lib.cell_of_heap hU];rfl
 have c1:W.cell? ⟨B,1,none⟩=some (.string ⟨b.toArray⟩):=by rw[Lib.cell_of_heap hU];rfl
 have c2:W.cell? ⟨B,2,none⟩=some (.string ⟨c.toArray⟩):=by rw[Lib.cell_of_heap hU];rfl
 have c3:W.cell? ⟨B,3,none⟩=some (.bool q):=by rw[Lib.cell_of_heap hU];rfl
 simp[results,Tryz.results24,go_sem,h2,c0,c1,c2,c3]
theorem set4 {W:World} {B:Nat} {t:TypeId} {a b c d x y z u:Value} (h:W.heap[B]?=some (.cells #[a,b,c,d] t (0,0))):
 ((((W.setCell ⟨B,0,none⟩ x).setCell ⟨B,1,none⟩ y).setCell ⟨B,2,none⟩ z).setCell ⟨B,3,none⟩ u).heap[B]?=some (.cells #[x,y,z,u] t (0,0)):=
 heap_setCell_same _ B 3 _ _ u (heap_setCell_same _ B 2 _ _ z (heap_setCell_same _ B 1 _ _ y (heap_setCell_same W B 0 _ _ x h)))
set_option maxRecDepth 100000 in
theorem jkey_any (c:CookieL) (w:World):Calls Tryz.prog 24 #[cookVal c] w fun e w'=>e= .returned (keyV c)∧Below w.heap.size w w':=by
 unfold cookVal keyV;obtain⟨W1,hW1⟩:∃W,w.alloc (.cells (cellsK c).toArray 42)=W:=⟨_,rfl⟩;obtain⟨W0,hW0⟩:∃W,W1.alloc (.cells #[.string ⟨#[]⟩, .string ⟨#[]⟩, .string ⟨#[]⟩, .bool false] 79)=W:=⟨_,rfl⟩;have hb1:Below w.heap.size w W1:=by rw[←hW1];exact below_alloc w _
 have hb01:Below W1.heap.size W1 W0:=by rw[←hW0];exact below_alloc W1 _
 have hb0:=below_nx hb1 hb01;have hC1:W1.heap[w.heap.size]?=some (.cells (cellsK c).toArray 42 (0,0)):=by rw[←hW1];exact heap_alloc_new w _
 have hB0:W0.heap[W1.heap.size]?=some (.cells #[.string ⟨#[]⟩, .string ⟨#[]⟩, .string ⟨#[]⟩, .bool false] 79 (0,0)):=by rw[←hW0];exact heap_alloc_new W1 _
 have hl0:=(Array.getElem?_eq_some_iff.1 hB0).1;have hs1:W1.heap.size=w.heap.size+1:=by rw[←hW1,World.size_alloc]
 rw[hs1]at hB0 hl0;have x0:=blk_cell hC1 (j:=0) rfl hb01;have x2:=blk_cell hC1 (j:=2) rfl hb01;have x4:=blk_cell hC1 (j:=4) rfl hb01;have x3:=blk_cell hC1 (j:=3) rfl hb01;have f0:W0.frozen? ⟨w.heap.size+1,0,none⟩=false:=by simp[World.frozen?,hB0]
 have f1:W0.frozen? ⟨w.heap.size+1,1,none⟩=false:=by simp[World.frozen?,hB0]
 have f2:W0.frozen? ⟨w.heap.size+1,2,none⟩=false:=by simp[World.frozen?,hB0]
 have f3:W0.frozen? ⟨w.heap.size+1,3,none⟩=false:=by simp[World.frozen?,hB0]
 have k0:W0.cell? ⟨w.heap.size+1,0,none⟩=some (.string ⟨#[]⟩):=by rw[Lib.cell_of_heap hB0];rfl
 have k1:W0.cell? ⟨w.heap.size+1,1,none⟩=some (.string ⟨#[]⟩):=by rw[Lib.cell_of_heap hB0];rfl
 have k2:W0.cell? ⟨w.heap.size+1,2,none⟩=some (.string ⟨#[]⟩):=by rw[Lib.cell_of_heap hB0];rfl
 have k3:W0.cell? ⟨w.heap.size+1,3,none⟩=some (.bool false):=by rw[Lib.cell_of_heap hB0];rfl
 have HB0:=Lib.hid hB0;have HW:Hid ((w.alloc (.cells #[.string ⟨c.name.toArray⟩, .string ⟨c.value.toArray⟩, .string ⟨c.host.toArray⟩, .bool c.bare, .string ⟨c.path.toArray⟩, .bool c.secure, .bool c.hidden, .int .u8 c.site, .int .i64 c.made, .int .i64 c.last, .int .i64 c.till, .int .i64 c.order] 42)).alloc (.cells #[.string ⟨#[]⟩, .string ⟨#[]⟩, .string ⟨#[]⟩, .bool false] 79)=W0):=by
  show _=_;rw[←hW0,←hW1];rfl
 clear hB0 hW0 hW1 hC1 hb01 hs1 hb1;go_enter Tryz.func24,Tryz.ntmps24;go_upto_region 1 with fail;rw[HW.out];go_wp2_with fail;refine bodyPost_ret (jkey_results rfl ?_) rfl ⟨rfl, ?_⟩
 ·exact set4 HB0.out
 ·exact((((hb0.setCell (p:=⟨w.heap.size+1,0,none⟩) (Nat.le_succ _) _).setCell (p:=⟨w.heap.size+1,1,none⟩) (Nat.le_succ _) _).setCell (p:=⟨w.heap.size+1,2,none⟩) (Nat.le_succ _) _).setCell (p:=⟨w.heap.size+1,3,none⟩) (Nat.le_succ _) _)
theorem atrim_any (s:List UInt8) (w:World) (hs:s.length≤140737488351232):Calls Tryz.prog 67 #[.string ⟨s.toArray⟩] w fun e w'=>e= .returned (.string ⟨(Lib.trimS s [32,9]).toArray⟩)∧Below w.heap.size w w':=by
 have ct:=trim_any s [32,9] w hs (by decide) (by decide);generalize Lib.trimS s [32,9]=x at*;go_enter Tryz.func67,Tryz.ntmps67;go_wp2_with(go_at_call 120;refine ct.mono ?_;rintro e w1 ⟨rfl,hb⟩);go_ret;exact⟨rfl,hb⟩
set_option maxRecDepth 100000 in
theorem two_0 (a b:ByteArray) (W:World):(Instr.index 125 (.agg #[.string a, .string b]) (.int .i64 0)).run Tryz.prog W= .ok (.string a) W:=rfl
set_option maxRecDepth 100000 in
theorem two_1 (a b:ByteArray) (W:World):(Instr.index 125 (.agg #[.string a, .string b]) (.int .i64 1)).run Tryz.prog W= .ok (.string b) W:=rfl
set_option maxRecDepth 100000 in
theorem jmay_any (c:CookieL) (w:World) (hE:EnvH w) (h1:c.name.length≤1048576) (h2:c.value.length≤1048576) (h3:c.path.length≤1048576):Calls Tryz.prog 25 #[cookVal c] w fun e w'=>e= .returned (.bool (mayC c))∧Below w.heap.size w w':=by
 unfold cookVal;obtain⟨W0,hW0⟩:∃W,w.alloc (.cells (cellsK c).toArray 42)=W:=⟨_,rfl⟩;have hb0:Below w.heap.size w W0:=by rw[←hW0];exact below_alloc w _
 have hC:W0.heap[w.heap.size]?=some (.cells (cellsK c).toArray 42 (0,0)):=by rw[←hW0];exact heap_alloc_new w _
 have FC:=Lib.hid (fun (j:Nat) (v:Value) (hv:(cellsK c)[j]?=some v) (W:World) (hW:Below W0.heap.size W0 W)=>blk_cell hC hv hW);have CH:=Lib.hid (fun W (hW:Below W0.heap.size W0 W)=>jhost_any c.host W (hE.below (below_nx hb0 hW)));have CP:=Lib.hid (fun W=>(Tryz.strings_HasPrefix ⟨c.path.toArray⟩ ⟨#[47]⟩ W).mono (R':=fun e W'=>e= .returned (.bool (Lib.hasPrefix c.path [47]))∧W=W') fun e W' ⟨he,hw⟩=>⟨he,hw.symm⟩);have CN:=Lib.hid (fun W=>(Tryz.strings_Contains_one ⟨c.name.toArray⟩ 61 W).mono (R':=fun e W'=>e= .returned (.bool (decide (0≤Lib.indexByte c.name 61)))∧W=W') fun e W' ⟨he,hw⟩=>⟨he,hw.symm⟩);have x0:=FC.out 0 _ rfl W0 (Below.refl _ _);have x1:=FC.out 1 _ rfl W0 (Below.refl _ _);have HW:Hid (w.alloc (.cells #[.string ⟨c.name.toArray⟩, .string ⟨c.value.toArray⟩, .string ⟨c.host.toArray⟩, .bool c.bare, .string ⟨c.path.toArray⟩, .bool c.secure, .bool c.hidden, .int .u8 c.site, .int .i64 c.made, .int .i64 c.last, .int .i64 c.till, .int .i64 c.order] 42)=W0):=hW0;have i0:=two_0 ⟨c.name.toArray⟩ ⟨c.value.toArray⟩;have i1:=two_1 ⟨c.name.toArray⟩ ⟨c.value.toArray⟩;clear hW0 hC;go_enter Tryz.func25,Tryz.ntmps25;go_upto_region 1 with fail;rw[HW.out];go_wp2_with fail;go_loopw [18] (fun is wr=>∃j:Int,(j=0∨j=1∨j=2)∧is= .int .i64 j∧Hid (1≤j→textOk c.name=true)∧Hid (2≤j→textOk c.value=true)∧Below W0.heap.size W0 wr) (fun i _=>2-(intOf i).toNat)
 case atStart=>exact⟨0, .inl rfl,rfl,Lib.hid (fun h=>by omega),Lib.hid (fun h=>by omega),Below.refl _ _⟩
 case round=>
  obtain⟨j,hj,rfl,HN,HV,hbr⟩:=hrel;rcases hj with rfl|rfl|rfl
  ·cases ho:oddS c.name with
   |true=>
    have HR:Hid (mayC c=false):=by show _=_;unfold mayC textOk;simp[ho]
    have co:=fun W=>jodd_any c.name W
    simp only[ho]at co;go_wp2_with(go_at_call 66;refine(co _).mono ?_;rintro e z3 ⟨rfl,hz3⟩);go_ret;exact⟨by rw[HR.out];rfl,below_nx hb0 (below_nx hbr hz3)⟩
   |false=>
    have co:=fun W=>jodd_any c.name W
    simp only[ho]at co;have ct:=fun W=>atrim_any c.name W (by omega)
    by_cases hx:Lib.trimS c.name [32,9]=c.name
    ·have HT:Hid (textOk c.name=true):=by show _=_;unfold textOk;simp[ho,hx]
     rw[hx]at ct;clear hx;go_wp2_with(first
      |(go_at_call 66;refine(co _).mono ?_;rintro e z3 ⟨rfl,hz3⟩)
      |(go_at_call 67;refine(ct _).mono ?_;rintro e z4 ⟨rfl,hz4⟩))
     go_roundw
     case rel=>exact⟨1, .inr (.inl rfl),rfl,Lib.hid (fun _=>HT.out),Lib.hid (fun h=>by omega),below_nx (below_nx hbr hz3) hz4⟩
     case measure=>simp[intOf]
    ·have HR:Hid (mayC c=false):=by show _=_;unfold mayC textOk;simp[hx]
     have hxe:(Lib.trimS c.name [32,9]==c.name)=false:=beq_eq_false_iff_ne.2 hx;generalize Lib.trimS c.name [32,9]=xx at*;go_wp2_with(first
      |(go_at_call 66;refine(co _).mono ?_;rintro e z3 ⟨rfl,hz3⟩)
      |(go_at_call 67;refine(ct _).mono ?_;rintro e z4 ⟨rfl,hz4⟩))
     go_ret;exact⟨by rw[HR.out];rfl,below_nx hb0 (below_nx (below_nx hbr hz3) hz4)⟩
  ·cases ho:oddS c.value with
   |true=>
    have HR:Hid (mayC c=false):=by show _=_;unfold mayC textOk;simp[ho]
    have co:=fun W=>jodd_any c.value W
    simp only[ho]at co;go_wp2_with(go_at_call 66;refine(co _).mono ?_;rintro e z3 ⟨rfl,hz3⟩);go_ret;exact⟨by rw[HR.out];rfl,below_nx hb0 (below_nx hbr hz3)⟩
   |false=>
    have co:=fun W=>jodd_any c.value W
    simp only[ho]at co;have ct:=fun W=>atrim_any c.value W (by omega)
    by_cases hx:Lib.trimS c.value [32,9]=c.value
    ·have HT:Hid (textOk c.value=true):=by show _=_;unfold textOk;simp[ho,hx]
     rw[hx]at ct;clear hx;go_wp2_with(first
      |(go_at_call 66;refine(co _).mono ?_;rintro e z3 ⟨rfl,hz3⟩)
      |(go_at_call 67;refine(ct _).mono ?_;rintro e z4 ⟨rfl,hz4⟩))
     go_roundw
     case rel=>exact⟨2, .inr (.inr rfl),rfl,Lib.hid (fun _=>HN.out (by omega)),Lib.hid (fun _=>HT.out),below_nx (below_nx hbr hz3) hz4⟩
     case measure=>simp[intOf]
    ·have HR:Hid (mayC c=false):=by show _=_;unfold mayC textOk;simp[hx]
     have hxe:(Lib.trimS c.value [32,9]==c.value)=false:=beq_eq_false_iff_ne.2 hx;generalize Lib.trimS c.value [32,9]=xx at*;go_wp2_with(first
      |(go_at_call 66;refine(co _).mono ?_;rintro e z3 ⟨rfl,hz3⟩)
      |(go_at_call 67;refine(ct _).mono ?_;rintro e z4 ⟨rfl,hz4⟩))
     go_ret;exact⟨by rw[HR.out];rfl,below_nx hb0 (below_nx (below_nx hbr hz3) hz4)⟩
  ·have t0:=HN.out (by omega)
   have t1:=HV.out (by omega);have p2:=FC.out 2 _ rfl _ hbr;clear x0 x1 HN HV i0 i1;by_cases e1:hostOk c.host=true
   case neg=>
    have e1:hostOk c.host=false:=by simpa using e1
    have HR:Hid (mayC c=false):=by
     show _=_;unfold mayC;simp[t0,t1,e1]
    go_wp2_with(first
     |(with_reducible refine coast_skip 99 2 ?_ ?_ ?_ ?_;(·kernel_rfl);(·(simp[yielded];done));(·(decide+kernel));intro a' hs hd hk;have HK:=Lib.hid hk;have HD:=Lib.hid hd;clear hk hd hs)
     |(go_at_call 68;refine(CH.out _ hbr).mono ?_;rintro e z1 ⟨rfl,hz1⟩;have hb:=below_nx hbr hz1;have y0:=FC.out 0 _ rfl z1 hb;have y4:=FC.out 4 _ rfl z1 hb;have y7:=FC.out 7 _ rfl z1 hb;have y8:=FC.out 8 _ rfl z1 hb;have y9:=FC.out 9 _ rfl z1 hb;have y10:=FC.out 10 _ rfl z1 hb;have y11:=FC.out 11 _ rfl z1 hb)
     |(go_at_call 69;refine(CP.out _).mono ?_;rintro e z2 ⟨rfl,rfl⟩)
     |(go_at_call 66;refine(jodd_any c.path _).mono ?_;rintro e z3 ⟨rfl,hz3⟩;have hb3:=below_nx hb hz3;have v0:=FC.out 0 _ rfl z3 hb3;have v7:=FC.out 7 _ rfl z3 hb3;have v8:=FC.out 8 _ rfl z3 hb3;have v9:=FC.out 9 _ rfl z3 hb3;have v10:=FC.out 10 _ rfl z3 hb3;have v11:=FC.out 11 _ rfl z3 hb3)
     |(go_at_call 70;refine(CN.out _).mono ?_;rintro e z4 ⟨rfl,rfl⟩)
     |(go_at_call 58;refine(jtime_any _ _).mono ?_;rintro e z5 ⟨rfl,rfl⟩))
    refine bodyPost_ret (results_tmp rfl _ _ _) HD.out ?_;exact⟨by rw[HR.out];simp[HK.out],below_nx hb0 hb⟩
   by_cases e2:Lib.hasPrefix c.path [47]=true
   case neg=>
    have e2:Lib.hasPrefix c.path [47]=false:=by simpa using e2
    have HR:Hid (mayC c=false):=by
     show _=_;unfold mayC;simp[t0,t1,e1,e2]
    go_wp2_with(first
     |(with_reducible refine coast_skip 99 2 ?_ ?_ ?_ ?_;(·kernel_rfl);(·(simp[yielded];done));(·(decide+kernel));intro a' hs hd hk;have HK:=Lib.hid hk;have HD:=Lib.hid hd;clear hk hd hs)
     |(go_at_call 68;refine(CH.out _ hbr).mono ?_;rintro e z1 ⟨rfl,hz1⟩;have hb:=below_nx hbr hz1;have y0:=FC.out 0 _ rfl z1 hb;have y4:=FC.out 4 _ rfl z1 hb;have y7:=FC.out 7 _ rfl z1 hb;have y8:=FC.out 8 _ rfl z1 hb;have y9:=FC.out 9 _ rfl z1 hb;have y10:=FC.out 10 _ rfl z1 hb;have y11:=FC.out 11 _ rfl z1 hb)
     |(go_at_call 69;refine(CP.out _).mono ?_;rintro e z2 ⟨rfl,rfl⟩)
     |(go_at_call 66;refine(jodd_any c.path _).mono ?_;rintro e z3 ⟨rfl,hz3⟩;have hb3:=below_nx hb hz3;have v0:=FC.out 0 _ rfl z3 hb3;have v7:=FC.out 7 _ rfl z3 hb3;have v8:=FC.out 8 _ rfl z3 hb3;have v9:=FC.out 9 _ rfl z3 hb3;have v10:=FC.out 10 _ rfl z3 hb3;have v11:=FC.out 11 _ rfl z3 hb3)
     |(go_at_call 70;refine(CN.out _).mono ?_;rintro e z4 ⟨rfl,rfl⟩)
     |(go_at_call 58;refine(jtime_any _ _).mono ?_;rintro e z5 ⟨rfl,rfl⟩))
    refine bodyPost_ret (results_tmp rfl _ _ _) HD.out ?_;exact⟨by rw[HR.out];simp[HK.out],below_nx hb0 hb⟩
   by_cases e3:c.path.length≤1024
   case neg=>
    have i3:1024<(c.path.length:Int):=by omega
    have HR:Hid (mayC c=false):=by
     show _=_;unfold mayC;simp[t0,t1,e1,e2,e3]
    go_wp2_with(first
     |(with_reducible refine coast_skip 99 2 ?_ ?_ ?_ ?_;(·kernel_rfl);(·(simp[yielded];done));(·(decide+kernel));intro a' hs hd hk;have HK:=Lib.hid hk;have HD:=Lib.hid hd;clear hk hd hs)
     |(go_at_call 68;refine(CH.out _ hbr).mono ?_;rintro e z1 ⟨rfl,hz1⟩;have hb:=below_nx hbr hz1;have y0:=FC.out 0 _ rfl z1 hb;have y4:=FC.out 4 _ rfl z1 hb;have y7:=FC.out 7 _ rfl z1 hb;have y8:=FC.out 8 _ rfl z1 hb;have y9:=FC.out 9 _ rfl z1 hb;have y10:=FC.out 10 _ rfl z1 hb;have y11:=FC.out 11 _ rfl z1 hb)
     |(go_at_call 69;refine(CP.out _).mono ?_;rintro e z2 ⟨rfl,rfl⟩)
     |(go_at_call 66;refine(jodd_any c.path _).mono ?_;rintro e z3 ⟨rfl,hz3⟩;have hb3:=below_nx hb hz3;have v0:=FC.out 0 _ rfl z3 hb3;have v7:=FC.out 7 _ rfl z3 hb3;have v8:=FC.out 8 _ rfl z3 hb3;have v9:=FC.out 9 _ rfl z3 hb3;have v10:=FC.out 10 _ rfl z3 hb3;have v11:=FC.out 11 _ rfl z3 hb3)
     |(go_at_call 70;refine(CN.out _).mono ?_;rintro e z4 ⟨rfl,rfl⟩)
     |(go_at_call 58;refine(jtime_any _ _).mono ?_;rintro e z5 ⟨rfl,rfl⟩))
    refine bodyPost_ret (results_tmp rfl _ _ _) HD.out ?_;exact⟨by rw[HR.out];simp[HK.out],below_nx hb0 hb⟩
   have i3:(c.path.length:Int)≤1024:=by omega
   by_cases e4:oddS c.path=false
   case neg=>
    have e4:oddS c.path=true:=by simpa using e4
    have HR:Hid (mayC c=false):=by
     show _=_;unfold mayC;simp[t0,t1,e1,e2,e3,e4]
    go_wp2_with(first
     |(with_reducible refine coast_skip 99 2 ?_ ?_ ?_ ?_;(·kernel_rfl);(·(simp[yielded];done));(·(decide+kernel));intro a' hs hd hk;have HK:=Lib.hid hk;have HD:=Lib.hid hd;clear hk hd hs)
     |(go_at_call 68;refine(CH.out _ hbr).mono ?_;rintro e z1 ⟨rfl,hz1⟩;have hb:=below_nx hbr hz1;have y0:=FC.out 0 _ rfl z1 hb;have y4:=FC.out 4 _ rfl z1 hb;have y7:=FC.out 7 _ rfl z1 hb;have y8:=FC.out 8 _ rfl z1 hb;have y9:=FC.out 9 _ rfl z1 hb;have y10:=FC.out 10 _ rfl z1 hb;have y11:=FC.out 11 _ rfl z1 hb)
     |(go_at_call 69;refine(CP.out _).mono ?_;rintro e z2 ⟨rfl,rfl⟩)
     |(go_at_call 66;refine(jodd_any c.path _).mono ?_;rintro e z3 ⟨rfl,hz3⟩;have hb3:=below_nx hb hz3;have v0:=FC.out 0 _ rfl z3 hb3;have v7:=FC.out 7 _ rfl z3 hb3;have v8:=FC.out 8 _ rfl z3 hb3;have v9:=FC.out 9 _ rfl z3 hb3;have v10:=FC.out 10 _ rfl z3 hb3;have v11:=FC.out 11 _ rfl z3 hb3)
     |(go_at_call 70;refine(CN.out _).mono ?_;rintro e z4 ⟨rfl,rfl⟩)
     |(go_at_call 58;refine(jtime_any _ _).mono ?_;rintro e z5 ⟨rfl,rfl⟩))
    refine bodyPost_ret (results_tmp rfl _ _ _) HD.out ?_;exact⟨by rw[HR.out];simp[HK.out],below_nx hb0 hb3⟩
   by_cases e5:decide (0≤Lib.indexByte c.name 61)=false
   case neg=>
    have e5:decide (0≤Lib.indexByte c.name 61)=true:=by simpa using e5
    have HR:Hid (mayC c=false):=by
     show _=_;unfold mayC;simp[t0,t1,e1,e2,e3,e4,e5]
    go_wp2_with(first
     |(with_reducible refine coast_skip 99 2 ?_ ?_ ?_ ?_;(·kernel_rfl);(·(simp[yielded];done));(·(decide+kernel));intro a' hs hd hk;have HK:=Lib.hid hk;have HD:=Lib.hid hd;clear hk hd hs)
     |(go_at_call 68;refine(CH.out _ hbr).mono ?_;rintro e z1 ⟨rfl,hz1⟩;have hb:=below_nx hbr hz1;have y0:=FC.out 0 _ rfl z1 hb;have y4:=FC.out 4 _ rfl z1 hb;have y7:=FC.out 7 _ rfl z1 hb;have y8:=FC.out 8 _ rfl z1 hb;have y9:=FC.out 9 _ rfl z1 hb;have y10:=FC.out 10 _ rfl z1 hb;have y11:=FC.out 11 _ rfl z1 hb)
     |(go_at_call 69;refine(CP.out _).mono ?_;rintro e z2 ⟨rfl,rfl⟩)
     |(go_at_call 66;refine(jodd_any c.path _).mono ?_;rintro e z3 ⟨rfl,hz3⟩;have hb3:=below_nx hb hz3;have v0:=FC.out 0 _ rfl z3 hb3;have v7:=FC.out 7 _ rfl z3 hb3;have v8:=FC.out 8 _ rfl z3 hb3;have v9:=FC.out 9 _ rfl z3 hb3;have v10:=FC.out 10 _ rfl z3 hb3;have v11:=FC.out 11 _ rfl z3 hb3)
     |(go_at_call 70;refine(CN.out _).mono ?_;rintro e z4 ⟨rfl,rfl⟩)
     |(go_at_call 58;refine(jtime_any _ _).mono ?_;rintro e z5 ⟨rfl,rfl⟩))
    refine bodyPost_ret (results_tmp rfl _ _ _) HD.out ?_;exact⟨by rw[HR.out];simp[HK.out],below_nx hb0 hb3⟩
   by_cases e6:1≤c.name.length+c.value.length
   case neg=>
    have i6:(c.name.length:Int)+(c.value.length:Int)<1:=by omega
    have HR:Hid (mayC c=false):=by
     show _=_;unfold mayC;simp[t0,t1,e1,e2,e3,e4,e5,e6]
    go_wp2_with(first
     |(with_reducible refine coast_skip 99 2 ?_ ?_ ?_ ?_;(·kernel_rfl);(·(simp[yielded];done));(·(decide+kernel));intro a' hs hd hk;have HK:=Lib.hid hk;have HD:=Lib.hid hd;clear hk hd hs)
     |(go_at_call 68;refine(CH.out _ hbr).mono ?_;rintro e z1 ⟨rfl,hz1⟩;have hb:=below_nx hbr hz1;have y0:=FC.out 0 _ rfl z1 hb;have y4:=FC.out 4 _ rfl z1 hb;have y7:=FC.out 7 _ rfl z1 hb;have y8:=FC.out 8 _ rfl z1 hb;have y9:=FC.out 9 _ rfl z1 hb;have y10:=FC.out 10 _ rfl z1 hb;have y11:=FC.out 11 _ rfl z1 hb)
     |(go_at_call 69;refine(CP.out _).mono ?_;rintro e z2 ⟨rfl,rfl⟩)
     |(go_at_call 66;refine(jodd_any c.path _).mono ?_;rintro e z3 ⟨rfl,hz3⟩;have hb3:=below_nx hb hz3;have v0:=FC.out 0 _ rfl z3 hb3;have v7:=FC.out 7 _ rfl z3 hb3;have v8:=FC.out 8 _ rfl z3 hb3;have v9:=FC.out 9 _ rfl z3 hb3;have v10:=FC.out 10 _ rfl z3 hb3;have v11:=FC.out 11 _ rfl z3 hb3)
     |(go_at_call 70;refine(CN.out _).mono ?_;rintro e z4 ⟨rfl,rfl⟩)
     |(go_at_call 58;refine(jtime_any _ _).mono ?_;rintro e z5 ⟨rfl,rfl⟩))
    refine bodyPost_ret (results_tmp rfl _ _ _) HD.out ?_;exact⟨by rw[HR.out];simp[HK.out],below_nx hb0 hb3⟩
   have i6:(1:Int)≤(c.name.length:Int)+(c.value.length:Int):=by omega
   by_cases e7:c.name.length+c.value.length≤4096
   case neg=>
    have i7:4096<(c.name.length:Int)+(c.value.length:Int):=by omega
    have HR:Hid (mayC c=false):=by
     show _=_;unfold mayC;simp[t0,t1,e1,e2,e3,e4,e5,e6,e7]
    go_wp2_with(first
     |(with_reducible refine coast_skip 99 2 ?_ ?_ ?_ ?_;(·kernel_rfl);(·(simp[yielded];done));(·(decide+kernel));intro a' hs hd hk;have HK:=Lib.hid hk;have HD:=Lib.hid hd;clear hk hd hs)
     |(go_at_call 68;refine(CH.out _ hbr).mono ?_;rintro e z1 ⟨rfl,hz1⟩;have hb:=below_nx hbr hz1;have y0:=FC.out 0 _ rfl z1 hb;have y4:=FC.out 4 _ rfl z1 hb;have y7:=FC.out 7 _ rfl z1 hb;have y8:=FC.out 8 _ rfl z1 hb;have y9:=FC.out 9 _ rfl z1 hb;have y10:=FC.out 10 _ rfl z1 hb;have y11:=FC.out 11 _ rfl z1 hb)
     |(go_at_call 69;refine(CP.out _).mono ?_;rintro e z2 ⟨rfl,rfl⟩)
     |(go_at_call 66;refine(jodd_any c.path _).mono ?_;rintro e z3 ⟨rfl,hz3⟩;have hb3:=below_nx hb hz3;have v0:=FC.out 0 _ rfl z3 hb3;have v7:=FC.out 7 _ rfl z3 hb3;have v8:=FC.out 8 _ rfl z3 hb3;have v9:=FC.out 9 _ rfl z3 hb3;have v10:=FC.out 10 _ rfl z3 hb3;have v11:=FC.out 11 _ rfl z3 hb3)
     |(go_at_call 70;refine(CN.out _).mono ?_;rintro e z4 ⟨rfl,rfl⟩)
     |(go_at_call 58;refine(jtime_any _ _).mono ?_;rintro e z5 ⟨rfl,rfl⟩))
    refine bodyPost_ret (results_tmp rfl _ _ _) HD.out ?_;exact⟨by rw[HR.out];simp[HK.out],below_nx hb0 hb3⟩
   have i7:(c.name.length:Int)+(c.value.length:Int)≤4096:=by omega
   by_cases e8:c.site≤3
   case neg=>
    have i8:3<c.site:=by omega
    have HR:Hid (mayC c=false):=by
     show _=_;unfold mayC;simp[t0,t1,e1,e2,e3,e4,e5,e6,e7,e8]
    go_wp2_with(first
     |(with_reducible refine coast_skip 99 2 ?_ ?_ ?_ ?_;(·kernel_rfl);(·(simp[yielded];done));(·(decide+kernel));intro a' hs hd hk;have HK:=Lib.hid hk;have HD:=Lib.hid hd;clear hk hd hs)
     |(go_at_call 68;refine(CH.out _ hbr).mono ?_;rintro e z1 ⟨rfl,hz1⟩;have hb:=below_nx hbr hz1;have y0:=FC.out 0 _ rfl z1 hb;have y4:=FC.out 4 _ rfl z1 hb;have y7:=FC.out 7 _ rfl z1 hb;have y8:=FC.out 8 _ rfl z1 hb;have y9:=FC.out 9 _ rfl z1 hb;have y10:=FC.out 10 _ rfl z1 hb;have y11:=FC.out 11 _ rfl z1 hb)
     |(go_at_call 69;refine(CP.out _).mono ?_;rintro e z2 ⟨rfl,rfl⟩)
     |(go_at_call 66;refine(jodd_any c.path _).mono ?_;rintro e z3 ⟨rfl,hz3⟩;have hb3:=below_nx hb hz3;have v0:=FC.out 0 _ rfl z3 hb3;have v7:=FC.out 7 _ rfl z3 hb3;have v8:=FC.out 8 _ rfl z3 hb3;have v9:=FC.out 9 _ rfl z3 hb3;have v10:=FC.out 10 _ rfl z3 hb3;have v11:=FC.out 11 _ rfl z3 hb3)
     |(go_at_call 70;refine(CN.out _).mono ?_;rintro e z4 ⟨rfl,rfl⟩)
     |(go_at_call 58;refine(jtime_any _ _).mono ?_;rintro e z5 ⟨rfl,rfl⟩))
    refine bodyPost_ret (results_tmp rfl _ _ _) HD.out ?_;exact⟨by rw[HR.out];simp[HK.out],below_nx hb0 hb3⟩
   have i8:c.site≤3:=by omega
   by_cases e9:timeB c.made=true
   case neg=>
    have e9:timeB c.made=false:=by simpa using e9
    have HR:Hid (mayC c=false):=by
     show _=_;unfold mayC;simp[t0,t1,e1,e2,e3,e4,e5,e6,e7,e8,e9]
    go_wp2_with(first
     |(with_reducible refine coast_skip 99 2 ?_ ?_ ?_ ?_;(·kernel_rfl);(·(simp[yielded];done));(·(decide+kernel));intro a' hs hd hk;have HK:=Lib.hid hk;have HD:=Lib.hid hd;clear hk hd hs)
     |(go_at_call 68;refine(CH.out _ hbr).mono ?_;rintro e z1 ⟨rfl,hz1⟩;have hb:=below_nx hbr hz1;have y0:=FC.out 0 _ rfl z1 hb;have y4:=FC.out 4 _ rfl z1 hb;have y7:=FC.out 7 _ rfl z1 hb;have y8:=FC.out 8 _ rfl z1 hb;have y9:=FC.out 9 _ rfl z1 hb;have y10:=FC.out 10 _ rfl z1 hb;have y11:=FC.out 11 _ rfl z1 hb)
     |(go_at_call 69;refine(CP.out _).mono ?_;rintro e z2 ⟨rfl,rfl⟩)
     |(go_at_call 66;refine(jodd_any c.path _).mono ?_;rintro e z3 ⟨rfl,hz3⟩;have hb3:=below_nx hb hz3;have v0:=FC.out 0 _ rfl z3 hb3;have v7:=FC.out 7 _ rfl z3 hb3;have v8:=FC.out 8 _ rfl z3 hb3;have v9:=FC.out 9 _ rfl z3 hb3;have v10:=FC.out 10 _ rfl z3 hb3;have v11:=FC.out 11 _ rfl z3 hb3)
     |(go_at_call 70;refine(CN.out _).mono ?_;rintro e z4 ⟨rfl,rfl⟩)
     |(go_at_call 58;refine(jtime_any _ _).mono ?_;rintro e z5 ⟨rfl,rfl⟩))
    refine bodyPost_ret (results_tmp rfl _ _ _) HD.out ?_;exact⟨by rw[HR.out];simp[HK.out],below_nx hb0 hb3⟩
   by_cases e10:timeB c.last=true
   case neg=>
    have e10:timeB c.last=false:=by simpa using e10
    have HR:Hid (mayC c=false):=by
     show _=_;unfold mayC;simp[t0,t1,e1,e2,e3,e4,e5,e6,e7,e8,e9,e10]
    go_wp2_with(first
     |(with_reducible refine coast_skip 99 2 ?_ ?_ ?_ ?_;(·kernel_rfl);(·(simp[yielded];done));(·(decide+kernel));intro a' hs hd hk;have HK:=Lib.hid hk;have HD:=Lib.hid hd;clear hk hd hs)
     |(go_at_call 68;refine(CH.out _ hbr).mono ?_;rintro e z1 ⟨rfl,hz1⟩;have hb:=below_nx hbr hz1;have y0:=FC.out 0 _ rfl z1 hb;have y4:=FC.out 4 _ rfl z1 hb;have y7:=FC.out 7 _ rfl z1 hb;have y8:=FC.out 8 _ rfl z1 hb;have y9:=FC.out 9 _ rfl z1 hb;have y10:=FC.out 10 _ rfl z1 hb;have y11:=FC.out 11 _ rfl z1 hb)
     |(go_at_call 69;refine(CP.out _).mono ?_;rintro e z2 ⟨rfl,rfl⟩)
     |(go_at_call 66;refine(jodd_any c.path _).mono ?_;rintro e z3 ⟨rfl,hz3⟩;have hb3:=below_nx hb hz3;have v0:=FC.out 0 _ rfl z3 hb3;have v7:=FC.out 7 _ rfl z3 hb3;have v8:=FC.out 8 _ rfl z3 hb3;have v9:=FC.out 9 _ rfl z3 hb3;have v10:=FC.out 10 _ rfl z3 hb3;have v11:=FC.out 11 _ rfl z3 hb3)
     |(go_at_call 70;refine(CN.out _).mono ?_;rintro e z4 ⟨rfl,rfl⟩)
     |(go_at_call 58;refine(jtime_any _ _).mono ?_;rintro e z5 ⟨rfl,rfl⟩))
    refine bodyPost_ret (results_tmp rfl _ _ _) HD.out ?_;exact⟨by rw[HR.out];simp[HK.out],below_nx hb0 hb3⟩
   by_cases e11:(decide (c.till= -1)||timeB c.till)=true
   case neg=>
    have e11a:¬c.till= -1:=fun h=>e11 (by rw[decide_eq_true h];rfl)
    have e11b:timeB c.till=false:=by
     cases h:timeB c.till with
     |false=>rfl
     |true=>exact absurd (by rw[h];simp) e11
    have HR:Hid (mayC c=false):=by
     show _=_;unfold mayC;simp[t0,t1,e1,e2,e3,e4,e5,e6,e7,e8,e9,e10,e11a,e11b]
    go_wp2_with(first
     |(with_reducible refine coast_skip 99 2 ?_ ?_ ?_ ?_;(·kernel_rfl);(·(simp[yielded];done));(·(decide+kernel));intro a' hs hd hk;have HK:=Lib.hid hk;have HD:=Lib.hid hd;clear hk hd hs)
     |(go_at_call 68;refine(CH.out _ hbr).mono ?_;rintro e z1 ⟨rfl,hz1⟩;have hb:=below_nx hbr hz1;have y0:=FC.out 0 _ rfl z1 hb;have y4:=FC.out 4 _ rfl z1 hb;have y7:=FC.out 7 _ rfl z1 hb;have y8:=FC.out 8 _ rfl z1 hb;have y9:=FC.out 9 _ rfl z1 hb;have y10:=FC.out 10 _ rfl z1 hb;have y11:=FC.out 11 _ rfl z1 hb)
     |(go_at_call 69;refine(CP.out _).mono ?_;rintro e z2 ⟨rfl,rfl⟩)
     |(go_at_call 66;refine(jodd_any c.path _).mono ?_;rintro e z3 ⟨rfl,hz3⟩;have hb3:=below_nx hb hz3;have v0:=FC.out 0 _ rfl z3 hb3;have v7:=FC.out 7 _ rfl z3 hb3;have v8:=FC.out 8 _ rfl z3 hb3;have v9:=FC.out 9 _ rfl z3 hb3;have v10:=FC.out 10 _ rfl z3 hb3;have v11:=FC.out 11 _ rfl z3 hb3)
     |(go_at_call 70;refine(CN.out _).mono ?_;rintro e z4 ⟨rfl,rfl⟩)
     |(go_at_call 58;refine(jtime_any _ _).mono ?_;rintro e z5 ⟨rfl,rfl⟩))
    refine bodyPost_ret (results_tmp rfl _ _ _) HD.out ?_;exact⟨by rw[HR.out];simp[HK.out],below_nx hb0 hb3⟩
   have e11c:c.till= -1∨(¬c.till= -1∧timeB c.till=true):=by
    by_cases h:c.till= -1
    ·exact .inl h
    ·exact .inr ⟨h,by simpa[h]using e11⟩
   by_cases e12:0≤c.order
   case neg=>
    have i12:c.order<0:=by omega
    have HR:Hid (mayC c=false):=by
     show _=_;unfold mayC;simp[t0,t1,e1,e2,e3,e4,e5,e6,e7,e8,e9,e10,e11,e12]
    rcases e11c with e11a|⟨e11a,e11b⟩
    all_goals
     go_wp2_with(first
      |(with_reducible refine coast_skip 99 2 ?_ ?_ ?_ ?_;(·kernel_rfl);(·(simp[yielded];done));(·(decide+kernel));intro a' hs hd hk;have HK:=Lib.hid hk;have HD:=Lib.hid hd;clear hk hd hs)
      |(go_at_call 68;refine(CH.out _ hbr).mono ?_;rintro e z1 ⟨rfl,hz1⟩;have hb:=below_nx hbr hz1;have y0:=FC.out 0 _ rfl z1 hb;have y4:=FC.out 4 _ rfl z1 hb;have y7:=FC.out 7 _ rfl z1 hb;have y8:=FC.out 8 _ rfl z1 hb;have y9:=FC.out 9 _ rfl z1 hb;have y10:=FC.out 10 _ rfl z1 hb;have y11:=FC.out 11 _ rfl z1 hb)
      |(go_at_call 69;refine(CP.out _).mono ?_;rintro e z2 ⟨rfl,rfl⟩)
      |(go_at_call 66;refine(jodd_any c.path _).mono ?_;rintro e z3 ⟨rfl,hz3⟩;have hb3:=below_nx hb hz3;have v0:=FC.out 0 _ rfl z3 hb3;have v7:=FC.out 7 _ rfl z3 hb3;have v8:=FC.out 8 _ rfl z3 hb3;have v9:=FC.out 9 _ rfl z3 hb3;have v10:=FC.out 10 _ rfl z3 hb3;have v11:=FC.out 11 _ rfl z3 hb3)
      |(go_at_call 70;refine(CN.out _).mono ?_;rintro e z4 ⟨rfl,rfl⟩)
      |(go_at_call 58;refine(jtime_any _ _).mono ?_;rintro e z5 ⟨rfl,rfl⟩))
     refine bodyPost_ret (results_tmp rfl _ _ _) HD.out ?_;exact⟨by rw[HR.out];simp[HK.out],below_nx hb0 hb3⟩
   have i12:0≤c.order:=by omega
   by_cases e13:c.order<2147483647
   case neg=>
    have i13:2147483647≤c.order:=by omega
    have HR:Hid (mayC c=false):=by
     show _=_;unfold mayC;simp[t0,t1,e1,e2,e3,e4,e5,e6,e7,e8,e9,e10,e11,e12,e13]
    rcases e11c with e11a|⟨e11a,e11b⟩
    all_goals
     go_wp2_with(first
      |(go_at_call 68;refine(CH.out _ hbr).mono ?_;rintro e z1 ⟨rfl,hz1⟩;have hb:=below_nx hbr hz1;have y0:=FC.out 0 _ rfl z1 hb;have y4:=FC.out 4 _ rfl z1 hb;have y7:=FC.out 7 _ rfl z1 hb;have y8:=FC.out 8 _ rfl z1 hb;have y9:=FC.out 9 _ rfl z1 hb;have y10:=FC.out 10 _ rfl z1 hb;have y11:=FC.out 11 _ rfl z1 hb)
      |(go_at_call 69;refine(CP.out _).mono ?_;rintro e z2 ⟨rfl,rfl⟩)
      |(go_at_call 66;refine(jodd_any c.path _).mono ?_;rintro e z3 ⟨rfl,hz3⟩;have hb3:=below_nx hb hz3;have v0:=FC.out 0 _ rfl z3 hb3;have v7:=FC.out 7 _ rfl z3 hb3;have v8:=FC.out 8 _ rfl z3 hb3;have v9:=FC.out 9 _ rfl z3 hb3;have v10:=FC.out 10 _ rfl z3 hb3;have v11:=FC.out 11 _ rfl z3 hb3)
      |(go_at_call 70;refine(CN.out _).mono ?_;rintro e z4 ⟨rfl,rfl⟩)
      |(go_at_call 58;refine(jtime_any _ _).mono ?_;rintro e z5 ⟨rfl,rfl⟩))
     go_ret;exact⟨by rw[HR.out];first|rfl|(show Ending.returned (.bool (decide (c.order<2147483647)))=_;rw[decide_eq_false (by omega)]),below_nx hb0 hb3⟩
   have i13:c.order<2147483647:=by omega
   have HR:Hid (mayC c=true):=by
    show _=_;unfold mayC;simp[t0,t1,e1,e2,e3,e4,e5,e6,e7,e8,e9,e10,e11,e12,e13]
   rcases e11c with e11a|⟨e11a,e11b⟩
   all_goals
    go_wp2_with(first
     |(go_at_call 68;refine(CH.out _ hbr).mono ?_;rintro e z1 ⟨rfl,hz1⟩;have hb:=below_nx hbr hz1;have y0:=FC.out 0 _ rfl z1 hb;have y4:=FC.out 4 _ rfl z1 hb;have y7:=FC.out 7 _ rfl z1 hb;have y8:=FC.out 8 _ rfl z1 hb;have y9:=FC.out 9 _ rfl z1 hb;have y10:=FC.out 10 _ rfl z1 hb;have y11:=FC.out 11 _ rfl z1 hb)
     |(go_at_call 69;refine(CP.out _).mono ?_;rintro e z2 ⟨rfl,rfl⟩)
     |(go_at_call 66;refine(jodd_any c.path _).mono ?_;rintro e z3 ⟨rfl,hz3⟩;have hb3:=below_nx hb hz3;have v0:=FC.out 0 _ rfl z3 hb3;have v7:=FC.out 7 _ rfl z3 hb3;have v8:=FC.out 8 _ rfl z3 hb3;have v9:=FC.out 9 _ rfl z3 hb3;have v10:=FC.out 10 _ rfl z3 hb3;have v11:=FC.out 11 _ rfl z3 hb3)
     |(go_at_call 70;refine(CN.out _).mono ?_;rintro e z4 ⟨rfl,rfl⟩)
     |(go_at_call 58;refine(jtime_any _ _).mono ?_;rintro e z5 ⟨rfl,rfl⟩))
    go_ret;exact⟨by rw[HR.out];first|rfl|(show Ending.returned (.bool (decide (c.order<2147483647)))=_;rw[decide_eq_true (by omega)]),below_nx hb0 hb3⟩
open Go.Maps
open Go.WideMaps (KeyLaw)
theorem jar_laid:laidOutB Tryz.prog=true:=by kernel_rfl
theorem jkey_row:(79:TypeId)<Tryz.prog.types.size:=of_decide_eq_true (by kernel_rfl)
theorem jkey_wide:(match Tryz.prog.underlying 79 with|some (.array _ _)|some (.struct _)=>true|_=>false)=true:=by kernel_rfl
set_option maxRecDepth 100000 in
theorem jkey_law:KeyLaw Tryz.prog 79:=deep_law_laid jar_laid (m:=2) (by omega) jkey_row (by kernel_rfl) jkey_wide
theorem str_law:KeyLaw Tryz.prog 9:=WideMaps.string_law Tryz.underlying9
theorem jkey_of (a b c:ByteArray) (q:Bool) (ha:a.size≤maxLen) (hb:b.size≤maxLen) (hc:c.size≤maxLen):∃kl,keyOf Tryz.prog 79 (.agg #[.string a, .string b, .string c, .bool q])=some kl:=by
 have hu:=Tryz.underlying79;have hk:Tryz.prog.keyType 79=true:=by kernel_rfl
 have hf:(Value.agg #[.string a, .string b, .string c, .bool q]).formed Tryz.prog 79=true:=by
  have hc4:Tryz.prog.cellsOf 79=4:=by kernel_rfl
  simp[Value.formed,hu,hc4]
 unfold keyOf;rw[hu];dsimp only;rw[hk,hf];obtain⟨m,hm⟩:∃m,Tryz.prog.types.size=m+1:=⟨Tryz.prog.types.size-1,by have:0<Tryz.prog.types.size:=of_decide_eq_true (by kernel_rfl);omega⟩;rw[hm];have hc4:Tryz.prog.cellsOf 79=4:=by kernel_rfl
 have hcs:Tryz.prog.cellsOf 9=1:=by kernel_rfl
 have hcb:Tryz.prog.cellsOf 4=1:=by kernel_rfl
 simp[Program.keyLits,hu,hc4,hcs,hcb,Value.cells,Tryz.underlying9,Tryz.underlying4,ha,hb,hc]
def CountAt (k:TypeId) (g:CookieL→Value) (r:CookieL→CookieL→Bool) (w:World) (b n:Nat) (pre:List CookieL):Prop:=
 ∃D:DataW Unit,w.ownsMap Tryz.prog k (plainElem Tryz.prog 3) b n D∧IsMap D∧∀c kl,keyOf Tryz.prog k (g c)=some kl→D.atKey kl (.lit (.int .i64 0))= .lit (.int .i64 ((pre.filter (r c)).length:Nat))
theorem count_made (k:TypeId) (g:CookieL→Value) (r:CookieL→CookieL→Bool) (w:World):CountAt k g r (w.alloc (.map #[] 0)) w.heap.size 0 []:=
 ⟨.map [],World.ownsMap_made _ _ _ _,isMap_empty,fun c kl h=>rfl⟩
theorem CountAt.kept {k:TypeId} {g:CookieL→Value} {r:CookieL→CookieL→Bool} {w w':World} {b n:Nat} {pre:List CookieL} {row:Option Nat} (h:CountAt k g r w b n pre) (hg:w.grownBy w' row) (hne:some b≠row):CountAt k g r w' b n pre:=by
 obtain⟨D,h1,h2,h3⟩:=h;exact⟨D,h1.kept hg hne,h2,h3⟩
theorem CountAt.lt {k:TypeId} {g:CookieL→Value} {r:CookieL→CookieL→Bool} {w:World} {b n:Nat} {pre:List CookieL} (h:CountAt k g r w b n pre):b<w.heap.size:=by
 obtain⟨D,h1,h2,h3⟩:=h;exact h1.lt
theorem CountAt.same {k:TypeId} {g:CookieL→Value} {r:CookieL→CookieL→Bool} {w w':World} {b n:Nat} {pre:List CookieL} (h:CountAt k g r w b n pre) (e:w'.heap[b]?=w.heap[b]?):CountAt k g r w' b n pre:=by
 obtain⟨D,⟨es,cl,h1,h2⟩,h3⟩:=h;exact⟨D,⟨es,cl,e.trans h1,h2⟩,h3⟩
theorem int_zero (w:World):(zeroValue 3).run Tryz.prog w= .ok (.int .i64 0) w:=by kernel_rfl
set_option maxRecDepth 100000 in
theorem CountAt.look {k t:TypeId} {g:CookieL→Value} {r:CookieL→CookieL→Bool} {w:World} {b n:Nat} {pre:List CookieL} (h:CountAt k g r w b n pre) (K:KeyLaw Tryz.prog k) (ht:Tryz.prog.underlying t=some (.map k 3)) (c:CookieL) {kl:Lit} (hk:keyOf Tryz.prog k (g c)=some kl):
 (Instr.lookup t (.map (some b)) (g c) false).run Tryz.prog w= .ok (.int .i64 ((pre.filter (r c)).length:Nat)) w:=by
 obtain⟨D,h1,h2,h3⟩:=h
 obtain⟨v,hv,hat,_⟩:=h1.lookup_int (Keyed.of_law K) ht Tryz.underlying3 (int_zero w) hk
 rw[hv]
 have:=hat.symm.trans (h3 c kl hk)
 injection this with this
 injection this with _ this
 rw[this]
set_option maxRecDepth 100000 in
theorem CountAt.more {k:TypeId} {g:CookieL→Value} {r:CookieL→CookieL→Bool} {w':World} {b n:Nat} {pre:List CookieL} {D:DataW Unit} (K:KeyLaw Tryz.prog k) (hr:∀c d,r c d=true↔g d=g c) (h2:IsMap D) (h3:∀c kl,keyOf Tryz.prog k (g c)=some kl→D.atKey kl (.lit (.int .i64 0))= .lit (.int .i64 ((pre.filter (r c)).length:Nat)))
 (c0:CookieL) {kl0:Lit} (hk0:keyOf Tryz.prog k (g c0)=some kl0) (h1:w'.ownsMap Tryz.prog k (plainElem Tryz.prog 3) b n (D.put kl0 (.lit (.int .i64 (((pre.filter (r c0)).length:Nat)+1))))):CountAt k g r w' b n (pre++[c0]):=by
 have KK:=Keyed.of_law K
 refine⟨_,h1, ?_,fun c kl hk=> ?_⟩
 ·obtain⟨es,rfl⟩:=h2
  exact⟨_,rfl⟩
 ·rw[List.filter_append]
  by_cases hc:g c0=g c
  ·have hkl:kl=kl0:=by rw[←hc,hk0]at hk;injection hk with hk;exact hk.symm
   subst hkl;rw[atKey_put_same h2 (KK.key hk0)];have hf:pre.filter (r c0)=pre.filter (r c):=by
    congr 1
    funext d
    rw[Bool.eq_iff_iff,hr,hr,hc]
   rw[hf,List.filter_cons_of_pos ((hr c c0).2 hc),List.length_append];rfl
  ·have hkl:kl≠kl0:=fun e=>by
    subst e;exact hc (KK.inj hk0 hk)
   rw[atKey_put_other hkl,h3 c kl hk,List.filter_cons_of_neg (by rw[hr];exact hc)];simp
set_option maxRecDepth 100000 in
theorem CountAt.store {k t:TypeId} {g:CookieL→Value} {r:CookieL→CookieL→Bool} {w:World} {b n:Nat} {pre:List CookieL} (h:CountAt k g r w b n pre) (K:KeyLaw Tryz.prog k) (ht:Tryz.prog.underlying t=some (.map k 3)) (hr:∀c d,r c d=true↔g d=g c) (hn:n<maxLen) (hp:pre.length≤1000000) (c:CookieL) {kl:Lit} (hk:keyOf Tryz.prog k (g c)=some kl):
 ∃w',(Instr.mapUpdate t (.map (some b)) (g c) (.int .i64 (((pre.filter (r c)).length:Nat)+1))).run Tryz.prog w= .ok () w'∧CountAt k g r w' b (n+1) (pre++[c])∧w.grownBy w' (some b):=by
 obtain⟨D,h1,h2,h3⟩:=h
 have hl:=List.length_filter_le (r c) pre
 obtain⟨w',hrun,h4,hg⟩:=h1.update (Keyed.of_law K) ht hn hk (plainElem_int (H:=Unit) (a:=(((pre.filter (r c)).length:Nat):Int)+1) Tryz.underlying3 (WalkArith.wf_i64 ⟨by omega,by omega⟩))
 exact⟨w',hrun,CountAt.more K hr h2 h3 c hk h4,hg⟩
set_option maxRecDepth 100000 in
theorem CountAt.place {k t:TypeId} {g:CookieL→Value} {r:CookieL→CookieL→Bool} {w:World} {b n:Nat} {pre:List CookieL} (h:CountAt k g r w b n pre) (K:KeyLaw Tryz.prog k) (ht:Tryz.prog.underlying t=some (.map k 3)) (hr:∀c d,r c d=true↔g d=g c) (hn:n<maxLen) (c:CookieL) {kl:Lit} (hk:keyOf Tryz.prog k (g c)=some kl)
 {v:Value} {w1:World} (hrun:(Instr.mapEntry t (.map (some b)) (g c)).run Tryz.prog w= .ok v w1):CountAt k g r w1 b (n+1) pre:=by
 have hlook:=h.look K ht c hk
 obtain⟨D,h1,h2,h3⟩:=h
 have h1':=h1
 obtain⟨es,cl,hb,F,hs,hD⟩:=h1'
 rcases K.find w hk es.toList F.keys with ⟨q1,q2⟩|⟨j,e0,q1,q2,q3⟩
 ·have hz0:(pre.filter (r c)).length=0:=by
   have hl2:(Instr.lookup t (.map (some b)) (g c) false).run Tryz.prog w= .ok (.int .i64 0) w:=by
    simp[Instr.lookup,run_underlying ht,MapKept.run_getObj_map hb,K.check w _ hk,q1,int_zero,Result.andThen]
   rw[hlook]at hl2;injection hl2 with hl2;injection hl2 with _ hl2;omega
  have e1:(Instr.mapEntry t (.map (some b)) (g c)).run Tryz.prog w= .ok (.tuple #[.int .i64 0,goInt cl]) (ChangeMaps.setBlock w b (.map (es.push ⟨g c, .int .i64 0,cl⟩) (cl+1))):=by
   simp[Instr.mapEntry,run_underlying ht,MapKept.run_getObj_map hb,K.check w false hk,q1,int_zero,MapKept.run_setObj_map _ hb,Result.andThen,ChangeMaps.setBlock]
  have e2:(Instr.mapUpdate t (.map (some b)) (g c) (.int .i64 0)).run Tryz.prog w= .ok () (ChangeMaps.setBlock w b (.map (es.push ⟨g c, .int .i64 0,cl⟩) (cl+1))):=by
   simp[Instr.mapUpdate,run_underlying ht,MapKept.run_getObj_map hb,K.check w false hk,q1,MapKept.run_setObj_map _ hb,Result.andThen,ChangeMaps.setBlock]
  rw[e1]at hrun;injection hrun with _ hrun;subst hrun;obtain⟨w',hup,h4,_⟩:=h1.update (Keyed.of_law K) ht hn hk (plainElem_int (H:=Unit) (a:=0) Tryz.underlying3 (WalkArith.wf_i64 ⟨by omega,by omega⟩));rw[e2]at hup;injection hup with _ hup;subst hup;have KK:=Keyed.of_law K;refine⟨_,h4, ?_,fun d kl2 hk2=> ?_⟩
  ·obtain⟨es2,rfl⟩:=h2
   exact⟨_,rfl⟩
  ·by_cases hc:g c=g d
   ·have hkl:kl2=kl:=by rw[←hc,hk]at hk2;injection hk2 with hk2;exact hk2.symm
    subst hkl;rw[atKey_put_same h2 (KK.key hk)];have hf:pre.filter (r d)=pre.filter (r c):=by
     congr 1
     funext x
     rw[Bool.eq_iff_iff,hr,hr,hc]
    rw[hf,hz0];rfl
   ·have hkl:kl2≠kl:=fun e=>by
     subst e;exact hc (KK.inj hk hk2)
    rw[atKey_put_other hkl,h3 d kl2 hk2]
 ·have hj:es[j]?=some e0:=by simpa using q2
  have hsame:es.modify j (fun e=> {e with key:=g c})=es:=by
   apply Array.ext';rw[Array.toList_modify,ChangeMaps.modify_eq_set _ _ _ _ q2];have:({e0 with key:=g c}:MapEntry)=e0:=by rw[←q3]
   rw[this];exact WideElems.set_self _ _ _ q2
  have e1:(Instr.mapEntry t (.map (some b)) (g c)).run Tryz.prog w= .ok (.tuple #[e0.val,goInt e0.born]) (ChangeMaps.setBlock w b (.map es cl)):=by
   simp[Instr.mapEntry,run_underlying ht,MapKept.run_getObj_map hb,K.check w false hk,q1,hj,q3,K.stays w hk,hsame,MapKept.run_setObj_map _ hb,Result.andThen,ChangeMaps.setBlock]
  rw[e1]at hrun;injection hrun with _ hrun;subst hrun;have:=CountAt.same (k:=k) (g:=g) (r:=r) (w:=w) (b:=b) (n:=n) (pre:=pre) ⟨D,h1,h2,h3⟩ ((ChangeMaps.heap_setBlock_same hb (.map es cl)).trans hb.symm);obtain⟨D2,p1,p2,p3⟩:=this;exact⟨D2,p1.mono (Nat.le_succ n),p2,p3⟩
set_option maxRecDepth 100000 in
theorem CountAt.entry {k t:TypeId} {g:CookieL→Value} {r:CookieL→CookieL→Bool} {w:World} {b n:Nat} {pre:List CookieL} (h:CountAt k g r w b n pre) (K:KeyLaw Tryz.prog k) (ht:Tryz.prog.underlying t=some (.map k 3)) (hr:∀c d,r c d=true↔g d=g c) (hn:n<maxLen) (hp:pre.length≤1000000) (c:CookieL) {kl:Lit} (hk:keyOf Tryz.prog k (g c)=some kl):
 ∃(v0:Value) (st:Nat) (w1:World),(Instr.mapEntry t (.map (some b)) (g c)).run Tryz.prog w= .ok (.tuple #[v0,goInt st]) w1∧w.grownBy w1 (some b)∧
  ∀w2:World,w1.grownBy w2 none→∃w3,(Instr.entryStore t (.map (some b)) (goInt st) (.int .i64 (((pre.filter (r c)).length:Nat)+1))).run Tryz.prog w2= .ok () w3∧CountAt k g r w3 b (n+1) (pre++[c])∧w2.grownBy w3 (some b):=by
 obtain⟨w',hup,hC,_⟩:=h.store K ht hr hn hp c hk
 obtain⟨D,⟨es,cl,hb,F,_⟩,_⟩:=h
 obtain⟨v0,st,es1,cl1,hrun,_,hst⟩:=WideElems.entry_then_store K ht (fun u=>int_zero u) hb F hk
 have hlt:=(Array.getElem?_eq_some_iff.1 hb).1
 have hg1:w.grownBy (ChangeMaps.setBlock w b (.map es1 cl1)) (some b):=⟨rfl,rfl,rfl,by simp[ChangeMaps.setBlock],fun i _ hi=>ChangeMaps.heap_setBlock_other hb _ (fun e=>hi (by rw[e]))⟩
 refine⟨v0,st,_,hrun,hg1,fun w2 hw2=> ?_⟩
 have h1:(ChangeMaps.setBlock w b (.map es1 cl1)).heap[b]?=some (.map es1 cl1):=ChangeMaps.heap_setBlock_same hb _
 have h2:w2.heap[b]?=some (.map es1 cl1):=(hw2.block b (Array.getElem?_eq_some_iff.1 h1).1 (by simp)).trans h1
 obtain⟨es',cl',hs,hu⟩:=hst w2 (.int .i64 (((pre.filter (r c)).length:Nat)+1)) h2
 rw[hup]at hu
 injection hu with _ hu
 subst hu
 refine⟨_,hs,hC.same ((ChangeMaps.heap_setBlock_same h2 _).trans (ChangeMaps.heap_setBlock_same hb _).symm),⟨rfl,rfl,rfl,by simp[ChangeMaps.setBlock],fun i _ hi=>ChangeMaps.heap_setBlock_other h2 _ (fun e=>hi (by rw[e]))⟩⟩
end Go.Proofs.YtjkipdoebkhkaaaGreatDoor
