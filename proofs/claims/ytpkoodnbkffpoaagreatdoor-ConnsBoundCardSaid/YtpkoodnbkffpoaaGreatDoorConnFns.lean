/- Connections: the small functions walked. -/
import Derived.Test.YtpkoodnbkffpoaaGreatDoorConnRow
import Derived.Test.YtpkoodnbkffpoaaGreatDoorGHP
set_option linter.unusedVariables false
set_option linter.unusedSimpArgs false
set_option maxHeartbeats 16000000
namespace Go.Proofs.YtpkoodnbkffpoaaGreatDoor
open Go.RowKit
abbrev keyA_ (k:KeyL):Array Value:= #[.bool k.safe, .string ⟨k.host.toArray⟩, .int .i64 k.port]
abbrev keyVal (k:KeyL):Value:= .agg (keyA_ k)
abbrev connA (x:ConnL):Array Value:= #[.int .i64 x.id, .bool x.key.safe, .string ⟨x.key.host.toArray⟩, .int .i64 x.key.port, .int .i64 x.given]
abbrev connV (x:ConnL):Value:= .agg (connA x)
theorem there_yes (B:Nat) (w:World) (h:w.cell? ⟨B,0,none⟩=some (.int .i64 1)):Calls Tryz.prog 23 #[.pointer (some ⟨B,0,none⟩)] w fun e w'=>e= .returned (.bool true)∧w=w':=by
 go_enter Tryz.func23,Tryz.ntmps23;go_wp2_with fail;go_ret;exact⟨rfl,rfl⟩
theorem there_no (w:World):Calls Tryz.prog 23 #[.pointer none] w fun e w'=>e= .returned (.bool false)∧w=w':=by
 go_enter Tryz.func23,Tryz.ntmps23;go_wp2_with fail;go_ret;exact⟨rfl,rfl⟩
theorem ctime_any (n:Int) (w:World) (h0:0≤n) (h1:n≤1000000):Calls Tryz.prog 25 #[.int .i64 n] w fun e w'=>e= .returned (.bool true)∧w=w':=by
 have h2:n≤1099511627775:=by omega
 go_enter Tryz.func25,Tryz.ntmps25;go_wp2_with fail;go_ret;exact⟨rfl,rfl⟩
theorem new_any (w:World):Calls Tryz.prog 8 #[] w fun e w'=>e= .returned (.pointer (some ⟨w.heap.size,0,none⟩))∧w'=w.alloc (.cells #[.int .i64 1, .slice none 0 0, .int .i64 0] 69):=by
 go_enter Tryz.func8,Tryz.ntmps8;go_wp2_with fail;go_ret;exact⟨rfl,rfl⟩
theorem kept_any (x:ConnL) (w:World):Calls Tryz.prog 27 #[connV x] w fun e w'=>e= .returned (.bool (keptB x))∧Below w.heap.size w w':=by
 obtain⟨i,⟨s,h,p⟩,g⟩:=x;go_enter Tryz.func27,Tryz.ntmps27;go_wp2_with fail;go_ret;exact⟨rfl,below_alloc w _⟩
theorem idle_any2 (x:ConnL) (now:Int) (w:World) (h0:0≤x.given) (h1:x.given≤1000000) (h2:0≤now) (h3:now≤1000000):Calls Tryz.prog 28 #[connV x, .int .i64 now] w fun e w'=>e= .returned (.bool (idleB x now))∧Below w.heap.size w w':=by
 obtain⟨i,⟨s,h,p⟩,g⟩:=x;dsimp only at h0 h1;by_cases hlt:g<now
 ·have hle:0≤now-g:=by omega
  have hle2:now-g≤1000000:=by omega
  go_enter Tryz.func28,Tryz.ntmps28;go_wp2_with fail;go_ret;exact⟨by simp[idleB,hlt],below_alloc w _⟩
 ·go_enter Tryz.func28,Tryz.ntmps28
  go_wp2_with fail;go_ret;have hid:idleB ⟨i,⟨s,h,p⟩,g⟩ now=false:=by unfold idleB;rw[decide_eq_false (Int.not_lt.2 hlt)];rfl
  exact⟨by rw[hid];rfl,below_alloc w _⟩
theorem any_any (x:ConnL) (w:World):Calls Tryz.prog 34 #[connV x] w fun e w'=>e= .returned (.bool true)∧Below w.heap.size w w':=by
 obtain⟨i,⟨s,h,p⟩,g⟩:=x;go_enter Tryz.func34,Tryz.ntmps34;go_wp2_with fail;go_ret;exact⟨rfl,below_alloc w _⟩
theorem take2_any (x:ConnL) (w:World):Calls Tryz.prog 30 #[connV x] w fun e w'=>e= .returned (.bool true)∧Below w.heap.size w w':=by
 obtain⟨i,⟨s,h,p⟩,g⟩:=x;go_enter Tryz.func30,Tryz.ntmps30;go_wp2_with fail;go_ret;exact⟨rfl,below_alloc w _⟩
theorem take1_any (x:ConnL) (k:KeyL) (q:Nat) (w:World) (hk:w.heap[q]?=some (.cells (keyA_ k) 28 (0,0))):Calls Tryz.prog 26 #[connV x, .pointer (some ⟨q,0,none⟩)] w fun e w'=>e= .returned (.bool (mineB k x))∧Below w.heap.size w w':=by
 obtain⟨i,⟨s,h,p⟩,g⟩:=x;obtain⟨s2,h2,p2⟩:=k;have c0:w.cell? ⟨q,0,none⟩=some (.bool s2):=by rw[Lib.cell_of_heap hk];rfl
 have c1:w.cell? ⟨q,1,none⟩=some (.string ⟨h2.toArray⟩):=by rw[Lib.cell_of_heap hk];rfl
 have c2:w.cell? ⟨q,2,none⟩=some (.int .i64 p2):=by rw[Lib.cell_of_heap hk];rfl
 have hl:q<w.heap.size:=(Array.getElem?_eq_some_iff.1 hk).1;clear hk;go_enter Tryz.func26,Tryz.ntmps26;go_wp2_with fail
 all_goals
  go_ret;refine⟨?_,below_alloc w _⟩;rename_i h_;simp[mineB, *]
theorem compare_int (a b:Int) (w:World):Calls Tryz.prog 49 #[.int .i64 a, .int .i64 b] w fun e w'=>e= .returned (.int .i64 (if a<b then -1 else if b<a then 1 else 0))∧w=w':=by
 have hn:∀n W,Calls Tryz.prog 84 #[.int .i64 n] W fun e W'=>e= .returned (.bool false)∧W=W':=fun n W=>by
  go_enter Tryz.func84,Tryz.ntmps84;go_wp2_with fail;go_ret;exact⟨by simp,rfl⟩
 have HN:=Lib.hid hn;clear hn;by_cases h1:a<b
 ·go_enter Tryz.func49,Tryz.ntmps49
  go_wp2_with(go_at_call 84;refine(HN.out _ _).mono ?_;rintro e w1 ⟨rfl,rfl⟩);go_ret;exact⟨by simp[h1],rfl⟩
 ·by_cases h2:b<a
  ·go_enter Tryz.func49,Tryz.ntmps49
   go_wp2_with(go_at_call 84;refine(HN.out _ _).mono ?_;rintro e w1 ⟨rfl,rfl⟩);go_ret;exact⟨by simp[h1,h2],rfl⟩
  ·go_enter Tryz.func49,Tryz.ntmps49
   go_wp2_with(go_at_call 84;refine(HN.out _ _).mono ?_;rintro e w1 ⟨rfl,rfl⟩);go_ret;exact⟨by simp[h1,h2],rfl⟩
def cmpI (a b:Int):Int:=if a<b then -1 else if b<a then 1 else 0
theorem place1_any (x:ConnL) (n:Nat) (w:World):Calls Tryz.prog 70 #[connV x, .int .i64 n] w fun e w'=>e= .returned (.int .i64 (cmpI x.id n))∧Below w.heap.size w w':=by
 have hc:=fun W=>compare_int (x.id:Int) (n:Int) W
 change ∀W,Calls _ _ _ W fun e W'=>e= .returned (.int .i64 (cmpI x.id n))∧W=W' at hc
 generalize cmpI x.id n=r at*;have HC:=Lib.hid hc;clear hc;obtain⟨i,⟨s,h,p⟩,g⟩:=x;go_enter Tryz.func70,Tryz.ntmps70;go_wp2_with(go_at_call 49;refine(HC.out _).mono ?_;rintro e w1 ⟨rfl,rfl⟩);go_ret;exact⟨rfl,below_alloc w _⟩
theorem old1_any (x:ConnL) (now:Int) (q:Nat) (w:World) (hq:w.cell? ⟨q,0,none⟩=some (.int .i64 now)) (h1:x.given≤1000000) (h2:0≤now) (h3:now≤1000000):
 Calls Tryz.prog 35 #[connV x, .pointer (some ⟨q,0,none⟩)] w fun e w'=>e= .returned (.bool (oldB now x))∧Below w.heap.size w w':=by
 obtain⟨W0,hW0⟩:∃W,w.alloc (.cells (connA x) 73)=W:=⟨_,rfl⟩
 have hb0:Below w.heap.size w W0:=by rw[←hW0];exact below_alloc w _
 have hB:W0.heap[w.heap.size]?=some (.cells (connA x) 73 (0,0)):=by rw[←hW0];exact heap_alloc_new w _
 have hlq:q<w.heap.size:=World.block_lt_of_cell? _ _ hq
 have hlB:=(Array.getElem?_eq_some_iff.1 hB).1
 have d0:∀W,Below W0.heap.size W0 W→W.cell? ⟨w.heap.size,0,none⟩=some (.int .i64 x.id):=fun W hW=>by rw[Lib.cell_of_heap ((hW.block _ hlB).trans hB)];rfl
 have d1:∀W,Below W0.heap.size W0 W→W.cell? ⟨w.heap.size,1,none⟩=some (.bool x.key.safe):=fun W hW=>by rw[Lib.cell_of_heap ((hW.block _ hlB).trans hB)];rfl
 have d2:∀W,Below W0.heap.size W0 W→W.cell? ⟨w.heap.size,2,none⟩=some (.string ⟨x.key.host.toArray⟩):=fun W hW=>by rw[Lib.cell_of_heap ((hW.block _ hlB).trans hB)];rfl
 have d3:∀W,Below W0.heap.size W0 W→W.cell? ⟨w.heap.size,3,none⟩=some (.int .i64 x.key.port):=fun W hW=>by rw[Lib.cell_of_heap ((hW.block _ hlB).trans hB)];rfl
 have d4:∀W,Below W0.heap.size W0 W→W.cell? ⟨w.heap.size,4,none⟩=some (.int .i64 x.given):=fun W hW=>by rw[Lib.cell_of_heap ((hW.block _ hlB).trans hB)];rfl
 have dq:∀W,Below W0.heap.size W0 W→W.cell? ⟨q,0,none⟩=some (.int .i64 now):=fun W hW=>(hW.cell (p:=⟨q,0,none⟩) (by show q<_;omega)).trans ((hb0.cell (p:=⟨q,0,none⟩) hlq).trans hq)
 have ck:=kept_any x
 have hbr:=Below.refl W0.heap.size W0
 have c0:=d0 W0 hbr;have c1:=d1 W0 hbr;have c2:=d2 W0 hbr;have c3:=d3 W0 hbr;have c4:=d4 W0 hbr;have cq:=dq W0 hbr
 have D:=Lib.hid (And.intro d0 (And.intro d1 (And.intro d2 (And.intro d3 (And.intro d4 dq)))))
 have HW:=Lib.hid hW0
 have CK:=Lib.hid ck
 clear hW0 d0 d1 d2 d3 d4 dq ck hB
 by_cases hk:0≤x.given
 ·have ci:=fun W=>idle_any2 x now W hk h1 h2 h3
  have CI:=Lib.hid ci;have hkb:keptB x=true:=decide_eq_true hk;have hold:oldB now x=idleB x now:=by unfold oldB;rw[hkb];rfl
  rw[hold];generalize idleB x now=r at*;have CK2:=CK;rw[hkb]at CK2;clear ci hkb hold CK;go_enter Tryz.func35,Tryz.ntmps35;go_upto_region 1 with fail;rw[HW.out];go_wp2_with(first|(go_at_call 27;refine(CK2.out _).mono ?_;rintro e w1 ⟨rfl,hb1⟩;obtain⟨d0,d1,d2,d3,d4,dq⟩:=D.out;replace c0:=d0 w1 hb1;replace c1:=d1 w1 hb1;replace c2:=d2 w1 hb1;replace c3:=d3 w1 hb1;replace c4:=d4 w1 hb1;replace cq:=dq w1 hb1;clear d0 d1 d2 d3 d4 dq)|(go_at_call 28;refine(CI.out _).mono ?_;rintro e w2 ⟨rfl,hb2⟩));go_ret;exact⟨rfl,hb0.trans ((hb1.trans (hb2.mono hb1.size)).mono hb0.size)⟩
 ·have hkb:keptB x=false:=decide_eq_false hk
  have hold:oldB now x=false:=by unfold oldB;rw[hkb];rfl
  rw[hold];have CK2:=CK;rw[hkb]at CK2;clear hkb hold CK;go_enter Tryz.func35,Tryz.ntmps35;go_upto_region 1 with fail;rw[HW.out];go_wp2_with(go_at_call 27;refine(CK2.out _).mono ?_;rintro e w1 ⟨rfl,hb1⟩);go_ret;exact⟨rfl,hb0.trans (hb1.mono hb0.size)⟩
def encI (n:Nat):List Value:=[.int .i64 n]
theorem clip_ints (v:Value) (X:List Nat) (w:World) (h:RowS 1 encI w v X) (hl:X.length≤1000000):
 Calls Tryz.prog 71 #[v] w fun e w'=>(∃v',e= .returned v'∧RowS 1 encI w v' X∧v'.ownBlock=v.ownBlock)∧w=w':=by
 rcases h with ⟨rfl,rfl⟩|⟨a,c,rfl,hc,hb,hcell⟩
 ·go_enter Tryz.func71,Tryz.ntmps71
  go_wp2_with fail;go_ret;exact⟨⟨_,rfl, .inl ⟨rfl,rfl⟩,rfl⟩,rfl⟩
 ·have HC:=Lib.hid hcell
  have HB:=Lib.hid hb;have hci:(X.length:Int)≤(c:Int):=by omega
  clear hcell hb;go_enter Tryz.func71,Tryz.ntmps71;go_wp2_with fail;go_ret;exact⟨⟨_,rfl, .inr ⟨a,X.length,by simp,Nat.le_refl _,HB.out,HC.out⟩,rfl⟩,rfl⟩
end Go.Proofs.YtpkoodnbkffpoaaGreatDoor
