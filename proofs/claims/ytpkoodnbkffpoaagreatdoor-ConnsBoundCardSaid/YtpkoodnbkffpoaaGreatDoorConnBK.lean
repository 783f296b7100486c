/- footmanlaw19.key, and what ConnsBound's steps are. -/
import Derived.Test.YtpkoodnbkffpoaaGreatDoorConnOldL
set_option linter.unusedVariables false
set_option linter.unusedSimpArgs false
set_option maxHeartbeats 16000000
namespace Go.Proofs.YtpkoodnbkffpoaaGreatDoor
open Go.RowKit
theorem lawkey_results {B:Nat} {W:World} {k:KeyL} {tmps:Array Value} (h2:tmps[2]?.getD undef= .pointer (some ⟨B,0,none⟩)) (hU:W.heap[B]?=some (.cells (keyA_ k) 28 (0,0))):
 (results Tryz.f9 tmps).run Tryz.prog W= .ok (keyVal k) W:=by
 have c0:W.cell? ⟨B,0,none⟩=some (.bool k.safe):=by rw[Lib.cell_of_heap hU];rfl
 have c1:W.cell? ⟨B,1,none⟩=some (.string ⟨k.host.toArray⟩):=by rw[Lib.cell_of_heap hU];rfl
 have c2:W.cell? ⟨B,2,none⟩=some (.int .i64 k.port):=by rw[Lib.cell_of_heap hU];rfl
 simp[results,Tryz.results9,go_sem,h2,c0,c1,c2]
set_option maxRecDepth 100000 in
theorem lawkey_any (n:Nat) (hn:n≤255) (w:World):Calls Tryz.prog 9 #[.int .u8 n] w fun e w'=>e= .returned (keyVal (keyB n))∧Below w.heap.size w w':=by
 obtain⟨W0,hW0⟩:∃W,w.alloc (.cells #[.bool false, .string ⟨#[]⟩, .int .i64 0] 28)=W:=⟨_,rfl⟩;have hb0:Below w.heap.size w W0:=by rw[←hW0];exact below_alloc w _
 have hB0:W0.heap[w.heap.size]?=some (.cells #[.bool false, .string ⟨#[]⟩, .int .i64 0] 28 (0,0)):=by rw[←hW0];exact heap_alloc_new w _
 have hl0:=(Array.getElem?_eq_some_iff.1 hB0).1;have hni:(n:Int)≤255:=by omega
 have hcu:((97:Int)+(n:Int) % 9)=((UInt8.ofNat (97+n % 9)).toNat:Int):=by
  have:(UInt8.ofNat (97+n % 9)).toNat=97+n % 9:=by simp;omega
  omega
 have hcv:=conv1 W0 (UInt8.ofNat (97+n % 9));have hb4:=below_alloc W0 (.cells #[.int .u8 ((UInt8.ofNat (97+n % 9)).toNat:Int)] 5);have hkey:keyB n=⟨decide (n % 2=1),[UInt8.ofNat (97+n % 9),46,116,101,115,116],((80+n % 3:Nat):Int)⟩:=rfl;rw[hkey];clear hkey;generalize hcc:UInt8.ofNat (97+n % 9)=cc at*;have f0:W0.frozen? ⟨w.heap.size,0,none⟩=false:=by simp[World.frozen?,hB0]
 have f1:W0.frozen? ⟨w.heap.size,1,none⟩=false:=by simp[World.frozen?,hB0]
 have f2:W0.frozen? ⟨w.heap.size,2,none⟩=false:=by simp[World.frozen?,hB0]
 have k0:W0.cell? ⟨w.heap.size,0,none⟩=some (.bool false):=by rw[Lib.cell_of_heap hB0];rfl
 have k1:W0.cell? ⟨w.heap.size,1,none⟩=some (.string ⟨#[]⟩):=by rw[Lib.cell_of_heap hB0];rfl
 have k2:W0.cell? ⟨w.heap.size,2,none⟩=some (.int .i64 0):=by rw[Lib.cell_of_heap hB0];rfl
 have HB0:=Lib.hid hB0;have HW:=Lib.hid hW0;clear hB0 hW0 hcc hb4;go_enter Tryz.func9,Tryz.ntmps9;go_upto_region 1 with fail;rw[HW.out];go_wp2_with fail;refine bodyPost_ret (lawkey_results (k:=⟨decide (n % 2=1),[cc,46,116,101,115,116],((80+n % 3:Nat):Int)⟩) rfl ?_) rfl ⟨rfl, ?_⟩
 ·have hq:=key_set (x:= .bool ((n:Int) % 2==1)) (y:= .string ⟨#[cc,46,116,101,115,116]⟩) (z:= .int .i64 (80+(n:Int) % 3)) HB0.out
  have e1:((n:Int) % 2==1)=decide (n % 2=1):=by
   by_cases h:n % 2=1
   ·rw[decide_eq_true h];exact beq_iff_eq.2 (by omega)
   ·rw[decide_eq_false h];exact beq_eq_false_iff_ne.2 (by omega)
  have e2:(80+(n:Int) % 3)=((80+n % 3:Nat):Int):=by omega
  rw[e1,e2]at hq;rw[←e1,←e2];rw[←e1,←e2]at hq;exact(Below.heap_alloc _ _ _ (by simp only[World.size_setCell];exact hl0)).trans hq
 ·exact(((hb0.setCell (p:=⟨w.heap.size,0,none⟩) (Nat.le_refl _) _).setCell (p:=⟨w.heap.size,1,none⟩) (Nat.le_refl _) _).setCell (p:=⟨w.heap.size,2,none⟩) (Nat.le_refl _) _).alloc (by simp only[World.size_setCell];exact hb0.size) _
end Go.Proofs.YtpkoodnbkffpoaaGreatDoor
