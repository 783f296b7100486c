/- The walk of urls.Key. -/
import Derived.Test.YtgihofogkoeimaaGreatDoorGUrlT
import Derived.Test.YtgihofogkoeimaaGreatDoorGUrl4
import Derived.Deep.RegionWith
set_option linter.unusedVariables false
set_option linter.unusedSimpArgs false
namespace Go.Proofs.YtgihofogkoeimaaGreatDoor
open Go.RowKit
def keyV (u : UrlL) : Value := .agg #[.bool (u.scheme == httpsB), .string ⟨u.host.toArray⟩, .int .i64 (portN u)]
set_option maxRecDepth 100000 in
theorem key_results {K : Nat} {W : World} {a b c : Value} {tmps : Array Value} (hk : W.heap[K]? = some (.cells #[a, b, c] 29 (0, 0))) (h2 : tmps[2]?.getD undef = .pointer (some ⟨K, 0, none⟩)) :
  (results Tryz.f22 tmps).run Tryz.prog W = .ok (.agg #[a, b, c]) W := by
 have c0 : W.cell? ⟨K, 0, none⟩ = some a := by rw [Lib.cell_of_heap hk]; rfl
 have c1 : W.cell? ⟨K, 1, none⟩ = some b := by rw [Lib.cell_of_heap hk]; rfl
 have c2 : W.cell? ⟨K, 2, none⟩ = some c := by rw [Lib.cell_of_heap hk]; rfl
 simp [results, Tryz.results22, go_sem, h2, c0, c1, c2]
theorem key_put {K n : Nat} {w0 W : World} {a b c x y z : Value} (hk : W.heap[K]? = some (.cells #[a, b, c] 29 (0, 0))) (hb : Below n w0 W) (hn : n ≤ K) :
  (((W.setCell ⟨K, 0, none⟩ x).setCell ⟨K, 1, none⟩ y).setCell ⟨K, 2, none⟩ z).heap[K]? = some (.cells #[x, y, z] 29 (0, 0)) ∧ Below n w0 (((W.setCell ⟨K, 0, none⟩ x).setCell ⟨K, 1, none⟩ y).setCell ⟨K, 2, none⟩ z) := by
 have h1 : (W.setCell ⟨K, 0, none⟩ x).heap[K]? = some (.cells #[x, b, c] 29 (0, 0)) := by rw [heap_setCell_in hk]; rfl
 have h2 : ((W.setCell ⟨K, 0, none⟩ x).setCell ⟨K, 1, none⟩ y).heap[K]? = some (.cells #[x, y, c] 29 (0, 0)) := by rw [heap_setCell_in h1]; rfl
 exact ⟨by rw [heap_setCell_in h2]; rfl, ((hb.setCell (p := ⟨K, 0, none⟩) hn _).setCell (p := ⟨K, 1, none⟩) hn _).setCell (p := ⟨K, 2, none⟩) hn _⟩
set_option maxRecDepth 100000 in
set_option maxHeartbeats 4000000 in
theorem key_u (u : UrlL) (w : World) : Calls Tryz.prog 22 #[urlV u] w fun e w' => e = .returned (keyV u) ∧ Below w.heap.size w w' := by
 obtain ⟨w1, hw1⟩ : ∃ w1, w.alloc (.cells #[.string ⟨u.scheme.toArray⟩, .string ⟨u.user.toArray⟩, .string ⟨u.pass.toArray⟩, .string ⟨u.host.toArray⟩, .int .i64 u.port, .string ⟨u.path.toArray⟩, .string ⟨u.query.toArray⟩, .bool u.hasQ, .string ⟨u.mark.toArray⟩, .bool u.hasM] 23) = w1 := ⟨_, rfl⟩
 have hb1 : Below w.heap.size w w1 := by rw [← hw1]; exact below_alloc w _
 have hU1 : UrlAt w.heap.size u w1 := by rw [← hw1]; exact heap_alloc_new w _
 have hlt := hU1.lt
 have cp := fun W => portn_u u W
 have hk0 : (w1.alloc (.cells #[.bool false, .string ⟨#[]⟩, .int .i64 0] 29)).heap[w1.heap.size]? = some (.cells #[.bool false, .string ⟨#[]⟩, .int .i64 0] 29 (0, 0)) := heap_alloc_new w1 _
 have hbk := below_alloc w1 (.cells #[.bool false, .string ⟨#[]⟩, .int .i64 0] 29)
 have hlk : w1.heap.size < (w1.alloc (.cells #[.bool false, .string ⟨#[]⟩, .int .i64 0] 29)).heap.size := by rw [World.size_alloc]; omega
 have p0 : w1.cell? ⟨w.heap.size, 0, none⟩ = some _ := hU1.cell 0
 have p1 : w1.cell? ⟨w.heap.size, 1, none⟩ = some _ := hU1.cell 1
 have p2 : w1.cell? ⟨w.heap.size, 2, none⟩ = some _ := hU1.cell 2
 have p3 : w1.cell? ⟨w.heap.size, 3, none⟩ = some _ := hU1.cell 3
 have p4 : w1.cell? ⟨w.heap.size, 4, none⟩ = some _ := hU1.cell 4
 have p5 : w1.cell? ⟨w.heap.size, 5, none⟩ = some _ := hU1.cell 5
 have p6 : w1.cell? ⟨w.heap.size, 6, none⟩ = some _ := hU1.cell 6
 have p7 : w1.cell? ⟨w.heap.size, 7, none⟩ = some _ := hU1.cell 7
 have p8 : w1.cell? ⟨w.heap.size, 8, none⟩ = some _ := hU1.cell 8
 have p9 : w1.cell? ⟨w.heap.size, 9, none⟩ = some _ := hU1.cell 9
 have key : ∀ w3, Below (w1.alloc (.cells #[.bool false, .string ⟨#[]⟩, .int .i64 0] 29)).drew.heap.size (w1.alloc (.cells #[.bool false, .string ⟨#[]⟩, .int .i64 0] 29)).drew w3 → Below w.heap.size w w3 ∧ UrlAt w.heap.size u w3 ∧ w3.heap[w1.heap.size]? = some (.cells #[.bool false, .string ⟨#[]⟩, .int .i64 0] 29 (0, 0)) := fun w3 hb3 => by
  have hb4 : Below w1.heap.size w1 w3 := hbk.drew.trans (hb3.mono (Nat.le_of_lt hlk))
  exact ⟨hb1.trans (hb4.mono hb1.size), (hb4.block _ hlt).trans hU1, (hb3.block w1.heap.size hlk).trans hk0⟩
 unfold urlV at cp ⊢
 go_enter Tryz.func22, Tryz.ntmps22
 go_wp2_with fail
 go_region_with (go_at_call 18; refine (cp _).mono ?_; rintro e w3 ⟨rfl, hb3⟩; obtain ⟨hb4, hU3, hk3⟩ := key _ hb3; have u0 := hU3.cell 0; have u3 := hU3.cell 3; have x0 := Lib.cell_of_heap hk3 0; have x1 := Lib.cell_of_heap hk3 1; have x2 := Lib.cell_of_heap hk3 2; have y0 := Lib.frozen_of_heap hk3 0; have y1 := Lib.frozen_of_heap hk3 1; have y2 := Lib.frozen_of_heap hk3 2; simp [cellsU] at u0 u3 x0 x1 x2)
 all_goals
  clear x0 x1 x2 y0 y1 y2 u0 u3 hb3
  go_wp2_with fail
  obtain ⟨r1, r2⟩ := key_put (x := .bool (u.scheme == [104, 116, 116, 112, 115])) (y := .string ⟨u.host.toArray⟩) (z := .int .i64 (portN u)) hk3 hb4 hb1.size
  exact ⟨rfl, _, key_results r1 rfl, rfl, r2⟩
end Go.Proofs.YtgihofogkoeimaaGreatDoor
