/- The law UrlsHere walked. -/
import Derived.Test.YtgihofogkoeimaaGreatDoorGUrl4
import Derived.Test.YtgihofogkoeimaaGreatDoorPost
set_option linter.unusedVariables false
set_option linter.unusedSimpArgs false
namespace Go.Proofs.YtgihofogkoeimaaGreatDoor
open Go.RowKit
theorem lift_k {f : FuncId} {args : Array Value} {v : Value} (w : World) (hE : EnvH w) (h : ∀ W, EnvH W → Calls Tryz.prog f args W fun e W' => e = .returned v ∧ Below W.heap.size W W') : ∀ W, Below w.heap.size w W → Calls Tryz.prog f args W fun e W' => e = .returned v ∧ Below W.heap.size W W' := fun W hW => h W (hE.below hW)
theorem below_next {w W W' : World} (h : Below w.heap.size w W) (k : Below W.heap.size W W') : Below w.heap.size w W' := h.trans (k.mono h.size)
theorem below_news {w W : World} (h : Below w.heap.size w W) (u : UrlL) : Below w.heap.size w (W.alloc (.cells (cellsU u).toArray 23)) := h.alloc h.size _
theorem UrlAt.pass {B : Nat} {v u : UrlL} {w : World} (h : UrlAt B v w) : UrlAt B v (w.alloc (.cells (cellsU u).toArray 23)) := ((below_alloc w _).block _ h.lt).trans h
theorem UrlAt.news (w : World) (u : UrlL) : UrlAt w.heap.size u (w.alloc (.cells (cellsU u).toArray 23)) := heap_alloc_new w _
theorem UrlAt.on {B : Nat} {u : UrlL} {w w' : World} (h : UrlAt B u w) (hb : Below w.heap.size w w') : UrlAt B u w' := (hb.block _ h.lt).trans h
theorem good_ok {u : UrlL} (hg : GoodU u) : sizeU u ≤ 1000000000 ∧ u.port ≤ 9223372036854775807 := by
 have h1 := hg.sizes
 have h2 := (portU_le hg.port (s := [])).2
 unfold sizeU
 exact ⟨by omega, by omega⟩
set_option maxRecDepth 100000 in
set_option maxHeartbeats 8000000 in
theorem here_w (s : List UInt8) (w : World) (hm : s.length ≤ 140737488351232) (hE : EnvH w) :
  Calls Tryz.prog 6 #[.string ⟨s.toArray⟩] w fun e w' => e = .returned (.bool true) ∧ Below w.heap.size w w' := by
 have hb0 := Below.refl w.heap.size w
 have cv := lift_e w hE (fun W hW => alive_u W hW)
 by_cases h0 : 1000 < s.length
 ·have hi : (1000 : Int) < (s.length : Int) := by omega
  go_enter Tryz.func6, Tryz.ntmps6
  go_wp2_with (go_at_call 27; refine (cv _ (by assumption)).mono ?_; rintro e w1 ⟨rfl, hb1⟩)
  go_ret
  exact ⟨rfl, by assumption⟩
 ·have hi : ¬ (1000 : Int) < (s.length : Int) := by omega
  have ca := lift_e w hE (fun W hW => alone_u s W hW hm)
  cases hp : parseU s zeroU false with
  | error n =>
   rw [hp] at ca
   simp only [aloneP, urlV] at ca
   clear hE h0
   go_enter Tryz.func6, Tryz.ntmps6
   go_wp2_with fail
   go_at_call 27
   refine (cv _ hb0).mono ?_
   rintro e w1 ⟨rfl, hb1⟩
   go_wp2_with fail
   go_at_call 28
   refine (ca _ hb1).mono ?_
   rintro e w2 ⟨rfl, hb2⟩
   clear ca cv
   go_wp2_with fail
   go_ret
   exact ⟨rfl, hb2.alloc hb2.size _⟩
  | ok u =>
   rw [hp] at ca
   obtain ⟨l1, l2, l3⟩ := here_law (by omega) hp
   obtain ⟨z1, z2⟩ := good_ok (good_parse hp)
   have c1 := lift_k w hE (fun W hW => parse_u [] u true W hW (by decide) z1 z2)
   have c2 := lift_k w hE (fun W hW => parse_u [35, 109] u true W hW (by decide) z1 z2)
   have c3 := lift_k w hE (fun W hW => parse_u [63, 113] u true W hW (by decide) z1 z2)
   rw [l1] at c1
   rw [l2] at c2
   rw [l3] at c3
   simp only [aloneP, urlV] at ca
   simp only [pairU, urlV] at c1 c2 c3
   clear hE h0 hp l1 l2 l3 z1 z2
   go_enter Tryz.func6, Tryz.ntmps6
   go_wp2_with fail
   go_at_call 27
   refine (cv _ hb0).mono ?_
   rintro e w1 ⟨rfl, hb1⟩
   go_wp2_with fail
   go_at_call 28
   refine (ca _ hb1).mono ?_
   rintro e w2 ⟨rfl, hb2⟩
   clear ca cv hb1
   have U2 := UrlAt.news w2 u
   have HB := Lib.hid (below_news hb2 u)
   clear hb2
   go_wp2_with fail
   go_at_call 25
   refine (c1 _ HB.out).mono ?_
   rintro e w3 ⟨rfl, hb3⟩
   have V2 := U2.on hb3
   have hl2 : w2.heap.size < w3.heap.size := V2.lt
   have p0 : w3.cell? ⟨w2.heap.size, 0, none⟩ = some _ := V2.cell 0
   have p1 : w3.cell? ⟨w2.heap.size, 1, none⟩ = some _ := V2.cell 1
   have p2 : w3.cell? ⟨w2.heap.size, 2, none⟩ = some _ := V2.cell 2
   have p3 : w3.cell? ⟨w2.heap.size, 3, none⟩ = some _ := V2.cell 3
   have p4 : w3.cell? ⟨w2.heap.size, 4, none⟩ = some _ := V2.cell 4
   have p5 : w3.cell? ⟨w2.heap.size, 5, none⟩ = some _ := V2.cell 5
   have p6 : w3.cell? ⟨w2.heap.size, 6, none⟩ = some _ := V2.cell 6
   have p7 : w3.cell? ⟨w2.heap.size, 7, none⟩ = some _ := V2.cell 7
   have p8 : w3.cell? ⟨w2.heap.size, 8, none⟩ = some _ := V2.cell 8
   have p9 : w3.cell? ⟨w2.heap.size, 9, none⟩ = some _ := V2.cell 9
   have V3 : UrlAt w3.heap.size { u with mark := [], hasM := false } _ := UrlAt.news w3 _
   have W2 := V2.pass (u := { u with mark := [], hasM := false })
   have HB3 := Lib.hid (below_news (below_next HB.out hb3) { u with mark := [], hasM := false })
   clear c1 hb3 HB U2
   go_wp2_with fail
   go_at_call 25
   refine (c2 _ HB3.out).mono ?_
   rintro e w4 ⟨rfl, hb4⟩
   have X2 := W2.on hb4
   have X3 := V3.on hb4
   have hl24 : w2.heap.size < w4.heap.size := X2.lt
   have hl34 : w3.heap.size < w4.heap.size := X3.lt
   have Y2 := X2.pass (u := { u with mark := [109], hasM := true })
   have Y3 := X3.pass (u := { u with mark := [109], hasM := true })
   have Y4 : UrlAt w4.heap.size { u with mark := [109], hasM := true } _ := UrlAt.news w4 _
   have HB4 := Lib.hid (below_news (below_next HB3.out hb4) { u with mark := [109], hasM := true })
   clear c2 hb4 HB3 p0 p1 p2 p3 p4 p5 p6 p7 p8 p9 V2 V3 W2
   have p0 : w4.cell? ⟨w2.heap.size, 0, none⟩ = some _ := X2.cell 0
   have p1 : w4.cell? ⟨w2.heap.size, 1, none⟩ = some _ := X2.cell 1
   have p2 : w4.cell? ⟨w2.heap.size, 2, none⟩ = some _ := X2.cell 2
   have p3 : w4.cell? ⟨w2.heap.size, 3, none⟩ = some _ := X2.cell 3
   have p4 : w4.cell? ⟨w2.heap.size, 4, none⟩ = some _ := X2.cell 4
   have p5 : w4.cell? ⟨w2.heap.size, 5, none⟩ = some _ := X2.cell 5
   have p6 : w4.cell? ⟨w2.heap.size, 6, none⟩ = some _ := X2.cell 6
   have p7 : w4.cell? ⟨w2.heap.size, 7, none⟩ = some _ := X2.cell 7
   have p8 : w4.cell? ⟨w2.heap.size, 8, none⟩ = some _ := X2.cell 8
   have p9 : w4.cell? ⟨w2.heap.size, 9, none⟩ = some _ := X2.cell 9
   go_wp2_with fail
   go_at_call 25
   refine (c3 _ HB4.out).mono ?_
   rintro e w5 ⟨rfl, hb5⟩
   have Z2 := Y2.on hb5
   have Z3 := Y3.on hb5
   have Z4 := Y4.on hb5
   have hl25 : w2.heap.size < w5.heap.size := Z2.lt
   have hl35 : w3.heap.size < w5.heap.size := Z3.lt
   have hl45 : w4.heap.size < w5.heap.size := Z4.lt
   have HB5 := Lib.hid (below_next HB4.out hb5)
   clear c3 hb5 HB4 p0 p1 p2 p3 p4 p5 p6 p7 p8 p9 X2 X3 Y2 Y3 Y4
   have p0 : w5.cell? ⟨w2.heap.size, 0, none⟩ = some _ := Z2.cell 0
   have p1 : w5.cell? ⟨w2.heap.size, 1, none⟩ = some _ := Z2.cell 1
   have p2 : w5.cell? ⟨w2.heap.size, 2, none⟩ = some _ := Z2.cell 2
   have p3 : w5.cell? ⟨w2.heap.size, 3, none⟩ = some _ := Z2.cell 3
   have p4 : w5.cell? ⟨w2.heap.size, 4, none⟩ = some _ := Z2.cell 4
   have p5 : w5.cell? ⟨w2.heap.size, 5, none⟩ = some _ := Z2.cell 5
   have p6 : w5.cell? ⟨w2.heap.size, 6, none⟩ = some _ := Z2.cell 6
   have p7 : w5.cell? ⟨w2.heap.size, 7, none⟩ = some _ := Z2.cell 7
   have p8 : w5.cell? ⟨w2.heap.size, 8, none⟩ = some _ := Z2.cell 8
   have p9 : w5.cell? ⟨w2.heap.size, 9, none⟩ = some _ := Z2.cell 9
   have q0 : w5.cell? ⟨w3.heap.size, 0, none⟩ = some _ := Z3.cell 0
   have q1 : w5.cell? ⟨w3.heap.size, 1, none⟩ = some _ := Z3.cell 1
   have q2 : w5.cell? ⟨w3.heap.size, 2, none⟩ = some _ := Z3.cell 2
   have q3 : w5.cell? ⟨w3.heap.size, 3, none⟩ = some _ := Z3.cell 3
   have q4 : w5.cell? ⟨w3.heap.size, 4, none⟩ = some _ := Z3.cell 4
   have q5 : w5.cell? ⟨w3.heap.size, 5, none⟩ = some _ := Z3.cell 5
   have q6 : w5.cell? ⟨w3.heap.size, 6, none⟩ = some _ := Z3.cell 6
   have q7 : w5.cell? ⟨w3.heap.size, 7, none⟩ = some _ := Z3.cell 7
   have q8 : w5.cell? ⟨w3.heap.size, 8, none⟩ = some _ := Z3.cell 8
   have q9 : w5.cell? ⟨w3.heap.size, 9, none⟩ = some _ := Z3.cell 9
   have r0 : w5.cell? ⟨w4.heap.size, 0, none⟩ = some _ := Z4.cell 0
   have r1 : w5.cell? ⟨w4.heap.size, 1, none⟩ = some _ := Z4.cell 1
   have r2 : w5.cell? ⟨w4.heap.size, 2, none⟩ = some _ := Z4.cell 2
   have r3 : w5.cell? ⟨w4.heap.size, 3, none⟩ = some _ := Z4.cell 3
   have r4 : w5.cell? ⟨w4.heap.size, 4, none⟩ = some _ := Z4.cell 4
   have r5 : w5.cell? ⟨w4.heap.size, 5, none⟩ = some _ := Z4.cell 5
   have r6 : w5.cell? ⟨w4.heap.size, 6, none⟩ = some _ := Z4.cell 6
   have r7 : w5.cell? ⟨w4.heap.size, 7, none⟩ = some _ := Z4.cell 7
   have r8 : w5.cell? ⟨w4.heap.size, 8, none⟩ = some _ := Z4.cell 8
   have r9 : w5.cell? ⟨w4.heap.size, 9, none⟩ = some _ := Z4.cell 9
   clear Z2 Z3 Z4
   go_wp2_with fail
   go_ret
   exact ⟨rfl, (HB5.out.alloc HB5.out.size _).alloc (HB5.out.alloc HB5.out.size _).size _⟩
end Go.Proofs.YtgihofogkoeimaaGreatDoor
