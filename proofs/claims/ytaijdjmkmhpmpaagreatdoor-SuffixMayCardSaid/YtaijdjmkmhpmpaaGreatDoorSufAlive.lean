/- The walks of footmanlaw08.some, is and alive. -/
import Derived.Test.YtaijdjmkmhpmpaaGreatDoorSufAlMath
import Derived.Test.YtaijdjmkmhpmpaaGreatDoorGSu4
import Derived.Test.YtaijdjmkmhpmpaaGreatDoorGBel
set_option linter.unusedVariables false
set_option linter.unusedSimpArgs false
namespace Go.Proofs.YtaijdjmkmhpmpaaGreatDoor
open Go.RowKit

theorem lift_hS {f : FuncId} {args : Array Value} {v : Value} (w : World) (hE : EnvH w) (h : ∀ W, EnvH W → Calls Tryz.prog f args W fun e W' => e = .returned v ∧ Below W.heap.size W W') : ∀ W, Below w.heap.size w W → Calls Tryz.prog f args W fun e W' => e = .returned v ∧ Below w.heap.size w W' := fun W hW =>
  (h W (hE.below hW)).mono fun e W' ⟨he, hb⟩ => ⟨he, hW.trans (hb.mono hW.size)⟩
/-- A literal of texts, as a new block. -/
theorem lit_txt (w : World) (L : List (List UInt8)) (cs : Array Value) (hc : cs = (strs L).toArray) : Txt (w.alloc (.cells cs 9)) (.slice (some ⟨w.heap.size, 0, none⟩) L.length L.length) L := by
  subst hc
  refine .inr ⟨⟨w.heap.size, 0, none⟩, L.length, rfl, Nat.le_refl _, fun _ => by rw [World.size_alloc]; exact Nat.lt_succ_self _, fun k hk => ?_⟩
  rw [Addr.add_lit, Nat.zero_add, World.cell?_alloc_at _ _ _ _ rfl, List.getElem?_toArray, strs_get hk]
set_option maxRecDepth 100000 in
theorem some_any (w : World) :
    Calls Tryz.prog 31 #[] w fun e w' => e = .returned (.slice (some ⟨w.heap.size, 0, none⟩) 9 9) ∧ Txt w' (.slice (some ⟨w.heap.size, 0, none⟩) 9 9) someL ∧ Below w.heap.size w w' := by
  have hbw := Below.refl w.heap.size w
  have hT := lit_txt w someL _ rfl
  go_enter Tryz.func31, Tryz.ntmps31
  go_wp2_with fail
  go_ret
  exact ⟨rfl, hT, hbw.alloc (Nat.le_refl _) _⟩
set_option maxRecDepth 100000 in
set_option maxHeartbeats 2000000 in
theorem sis_yes {s x y : List UInt8} (h1 : suffixL someL s = (x, 0)) (h2 : ownL someL s = (y, 0)) (hs : s.length ≤ 1000) (w : World) (hE : EnvH w) :
    ∀ W, Below w.heap.size w W → Calls Tryz.prog 32 #[.string ⟨s.toArray⟩, .string ⟨x.toArray⟩, .string ⟨y.toArray⟩] W fun e W' => e = .returned (.bool true) ∧ Below w.heap.size w W' := by
  refine lift_hS w hE fun W hEW => ?_
  have c1 := fun (v : Value) W (hE : EnvH W) ht => suffix_any someL s v W hE ht (by decide) (by decide) hs
  have c2 := fun (v : Value) W (hE : EnvH W) ht => own_any someL s v W hE ht (by decide) (by decide) hs
  rw [h1] at c1
  rw [h2] at c2
  simp only [sufV] at c1 c2
  clear h1 h2
  go_enter Tryz.func32, Tryz.ntmps32
  go_wp2_with fail
  go_at_call 31
  refine (some_any _).mono ?_
  rintro e w1 ⟨rfl, ht1, hb1⟩
  have c1' := c1 _ w1 (hEW.below hb1) ht1
  clear c1
  go_wp2_with fail
  go_at_call 12
  refine c1'.mono ?_
  rintro e w2 ⟨rfl, hb2⟩
  replace hb2 := hb1.trans (hb2.mono hb1.size)
  go_wp2_with fail
  go_at_call 31
  refine (some_any _).mono ?_
  rintro e w3 ⟨rfl, ht3, hb3⟩
  replace hb3 := hb2.trans (hb3.mono hb2.size)
  have c2' := c2 _ w3 (hEW.below hb3) ht3
  clear c2
  go_wp2_with fail
  go_at_call 15
  refine c2'.mono ?_
  rintro e w4 ⟨rfl, hb4⟩
  replace hb4 := hb3.trans (hb4.mono hb3.size)
  go_wp2_with fail
  go_ret
  exact ⟨rfl, hb4⟩
set_option maxRecDepth 100000 in
set_option maxHeartbeats 4000000 in
theorem salive_any (w : World) (hE : EnvH w) :
    Calls Tryz.prog 17 #[] w fun e w' => e = .returned (.bool true) ∧ Below w.heap.size w w' := by
  have hbw := Below.refl w.heap.size w
  have c9 := fun (v : Value) W (hE : EnvH W) ht => suffix_any someL [49, 46, 50, 46, 51, 46, 52] v W hE ht (by decide) (by decide) (by decide)
  have o9 := fun (v : Value) W (hE : EnvH W) ht => own_any [[33, 99, 111, 109]] [97, 46, 99, 111, 109] v W hE ht (by decide) (by decide) (by decide)
  have ck := fun (v : Value) W (hE : EnvH W) ht => check_any someL v W hE.t.env.shaped ht (by decide) (by decide)
  rw [sal9] at c9
  rw [oal9] at o9
  rw [some_check] at ck
  simp only [sufV] at c9 o9
  have i0 := sis_yes sal0 oal0 (by decide) w hE
  have i1 := sis_yes sal1 oal1 (by decide) w hE
  have i2 := sis_yes sal2 oal2 (by decide) w hE
  have i3 := sis_yes sal3 oal3 (by decide) w hE
  have i4 := sis_yes sal4 oal4 (by decide) w hE
  have i5 := sis_yes sal5 oal5 (by decide) w hE
  have i6 := sis_yes sal6 oal6 (by decide) w hE
  go_enter Tryz.func17, Tryz.ntmps17
  go_wp2_with fail
  go_at_call 31
  refine (some_any _).mono ?_
  rintro e w1 ⟨rfl, ht1, hb1⟩
  have c9' := c9 _ w1 (hE.below hb1) ht1
  clear c9 ht1
  go_wp2_with fail
  go_at_call 12
  refine c9'.mono ?_
  rintro e w2 ⟨rfl, hb2⟩
  replace hb2 := hb1.trans (hb2.mono hb1.size)
  have hT := lit_txt w2 [[33, 99, 111, 109]] #[.string ⟨#[33, 99, 111, 109]⟩] rfl
  have hb3 := hb2.alloc hb2.size (.cells #[.string ⟨#[33, 99, 111, 109]⟩] 9)
  have o9' := o9 _ _ (hE.below hb3) hT
  clear o9 c9' hT
  go_wp2_with fail
  go_at_call 15
  refine o9'.mono ?_
  rintro e w4 ⟨rfl, hb4⟩
  replace hb4 := hb3.trans (hb4.mono hb3.size)
  clear o9'
  go_wp2_with fail
  go_at_call 31
  refine (some_any _).mono ?_
  rintro e w5 ⟨rfl, ht5, hb5⟩
  replace hb5 := hb4.trans (hb5.mono hb4.size)
  have ck' := ck _ w5 (hE.below hb5) ht5
  clear ck ht5
  go_wp2_with fail
  go_at_call 23
  refine ck'.mono ?_
  rintro e w6 ⟨rfl, hb6⟩
  replace hb6 := hb5.trans (hb6.mono hb5.size)
  clear ck'
  go_wp2_with fail
  go_at_call 32
  refine (i0 _ hb6).mono ?_
  rintro e w7 ⟨rfl, hb7⟩
  clear i0
  go_wp2_with fail
  go_at_call 32
  refine (i1 _ hb7).mono ?_
  rintro e w8 ⟨rfl, hb8⟩
  clear i1
  go_wp2_with fail
  go_at_call 32
  refine (i2 _ hb8).mono ?_
  rintro e w9 ⟨rfl, hb9⟩
  clear i2
  go_wp2_with fail
  go_at_call 32
  refine (i3 _ hb9).mono ?_
  rintro e w10 ⟨rfl, hb10⟩
  clear i3
  go_wp2_with fail
  go_at_call 32
  refine (i4 _ hb10).mono ?_
  rintro e w11 ⟨rfl, hb11⟩
  clear i4
  go_wp2_with fail
  go_at_call 32
  refine (i5 _ hb11).mono ?_
  rintro e w12 ⟨rfl, hb12⟩
  clear i5
  go_wp2_with fail
  go_at_call 32
  refine (i6 _ hb12).mono ?_
  rintro e w13 ⟨rfl, hb13⟩
  clear i6
  go_wp2_with fail
  go_ret
  exact ⟨rfl, hb13⟩
end Go.Proofs.YtaijdjmkmhpmpaaGreatDoor
