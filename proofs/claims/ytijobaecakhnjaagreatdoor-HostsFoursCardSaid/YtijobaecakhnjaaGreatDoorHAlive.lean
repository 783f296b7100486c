/- The walks of footmanlaw05.is and alive. -/
import Derived.Test.YtijobaecakhnjaaGreatDoorGStay
import Derived.Test.YtijobaecakhnjaaGreatDoorHParseB
import Derived.Test.YtijobaecakhnjaaGreatDoorGBel
set_option linter.unusedVariables false
set_option linter.unusedSimpArgs false
namespace Go.Proofs.YtijobaecakhnjaaGreatDoor
open Go.RowKit

theorem dot_behind (a : List UInt8) : (ByteArray.mk a.toArray) ++ (ByteArray.mk #[46]) = ByteArray.mk (a ++ [46]).toArray := ba_join a [46]
theorem ado_join (b : List UInt8) : (ByteArray.mk #[97, 46]) ++ (ByteArray.mk b.toArray) = ByteArray.mk (97 :: 46 :: b).toArray := ba_join [97, 46] b
theorem lift_h {f : FuncId} {args : Array Value} {v : Value} (w : World) (hE : EnvH w) (h : ∀ W, EnvH W → Calls Tryz.prog f args W fun e W' => e = .returned v ∧ Below W.heap.size W W') : ∀ W, Below w.heap.size w W → Calls Tryz.prog f args W fun e W' => e = .returned v ∧ Below w.heap.size w W' := fun W hW =>
  (h W (hE.below hW)).mono fun e W' ⟨he, hb⟩ => ⟨he, hW.trans (hb.mono hW.size)⟩

theorem his_yes {s x : List UInt8} (h : hostL s = some x) (hs : s.length ≤ 1000) (w : World) (hE : EnvH w) :
    ∀ W, Below w.heap.size w W → Calls Tryz.prog 21 #[.string ⟨s.toArray⟩, .string ⟨x.toArray⟩] W fun e W' => e = .returned (.bool true) ∧ Below w.heap.size w W' := by
  refine lift_h w hE fun W hEW => ?_
  have hbw := Below.refl W.heap.size W
  have c1 := lift_h W hEW (fun W hEW => hparse_any s W hEW hs)
  rw [h] at c1
  simp only [optV] at c1
  clear h
  go_enter Tryz.func21, Tryz.ntmps21
  go_wp2_with (go_at_call 18; refine (c1 _ (by assumption)).mono ?_; rintro e w1 ⟨rfl, hb1⟩)
  go_ret
  exact ⟨rfl, by assumption⟩

set_option maxRecDepth 100000 in
set_option maxHeartbeats 2000000 in
theorem halive_any (w : World) (hE : EnvH w) :
    Calls Tryz.prog 20 #[] w fun e w' => e = .returned (.bool true) ∧ Below w.heap.size w w' := by
  have hbw := Below.refl w.heap.size w
  have p0 := lift_h w hE (fun W hEW => hparse_any [97, 46, 46, 98] W hEW (by decide))
  have p1 := lift_h w hE (fun W hEW => hparse_any [49, 46, 50, 46, 51, 46, 52, 46, 53] W hEW (by decide))
  rw [hal0] at p0
  rw [hal1] at p1
  simp only [optV] at p0 p1
  have i2 := his_yes hal2 (by decide) w hE
  have i3 := his_yes hal3 (by decide) w hE
  have i4 := his_yes hal4 (by decide) w hE
  have i5 := his_yes hal5 (by decide) w hE
  have i6 := his_yes hal6 (by decide) w hE
  have m7 := lift_h w hE (fun W hEW => machine_any [49, 46, 50, 46, 51, 46, 52] W hEW.t.env (by decide))
  have m8 := lift_h w hE (fun W hEW => machine_any [97, 46, 49] W hEW.t.env (by decide))
  have b9 := lift_h w hE (fun W hEW => below_any [97, 46, 98, 46, 99] [98, 46, 99] W hEW.t.env (by decide) (by decide))
  have b10 := lift_h w hE (fun W hEW => below_any [97, 98, 46, 99] [98, 46, 99] W hEW.t.env (by decide) (by decide))
  rw [hal7] at m7
  rw [hal8] at m8
  rw [hal9] at b9
  rw [hal10] at b10
  have l11 := fun W (hEW : EnvH W) => labels_any [97, 46, 98, 46, 99] W hEW.t.env (by decide)
  rw [hal11] at l11
  go_enter Tryz.func20, Tryz.ntmps20
  go_wp2_with fail
  go_at_call 18
  refine (p0 _ (by assumption)).mono ?_
  rintro e w1 ⟨rfl, hb1⟩
  go_wp2_with fail
  go_at_call 18
  refine (p1 _ (by assumption)).mono ?_
  rintro e w2 ⟨rfl, hb2⟩
  go_wp2_with fail
  go_at_call 21
  refine (i2 _ (by assumption)).mono ?_
  rintro e w3 ⟨rfl, hb3⟩
  go_wp2_with fail
  go_at_call 21
  refine (i3 _ (by assumption)).mono ?_
  rintro e w4 ⟨rfl, hb4⟩
  go_wp2_with fail
  go_at_call 21
  refine (i4 _ (by assumption)).mono ?_
  rintro e w5 ⟨rfl, hb5⟩
  go_wp2_with fail
  go_at_call 21
  refine (i5 _ (by assumption)).mono ?_
  rintro e w6 ⟨rfl, hb6⟩
  go_wp2_with fail
  go_at_call 21
  refine (i6 _ (by assumption)).mono ?_
  rintro e w7 ⟨rfl, hb7⟩
  go_wp2_with fail
  go_at_call 14
  refine (m7 _ (by assumption)).mono ?_
  rintro e w8 ⟨rfl, hb8⟩
  go_wp2_with fail
  go_at_call 14
  refine (m8 _ (by assumption)).mono ?_
  rintro e w9 ⟨rfl, hb9⟩
  go_wp2_with fail
  go_at_call 23
  refine (b9 _ (by assumption)).mono ?_
  rintro e w10 ⟨rfl, hb10⟩
  go_wp2_with fail
  go_at_call 23
  refine (b10 _ (by assumption)).mono ?_
  rintro e w11 ⟨rfl, hb11⟩
  go_wp2_with fail
  go_at_call 11
  refine (l11 _ (hE.below hb11)).mono ?_
  rintro e w12 ⟨ad, rfl, _, hb12⟩
  go_wp2_with fail
  go_ret
  exact ⟨rfl, hb11.trans (hb12.mono hb11.size)⟩
end Go.Proofs.YtijobaecakhnjaaGreatDoor
