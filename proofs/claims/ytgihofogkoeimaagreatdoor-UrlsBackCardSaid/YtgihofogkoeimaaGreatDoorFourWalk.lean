/- The walk of addrs.Four (written by mkfour.py). -/
import Derived.Test.YtgihofogkoeimaaGreatDoorGCnt
import Derived.Deep.DeepCutAuto
set_option linter.unusedVariables false
set_option linter.unusedSimpArgs false
namespace Go.Proofs.YtgihofogkoeimaaGreatDoor
open Go.RowKit
def addrV (n : Nat) : Value := .agg #[.bool false, .int .u8 ((n / 16777216 % 256 : Nat) : Int), .int .u8 ((n / 65536 % 256 : Nat) : Int), .int .u8 ((n / 256 % 256 : Nat) : Int), .int .u8 ((n % 256 : Nat) : Int),
 .int .u8 0, .int .u8 0, .int .u8 0, .int .u8 0, .int .u8 0, .int .u8 0, .int .u8 0, .int .u8 0, .int .u8 0, .int .u8 0, .int .u8 0, .int .u8 0]
def fourV (r : Bool × Nat × Nat) : Value := .tuple #[addrV r.2.2, .bool r.1, .int .i64 (r.2.1 : Int)]
theorem bcell {W w1 : World} {B : Nat} (hb : Below B W w1) : (∀ b o, b < B → w1.cell? ⟨b, o, none⟩ = W.cell? ⟨b, o, none⟩) ∧ (∀ b o, b < B → w1.frozen? ⟨b, o, none⟩ = W.frozen? ⟨b, o, none⟩) :=
 ⟨fun b o h => hb.cell (p := ⟨b, o, none⟩) h, fun b o h => hb.frozen (p := ⟨b, o, none⟩) h⟩
abbrev zeroA : Array Value := #[.bool false, .int .u8 0, .int .u8 0, .int .u8 0, .int .u8 0, .int .u8 0, .int .u8 0, .int .u8 0, .int .u8 0, .int .u8 0, .int .u8 0, .int .u8 0, .int .u8 0, .int .u8 0, .int .u8 0, .int .u8 0, .int .u8 0]
structure FourW (w W2 : World) (P : List (List UInt8)) : Prop where
 env : Env W2
 below : Below w.heap.size w W2
 row : W2.heap[w.heap.size]? = some (.cells zeroA 67 (0, 0))
 size : W2.heap.size = w.heap.size + 2
 cell : ∀ j (h : j < P.length), W2.cell? ⟨w.heap.size + 1, j, none⟩ = some (.string ⟨(P[j]).toArray⟩)
theorem fourW (s : List UInt8) (w : World) (hE : Env w) (hs : s.length ≤ 4000000000) : ∃ W2, FourW w W2 (partsL 46 s) ∧
  Calls Tryz.prog 72 #[.string ⟨s.toArray⟩, .string ⟨#[46]⟩] (w.alloc (.cells zeroA 67)) fun e w' => e = .returned (.slice (some ⟨w.heap.size + 1, 0, none⟩) (partsL 46 s).length (partsL 46 s).length) ∧ w' = W2 := by
 have hE1 : Env (w.alloc (.cells zeroA 67)) := hE.below ((Below.refl _ _).alloc (Nat.le_refl _) _)
 have cs := split_any s 46 _ hE1.shaped (by omega)
 rw [World.size_alloc] at cs
 refine ⟨_, ⟨hE1.below ((Below.refl _ _).alloc (Nat.le_refl _) _), ((Below.refl _ _).alloc (Nat.le_refl _) _).alloc (by rw [World.size_alloc]; omega) _, heap_alloc2_old w _ _, by rw [World.size_alloc, World.size_alloc], fun j h => ?_⟩, cs⟩
 rw [World.cell?_alloc_at _ _ _ _ (by rw [World.size_alloc]), List.getElem?_toArray, strs_get h]
theorem getLast_is {P : List (List UInt8)} {l : Nat} (h : P.length = l + 1) : P.getLastD [] = P[l]'(by omega) := by
 rw [List.getLastD_eq_getLast?, List.getLast?_eq_getElem?, List.getElem?_eq_getElem (by omega)]
 simp [h]
theorem or_add {a n m : Nat} (hn : n < 2 ^ m) (h : 2 ^ m * a + n < 9223372036854775808) : bits BinOp.or IntKind.i64 ((2 ^ m * a : Nat) : Int) (n : Int) = ((2 ^ m * a + n : Nat) : Int) := by
 unfold bits
 have h1 : (BitVec.ofInt 64 ((2 ^ m * a : Nat) : Int)) = BitVec.ofNat 64 (2 ^ m * a) := BitVec.ofInt_natCast _ _
 have h2 : (BitVec.ofInt 64 (n : Int)) = BitVec.ofNat 64 n := BitVec.ofInt_natCast _ _
 show IntKind.i64.wrap (((BitVec.ofInt 64 ((2 ^ m * a : Nat) : Int)) ||| (BitVec.ofInt 64 (n : Int))).toNat : Int) = _
 rw [h1, h2, BitVec.toNat_or, BitVec.toNat_ofNat, BitVec.toNat_ofNat, Nat.mod_eq_of_lt (by omega), Nat.mod_eq_of_lt (by omega), ← Nat.two_pow_add_eq_or_of_lt hn, IntKind.wrap_i64]
 omega
theorem or_zero {n : Nat} (h : n < 9223372036854775808) : bits BinOp.or IntKind.i64 0 (n : Int) = (n : Int) := by
 have := @or_add 0 n 63 h (by omega)
 simpa using this
set_option maxRecDepth 100000 in
set_option maxHeartbeats 4000000 in
theorem four_A0 (s : List UInt8) (w W2 : World) (x0 : List UInt8) (hW : FourW w W2 [x0]) (hx : ∀ p ∈ [x0], p.length ≤ 4000000000)
  (cs : Calls Tryz.prog 72 #[.string ⟨s.toArray⟩, .string ⟨#[46]⟩] (w.alloc (.cells zeroA 67)) fun e w' => e = .returned (.slice (some ⟨w.heap.size + 1, 0, none⟩) 1 1) ∧ w' = W2) (r : Bool × Nat × Nat)
  (hr : r = if likeL x0 = false then (false, 0, 0) else match evalF [x0] 4294967296 0 with | none => (true, 5, 0) | some n => (true, 0, n)) :
  Calls Tryz.prog 76 #[.string ⟨s.toArray⟩] w fun e w' => e = .returned (fourV r) ∧ Below w.heap.size w w' := by
 obtain ⟨hE2, hb2, hrow, hsz, hcell⟩ := hW
 have cl := like_any x0 W2 hE2 (by have := hx x0 (by simp); omega)
 have c0 := hcell 0 (by simp)
 simp only [List.getElem_cons_zero, List.getElem_cons_succ] at c0
 have Hx := Lib.hid hx
 clear hx hcell
 cases hk : likeL x0 with
 | false =>
  rw [hk] at hr cl
  rw [if_pos rfl] at hr
  subst hr
  clear hk
  go_enter Tryz.func76, Tryz.ntmps76
  go_wp2_with (go_at_call 72; refine cs.mono ?_; rintro e w1 ⟨rfl, rfl⟩)
  go_at_call 110
  refine cl.mono ?_
  rintro e w3 ⟨rfl, hb3⟩
  have hz3 : w3.heap[w.heap.size]? = some (.cells zeroA 67 (0, 0)) := (hb3.block _ (by omega)).trans hrow
  go_upto_region 7 with fail
  go_step
  refine wpList_load_row (o := ⟨some _, .load 67 (.tmp 2), _, _, _, _⟩) rfl 67 (.tmp 2) rfl w.heap.size rfl 67 zeroA (0, 0) _ hz3 Tryz.underlying67 rfl (by kernel_rfl) ?_
  refine wpList_store_same (o := ⟨none, .store 67 (.tmp 2) (.tmp _), _, _, _, _⟩) rfl 67 (.tmp 2) _ rfl w.heap.size zeroA rfl rfl 67 hz3 (by kernel_rfl) (by decide +kernel) ?_
  go_wp2_with fail
  exact bodyPost_ret (results_row3 (fn := Tryz.f76) (p := 2) (q := 3) (r := 4) (ty := 67) rfl _ _ w.heap.size 67 zeroA (0, 0) _ rfl hz3 Tryz.underlying67 rfl (by kernel_rfl)) rfl ⟨rfl, hb2.trans (hb3.mono (by omega))⟩
 | true =>
  rw [hk] at hr cl
  rw [if_neg (by simp)] at hr
  clear hk
  go_enter Tryz.func76, Tryz.ntmps76
  go_wp2_with (go_at_call 72; refine cs.mono ?_; rintro e w1 ⟨rfl, rfl⟩)
  go_at_call 110
  refine cl.mono ?_
  rintro e w3 ⟨rfl, hb3⟩
  have hz3 : w3.heap[w.heap.size]? = some (.cells zeroA 67 (0, 0)) := (hb3.block _ (by omega)).trans hrow
  have hE3 := hE2.below hb3
  have hs3 := hb3.size
  have hbb := hb2.trans (hb3.mono (by omega))
  have d0 := ((bcell hb3).1 _ 0 (by omega)).trans c0
  clear c0 cl cs hrow hb2 hE2
  go_wp2_with fail
  refine wp_loop_rounds 2 ?_
  rw [rounds_succ]
  cases hn0 : numL x0 with
  | none =>
   have hr2 : r = (true, 5, 0) := by rw [hr]; simp [evalF, hn0]
   subst hr2
   have cn := anum_any x0 w3 hE3 (by have := Hx.out x0 (by simp); omega)
   rw [hn0] at cn
   simp only [cntV] at cn
   clear hr hn0
   go_wp2_with fail
   go_at_call 111
   refine cn.mono ?_
   rintro e w4 ⟨rfl, hb4⟩
   have hz4 : w4.heap[w.heap.size]? = some (.cells zeroA 67 (0, 0)) := (hb4.block _ (by omega)).trans hz3
   go_upto_region 19 with fail
   go_step
   refine wpList_load_row (o := ⟨some _, .load 67 (.tmp 2), _, _, _, _⟩) rfl 67 (.tmp 2) rfl w.heap.size rfl 67 zeroA (0, 0) _ hz4 Tryz.underlying67 rfl (by kernel_rfl) ?_
   refine wpList_store_same (o := ⟨none, .store 67 (.tmp 2) (.tmp _), _, _, _, _⟩) rfl 67 (.tmp 2) _ rfl w.heap.size zeroA rfl rfl 67 hz4 (by kernel_rfl) (by decide +kernel) ?_
   go_wp2_with fail
   exact bodyPost_ret (results_row3 (fn := Tryz.f76) (p := 2) (q := 3) (r := 4) (ty := 67) rfl _ _ w.heap.size 67 zeroA (0, 0) _ rfl hz4 Tryz.underlying67 rfl (by kernel_rfl)) rfl ⟨rfl, hbb.trans (hb4.mono (by omega))⟩
  | some n0 =>
   have cn := anum_any x0 w3 hE3 (by have := Hx.out x0 (by simp); omega)
   rw [hn0] at cn
   simp only [cntV] at cn
   by_cases q0 : n0 < 4294967296
   ·have ho0 : bits BinOp.or IntKind.i64 0 (n0 : Int) = (n0 : Int) := or_zero (by omega)
    go_wp2_with fail
    go_at_call 111
    refine cn.mono ?_
    rintro e w4 ⟨rfl, hb4⟩
    have hz4 : w4.heap[w.heap.size]? = some (.cells zeroA 67 (0, 0)) := (hb4.block _ (by omega)).trans hz3
    have hE4 := hE3.below hb4
    have hs4 := hb4.size
    have hbb1 := hbb.trans (hb4.mono (by omega))
    have d1_0 := ((bcell hb4).1 _ 0 (by omega)).trans d0
    clear d0
    go_wp2_with fail
    rw [rounds_succ]
    go_wp2_with fail
    have e1 : w4.cell? ⟨w.heap.size, 1, none⟩ = some (.int .u8 0) := by rw [cell_of_row _ _ _ _ _ _ hz4]; rfl
    have e2 : w4.cell? ⟨w.heap.size, 2, none⟩ = some (.int .u8 0) := by rw [cell_of_row _ _ _ _ _ _ hz4]; rfl
    have e3 : w4.cell? ⟨w.heap.size, 3, none⟩ = some (.int .u8 0) := by rw [cell_of_row _ _ _ _ _ _ hz4]; rfl
    have e4 : w4.cell? ⟨w.heap.size, 4, none⟩ = some (.int .u8 0) := by rw [cell_of_row _ _ _ _ _ _ hz4]; rfl
    have f1 : w4.frozen? ⟨w.heap.size, 1, none⟩ = false := frozen_of_row _ _ _ _ _ hz4
    have f2 : w4.frozen? ⟨w.heap.size, 2, none⟩ = false := frozen_of_row _ _ _ _ _ hz4
    have f3 : w4.frozen? ⟨w.heap.size, 3, none⟩ = false := frozen_of_row _ _ _ _ _ hz4
    have f4 : w4.frozen? ⟨w.heap.size, 4, none⟩ = false := frozen_of_row _ _ _ _ _ hz4
    refine wp_loop_rounds 5 ?_
    rw [rounds_succ]
    go_wp2_with fail
    rw [rounds_succ]
    go_wp2_with fail
    rw [rounds_succ]
    go_wp2_with fail
    rw [rounds_succ]
    go_wp2_with fail
    rw [rounds_succ]
    go_upto_region 27 with fail
    have hzf := heap_setCell_same _ w.heap.size 4 _ _ (.int .u8 ((n0 : Int) % 256)) (heap_setCell_same _ w.heap.size 3 _ _ (.int .u8 ((n0 : Int) / 256 % 256)) (heap_setCell_same _ w.heap.size 2 _ _ (.int .u8 ((n0 : Int) / 65536 % 256)) (heap_setCell_same _ w.heap.size 1 _ _ (.int .u8 ((n0 : Int) / 16777216)) hz4)))
    have hbf := (((hbb1.setCell (p := ⟨w.heap.size, 1, none⟩) (Nat.le_refl _) (.int .u8 ((n0 : Int) / 16777216))).setCell (p := ⟨w.heap.size, 2, none⟩) (Nat.le_refl _) (.int .u8 ((n0 : Int) / 65536 % 256))).setCell (p := ⟨w.heap.size, 3, none⟩) (Nat.le_refl _) (.int .u8 ((n0 : Int) / 256 % 256))).setCell (p := ⟨w.heap.size, 4, none⟩) (Nat.le_refl _) (.int .u8 ((n0 : Int) % 256))
    have hzf : _ = some (Obj.cells #[.bool false, .int .u8 ((n0 : Int) / 16777216), .int .u8 ((n0 : Int) / 65536 % 256), .int .u8 ((n0 : Int) / 256 % 256), .int .u8 ((n0 : Int) % 256), .int .u8 0, .int .u8 0, .int .u8 0, .int .u8 0, .int .u8 0, .int .u8 0, .int .u8 0, .int .u8 0, .int .u8 0, .int .u8 0, .int .u8 0, .int .u8 0] 67 (0, 0)) := hzf
    go_step
    refine wpList_load_row (o := ⟨some _, .load 67 (.tmp 2), _, _, _, _⟩) rfl 67 (.tmp 2) rfl w.heap.size rfl 67 #[.bool false, .int .u8 ((n0 : Int) / 16777216), .int .u8 ((n0 : Int) / 65536 % 256), .int .u8 ((n0 : Int) / 256 % 256), .int .u8 ((n0 : Int) % 256), .int .u8 0, .int .u8 0, .int .u8 0, .int .u8 0, .int .u8 0, .int .u8 0, .int .u8 0, .int .u8 0, .int .u8 0, .int .u8 0, .int .u8 0, .int .u8 0] (0, 0) _ hzf Tryz.underlying67 rfl (by kernel_rfl) ?_
    refine wpList_store_same (o := ⟨none, .store 67 (.tmp 2) (.tmp _), _, _, _, _⟩) rfl 67 (.tmp 2) _ rfl w.heap.size #[.bool false, .int .u8 ((n0 : Int) / 16777216), .int .u8 ((n0 : Int) / 65536 % 256), .int .u8 ((n0 : Int) / 256 % 256), .int .u8 ((n0 : Int) % 256), .int .u8 0, .int .u8 0, .int .u8 0, .int .u8 0, .int .u8 0, .int .u8 0, .int .u8 0, .int .u8 0, .int .u8 0, .int .u8 0, .int .u8 0, .int .u8 0] rfl rfl 67 hzf (by kernel_rfl) (by simp [Value.oneCell']) ?_
    go_wp2_with fail
    refine bodyPost_ret (results_row3 (fn := Tryz.f76) (p := 2) (q := 3) (r := 4) (ty := 67) rfl _ _ w.heap.size 67 #[.bool false, .int .u8 ((n0 : Int) / 16777216), .int .u8 ((n0 : Int) / 65536 % 256), .int .u8 ((n0 : Int) / 256 % 256), .int .u8 ((n0 : Int) % 256), .int .u8 0, .int .u8 0, .int .u8 0, .int .u8 0, .int .u8 0, .int .u8 0, .int .u8 0, .int .u8 0, .int .u8 0, .int .u8 0, .int .u8 0, .int .u8 0] (0, 0) _ rfl hzf Tryz.underlying67 rfl (by kernel_rfl)) rfl ⟨?_, hbf⟩
    have hr2 : r = (true, 0, n0) := by
     rw [hr]
     simp [evalF, hn0, q0]
    rw [hr2]
    simp [fourV, addrV]
    omega
   ·have hr2 : r = (true, 5, 0) := by rw [hr]; simp [evalF, hn0, q0]
    subst hr2
    clear hr hn0
    go_wp2_with fail
    go_at_call 111
    refine cn.mono ?_
    rintro e w4 ⟨rfl, hb4⟩
    have hz4 : w4.heap[w.heap.size]? = some (.cells zeroA 67 (0, 0)) := (hb4.block _ (by omega)).trans hz3
    go_upto_region 19 with fail
    go_step
    refine wpList_load_row (o := ⟨some _, .load 67 (.tmp 2), _, _, _, _⟩) rfl 67 (.tmp 2) rfl w.heap.size rfl 67 zeroA (0, 0) _ hz4 Tryz.underlying67 rfl (by kernel_rfl) ?_
    refine wpList_store_same (o := ⟨none, .store 67 (.tmp 2) (.tmp _), _, _, _, _⟩) rfl 67 (.tmp 2) _ rfl w.heap.size zeroA rfl rfl 67 hz4 (by kernel_rfl) (by decide +kernel) ?_
    go_wp2_with fail
    exact bodyPost_ret (results_row3 (fn := Tryz.f76) (p := 2) (q := 3) (r := 4) (ty := 67) rfl _ _ w.heap.size 67 zeroA (0, 0) _ rfl hz4 Tryz.underlying67 rfl (by kernel_rfl)) rfl ⟨rfl, hbb.trans (hb4.mono (by omega))⟩
set_option maxRecDepth 100000 in
set_option maxHeartbeats 4000000 in
theorem four_B1 (s : List UInt8) (w W2 : World) (x0 x1 : List UInt8) (hW : FourW w W2 [x0, x1]) (hx : ∀ p ∈ [x0, x1], p.length ≤ 4000000000) (hne : x1 ≠ [])
  (cs : Calls Tryz.prog 72 #[.string ⟨s.toArray⟩, .string ⟨#[46]⟩] (w.alloc (.cells zeroA 67)) fun e w' => e = .returned (.slice (some ⟨w.heap.size + 1, 0, none⟩) 2 2) ∧ w' = W2) (r : Bool × Nat × Nat)
  (hr : r = if likeL x1 = false then (false, 0, 0) else match evalF [x0, x1] 4294967296 0 with | none => (true, 5, 0) | some n => (true, 0, n)) :
  Calls Tryz.prog 76 #[.string ⟨s.toArray⟩] w fun e w' => e = .returned (fourV r) ∧ Below w.heap.size w w' := by
 obtain ⟨hE2, hb2, hrow, hsz, hcell⟩ := hW
 have cl := like_any x1 W2 hE2 (by have := hx x1 (by simp); omega)
 have c0 := hcell 0 (by simp)
 have c1 := hcell 1 (by simp)
 simp only [List.getElem_cons_zero, List.getElem_cons_succ] at c0 c1
 have hne1 := isEmpty_ne hne
 have hne2 := beq_ne hne
 have Hx := Lib.hid hx
 clear hx hcell hne
 cases hk : likeL x1 with
 | false =>
  rw [hk] at hr cl
  rw [if_pos rfl] at hr
  subst hr
  clear hk
  go_enter Tryz.func76, Tryz.ntmps76
  go_wp2_with (go_at_call 72; refine cs.mono ?_; rintro e w1 ⟨rfl, rfl⟩)
  go_at_call 110
  refine cl.mono ?_
  rintro e w3 ⟨rfl, hb3⟩
  have hz3 : w3.heap[w.heap.size]? = some (.cells zeroA 67 (0, 0)) := (hb3.block _ (by omega)).trans hrow
  go_upto_region 7 with fail
  go_step
  refine wpList_load_row (o := ⟨some _, .load 67 (.tmp 2), _, _, _, _⟩) rfl 67 (.tmp 2) rfl w.heap.size rfl 67 zeroA (0, 0) _ hz3 Tryz.underlying67 rfl (by kernel_rfl) ?_
  refine wpList_store_same (o := ⟨none, .store 67 (.tmp 2) (.tmp _), _, _, _, _⟩) rfl 67 (.tmp 2) _ rfl w.heap.size zeroA rfl rfl 67 hz3 (by kernel_rfl) (by decide +kernel) ?_
  go_wp2_with fail
  exact bodyPost_ret (results_row3 (fn := Tryz.f76) (p := 2) (q := 3) (r := 4) (ty := 67) rfl _ _ w.heap.size 67 zeroA (0, 0) _ rfl hz3 Tryz.underlying67 rfl (by kernel_rfl)) rfl ⟨rfl, hb2.trans (hb3.mono (by omega))⟩
 | true =>
  rw [hk] at hr cl
  rw [if_neg (by simp)] at hr
  clear hk
  go_enter Tryz.func76, Tryz.ntmps76
  go_wp2_with (go_at_call 72; refine cs.mono ?_; rintro e w1 ⟨rfl, rfl⟩)
  go_at_call 110
  refine cl.mono ?_
  rintro e w3 ⟨rfl, hb3⟩
  have hz3 : w3.heap[w.heap.size]? = some (.cells zeroA 67 (0, 0)) := (hb3.block _ (by omega)).trans hrow
  have hE3 := hE2.below hb3
  have hs3 := hb3.size
  have hbb := hb2.trans (hb3.mono (by omega))
  have d0 := ((bcell hb3).1 _ 0 (by omega)).trans c0
  have d1 := ((bcell hb3).1 _ 1 (by omega)).trans c1
  clear c0 c1 cl cs hrow hb2 hE2
  go_wp2_with fail
  refine wp_loop_rounds 3 ?_
  rw [rounds_succ]
  cases hn0 : numL x0 with
  | none =>
   have hr2 : r = (true, 5, 0) := by rw [hr]; simp [evalF, hn0]
   subst hr2
   have cn := anum_any x0 w3 hE3 (by have := Hx.out x0 (by simp); omega)
   rw [hn0] at cn
   simp only [cntV] at cn
   clear hr hn0
   go_wp2_with fail
   go_at_call 111
   refine cn.mono ?_
   rintro e w4 ⟨rfl, hb4⟩
   have hz4 : w4.heap[w.heap.size]? = some (.cells zeroA 67 (0, 0)) := (hb4.block _ (by omega)).trans hz3
   go_upto_region 19 with fail
   go_step
   refine wpList_load_row (o := ⟨some _, .load 67 (.tmp 2), _, _, _, _⟩) rfl 67 (.tmp 2) rfl w.heap.size rfl 67 zeroA (0, 0) _ hz4 Tryz.underlying67 rfl (by kernel_rfl) ?_
   refine wpList_store_same (o := ⟨none, .store 67 (.tmp 2) (.tmp _), _, _, _, _⟩) rfl 67 (.tmp 2) _ rfl w.heap.size zeroA rfl rfl 67 hz4 (by kernel_rfl) (by decide +kernel) ?_
   go_wp2_with fail
   exact bodyPost_ret (results_row3 (fn := Tryz.f76) (p := 2) (q := 3) (r := 4) (ty := 67) rfl _ _ w.heap.size 67 zeroA (0, 0) _ rfl hz4 Tryz.underlying67 rfl (by kernel_rfl)) rfl ⟨rfl, hbb.trans (hb4.mono (by omega))⟩
  | some n0 =>
   have cn := anum_any x0 w3 hE3 (by have := Hx.out x0 (by simp); omega)
   rw [hn0] at cn
   simp only [cntV] at cn
   by_cases q0 : n0 < 256
   ·have ho0 : bits BinOp.or IntKind.i64 0 (n0 : Int) = (n0 : Int) := or_zero (by omega)
    go_wp2_with fail
    go_at_call 111
    refine cn.mono ?_
    rintro e w4 ⟨rfl, hb4⟩
    have hz4 : w4.heap[w.heap.size]? = some (.cells zeroA 67 (0, 0)) := (hb4.block _ (by omega)).trans hz3
    have hE4 := hE3.below hb4
    have hs4 := hb4.size
    have hbb1 := hbb.trans (hb4.mono (by omega))
    have d1_0 := ((bcell hb4).1 _ 0 (by omega)).trans d0
    have d1_1 := ((bcell hb4).1 _ 1 (by omega)).trans d1
    clear d0 d1
    go_wp2_with fail
    rw [rounds_succ]
    cases hn1 : numL x1 with
    | none =>
     have hr2 : r = (true, 5, 0) := by rw [hr]; simp [evalF, hn0, hn1, *]
     subst hr2
     have cn := anum_any x1 w4 hE4 (by have := Hx.out x1 (by simp); omega)
     rw [hn1] at cn
     simp only [cntV] at cn
     clear hr hn0 hn1
     go_wp2_with fail
     go_at_call 111
     refine cn.mono ?_
     rintro e w5 ⟨rfl, hb5⟩
     have hz5 : w5.heap[w.heap.size]? = some (.cells zeroA 67 (0, 0)) := (hb5.block _ (by omega)).trans hz4
     go_upto_region 19 with fail
     go_step
     refine wpList_load_row (o := ⟨some _, .load 67 (.tmp 2), _, _, _, _⟩) rfl 67 (.tmp 2) rfl w.heap.size rfl 67 zeroA (0, 0) _ hz5 Tryz.underlying67 rfl (by kernel_rfl) ?_
     refine wpList_store_same (o := ⟨none, .store 67 (.tmp 2) (.tmp _), _, _, _, _⟩) rfl 67 (.tmp 2) _ rfl w.heap.size zeroA rfl rfl 67 hz5 (by kernel_rfl) (by decide +kernel) ?_
     go_wp2_with fail
     exact bodyPost_ret (results_row3 (fn := Tryz.f76) (p := 2) (q := 3) (r := 4) (ty := 67) rfl _ _ w.heap.size 67 zeroA (0, 0) _ rfl hz5 Tryz.underlying67 rfl (by kernel_rfl)) rfl ⟨rfl, hbb1.trans (hb5.mono (by omega))⟩
    | some n1 =>
     have cn := anum_any x1 w4 hE4 (by have := Hx.out x1 (by simp); omega)
     rw [hn1] at cn
     simp only [cntV] at cn
     by_cases q1 : n1 < 16777216
     ·obtain ⟨a1, ha1⟩ : ∃ a1 : Nat, a1 = n0 * 16777216 + n1 := ⟨_, rfl⟩
      have hA1 : a1 < 4294967296 := by omega
      have ho1 : bits BinOp.or IntKind.i64 ((n0 : Int) * 16777216) (n1 : Int) = (a1 : Int) := by
       have := @or_add n0 n1 24 q1 (by omega)
       rw [show 2 ^ 24 * n0 = n0 * 16777216 from Nat.mul_comm _ _, ← ha1] at this
       rw [← this, Int.natCast_mul]; rfl
      have hAH1 := Lib.hid ha1
      clear ha1
      go_wp2_with fail
      go_at_call 111
      refine cn.mono ?_
      rintro e w5 ⟨rfl, hb5⟩
      have hz5 : w5.heap[w.heap.size]? = some (.cells zeroA 67 (0, 0)) := (hb5.block _ (by omega)).trans hz4
      have hE5 := hE4.below hb5
      have hs5 := hb5.size
      have hbb2 := hbb1.trans (hb5.mono (by omega))
      have d2_0 := ((bcell hb5).1 _ 0 (by omega)).trans d1_0
      have d2_1 := ((bcell hb5).1 _ 1 (by omega)).trans d1_1
      clear d1_0 d1_1
      go_wp2_with fail
      rw [rounds_succ]
      go_wp2_with fail
      have e1 : w5.cell? ⟨w.heap.size, 1, none⟩ = some (.int .u8 0) := by rw [cell_of_row _ _ _ _ _ _ hz5]; rfl
      have e2 : w5.cell? ⟨w.heap.size, 2, none⟩ = some (.int .u8 0) := by rw [cell_of_row _ _ _ _ _ _ hz5]; rfl
      have e3 : w5.cell? ⟨w.heap.size, 3, none⟩ = some (.int .u8 0) := by rw [cell_of_row _ _ _ _ _ _ hz5]; rfl
      have e4 : w5.cell? ⟨w.heap.size, 4, none⟩ = some (.int .u8 0) := by rw [cell_of_row _ _ _ _ _ _ hz5]; rfl
      have f1 : w5.frozen? ⟨w.heap.size, 1, none⟩ = false := frozen_of_row _ _ _ _ _ hz5
      have f2 : w5.frozen? ⟨w.heap.size, 2, none⟩ = false := frozen_of_row _ _ _ _ _ hz5
      have f3 : w5.frozen? ⟨w.heap.size, 3, none⟩ = false := frozen_of_row _ _ _ _ _ hz5
      have f4 : w5.frozen? ⟨w.heap.size, 4, none⟩ = false := frozen_of_row _ _ _ _ _ hz5
      refine wp_loop_rounds 5 ?_
      rw [rounds_succ]
      go_wp2_with fail
      rw [rounds_succ]
      go_wp2_with fail
      rw [rounds_succ]
      go_wp2_with fail
      rw [rounds_succ]
      go_wp2_with fail
      rw [rounds_succ]
      go_upto_region 27 with fail
      have hzf := heap_setCell_same _ w.heap.size 4 _ _ (.int .u8 ((a1 : Int) % 256)) (heap_setCell_same _ w.heap.size 3 _ _ (.int .u8 ((a1 : Int) / 256 % 256)) (heap_setCell_same _ w.heap.size 2 _ _ (.int .u8 ((a1 : Int) / 65536 % 256)) (heap_setCell_same _ w.heap.size 1 _ _ (.int .u8 ((a1 : Int) / 16777216)) hz5)))
      have hbf := (((hbb2.setCell (p := ⟨w.heap.size, 1, none⟩) (Nat.le_refl _) (.int .u8 ((a1 : Int) / 16777216))).setCell (p := ⟨w.heap.size, 2, none⟩) (Nat.le_refl _) (.int .u8 ((a1 : Int) / 65536 % 256))).setCell (p := ⟨w.heap.size, 3, none⟩) (Nat.le_refl _) (.int .u8 ((a1 : Int) / 256 % 256))).setCell (p := ⟨w.heap.size, 4, none⟩) (Nat.le_refl _) (.int .u8 ((a1 : Int) % 256))
      have hzf : _ = some (Obj.cells #[.bool false, .int .u8 ((a1 : Int) / 16777216), .int .u8 ((a1 : Int) / 65536 % 256), .int .u8 ((a1 : Int) / 256 % 256), .int .u8 ((a1 : Int) % 256), .int .u8 0, .int .u8 0, .int .u8 0, .int .u8 0, .int .u8 0, .int .u8 0, .int .u8 0, .int .u8 0, .int .u8 0, .int .u8 0, .int .u8 0, .int .u8 0] 67 (0, 0)) := hzf
      go_step
      refine wpList_load_row (o := ⟨some _, .load 67 (.tmp 2), _, _, _, _⟩) rfl 67 (.tmp 2) rfl w.heap.size rfl 67 #[.bool false, .int .u8 ((a1 : Int) / 16777216), .int .u8 ((a1 : Int) / 65536 % 256), .int .u8 ((a1 : Int) / 256 % 256), .int .u8 ((a1 : Int) % 256), .int .u8 0, .int .u8 0, .int .u8 0, .int .u8 0, .int .u8 0, .int .u8 0, .int .u8 0, .int .u8 0, .int .u8 0, .int .u8 0, .int .u8 0, .int .u8 0] (0, 0) _ hzf Tryz.underlying67 rfl (by kernel_rfl) ?_
      refine wpList_store_same (o := ⟨none, .store 67 (.tmp 2) (.tmp _), _, _, _, _⟩) rfl 67 (.tmp 2) _ rfl w.heap.size #[.bool false, .int .u8 ((a1 : Int) / 16777216), .int .u8 ((a1 : Int) / 65536 % 256), .int .u8 ((a1 : Int) / 256 % 256), .int .u8 ((a1 : Int) % 256), .int .u8 0, .int .u8 0, .int .u8 0, .int .u8 0, .int .u8 0, .int .u8 0, .int .u8 0, .int .u8 0, .int .u8 0, .int .u8 0, .int .u8 0, .int .u8 0] rfl rfl 67 hzf (by kernel_rfl) (by simp [Value.oneCell']) ?_
      go_wp2_with fail
      refine bodyPost_ret (results_row3 (fn := Tryz.f76) (p := 2) (q := 3) (r := 4) (ty := 67) rfl _ _ w.heap.size 67 #[.bool false, .int .u8 ((a1 : Int) / 16777216), .int .u8 ((a1 : Int) / 65536 % 256), .int .u8 ((a1 : Int) / 256 % 256), .int .u8 ((a1 : Int) % 256), .int .u8 0, .int .u8 0, .int .u8 0, .int .u8 0, .int .u8 0, .int .u8 0, .int .u8 0, .int .u8 0, .int .u8 0, .int .u8 0, .int .u8 0, .int .u8 0] (0, 0) _ rfl hzf Tryz.underlying67 rfl (by kernel_rfl)) rfl ⟨?_, hbf⟩
      have hr2 : r = (true, 0, a1) := by
       rw [hr]
       simp [evalF, hn0, q0, hn1, q1, hAH1.out]
      rw [hr2]
      simp [fourV, addrV]
      omega
     ·have hr2 : r = (true, 5, 0) := by rw [hr]; simp [evalF, hn0, q0, hn1, q1]
      subst hr2
      clear hr hn0 hn1
      go_wp2_with fail
      go_at_call 111
      refine cn.mono ?_
      rintro e w5 ⟨rfl, hb5⟩
      have hz5 : w5.heap[w.heap.size]? = some (.cells zeroA 67 (0, 0)) := (hb5.block _ (by omega)).trans hz4
      go_upto_region 19 with fail
      go_step
      refine wpList_load_row (o := ⟨some _, .load 67 (.tmp 2), _, _, _, _⟩) rfl 67 (.tmp 2) rfl w.heap.size rfl 67 zeroA (0, 0) _ hz5 Tryz.underlying67 rfl (by kernel_rfl) ?_
      refine wpList_store_same (o := ⟨none, .store 67 (.tmp 2) (.tmp _), _, _, _, _⟩) rfl 67 (.tmp 2) _ rfl w.heap.size zeroA rfl rfl 67 hz5 (by kernel_rfl) (by decide +kernel) ?_
      go_wp2_with fail
      exact bodyPost_ret (results_row3 (fn := Tryz.f76) (p := 2) (q := 3) (r := 4) (ty := 67) rfl _ _ w.heap.size 67 zeroA (0, 0) _ rfl hz5 Tryz.underlying67 rfl (by kernel_rfl)) rfl ⟨rfl, hbb1.trans (hb5.mono (by omega))⟩
   ·have hr2 : r = (true, 5, 0) := by rw [hr]; simp [evalF, hn0, q0]
    subst hr2
    clear hr hn0
    go_wp2_with fail
    go_at_call 111
    refine cn.mono ?_
    rintro e w4 ⟨rfl, hb4⟩
    have hz4 : w4.heap[w.heap.size]? = some (.cells zeroA 67 (0, 0)) := (hb4.block _ (by omega)).trans hz3
    go_upto_region 19 with fail
    go_step
    refine wpList_load_row (o := ⟨some _, .load 67 (.tmp 2), _, _, _, _⟩) rfl 67 (.tmp 2) rfl w.heap.size rfl 67 zeroA (0, 0) _ hz4 Tryz.underlying67 rfl (by kernel_rfl) ?_
    refine wpList_store_same (o := ⟨none, .store 67 (.tmp 2) (.tmp _), _, _, _, _⟩) rfl 67 (.tmp 2) _ rfl w.heap.size zeroA rfl rfl 67 hz4 (by kernel_rfl) (by decide +kernel) ?_
    go_wp2_with fail
    exact bodyPost_ret (results_row3 (fn := Tryz.f76) (p := 2) (q := 3) (r := 4) (ty := 67) rfl _ _ w.heap.size 67 zeroA (0, 0) _ rfl hz4 Tryz.underlying67 rfl (by kernel_rfl)) rfl ⟨rfl, hbb.trans (hb4.mono (by omega))⟩
set_option maxRecDepth 100000 in
set_option maxHeartbeats 4000000 in
theorem four_B2 (s : List UInt8) (w W2 : World) (x0 x1 x2 : List UInt8) (hW : FourW w W2 [x0, x1, x2]) (hx : ∀ p ∈ [x0, x1, x2], p.length ≤ 4000000000) (hne : x2 ≠ [])
  (cs : Calls Tryz.prog 72 #[.string ⟨s.toArray⟩, .string ⟨#[46]⟩] (w.alloc (.cells zeroA 67)) fun e w' => e = .returned (.slice (some ⟨w.heap.size + 1, 0, none⟩) 3 3) ∧ w' = W2) (r : Bool × Nat × Nat)
  (hr : r = if likeL x2 = false then (false, 0, 0) else match evalF [x0, x1, x2] 4294967296 0 with | none => (true, 5, 0) | some n => (true, 0, n)) :
  Calls Tryz.prog 76 #[.string ⟨s.toArray⟩] w fun e w' => e = .returned (fourV r) ∧ Below w.heap.size w w' := by
 obtain ⟨hE2, hb2, hrow, hsz, hcell⟩ := hW
 have cl := like_any x2 W2 hE2 (by have := hx x2 (by simp); omega)
 have c0 := hcell 0 (by simp)
 have c1 := hcell 1 (by simp)
 have c2 := hcell 2 (by simp)
 simp only [List.getElem_cons_zero, List.getElem_cons_succ] at c0 c1 c2
 have hne1 := isEmpty_ne hne
 have hne2 := beq_ne hne
 have Hx := Lib.hid hx
 clear hx hcell hne
 cases hk : likeL x2 with
 | false =>
  rw [hk] at hr cl
  rw [if_pos rfl] at hr
  subst hr
  clear hk
  go_enter Tryz.func76, Tryz.ntmps76
  go_wp2_with (go_at_call 72; refine cs.mono ?_; rintro e w1 ⟨rfl, rfl⟩)
  go_at_call 110
  refine cl.mono ?_
  rintro e w3 ⟨rfl, hb3⟩
  have hz3 : w3.heap[w.heap.size]? = some (.cells zeroA 67 (0, 0)) := (hb3.block _ (by omega)).trans hrow
  go_upto_region 7 with fail
  go_step
  refine wpList_load_row (o := ⟨some _, .load 67 (.tmp 2), _, _, _, _⟩) rfl 67 (.tmp 2) rfl w.heap.size rfl 67 zeroA (0, 0) _ hz3 Tryz.underlying67 rfl (by kernel_rfl) ?_
  refine wpList_store_same (o := ⟨none, .store 67 (.tmp 2) (.tmp _), _, _, _, _⟩) rfl 67 (.tmp 2) _ rfl w.heap.size zeroA rfl rfl 67 hz3 (by kernel_rfl) (by decide +kernel) ?_
  go_wp2_with fail
  exact bodyPost_ret (results_row3 (fn := Tryz.f76) (p := 2) (q := 3) (r := 4) (ty := 67) rfl _ _ w.heap.size 67 zeroA (0, 0) _ rfl hz3 Tryz.underlying67 rfl (by kernel_rfl)) rfl ⟨rfl, hb2.trans (hb3.mono (by omega))⟩
 | true =>
  rw [hk] at hr cl
  rw [if_neg (by simp)] at hr
  clear hk
  go_enter Tryz.func76, Tryz.ntmps76
  go_wp2_with (go_at_call 72; refine cs.mono ?_; rintro e w1 ⟨rfl, rfl⟩)
  go_at_call 110
  refine cl.mono ?_
  rintro e w3 ⟨rfl, hb3⟩
  have hz3 : w3.heap[w.heap.size]? = some (.cells zeroA 67 (0, 0)) := (hb3.block _ (by omega)).trans hrow
  have hE3 := hE2.below hb3
  have hs3 := hb3.size
  have hbb := hb2.trans (hb3.mono (by omega))
  have d0 := ((bcell hb3).1 _ 0 (by omega)).trans c0
  have d1 := ((bcell hb3).1 _ 1 (by omega)).trans c1
  have d2 := ((bcell hb3).1 _ 2 (by omega)).trans c2
  clear c0 c1 c2 cl cs hrow hb2 hE2
  go_wp2_with fail
  refine wp_loop_rounds 4 ?_
  rw [rounds_succ]
  cases hn0 : numL x0 with
  | none =>
   have hr2 : r = (true, 5, 0) := by rw [hr]; simp [evalF, hn0]
   subst hr2
   have cn := anum_any x0 w3 hE3 (by have := Hx.out x0 (by simp); omega)
   rw [hn0] at cn
   simp only [cntV] at cn
   clear hr hn0
   go_wp2_with fail
   go_at_call 111
   refine cn.mono ?_
   rintro e w4 ⟨rfl, hb4⟩
   have hz4 : w4.heap[w.heap.size]? = some (.cells zeroA 67 (0, 0)) := (hb4.block _ (by omega)).trans hz3
   go_upto_region 19 with fail
   go_step
   refine wpList_load_row (o := ⟨some _, .load 67 (.tmp 2), _, _, _, _⟩) rfl 67 (.tmp 2) rfl w.heap.size rfl 67 zeroA (0, 0) _ hz4 Tryz.underlying67 rfl (by kernel_rfl) ?_
   refine wpList_store_same (o := ⟨none, .store 67 (.tmp 2) (.tmp _), _, _, _, _⟩) rfl 67 (.tmp 2) _ rfl w.heap.size zeroA rfl rfl 67 hz4 (by kernel_rfl) (by decide +kernel) ?_
   go_wp2_with fail
   exact bodyPost_ret (results_row3 (fn := Tryz.f76) (p := 2) (q := 3) (r := 4) (ty := 67) rfl _ _ w.heap.size 67 zeroA (0, 0) _ rfl hz4 Tryz.underlying67 rfl (by kernel_rfl)) rfl ⟨rfl, hbb.trans (hb4.mono (by omega))⟩
  | some n0 =>
   have cn := anum_any x0 w3 hE3 (by have := Hx.out x0 (by simp); omega)
   rw [hn0] at cn
   simp only [cntV] at cn
   by_cases q0 : n0 < 256
   ·have ho0 : bits BinOp.or IntKind.i64 0 (n0 : Int) = (n0 : Int) := or_zero (by omega)
    go_wp2_with fail
    go_at_call 111
    refine cn.mono ?_
    rintro e w4 ⟨rfl, hb4⟩
    have hz4 : w4.heap[w.heap.size]? = some (.cells zeroA 67 (0, 0)) := (hb4.block _ (by omega)).trans hz3
    have hE4 := hE3.below hb4
    have hs4 := hb4.size
    have hbb1 := hbb.trans (hb4.mono (by omega))
    have d1_0 := ((bcell hb4).1 _ 0 (by omega)).trans d0
    have d1_1 := ((bcell hb4).1 _ 1 (by omega)).trans d1
    have d1_2 := ((bcell hb4).1 _ 2 (by omega)).trans d2
    clear d0 d1 d2
    go_wp2_with fail
    rw [rounds_succ]
    cases hn1 : numL x1 with
    | none =>
     have hr2 : r = (true, 5, 0) := by rw [hr]; simp [evalF, hn0, hn1, *]
     subst hr2
     have cn := anum_any x1 w4 hE4 (by have := Hx.out x1 (by simp); omega)
     rw [hn1] at cn
     simp only [cntV] at cn
     clear hr hn0 hn1
     go_wp2_with fail
     go_at_call 111
     refine cn.mono ?_
     rintro e w5 ⟨rfl, hb5⟩
     have hz5 : w5.heap[w.heap.size]? = some (.cells zeroA 67 (0, 0)) := (hb5.block _ (by omega)).trans hz4
     go_upto_region 19 with fail
     go_step
     refine wpList_load_row (o := ⟨some _, .load 67 (.tmp 2), _, _, _, _⟩) rfl 67 (.tmp 2) rfl w.heap.size rfl 67 zeroA (0, 0) _ hz5 Tryz.underlying67 rfl (by kernel_rfl) ?_
     refine wpList_store_same (o := ⟨none, .store 67 (.tmp 2) (.tmp _), _, _, _, _⟩) rfl 67 (.tmp 2) _ rfl w.heap.size zeroA rfl rfl 67 hz5 (by kernel_rfl) (by decide +kernel) ?_
     go_wp2_with fail
     exact bodyPost_ret (results_row3 (fn := Tryz.f76) (p := 2) (q := 3) (r := 4) (ty := 67) rfl _ _ w.heap.size 67 zeroA (0, 0) _ rfl hz5 Tryz.underlying67 rfl (by kernel_rfl)) rfl ⟨rfl, hbb1.trans (hb5.mono (by omega))⟩
    | some n1 =>
     have cn := anum_any x1 w4 hE4 (by have := Hx.out x1 (by simp); omega)
     rw [hn1] at cn
     simp only [cntV] at cn
     by_cases q1 : n1 < 256
     ·obtain ⟨a1, ha1⟩ : ∃ a1 : Nat, a1 = n0 * 256 + n1 := ⟨_, rfl⟩
      have hA1 : a1 < 65536 := by omega
      have ho1 : bits BinOp.or IntKind.i64 ((n0 : Int) * 256) (n1 : Int) = (a1 : Int) := by
       have := @or_add n0 n1 8 q1 (by omega)
       rw [show 2 ^ 8 * n0 = n0 * 256 from Nat.mul_comm _ _, ← ha1] at this
       rw [← this, Int.natCast_mul]; rfl
      have hAH1 := Lib.hid ha1
      clear ha1
      go_wp2_with fail
      go_at_call 111
      refine cn.mono ?_
      rintro e w5 ⟨rfl, hb5⟩
      have hz5 : w5.heap[w.heap.size]? = some (.cells zeroA 67 (0, 0)) := (hb5.block _ (by omega)).trans hz4
      have hE5 := hE4.below hb5
      have hs5 := hb5.size
      have hbb2 := hbb1.trans (hb5.mono (by omega))
      have d2_0 := ((bcell hb5).1 _ 0 (by omega)).trans d1_0
      have d2_1 := ((bcell hb5).1 _ 1 (by omega)).trans d1_1
      have d2_2 := ((bcell hb5).1 _ 2 (by omega)).trans d1_2
      clear d1_0 d1_1 d1_2
      go_wp2_with fail
      rw [rounds_succ]
      cases hn2 : numL x2 with
      | none =>
       have hr2 : r = (true, 5, 0) := by rw [hr]; simp [evalF, hn0, hn1, hn2, *]
       subst hr2
       have cn := anum_any x2 w5 hE5 (by have := Hx.out x2 (by simp); omega)
       rw [hn2] at cn
       simp only [cntV] at cn
       clear hr hn0 hn1 hn2
       go_wp2_with fail
       go_at_call 111
       refine cn.mono ?_
       rintro e w6 ⟨rfl, hb6⟩
       have hz6 : w6.heap[w.heap.size]? = some (.cells zeroA 67 (0, 0)) := (hb6.block _ (by omega)).trans hz5
       go_upto_region 19 with fail
       go_step
       refine wpList_load_row (o := ⟨some _, .load 67 (.tmp 2), _, _, _, _⟩) rfl 67 (.tmp 2) rfl w.heap.size rfl 67 zeroA (0, 0) _ hz6 Tryz.underlying67 rfl (by kernel_rfl) ?_
       refine wpList_store_same (o := ⟨none, .store 67 (.tmp 2) (.tmp _), _, _, _, _⟩) rfl 67 (.tmp 2) _ rfl w.heap.size zeroA rfl rfl 67 hz6 (by kernel_rfl) (by decide +kernel) ?_
       go_wp2_with fail
       exact bodyPost_ret (results_row3 (fn := Tryz.f76) (p := 2) (q := 3) (r := 4) (ty := 67) rfl _ _ w.heap.size 67 zeroA (0, 0) _ rfl hz6 Tryz.underlying67 rfl (by kernel_rfl)) rfl ⟨rfl, hbb2.trans (hb6.mono (by omega))⟩
      | some n2 =>
       have cn := anum_any x2 w5 hE5 (by have := Hx.out x2 (by simp); omega)
       rw [hn2] at cn
       simp only [cntV] at cn
       by_cases q2 : n2 < 65536
       ·obtain ⟨a2, ha2⟩ : ∃ a2 : Nat, a2 = a1 * 65536 + n2 := ⟨_, rfl⟩
        have hA2 : a2 < 4294967296 := by omega
        have ho2 : bits BinOp.or IntKind.i64 ((a1 : Int) * 65536) (n2 : Int) = (a2 : Int) := by
         have := @or_add a1 n2 16 q2 (by omega)
         rw [show 2 ^ 16 * a1 = a1 * 65536 from Nat.mul_comm _ _, ← ha2] at this
         rw [← this, Int.natCast_mul]; rfl
        have hAH2 := Lib.hid ha2
        clear ha2
        go_wp2_with fail
        go_at_call 111
        refine cn.mono ?_
        rintro e w6 ⟨rfl, hb6⟩
        have hz6 : w6.heap[w.heap.size]? = some (.cells zeroA 67 (0, 0)) := (hb6.block _ (by omega)).trans hz5
        have hE6 := hE5.below hb6
        have hs6 := hb6.size
        have hbb3 := hbb2.trans (hb6.mono (by omega))
        have d3_0 := ((bcell hb6).1 _ 0 (by omega)).trans d2_0
        have d3_1 := ((bcell hb6).1 _ 1 (by omega)).trans d2_1
        have d3_2 := ((bcell hb6).1 _ 2 (by omega)).trans d2_2
        clear d2_0 d2_1 d2_2
        go_wp2_with fail
        rw [rounds_succ]
        go_wp2_with fail
        have e1 : w6.cell? ⟨w.heap.size, 1, none⟩ = some (.int .u8 0) := by rw [cell_of_row _ _ _ _ _ _ hz6]; rfl
        have e2 : w6.cell? ⟨w.heap.size, 2, none⟩ = some (.int .u8 0) := by rw [cell_of_row _ _ _ _ _ _ hz6]; rfl
        have e3 : w6.cell? ⟨w.heap.size, 3, none⟩ = some (.int .u8 0) := by rw [cell_of_row _ _ _ _ _ _ hz6]; rfl
        have e4 : w6.cell? ⟨w.heap.size, 4, none⟩ = some (.int .u8 0) := by rw [cell_of_row _ _ _ _ _ _ hz6]; rfl
        have f1 : w6.frozen? ⟨w.heap.size, 1, none⟩ = false := frozen_of_row _ _ _ _ _ hz6
        have f2 : w6.frozen? ⟨w.heap.size, 2, none⟩ = false := frozen_of_row _ _ _ _ _ hz6
        have f3 : w6.frozen? ⟨w.heap.size, 3, none⟩ = false := frozen_of_row _ _ _ _ _ hz6
        have f4 : w6.frozen? ⟨w.heap.size, 4, none⟩ = false := frozen_of_row _ _ _ _ _ hz6
        refine wp_loop_rounds 5 ?_
        rw [rounds_succ]
        go_wp2_with fail
        rw [rounds_succ]
        go_wp2_with fail
        rw [rounds_succ]
        go_wp2_with fail
        rw [rounds_succ]
        go_wp2_with fail
        rw [rounds_succ]
        go_upto_region 27 with fail
        have hzf := heap_setCell_same _ w.heap.size 4 _ _ (.int .u8 ((a2 : Int) % 256)) (heap_setCell_same _ w.heap.size 3 _ _ (.int .u8 ((a2 : Int) / 256 % 256)) (heap_setCell_same _ w.heap.size 2 _ _ (.int .u8 ((a2 : Int) / 65536 % 256)) (heap_setCell_same _ w.heap.size 1 _ _ (.int .u8 ((a2 : Int) / 16777216)) hz6)))
        have hbf := (((hbb3.setCell (p := ⟨w.heap.size, 1, none⟩) (Nat.le_refl _) (.int .u8 ((a2 : Int) / 16777216))).setCell (p := ⟨w.heap.size, 2, none⟩) (Nat.le_refl _) (.int .u8 ((a2 : Int) / 65536 % 256))).setCell (p := ⟨w.heap.size, 3, none⟩) (Nat.le_refl _) (.int .u8 ((a2 : Int) / 256 % 256))).setCell (p := ⟨w.heap.size, 4, none⟩) (Nat.le_refl _) (.int .u8 ((a2 : Int) % 256))
        have hzf : _ = some (Obj.cells #[.bool false, .int .u8 ((a2 : Int) / 16777216), .int .u8 ((a2 : Int) / 65536 % 256), .int .u8 ((a2 : Int) / 256 % 256), .int .u8 ((a2 : Int) % 256), .int .u8 0, .int .u8 0, .int .u8 0, .int .u8 0, .int .u8 0, .int .u8 0, .int .u8 0, .int .u8 0, .int .u8 0, .int .u8 0, .int .u8 0, .int .u8 0] 67 (0, 0)) := hzf
        go_step
        refine wpList_load_row (o := ⟨some _, .load 67 (.tmp 2), _, _, _, _⟩) rfl 67 (.tmp 2) rfl w.heap.size rfl 67 #[.bool false, .int .u8 ((a2 : Int) / 16777216), .int .u8 ((a2 : Int) / 65536 % 256), .int .u8 ((a2 : Int) / 256 % 256), .int .u8 ((a2 : Int) % 256), .int .u8 0, .int .u8 0, .int .u8 0, .int .u8 0, .int .u8 0, .int .u8 0, .int .u8 0, .int .u8 0, .int .u8 0, .int .u8 0, .int .u8 0, .int .u8 0] (0, 0) _ hzf Tryz.underlying67 rfl (by kernel_rfl) ?_
        refine wpList_store_same (o := ⟨none, .store 67 (.tmp 2) (.tmp _), _, _, _, _⟩) rfl 67 (.tmp 2) _ rfl w.heap.size #[.bool false, .int .u8 ((a2 : Int) / 16777216), .int .u8 ((a2 : Int) / 65536 % 256), .int .u8 ((a2 : Int) / 256 % 256), .int .u8 ((a2 : Int) % 256), .int .u8 0, .int .u8 0, .int .u8 0, .int .u8 0, .int .u8 0, .int .u8 0, .int .u8 0, .int .u8 0, .int .u8 0, .int .u8 0, .int .u8 0, .int .u8 0] rfl rfl 67 hzf (by kernel_rfl) (by simp [Value.oneCell']) ?_
        go_wp2_with fail
        refine bodyPost_ret (results_row3 (fn := Tryz.f76) (p := 2) (q := 3) (r := 4) (ty := 67) rfl _ _ w.heap.size 67 #[.bool false, .int .u8 ((a2 : Int) / 16777216), .int .u8 ((a2 : Int) / 65536 % 256), .int .u8 ((a2 : Int) / 256 % 256), .int .u8 ((a2 : Int) % 256), .int .u8 0, .int .u8 0, .int .u8 0, .int .u8 0, .int .u8 0, .int .u8 0, .int .u8 0, .int .u8 0, .int .u8 0, .int .u8 0, .int .u8 0, .int .u8 0] (0, 0) _ rfl hzf Tryz.underlying67 rfl (by kernel_rfl)) rfl ⟨?_, hbf⟩
        have hr2 : r = (true, 0, a2) := by
         rw [hr]
         simp [evalF, hn0, q0, hn1, q1, hn2, q2, hAH1.out, hAH2.out]
        rw [hr2]
        simp [fourV, addrV]
        omega
       ·have hr2 : r = (true, 5, 0) := by rw [hr]; simp [evalF, hn0, q0, hn1, q1, hn2, q2]
        subst hr2
        clear hr hn0 hn1 hn2
        go_wp2_with fail
        go_at_call 111
        refine cn.mono ?_
        rintro e w6 ⟨rfl, hb6⟩
        have hz6 : w6.heap[w.heap.size]? = some (.cells zeroA 67 (0, 0)) := (hb6.block _ (by omega)).trans hz5
        go_upto_region 19 with fail
        go_step
        refine wpList_load_row (o := ⟨some _, .load 67 (.tmp 2), _, _, _, _⟩) rfl 67 (.tmp 2) rfl w.heap.size rfl 67 zeroA (0, 0) _ hz6 Tryz.underlying67 rfl (by kernel_rfl) ?_
        refine wpList_store_same (o := ⟨none, .store 67 (.tmp 2) (.tmp _), _, _, _, _⟩) rfl 67 (.tmp 2) _ rfl w.heap.size zeroA rfl rfl 67 hz6 (by kernel_rfl) (by decide +kernel) ?_
        go_wp2_with fail
        exact bodyPost_ret (results_row3 (fn := Tryz.f76) (p := 2) (q := 3) (r := 4) (ty := 67) rfl _ _ w.heap.size 67 zeroA (0, 0) _ rfl hz6 Tryz.underlying67 rfl (by kernel_rfl)) rfl ⟨rfl, hbb2.trans (hb6.mono (by omega))⟩
     ·have hr2 : r = (true, 5, 0) := by rw [hr]; simp [evalF, hn0, q0, hn1, q1]
      subst hr2
      clear hr hn0 hn1
      go_wp2_with fail
      go_at_call 111
      refine cn.mono ?_
      rintro e w5 ⟨rfl, hb5⟩
      have hz5 : w5.heap[w.heap.size]? = some (.cells zeroA 67 (0, 0)) := (hb5.block _ (by omega)).trans hz4
      go_upto_region 19 with fail
      go_step
      refine wpList_load_row (o := ⟨some _, .load 67 (.tmp 2), _, _, _, _⟩) rfl 67 (.tmp 2) rfl w.heap.size rfl 67 zeroA (0, 0) _ hz5 Tryz.underlying67 rfl (by kernel_rfl) ?_
      refine wpList_store_same (o := ⟨none, .store 67 (.tmp 2) (.tmp _), _, _, _, _⟩) rfl 67 (.tmp 2) _ rfl w.heap.size zeroA rfl rfl 67 hz5 (by kernel_rfl) (by decide +kernel) ?_
      go_wp2_with fail
      exact bodyPost_ret (results_row3 (fn := Tryz.f76) (p := 2) (q := 3) (r := 4) (ty := 67) rfl _ _ w.heap.size 67 zeroA (0, 0) _ rfl hz5 Tryz.underlying67 rfl (by kernel_rfl)) rfl ⟨rfl, hbb1.trans (hb5.mono (by omega))⟩
   ·have hr2 : r = (true, 5, 0) := by rw [hr]; simp [evalF, hn0, q0]
    subst hr2
    clear hr hn0
    go_wp2_with fail
    go_at_call 111
    refine cn.mono ?_
    rintro e w4 ⟨rfl, hb4⟩
    have hz4 : w4.heap[w.heap.size]? = some (.cells zeroA 67 (0, 0)) := (hb4.block _ (by omega)).trans hz3
    go_upto_region 19 with fail
    go_step
    refine wpList_load_row (o := ⟨some _, .load 67 (.tmp 2), _, _, _, _⟩) rfl 67 (.tmp 2) rfl w.heap.size rfl 67 zeroA (0, 0) _ hz4 Tryz.underlying67 rfl (by kernel_rfl) ?_
    refine wpList_store_same (o := ⟨none, .store 67 (.tmp 2) (.tmp _), _, _, _, _⟩) rfl 67 (.tmp 2) _ rfl w.heap.size zeroA rfl rfl 67 hz4 (by kernel_rfl) (by decide +kernel) ?_
    go_wp2_with fail
    exact bodyPost_ret (results_row3 (fn := Tryz.f76) (p := 2) (q := 3) (r := 4) (ty := 67) rfl _ _ w.heap.size 67 zeroA (0, 0) _ rfl hz4 Tryz.underlying67 rfl (by kernel_rfl)) rfl ⟨rfl, hbb.trans (hb4.mono (by omega))⟩
set_option maxRecDepth 100000 in
set_option maxHeartbeats 4000000 in
theorem four_B3 (s : List UInt8) (w W2 : World) (x0 x1 x2 x3 : List UInt8) (hW : FourW w W2 [x0, x1, x2, x3]) (hx : ∀ p ∈ [x0, x1, x2, x3], p.length ≤ 4000000000) (hne : x3 ≠ [])
  (cs : Calls Tryz.prog 72 #[.string ⟨s.toArray⟩, .string ⟨#[46]⟩] (w.alloc (.cells zeroA 67)) fun e w' => e = .returned (.slice (some ⟨w.heap.size + 1, 0, none⟩) 4 4) ∧ w' = W2) (r : Bool × Nat × Nat)
  (hr : r = if likeL x3 = false then (false, 0, 0) else match evalF [x0, x1, x2, x3] 4294967296 0 with | none => (true, 5, 0) | some n => (true, 0, n)) :
  Calls Tryz.prog 76 #[.string ⟨s.toArray⟩] w fun e w' => e = .returned (fourV r) ∧ Below w.heap.size w w' := by
 obtain ⟨hE2, hb2, hrow, hsz, hcell⟩ := hW
 have cl := like_any x3 W2 hE2 (by have := hx x3 (by simp); omega)
 have c0 := hcell 0 (by simp)
 have c1 := hcell 1 (by simp)
 have c2 := hcell 2 (by simp)
 have c3 := hcell 3 (by simp)
 simp only [List.getElem_cons_zero, List.getElem_cons_succ] at c0 c1 c2 c3
 have hne1 := isEmpty_ne hne
 have hne2 := beq_ne hne
 have Hx := Lib.hid hx
 clear hx hcell hne
 cases hk : likeL x3 with
 | false =>
  rw [hk] at hr cl
  rw [if_pos rfl] at hr
  subst hr
  clear hk
  go_enter Tryz.func76, Tryz.ntmps76
  go_wp2_with (go_at_call 72; refine cs.mono ?_; rintro e w1 ⟨rfl, rfl⟩)
  go_at_call 110
  refine cl.mono ?_
  rintro e w3 ⟨rfl, hb3⟩
  have hz3 : w3.heap[w.heap.size]? = some (.cells zeroA 67 (0, 0)) := (hb3.block _ (by omega)).trans hrow
  go_upto_region 7 with fail
  go_step
  refine wpList_load_row (o := ⟨some _, .load 67 (.tmp 2), _, _, _, _⟩) rfl 67 (.tmp 2) rfl w.heap.size rfl 67 zeroA (0, 0) _ hz3 Tryz.underlying67 rfl (by kernel_rfl) ?_
  refine wpList_store_same (o := ⟨none, .store 67 (.tmp 2) (.tmp _), _, _, _, _⟩) rfl 67 (.tmp 2) _ rfl w.heap.size zeroA rfl rfl 67 hz3 (by kernel_rfl) (by decide +kernel) ?_
  go_wp2_with fail
  exact bodyPost_ret (results_row3 (fn := Tryz.f76) (p := 2) (q := 3) (r := 4) (ty := 67) rfl _ _ w.heap.size 67 zeroA (0, 0) _ rfl hz3 Tryz.underlying67 rfl (by kernel_rfl)) rfl ⟨rfl, hb2.trans (hb3.mono (by omega))⟩
 | true =>
  rw [hk] at hr cl
  rw [if_neg (by simp)] at hr
  clear hk
  go_enter Tryz.func76, Tryz.ntmps76
  go_wp2_with (go_at_call 72; refine cs.mono ?_; rintro e w1 ⟨rfl, rfl⟩)
  go_at_call 110
  refine cl.mono ?_
  rintro e w3 ⟨rfl, hb3⟩
  have hz3 : w3.heap[w.heap.size]? = some (.cells zeroA 67 (0, 0)) := (hb3.block _ (by omega)).trans hrow
  have hE3 := hE2.below hb3
  have hs3 := hb3.size
  have hbb := hb2.trans (hb3.mono (by omega))
  have d0 := ((bcell hb3).1 _ 0 (by omega)).trans c0
  have d1 := ((bcell hb3).1 _ 1 (by omega)).trans c1
  have d2 := ((bcell hb3).1 _ 2 (by omega)).trans c2
  have d3 := ((bcell hb3).1 _ 3 (by omega)).trans c3
  clear c0 c1 c2 c3 cl cs hrow hb2 hE2
  go_wp2_with fail
  refine wp_loop_rounds 5 ?_
  rw [rounds_succ]
  cases hn0 : numL x0 with
  | none =>
   have hr2 : r = (true, 5, 0) := by rw [hr]; simp [evalF, hn0]
   subst hr2
   have cn := anum_any x0 w3 hE3 (by have := Hx.out x0 (by simp); omega)
   rw [hn0] at cn
   simp only [cntV] at cn
   clear hr hn0
   go_wp2_with fail
   go_at_call 111
   refine cn.mono ?_
   rintro e w4 ⟨rfl, hb4⟩
   have hz4 : w4.heap[w.heap.size]? = some (.cells zeroA 67 (0, 0)) := (hb4.block _ (by omega)).trans hz3
   go_upto_region 19 with fail
   go_step
   refine wpList_load_row (o := ⟨some _, .load 67 (.tmp 2), _, _, _, _⟩) rfl 67 (.tmp 2) rfl w.heap.size rfl 67 zeroA (0, 0) _ hz4 Tryz.underlying67 rfl (by kernel_rfl) ?_
   refine wpList_store_same (o := ⟨none, .store 67 (.tmp 2) (.tmp _), _, _, _, _⟩) rfl 67 (.tmp 2) _ rfl w.heap.size zeroA rfl rfl 67 hz4 (by kernel_rfl) (by decide +kernel) ?_
   go_wp2_with fail
   exact bodyPost_ret (results_row3 (fn := Tryz.f76) (p := 2) (q := 3) (r := 4) (ty := 67) rfl _ _ w.heap.size 67 zeroA (0, 0) _ rfl hz4 Tryz.underlying67 rfl (by kernel_rfl)) rfl ⟨rfl, hbb.trans (hb4.mono (by omega))⟩
  | some n0 =>
   have cn := anum_any x0 w3 hE3 (by have := Hx.out x0 (by simp); omega)
   rw [hn0] at cn
   simp only [cntV] at cn
   by_cases q0 : n0 < 256
   ·have ho0 : bits BinOp.or IntKind.i64 0 (n0 : Int) = (n0 : Int) := or_zero (by omega)
    go_wp2_with fail
    go_at_call 111
    refine cn.mono ?_
    rintro e w4 ⟨rfl, hb4⟩
    have hz4 : w4.heap[w.heap.size]? = some (.cells zeroA 67 (0, 0)) := (hb4.block _ (by omega)).trans hz3
    have hE4 := hE3.below hb4
    have hs4 := hb4.size
    have hbb1 := hbb.trans (hb4.mono (by omega))
    have d1_0 := ((bcell hb4).1 _ 0 (by omega)).trans d0
    have d1_1 := ((bcell hb4).1 _ 1 (by omega)).trans d1
    have d1_2 := ((bcell hb4).1 _ 2 (by omega)).trans d2
    have d1_3 := ((bcell hb4).1 _ 3 (by omega)).trans d3
    clear d0 d1 d2 d3
    go_wp2_with fail
    rw [rounds_succ]
    cases hn1 : numL x1 with
    | none =>
     have hr2 : r = (true, 5, 0) := by rw [hr]; simp [evalF, hn0, hn1, *]
     subst hr2
     have cn := anum_any x1 w4 hE4 (by have := Hx.out x1 (by simp); omega)
     rw [hn1] at cn
     simp only [cntV] at cn
     clear hr hn0 hn1
     go_wp2_with fail
     go_at_call 111
     refine cn.mono ?_
     rintro e w5 ⟨rfl, hb5⟩
     have hz5 : w5.heap[w.heap.size]? = some (.cells zeroA 67 (0, 0)) := (hb5.block _ (by omega)).trans hz4
     go_upto_region 19 with fail
     go_step
     refine wpList_load_row (o := ⟨some _, .load 67 (.tmp 2), _, _, _, _⟩) rfl 67 (.tmp 2) rfl w.heap.size rfl 67 zeroA (0, 0) _ hz5 Tryz.underlying67 rfl (by kernel_rfl) ?_
     refine wpList_store_same (o := ⟨none, .store 67 (.tmp 2) (.tmp _), _, _, _, _⟩) rfl 67 (.tmp 2) _ rfl w.heap.size zeroA rfl rfl 67 hz5 (by kernel_rfl) (by decide +kernel) ?_
     go_wp2_with fail
     exact bodyPost_ret (results_row3 (fn := Tryz.f76) (p := 2) (q := 3) (r := 4) (ty := 67) rfl _ _ w.heap.size 67 zeroA (0, 0) _ rfl hz5 Tryz.underlying67 rfl (by kernel_rfl)) rfl ⟨rfl, hbb1.trans (hb5.mono (by omega))⟩
    | some n1 =>
     have cn := anum_any x1 w4 hE4 (by have := Hx.out x1 (by simp); omega)
     rw [hn1] at cn
     simp only [cntV] at cn
     by_cases q1 : n1 < 256
     ·obtain ⟨a1, ha1⟩ : ∃ a1 : Nat, a1 = n0 * 256 + n1 := ⟨_, rfl⟩
      have hA1 : a1 < 65536 := by omega
      have ho1 : bits BinOp.or IntKind.i64 ((n0 : Int) * 256) (n1 : Int) = (a1 : Int) := by
       have := @or_add n0 n1 8 q1 (by omega)
       rw [show 2 ^ 8 * n0 = n0 * 256 from Nat.mul_comm _ _, ← ha1] at this
       rw [← this, Int.natCast_mul]; rfl
      have hAH1 := Lib.hid ha1
      clear ha1
      go_wp2_with fail
      go_at_call 111
      refine cn.mono ?_
      rintro e w5 ⟨rfl, hb5⟩
      have hz5 : w5.heap[w.heap.size]? = some (.cells zeroA 67 (0, 0)) := (hb5.block _ (by omega)).trans hz4
      have hE5 := hE4.below hb5
      have hs5 := hb5.size
      have hbb2 := hbb1.trans (hb5.mono (by omega))
      have d2_0 := ((bcell hb5).1 _ 0 (by omega)).trans d1_0
      have d2_1 := ((bcell hb5).1 _ 1 (by omega)).trans d1_1
      have d2_2 := ((bcell hb5).1 _ 2 (by omega)).trans d1_2
      have d2_3 := ((bcell hb5).1 _ 3 (by omega)).trans d1_3
      clear d1_0 d1_1 d1_2 d1_3
      go_wp2_with fail
      rw [rounds_succ]
      cases hn2 : numL x2 with
      | none =>
       have hr2 : r = (true, 5, 0) := by rw [hr]; simp [evalF, hn0, hn1, hn2, *]
       subst hr2
       have cn := anum_any x2 w5 hE5 (by have := Hx.out x2 (by simp); omega)
       rw [hn2] at cn
       simp only [cntV] at cn
       clear hr hn0 hn1 hn2
       go_wp2_with fail
       go_at_call 111
       refine cn.mono ?_
       rintro e w6 ⟨rfl, hb6⟩
       have hz6 : w6.heap[w.heap.size]? = some (.cells zeroA 67 (0, 0)) := (hb6.block _ (by omega)).trans hz5
       go_upto_region 19 with fail
       go_step
       refine wpList_load_row (o := ⟨some _, .load 67 (.tmp 2), _, _, _, _⟩) rfl 67 (.tmp 2) rfl w.heap.size rfl 67 zeroA (0, 0) _ hz6 Tryz.underlying67 rfl (by kernel_rfl) ?_
       refine wpList_store_same (o := ⟨none, .store 67 (.tmp 2) (.tmp _), _, _, _, _⟩) rfl 67 (.tmp 2) _ rfl w.heap.size zeroA rfl rfl 67 hz6 (by kernel_rfl) (by decide +kernel) ?_
       go_wp2_with fail
       exact bodyPost_ret (results_row3 (fn := Tryz.f76) (p := 2) (q := 3) (r := 4) (ty := 67) rfl _ _ w.heap.size 67 zeroA (0, 0) _ rfl hz6 Tryz.underlying67 rfl (by kernel_rfl)) rfl ⟨rfl, hbb2.trans (hb6.mono (by omega))⟩
      | some n2 =>
       have cn := anum_any x2 w5 hE5 (by have := Hx.out x2 (by simp); omega)
       rw [hn2] at cn
       simp only [cntV] at cn
       by_cases q2 : n2 < 256
       ·obtain ⟨a2, ha2⟩ : ∃ a2 : Nat, a2 = a1 * 256 + n2 := ⟨_, rfl⟩
        have hA2 : a2 < 16777216 := by omega
        have ho2 : bits BinOp.or IntKind.i64 ((a1 : Int) * 256) (n2 : Int) = (a2 : Int) := by
         have := @or_add a1 n2 8 q2 (by omega)
         rw [show 2 ^ 8 * a1 = a1 * 256 from Nat.mul_comm _ _, ← ha2] at this
         rw [← this, Int.natCast_mul]; rfl
        have hAH2 := Lib.hid ha2
        clear ha2
        go_wp2_with fail
        go_at_call 111
        refine cn.mono ?_
        rintro e w6 ⟨rfl, hb6⟩
        have hz6 : w6.heap[w.heap.size]? = some (.cells zeroA 67 (0, 0)) := (hb6.block _ (by omega)).trans hz5
        have hE6 := hE5.below hb6
        have hs6 := hb6.size
        have hbb3 := hbb2.trans (hb6.mono (by omega))
        have d3_0 := ((bcell hb6).1 _ 0 (by omega)).trans d2_0
        have d3_1 := ((bcell hb6).1 _ 1 (by omega)).trans d2_1
        have d3_2 := ((bcell hb6).1 _ 2 (by omega)).trans d2_2
        have d3_3 := ((bcell hb6).1 _ 3 (by omega)).trans d2_3
        clear d2_0 d2_1 d2_2 d2_3
        go_wp2_with fail
        rw [rounds_succ]
        cases hn3 : numL x3 with
        | none =>
         have hr2 : r = (true, 5, 0) := by rw [hr]; simp [evalF, hn0, hn1, hn2, hn3, *]
         subst hr2
         have cn := anum_any x3 w6 hE6 (by have := Hx.out x3 (by simp); omega)
         rw [hn3] at cn
         simp only [cntV] at cn
         clear hr hn0 hn1 hn2 hn3
         go_wp2_with fail
         go_at_call 111
         refine cn.mono ?_
         rintro e w7 ⟨rfl, hb7⟩
         have hz7 : w7.heap[w.heap.size]? = some (.cells zeroA 67 (0, 0)) := (hb7.block _ (by omega)).trans hz6
         go_upto_region 19 with fail
         go_step
         refine wpList_load_row (o := ⟨some _, .load 67 (.tmp 2), _, _, _, _⟩) rfl 67 (.tmp 2) rfl w.heap.size rfl 67 zeroA (0, 0) _ hz7 Tryz.underlying67 rfl (by kernel_rfl) ?_
         refine wpList_store_same (o := ⟨none, .store 67 (.tmp 2) (.tmp _), _, _, _, _⟩) rfl 67 (.tmp 2) _ rfl w.heap.size zeroA rfl rfl 67 hz7 (by kernel_rfl) (by decide +kernel) ?_
         go_wp2_with fail
         exact bodyPost_ret (results_row3 (fn := Tryz.f76) (p := 2) (q := 3) (r := 4) (ty := 67) rfl _ _ w.heap.size 67 zeroA (0, 0) _ rfl hz7 Tryz.underlying67 rfl (by kernel_rfl)) rfl ⟨rfl, hbb3.trans (hb7.mono (by omega))⟩
        | some n3 =>
         have cn := anum_any x3 w6 hE6 (by have := Hx.out x3 (by simp); omega)
         rw [hn3] at cn
         simp only [cntV] at cn
         by_cases q3 : n3 < 256
         ·obtain ⟨a3, ha3⟩ : ∃ a3 : Nat, a3 = a2 * 256 + n3 := ⟨_, rfl⟩
          have hA3 : a3 < 4294967296 := by omega
          have ho3 : bits BinOp.or IntKind.i64 ((a2 : Int) * 256) (n3 : Int) = (a3 : Int) := by
           have := @or_add a2 n3 8 q3 (by omega)
           rw [show 2 ^ 8 * a2 = a2 * 256 from Nat.mul_comm _ _, ← ha3] at this
           rw [← this, Int.natCast_mul]; rfl
          have hAH3 := Lib.hid ha3
          clear ha3
          go_wp2_with fail
          go_at_call 111
          refine cn.mono ?_
          rintro e w7 ⟨rfl, hb7⟩
          have hz7 : w7.heap[w.heap.size]? = some (.cells zeroA 67 (0, 0)) := (hb7.block _ (by omega)).trans hz6
          have hE7 := hE6.below hb7
          have hs7 := hb7.size
          have hbb4 := hbb3.trans (hb7.mono (by omega))
          have d4_0 := ((bcell hb7).1 _ 0 (by omega)).trans d3_0
          have d4_1 := ((bcell hb7).1 _ 1 (by omega)).trans d3_1
          have d4_2 := ((bcell hb7).1 _ 2 (by omega)).trans d3_2
          have d4_3 := ((bcell hb7).1 _ 3 (by omega)).trans d3_3
          clear d3_0 d3_1 d3_2 d3_3
          go_wp2_with fail
          rw [rounds_succ]
          go_wp2_with fail
          have e1 : w7.cell? ⟨w.heap.size, 1, none⟩ = some (.int .u8 0) := by rw [cell_of_row _ _ _ _ _ _ hz7]; rfl
          have e2 : w7.cell? ⟨w.heap.size, 2, none⟩ = some (.int .u8 0) := by rw [cell_of_row _ _ _ _ _ _ hz7]; rfl
          have e3 : w7.cell? ⟨w.heap.size, 3, none⟩ = some (.int .u8 0) := by rw [cell_of_row _ _ _ _ _ _ hz7]; rfl
          have e4 : w7.cell? ⟨w.heap.size, 4, none⟩ = some (.int .u8 0) := by rw [cell_of_row _ _ _ _ _ _ hz7]; rfl
          have f1 : w7.frozen? ⟨w.heap.size, 1, none⟩ = false := frozen_of_row _ _ _ _ _ hz7
          have f2 : w7.frozen? ⟨w.heap.size, 2, none⟩ = false := frozen_of_row _ _ _ _ _ hz7
          have f3 : w7.frozen? ⟨w.heap.size, 3, none⟩ = false := frozen_of_row _ _ _ _ _ hz7
          have f4 : w7.frozen? ⟨w.heap.size, 4, none⟩ = false := frozen_of_row _ _ _ _ _ hz7
          refine wp_loop_rounds 5 ?_
          rw [rounds_succ]
          go_wp2_with fail
          rw [rounds_succ]
          go_wp2_with fail
          rw [rounds_succ]
          go_wp2_with fail
          rw [rounds_succ]
          go_wp2_with fail
          rw [rounds_succ]
          go_upto_region 27 with fail
          have hzf := heap_setCell_same _ w.heap.size 4 _ _ (.int .u8 ((a3 : Int) % 256)) (heap_setCell_same _ w.heap.size 3 _ _ (.int .u8 ((a3 : Int) / 256 % 256)) (heap_setCell_same _ w.heap.size 2 _ _ (.int .u8 ((a3 : Int) / 65536 % 256)) (heap_setCell_same _ w.heap.size 1 _ _ (.int .u8 ((a3 : Int) / 16777216)) hz7)))
          have hbf := (((hbb4.setCell (p := ⟨w.heap.size, 1, none⟩) (Nat.le_refl _) (.int .u8 ((a3 : Int) / 16777216))).setCell (p := ⟨w.heap.size, 2, none⟩) (Nat.le_refl _) (.int .u8 ((a3 : Int) / 65536 % 256))).setCell (p := ⟨w.heap.size, 3, none⟩) (Nat.le_refl _) (.int .u8 ((a3 : Int) / 256 % 256))).setCell (p := ⟨w.heap.size, 4, none⟩) (Nat.le_refl _) (.int .u8 ((a3 : Int) % 256))
          have hzf : _ = some (Obj.cells #[.bool false, .int .u8 ((a3 : Int) / 16777216), .int .u8 ((a3 : Int) / 65536 % 256), .int .u8 ((a3 : Int) / 256 % 256), .int .u8 ((a3 : Int) % 256), .int .u8 0, .int .u8 0, .int .u8 0, .int .u8 0, .int .u8 0, .int .u8 0, .int .u8 0, .int .u8 0, .int .u8 0, .int .u8 0, .int .u8 0, .int .u8 0] 67 (0, 0)) := hzf
          go_step
          refine wpList_load_row (o := ⟨some _, .load 67 (.tmp 2), _, _, _, _⟩) rfl 67 (.tmp 2) rfl w.heap.size rfl 67 #[.bool false, .int .u8 ((a3 : Int) / 16777216), .int .u8 ((a3 : Int) / 65536 % 256), .int .u8 ((a3 : Int) / 256 % 256), .int .u8 ((a3 : Int) % 256), .int .u8 0, .int .u8 0, .int .u8 0, .int .u8 0, .int .u8 0, .int .u8 0, .int .u8 0, .int .u8 0, .int .u8 0, .int .u8 0, .int .u8 0, .int .u8 0] (0, 0) _ hzf Tryz.underlying67 rfl (by kernel_rfl) ?_
          refine wpList_store_same (o := ⟨none, .store 67 (.tmp 2) (.tmp _), _, _, _, _⟩) rfl 67 (.tmp 2) _ rfl w.heap.size #[.bool false, .int .u8 ((a3 : Int) / 16777216), .int .u8 ((a3 : Int) / 65536 % 256), .int .u8 ((a3 : Int) / 256 % 256), .int .u8 ((a3 : Int) % 256), .int .u8 0, .int .u8 0, .int .u8 0, .int .u8 0, .int .u8 0, .int .u8 0, .int .u8 0, .int .u8 0, .int .u8 0, .int .u8 0, .int .u8 0, .int .u8 0] rfl rfl 67 hzf (by kernel_rfl) (by simp [Value.oneCell']) ?_
          go_wp2_with fail
          refine bodyPost_ret (results_row3 (fn := Tryz.f76) (p := 2) (q := 3) (r := 4) (ty := 67) rfl _ _ w.heap.size 67 #[.bool false, .int .u8 ((a3 : Int) / 16777216), .int .u8 ((a3 : Int) / 65536 % 256), .int .u8 ((a3 : Int) / 256 % 256), .int .u8 ((a3 : Int) % 256), .int .u8 0, .int .u8 0, .int .u8 0, .int .u8 0, .int .u8 0, .int .u8 0, .int .u8 0, .int .u8 0, .int .u8 0, .int .u8 0, .int .u8 0, .int .u8 0] (0, 0) _ rfl hzf Tryz.underlying67 rfl (by kernel_rfl)) rfl ⟨?_, hbf⟩
          have hr2 : r = (true, 0, a3) := by
           rw [hr]
           simp [evalF, hn0, q0, hn1, q1, hn2, q2, hn3, q3, hAH1.out, hAH2.out, hAH3.out]
          rw [hr2]
          simp [fourV, addrV]
          omega
         ·have hr2 : r = (true, 5, 0) := by rw [hr]; simp [evalF, hn0, q0, hn1, q1, hn2, q2, hn3, q3]
          subst hr2
          clear hr hn0 hn1 hn2 hn3
          go_wp2_with fail
          go_at_call 111
          refine cn.mono ?_
          rintro e w7 ⟨rfl, hb7⟩
          have hz7 : w7.heap[w.heap.size]? = some (.cells zeroA 67 (0, 0)) := (hb7.block _ (by omega)).trans hz6
          go_upto_region 19 with fail
          go_step
          refine wpList_load_row (o := ⟨some _, .load 67 (.tmp 2), _, _, _, _⟩) rfl 67 (.tmp 2) rfl w.heap.size rfl 67 zeroA (0, 0) _ hz7 Tryz.underlying67 rfl (by kernel_rfl) ?_
          refine wpList_store_same (o := ⟨none, .store 67 (.tmp 2) (.tmp _), _, _, _, _⟩) rfl 67 (.tmp 2) _ rfl w.heap.size zeroA rfl rfl 67 hz7 (by kernel_rfl) (by decide +kernel) ?_
          go_wp2_with fail
          exact bodyPost_ret (results_row3 (fn := Tryz.f76) (p := 2) (q := 3) (r := 4) (ty := 67) rfl _ _ w.heap.size 67 zeroA (0, 0) _ rfl hz7 Tryz.underlying67 rfl (by kernel_rfl)) rfl ⟨rfl, hbb3.trans (hb7.mono (by omega))⟩
       ·have hr2 : r = (true, 5, 0) := by rw [hr]; simp [evalF, hn0, q0, hn1, q1, hn2, q2]
        subst hr2
        clear hr hn0 hn1 hn2
        go_wp2_with fail
        go_at_call 111
        refine cn.mono ?_
        rintro e w6 ⟨rfl, hb6⟩
        have hz6 : w6.heap[w.heap.size]? = some (.cells zeroA 67 (0, 0)) := (hb6.block _ (by omega)).trans hz5
        go_upto_region 19 with fail
        go_step
        refine wpList_load_row (o := ⟨some _, .load 67 (.tmp 2), _, _, _, _⟩) rfl 67 (.tmp 2) rfl w.heap.size rfl 67 zeroA (0, 0) _ hz6 Tryz.underlying67 rfl (by kernel_rfl) ?_
        refine wpList_store_same (o := ⟨none, .store 67 (.tmp 2) (.tmp _), _, _, _, _⟩) rfl 67 (.tmp 2) _ rfl w.heap.size zeroA rfl rfl 67 hz6 (by kernel_rfl) (by decide +kernel) ?_
        go_wp2_with fail
        exact bodyPost_ret (results_row3 (fn := Tryz.f76) (p := 2) (q := 3) (r := 4) (ty := 67) rfl _ _ w.heap.size 67 zeroA (0, 0) _ rfl hz6 Tryz.underlying67 rfl (by kernel_rfl)) rfl ⟨rfl, hbb2.trans (hb6.mono (by omega))⟩
     ·have hr2 : r = (true, 5, 0) := by rw [hr]; simp [evalF, hn0, q0, hn1, q1]
      subst hr2
      clear hr hn0 hn1
      go_wp2_with fail
      go_at_call 111
      refine cn.mono ?_
      rintro e w5 ⟨rfl, hb5⟩
      have hz5 : w5.heap[w.heap.size]? = some (.cells zeroA 67 (0, 0)) := (hb5.block _ (by omega)).trans hz4
      go_upto_region 19 with fail
      go_step
      refine wpList_load_row (o := ⟨some _, .load 67 (.tmp 2), _, _, _, _⟩) rfl 67 (.tmp 2) rfl w.heap.size rfl 67 zeroA (0, 0) _ hz5 Tryz.underlying67 rfl (by kernel_rfl) ?_
      refine wpList_store_same (o := ⟨none, .store 67 (.tmp 2) (.tmp _), _, _, _, _⟩) rfl 67 (.tmp 2) _ rfl w.heap.size zeroA rfl rfl 67 hz5 (by kernel_rfl) (by decide +kernel) ?_
      go_wp2_with fail
      exact bodyPost_ret (results_row3 (fn := Tryz.f76) (p := 2) (q := 3) (r := 4) (ty := 67) rfl _ _ w.heap.size 67 zeroA (0, 0) _ rfl hz5 Tryz.underlying67 rfl (by kernel_rfl)) rfl ⟨rfl, hbb1.trans (hb5.mono (by omega))⟩
   ·have hr2 : r = (true, 5, 0) := by rw [hr]; simp [evalF, hn0, q0]
    subst hr2
    clear hr hn0
    go_wp2_with fail
    go_at_call 111
    refine cn.mono ?_
    rintro e w4 ⟨rfl, hb4⟩
    have hz4 : w4.heap[w.heap.size]? = some (.cells zeroA 67 (0, 0)) := (hb4.block _ (by omega)).trans hz3
    go_upto_region 19 with fail
    go_step
    refine wpList_load_row (o := ⟨some _, .load 67 (.tmp 2), _, _, _, _⟩) rfl 67 (.tmp 2) rfl w.heap.size rfl 67 zeroA (0, 0) _ hz4 Tryz.underlying67 rfl (by kernel_rfl) ?_
    refine wpList_store_same (o := ⟨none, .store 67 (.tmp 2) (.tmp _), _, _, _, _⟩) rfl 67 (.tmp 2) _ rfl w.heap.size zeroA rfl rfl 67 hz4 (by kernel_rfl) (by decide +kernel) ?_
    go_wp2_with fail
    exact bodyPost_ret (results_row3 (fn := Tryz.f76) (p := 2) (q := 3) (r := 4) (ty := 67) rfl _ _ w.heap.size 67 zeroA (0, 0) _ rfl hz4 Tryz.underlying67 rfl (by kernel_rfl)) rfl ⟨rfl, hbb.trans (hb4.mono (by omega))⟩
set_option maxRecDepth 100000 in
set_option maxHeartbeats 4000000 in
theorem four_C0 (s : List UInt8) (w W2 : World) (x0 : List UInt8) (hW : FourW w W2 [x0, []]) (hx : ∀ p ∈ [x0, []], p.length ≤ 4000000000)
  (cs : Calls Tryz.prog 72 #[.string ⟨s.toArray⟩, .string ⟨#[46]⟩] (w.alloc (.cells zeroA 67)) fun e w' => e = .returned (.slice (some ⟨w.heap.size + 1, 0, none⟩) 2 2) ∧ w' = W2) (r : Bool × Nat × Nat)
  (hr : r = if likeL x0 = false then (false, 0, 0) else match evalF [x0] 4294967296 0 with | none => (true, 5, 0) | some n => (true, 0, n)) :
  Calls Tryz.prog 76 #[.string ⟨s.toArray⟩] w fun e w' => e = .returned (fourV r) ∧ Below w.heap.size w w' := by
 obtain ⟨hE2, hb2, hrow, hsz, hcell⟩ := hW
 have cl := like_any x0 W2 hE2 (by have := hx x0 (by simp); omega)
 have c0 := hcell 0 (by simp)
 have c1 := hcell 1 (by simp)
 simp only [List.getElem_cons_zero, List.getElem_cons_succ] at c0 c1
 have Hx := Lib.hid hx
 clear hx hcell
 cases hk : likeL x0 with
 | false =>
  rw [hk] at hr cl
  rw [if_pos rfl] at hr
  subst hr
  clear hk
  go_enter Tryz.func76, Tryz.ntmps76
  go_wp2_with (go_at_call 72; refine cs.mono ?_; rintro e w1 ⟨rfl, rfl⟩)
  go_at_call 110
  refine cl.mono ?_
  rintro e w3 ⟨rfl, hb3⟩
  have hz3 : w3.heap[w.heap.size]? = some (.cells zeroA 67 (0, 0)) := (hb3.block _ (by omega)).trans hrow
  go_upto_region 7 with fail
  go_step
  refine wpList_load_row (o := ⟨some _, .load 67 (.tmp 2), _, _, _, _⟩) rfl 67 (.tmp 2) rfl w.heap.size rfl 67 zeroA (0, 0) _ hz3 Tryz.underlying67 rfl (by kernel_rfl) ?_
  refine wpList_store_same (o := ⟨none, .store 67 (.tmp 2) (.tmp _), _, _, _, _⟩) rfl 67 (.tmp 2) _ rfl w.heap.size zeroA rfl rfl 67 hz3 (by kernel_rfl) (by decide +kernel) ?_
  go_wp2_with fail
  exact bodyPost_ret (results_row3 (fn := Tryz.f76) (p := 2) (q := 3) (r := 4) (ty := 67) rfl _ _ w.heap.size 67 zeroA (0, 0) _ rfl hz3 Tryz.underlying67 rfl (by kernel_rfl)) rfl ⟨rfl, hb2.trans (hb3.mono (by omega))⟩
 | true =>
  rw [hk] at hr cl
  rw [if_neg (by simp)] at hr
  clear hk
  go_enter Tryz.func76, Tryz.ntmps76
  go_wp2_with (go_at_call 72; refine cs.mono ?_; rintro e w1 ⟨rfl, rfl⟩)
  go_at_call 110
  refine cl.mono ?_
  rintro e w3 ⟨rfl, hb3⟩
  have hz3 : w3.heap[w.heap.size]? = some (.cells zeroA 67 (0, 0)) := (hb3.block _ (by omega)).trans hrow
  have hE3 := hE2.below hb3
  have hs3 := hb3.size
  have hbb := hb2.trans (hb3.mono (by omega))
  have d0 := ((bcell hb3).1 _ 0 (by omega)).trans c0
  have d1 := ((bcell hb3).1 _ 1 (by omega)).trans c1
  clear c0 c1 cl cs hrow hb2 hE2
  go_wp2_with fail
  refine wp_loop_rounds 2 ?_
  rw [rounds_succ]
  cases hn0 : numL x0 with
  | none =>
   have hr2 : r = (true, 5, 0) := by rw [hr]; simp [evalF, hn0]
   subst hr2
   have cn := anum_any x0 w3 hE3 (by have := Hx.out x0 (by simp); omega)
   rw [hn0] at cn
   simp only [cntV] at cn
   clear hr hn0
   go_wp2_with fail
   go_at_call 111
   refine cn.mono ?_
   rintro e w4 ⟨rfl, hb4⟩
   have hz4 : w4.heap[w.heap.size]? = some (.cells zeroA 67 (0, 0)) := (hb4.block _ (by omega)).trans hz3
   go_upto_region 19 with fail
   go_step
   refine wpList_load_row (o := ⟨some _, .load 67 (.tmp 2), _, _, _, _⟩) rfl 67 (.tmp 2) rfl w.heap.size rfl 67 zeroA (0, 0) _ hz4 Tryz.underlying67 rfl (by kernel_rfl) ?_
   refine wpList_store_same (o := ⟨none, .store 67 (.tmp 2) (.tmp _), _, _, _, _⟩) rfl 67 (.tmp 2) _ rfl w.heap.size zeroA rfl rfl 67 hz4 (by kernel_rfl) (by decide +kernel) ?_
   go_wp2_with fail
   exact bodyPost_ret (results_row3 (fn := Tryz.f76) (p := 2) (q := 3) (r := 4) (ty := 67) rfl _ _ w.heap.size 67 zeroA (0, 0) _ rfl hz4 Tryz.underlying67 rfl (by kernel_rfl)) rfl ⟨rfl, hbb.trans (hb4.mono (by omega))⟩
  | some n0 =>
   have cn := anum_any x0 w3 hE3 (by have := Hx.out x0 (by simp); omega)
   rw [hn0] at cn
   simp only [cntV] at cn
   by_cases q0 : n0 < 4294967296
   ·have ho0 : bits BinOp.or IntKind.i64 0 (n0 : Int) = (n0 : Int) := or_zero (by omega)
    go_wp2_with fail
    go_at_call 111
    refine cn.mono ?_
    rintro e w4 ⟨rfl, hb4⟩
    have hz4 : w4.heap[w.heap.size]? = some (.cells zeroA 67 (0, 0)) := (hb4.block _ (by omega)).trans hz3
    have hE4 := hE3.below hb4
    have hs4 := hb4.size
    have hbb1 := hbb.trans (hb4.mono (by omega))
    have d1_0 := ((bcell hb4).1 _ 0 (by omega)).trans d0
    have d1_1 := ((bcell hb4).1 _ 1 (by omega)).trans d1
    clear d0 d1
    go_wp2_with fail
    rw [rounds_succ]
    go_wp2_with fail
    have e1 : w4.cell? ⟨w.heap.size, 1, none⟩ = some (.int .u8 0) := by rw [cell_of_row _ _ _ _ _ _ hz4]; rfl
    have e2 : w4.cell? ⟨w.heap.size, 2, none⟩ = some (.int .u8 0) := by rw [cell_of_row _ _ _ _ _ _ hz4]; rfl
    have e3 : w4.cell? ⟨w.heap.size, 3, none⟩ = some (.int .u8 0) := by rw [cell_of_row _ _ _ _ _ _ hz4]; rfl
    have e4 : w4.cell? ⟨w.heap.size, 4, none⟩ = some (.int .u8 0) := by rw [cell_of_row _ _ _ _ _ _ hz4]; rfl
    have f1 : w4.frozen? ⟨w.heap.size, 1, none⟩ = false := frozen_of_row _ _ _ _ _ hz4
    have f2 : w4.frozen? ⟨w.heap.size, 2, none⟩ = false := frozen_of_row _ _ _ _ _ hz4
    have f3 : w4.frozen? ⟨w.heap.size, 3, none⟩ = false := frozen_of_row _ _ _ _ _ hz4
    have f4 : w4.frozen? ⟨w.heap.size, 4, none⟩ = false := frozen_of_row _ _ _ _ _ hz4
    refine wp_loop_rounds 5 ?_
    rw [rounds_succ]
    go_wp2_with fail
    rw [rounds_succ]
    go_wp2_with fail
    rw [rounds_succ]
    go_wp2_with fail
    rw [rounds_succ]
    go_wp2_with fail
    rw [rounds_succ]
    go_upto_region 27 with fail
    have hzf := heap_setCell_same _ w.heap.size 4 _ _ (.int .u8 ((n0 : Int) % 256)) (heap_setCell_same _ w.heap.size 3 _ _ (.int .u8 ((n0 : Int) / 256 % 256)) (heap_setCell_same _ w.heap.size 2 _ _ (.int .u8 ((n0 : Int) / 65536 % 256)) (heap_setCell_same _ w.heap.size 1 _ _ (.int .u8 ((n0 : Int) / 16777216)) hz4)))
    have hbf := (((hbb1.setCell (p := ⟨w.heap.size, 1, none⟩) (Nat.le_refl _) (.int .u8 ((n0 : Int) / 16777216))).setCell (p := ⟨w.heap.size, 2, none⟩) (Nat.le_refl _) (.int .u8 ((n0 : Int) / 65536 % 256))).setCell (p := ⟨w.heap.size, 3, none⟩) (Nat.le_refl _) (.int .u8 ((n0 : Int) / 256 % 256))).setCell (p := ⟨w.heap.size, 4, none⟩) (Nat.le_refl _) (.int .u8 ((n0 : Int) % 256))
    have hzf : _ = some (Obj.cells #[.bool false, .int .u8 ((n0 : Int) / 16777216), .int .u8 ((n0 : Int) / 65536 % 256), .int .u8 ((n0 : Int) / 256 % 256), .int .u8 ((n0 : Int) % 256), .int .u8 0, .int .u8 0, .int .u8 0, .int .u8 0, .int .u8 0, .int .u8 0, .int .u8 0, .int .u8 0, .int .u8 0, .int .u8 0, .int .u8 0, .int .u8 0] 67 (0, 0)) := hzf
    go_step
    refine wpList_load_row (o := ⟨some _, .load 67 (.tmp 2), _, _, _, _⟩) rfl 67 (.tmp 2) rfl w.heap.size rfl 67 #[.bool false, .int .u8 ((n0 : Int) / 16777216), .int .u8 ((n0 : Int) / 65536 % 256), .int .u8 ((n0 : Int) / 256 % 256), .int .u8 ((n0 : Int) % 256), .int .u8 0, .int .u8 0, .int .u8 0, .int .u8 0, .int .u8 0, .int .u8 0, .int .u8 0, .int .u8 0, .int .u8 0, .int .u8 0, .int .u8 0, .int .u8 0] (0, 0) _ hzf Tryz.underlying67 rfl (by kernel_rfl) ?_
    refine wpList_store_same (o := ⟨none, .store 67 (.tmp 2) (.tmp _), _, _, _, _⟩) rfl 67 (.tmp 2) _ rfl w.heap.size #[.bool false, .int .u8 ((n0 : Int) / 16777216), .int .u8 ((n0 : Int) / 65536 % 256), .int .u8 ((n0 : Int) / 256 % 256), .int .u8 ((n0 : Int) % 256), .int .u8 0, .int .u8 0, .int .u8 0, .int .u8 0, .int .u8 0, .int .u8 0, .int .u8 0, .int .u8 0, .int .u8 0, .int .u8 0, .int .u8 0, .int .u8 0] rfl rfl 67 hzf (by kernel_rfl) (by simp [Value.oneCell']) ?_
    go_wp2_with fail
    refine bodyPost_ret (results_row3 (fn := Tryz.f76) (p := 2) (q := 3) (r := 4) (ty := 67) rfl _ _ w.heap.size 67 #[.bool false, .int .u8 ((n0 : Int) / 16777216), .int .u8 ((n0 : Int) / 65536 % 256), .int .u8 ((n0 : Int) / 256 % 256), .int .u8 ((n0 : Int) % 256), .int .u8 0, .int .u8 0, .int .u8 0, .int .u8 0, .int .u8 0, .int .u8 0, .int .u8 0, .int .u8 0, .int .u8 0, .int .u8 0, .int .u8 0, .int .u8 0] (0, 0) _ rfl hzf Tryz.underlying67 rfl (by kernel_rfl)) rfl ⟨?_, hbf⟩
    have hr2 : r = (true, 0, n0) := by
     rw [hr]
     simp [evalF, hn0, q0]
    rw [hr2]
    simp [fourV, addrV]
    omega
   ·have hr2 : r = (true, 5, 0) := by rw [hr]; simp [evalF, hn0, q0]
    subst hr2
    clear hr hn0
    go_wp2_with fail
    go_at_call 111
    refine cn.mono ?_
    rintro e w4 ⟨rfl, hb4⟩
    have hz4 : w4.heap[w.heap.size]? = some (.cells zeroA 67 (0, 0)) := (hb4.block _ (by omega)).trans hz3
    go_upto_region 19 with fail
    go_step
    refine wpList_load_row (o := ⟨some _, .load 67 (.tmp 2), _, _, _, _⟩) rfl 67 (.tmp 2) rfl w.heap.size rfl 67 zeroA (0, 0) _ hz4 Tryz.underlying67 rfl (by kernel_rfl) ?_
    refine wpList_store_same (o := ⟨none, .store 67 (.tmp 2) (.tmp _), _, _, _, _⟩) rfl 67 (.tmp 2) _ rfl w.heap.size zeroA rfl rfl 67 hz4 (by kernel_rfl) (by decide +kernel) ?_
    go_wp2_with fail
    exact bodyPost_ret (results_row3 (fn := Tryz.f76) (p := 2) (q := 3) (r := 4) (ty := 67) rfl _ _ w.heap.size 67 zeroA (0, 0) _ rfl hz4 Tryz.underlying67 rfl (by kernel_rfl)) rfl ⟨rfl, hbb.trans (hb4.mono (by omega))⟩
set_option maxRecDepth 100000 in
set_option maxHeartbeats 4000000 in
theorem four_C1 (s : List UInt8) (w W2 : World) (x0 x1 : List UInt8) (hW : FourW w W2 [x0, x1, []]) (hx : ∀ p ∈ [x0, x1, []], p.length ≤ 4000000000)
  (cs : Calls Tryz.prog 72 #[.string ⟨s.toArray⟩, .string ⟨#[46]⟩] (w.alloc (.cells zeroA 67)) fun e w' => e = .returned (.slice (some ⟨w.heap.size + 1, 0, none⟩) 3 3) ∧ w' = W2) (r : Bool × Nat × Nat)
  (hr : r = if likeL x1 = false then (false, 0, 0) else match evalF [x0, x1] 4294967296 0 with | none => (true, 5, 0) | some n => (true, 0, n)) :
  Calls Tryz.prog 76 #[.string ⟨s.toArray⟩] w fun e w' => e = .returned (fourV r) ∧ Below w.heap.size w w' := by
 obtain ⟨hE2, hb2, hrow, hsz, hcell⟩ := hW
 have cl := like_any x1 W2 hE2 (by have := hx x1 (by simp); omega)
 have c0 := hcell 0 (by simp)
 have c1 := hcell 1 (by simp)
 have c2 := hcell 2 (by simp)
 simp only [List.getElem_cons_zero, List.getElem_cons_succ] at c0 c1 c2
 have Hx := Lib.hid hx
 clear hx hcell
 cases hk : likeL x1 with
 | false =>
  rw [hk] at hr cl
  rw [if_pos rfl] at hr
  subst hr
  clear hk
  go_enter Tryz.func76, Tryz.ntmps76
  go_wp2_with (go_at_call 72; refine cs.mono ?_; rintro e w1 ⟨rfl, rfl⟩)
  go_at_call 110
  refine cl.mono ?_
  rintro e w3 ⟨rfl, hb3⟩
  have hz3 : w3.heap[w.heap.size]? = some (.cells zeroA 67 (0, 0)) := (hb3.block _ (by omega)).trans hrow
  go_upto_region 7 with fail
  go_step
  refine wpList_load_row (o := ⟨some _, .load 67 (.tmp 2), _, _, _, _⟩) rfl 67 (.tmp 2) rfl w.heap.size rfl 67 zeroA (0, 0) _ hz3 Tryz.underlying67 rfl (by kernel_rfl) ?_
  refine wpList_store_same (o := ⟨none, .store 67 (.tmp 2) (.tmp _), _, _, _, _⟩) rfl 67 (.tmp 2) _ rfl w.heap.size zeroA rfl rfl 67 hz3 (by kernel_rfl) (by decide +kernel) ?_
  go_wp2_with fail
  exact bodyPost_ret (results_row3 (fn := Tryz.f76) (p := 2) (q := 3) (r := 4) (ty := 67) rfl _ _ w.heap.size 67 zeroA (0, 0) _ rfl hz3 Tryz.underlying67 rfl (by kernel_rfl)) rfl ⟨rfl, hb2.trans (hb3.mono (by omega))⟩
 | true =>
  rw [hk] at hr cl
  rw [if_neg (by simp)] at hr
  clear hk
  go_enter Tryz.func76, Tryz.ntmps76
  go_wp2_with (go_at_call 72; refine cs.mono ?_; rintro e w1 ⟨rfl, rfl⟩)
  go_at_call 110
  refine cl.mono ?_
  rintro e w3 ⟨rfl, hb3⟩
  have hz3 : w3.heap[w.heap.size]? = some (.cells zeroA 67 (0, 0)) := (hb3.block _ (by omega)).trans hrow
  have hE3 := hE2.below hb3
  have hs3 := hb3.size
  have hbb := hb2.trans (hb3.mono (by omega))
  have d0 := ((bcell hb3).1 _ 0 (by omega)).trans c0
  have d1 := ((bcell hb3).1 _ 1 (by omega)).trans c1
  have d2 := ((bcell hb3).1 _ 2 (by omega)).trans c2
  clear c0 c1 c2 cl cs hrow hb2 hE2
  go_wp2_with fail
  refine wp_loop_rounds 3 ?_
  rw [rounds_succ]
  cases hn0 : numL x0 with
  | none =>
   have hr2 : r = (true, 5, 0) := by rw [hr]; simp [evalF, hn0]
   subst hr2
   have cn := anum_any x0 w3 hE3 (by have := Hx.out x0 (by simp); omega)
   rw [hn0] at cn
   simp only [cntV] at cn
   clear hr hn0
   go_wp2_with fail
   go_at_call 111
   refine cn.mono ?_
   rintro e w4 ⟨rfl, hb4⟩
   have hz4 : w4.heap[w.heap.size]? = some (.cells zeroA 67 (0, 0)) := (hb4.block _ (by omega)).trans hz3
   go_upto_region 19 with fail
   go_step
   refine wpList_load_row (o := ⟨some _, .load 67 (.tmp 2), _, _, _, _⟩) rfl 67 (.tmp 2) rfl w.heap.size rfl 67 zeroA (0, 0) _ hz4 Tryz.underlying67 rfl (by kernel_rfl) ?_
   refine wpList_store_same (o := ⟨none, .store 67 (.tmp 2) (.tmp _), _, _, _, _⟩) rfl 67 (.tmp 2) _ rfl w.heap.size zeroA rfl rfl 67 hz4 (by kernel_rfl) (by decide +kernel) ?_
   go_wp2_with fail
   exact bodyPost_ret (results_row3 (fn := Tryz.f76) (p := 2) (q := 3) (r := 4) (ty := 67) rfl _ _ w.heap.size 67 zeroA (0, 0) _ rfl hz4 Tryz.underlying67 rfl (by kernel_rfl)) rfl ⟨rfl, hbb.trans (hb4.mono (by omega))⟩
  | some n0 =>
   have cn := anum_any x0 w3 hE3 (by have := Hx.out x0 (by simp); omega)
   rw [hn0] at cn
   simp only [cntV] at cn
   by_cases q0 : n0 < 256
   ·have ho0 : bits BinOp.or IntKind.i64 0 (n0 : Int) = (n0 : Int) := or_zero (by omega)
    go_wp2_with fail
    go_at_call 111
    refine cn.mono ?_
    rintro e w4 ⟨rfl, hb4⟩
    have hz4 : w4.heap[w.heap.size]? = some (.cells zeroA 67 (0, 0)) := (hb4.block _ (by omega)).trans hz3
    have hE4 := hE3.below hb4
    have hs4 := hb4.size
    have hbb1 := hbb.trans (hb4.mono (by omega))
    have d1_0 := ((bcell hb4).1 _ 0 (by omega)).trans d0
    have d1_1 := ((bcell hb4).1 _ 1 (by omega)).trans d1
    have d1_2 := ((bcell hb4).1 _ 2 (by omega)).trans d2
    clear d0 d1 d2
    go_wp2_with fail
    rw [rounds_succ]
    cases hn1 : numL x1 with
    | none =>
     have hr2 : r = (true, 5, 0) := by rw [hr]; simp [evalF, hn0, hn1, *]
     subst hr2
     have cn := anum_any x1 w4 hE4 (by have := Hx.out x1 (by simp); omega)
     rw [hn1] at cn
     simp only [cntV] at cn
     clear hr hn0 hn1
     go_wp2_with fail
     go_at_call 111
     refine cn.mono ?_
     rintro e w5 ⟨rfl, hb5⟩
     have hz5 : w5.heap[w.heap.size]? = some (.cells zeroA 67 (0, 0)) := (hb5.block _ (by omega)).trans hz4
     go_upto_region 19 with fail
     go_step
     refine wpList_load_row (o := ⟨some _, .load 67 (.tmp 2), _, _, _, _⟩) rfl 67 (.tmp 2) rfl w.heap.size rfl 67 zeroA (0, 0) _ hz5 Tryz.underlying67 rfl (by kernel_rfl) ?_
     refine wpList_store_same (o := ⟨none, .store 67 (.tmp 2) (.tmp _), _, _, _, _⟩) rfl 67 (.tmp 2) _ rfl w.heap.size zeroA rfl rfl 67 hz5 (by kernel_rfl) (by decide +kernel) ?_
     go_wp2_with fail
     exact bodyPost_ret (results_row3 (fn := Tryz.f76) (p := 2) (q := 3) (r := 4) (ty := 67) rfl _ _ w.heap.size 67 zeroA (0, 0) _ rfl hz5 Tryz.underlying67 rfl (by kernel_rfl)) rfl ⟨rfl, hbb1.trans (hb5.mono (by omega))⟩
    | some n1 =>
     have cn := anum_any x1 w4 hE4 (by have := Hx.out x1 (by simp); omega)
     rw [hn1] at cn
     simp only [cntV] at cn
     by_cases q1 : n1 < 16777216
     ·obtain ⟨a1, ha1⟩ : ∃ a1 : Nat, a1 = n0 * 16777216 + n1 := ⟨_, rfl⟩
      have hA1 : a1 < 4294967296 := by omega
      have ho1 : bits BinOp.or IntKind.i64 ((n0 : Int) * 16777216) (n1 : Int) = (a1 : Int) := by
       have := @or_add n0 n1 24 q1 (by omega)
       rw [show 2 ^ 24 * n0 = n0 * 16777216 from Nat.mul_comm _ _, ← ha1] at this
       rw [← this, Int.natCast_mul]; rfl
      have hAH1 := Lib.hid ha1
      clear ha1
      go_wp2_with fail
      go_at_call 111
      refine cn.mono ?_
      rintro e w5 ⟨rfl, hb5⟩
      have hz5 : w5.heap[w.heap.size]? = some (.cells zeroA 67 (0, 0)) := (hb5.block _ (by omega)).trans hz4
      have hE5 := hE4.below hb5
      have hs5 := hb5.size
      have hbb2 := hbb1.trans (hb5.mono (by omega))
      have d2_0 := ((bcell hb5).1 _ 0 (by omega)).trans d1_0
      have d2_1 := ((bcell hb5).1 _ 1 (by omega)).trans d1_1
      have d2_2 := ((bcell hb5).1 _ 2 (by omega)).trans d1_2
      clear d1_0 d1_1 d1_2
      go_wp2_with fail
      rw [rounds_succ]
      go_wp2_with fail
      have e1 : w5.cell? ⟨w.heap.size, 1, none⟩ = some (.int .u8 0) := by rw [cell_of_row _ _ _ _ _ _ hz5]; rfl
      have e2 : w5.cell? ⟨w.heap.size, 2, none⟩ = some (.int .u8 0) := by rw [cell_of_row _ _ _ _ _ _ hz5]; rfl
      have e3 : w5.cell? ⟨w.heap.size, 3, none⟩ = some (.int .u8 0) := by rw [cell_of_row _ _ _ _ _ _ hz5]; rfl
      have e4 : w5.cell? ⟨w.heap.size, 4, none⟩ = some (.int .u8 0) := by rw [cell_of_row _ _ _ _ _ _ hz5]; rfl
      have f1 : w5.frozen? ⟨w.heap.size, 1, none⟩ = false := frozen_of_row _ _ _ _ _ hz5
      have f2 : w5.frozen? ⟨w.heap.size, 2, none⟩ = false := frozen_of_row _ _ _ _ _ hz5
      have f3 : w5.frozen? ⟨w.heap.size, 3, none⟩ = false := frozen_of_row _ _ _ _ _ hz5
      have f4 : w5.frozen? ⟨w.heap.size, 4, none⟩ = false := frozen_of_row _ _ _ _ _ hz5
      refine wp_loop_rounds 5 ?_
      rw [rounds_succ]
      go_wp2_with fail
      rw [rounds_succ]
      go_wp2_with fail
      rw [rounds_succ]
      go_wp2_with fail
      rw [rounds_succ]
      go_wp2_with fail
      rw [rounds_succ]
      go_upto_region 27 with fail
      have hzf := heap_setCell_same _ w.heap.size 4 _ _ (.int .u8 ((a1 : Int) % 256)) (heap_setCell_same _ w.heap.size 3 _ _ (.int .u8 ((a1 : Int) / 256 % 256)) (heap_setCell_same _ w.heap.size 2 _ _ (.int .u8 ((a1 : Int) / 65536 % 256)) (heap_setCell_same _ w.heap.size 1 _ _ (.int .u8 ((a1 : Int) / 16777216)) hz5)))
      have hbf := (((hbb2.setCell (p := ⟨w.heap.size, 1, none⟩) (Nat.le_refl _) (.int .u8 ((a1 : Int) / 16777216))).setCell (p := ⟨w.heap.size, 2, none⟩) (Nat.le_refl _) (.int .u8 ((a1 : Int) / 65536 % 256))).setCell (p := ⟨w.heap.size, 3, none⟩) (Nat.le_refl _) (.int .u8 ((a1 : Int) / 256 % 256))).setCell (p := ⟨w.heap.size, 4, none⟩) (Nat.le_refl _) (.int .u8 ((a1 : Int) % 256))
      have hzf : _ = some (Obj.cells #[.bool false, .int .u8 ((a1 : Int) / 16777216), .int .u8 ((a1 : Int) / 65536 % 256), .int .u8 ((a1 : Int) / 256 % 256), .int .u8 ((a1 : Int) % 256), .int .u8 0, .int .u8 0, .int .u8 0, .int .u8 0, .int .u8 0, .int .u8 0, .int .u8 0, .int .u8 0, .int .u8 0, .int .u8 0, .int .u8 0, .int .u8 0] 67 (0, 0)) := hzf
      go_step
      refine wpList_load_row (o := ⟨some _, .load 67 (.tmp 2), _, _, _, _⟩) rfl 67 (.tmp 2) rfl w.heap.size rfl 67 #[.bool false, .int .u8 ((a1 : Int) / 16777216), .int .u8 ((a1 : Int) / 65536 % 256), .int .u8 ((a1 : Int) / 256 % 256), .int .u8 ((a1 : Int) % 256), .int .u8 0, .int .u8 0, .int .u8 0, .int .u8 0, .int .u8 0, .int .u8 0, .int .u8 0, .int .u8 0, .int .u8 0, .int .u8 0, .int .u8 0, .int .u8 0] (0, 0) _ hzf Tryz.underlying67 rfl (by kernel_rfl) ?_
      refine wpList_store_same (o := ⟨none, .store 67 (.tmp 2) (.tmp _), _, _, _, _⟩) rfl 67 (.tmp 2) _ rfl w.heap.size #[.bool false, .int .u8 ((a1 : Int) / 16777216), .int .u8 ((a1 : Int) / 65536 % 256), .int .u8 ((a1 : Int) / 256 % 256), .int .u8 ((a1 : Int) % 256), .int .u8 0, .int .u8 0, .int .u8 0, .int .u8 0, .int .u8 0, .int .u8 0, .int .u8 0, .int .u8 0, .int .u8 0, .int .u8 0, .int .u8 0, .int .u8 0] rfl rfl 67 hzf (by kernel_rfl) (by simp [Value.oneCell']) ?_
      go_wp2_with fail
      refine bodyPost_ret (results_row3 (fn := Tryz.f76) (p := 2) (q := 3) (r := 4) (ty := 67) rfl _ _ w.heap.size 67 #[.bool false, .int .u8 ((a1 : Int) / 16777216), .int .u8 ((a1 : Int) / 65536 % 256), .int .u8 ((a1 : Int) / 256 % 256), .int .u8 ((a1 : Int) % 256), .int .u8 0, .int .u8 0, .int .u8 0, .int .u8 0, .int .u8 0, .int .u8 0, .int .u8 0, .int .u8 0, .int .u8 0, .int .u8 0, .int .u8 0, .int .u8 0] (0, 0) _ rfl hzf Tryz.underlying67 rfl (by kernel_rfl)) rfl ⟨?_, hbf⟩
      have hr2 : r = (true, 0, a1) := by
       rw [hr]
       simp [evalF, hn0, q0, hn1, q1, hAH1.out]
      rw [hr2]
      simp [fourV, addrV]
      omega
     ·have hr2 : r = (true, 5, 0) := by rw [hr]; simp [evalF, hn0, q0, hn1, q1]
      subst hr2
      clear hr hn0 hn1
      go_wp2_with fail
      go_at_call 111
      refine cn.mono ?_
      rintro e w5 ⟨rfl, hb5⟩
      have hz5 : w5.heap[w.heap.size]? = some (.cells zeroA 67 (0, 0)) := (hb5.block _ (by omega)).trans hz4
      go_upto_region 19 with fail
      go_step
      refine wpList_load_row (o := ⟨some _, .load 67 (.tmp 2), _, _, _, _⟩) rfl 67 (.tmp 2) rfl w.heap.size rfl 67 zeroA (0, 0) _ hz5 Tryz.underlying67 rfl (by kernel_rfl) ?_
      refine wpList_store_same (o := ⟨none, .store 67 (.tmp 2) (.tmp _), _, _, _, _⟩) rfl 67 (.tmp 2) _ rfl w.heap.size zeroA rfl rfl 67 hz5 (by kernel_rfl) (by decide +kernel) ?_
      go_wp2_with fail
      exact bodyPost_ret (results_row3 (fn := Tryz.f76) (p := 2) (q := 3) (r := 4) (ty := 67) rfl _ _ w.heap.size 67 zeroA (0, 0) _ rfl hz5 Tryz.underlying67 rfl (by kernel_rfl)) rfl ⟨rfl, hbb1.trans (hb5.mono (by omega))⟩
   ·have hr2 : r = (true, 5, 0) := by rw [hr]; simp [evalF, hn0, q0]
    subst hr2
    clear hr hn0
    go_wp2_with fail
    go_at_call 111
    refine cn.mono ?_
    rintro e w4 ⟨rfl, hb4⟩
    have hz4 : w4.heap[w.heap.size]? = some (.cells zeroA 67 (0, 0)) := (hb4.block _ (by omega)).trans hz3
    go_upto_region 19 with fail
    go_step
    refine wpList_load_row (o := ⟨some _, .load 67 (.tmp 2), _, _, _, _⟩) rfl 67 (.tmp 2) rfl w.heap.size rfl 67 zeroA (0, 0) _ hz4 Tryz.underlying67 rfl (by kernel_rfl) ?_
    refine wpList_store_same (o := ⟨none, .store 67 (.tmp 2) (.tmp _), _, _, _, _⟩) rfl 67 (.tmp 2) _ rfl w.heap.size zeroA rfl rfl 67 hz4 (by kernel_rfl) (by decide +kernel) ?_
    go_wp2_with fail
    exact bodyPost_ret (results_row3 (fn := Tryz.f76) (p := 2) (q := 3) (r := 4) (ty := 67) rfl _ _ w.heap.size 67 zeroA (0, 0) _ rfl hz4 Tryz.underlying67 rfl (by kernel_rfl)) rfl ⟨rfl, hbb.trans (hb4.mono (by omega))⟩
set_option maxRecDepth 100000 in
set_option maxHeartbeats 4000000 in
theorem four_C2 (s : List UInt8) (w W2 : World) (x0 x1 x2 : List UInt8) (hW : FourW w W2 [x0, x1, x2, []]) (hx : ∀ p ∈ [x0, x1, x2, []], p.length ≤ 4000000000)
  (cs : Calls Tryz.prog 72 #[.string ⟨s.toArray⟩, .string ⟨#[46]⟩] (w.alloc (.cells zeroA 67)) fun e w' => e = .returned (.slice (some ⟨w.heap.size + 1, 0, none⟩) 4 4) ∧ w' = W2) (r : Bool × Nat × Nat)
  (hr : r = if likeL x2 = false then (false, 0, 0) else match evalF [x0, x1, x2] 4294967296 0 with | none => (true, 5, 0) | some n => (true, 0, n)) :
  Calls Tryz.prog 76 #[.string ⟨s.toArray⟩] w fun e w' => e = .returned (fourV r) ∧ Below w.heap.size w w' := by
 obtain ⟨hE2, hb2, hrow, hsz, hcell⟩ := hW
 have cl := like_any x2 W2 hE2 (by have := hx x2 (by simp); omega)
 have c0 := hcell 0 (by simp)
 have c1 := hcell 1 (by simp)
 have c2 := hcell 2 (by simp)
 have c3 := hcell 3 (by simp)
 simp only [List.getElem_cons_zero, List.getElem_cons_succ] at c0 c1 c2 c3
 have Hx := Lib.hid hx
 clear hx hcell
 cases hk : likeL x2 with
 | false =>
  rw [hk] at hr cl
  rw [if_pos rfl] at hr
  subst hr
  clear hk
  go_enter Tryz.func76, Tryz.ntmps76
  go_wp2_with (go_at_call 72; refine cs.mono ?_; rintro e w1 ⟨rfl, rfl⟩)
  go_at_call 110
  refine cl.mono ?_
  rintro e w3 ⟨rfl, hb3⟩
  have hz3 : w3.heap[w.heap.size]? = some (.cells zeroA 67 (0, 0)) := (hb3.block _ (by omega)).trans hrow
  go_upto_region 7 with fail
  go_step
  refine wpList_load_row (o := ⟨some _, .load 67 (.tmp 2), _, _, _, _⟩) rfl 67 (.tmp 2) rfl w.heap.size rfl 67 zeroA (0, 0) _ hz3 Tryz.underlying67 rfl (by kernel_rfl) ?_
  refine wpList_store_same (o := ⟨none, .store 67 (.tmp 2) (.tmp _), _, _, _, _⟩) rfl 67 (.tmp 2) _ rfl w.heap.size zeroA rfl rfl 67 hz3 (by kernel_rfl) (by decide +kernel) ?_
  go_wp2_with fail
  exact bodyPost_ret (results_row3 (fn := Tryz.f76) (p := 2) (q := 3) (r := 4) (ty := 67) rfl _ _ w.heap.size 67 zeroA (0, 0) _ rfl hz3 Tryz.underlying67 rfl (by kernel_rfl)) rfl ⟨rfl, hb2.trans (hb3.mono (by omega))⟩
 | true =>
  rw [hk] at hr cl
  rw [if_neg (by simp)] at hr
  clear hk
  go_enter Tryz.func76, Tryz.ntmps76
  go_wp2_with (go_at_call 72; refine cs.mono ?_; rintro e w1 ⟨rfl, rfl⟩)
  go_at_call 110
  refine cl.mono ?_
  rintro e w3 ⟨rfl, hb3⟩
  have hz3 : w3.heap[w.heap.size]? = some (.cells zeroA 67 (0, 0)) := (hb3.block _ (by omega)).trans hrow
  have hE3 := hE2.below hb3
  have hs3 := hb3.size
  have hbb := hb2.trans (hb3.mono (by omega))
  have d0 := ((bcell hb3).1 _ 0 (by omega)).trans c0
  have d1 := ((bcell hb3).1 _ 1 (by omega)).trans c1
  have d2 := ((bcell hb3).1 _ 2 (by omega)).trans c2
  have d3 := ((bcell hb3).1 _ 3 (by omega)).trans c3
  clear c0 c1 c2 c3 cl cs hrow hb2 hE2
  go_wp2_with fail
  refine wp_loop_rounds 4 ?_
  rw [rounds_succ]
  cases hn0 : numL x0 with
  | none =>
   have hr2 : r = (true, 5, 0) := by rw [hr]; simp [evalF, hn0]
   subst hr2
   have cn := anum_any x0 w3 hE3 (by have := Hx.out x0 (by simp); omega)
   rw [hn0] at cn
   simp only [cntV] at cn
   clear hr hn0
   go_wp2_with fail
   go_at_call 111
   refine cn.mono ?_
   rintro e w4 ⟨rfl, hb4⟩
   have hz4 : w4.heap[w.heap.size]? = some (.cells zeroA 67 (0, 0)) := (hb4.block _ (by omega)).trans hz3
   go_upto_region 19 with fail
   go_step
   refine wpList_load_row (o := ⟨some _, .load 67 (.tmp 2), _, _, _, _⟩) rfl 67 (.tmp 2) rfl w.heap.size rfl 67 zeroA (0, 0) _ hz4 Tryz.underlying67 rfl (by kernel_rfl) ?_
   refine wpList_store_same (o := ⟨none, .store 67 (.tmp 2) (.tmp _), _, _, _, _⟩) rfl 67 (.tmp 2) _ rfl w.heap.size zeroA rfl rfl 67 hz4 (by kernel_rfl) (by decide +kernel) ?_
   go_wp2_with fail
   exact bodyPost_ret (results_row3 (fn := Tryz.f76) (p := 2) (q := 3) (r := 4) (ty := 67) rfl _ _ w.heap.size 67 zeroA (0, 0) _ rfl hz4 Tryz.underlying67 rfl (by kernel_rfl)) rfl ⟨rfl, hbb.trans (hb4.mono (by omega))⟩
  | some n0 =>
   have cn := anum_any x0 w3 hE3 (by have := Hx.out x0 (by simp); omega)
   rw [hn0] at cn
   simp only [cntV] at cn
   by_cases q0 : n0 < 256
   ·have ho0 : bits BinOp.or IntKind.i64 0 (n0 : Int) = (n0 : Int) := or_zero (by omega)
    go_wp2_with fail
    go_at_call 111
    refine cn.mono ?_
    rintro e w4 ⟨rfl, hb4⟩
    have hz4 : w4.heap[w.heap.size]? = some (.cells zeroA 67 (0, 0)) := (hb4.block _ (by omega)).trans hz3
    have hE4 := hE3.below hb4
    have hs4 := hb4.size
    have hbb1 := hbb.trans (hb4.mono (by omega))
    have d1_0 := ((bcell hb4).1 _ 0 (by omega)).trans d0
    have d1_1 := ((bcell hb4).1 _ 1 (by omega)).trans d1
    have d1_2 := ((bcell hb4).1 _ 2 (by omega)).trans d2
    have d1_3 := ((bcell hb4).1 _ 3 (by omega)).trans d3
    clear d0 d1 d2 d3
    go_wp2_with fail
    rw [rounds_succ]
    cases hn1 : numL x1 with
    | none =>
     have hr2 : r = (true, 5, 0) := by rw [hr]; simp [evalF, hn0, hn1, *]
     subst hr2
     have cn := anum_any x1 w4 hE4 (by have := Hx.out x1 (by simp); omega)
     rw [hn1] at cn
     simp only [cntV] at cn
     clear hr hn0 hn1
     go_wp2_with fail
     go_at_call 111
     refine cn.mono ?_
     rintro e w5 ⟨rfl, hb5⟩
     have hz5 : w5.heap[w.heap.size]? = some (.cells zeroA 67 (0, 0)) := (hb5.block _ (by omega)).trans hz4
     go_upto_region 19 with fail
     go_step
     refine wpList_load_row (o := ⟨some _, .load 67 (.tmp 2), _, _, _, _⟩) rfl 67 (.tmp 2) rfl w.heap.size rfl 67 zeroA (0, 0) _ hz5 Tryz.underlying67 rfl (by kernel_rfl) ?_
     refine wpList_store_same (o := ⟨none, .store 67 (.tmp 2) (.tmp _), _, _, _, _⟩) rfl 67 (.tmp 2) _ rfl w.heap.size zeroA rfl rfl 67 hz5 (by kernel_rfl) (by decide +kernel) ?_
     go_wp2_with fail
     exact bodyPost_ret (results_row3 (fn := Tryz.f76) (p := 2) (q := 3) (r := 4) (ty := 67) rfl _ _ w.heap.size 67 zeroA (0, 0) _ rfl hz5 Tryz.underlying67 rfl (by kernel_rfl)) rfl ⟨rfl, hbb1.trans (hb5.mono (by omega))⟩
    | some n1 =>
     have cn := anum_any x1 w4 hE4 (by have := Hx.out x1 (by simp); omega)
     rw [hn1] at cn
     simp only [cntV] at cn
     by_cases q1 : n1 < 256
     ·obtain ⟨a1, ha1⟩ : ∃ a1 : Nat, a1 = n0 * 256 + n1 := ⟨_, rfl⟩
      have hA1 : a1 < 65536 := by omega
      have ho1 : bits BinOp.or IntKind.i64 ((n0 : Int) * 256) (n1 : Int) = (a1 : Int) := by
       have := @or_add n0 n1 8 q1 (by omega)
       rw [show 2 ^ 8 * n0 = n0 * 256 from Nat.mul_comm _ _, ← ha1] at this
       rw [← this, Int.natCast_mul]; rfl
      have hAH1 := Lib.hid ha1
      clear ha1
      go_wp2_with fail
      go_at_call 111
      refine cn.mono ?_
      rintro e w5 ⟨rfl, hb5⟩
      have hz5 : w5.heap[w.heap.size]? = some (.cells zeroA 67 (0, 0)) := (hb5.block _ (by omega)).trans hz4
      have hE5 := hE4.below hb5
      have hs5 := hb5.size
      have hbb2 := hbb1.trans (hb5.mono (by omega))
      have d2_0 := ((bcell hb5).1 _ 0 (by omega)).trans d1_0
      have d2_1 := ((bcell hb5).1 _ 1 (by omega)).trans d1_1
      have d2_2 := ((bcell hb5).1 _ 2 (by omega)).trans d1_2
      have d2_3 := ((bcell hb5).1 _ 3 (by omega)).trans d1_3
      clear d1_0 d1_1 d1_2 d1_3
      go_wp2_with fail
      rw [rounds_succ]
      cases hn2 : numL x2 with
      | none =>
       have hr2 : r = (true, 5, 0) := by rw [hr]; simp [evalF, hn0, hn1, hn2, *]
       subst hr2
       have cn := anum_any x2 w5 hE5 (by have := Hx.out x2 (by simp); omega)
       rw [hn2] at cn
       simp only [cntV] at cn
       clear hr hn0 hn1 hn2
       go_wp2_with fail
       go_at_call 111
       refine cn.mono ?_
       rintro e w6 ⟨rfl, hb6⟩
       have hz6 : w6.heap[w.heap.size]? = some (.cells zeroA 67 (0, 0)) := (hb6.block _ (by omega)).trans hz5
       go_upto_region 19 with fail
       go_step
       refine wpList_load_row (o := ⟨some _, .load 67 (.tmp 2), _, _, _, _⟩) rfl 67 (.tmp 2) rfl w.heap.size rfl 67 zeroA (0, 0) _ hz6 Tryz.underlying67 rfl (by kernel_rfl) ?_
       refine wpList_store_same (o := ⟨none, .store 67 (.tmp 2) (.tmp _), _, _, _, _⟩) rfl 67 (.tmp 2) _ rfl w.heap.size zeroA rfl rfl 67 hz6 (by kernel_rfl) (by decide +kernel) ?_
       go_wp2_with fail
       exact bodyPost_ret (results_row3 (fn := Tryz.f76) (p := 2) (q := 3) (r := 4) (ty := 67) rfl _ _ w.heap.size 67 zeroA (0, 0) _ rfl hz6 Tryz.underlying67 rfl (by kernel_rfl)) rfl ⟨rfl, hbb2.trans (hb6.mono (by omega))⟩
      | some n2 =>
       have cn := anum_any x2 w5 hE5 (by have := Hx.out x2 (by simp); omega)
       rw [hn2] at cn
       simp only [cntV] at cn
       by_cases q2 : n2 < 65536
       ·obtain ⟨a2, ha2⟩ : ∃ a2 : Nat, a2 = a1 * 65536 + n2 := ⟨_, rfl⟩
        have hA2 : a2 < 4294967296 := by omega
        have ho2 : bits BinOp.or IntKind.i64 ((a1 : Int) * 65536) (n2 : Int) = (a2 : Int) := by
         have := @or_add a1 n2 16 q2 (by omega)
         rw [show 2 ^ 16 * a1 = a1 * 65536 from Nat.mul_comm _ _, ← ha2] at this
         rw [← this, Int.natCast_mul]; rfl
        have hAH2 := Lib.hid ha2
        clear ha2
        go_wp2_with fail
        go_at_call 111
        refine cn.mono ?_
        rintro e w6 ⟨rfl, hb6⟩
        have hz6 : w6.heap[w.heap.size]? = some (.cells zeroA 67 (0, 0)) := (hb6.block _ (by omega)).trans hz5
        have hE6 := hE5.below hb6
        have hs6 := hb6.size
        have hbb3 := hbb2.trans (hb6.mono (by omega))
        have d3_0 := ((bcell hb6).1 _ 0 (by omega)).trans d2_0
        have d3_1 := ((bcell hb6).1 _ 1 (by omega)).trans d2_1
        have d3_2 := ((bcell hb6).1 _ 2 (by omega)).trans d2_2
        have d3_3 := ((bcell hb6).1 _ 3 (by omega)).trans d2_3
        clear d2_0 d2_1 d2_2 d2_3
        go_wp2_with fail
        rw [rounds_succ]
        go_wp2_with fail
        have e1 : w6.cell? ⟨w.heap.size, 1, none⟩ = some (.int .u8 0) := by rw [cell_of_row _ _ _ _ _ _ hz6]; rfl
        have e2 : w6.cell? ⟨w.heap.size, 2, none⟩ = some (.int .u8 0) := by rw [cell_of_row _ _ _ _ _ _ hz6]; rfl
        have e3 : w6.cell? ⟨w.heap.size, 3, none⟩ = some (.int .u8 0) := by rw [cell_of_row _ _ _ _ _ _ hz6]; rfl
        have e4 : w6.cell? ⟨w.heap.size, 4, none⟩ = some (.int .u8 0) := by rw [cell_of_row _ _ _ _ _ _ hz6]; rfl
        have f1 : w6.frozen? ⟨w.heap.size, 1, none⟩ = false := frozen_of_row _ _ _ _ _ hz6
        have f2 : w6.frozen? ⟨w.heap.size, 2, none⟩ = false := frozen_of_row _ _ _ _ _ hz6
        have f3 : w6.frozen? ⟨w.heap.size, 3, none⟩ = false := frozen_of_row _ _ _ _ _ hz6
        have f4 : w6.frozen? ⟨w.heap.size, 4, none⟩ = false := frozen_of_row _ _ _ _ _ hz6
        refine wp_loop_rounds 5 ?_
        rw [rounds_succ]
        go_wp2_with fail
        rw [rounds_succ]
        go_wp2_with fail
        rw [rounds_succ]
        go_wp2_with fail
        rw [rounds_succ]
        go_wp2_with fail
        rw [rounds_succ]
        go_upto_region 27 with fail
        have hzf := heap_setCell_same _ w.heap.size 4 _ _ (.int .u8 ((a2 : Int) % 256)) (heap_setCell_same _ w.heap.size 3 _ _ (.int .u8 ((a2 : Int) / 256 % 256)) (heap_setCell_same _ w.heap.size 2 _ _ (.int .u8 ((a2 : Int) / 65536 % 256)) (heap_setCell_same _ w.heap.size 1 _ _ (.int .u8 ((a2 : Int) / 16777216)) hz6)))
        have hbf := (((hbb3.setCell (p := ⟨w.heap.size, 1, none⟩) (Nat.le_refl _) (.int .u8 ((a2 : Int) / 16777216))).setCell (p := ⟨w.heap.size, 2, none⟩) (Nat.le_refl _) (.int .u8 ((a2 : Int) / 65536 % 256))).setCell (p := ⟨w.heap.size, 3, none⟩) (Nat.le_refl _) (.int .u8 ((a2 : Int) / 256 % 256))).setCell (p := ⟨w.heap.size, 4, none⟩) (Nat.le_refl _) (.int .u8 ((a2 : Int) % 256))
        have hzf : _ = some (Obj.cells #[.bool false, .int .u8 ((a2 : Int) / 16777216), .int .u8 ((a2 : Int) / 65536 % 256), .int .u8 ((a2 : Int) / 256 % 256), .int .u8 ((a2 : Int) % 256), .int .u8 0, .int .u8 0, .int .u8 0, .int .u8 0, .int .u8 0, .int .u8 0, .int .u8 0, .int .u8 0, .int .u8 0, .int .u8 0, .int .u8 0, .int .u8 0] 67 (0, 0)) := hzf
        go_step
        refine wpList_load_row (o := ⟨some _, .load 67 (.tmp 2), _, _, _, _⟩) rfl 67 (.tmp 2) rfl w.heap.size rfl 67 #[.bool false, .int .u8 ((a2 : Int) / 16777216), .int .u8 ((a2 : Int) / 65536 % 256), .int .u8 ((a2 : Int) / 256 % 256), .int .u8 ((a2 : Int) % 256), .int .u8 0, .int .u8 0, .int .u8 0, .int .u8 0, .int .u8 0, .int .u8 0, .int .u8 0, .int .u8 0, .int .u8 0, .int .u8 0, .int .u8 0, .int .u8 0] (0, 0) _ hzf Tryz.underlying67 rfl (by kernel_rfl) ?_
        refine wpList_store_same (o := ⟨none, .store 67 (.tmp 2) (.tmp _), _, _, _, _⟩) rfl 67 (.tmp 2) _ rfl w.heap.size #[.bool false, .int .u8 ((a2 : Int) / 16777216), .int .u8 ((a2 : Int) / 65536 % 256), .int .u8 ((a2 : Int) / 256 % 256), .int .u8 ((a2 : Int) % 256), .int .u8 0, .int .u8 0, .int .u8 0, .int .u8 0, .int .u8 0, .int .u8 0, .int .u8 0, .int .u8 0, .int .u8 0, .int .u8 0, .int .u8 0, .int .u8 0] rfl rfl 67 hzf (by kernel_rfl) (by simp [Value.oneCell']) ?_
        go_wp2_with fail
        refine bodyPost_ret (results_row3 (fn := Tryz.f76) (p := 2) (q := 3) (r := 4) (ty := 67) rfl _ _ w.heap.size 67 #[.bool false, .int .u8 ((a2 : Int) / 16777216), .int .u8 ((a2 : Int) / 65536 % 256), .int .u8 ((a2 : Int) / 256 % 256), .int .u8 ((a2 : Int) % 256), .int .u8 0, .int .u8 0, .int .u8 0, .int .u8 0, .int .u8 0, .int .u8 0, .int .u8 0, .int .u8 0, .int .u8 0, .int .u8 0, .int .u8 0, .int .u8 0] (0, 0) _ rfl hzf Tryz.underlying67 rfl (by kernel_rfl)) rfl ⟨?_, hbf⟩
        have hr2 : r = (true, 0, a2) := by
         rw [hr]
         simp [evalF, hn0, q0, hn1, q1, hn2, q2, hAH1.out, hAH2.out]
        rw [hr2]
        simp [fourV, addrV]
        omega
       ·have hr2 : r = (true, 5, 0) := by rw [hr]; simp [evalF, hn0, q0, hn1, q1, hn2, q2]
        subst hr2
        clear hr hn0 hn1 hn2
        go_wp2_with fail
        go_at_call 111
        refine cn.mono ?_
        rintro e w6 ⟨rfl, hb6⟩
        have hz6 : w6.heap[w.heap.size]? = some (.cells zeroA 67 (0, 0)) := (hb6.block _ (by omega)).trans hz5
        go_upto_region 19 with fail
        go_step
        refine wpList_load_row (o := ⟨some _, .load 67 (.tmp 2), _, _, _, _⟩) rfl 67 (.tmp 2) rfl w.heap.size rfl 67 zeroA (0, 0) _ hz6 Tryz.underlying67 rfl (by kernel_rfl) ?_
        refine wpList_store_same (o := ⟨none, .store 67 (.tmp 2) (.tmp _), _, _, _, _⟩) rfl 67 (.tmp 2) _ rfl w.heap.size zeroA rfl rfl 67 hz6 (by kernel_rfl) (by decide +kernel) ?_
        go_wp2_with fail
        exact bodyPost_ret (results_row3 (fn := Tryz.f76) (p := 2) (q := 3) (r := 4) (ty := 67) rfl _ _ w.heap.size 67 zeroA (0, 0) _ rfl hz6 Tryz.underlying67 rfl (by kernel_rfl)) rfl ⟨rfl, hbb2.trans (hb6.mono (by omega))⟩
     ·have hr2 : r = (true, 5, 0) := by rw [hr]; simp [evalF, hn0, q0, hn1, q1]
      subst hr2
      clear hr hn0 hn1
      go_wp2_with fail
      go_at_call 111
      refine cn.mono ?_
      rintro e w5 ⟨rfl, hb5⟩
      have hz5 : w5.heap[w.heap.size]? = some (.cells zeroA 67 (0, 0)) := (hb5.block _ (by omega)).trans hz4
      go_upto_region 19 with fail
      go_step
      refine wpList_load_row (o := ⟨some _, .load 67 (.tmp 2), _, _, _, _⟩) rfl 67 (.tmp 2) rfl w.heap.size rfl 67 zeroA (0, 0) _ hz5 Tryz.underlying67 rfl (by kernel_rfl) ?_
      refine wpList_store_same (o := ⟨none, .store 67 (.tmp 2) (.tmp _), _, _, _, _⟩) rfl 67 (.tmp 2) _ rfl w.heap.size zeroA rfl rfl 67 hz5 (by kernel_rfl) (by decide +kernel) ?_
      go_wp2_with fail
      exact bodyPost_ret (results_row3 (fn := Tryz.f76) (p := 2) (q := 3) (r := 4) (ty := 67) rfl _ _ w.heap.size 67 zeroA (0, 0) _ rfl hz5 Tryz.underlying67 rfl (by kernel_rfl)) rfl ⟨rfl, hbb1.trans (hb5.mono (by omega))⟩
   ·have hr2 : r = (true, 5, 0) := by rw [hr]; simp [evalF, hn0, q0]
    subst hr2
    clear hr hn0
    go_wp2_with fail
    go_at_call 111
    refine cn.mono ?_
    rintro e w4 ⟨rfl, hb4⟩
    have hz4 : w4.heap[w.heap.size]? = some (.cells zeroA 67 (0, 0)) := (hb4.block _ (by omega)).trans hz3
    go_upto_region 19 with fail
    go_step
    refine wpList_load_row (o := ⟨some _, .load 67 (.tmp 2), _, _, _, _⟩) rfl 67 (.tmp 2) rfl w.heap.size rfl 67 zeroA (0, 0) _ hz4 Tryz.underlying67 rfl (by kernel_rfl) ?_
    refine wpList_store_same (o := ⟨none, .store 67 (.tmp 2) (.tmp _), _, _, _, _⟩) rfl 67 (.tmp 2) _ rfl w.heap.size zeroA rfl rfl 67 hz4 (by kernel_rfl) (by decide +kernel) ?_
    go_wp2_with fail
    exact bodyPost_ret (results_row3 (fn := Tryz.f76) (p := 2) (q := 3) (r := 4) (ty := 67) rfl _ _ w.heap.size 67 zeroA (0, 0) _ rfl hz4 Tryz.underlying67 rfl (by kernel_rfl)) rfl ⟨rfl, hbb.trans (hb4.mono (by omega))⟩
set_option maxRecDepth 100000 in
set_option maxHeartbeats 4000000 in
theorem four_C3 (s : List UInt8) (w W2 : World) (x0 x1 x2 x3 : List UInt8) (hW : FourW w W2 [x0, x1, x2, x3, []]) (hx : ∀ p ∈ [x0, x1, x2, x3, []], p.length ≤ 4000000000)
  (cs : Calls Tryz.prog 72 #[.string ⟨s.toArray⟩, .string ⟨#[46]⟩] (w.alloc (.cells zeroA 67)) fun e w' => e = .returned (.slice (some ⟨w.heap.size + 1, 0, none⟩) 5 5) ∧ w' = W2) (r : Bool × Nat × Nat)
  (hr : r = if likeL x3 = false then (false, 0, 0) else match evalF [x0, x1, x2, x3] 4294967296 0 with | none => (true, 5, 0) | some n => (true, 0, n)) :
  Calls Tryz.prog 76 #[.string ⟨s.toArray⟩] w fun e w' => e = .returned (fourV r) ∧ Below w.heap.size w w' := by
 obtain ⟨hE2, hb2, hrow, hsz, hcell⟩ := hW
 have cl := like_any x3 W2 hE2 (by have := hx x3 (by simp); omega)
 have c0 := hcell 0 (by simp)
 have c1 := hcell 1 (by simp)
 have c2 := hcell 2 (by simp)
 have c3 := hcell 3 (by simp)
 have c4 := hcell 4 (by simp)
 simp only [List.getElem_cons_zero, List.getElem_cons_succ] at c0 c1 c2 c3 c4
 have Hx := Lib.hid hx
 clear hx hcell
 cases hk : likeL x3 with
 | false =>
  rw [hk] at hr cl
  rw [if_pos rfl] at hr
  subst hr
  clear hk
  go_enter Tryz.func76, Tryz.ntmps76
  go_wp2_with (go_at_call 72; refine cs.mono ?_; rintro e w1 ⟨rfl, rfl⟩)
  go_at_call 110
  refine cl.mono ?_
  rintro e w3 ⟨rfl, hb3⟩
  have hz3 : w3.heap[w.heap.size]? = some (.cells zeroA 67 (0, 0)) := (hb3.block _ (by omega)).trans hrow
  go_upto_region 7 with fail
  go_step
  refine wpList_load_row (o := ⟨some _, .load 67 (.tmp 2), _, _, _, _⟩) rfl 67 (.tmp 2) rfl w.heap.size rfl 67 zeroA (0, 0) _ hz3 Tryz.underlying67 rfl (by kernel_rfl) ?_
  refine wpList_store_same (o := ⟨none, .store 67 (.tmp 2) (.tmp _), _, _, _, _⟩) rfl 67 (.tmp 2) _ rfl w.heap.size zeroA rfl rfl 67 hz3 (by kernel_rfl) (by decide +kernel) ?_
  go_wp2_with fail
  exact bodyPost_ret (results_row3 (fn := Tryz.f76) (p := 2) (q := 3) (r := 4) (ty := 67) rfl _ _ w.heap.size 67 zeroA (0, 0) _ rfl hz3 Tryz.underlying67 rfl (by kernel_rfl)) rfl ⟨rfl, hb2.trans (hb3.mono (by omega))⟩
 | true =>
  rw [hk] at hr cl
  rw [if_neg (by simp)] at hr
  clear hk
  go_enter Tryz.func76, Tryz.ntmps76
  go_wp2_with (go_at_call 72; refine cs.mono ?_; rintro e w1 ⟨rfl, rfl⟩)
  go_at_call 110
  refine cl.mono ?_
  rintro e w3 ⟨rfl, hb3⟩
  have hz3 : w3.heap[w.heap.size]? = some (.cells zeroA 67 (0, 0)) := (hb3.block _ (by omega)).trans hrow
  have hE3 := hE2.below hb3
  have hs3 := hb3.size
  have hbb := hb2.trans (hb3.mono (by omega))
  have d0 := ((bcell hb3).1 _ 0 (by omega)).trans c0
  have d1 := ((bcell hb3).1 _ 1 (by omega)).trans c1
  have d2 := ((bcell hb3).1 _ 2 (by omega)).trans c2
  have d3 := ((bcell hb3).1 _ 3 (by omega)).trans c3
  have d4 := ((bcell hb3).1 _ 4 (by omega)).trans c4
  clear c0 c1 c2 c3 c4 cl cs hrow hb2 hE2
  go_wp2_with fail
  refine wp_loop_rounds 5 ?_
  rw [rounds_succ]
  cases hn0 : numL x0 with
  | none =>
   have hr2 : r = (true, 5, 0) := by rw [hr]; simp [evalF, hn0]
   subst hr2
   have cn := anum_any x0 w3 hE3 (by have := Hx.out x0 (by simp); omega)
   rw [hn0] at cn
   simp only [cntV] at cn
   clear hr hn0
   go_wp2_with fail
   go_at_call 111
   refine cn.mono ?_
   rintro e w4 ⟨rfl, hb4⟩
   have hz4 : w4.heap[w.heap.size]? = some (.cells zeroA 67 (0, 0)) := (hb4.block _ (by omega)).trans hz3
   go_upto_region 19 with fail
   go_step
   refine wpList_load_row (o := ⟨some _, .load 67 (.tmp 2), _, _, _, _⟩) rfl 67 (.tmp 2) rfl w.heap.size rfl 67 zeroA (0, 0) _ hz4 Tryz.underlying67 rfl (by kernel_rfl) ?_
   refine wpList_store_same (o := ⟨none, .store 67 (.tmp 2) (.tmp _), _, _, _, _⟩) rfl 67 (.tmp 2) _ rfl w.heap.size zeroA rfl rfl 67 hz4 (by kernel_rfl) (by decide +kernel) ?_
   go_wp2_with fail
   exact bodyPost_ret (results_row3 (fn := Tryz.f76) (p := 2) (q := 3) (r := 4) (ty := 67) rfl _ _ w.heap.size 67 zeroA (0, 0) _ rfl hz4 Tryz.underlying67 rfl (by kernel_rfl)) rfl ⟨rfl, hbb.trans (hb4.mono (by omega))⟩
  | some n0 =>
   have cn := anum_any x0 w3 hE3 (by have := Hx.out x0 (by simp); omega)
   rw [hn0] at cn
   simp only [cntV] at cn
   by_cases q0 : n0 < 256
   ·have ho0 : bits BinOp.or IntKind.i64 0 (n0 : Int) = (n0 : Int) := or_zero (by omega)
    go_wp2_with fail
    go_at_call 111
    refine cn.mono ?_
    rintro e w4 ⟨rfl, hb4⟩
    have hz4 : w4.heap[w.heap.size]? = some (.cells zeroA 67 (0, 0)) := (hb4.block _ (by omega)).trans hz3
    have hE4 := hE3.below hb4
    have hs4 := hb4.size
    have hbb1 := hbb.trans (hb4.mono (by omega))
    have d1_0 := ((bcell hb4).1 _ 0 (by omega)).trans d0
    have d1_1 := ((bcell hb4).1 _ 1 (by omega)).trans d1
    have d1_2 := ((bcell hb4).1 _ 2 (by omega)).trans d2
    have d1_3 := ((bcell hb4).1 _ 3 (by omega)).trans d3
    have d1_4 := ((bcell hb4).1 _ 4 (by omega)).trans d4
    clear d0 d1 d2 d3 d4
    go_wp2_with fail
    rw [rounds_succ]
    cases hn1 : numL x1 with
    | none =>
     have hr2 : r = (true, 5, 0) := by rw [hr]; simp [evalF, hn0, hn1, *]
     subst hr2
     have cn := anum_any x1 w4 hE4 (by have := Hx.out x1 (by simp); omega)
     rw [hn1] at cn
     simp only [cntV] at cn
     clear hr hn0 hn1
     go_wp2_with fail
     go_at_call 111
     refine cn.mono ?_
     rintro e w5 ⟨rfl, hb5⟩
     have hz5 : w5.heap[w.heap.size]? = some (.cells zeroA 67 (0, 0)) := (hb5.block _ (by omega)).trans hz4
     go_upto_region 19 with fail
     go_step
     refine wpList_load_row (o := ⟨some _, .load 67 (.tmp 2), _, _, _, _⟩) rfl 67 (.tmp 2) rfl w.heap.size rfl 67 zeroA (0, 0) _ hz5 Tryz.underlying67 rfl (by kernel_rfl) ?_
     refine wpList_store_same (o := ⟨none, .store 67 (.tmp 2) (.tmp _), _, _, _, _⟩) rfl 67 (.tmp 2) _ rfl w.heap.size zeroA rfl rfl 67 hz5 (by kernel_rfl) (by decide +kernel) ?_
     go_wp2_with fail
     exact bodyPost_ret (results_row3 (fn := Tryz.f76) (p := 2) (q := 3) (r := 4) (ty := 67) rfl _ _ w.heap.size 67 zeroA (0, 0) _ rfl hz5 Tryz.underlying67 rfl (by kernel_rfl)) rfl ⟨rfl, hbb1.trans (hb5.mono (by omega))⟩
    | some n1 =>
     have cn := anum_any x1 w4 hE4 (by have := Hx.out x1 (by simp); omega)
     rw [hn1] at cn
     simp only [cntV] at cn
     by_cases q1 : n1 < 256
     ·obtain ⟨a1, ha1⟩ : ∃ a1 : Nat, a1 = n0 * 256 + n1 := ⟨_, rfl⟩
      have hA1 : a1 < 65536 := by omega
      have ho1 : bits BinOp.or IntKind.i64 ((n0 : Int) * 256) (n1 : Int) = (a1 : Int) := by
       have := @or_add n0 n1 8 q1 (by omega)
       rw [show 2 ^ 8 * n0 = n0 * 256 from Nat.mul_comm _ _, ← ha1] at this
       rw [← this, Int.natCast_mul]; rfl
      have hAH1 := Lib.hid ha1
      clear ha1
      go_wp2_with fail
      go_at_call 111
      refine cn.mono ?_
      rintro e w5 ⟨rfl, hb5⟩
      have hz5 : w5.heap[w.heap.size]? = some (.cells zeroA 67 (0, 0)) := (hb5.block _ (by omega)).trans hz4
      have hE5 := hE4.below hb5
      have hs5 := hb5.size
      have hbb2 := hbb1.trans (hb5.mono (by omega))
      have d2_0 := ((bcell hb5).1 _ 0 (by omega)).trans d1_0
      have d2_1 := ((bcell hb5).1 _ 1 (by omega)).trans d1_1
      have d2_2 := ((bcell hb5).1 _ 2 (by omega)).trans d1_2
      have d2_3 := ((bcell hb5).1 _ 3 (by omega)).trans d1_3
      have d2_4 := ((bcell hb5).1 _ 4 (by omega)).trans d1_4
      clear d1_0 d1_1 d1_2 d1_3 d1_4
      go_wp2_with fail
      rw [rounds_succ]
      cases hn2 : numL x2 with
      | none =>
       have hr2 : r = (true, 5, 0) := by rw [hr]; simp [evalF, hn0, hn1, hn2, *]
       subst hr2
       have cn := anum_any x2 w5 hE5 (by have := Hx.out x2 (by simp); omega)
       rw [hn2] at cn
       simp only [cntV] at cn
       clear hr hn0 hn1 hn2
       go_wp2_with fail
       go_at_call 111
       refine cn.mono ?_
       rintro e w6 ⟨rfl, hb6⟩
       have hz6 : w6.heap[w.heap.size]? = some (.cells zeroA 67 (0, 0)) := (hb6.block _ (by omega)).trans hz5
       go_upto_region 19 with fail
       go_step
       refine wpList_load_row (o := ⟨some _, .load 67 (.tmp 2), _, _, _, _⟩) rfl 67 (.tmp 2) rfl w.heap.size rfl 67 zeroA (0, 0) _ hz6 Tryz.underlying67 rfl (by kernel_rfl) ?_
       refine wpList_store_same (o := ⟨none, .store 67 (.tmp 2) (.tmp _), _, _, _, _⟩) rfl 67 (.tmp 2) _ rfl w.heap.size zeroA rfl rfl 67 hz6 (by kernel_rfl) (by decide +kernel) ?_
       go_wp2_with fail
       exact bodyPost_ret (results_row3 (fn := Tryz.f76) (p := 2) (q := 3) (r := 4) (ty := 67) rfl _ _ w.heap.size 67 zeroA (0, 0) _ rfl hz6 Tryz.underlying67 rfl (by kernel_rfl)) rfl ⟨rfl, hbb2.trans (hb6.mono (by omega))⟩
      | some n2 =>
       have cn := anum_any x2 w5 hE5 (by have := Hx.out x2 (by simp); omega)
       rw [hn2] at cn
       simp only [cntV] at cn
       by_cases q2 : n2 < 256
       ·obtain ⟨a2, ha2⟩ : ∃ a2 : Nat, a2 = a1 * 256 + n2 := ⟨_, rfl⟩
        have hA2 : a2 < 16777216 := by omega
        have ho2 : bits BinOp.or IntKind.i64 ((a1 : Int) * 256) (n2 : Int) = (a2 : Int) := by
         have := @or_add a1 n2 8 q2 (by omega)
         rw [show 2 ^ 8 * a1 = a1 * 256 from Nat.mul_comm _ _, ← ha2] at this
         rw [← this, Int.natCast_mul]; rfl
        have hAH2 := Lib.hid ha2
        clear ha2
        go_wp2_with fail
        go_at_call 111
        refine cn.mono ?_
        rintro e w6 ⟨rfl, hb6⟩
        have hz6 : w6.heap[w.heap.size]? = some (.cells zeroA 67 (0, 0)) := (hb6.block _ (by omega)).trans hz5
        have hE6 := hE5.below hb6
        have hs6 := hb6.size
        have hbb3 := hbb2.trans (hb6.mono (by omega))
        have d3_0 := ((bcell hb6).1 _ 0 (by omega)).trans d2_0
        have d3_1 := ((bcell hb6).1 _ 1 (by omega)).trans d2_1
        have d3_2 := ((bcell hb6).1 _ 2 (by omega)).trans d2_2
        have d3_3 := ((bcell hb6).1 _ 3 (by omega)).trans d2_3
        have d3_4 := ((bcell hb6).1 _ 4 (by omega)).trans d2_4
        clear d2_0 d2_1 d2_2 d2_3 d2_4
        go_wp2_with fail
        rw [rounds_succ]
        cases hn3 : numL x3 with
        | none =>
         have hr2 : r = (true, 5, 0) := by rw [hr]; simp [evalF, hn0, hn1, hn2, hn3, *]
         subst hr2
         have cn := anum_any x3 w6 hE6 (by have := Hx.out x3 (by simp); omega)
         rw [hn3] at cn
         simp only [cntV] at cn
         clear hr hn0 hn1 hn2 hn3
         go_wp2_with fail
         go_at_call 111
         refine cn.mono ?_
         rintro e w7 ⟨rfl, hb7⟩
         have hz7 : w7.heap[w.heap.size]? = some (.cells zeroA 67 (0, 0)) := (hb7.block _ (by omega)).trans hz6
         go_upto_region 19 with fail
         go_step
         refine wpList_load_row (o := ⟨some _, .load 67 (.tmp 2), _, _, _, _⟩) rfl 67 (.tmp 2) rfl w.heap.size rfl 67 zeroA (0, 0) _ hz7 Tryz.underlying67 rfl (by kernel_rfl) ?_
         refine wpList_store_same (o := ⟨none, .store 67 (.tmp 2) (.tmp _), _, _, _, _⟩) rfl 67 (.tmp 2) _ rfl w.heap.size zeroA rfl rfl 67 hz7 (by kernel_rfl) (by decide +kernel) ?_
         go_wp2_with fail
         exact bodyPost_ret (results_row3 (fn := Tryz.f76) (p := 2) (q := 3) (r := 4) (ty := 67) rfl _ _ w.heap.size 67 zeroA (0, 0) _ rfl hz7 Tryz.underlying67 rfl (by kernel_rfl)) rfl ⟨rfl, hbb3.trans (hb7.mono (by omega))⟩
        | some n3 =>
         have cn := anum_any x3 w6 hE6 (by have := Hx.out x3 (by simp); omega)
         rw [hn3] at cn
         simp only [cntV] at cn
         by_cases q3 : n3 < 256
         ·obtain ⟨a3, ha3⟩ : ∃ a3 : Nat, a3 = a2 * 256 + n3 := ⟨_, rfl⟩
          have hA3 : a3 < 4294967296 := by omega
          have ho3 : bits BinOp.or IntKind.i64 ((a2 : Int) * 256) (n3 : Int) = (a3 : Int) := by
           have := @or_add a2 n3 8 q3 (by omega)
           rw [show 2 ^ 8 * a2 = a2 * 256 from Nat.mul_comm _ _, ← ha3] at this
           rw [← this, Int.natCast_mul]; rfl
          have hAH3 := Lib.hid ha3
          clear ha3
          go_wp2_with fail
          go_at_call 111
          refine cn.mono ?_
          rintro e w7 ⟨rfl, hb7⟩
          have hz7 : w7.heap[w.heap.size]? = some (.cells zeroA 67 (0, 0)) := (hb7.block _ (by omega)).trans hz6
          have hE7 := hE6.below hb7
          have hs7 := hb7.size
          have hbb4 := hbb3.trans (hb7.mono (by omega))
          have d4_0 := ((bcell hb7).1 _ 0 (by omega)).trans d3_0
          have d4_1 := ((bcell hb7).1 _ 1 (by omega)).trans d3_1
          have d4_2 := ((bcell hb7).1 _ 2 (by omega)).trans d3_2
          have d4_3 := ((bcell hb7).1 _ 3 (by omega)).trans d3_3
          have d4_4 := ((bcell hb7).1 _ 4 (by omega)).trans d3_4
          clear d3_0 d3_1 d3_2 d3_3 d3_4
          go_wp2_with fail
          rw [rounds_succ]
          go_wp2_with fail
          have e1 : w7.cell? ⟨w.heap.size, 1, none⟩ = some (.int .u8 0) := by rw [cell_of_row _ _ _ _ _ _ hz7]; rfl
          have e2 : w7.cell? ⟨w.heap.size, 2, none⟩ = some (.int .u8 0) := by rw [cell_of_row _ _ _ _ _ _ hz7]; rfl
          have e3 : w7.cell? ⟨w.heap.size, 3, none⟩ = some (.int .u8 0) := by rw [cell_of_row _ _ _ _ _ _ hz7]; rfl
          have e4 : w7.cell? ⟨w.heap.size, 4, none⟩ = some (.int .u8 0) := by rw [cell_of_row _ _ _ _ _ _ hz7]; rfl
          have f1 : w7.frozen? ⟨w.heap.size, 1, none⟩ = false := frozen_of_row _ _ _ _ _ hz7
          have f2 : w7.frozen? ⟨w.heap.size, 2, none⟩ = false := frozen_of_row _ _ _ _ _ hz7
          have f3 : w7.frozen? ⟨w.heap.size, 3, none⟩ = false := frozen_of_row _ _ _ _ _ hz7
          have f4 : w7.frozen? ⟨w.heap.size, 4, none⟩ = false := frozen_of_row _ _ _ _ _ hz7
          refine wp_loop_rounds 5 ?_
          rw [rounds_succ]
          go_wp2_with fail
          rw [rounds_succ]
          go_wp2_with fail
          rw [rounds_succ]
          go_wp2_with fail
          rw [rounds_succ]
          go_wp2_with fail
          rw [rounds_succ]
          go_upto_region 27 with fail
          have hzf := heap_setCell_same _ w.heap.size 4 _ _ (.int .u8 ((a3 : Int) % 256)) (heap_setCell_same _ w.heap.size 3 _ _ (.int .u8 ((a3 : Int) / 256 % 256)) (heap_setCell_same _ w.heap.size 2 _ _ (.int .u8 ((a3 : Int) / 65536 % 256)) (heap_setCell_same _ w.heap.size 1 _ _ (.int .u8 ((a3 : Int) / 16777216)) hz7)))
          have hbf := (((hbb4.setCell (p := ⟨w.heap.size, 1, none⟩) (Nat.le_refl _) (.int .u8 ((a3 : Int) / 16777216))).setCell (p := ⟨w.heap.size, 2, none⟩) (Nat.le_refl _) (.int .u8 ((a3 : Int) / 65536 % 256))).setCell (p := ⟨w.heap.size, 3, none⟩) (Nat.le_refl _) (.int .u8 ((a3 : Int) / 256 % 256))).setCell (p := ⟨w.heap.size, 4, none⟩) (Nat.le_refl _) (.int .u8 ((a3 : Int) % 256))
          have hzf : _ = some (Obj.cells #[.bool false, .int .u8 ((a3 : Int) / 16777216), .int .u8 ((a3 : Int) / 65536 % 256), .int .u8 ((a3 : Int) / 256 % 256), .int .u8 ((a3 : Int) % 256), .int .u8 0, .int .u8 0, .int .u8 0, .int .u8 0, .int .u8 0, .int .u8 0, .int .u8 0, .int .u8 0, .int .u8 0, .int .u8 0, .int .u8 0, .int .u8 0] 67 (0, 0)) := hzf
          go_step
          refine wpList_load_row (o := ⟨some _, .load 67 (.tmp 2), _, _, _, _⟩) rfl 67 (.tmp 2) rfl w.heap.size rfl 67 #[.bool false, .int .u8 ((a3 : Int) / 16777216), .int .u8 ((a3 : Int) / 65536 % 256), .int .u8 ((a3 : Int) / 256 % 256), .int .u8 ((a3 : Int) % 256), .int .u8 0, .int .u8 0, .int .u8 0, .int .u8 0, .int .u8 0, .int .u8 0, .int .u8 0, .int .u8 0, .int .u8 0, .int .u8 0, .int .u8 0, .int .u8 0] (0, 0) _ hzf Tryz.underlying67 rfl (by kernel_rfl) ?_
          refine wpList_store_same (o := ⟨none, .store 67 (.tmp 2) (.tmp _), _, _, _, _⟩) rfl 67 (.tmp 2) _ rfl w.heap.size #[.bool false, .int .u8 ((a3 : Int) / 16777216), .int .u8 ((a3 : Int) / 65536 % 256), .int .u8 ((a3 : Int) / 256 % 256), .int .u8 ((a3 : Int) % 256), .int .u8 0, .int .u8 0, .int .u8 0, .int .u8 0, .int .u8 0, .int .u8 0, .int .u8 0, .int .u8 0, .int .u8 0, .int .u8 0, .int .u8 0, .int .u8 0] rfl rfl 67 hzf (by kernel_rfl) (by simp [Value.oneCell']) ?_
          go_wp2_with fail
          refine bodyPost_ret (results_row3 (fn := Tryz.f76) (p := 2) (q := 3) (r := 4) (ty := 67) rfl _ _ w.heap.size 67 #[.bool false, .int .u8 ((a3 : Int) / 16777216), .int .u8 ((a3 : Int) / 65536 % 256), .int .u8 ((a3 : Int) / 256 % 256), .int .u8 ((a3 : Int) % 256), .int .u8 0, .int .u8 0, .int .u8 0, .int .u8 0, .int .u8 0, .int .u8 0, .int .u8 0, .int .u8 0, .int .u8 0, .int .u8 0, .int .u8 0, .int .u8 0] (0, 0) _ rfl hzf Tryz.underlying67 rfl (by kernel_rfl)) rfl ⟨?_, hbf⟩
          have hr2 : r = (true, 0, a3) := by
           rw [hr]
           simp [evalF, hn0, q0, hn1, q1, hn2, q2, hn3, q3, hAH1.out, hAH2.out, hAH3.out]
          rw [hr2]
          simp [fourV, addrV]
          omega
         ·have hr2 : r = (true, 5, 0) := by rw [hr]; simp [evalF, hn0, q0, hn1, q1, hn2, q2, hn3, q3]
          subst hr2
          clear hr hn0 hn1 hn2 hn3
          go_wp2_with fail
          go_at_call 111
          refine cn.mono ?_
          rintro e w7 ⟨rfl, hb7⟩
          have hz7 : w7.heap[w.heap.size]? = some (.cells zeroA 67 (0, 0)) := (hb7.block _ (by omega)).trans hz6
          go_upto_region 19 with fail
          go_step
          refine wpList_load_row (o := ⟨some _, .load 67 (.tmp 2), _, _, _, _⟩) rfl 67 (.tmp 2) rfl w.heap.size rfl 67 zeroA (0, 0) _ hz7 Tryz.underlying67 rfl (by kernel_rfl) ?_
          refine wpList_store_same (o := ⟨none, .store 67 (.tmp 2) (.tmp _), _, _, _, _⟩) rfl 67 (.tmp 2) _ rfl w.heap.size zeroA rfl rfl 67 hz7 (by kernel_rfl) (by decide +kernel) ?_
          go_wp2_with fail
          exact bodyPost_ret (results_row3 (fn := Tryz.f76) (p := 2) (q := 3) (r := 4) (ty := 67) rfl _ _ w.heap.size 67 zeroA (0, 0) _ rfl hz7 Tryz.underlying67 rfl (by kernel_rfl)) rfl ⟨rfl, hbb3.trans (hb7.mono (by omega))⟩
       ·have hr2 : r = (true, 5, 0) := by rw [hr]; simp [evalF, hn0, q0, hn1, q1, hn2, q2]
        subst hr2
        clear hr hn0 hn1 hn2
        go_wp2_with fail
        go_at_call 111
        refine cn.mono ?_
        rintro e w6 ⟨rfl, hb6⟩
        have hz6 : w6.heap[w.heap.size]? = some (.cells zeroA 67 (0, 0)) := (hb6.block _ (by omega)).trans hz5
        go_upto_region 19 with fail
        go_step
        refine wpList_load_row (o := ⟨some _, .load 67 (.tmp 2), _, _, _, _⟩) rfl 67 (.tmp 2) rfl w.heap.size rfl 67 zeroA (0, 0) _ hz6 Tryz.underlying67 rfl (by kernel_rfl) ?_
        refine wpList_store_same (o := ⟨none, .store 67 (.tmp 2) (.tmp _), _, _, _, _⟩) rfl 67 (.tmp 2) _ rfl w.heap.size zeroA rfl rfl 67 hz6 (by kernel_rfl) (by decide +kernel) ?_
        go_wp2_with fail
        exact bodyPost_ret (results_row3 (fn := Tryz.f76) (p := 2) (q := 3) (r := 4) (ty := 67) rfl _ _ w.heap.size 67 zeroA (0, 0) _ rfl hz6 Tryz.underlying67 rfl (by kernel_rfl)) rfl ⟨rfl, hbb2.trans (hb6.mono (by omega))⟩
     ·have hr2 : r = (true, 5, 0) := by rw [hr]; simp [evalF, hn0, q0, hn1, q1]
      subst hr2
      clear hr hn0 hn1
      go_wp2_with fail
      go_at_call 111
      refine cn.mono ?_
      rintro e w5 ⟨rfl, hb5⟩
      have hz5 : w5.heap[w.heap.size]? = some (.cells zeroA 67 (0, 0)) := (hb5.block _ (by omega)).trans hz4
      go_upto_region 19 with fail
      go_step
      refine wpList_load_row (o := ⟨some _, .load 67 (.tmp 2), _, _, _, _⟩) rfl 67 (.tmp 2) rfl w.heap.size rfl 67 zeroA (0, 0) _ hz5 Tryz.underlying67 rfl (by kernel_rfl) ?_
      refine wpList_store_same (o := ⟨none, .store 67 (.tmp 2) (.tmp _), _, _, _, _⟩) rfl 67 (.tmp 2) _ rfl w.heap.size zeroA rfl rfl 67 hz5 (by kernel_rfl) (by decide +kernel) ?_
      go_wp2_with fail
      exact bodyPost_ret (results_row3 (fn := Tryz.f76) (p := 2) (q := 3) (r := 4) (ty := 67) rfl _ _ w.heap.size 67 zeroA (0, 0) _ rfl hz5 Tryz.underlying67 rfl (by kernel_rfl)) rfl ⟨rfl, hbb1.trans (hb5.mono (by omega))⟩
   ·have hr2 : r = (true, 5, 0) := by rw [hr]; simp [evalF, hn0, q0]
    subst hr2
    clear hr hn0
    go_wp2_with fail
    go_at_call 111
    refine cn.mono ?_
    rintro e w4 ⟨rfl, hb4⟩
    have hz4 : w4.heap[w.heap.size]? = some (.cells zeroA 67 (0, 0)) := (hb4.block _ (by omega)).trans hz3
    go_upto_region 19 with fail
    go_step
    refine wpList_load_row (o := ⟨some _, .load 67 (.tmp 2), _, _, _, _⟩) rfl 67 (.tmp 2) rfl w.heap.size rfl 67 zeroA (0, 0) _ hz4 Tryz.underlying67 rfl (by kernel_rfl) ?_
    refine wpList_store_same (o := ⟨none, .store 67 (.tmp 2) (.tmp _), _, _, _, _⟩) rfl 67 (.tmp 2) _ rfl w.heap.size zeroA rfl rfl 67 hz4 (by kernel_rfl) (by decide +kernel) ?_
    go_wp2_with fail
    exact bodyPost_ret (results_row3 (fn := Tryz.f76) (p := 2) (q := 3) (r := 4) (ty := 67) rfl _ _ w.heap.size 67 zeroA (0, 0) _ rfl hz4 Tryz.underlying67 rfl (by kernel_rfl)) rfl ⟨rfl, hbb.trans (hb4.mono (by omega))⟩
set_option maxRecDepth 100000 in
set_option maxHeartbeats 2000000 in
theorem four_Bbig (s : List UInt8) (w W2 : World) (l : Nat) (hbig : 4 ≤ l) (hlm : l ≤ 4000000000) (x : List UInt8) (hx : x.length ≤ 4000000000) (hE2 : Env W2) (hb2 : Below w.heap.size w W2) (hrow : W2.heap[w.heap.size]? = some (.cells zeroA 67 (0, 0))) (hsz : W2.heap.size = w.heap.size + 2) (c1 : W2.cell? ⟨w.heap.size + 1, l, none⟩ = some (.string ⟨x.toArray⟩)) (hne : x ≠ [])
  (cs : Calls Tryz.prog 72 #[.string ⟨s.toArray⟩, .string ⟨#[46]⟩] (w.alloc (.cells zeroA 67)) fun e w' => e = .returned (.slice (some ⟨w.heap.size + 1, 0, none⟩) (l + 1) (l + 1)) ∧ w' = W2) (r : Bool × Nat × Nat)
  (hr : r = if likeL x = false then (false, 0, 0) else (true, 5, 0)) :
  Calls Tryz.prog 76 #[.string ⟨s.toArray⟩] w fun e w' => e = .returned (fourV r) ∧ Below w.heap.size w w' := by
 have cl := like_any x W2 hE2 (by omega)
 have hne1 := isEmpty_ne hne
 have hne2 := beq_ne hne
 clear hne
 cases hk : likeL x with
 | false =>
  rw [hk] at hr cl
  rw [if_pos rfl] at hr
  subst hr
  clear hk
  go_enter Tryz.func76, Tryz.ntmps76
  go_wp2_with (go_at_call 72; refine cs.mono ?_; rintro e w1 ⟨rfl, rfl⟩)
  go_at_call 110
  refine cl.mono ?_
  rintro e w3 ⟨rfl, hb3⟩
  have hz3 : w3.heap[w.heap.size]? = some (.cells zeroA 67 (0, 0)) := (hb3.block _ (by omega)).trans hrow
  go_upto_region 7 with fail
  go_step
  refine wpList_load_row (o := ⟨some _, .load 67 (.tmp 2), _, _, _, _⟩) rfl 67 (.tmp 2) rfl w.heap.size rfl 67 zeroA (0, 0) _ hz3 Tryz.underlying67 rfl (by kernel_rfl) ?_
  refine wpList_store_same (o := ⟨none, .store 67 (.tmp 2) (.tmp _), _, _, _, _⟩) rfl 67 (.tmp 2) _ rfl w.heap.size zeroA rfl rfl 67 hz3 (by kernel_rfl) (by decide +kernel) ?_
  go_wp2_with fail
  exact bodyPost_ret (results_row3 (fn := Tryz.f76) (p := 2) (q := 3) (r := 4) (ty := 67) rfl _ _ w.heap.size 67 zeroA (0, 0) _ rfl hz3 Tryz.underlying67 rfl (by kernel_rfl)) rfl ⟨rfl, hb2.trans (hb3.mono (by omega))⟩
 | true =>
  rw [hk] at hr cl
  rw [if_neg (by simp)] at hr
  subst hr
  clear hk
  go_enter Tryz.func76, Tryz.ntmps76
  go_wp2_with (go_at_call 72; refine cs.mono ?_; rintro e w1 ⟨rfl, rfl⟩)
  go_at_call 110
  refine cl.mono ?_
  rintro e w3 ⟨rfl, hb3⟩
  have hz3 : w3.heap[w.heap.size]? = some (.cells zeroA 67 (0, 0)) := (hb3.block _ (by omega)).trans hrow
  go_upto_region 9 with fail
  go_step
  refine wpList_load_row (o := ⟨some _, .load 67 (.tmp 2), _, _, _, _⟩) rfl 67 (.tmp 2) rfl w.heap.size rfl 67 zeroA (0, 0) _ hz3 Tryz.underlying67 rfl (by kernel_rfl) ?_
  refine wpList_store_same (o := ⟨none, .store 67 (.tmp 2) (.tmp _), _, _, _, _⟩) rfl 67 (.tmp 2) _ rfl w.heap.size zeroA rfl rfl 67 hz3 (by kernel_rfl) (by decide +kernel) ?_
  go_wp2_with fail
  exact bodyPost_ret (results_row3 (fn := Tryz.f76) (p := 2) (q := 3) (r := 4) (ty := 67) rfl _ _ w.heap.size 67 zeroA (0, 0) _ rfl hz3 Tryz.underlying67 rfl (by kernel_rfl)) rfl ⟨rfl, hb2.trans (hb3.mono (by omega))⟩
set_option maxRecDepth 100000 in
set_option maxHeartbeats 2000000 in
theorem four_Cbig (s : List UInt8) (w W2 : World) (l : Nat) (hbig : 4 ≤ l) (hlm : l ≤ 4000000000) (x : List UInt8) (hx : x.length ≤ 4000000000) (hE2 : Env W2) (hb2 : Below w.heap.size w W2) (hrow : W2.heap[w.heap.size]? = some (.cells zeroA 67 (0, 0))) (hsz : W2.heap.size = w.heap.size + 2) (c1 : W2.cell? ⟨w.heap.size + 1, l, none⟩ = some (.string ⟨x.toArray⟩)) (c2 : W2.cell? ⟨w.heap.size + 1, l + 1, none⟩ = some (.string ⟨#[]⟩))
  (cs : Calls Tryz.prog 72 #[.string ⟨s.toArray⟩, .string ⟨#[46]⟩] (w.alloc (.cells zeroA 67)) fun e w' => e = .returned (.slice (some ⟨w.heap.size + 1, 0, none⟩) (l + 2) (l + 2)) ∧ w' = W2) (r : Bool × Nat × Nat)
  (hr : r = if likeL x = false then (false, 0, 0) else (true, 5, 0)) :
  Calls Tryz.prog 76 #[.string ⟨s.toArray⟩] w fun e w' => e = .returned (fourV r) ∧ Below w.heap.size w w' := by
 have cl := like_any x W2 hE2 (by omega)
 cases hk : likeL x with
 | false =>
  rw [hk] at hr cl
  rw [if_pos rfl] at hr
  subst hr
  clear hk
  go_enter Tryz.func76, Tryz.ntmps76
  go_wp2_with (go_at_call 72; refine cs.mono ?_; rintro e w1 ⟨rfl, rfl⟩)
  go_at_call 110
  refine cl.mono ?_
  rintro e w3 ⟨rfl, hb3⟩
  have hz3 : w3.heap[w.heap.size]? = some (.cells zeroA 67 (0, 0)) := (hb3.block _ (by omega)).trans hrow
  go_upto_region 7 with fail
  go_step
  refine wpList_load_row (o := ⟨some _, .load 67 (.tmp 2), _, _, _, _⟩) rfl 67 (.tmp 2) rfl w.heap.size rfl 67 zeroA (0, 0) _ hz3 Tryz.underlying67 rfl (by kernel_rfl) ?_
  refine wpList_store_same (o := ⟨none, .store 67 (.tmp 2) (.tmp _), _, _, _, _⟩) rfl 67 (.tmp 2) _ rfl w.heap.size zeroA rfl rfl 67 hz3 (by kernel_rfl) (by decide +kernel) ?_
  go_wp2_with fail
  exact bodyPost_ret (results_row3 (fn := Tryz.f76) (p := 2) (q := 3) (r := 4) (ty := 67) rfl _ _ w.heap.size 67 zeroA (0, 0) _ rfl hz3 Tryz.underlying67 rfl (by kernel_rfl)) rfl ⟨rfl, hb2.trans (hb3.mono (by omega))⟩
 | true =>
  rw [hk] at hr cl
  rw [if_neg (by simp)] at hr
  subst hr
  clear hk
  go_enter Tryz.func76, Tryz.ntmps76
  go_wp2_with (go_at_call 72; refine cs.mono ?_; rintro e w1 ⟨rfl, rfl⟩)
  go_at_call 110
  refine cl.mono ?_
  rintro e w3 ⟨rfl, hb3⟩
  have hz3 : w3.heap[w.heap.size]? = some (.cells zeroA 67 (0, 0)) := (hb3.block _ (by omega)).trans hrow
  go_upto_region 9 with fail
  go_step
  refine wpList_load_row (o := ⟨some _, .load 67 (.tmp 2), _, _, _, _⟩) rfl 67 (.tmp 2) rfl w.heap.size rfl 67 zeroA (0, 0) _ hz3 Tryz.underlying67 rfl (by kernel_rfl) ?_
  refine wpList_store_same (o := ⟨none, .store 67 (.tmp 2) (.tmp _), _, _, _, _⟩) rfl 67 (.tmp 2) _ rfl w.heap.size zeroA rfl rfl 67 hz3 (by kernel_rfl) (by decide +kernel) ?_
  go_wp2_with fail
  exact bodyPost_ret (results_row3 (fn := Tryz.f76) (p := 2) (q := 3) (r := 4) (ty := 67) rfl _ _ w.heap.size 67 zeroA (0, 0) _ rfl hz3 Tryz.underlying67 rfl (by kernel_rfl)) rfl ⟨rfl, hb2.trans (hb3.mono (by omega))⟩
theorem fourL_big {s : List UInt8} {Q : List (List UInt8)} {l : Nat} (h : fourParts s = Q) (hl : Q.length = l + 1) (hbig : 4 ≤ l) : fourL s = if likeL (Q[l]'(by omega)) = false then (false, 0, 0) else (true, 5, 0) := by
 unfold fourL
 rw [h, getLast_is hl, if_pos (show 4 < Q.length by omega)]
theorem fourL_small {s : List UInt8} {Q : List (List UInt8)} {x : List UInt8} (h : fourParts s = Q) (hl : Q.getLastD [] = x) (hs : ¬ 4 < Q.length) : fourL s = if likeL x = false then (false, 0, 0) else match evalF Q 4294967296 0 with | none => (true, 5, 0) | some n => (true, 0, n) := by
 unfold fourL
 rw [h, hl, if_neg hs]
 cases evalF Q 4294967296 0 <;> rfl
theorem parts_keep {s : List UInt8} {P : List (List UInt8)} (h : partsL 46 s = P) (hc : ¬ (1 < P.length ∧ P.getLastD [] = [])) : fourParts s = P := by unfold fourParts; rw [h, if_neg hc]
theorem parts_cut {s : List UInt8} {P : List (List UInt8)} (h : partsL 46 s = P) (hc : 1 < P.length ∧ P.getLastD [] = []) : fourParts s = P.dropLast := by unfold fourParts; rw [h, if_pos hc]
theorem four_any (s : List UInt8) (w : World) (hE : Env w) (hs : s.length ≤ 3999999999) :
  Calls Tryz.prog 76 #[.string ⟨s.toArray⟩] w fun e w' => e = .returned (fourV (fourL s)) ∧ Below w.heap.size w w' := by
 obtain ⟨W2, hW, cs⟩ := fourW s w hE (by omega)
 obtain ⟨hP1, hP2⟩ := partsL_le 46 s
 have hne := partsL_ne 46 s
 have hx : ∀ p ∈ partsL 46 s, p.length ≤ 4000000000 := fun p hp => by have := hP1 p hp; omega
 have hk := @parts_keep s _ rfl
 have hc := @parts_cut s _ rfl
 obtain ⟨P, hP⟩ : ∃ P, partsL 46 s = P := ⟨_, rfl⟩
 rw [hP] at hW cs hP2 hne hx hk hc
 clear hP1
 match P, hW, cs, hne, hx, hk, hc, hP2 with
 | [], _, _, h, _, _, _, _ => exact absurd rfl h
 | [x0], hW, cs, _, hx, hk, hc, _ =>
  exact four_A0 s w W2 x0 hW hx cs _ (fourL_small (hk (by simp)) rfl (by simp))
 | [x0, x1], hW, cs, _, hx, hk, hc, _ =>
  by_cases h : x1 = []
  ·subst h
   exact four_C0 s w W2 x0 hW hx cs _ (fourL_small (Q := [x0]) (hc ⟨by simp, rfl⟩) rfl (by simp))
  ·exact four_B1 s w W2 x0 x1 hW hx h cs _ (fourL_small (hk (by rintro ⟨_, h'⟩; exact h h')) rfl (by simp))
 | [x0, x1, x2], hW, cs, _, hx, hk, hc, _ =>
  by_cases h : x2 = []
  ·subst h
   exact four_C1 s w W2 x0 x1 hW hx cs _ (fourL_small (Q := [x0, x1]) (hc ⟨by simp, rfl⟩) rfl (by simp))
  ·exact four_B2 s w W2 x0 x1 x2 hW hx h cs _ (fourL_small (hk (by rintro ⟨_, h'⟩; exact h h')) rfl (by simp))
 | [x0, x1, x2, x3], hW, cs, _, hx, hk, hc, _ =>
  by_cases h : x3 = []
  ·subst h
   exact four_C2 s w W2 x0 x1 x2 hW hx cs _ (fourL_small (Q := [x0, x1, x2]) (hc ⟨by simp, rfl⟩) rfl (by simp))
  ·exact four_B3 s w W2 x0 x1 x2 x3 hW hx h cs _ (fourL_small (hk (by rintro ⟨_, h'⟩; exact h h')) rfl (by simp))
 | x0 :: x1 :: x2 :: x3 :: x4 :: R, hW, cs, _, hx, hk, hc, hP2 =>
  obtain ⟨hE2, hb2, hrow, hsz, hcell⟩ := hW
  have hlen : (x0 :: x1 :: x2 :: x3 :: x4 :: R).length = R.length + 5 := by simp
  generalize hPP : x0 :: x1 :: x2 :: x3 :: x4 :: R = P at *
  have hl : P.length = (R.length + 4) + 1 := by omega
  have hlast := getLast_is hl
  by_cases h : P[R.length + 4]'(by omega) = []
  ·have hcc : 1 < P.length ∧ P.getLastD [] = [] := ⟨by omega, by rw [hlast]; exact h⟩
   have hq := hc hcc
   have hdl : P.dropLast.length = R.length + 4 := by simp [hlen]
   cases hR : R with
   | nil =>
    subst hR
    subst hPP
    have h4 : x4 = [] := h
    subst h4
    rw [hlen] at cs
    exact four_C3 s w W2 x0 x1 x2 x3 ⟨hE2, hb2, hrow, hsz, hcell⟩ hx cs _ (fourL_small (Q := [x0, x1, x2, x3]) hq rfl (by simp))
   | cons y R' =>
    have hR' : R.length = R'.length + 1 := by rw [hR]; simp
    have c1 := hcell (R.length + 3) (by omega)
    have c2 := hcell (R.length + 4) (by omega)
    rw [h] at c2
    have hget : P.dropLast[R.length + 3]'(by omega) = P[R.length + 3]'(by omega) := by simp
    rw [hlen] at cs
    refine four_Cbig s w W2 (R.length + 3) (by omega) (by omega) (P[R.length + 3]'(by omega)) (hx _ (List.getElem_mem _)) hE2 hb2 hrow hsz c1 c2 cs _ ?_
    have := fourL_big (l := R.length + 3) hq (by omega) (by omega)
    rw [this, hget]
  ·have hcc : ¬ (1 < P.length ∧ P.getLastD [] = []) := by rintro ⟨_, h'⟩; rw [hlast] at h'; exact h h'
   have hq := hk hcc
   have c1 := hcell (R.length + 4) (by omega)
   rw [hlen] at cs
   exact four_Bbig s w W2 (R.length + 4) (by omega) (by omega) _ (hx _ (List.getElem_mem _)) hE2 hb2 hrow hsz c1 h cs _ (fourL_big hq hl (by omega))
end Go.Proofs.YtgihofogkoeimaaGreatDoor
