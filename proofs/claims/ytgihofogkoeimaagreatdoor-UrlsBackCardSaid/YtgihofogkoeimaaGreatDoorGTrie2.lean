/- The trie of the replacer of points: looking up. -/
import Derived.Test.YtgihofogkoeimaaGreatDoorTrieGen
import Derived.Test.YtgihofogkoeimaaGreatDoorShelf
import Derived.Lib.AppendStr
import Derived.Test.YtgihofogkoeimaaGreatDoorGUrl0
set_option linter.unusedVariables false
set_option linter.unusedSimpArgs false
namespace Go.Proofs.YtgihofogkoeimaaGreatDoor
open Go.RowKit
def dotB : List UInt8 → Bool
 | 37 :: 50 :: c :: _ => c == 101 || c == 69
 | _ => false
def lookV (s : List UInt8) : Value := if dotB s = true then .tuple #[.string ⟨#[46]⟩, .int .i64 3, .bool true] else .tuple #[.string ⟨#[]⟩, .int .i64 0, .bool false]
structure LookAt (n m : Nat) (w : World) : Prop where
 p0 : w.cell? ⟨n, 1, none⟩ = some (.int .i64 0)
 t0 : w.cell? ⟨n, 4, none⟩ = some (.slice (some ⟨n + 1, 0, none⟩) 4 4)
 s0 : w.cell? ⟨n, 5, none⟩ = some (.int .i64 4)
 map : ∀ k, k < 256 → w.cell? ⟨n, 6 + k, none⟩ = some (.int .u8 (mapF k : Int))
 a0 : w.cell? ⟨n + 1, 0, none⟩ = some (.pointer (some ⟨n + 2, 0, none⟩))
 a1 : w.cell? ⟨n + 1, 1, none⟩ = some (.pointer none)
 a2 : w.cell? ⟨n + 1, 2, none⟩ = some (.pointer none)
 a3 : w.cell? ⟨n + 1, 3, none⟩ = some (.pointer none)
 b1 : w.cell? ⟨n + 2, 1, none⟩ = some (.int .i64 0)
 b2 : w.cell? ⟨n + 2, 2, none⟩ = some (.string ⟨#[50]⟩)
 b3 : w.cell? ⟨n + 2, 3, none⟩ = some (.pointer (some ⟨m, 0, none⟩))
 b4 : w.cell? ⟨n + 2, 4, none⟩ = some nilT
 c1 : w.cell? ⟨m, 1, none⟩ = some (.int .i64 0)
 c4 : w.cell? ⟨m, 4, none⟩ = some (.slice (some ⟨m + 2, 0, none⟩) 4 4)
 e0 : w.cell? ⟨m + 2, 0, none⟩ = some (.pointer none)
 e1 : w.cell? ⟨m + 2, 1, none⟩ = some (.pointer none)
 e2 : w.cell? ⟨m + 2, 2, none⟩ = some (.pointer (some ⟨m + 1, 0, none⟩))
 e3 : w.cell? ⟨m + 2, 3, none⟩ = some (.pointer (some ⟨n + 3, 0, none⟩))
 f0 : w.cell? ⟨n + 3, 0, none⟩ = some (.string ⟨#[46]⟩)
 f1 : w.cell? ⟨n + 3, 1, none⟩ = some (.int .i64 4)
 f2 : w.cell? ⟨n + 3, 2, none⟩ = some (.string ⟨#[]⟩)
 f4 : w.cell? ⟨n + 3, 4, none⟩ = some nilT
 g0 : w.cell? ⟨m + 1, 0, none⟩ = some (.string ⟨#[46]⟩)
 g1 : w.cell? ⟨m + 1, 1, none⟩ = some (.int .i64 2)
 g2 : w.cell? ⟨m + 1, 2, none⟩ = some (.string ⟨#[]⟩)
 g4 : w.cell? ⟨m + 1, 4, none⟩ = some nilT
 le : n + 4 ≤ m
theorem TrieIs.look {n : Nat} {w : World} (h : TrieIs n w) : ∃ m, LookAt n m w := by
 obtain ⟨m, hm, hG, hT, hN, hM, hU, hA, hB⟩ := h
 exact ⟨m, ⟨hG.head (k := 1) (by omega), hG.head (k := 4) (by omega), hG.head (k := 5) (by omega), fun k hk => hG.map hk, hT.cell 0, hT.cell 1, hT.cell 2, hT.cell 3, hN.cell 1, hN.cell 2, hN.cell 3, hN.cell 4, hM.cell 1, hM.cell 4,
  hU.cell 0, hU.cell 1, hU.cell 2, hU.cell 3, hA.cell 0, hA.cell 1, hA.cell 2, hA.cell 4, hB.cell 0, hB.cell 1, hB.cell 2, hB.cell 4, hm⟩⟩
set_option maxRecDepth 100000 in
set_option maxHeartbeats 4000000 in
theorem look_nil (n m : Nat) (w : World) (h : LookAt n m w) :
  Calls Tryz.prog 297 #[.pointer (some ⟨n, 0, none⟩), .string ⟨#[]⟩, .bool false] w fun e w' => e = .returned (lookV []) ∧ Below w.heap.size w w' := by
 have p0 := h.p0
 go_enter Tryz.func297, Tryz.ntmps297
 go_wp2_with fail
 refine wp_loop_rounds 1 ?_
 rw [rounds_succ]
 go_wp2_with fail
 go_ret3
 exact ⟨rfl, Below.refl _ _⟩
-- CASES
theorem dotB_c {c : UInt8} {r : List UInt8} (h : c ≠ 50) : dotB (37 :: c :: r) = false := by
 unfold dotB
 split
 ·rename_i e; injection e with e1 e2; injection e2 with e2 e3; exact absurd e2 h
 ·rfl
theorem dotB_d {d : UInt8} {r : List UInt8} (h1 : d ≠ 101) (h2 : d ≠ 69) : dotB (37 :: 50 :: d :: r) = false := by
 show (d == 101 || d == 69) = false
 simp [h1, h2]
set_option maxRecDepth 100000 in
set_option maxHeartbeats 4000000 in
theorem look_one (n m : Nat) (w : World) (h : LookAt n m w) :
  Calls Tryz.prog 297 #[.pointer (some ⟨n, 0, none⟩), .string ⟨([37]).toArray⟩, .bool false] w fun e w' => e = .returned (lookV ([37])) ∧ Below w.heap.size w w' := by
 obtain ⟨p0, t0, s0, map, a0, a1, a2, a3, b1, b2, b3, b4, c1, c4, e0, e1, e2, e3, f0, f1, f2, f4, g0, g1, g2, g4, le⟩ := h
 have hneq := neq_tab
 obtain ⟨q1, q2, q3, q4⟩ := map_at
 have m37 := map 37 (by omega)
 rw [q1] at m37
 clear map
 go_enter Tryz.func297, Tryz.ntmps297
 go_wp2_with fail
 refine wp_loop_rounds 2 ?_
 rw [rounds_succ]
 go_wp2_with fail
 go_region
 go_wp2_with fail
 rw [rounds_succ]
 go_wp2_with fail
 all_goals
  go_ret3
  exact ⟨rfl, (Below.refl _ _).drew⟩
set_option maxRecDepth 100000 in
set_option maxHeartbeats 4000000 in
theorem look_c (n m : Nat) (c : UInt8) (r : List UInt8) (hc : c ≠ 50) (w : World) (h : LookAt n m w) :
  Calls Tryz.prog 297 #[.pointer (some ⟨n, 0, none⟩), .string ⟨(37 :: c :: r).toArray⟩, .bool false] w fun e w' => e = .returned (lookV (37 :: c :: r)) ∧ Below w.heap.size w w' := by
 obtain ⟨p0, t0, s0, map, a0, a1, a2, a3, b1, b2, b3, b4, c1, c4, e0, e1, e2, e3, f0, f1, f2, f4, g0, g1, g2, g4, le⟩ := h
 have hneq := neq_tab
 obtain ⟨q1, q2, q3, q4⟩ := map_at
 have m37 := map 37 (by omega)
 rw [q1] at m37
 clear map
 have cp := fun W => (Tryz.strings_HasPrefix ⟨(c :: r).toArray⟩ ⟨#[50]⟩ W).mono (R' := fun e w' => e = .returned (.bool false) ∧ W = w') fun e w' ⟨he, hw⟩ => ⟨by rw [he]; simp [Lib.hasPrefix, List.isPrefixOf, beq_eq_false_iff_ne.2 (Ne.symm hc)], hw.symm⟩
 go_enter Tryz.func297, Tryz.ntmps297
 go_wp2_with fail
 refine wp_loop_rounds 2 ?_
 rw [rounds_succ]
 go_wp2_with fail
 go_region
 go_wp2_with fail
 rw [rounds_succ]
 go_wp2_with (go_at_call 55; refine (cp _).mono ?_; rintro e w3 ⟨rfl, rfl⟩)
 all_goals
  go_ret3
  exact ⟨by unfold lookV; rw [dotB_c hc]; rfl, (Below.refl _ _).drew⟩
set_option maxRecDepth 100000 in
set_option maxHeartbeats 4000000 in
theorem look_two (n m : Nat) (w : World) (h : LookAt n m w) :
  Calls Tryz.prog 297 #[.pointer (some ⟨n, 0, none⟩), .string ⟨([37, 50]).toArray⟩, .bool false] w fun e w' => e = .returned (lookV ([37, 50])) ∧ Below w.heap.size w w' := by
 obtain ⟨p0, t0, s0, map, a0, a1, a2, a3, b1, b2, b3, b4, c1, c4, e0, e1, e2, e3, f0, f1, f2, f4, g0, g1, g2, g4, le⟩ := h
 have hneq := neq_tab
 obtain ⟨q1, q2, q3, q4⟩ := map_at
 have m37 := map 37 (by omega)
 rw [q1] at m37
 clear map
 have cp := fun W => (Tryz.strings_HasPrefix ⟨([50]).toArray⟩ ⟨#[50]⟩ W).mono (R' := fun e w' => e = .returned (.bool true) ∧ W = w') fun e w' ⟨he, hw⟩ => ⟨by rw [he]; simp [Lib.hasPrefix], hw.symm⟩
 go_enter Tryz.func297, Tryz.ntmps297
 go_wp2_with fail
 refine wp_loop_rounds 3 ?_
 rw [rounds_succ]
 go_wp2_with fail
 go_region
 go_wp2_with fail
 rw [rounds_succ]
 go_wp2_with (go_at_call 55; refine (cp _).mono ?_; rintro e w3 ⟨rfl, rfl⟩)
 rw [rounds_succ]
 go_wp2_with fail
 all_goals
  go_ret3
  exact ⟨rfl, (Below.refl _ _).drew⟩
set_option maxRecDepth 100000 in
set_option maxHeartbeats 4000000 in
theorem look_e (n m : Nat) (r : List UInt8) (w : World) (h : LookAt n m w) :
  Calls Tryz.prog 297 #[.pointer (some ⟨n, 0, none⟩), .string ⟨(37 :: 50 :: 101 :: r).toArray⟩, .bool false] w fun e w' => e = .returned (lookV (37 :: 50 :: 101 :: r)) ∧ Below w.heap.size w w' := by
 obtain ⟨p0, t0, s0, map, a0, a1, a2, a3, b1, b2, b3, b4, c1, c4, e0, e1, e2, e3, f0, f1, f2, f4, g0, g1, g2, g4, le⟩ := h
 have hneq := neq_tab
 obtain ⟨q1, q2, q3, q4⟩ := map_at
 have m37 := map 37 (by omega)
 rw [q1] at m37
 have m101 := map 101 (by omega)
 rw [q4] at m101
 clear map
 have cp := fun W => (Tryz.strings_HasPrefix ⟨(50 :: 101 :: r).toArray⟩ ⟨#[50]⟩ W).mono (R' := fun e w' => e = .returned (.bool true) ∧ W = w') fun e w' ⟨he, hw⟩ => ⟨by rw [he]; simp [Lib.hasPrefix], hw.symm⟩
 go_enter Tryz.func297, Tryz.ntmps297
 go_wp2_with fail
 refine wp_loop_rounds 4 ?_
 rw [rounds_succ]
 go_wp2_with fail
 go_region
 go_wp2_with fail
 rw [rounds_succ]
 go_wp2_with (go_at_call 55; refine (cp _).mono ?_; rintro e w3 ⟨rfl, rfl⟩)
 rw [rounds_succ]
 go_wp2_with fail
 go_region
 go_wp2_with fail
 rw [rounds_succ]
 go_wp2_with fail
 all_goals
  go_ret3
  exact ⟨rfl, (Below.refl _ _).drew.drew⟩
set_option maxRecDepth 100000 in
set_option maxHeartbeats 4000000 in
theorem look_E (n m : Nat) (r : List UInt8) (w : World) (h : LookAt n m w) :
  Calls Tryz.prog 297 #[.pointer (some ⟨n, 0, none⟩), .string ⟨(37 :: 50 :: 69 :: r).toArray⟩, .bool false] w fun e w' => e = .returned (lookV (37 :: 50 :: 69 :: r)) ∧ Below w.heap.size w w' := by
 obtain ⟨p0, t0, s0, map, a0, a1, a2, a3, b1, b2, b3, b4, c1, c4, e0, e1, e2, e3, f0, f1, f2, f4, g0, g1, g2, g4, le⟩ := h
 have hneq := neq_tab
 obtain ⟨q1, q2, q3, q4⟩ := map_at
 have m37 := map 37 (by omega)
 rw [q1] at m37
 have m69 := map 69 (by omega)
 rw [q3] at m69
 clear map
 have cp := fun W => (Tryz.strings_HasPrefix ⟨(50 :: 69 :: r).toArray⟩ ⟨#[50]⟩ W).mono (R' := fun e w' => e = .returned (.bool true) ∧ W = w') fun e w' ⟨he, hw⟩ => ⟨by rw [he]; simp [Lib.hasPrefix], hw.symm⟩
 go_enter Tryz.func297, Tryz.ntmps297
 go_wp2_with fail
 refine wp_loop_rounds 4 ?_
 rw [rounds_succ]
 go_wp2_with fail
 go_region
 go_wp2_with fail
 rw [rounds_succ]
 go_wp2_with (go_at_call 55; refine (cp _).mono ?_; rintro e w3 ⟨rfl, rfl⟩)
 rw [rounds_succ]
 go_wp2_with fail
 go_region
 go_wp2_with fail
 rw [rounds_succ]
 go_wp2_with fail
 all_goals
  go_ret3
  exact ⟨rfl, (Below.refl _ _).drew.drew⟩
set_option maxRecDepth 100000 in
set_option maxHeartbeats 4000000 in
theorem look_pp (n m : Nat) (r : List UInt8) (w : World) (h : LookAt n m w) :
  Calls Tryz.prog 297 #[.pointer (some ⟨n, 0, none⟩), .string ⟨(37 :: 50 :: 37 :: r).toArray⟩, .bool false] w fun e w' => e = .returned (lookV (37 :: 50 :: 37 :: r)) ∧ Below w.heap.size w w' := by
 obtain ⟨p0, t0, s0, map, a0, a1, a2, a3, b1, b2, b3, b4, c1, c4, e0, e1, e2, e3, f0, f1, f2, f4, g0, g1, g2, g4, le⟩ := h
 have hneq := neq_tab
 obtain ⟨q1, q2, q3, q4⟩ := map_at
 have m37 := map 37 (by omega)
 rw [q1] at m37
 clear map
 have cp := fun W => (Tryz.strings_HasPrefix ⟨(50 :: 37 :: r).toArray⟩ ⟨#[50]⟩ W).mono (R' := fun e w' => e = .returned (.bool true) ∧ W = w') fun e w' ⟨he, hw⟩ => ⟨by rw [he]; simp [Lib.hasPrefix], hw.symm⟩
 go_enter Tryz.func297, Tryz.ntmps297
 go_wp2_with fail
 refine wp_loop_rounds 4 ?_
 rw [rounds_succ]
 go_wp2_with fail
 go_region
 go_wp2_with fail
 rw [rounds_succ]
 go_wp2_with (go_at_call 55; refine (cp _).mono ?_; rintro e w3 ⟨rfl, rfl⟩)
 rw [rounds_succ]
 go_wp2_with fail
 go_region
 go_wp2_with fail
 rw [rounds_succ]
 go_wp2_with fail
 all_goals
  go_ret3
  exact ⟨rfl, (Below.refl _ _).drew.drew⟩
set_option maxRecDepth 100000 in
set_option maxHeartbeats 4000000 in
theorem look_p2 (n m : Nat) (r : List UInt8) (w : World) (h : LookAt n m w) :
  Calls Tryz.prog 297 #[.pointer (some ⟨n, 0, none⟩), .string ⟨(37 :: 50 :: 50 :: r).toArray⟩, .bool false] w fun e w' => e = .returned (lookV (37 :: 50 :: 50 :: r)) ∧ Below w.heap.size w w' := by
 obtain ⟨p0, t0, s0, map, a0, a1, a2, a3, b1, b2, b3, b4, c1, c4, e0, e1, e2, e3, f0, f1, f2, f4, g0, g1, g2, g4, le⟩ := h
 have hneq := neq_tab
 obtain ⟨q1, q2, q3, q4⟩ := map_at
 have m37 := map 37 (by omega)
 rw [q1] at m37
 have m50 := map 50 (by omega)
 rw [q2] at m50
 clear map
 have cp := fun W => (Tryz.strings_HasPrefix ⟨(50 :: 50 :: r).toArray⟩ ⟨#[50]⟩ W).mono (R' := fun e w' => e = .returned (.bool true) ∧ W = w') fun e w' ⟨he, hw⟩ => ⟨by rw [he]; simp [Lib.hasPrefix], hw.symm⟩
 go_enter Tryz.func297, Tryz.ntmps297
 go_wp2_with fail
 refine wp_loop_rounds 4 ?_
 rw [rounds_succ]
 go_wp2_with fail
 go_region
 go_wp2_with fail
 rw [rounds_succ]
 go_wp2_with (go_at_call 55; refine (cp _).mono ?_; rintro e w3 ⟨rfl, rfl⟩)
 rw [rounds_succ]
 go_wp2_with fail
 go_region
 go_wp2_with fail
 rw [rounds_succ]
 go_wp2_with fail
 all_goals
  go_ret3
  exact ⟨rfl, (Below.refl _ _).drew.drew⟩
set_option maxRecDepth 100000 in
set_option maxHeartbeats 4000000 in
theorem look_d (n m : Nat) (d : UInt8) (r : List UInt8) (hd : mapF d.toNat = 4) (h1 : d ≠ 101) (h2 : d ≠ 69) (w : World) (h : LookAt n m w) :
  Calls Tryz.prog 297 #[.pointer (some ⟨n, 0, none⟩), .string ⟨(37 :: 50 :: d :: r).toArray⟩, .bool false] w fun e w' => e = .returned (lookV (37 :: 50 :: d :: r)) ∧ Below w.heap.size w w' := by
 obtain ⟨p0, t0, s0, map, a0, a1, a2, a3, b1, b2, b3, b4, c1, c4, e0, e1, e2, e3, f0, f1, f2, f4, g0, g1, g2, g4, le⟩ := h
 have hneq := neq_tab
 obtain ⟨q1, q2, q3, q4⟩ := map_at
 have m37 := map 37 (by omega)
 rw [q1] at m37
 have md := map d.toNat d.toNat_lt
 rw [hd] at md
 have hd256 := d.toNat_lt
 have hd256i : (d.toNat : Int) < 256 := by omega
 clear map
 have cp := fun W => (Tryz.strings_HasPrefix ⟨(50 :: d :: r).toArray⟩ ⟨#[50]⟩ W).mono (R' := fun e w' => e = .returned (.bool true) ∧ W = w') fun e w' ⟨he, hw⟩ => ⟨by rw [he]; simp [Lib.hasPrefix], hw.symm⟩
 go_enter Tryz.func297, Tryz.ntmps297
 go_wp2_with fail
 refine wp_loop_rounds 3 ?_
 rw [rounds_succ]
 go_wp2_with fail
 go_region
 go_wp2_with fail
 rw [rounds_succ]
 go_wp2_with (go_at_call 55; refine (cp _).mono ?_; rintro e w3 ⟨rfl, rfl⟩)
 rw [rounds_succ]
 go_wp2_with fail
 go_region
 go_wp2_with fail
 all_goals
  go_ret3
  exact ⟨by unfold lookV; rw [dotB_d h1 h2]; rfl, (Below.refl _ _).drew.drew⟩
theorem mapF_cases : ∀ d : Fin 256, mapF d.val = 4 ∨ d.val = 37 ∨ d.val = 50 ∨ d.val = 69 ∨ d.val = 101 := by decide +kernel
theorem look_any (n m : Nat) (s : List UInt8) (w : World) (h : LookAt n m w) (hs : s = [] ∨ s.head? = some 37) :
  Calls Tryz.prog 297 #[.pointer (some ⟨n, 0, none⟩), .string ⟨s.toArray⟩, .bool false] w fun e w' => e = .returned (lookV s) ∧ Below w.heap.size w w' := by
 match s, hs with
 | [], _ => exact look_nil n m w h
 | [c], hs =>
  have : c = 37 := by
   rcases hs with e | e
   ·cases e
   ·simpa using e
  subst this
  exact look_one n m w h
 | c :: x :: s, hs =>
  have : c = 37 := by
   rcases hs with e | e
   ·cases e
   ·simpa using e
  subst this
  by_cases hx : x = 50
  ·subst hx
   cases s with
   | nil => exact look_two n m w h
   | cons d r =>
    rcases mapF_cases ⟨d.toNat, d.toNat_lt⟩ with e | e | e | e | e
    ·refine look_d n m d r e (fun q => ?_) (fun q => ?_) w h
     ·subst q; revert e; decide +kernel
     ·subst q; revert e; decide +kernel
    ·have : d = 37 := UInt8.toNat_inj.1 e
     subst this; exact look_pp n m r w h
    ·have : d = 50 := UInt8.toNat_inj.1 e
     subst this; exact look_p2 n m r w h
    ·have : d = 69 := UInt8.toNat_inj.1 e
     subst this; exact look_E n m r w h
    ·have : d = 101 := UInt8.toNat_inj.1 e
     subst this; exact look_e n m r w h
  ·exact look_c n m x s hx w h
end Go.Proofs.YtgihofogkoeimaaGreatDoor
namespace Go.Proofs.YtgihofogkoeimaaGreatDoor
open Go.RowKit
theorem e_asw : Elem1 Tryz.prog 294 5 (.int .u8 0) 1 := ⟨Tryz.underlying294, info_parts (by kernel_rfl), rfl⟩
def BufAt (lo S : Nat) (out : List UInt8) (w : World) : Prop :=
 lo ≤ S ∧ S < w.heap.size ∧ ∃ v, w.heap[S]? = some (.cells #[v] 294 (0, 0)) ∧ w.ownsRow lo 5 1 v out.length (Lib.byteCells out)
theorem BufAt.below {lo S : Nat} {out : List UInt8} {w w' : World} (h : BufAt lo S out w) (hb : Below w.heap.size w w') : BufAt lo S out w' := by
 obtain ⟨h1, h2, v, h3, h4⟩ := h
 exact ⟨h1, by have := hb.size; omega, v, (hb.block S h2).trans h3, own_below h4 hb⟩
theorem buf_ne {lo S n : Nat} {x v : Value} {xs : List Value} {w : World} (h : w.heap[S]? = some (.cells #[x] 294 (0, 0))) (ho : w.ownsRow lo 5 1 v n xs) : v.ownBlock ≠ some S := fun e => by
 rcases ho.2 with ⟨h1, _⟩ | ⟨g', cap, cur, h1, _, hg, _⟩
 ·rw [h1] at e; cases e
 ·rw [h1] at e
  have e : some g' = some S := e
  injection e with e
  rw [e, h] at hg
  simp at hg
set_option maxRecDepth 100000 in
set_option maxHeartbeats 2000000 in
theorem write_buf (lo S : Nat) (out s : List UInt8) (w : World) (h : BufAt lo S out w) (hl : out.length + s.length ≤ 10000000000) :
  Calls Tryz.prog 307 #[.pointer (some ⟨S, 0, none⟩), .string ⟨s.toArray⟩] w fun e w' => e = .returned (.tuple #[.int .i64 (s.length : Int), .nilIface]) ∧ (BufAt lo S (out ++ s) w' ∧ Below lo w w') := by
 obtain ⟨h1, h2, v, h3, h4⟩ := h
 obtain ⟨i, hi, hz, hsize, hby⟩ := e_asw.hi
 have c0 : w.cell? ⟨S, 0, none⟩ = some v := by rw [Lib.cell_of_heap h3]; rfl
 obtain ⟨a1, c1', rfl⟩ := own_form h4
 have hne : (Value.slice a1 out.length c1').ownBlock ≠ some S := buf_ne h3 h4
 have hls : lo ≤ w.heap.size := by omega
 have hlow : ∀ k, (Value.slice a1 out.length c1').ownBlock = some k → lo ≤ k := fun k hk => (h4.lt k hk).1
 go_enter Tryz.func307, Tryz.ntmps307
 go_wp2_with (at_builtin; go_loud (refine Lib.wpList_append_own_string _ rfl _ _ 294 9 rfl lo 5 i Tryz.underlying294 Tryz.underlying9 hi hz hsize hby _ out.length (Lib.byteCells out) rfl h4 ⟨s.toArray⟩ rfl (by show out.length + s.length ≤ _; unfold maxLen; omega) (by show out.length + s.length ≤ _; omega) hls ?_; intro v' w' ho hg _; obtain ⟨a2, c2', rfl⟩ := own_form ho; have hS := (hg.block S (by omega) (fun e => hne e.symm)).trans h3; have c1 : w'.cell? ⟨S, 0, none⟩ = some (.slice a1 out.length c1') := (by rw [Lib.cell_of_heap hS]; rfl); have f1 : w'.frozen? ⟨S, 0, none⟩ = false := Lib.frozen_of_heap hS 0))
 have hb : Below lo w w' := below_of_grown hg hls hlow
 have hne2 := buf_ne hS ho
 have hfin : BufAt lo S (out ++ s) (w'.setCell ⟨S, 0, none⟩ (.slice a2 (out.length + s.length) c2')) := by
  refine ⟨h1, by rw [World.size_setCell]; have := hg.size; omega, .slice a2 (out.length + s.length) c2', by rw [hset_in hS]; rfl, ?_⟩
  have hown : (w'.setCell ⟨S, 0, none⟩ (.slice a2 (out.length + s.length) c2')).ownsRow lo 5 1 (.slice a2 (out.length + s.length) c2') (out.length + s.length) (Lib.byteCells out ++ Lib.byteCells s) := by
   refine ⟨ho.1, ?_⟩
   rcases ho.2 with hh | ⟨g', cap, cur, k1, k2, k3, rest⟩
   ·exact .inl hh
   ·exact .inr ⟨g', cap, cur, k1, k2, (Below.heap_setCell _ _ _ _ (by show g' ≠ S; exact fun e => hne2 (by rw [k1]; exact congrArg some e))).trans k3, rest⟩
  rw [List.length_append]
  have : Lib.byteCells (out ++ s) = Lib.byteCells out ++ Lib.byteCells s := by simp [Lib.byteCells]
  rw [this]
  exact hown
 have hbf : Below lo w (w'.setCell ⟨S, 0, none⟩ (.slice a2 (out.length + s.length) c2')) := hb.setCell (p := ⟨S, 0, none⟩) h1 _
 clear h4 ho hg hS h3 hb hi hz hsize hby
 go_ret2
 exact ⟨rfl, hfin, hbf⟩
set_option maxRecDepth 100000 in
set_option maxHeartbeats 2000000 in
theorem assert_sw (a : Addr) (w : World) : Calls Tryz.prog 296 #[.iface 295 (.pointer (some a))] w fun e w' => e = .returned (.iface 295 (.pointer (some a))) ∧ w = w' := by
 have hta : (Instr.typeAssert (.iface 295 (.pointer (some a))) 297 299 true).run Tryz.prog w = .ok (.tuple #[.iface 295 (.pointer (some a)), .bool true]) w := by kernel_rfl
 have hnot : ∀ (x : Bool) (w : World), (Op.unary .not (.bool x)).run Tryz.prog w = .ok (.bool (!x)) w := fun _ _ => rfl
 go_enter Tryz.func296, Tryz.ntmps296
 go_wp2_with fail
 go_ret
 exact ⟨rfl, rfl⟩
end Go.Proofs.YtgihofogkoeimaaGreatDoor
namespace Go.Proofs.YtgihofogkoeimaaGreatDoor
open Go.RowKit
theorem LookAt.below {n m B : Nat} {w w' : World} (h : LookAt n m w) (hb : Below B w w') (hB : m + 2 < B) : LookAt n m w' := by
 have le := h.le
 have c : ∀ {b k : Nat} {v : Value}, b ≤ m + 2 → w.cell? ⟨b, k, none⟩ = some v → w'.cell? ⟨b, k, none⟩ = some v := fun {b k v} hbm h => (hb.cell (p := ⟨b, k, none⟩) (by show b < B; omega)).trans h
 obtain ⟨p0, t0, s0, map, a0, a1, a2, a3, b1, b2, b3, b4, c1, c4, e0, e1, e2, e3, f0, f1, f2, f4, g0, g1, g2, g4, _⟩ := h
 exact ⟨c (by omega) p0, c (by omega) t0, c (by omega) s0, fun k hk => c (by omega) (map k hk), c (by omega) a0, c (by omega) a1, c (by omega) a2, c (by omega) a3, c (by omega) b1, c (by omega) b2, c (by omega) b3, c (by omega) b4, c (by omega) c1, c (by omega) c4,
  c (by omega) e0, c (by omega) e1, c (by omega) e2, c (by omega) e3, c (by omega) f0, c (by omega) f1, c (by omega) f2, c (by omega) f4, c (by omega) g0, c (by omega) g1, c (by omega) g2, c (by omega) g4, le⟩
theorem bare_found {s : List UInt8} (h : dotB s = true) : bareP s = 46 :: bareP (s.drop 3) ∧ 3 ≤ s.length := by
 unfold dotB at h
 split at h
 ·simp only [Bool.or_eq_true, beq_iff_eq] at h
  rcases h with rfl | rfl
  ·exact ⟨by rw [bareP.eq_def]; rfl, by simp⟩
  ·exact ⟨by rw [bareP.eq_def]; rfl, by simp⟩
 ·cases h
theorem bare_lost {r : List UInt8} (h : dotB (37 :: r) = false) : bareP (37 :: r) = 37 :: bareP r := by
 refine bareP_pct fun t => ⟨fun e => ?_, fun e => ?_⟩
 ·rw [e] at h; cases h
 ·rw [e] at h; cases h
def RunEq (s out : List UInt8) (i last : Nat) : Prop := bareP s = out ++ ((s.take i).drop last ++ bareP (s.drop i))
theorem take_snoc_drop {s : List UInt8} {i last : Nat} (hi : i < s.length) (hl : last ≤ i) : (s.take (i + 1)).drop last = (s.take i).drop last ++ [s[i]] := by
 rw [List.take_succ_eq_append_getElem hi, List.drop_append_of_le_length (by simp; omega)]
theorem RunEq.step {s out : List UInt8} {i last : Nat} (h : RunEq s out i last) (hi : i < s.length) (hl : last ≤ i) (hb : bareP (s.drop i) = s[i] :: bareP (s.drop (i + 1))) : RunEq s out (i + 1) last := by
 unfold RunEq at h ⊢
 rw [h, hb, take_snoc_drop hi hl]; simp
theorem RunEq.end_ {s out : List UInt8} {last : Nat} (h : RunEq s out s.length last) : RunEq s out (s.length + 1) last := by
 unfold RunEq at h ⊢
 rw [h, List.take_of_length_le (Nat.le_refl _), List.take_of_length_le (Nat.le_succ _), List.drop_length, List.drop_eq_nil_of_le (Nat.le_succ _)]
theorem RunEq.found {s out : List UInt8} {i last : Nat} (h : RunEq s out i last) (hd : dotB (s.drop i) = true) : RunEq s ((out ++ (s.take i).drop last) ++ [46]) (i + 3) (i + 3) := by
 unfold RunEq at h ⊢
 rw [h, (bare_found hd).1, List.drop_drop]
 have : (s.take (i + 3)).drop (i + 3) = [] := List.drop_eq_nil_of_le (by simp; omega)
 rw [this]; simp
def RunPost (lo S : Nat) (s : List UInt8) (w : World) (e : Ending) (w' : World) : Prop := ∃ k : Int, e = .returned (.tuple #[.int .i64 k, .nilIface]) ∧ BufAt lo S (bareP s) w' ∧ Below lo w w'
theorem meth_buf (a : Addr) (k : Nat) (w : World) : (method (k + 1) 295 (.pointer (some a)) "WriteString").run Tryz.prog w = .ok (307, .pointer (some a)) w := by kernel_rfl
theorem call_buf (a : Addr) (x : Value) (w : World) : (callFunc 307 #[.pointer (some a), x]).run Tryz.prog w = .ok (.enter 307 #[.pointer (some a), x]) w := by kernel_rfl
theorem nil_buf (a : Addr) (k : Nat) (w : World) : (nilAhead (k + 1) 295 (.pointer (some a)) "WriteString").run Tryz.prog w = .ok (some false) w := by kernel_rfl
set_option maxRecDepth 100000 in
set_option maxHeartbeats 8000000 in
theorem run_dots (n m lo S : Nat) (s : List UInt8) (w : World) (hL : LookAt n m w) (hB : BufAt lo S [] w) (hmS : m + 2 < lo) (hs : s.length ≤ 1000000) :
  Calls Tryz.prog 295 #[.pointer (some ⟨n, 0, none⟩), .iface 295 (.pointer (some ⟨S, 0, none⟩)), .string ⟨s.toArray⟩] w (RunPost lo S s w) := by
 have hI := meth_buf ⟨S, 0, none⟩
 have hC := call_buf ⟨S, 0, none⟩
 have hN := nil_buf ⟨S, 0, none⟩
 have hmf : ∀ (fn : Fn) (first cap : Array Value) (w : World), (Instr.makeFunc fn first cap).run Tryz.prog w = .ok (.func fn first cap) w := fun _ _ _ _ => rfl
 go_enter Tryz.func295, Tryz.ntmps295
 go_wp2_with (go_at_call 296; refine (assert_sw ⟨S, 0, none⟩ _).mono ?_; rintro e w1 ⟨rfl, rfl⟩)
 go_loopw [6, 7, 9, 11, 12] (fun a6 a7 a9 a11 a12 wr => ∃ (i last : Nat) (out : List UInt8), i ≤ s.length + 1 ∧ last ≤ s.length ∧ last ≤ i ∧ a12 = .int .i64 i ∧ a9 = .int .i64 last ∧ a6 = .int .i64 out.length ∧ a7 = .nilIface ∧ a11 = .bool false ∧ out.length ≤ last ∧ BufAt lo S out wr ∧ Below lo w wr ∧ Hid (RunEq s out i last)) (fun _ _ _ _ i _ => s.length + 1 - (intOf i).toNat)
 case atStart => exact ⟨0, 0, [], Nat.zero_le _, Nat.zero_le _, Nat.le_refl _, rfl, rfl, rfl, rfl, rfl, Nat.le_refl _, hB, Below.refl _ _, by show RunEq _ _ _ _; simp [RunEq]⟩
 case round =>
  obtain ⟨i, last, out, hi, hls, hli, rfl, rfl, rfl, rfl, rfl, hol, hBu, hb, HR⟩ := hrel
  obtain ⟨V, rfl⟩ : ∃ V, V = wr := ⟨wr, rfl⟩
  have hLV := hL.below hb hmS
  clear hB
  by_cases hlt : i < s.length
  ·have hki : (i : Int) < (s.length : Int) := by omega
   have hkl : (i : Int) ≤ (s.length : Int) := by omega
   have hne : ((i : Int) != (s.length : Int)) = true := bne_iff_ne.2 (by omega)
   have hts : List.take (s.length - i) (List.drop i s) = s.drop i := List.take_of_length_le (by simp)
   have p0 := hLV.p0
   have t0 := hLV.t0
   have s0 := hLV.s0
   have mp := hLV.map _ (s[i]).toNat_lt
   have x256 := (s[i]).toNat_lt
   have hdr : s.drop i = s[i] :: s.drop (i + 1) := List.drop_eq_getElem_cons hlt
   by_cases h37 : s[i] = 37
   ·have a0 := hLV.a0
    have hh : (s.drop i).head? = some 37 := by rw [hdr, h37]; rfl
    have cl := look_any n m (s.drop i) V.drew (hLV.below (Below.refl (m + 3) V).drew (by omega)) (.inr hh)
    have hbd := hb.drew
    have hBd : BufAt lo S out V.drew := hBu
    obtain ⟨q1, _⟩ := map_at
    rw [h37] at mp
    have mp : V.cell? ⟨n, 43, none⟩ = some (.int .u8 0) := by rw [← show (mapF 37 : Int) = 0 by rw [q1]; rfl]; exact mp
    by_cases hd : dotB (s.drop i) = true
    ·have hv : lookV (s.drop i) = .tuple #[.string ⟨#[46]⟩, .int .i64 3, .bool true] := if_pos hd
     rw [hv] at cl
     have HF := Lib.hid (HR.out.found hd)
     have h3 := (bare_found hd).2
     rw [List.length_drop] at h3
     clear hLV HR hdr hh hv hd hb hBu hL
     have hpe : List.take (i - last) (List.drop last s) = (s.take i).drop last := by rw [List.drop_take]
     have hpn : ((s.take i).drop last).length = i - last := by rw [List.length_drop, List.length_take]; omega
     have hpl : ((s.take i).drop last).length ≤ s.length := by omega
     go_wp2_with fail
     go_region
     all_goals
      go_wp2_with fail
      go_at_call 297
      refine cl.mono ?_
      rintro e V2 ⟨rfl, hb2⟩
      have hB2 := hBd.below hb2
      have hbb := hbd.trans (hb2.mono (by show lo ≤ V.heap.size; have := hBd.1; have := hBd.2.1; have e : V.drew.heap.size = V.heap.size := rfl; omega))
      have cw := write_buf lo S out ((s.take i).drop last) V2.drew hB2 (by omega)
      clear cl hb2 hB2 hBd hbd
      go_wp2_with fail
      go_region_with (go_at_call 307; refine cw.mono ?_; rintro e V3 ⟨rfl, hB3, hb3⟩)
      all_goals
       have cw2 := write_buf lo S (out ++ (s.take i).drop last) [46] V3 hB3 (by rw [List.length_append, List.length_singleton]; omega)
       clear cw
       go_wp2_with (go_at_call 307; refine cw2.mono ?_; rintro e V4 ⟨rfl, hB4, hb4⟩)
       have hb5 := ((hbb.drew).trans hb3).trans hb4
       go_roundw
       case rel => exact ⟨i + 3, i + 3, (out ++ (s.take i).drop last) ++ [46], by omega, by omega, Nat.le_refl _, by go_num, by go_num, by simp only [List.length_append, List.length_singleton, hpn]; first | rfl | go_num, rfl, rfl, by simp only [List.length_append, List.length_singleton, hpn]; omega, hB4, hb5, HF⟩
       case measure => simp [intOf]; omega
    ·have hd : dotB (s.drop i) = false := by simpa using hd
     have hv : lookV (s.drop i) = .tuple #[.string ⟨#[]⟩, .int .i64 0, .bool false] := if_neg (by rw [hd]; simp)
     rw [hv] at cl
     have hbp : bareP (s.drop i) = s[i] :: bareP (s.drop (i + 1)) := by
      rw [hdr, h37] at hd ⊢
      exact bare_lost hd
     have HS := Lib.hid (HR.out.step hlt hli hbp)
     clear hLV HR hdr hh hv hd hb hBu hL hbp
     go_wp2_with fail
     go_region
     all_goals
      go_wp2_with fail
      go_at_call 297
      refine cl.mono ?_
      rintro e V2 ⟨rfl, hb2⟩
      have hB2 := hBd.below hb2
      have hbb := hbd.trans (hb2.mono (by show lo ≤ V.heap.size; have := hBd.1; have := hBd.2.1; have e : V.drew.heap.size = V.heap.size := rfl; omega))
      clear cl hb2 hBd hbd
      go_wp2_with fail
      go_roundw
      case rel => exact ⟨i + 1, last, out, by omega, hls, by omega, by go_num, rfl, rfl, rfl, rfl, hol, hB2, hbb, HS⟩
      case measure => simp [intOf]; omega
   ·have hbp : bareP (s.drop i) = s[i] :: bareP (s.drop (i + 1)) := by rw [hdr, bareP_cons h37]
    have HS := Lib.hid (HR.out.step hlt hli hbp)
    have a1 := hLV.a1
    have a2 := hLV.a2
    have a3 := hLV.a3
    have hc := mapF_cases ⟨(s[i]).toNat, (s[i]).toNat_lt⟩
    simp only at hc
    have hc2 : mapF (s[i]).toNat = 4 ∨ mapF (s[i]).toNat = 1 ∨ mapF (s[i]).toNat = 2 ∨ mapF (s[i]).toNat = 3 := by
     obtain ⟨q1, q2, q3, q4⟩ := map_at
     rcases hc with e | e | e | e | e
     ·exact .inl e
     ·exact absurd (UInt8.toNat_inj.1 e) h37
     ·rw [e]; exact .inr (.inl q2)
     ·rw [e]; exact .inr (.inr (.inl q3))
     ·rw [e]; exact .inr (.inr (.inr q4))
    have hbd := hb.drew
    have hBd : BufAt lo S out V.drew := hBu
    generalize hx : s[i] = x at *
    clear hLV hc hbp hdr hL HR h37 hb hBu
    rcases hc2 with e | e | e | e
    all_goals
     rw [e] at mp
     go_wp2_with fail
     go_region
     all_goals
      go_wp2_with fail
      go_roundw
      case rel => exact ⟨i + 1, last, out, by omega, hls, by omega, by go_num, rfl, rfl, rfl, rfl, hol, hBd, hbd, HS⟩
      case measure => simp [intOf]; omega
  ·by_cases hil : i = s.length
   ·have hkl : (i : Int) ≤ (s.length : Int) := by omega
    have hne : ((i : Int) != (s.length : Int)) = false := by simp [hil]
    have hdn : s.drop i = [] := List.drop_eq_nil_of_le (by omega)
    have hts : List.take (s.length - i) (List.drop i s) = [] := by rw [hdn]; simp
    have cl := look_any n m [] V hLV (.inl rfl)
    rw [show lookV [] = .tuple #[.string ⟨#[]⟩, .int .i64 0, .bool false] from rfl] at cl
    have HS : Hid (RunEq s out (i + 1) last) := by
     have := HR.out
     rw [hil] at this ⊢
     exact this.end_
    have p0 := hLV.p0
    have hlow := hBu.1
    have hlow2 := hBu.2.1
    clear hLV HR hL hlt hdn
    go_wp2_with fail
    go_at_call 297
    refine cl.mono ?_
    rintro e V2 ⟨rfl, hb2⟩
    have hB2 := hBu.below hb2
    have hbb := hb.trans (hb2.mono (by omega))
    clear cl hb2 hBu hb
    go_wp2_with fail
    go_roundw
    case rel => exact ⟨i + 1, last, out, by omega, hls, by omega, by go_num, rfl, rfl, rfl, rfl, hol, hB2, hbb, HS⟩
    case measure => simp [intOf]; omega
   ·have hkl : ¬ (i : Int) ≤ (s.length : Int) := by omega
    have hfin : bareP s = out ++ s.drop last := by
     have := HR.out
     unfold RunEq at this
     rw [this, show s.take i = s from List.take_of_length_le (by omega), show s.drop i = [] from List.drop_eq_nil_of_le (by omega)]; simp [bareP]
    have HF := Lib.hid hfin
    clear hLV HR hL hfin
    by_cases hl0 : last = s.length
    ·have hne : ((last : Int) != (s.length : Int)) = false := by simp [hl0]
     go_wp2_with fail
     go_ret2
     exact ⟨_, rfl, by rw [HF.out, hl0, List.drop_length, List.append_nil]; exact hBu, hb⟩
    ·have hne : ((last : Int) != (s.length : Int)) = true := bne_iff_ne.2 (by omega)
     have hlsi : (last : Int) ≤ (s.length : Int) := by omega
     have hts : List.take (s.length - last) (List.drop last s) = s.drop last := List.take_of_length_le (by simp)
     have cw := write_buf lo S out (s.drop last) V.drew hBu (by rw [List.length_drop]; omega)
     have hdl : (s.drop last).length = s.length - last := by rw [List.length_drop]
     go_wp2_with fail
     go_region_with (go_at_call 307; refine cw.mono ?_; rintro e V3 ⟨rfl, hB3, hb3⟩)
     all_goals
      have hb5 := (hb.drew).trans hb3
      clear cw hb hBu
      go_wp2_with fail
      go_ret2
      exact ⟨_, rfl, by rw [HF.out]; exact hB3, hb5⟩
end Go.Proofs.YtgihofogkoeimaaGreatDoor
namespace Go.Proofs.YtgihofogkoeimaaGreatDoor
open Go.RowKit
theorem TrieIs.kept {n : Nat} {w w' : World} (h : TrieIs n w) (e : ∀ k, n ≤ k → w'.heap[k]? = w.heap[k]?) : TrieIs n w' := by
 obtain ⟨m, hm, hG, hT, hN, hM, hU, hA, hB⟩ := h
 exact ⟨m, hm, hG.of (e _ (Nat.le_refl _)), hT.of (e _ (by omega)), hN.of (e _ (by omega)), hM.of (e _ (by omega)), hU.of (e _ (by omega)), hA.of (e _ (by omega)), hB.of (e _ (by omega))⟩
theorem TrieIs.looks {n : Nat} {w : World} (h : TrieIs n w) : ∃ m, LookAt n m w ∧ m + 2 < w.heap.size := by
 obtain ⟨m, hm, hG, hT, hN, hM, hU, hA, hB⟩ := h
 exact ⟨m, ⟨hG.head (k := 1) (by omega), hG.head (k := 4) (by omega), hG.head (k := 5) (by omega), fun k hk => hG.map hk, hT.cell 0, hT.cell 1, hT.cell 2, hT.cell 3, hN.cell 1, hN.cell 2, hN.cell 3, hN.cell 4, hM.cell 1, hM.cell 4,
  hU.cell 0, hU.cell 1, hU.cell 2, hU.cell 3, hA.cell 0, hA.cell 1, hA.cell 2, hA.cell 4, hB.cell 0, hB.cell 1, hB.cell 2, hB.cell 4, hm⟩, hU.lt⟩
set_option maxRecDepth 100000 in
set_option maxHeartbeats 4000000 in
theorem build_dots (P n g c : Nat) (W : World) (hsz : W.heap.size = n) (hg : g < n) (hr : RepAt P 0 1 .nilIface (.slice (some ⟨g, 0, none⟩) 4 c) W) (hc : ∀ j u, (strV dotsL)[j]? = some u → W.cell? ⟨g, j, none⟩ = some u) :
  Calls Tryz.prog 118 #[.pointer (some ⟨P, 0, none⟩)] W fun e W' => e = .returned (.iface 190 (.pointer (some ⟨n, 0, none⟩))) ∧ (Below n W W' ∧ TrieIs n W') := by
 have k4 : W.cell? ⟨P, 4, none⟩ = some (.slice (some ⟨g, 0, none⟩) 4 c) := hr.cell 4
 have c0 : W.cell? ⟨g, 0, none⟩ = some (.string ⟨#[37, 50, 101]⟩) := hc 0 _ rfl
 have cg := gen_made n g c W hsz hg hc
 go_enter Tryz.func118, Tryz.ntmps118
 go_wp2_with fail
 refine wp_loop_rounds 1 ?_
 rw [rounds_succ]
 go_wp2_with fail
 go_at_call 175
 refine cg.mono ?_
 rintro e w1 ⟨rfl, hb, ht⟩
 clear cg k4 c0 hr hc
 go_wp2_with fail
 go_ret
 exact ⟨rfl, hb, ht⟩
set_option maxRecDepth 100000 in
set_option maxHeartbeats 4000000 in
theorem gen_replace (n : Nat) (s : List UInt8) (w : World) (h : TrieIs n w) (hs : s.length ≤ 1000000) :
  Calls Tryz.prog 294 #[.pointer (some ⟨n, 0, none⟩), .string ⟨s.toArray⟩] w fun e w' => e = .returned (.string ⟨(bareP s).toArray⟩) ∧ Below w.heap.size w w' := by
 obtain ⟨m, hL, hm⟩ := h.looks
 obtain ⟨i, hi, hz, hsize, hby⟩ := e_asw.hi
 obtain ⟨w1, hw1⟩ : ∃ w1, w.alloc (.cells (List.replicate s.length (Value.int .u8 0)).toArray 5) = w1 := ⟨_, rfl⟩
 have hmk : (Instr.makeSlice 294 (.int .i64 0) (.int .i64 (s.length : Int))).run Tryz.prog w = .ok (.slice (some ⟨w.heap.size, 0, none⟩) 0 s.length) w1 := by
  have := run_makeSlice (P := Tryz.prog) w 294 5 i (.int .u8 0) Tryz.underlying294 hi hz .i64 .i64 0 (s.length : Int) (by omega) (by omega) (by rw [hsize]; omega) (by rw [hby]; omega) (by omega)
  rw [hsize, Int.toNat_natCast, Nat.mul_one] at this
  rw [← hw1, ← made_one]
  exact this
 have hs1 : w1.heap.size = w.heap.size + 1 := by rw [← hw1, World.size_alloc]
 have hb1 : Below w.heap.size w w1 := by rw [← hw1]; exact below_alloc _ _
 have hrow : w1.heap[w.heap.size]? = some (.cells (List.replicate s.length (Value.int .u8 0)).toArray 5 (0, 0)) := by rw [← hw1]; exact heap_alloc_new w _
 clear hw1
 have hB : BufAt w.heap.size (w.heap.size + 1) [] (w1.alloc (.cells #[.slice (some ⟨w.heap.size, 0, none⟩) 0 s.length] 294)) := by
  refine ⟨by omega, by rw [World.size_alloc]; omega, .slice (some ⟨w.heap.size, 0, none⟩) 0 s.length, by rw [← hs1]; exact heap_alloc_new w1 _, by simp [Lib.byteCells], .inr ⟨w.heap.size, s.length, _, rfl, Nat.le_refl _, (Lib.alloc_old w1 _ _ (by omega)).trans hrow, Nat.zero_le _, by unfold maxLen; omega, by simp, by simp [Lib.byteCells]⟩⟩
 have hb2 : Below w.heap.size w (w1.alloc (.cells #[.slice (some ⟨w.heap.size, 0, none⟩) 0 s.length] 294)) := hb1.alloc (by omega) _
 have cr := run_dots n m w.heap.size (w.heap.size + 1) s _ (hL.below hb2 hm) hB hm hs
 go_enter Tryz.func294, Tryz.ntmps294
 go_wp2_with fail
 go_at_call 295
 refine cr.mono ?_
 rintro e w2 ⟨k, rfl, ⟨b1, b2, v, b3, b4⟩, hb3⟩
 have k0 : w2.cell? ⟨w.heap.size + 1, 0, none⟩ = some v := by rw [Lib.cell_of_heap b3]; rfl
 have hcv := convert_bytes_own (P := Tryz.prog) (src := 294) (dst := 9) (l := bareP s) Tryz.underlying294 Tryz.underlying5 Tryz.underlying9 b4
 have hfin := hb2.trans hb3
 clear cr hB hb1 hb2 hb3 b3 b4 hrow hmk hL h
 go_wp2_with fail
 go_ret
 exact ⟨rfl, hfin⟩
theorem meth_dots (a : Addr) (k : Nat) (w : World) : (method (k + 1) 190 (.pointer (some a)) "Replace").run Tryz.prog w = .ok (294, .pointer (some a)) w := by kernel_rfl
theorem call_dots (a : Addr) (x : Value) (w : World) : (callFunc 294 #[.pointer (some a), x]).run Tryz.prog w = .ok (.enter 294 #[.pointer (some a), x]) w := by kernel_rfl
theorem rep_dots (P g c : Nat) (s : List UInt8) (w : World) (hP : P < w.heap.size) (hg : g < w.heap.size) (hne : g ≠ P) (h : RepAt P 0 0 .nilIface (.slice (some ⟨g, 0, none⟩) 4 c) w)
  (hc : ∀ j u, (strV dotsL)[j]? = some u → w.cell? ⟨g, j, none⟩ = some u) (hs : s.length ≤ 1000000) :
  Calls Tryz.prog 52 #[.pointer (some ⟨P, 0, none⟩), .string ⟨s.toArray⟩] w fun e w' => e = .returned (.string ⟨(bareP s).toArray⟩) ∧ Below P w w' := by
 have hB : Built P w.heap.size 190 ⟨w.heap.size, 0, none⟩ (.slice (some ⟨g, 0, none⟩) 4 c) (fun W => ∀ j u, (strV dotsL)[j]? = some u → W.cell? ⟨g, j, none⟩ = some u) (TrieIs w.heap.size) := by
  refine ⟨fun W k v hW j u hj => ?_, fun W hW hr hk => build_dots P w.heap.size g c W hW hg hr hk, fun W k v hW => hW.kept fun i hi => Below.heap_setCell _ _ _ _ (by show i ≠ P; omega), fun W hW => hW⟩
  rw [World.cell?_setCell_other _ _ _ _ (by simp only [ne_eq, Addr.mk.injEq, not_and]; exact fun e => absurd e.symm hne)]
  exact hW j u hj
 exact replace_r hB s (bareP s) (meth_dots _) (call_dots _) (fun W hW _ => gen_replace _ s W hW hs) w rfl hP h hc
theorem dots_use {w w' : World} {e : Ending} (h : NewPost dotsL w e w') (s : List UInt8) (hs : s.length ≤ 1000000) : ∃ P, e = .returned (.pointer (some ⟨P, 0, none⟩)) ∧ Below w.heap.size w w' ∧
  Calls Tryz.prog 52 #[.pointer (some ⟨P, 0, none⟩), .string ⟨s.toArray⟩] w' fun e w2 => e = .returned (.string ⟨(bareP s).toArray⟩) ∧ Below w.heap.size w w2 := by
 obtain ⟨P, g, c, h1, h2, h3, h4, h5, h6, h7⟩ := h
 refine ⟨P, h1, h7, (rep_dots P g c s w' (by omega) (by omega) (by omega) h5 h6 hs).mono fun e w2 ⟨he, hb⟩ => ⟨he, h7.trans (hb.mono (by omega))⟩⟩
end Go.Proofs.YtgihofogkoeimaaGreatDoor
