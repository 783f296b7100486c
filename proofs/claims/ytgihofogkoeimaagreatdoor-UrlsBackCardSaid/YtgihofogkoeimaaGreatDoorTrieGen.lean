/- The trie of the replacer of points: its making. -/
import Derived.Test.YtgihofogkoeimaaGreatDoorGTrie
import Derived.Deep.MidRow
set_option linter.unusedVariables false
set_option linter.unusedSimpArgs false
namespace Go.Proofs.YtgihofogkoeimaaGreatDoor
open Go.RowKit
def dotsL : List (List UInt8) := [[37, 50, 101], [46], [37, 50, 69], [46]]
def rowU (F : Nat → Nat) : List Value := (List.range 256).map fun k => .int .u8 (F k : Int)
theorem rowU_len (F : Nat → Nat) : (rowU F).length = 256 := by simp [rowU]
theorem rowU_get (F : Nat → Nat) {k : Nat} (h : k < 256) : (rowU F)[k]? = some (.int .u8 (F k : Int)) := by
 unfold rowU
 rw [List.getElem?_map, List.getElem?_range h]; rfl
theorem rowU_set (F : Nat → Nat) (x : Nat) {k : Nat} (h : k < 256) : (rowU F).set k (.int .u8 (x : Int)) = rowU fun j => if j = k then x else F j := by
 unfold rowU
 apply List.ext_getElem?
 intro i
 rw [List.getElem?_set]
 by_cases hi : i < 256
 ·rw [List.getElem?_map, List.getElem?_map, List.getElem?_range hi]
  by_cases hk : k = i
  ·subst hk; simp [h]
  ·rw [if_neg hk]; simp [Ne.symm hk]
 ·rw [List.getElem?_eq_none (by simp; omega), List.getElem?_eq_none (by simp; omega), if_neg (by omega)]
def genC (tab : Value) (ts : Nat) (F : Nat → Nat) : List Value := [.string ⟨#[]⟩, .int .i64 0, .string ⟨#[]⟩, .pointer none, tab, .int .i64 (ts : Int)] ++ rowU F
def GenAt (G : Nat) (tab : Value) (ts : Nat) (F : Nat → Nat) (w : World) : Prop := w.heap[G]? = some (.cells (genC tab ts F).toArray 232 (0, 0))
theorem GenAt.lt {G tab ts F} {w : World} (h : GenAt G tab ts F w) : G < w.heap.size := (Array.getElem?_eq_some_iff.1 h).1
theorem GenAt.of {G tab ts F} {w w' : World} (h : GenAt G tab ts F w) (e : w'.heap[G]? = w.heap[G]?) : GenAt G tab ts F w' := e.trans h
theorem GenAt.free {G tab ts F} {w : World} (h : GenAt G tab ts F w) (k : Nat) : w.frozen? ⟨G, k, none⟩ = false := Lib.frozen_of_heap h k
theorem GenAt.map {G tab ts F} {w : World} (h : GenAt G tab ts F w) {k : Nat} (hk : k < 256) : w.cell? ⟨G, 6 + k, none⟩ = some (.int .u8 (F k : Int)) := by
 rw [Lib.cell_of_heap h, List.getElem?_toArray, genC, List.getElem?_append_right (by simp)]
 simp only [List.length_cons, List.length_nil, Nat.add_sub_cancel_left]
 exact rowU_get F hk
theorem GenAt.head {G tab ts F} {w : World} (h : GenAt G tab ts F w) {k : Nat} (hk : k < 6) : w.cell? ⟨G, k, none⟩ = ([Value.string ⟨#[]⟩, .int .i64 0, .string ⟨#[]⟩, .pointer none, tab, .int .i64 (ts : Int)] : List Value)[k]? := by
 rw [Lib.cell_of_heap h, List.getElem?_toArray, genC, List.getElem?_append_left (by simpa using hk)]
theorem GenAt.put {G tab ts F} {w : World} (h : GenAt G tab ts F w) {k : Nat} (hk : k < 256) (x : Nat) : GenAt G tab ts (fun j => if j = k then x else F j) (w.setCell ⟨G, 6 + k, none⟩ (.int .u8 (x : Int))) := by
 unfold GenAt
 rw [hset_in h, List.setIfInBounds_toArray, genC, List.set_append_right _ _ (by simp)]
 simp only [List.length_cons, List.length_nil, Nat.add_sub_cancel_left]
 rw [rowU_set F x hk]; rfl
theorem GenAt.sum {G tab ts F} {w : World} (h : GenAt G tab ts F w) (x : Nat) : GenAt G tab x F (w.setCell ⟨G, 5, none⟩ (.int .i64 (x : Int))) := by
 unfold GenAt
 rw [hset_in h, List.setIfInBounds_toArray]; rfl
theorem GenAt.root {G tab ts F} {w : World} (h : GenAt G tab ts F w) (x : Value) : GenAt G x ts F (w.setCell ⟨G, 4, none⟩ x) := by
 unfold GenAt
 rw [hset_in h, List.setIfInBounds_toArray]; rfl
theorem GenAt.range {G tab ts F} {w : World} (h : GenAt G tab ts F w) : w.rangeAt G 6 (rowU F) := fun j v hv => by
 have hj : j < 256 := by have := (List.getElem?_eq_some_iff.1 hv).1; rw [rowU_len] at this; exact this
 rw [h.map hj, ← rowU_get F hj, hv]
theorem index_arr (A : Array Value) (k : Nat) (v : Value) (w : World) (hk : k < 256) (h : A[k]? = some v) : (Instr.index 163 (.agg A) (.int .i64 (k : Int))).run Tryz.prog w = .ok v w := by
 obtain ⟨i, hi, hz, hsize, hby⟩ := e_u8t.hi
 have h1 : (0 : Int) ≤ (k : Int) ∧ (k : Int) < 256 := ⟨by omega, by omega⟩
 simp [Instr.index, asIntOf, run_underlying Tryz.underlying163, run_underlying Tryz.underlying5, part, isAgg, sizeOf, typeInfo, hi, hsize, hk, h]
def markF (j : Nat) : Nat := if j = 37 ∨ (j = 50 ∨ (j = 101 ∨ j = 69)) then 1 else 0
def cntM (k : Nat) : Nat := ((List.range k).map markF).sum
theorem cntM_succ (k : Nat) : cntM (k + 1) = cntM k + markF k := by
 unfold cntM
 rw [List.range_succ, List.map_append, List.sum_append]; simp
theorem cntM_all : cntM 256 = 4 := by decide +kernel
theorem cntM_le (k : Nat) : cntM k ≤ k := by
 induction k with
 | zero => exact Nat.le_refl _
 | succ k ih => rw [cntM_succ]; unfold markF; split <;> omega
theorem cntM_le4 : ∀ k : Fin 257, cntM k.val ≤ 4 := by decide +kernel
def mapF (j : Nat) : Nat := if markF j = 0 then 4 else cntM j
def stepF (k j : Nat) : Nat := if j < k then mapF j else markF j
theorem stepF_zero : stepF 0 = markF := by funext j; simp [stepF]
theorem stepF_zero_at {k : Nat} (h : markF k = 0) : (fun j => if j = k then 4 else stepF k j) = stepF (k + 1) := by
 funext j
 unfold stepF
 by_cases e : j = k
 ·subst e; rw [if_pos rfl, if_pos (by omega), mapF, if_pos h]
 ·rw [if_neg e]
  by_cases l : j < k
  ·rw [if_pos l, if_pos (by omega)]
  ·rw [if_neg l, if_neg (by omega)]
theorem stepF_one_at {k : Nat} (h : markF k = 1) : (fun j => if j = k then cntM k else stepF k j) = stepF (k + 1) := by
 funext j
 unfold stepF
 by_cases e : j = k
 ·subst e; rw [if_pos rfl, if_pos (by omega), mapF, if_neg (by omega)]
 ·rw [if_neg e]
  by_cases l : j < k
  ·rw [if_pos l, if_pos (by omega)]
  ·rw [if_neg l, if_neg (by omega)]
theorem stepF_all : rowU (stepF 256) = rowU mapF := by
 unfold rowU
 refine List.map_congr_left fun j hj => ?_
 rw [List.mem_range] at hj
 rw [stepF, if_pos hj]
theorem map_at : mapF 37 = 0 ∧ mapF 50 = 1 ∧ mapF 69 = 2 ∧ mapF 101 = 3 := by decide +kernel
theorem GenAt.genM {G tab} {w : World} (h : GenAt G tab 4 mapF w) : GenM G w := by
 obtain ⟨m1, m2, m3, m4⟩ := map_at
 have a := h.map (k := 37) (by omega)
 have b := h.map (k := 50) (by omega)
 have c := h.map (k := 69) (by omega)
 have d := h.map (k := 101) (by omega)
 rw [m1] at a; rw [m2] at b; rw [m3] at c; rw [m4] at d
 exact ⟨h.head (k := 5) (by omega), a, b, c, d⟩
theorem GenAt.rootAt {G T ts F} {w : World} (h : GenAt G (.slice (some ⟨T, 0, none⟩) 4 4) ts F w) : RootAt G T w := ⟨h.head (k := 2) (by omega), h.head (k := 4) (by omega)⟩
def TrieIs (n : Nat) (w : World) : Prop :=
 ∃ m, n + 4 ≤ m ∧ GenAt n (.slice (some ⟨n + 1, 0, none⟩) 4 4) 4 mapF w ∧ TableAt (n + 1) (some ⟨n + 2, 0, none⟩) none none none w ∧ NodeAt (n + 2) [] 0 [50] (some ⟨m, 0, none⟩) nilT w ∧
  NodeAt m [] 0 [] none (.slice (some ⟨m + 2, 0, none⟩) 4 4) w ∧ TableAt (m + 2) none none (some ⟨m + 1, 0, none⟩) (some ⟨n + 3, 0, none⟩) w ∧ NodeAt (n + 3) [46] 4 [] none nilT w ∧ NodeAt (m + 1) [46] 2 [] none nilT w
set_option maxRecDepth 100000 in
set_option maxHeartbeats 8000000 in
theorem gen_made (n g c : Nat) (w : World) (hw : w.heap.size = n) (hg : g < n) (hc : ∀ j u, (strV dotsL)[j]? = some u → w.cell? ⟨g, j, none⟩ = some u) :
  Calls Tryz.prog 175 #[.slice (some ⟨g, 0, none⟩) 4 c] w fun e w' => e = .returned (.pointer (some ⟨n, 0, none⟩)) ∧ (Below n w w' ∧ TrieIs n w') := by
 have d0 : ∀ W', Below n w W' → W'.cell? ⟨g, 0, none⟩ = some (.string ⟨#[37, 50, 101]⟩) := fun W' hb => (hb.cell (p := ⟨g, 0, none⟩) hg).trans (hc 0 _ rfl)
 have d1 : ∀ W', Below n w W' → W'.cell? ⟨g, 1, none⟩ = some (.string ⟨#[46]⟩) := fun W' hb => (hb.cell (p := ⟨g, 1, none⟩) hg).trans (hc 1 _ rfl)
 have d2 : ∀ W', Below n w W' → W'.cell? ⟨g, 2, none⟩ = some (.string ⟨#[37, 50, 69]⟩) := fun W' hb => (hb.cell (p := ⟨g, 2, none⟩) hg).trans (hc 2 _ rfl)
 have d3 : ∀ W', Below n w W' → W'.cell? ⟨g, 3, none⟩ = some (.string ⟨#[46]⟩) := fun W' hb => (hb.cell (p := ⟨g, 3, none⟩) hg).trans (hc 3 _ rfl)
 have hZ : Tryz.zeroCells232 = (genC (.slice none 0 0) 0 fun _ => 0).toArray := by kernel_rfl
 obtain ⟨V0, hV0⟩ : ∃ V, w.alloc (.cells Tryz.zeroCells232 232) = V := ⟨_, rfl⟩
 have h0 : GenAt n nilT 0 (fun _ => 0) V0 := by have := heap_alloc_new w (.cells Tryz.zeroCells232 232); rw [hV0, hw, hZ] at this; exact this
 have b0 : Below n w V0 := by rw [← hV0]; exact (Below.refl n w).alloc (by omega) _
 have s0 : V0.heap.size = n + 1 := by rw [← hV0, World.size_alloc, hw]
 clear hZ hc
 go_enter Tryz.func175, Tryz.ntmps175
 go_wp2_with fail
 clear hV0
 refine wp_loop_rounds 3 ?_
 have e0 := d0 _ b0
 rw [rounds_succ]
 go_wp2_with fail
 clear e0
 refine wp_loop_rounds 4 ?_
 have q0 : V0.cell? ⟨n, 43, none⟩ = some _ := h0.map (k := 37) (by omega)
 have z0 : V0.frozen? ⟨n, 43, none⟩ = false := h0.free 43
 rw [rounds_succ]
 go_wp2_with fail
 go_region
 go_wp2_with fail
 obtain ⟨V1, hV1⟩ : ∃ V, (V0.setCell ⟨n, 43, none⟩ (.int .u8 1)).drew = V := ⟨_, rfl⟩
 rw [hV1]
 have p0 := h0.put (k := 37) (by omega) 1
 have h1 := p0.of (w' := V1) (by rw [← hV1]; rfl)
 have b1 : Below n w V1 := by rw [← hV1]; exact (b0.setCell (p := ⟨n, 43, none⟩) (Nat.le_refl _) _).drew
 have s1 : V1.heap.size = n + 1 := by rw [← hV1]; show (World.setCell _ _ _).heap.size = _; rw [World.size_setCell]; exact s0
 clear p0 hV1 h0 b0 s0 q0 z0
 have q1 : V1.cell? ⟨n, 56, none⟩ = some _ := h1.map (k := 50) (by omega)
 have z1 : V1.frozen? ⟨n, 56, none⟩ = false := h1.free 56
 rw [rounds_succ]
 go_wp2_with fail
 go_region
 go_wp2_with fail
 obtain ⟨V2, hV2⟩ : ∃ V, (V1.setCell ⟨n, 56, none⟩ (.int .u8 1)).drew = V := ⟨_, rfl⟩
 rw [hV2]
 have p1 := h1.put (k := 50) (by omega) 1
 have h2 := p1.of (w' := V2) (by rw [← hV2]; rfl)
 have b2 : Below n w V2 := by rw [← hV2]; exact (b1.setCell (p := ⟨n, 56, none⟩) (Nat.le_refl _) _).drew
 have s2 : V2.heap.size = n + 1 := by rw [← hV2]; show (World.setCell _ _ _).heap.size = _; rw [World.size_setCell]; exact s1
 clear p1 hV2 h1 b1 s1 q1 z1
 have q2 : V2.cell? ⟨n, 107, none⟩ = some _ := h2.map (k := 101) (by omega)
 have z2 : V2.frozen? ⟨n, 107, none⟩ = false := h2.free 107
 rw [rounds_succ]
 go_wp2_with fail
 go_region
 go_wp2_with fail
 obtain ⟨V3, hV3⟩ : ∃ V, (V2.setCell ⟨n, 107, none⟩ (.int .u8 1)).drew = V := ⟨_, rfl⟩
 rw [hV3]
 have p2 := h2.put (k := 101) (by omega) 1
 have h3 := p2.of (w' := V3) (by rw [← hV3]; rfl)
 have b3 : Below n w V3 := by rw [← hV3]; exact (b2.setCell (p := ⟨n, 107, none⟩) (Nat.le_refl _) _).drew
 have s3 : V3.heap.size = n + 1 := by rw [← hV3]; show (World.setCell _ _ _).heap.size = _; rw [World.size_setCell]; exact s2
 clear p2 hV3 h2 b2 s2 q2 z2
 rw [rounds_succ]
 go_wp2_with fail
 have e1 := d2 _ b3
 rw [rounds_succ]
 go_wp2_with fail
 clear e1
 refine wp_loop_rounds 4 ?_
 have q3 : V3.cell? ⟨n, 43, none⟩ = some _ := h3.map (k := 37) (by omega)
 have z3 : V3.frozen? ⟨n, 43, none⟩ = false := h3.free 43
 rw [rounds_succ]
 go_wp2_with fail
 go_region
 go_wp2_with fail
 obtain ⟨V4, hV4⟩ : ∃ V, (V3.setCell ⟨n, 43, none⟩ (.int .u8 1)).drew = V := ⟨_, rfl⟩
 rw [hV4]
 have p3 := h3.put (k := 37) (by omega) 1
 have h4 := p3.of (w' := V4) (by rw [← hV4]; rfl)
 have b4 : Below n w V4 := by rw [← hV4]; exact (b3.setCell (p := ⟨n, 43, none⟩) (Nat.le_refl _) _).drew
 have s4 : V4.heap.size = n + 1 := by rw [← hV4]; show (World.setCell _ _ _).heap.size = _; rw [World.size_setCell]; exact s3
 clear p3 hV4 h3 b3 s3 q3 z3
 have q4 : V4.cell? ⟨n, 56, none⟩ = some _ := h4.map (k := 50) (by omega)
 have z4 : V4.frozen? ⟨n, 56, none⟩ = false := h4.free 56
 rw [rounds_succ]
 go_wp2_with fail
 go_region
 go_wp2_with fail
 obtain ⟨V5, hV5⟩ : ∃ V, (V4.setCell ⟨n, 56, none⟩ (.int .u8 1)).drew = V := ⟨_, rfl⟩
 rw [hV5]
 have p4 := h4.put (k := 50) (by omega) 1
 have h5 := p4.of (w' := V5) (by rw [← hV5]; rfl)
 have b5 : Below n w V5 := by rw [← hV5]; exact (b4.setCell (p := ⟨n, 56, none⟩) (Nat.le_refl _) _).drew
 have s5 : V5.heap.size = n + 1 := by rw [← hV5]; show (World.setCell _ _ _).heap.size = _; rw [World.size_setCell]; exact s4
 clear p4 hV5 h4 b4 s4 q4 z4
 have q5 : V5.cell? ⟨n, 75, none⟩ = some _ := h5.map (k := 69) (by omega)
 have z5 : V5.frozen? ⟨n, 75, none⟩ = false := h5.free 75
 rw [rounds_succ]
 go_wp2_with fail
 go_region
 go_wp2_with fail
 obtain ⟨V6, hV6⟩ : ∃ V, (V5.setCell ⟨n, 75, none⟩ (.int .u8 1)).drew = V := ⟨_, rfl⟩
 rw [hV6]
 have p5 := h5.put (k := 69) (by omega) 1
 have h6 := p5.of (w' := V6) (by rw [← hV6]; rfl)
 have b6 : Below n w V6 := by rw [← hV6]; exact (b5.setCell (p := ⟨n, 75, none⟩) (Nat.le_refl _) _).drew
 have s6 : V6.heap.size = n + 1 := by rw [← hV6]; show (World.setCell _ _ _).heap.size = _; rw [World.size_setCell]; exact s5
 clear p5 hV6 h5 b5 s5 q5 z5
 rw [rounds_succ]
 go_wp2_with fail
 rw [rounds_succ]
 go_wp2_with fail
 have hF : (fun j => if j = 69 then 1 else if j = 50 then 1 else if j = 37 then 1 else if j = 101 then 1 else if j = 50 then 1 else if j = 37 then 1 else 0) = markF := by
  funext j
  unfold markF
  repeat' split
  all_goals first | rfl | omega
 rw [hF] at h6
 clear hF
 refine wp_load_mid 163 (.tmp 39) rfl n 6 rfl (rowU markF) _ h6.range Tryz.underlying163 rfl (by kernel_rfl) ?_
 obtain ⟨A, hA⟩ : ∃ A, (rowU markF).toArray = A := ⟨_, rfl⟩
 rw [hA]
 have hAg : ∀ k, k < 256 → A[k]? = some (.int .u8 (markF k : Int)) := fun k hk => by rw [← hA, List.getElem?_toArray]; exact rowU_get markF hk
 have HA := Lib.hid hA
 clear hA
 go_wp2_with fail
 go_loopw [41] (fun a41 wr => ∃ k : Nat, k ≤ 256 ∧ a41 = .int .i64 k ∧ GenAt n nilT (cntM k) markF wr ∧ Below n w wr ∧ wr.heap.size = n + 1) (fun i _ => 256 - (intOf i).toNat)
 case atStart => exact ⟨0, Nat.zero_le _, rfl, h6, b6, s6⟩
 case round =>
  obtain ⟨k, hk, rfl, hG, hb, hs⟩ := hrel
  obtain ⟨V, rfl⟩ : ∃ V, V = wr := ⟨wr, rfl⟩
  clear h6 b6 s6
  by_cases hlt : k < 256
  ·have hki : (k : Int) < 256 := by omega
   have hx := index_arr A k _ V hlt (hAg k hlt)
   have c5 : V.cell? ⟨n, 5, none⟩ = some (.int .i64 (cntM k : Int)) := hG.head (k := 5) (by omega)
   have f5 := hG.free 5
   have hle := cntM_le k
   have hm : markF k ≤ 1 := by unfold markF; split <;> omega
   have hG2 := hG.sum (cntM k + markF k)
   rw [← cntM_succ] at hG2
   have HG : Hid (GenAt n nilT (cntM (k + 1)) markF (V.setCell ⟨n, 5, none⟩ (.int .i64 ((cntM (k + 1) : Nat) : Int)))) := hG2
   have HS : Hid (((cntM (k + 1) : Nat) : Int) = (cntM k : Int) + (markF k : Int)) := by show _ = _; rw [cntM_succ]; omega
   have hb2 := hb.setCell (p := ⟨n, 5, none⟩) (Nat.le_refl _) (.int .i64 ((cntM (k + 1) : Nat) : Int))
   clear hG2 hAg hG
   go_wp2_with fail
   go_roundw
   case rel =>
    rw [← HS.out]
    exact ⟨k + 1, by omega, by go_num, HG.out, hb2, by rw [World.size_setCell]; exact hs⟩
   case measure => simp [intOf]; omega
  ·have hki : ¬ (k : Int) < 256 := by omega
   have hk256 : k = 256 := by omega
   subst hk256
   rw [cntM_all] at hG
   go_wp2_with fail
   refine wp_load_mid 163 (.tmp 56) rfl n 6 rfl (rowU markF) _ hG.range Tryz.underlying163 rfl (by kernel_rfl) ?_
   rw [HA.out]
   go_wp2_with fail
   go_loopw [9, 58] (fun a9 a58 wr => ∃ k : Nat, k ≤ 256 ∧ a58 = .int .i64 k ∧ a9 = .int .u8 (cntM k : Int) ∧ GenAt n nilT 4 (stepF k) wr ∧ Below n w wr ∧ wr.heap.size = n + 1) (fun _ i _ => 256 - (intOf i).toNat)
   case atStart => exact ⟨0, Nat.zero_le _, rfl, rfl, by rw [stepF_zero]; exact hG, hb, hs⟩
   case round =>
    clear hG hb hs hki hlt hk
    obtain ⟨k, hk, rfl, rfl, hG, hb, hs⟩ := hrel
    obtain ⟨V, rfl⟩ : ∃ V, V = wr := ⟨wr, rfl⟩
    by_cases hlt : k < 256
    ·have hki : (k : Int) < 256 := by omega
     have hx := index_arr A k _ V hlt (hAg k hlt)
     have c5 : V.cell? ⟨n, 5, none⟩ = some (.int .i64 4) := hG.head (k := 5) (by omega)
     have ck := hG.map hlt
     have fk := hG.free (6 + k)
     have h4 := cntM_le4 ⟨k, by omega⟩
     simp only at h4
     have hm : markF k ≤ 1 := by unfold markF; split <;> omega
     clear hAg
     by_cases h0 : markF k = 0
     ·rw [h0] at hx
      have hG2 := hG.put hlt 4
      rw [stepF_zero_at h0] at hG2
      have hb2 := hb.setCell (p := ⟨n, 6 + k, none⟩) (Nat.le_refl _) (.int .u8 (4 : Nat))
      have HS : Hid (cntM (k + 1) = cntM k) := by show _ = _; rw [cntM_succ, h0]; rfl
      have HG := Lib.hid hG2
      clear hG2 hG
      go_wp2_with fail
      go_region
      all_goals
       go_wp2_with fail
       go_roundw
       case rel => exact ⟨k + 1, by omega, by go_num, by rw [HS.out], HG.out.of rfl, hb2.drew, by show (World.setCell _ _ _).heap.size = _; rw [World.size_setCell]; exact hs⟩
       case measure => simp [intOf]; omega
     ·have h1 : markF k = 1 := by omega
      rw [h1] at hx
      have hG2 := hG.put hlt (cntM k)
      rw [stepF_one_at h1] at hG2
      have hb2 := hb.setCell (p := ⟨n, 6 + k, none⟩) (Nat.le_refl _) (.int .u8 ((cntM k : Nat) : Int))
      have HS : Hid (cntM (k + 1) = cntM k + 1) := by show _ = _; rw [cntM_succ, h1]
      have HG := Lib.hid hG2
      clear hG2 hG
      go_wp2_with fail
      go_roundw
      case rel => exact ⟨k + 1, by omega, by go_num, by rw [HS.out]; go_num, HG.out, hb2, by rw [World.size_setCell]; exact hs⟩
      case measure => simp [intOf]; omega
    ·have hki : ¬ (k : Int) < 256 := by omega
     have hk256 : k = 256 := by omega
     subst hk256
     have hG3 := hG
     rw [GenAt, genC, stepF_all] at hG3
     have hG4 : GenAt n nilT 4 mapF V := hG3
     clear hG3 hG hAg
     have hmk := make_table V (n + 1) hs
     obtain ⟨U0, hU0⟩ : ∃ U, V.alloc (.cells #[.pointer none, .pointer none, .pointer none, .pointer none] 227) = U := ⟨_, rfl⟩
     rw [hU0] at hmk
     have T0 : TableAt (n + 1) none none none none U0 := by rw [← hU0, ← hs]; exact heap_alloc_new V _
     have g0 := hG4.of (w' := U0) (by rw [← hU0]; exact Lib.alloc_old V _ n hG4.lt)
     have b0 : Below n w U0 := by rw [← hU0]; exact hb.alloc (by omega) _
     have s0 : U0.heap.size = n + 2 := by rw [← hU0, World.size_alloc, hs]
     have c4 : V.cell? ⟨n, 4, none⟩ = some nilT := hG4.head (k := 4) (by omega)
     have c5 : V.cell? ⟨n, 5, none⟩ = some (.int .i64 4) := hG4.head (k := 5) (by omega)
     have x4 : U0.cell? ⟨n, 4, none⟩ = some nilT := g0.head (k := 4) (by omega)
     have y4 := g0.free 4
     have g1 := g0.root (.slice (some ⟨n + 1, 0, none⟩) 4 4)
     clear hU0
     go_wp2_with fail
     obtain ⟨U1, hU1⟩ : ∃ U, U0.setCell ⟨n, 4, none⟩ (.slice (some ⟨n + 1, 0, none⟩) 4 4) = U := ⟨_, rfl⟩
     rw [hU1] at g1 ⊢
     have T1 := T0.of (w' := U1) (by rw [← hU1]; exact Below.heap_setCell _ _ _ _ (by show n + 1 ≠ n; omega))
     have b1 : Below n w U1 := by rw [← hU1]; exact b0.setCell (p := ⟨n, 4, none⟩) (Nat.le_refl _) _
     have s1 : U1.drew.heap.size = n + 2 := by rw [← hU1]; show (World.setCell _ _ _).heap.size = _; rw [World.size_setCell, s0]
     clear hU1 hmk T0 g0 b0 s0 c4 c5 x4 y4 hb hs hG4 HA hk hlt
     have e0 := d0 _ b1
     have e1 := d1 _ b1
     have ca := add_root1 n (n + 1) [46] 4 U1.drew (g1.rootAt.of rfl) (g1.genM.of rfl) T1 (by omega)
     refine wp_loop_rounds 3 ?_
     rw [rounds_succ]
     go_wp2_with fail
     go_region_with (go_at_call 224; refine ca.mono ?_; rintro e W1 ⟨rfl, T2, N1, N2, K1⟩)
     all_goals
      rw [s1] at T2 N1 N2 K1
      have g2 := g1.of (w' := W1) (K1.2 n (by omega) (by omega))
      have b2 : Below n w W1 := (b1.drew).trans (K1.1.mono (by omega))
      have hz := N2.lt
      have e2 := d2 _ b2
      have e3 := d3 _ b2
      have cb := add_root2 n (n + 1) (n + 2) (n + 3) [46] 2 W1.drew (g2.rootAt.of rfl) (g2.genM.of rfl) T2 N1 (by omega)
      have s2 : W1.drew.heap.size = W1.heap.size := rfl
      clear ca e0 e1 T1 K1 b1 s1 g1
      go_wp2_with fail
      rw [rounds_succ]
      go_wp2_with fail
      go_region_with (go_at_call 224; refine cb.mono ?_; rintro e W2 ⟨rfl, M1, M2, M3, M4, K2⟩)
      all_goals
       rw [s2] at M1 M2 M3 M4 K2
       have g3 := g2.of (w' := W2) (K2.2 n (by omega) (by omega))
       have T3 := T2.of (w' := W2) (K2.2 (n + 1) (by omega) (by omega))
       have N3 := N2.of (w' := W2) (K2.2 (n + 3) (by omega) (by omega))
       have b3 : Below n w W2 := (b2.drew).trans (K2.1.mono (by omega))
       clear cb e2 e3 T2 K2 b2 g2 N1 N2
       go_wp2_with fail
       rw [rounds_succ]
       go_wp2_with fail
       go_ret
       exact ⟨rfl, b3, W1.heap.size, by omega, g3, T3, M1, M2, M3, N3, M4⟩
end Go.Proofs.YtgihofogkoeimaaGreatDoor
