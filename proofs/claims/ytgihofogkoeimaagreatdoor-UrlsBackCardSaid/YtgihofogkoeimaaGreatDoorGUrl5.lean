/- strings.Trim of two bytes at the slashes. -/
import Derived.Test.YtgihofogkoeimaaGreatDoorGUrl3
import Derived.LoopN
import Derived.BigRegion
set_option linter.unusedVariables false
set_option linter.unusedSimpArgs false
namespace Go.Proofs.YtgihofogkoeimaaGreatDoor
open Go.RowKit
def trimR2 (a b : UInt8) : List UInt8 := if slashB b = true then (if slashB a = true then [] else [a]) else [a, b]
theorem trimR2_nil (a b : UInt8) : ((trimR2 a b).dropWhile slashB == []) = (slashB a && slashB b) := by
 unfold trimR2
 cases ha : slashB a <;> cases hb : slashB b <;> simp [List.dropWhile_cons, ha, hb]
theorem trimR2_len (a b : UInt8) : (trimR2 a b).length ≤ 2 := by
 unfold trimR2
 split
 ·split <;> simp
 ·simp
set_option maxRecDepth 100000 in
set_option maxHeartbeats 2000000 in
theorem trim_right (p : Nat) (a b : UInt8) (w : World) (hp : ∀ x : UInt8, w.cell? ⟨p, x.toNat, none⟩ = some (.bool (slashB x))) :
  Calls Tryz.prog 123 #[.string ⟨#[a, b]⟩, .pointer (some ⟨p, 0, none⟩)] w fun e w' => e = .returned (.string ⟨(trimR2 a b).toArray⟩) ∧ w = w' := by
 have hnot : ∀ (x : Bool) (w : World), (Op.unary .not (.bool x)).run Tryz.prog w = .ok (.bool (!x)) w := fun _ _ => rfl
 have ca := Tryz.asciiSet_contains p a (slashB a) w (hp a)
 have cb := Tryz.asciiSet_contains p b (slashB b) w (hp b)
 have hT : Hid (trimR2 a b = if slashB b = true then (if slashB a = true then [] else [a]) else [a, b]) := rfl
 clear hp
 cases hb : slashB b with
 | false =>
  rw [hb] at cb hT
  go_enter Tryz.func123, Tryz.ntmps123
  go_wp2_with fail
  refine wp_loop_rounds 3 ?_
  rw [rounds_succ]
  go_wp2_with (go_at_call 131; refine cb.mono ?_; rintro e w2 ⟨rfl, rfl⟩)
  go_ret
  exact ⟨by rw [hT.out]; rfl, rfl⟩
 | true =>
  rw [hb] at cb hT
  cases ha : slashB a with
  | false =>
   rw [ha] at ca hT
   go_enter Tryz.func123, Tryz.ntmps123
   go_wp2_with fail
   refine wp_loop_rounds 3 ?_
   rw [rounds_succ]
   go_wp2_with (go_at_call 131; refine cb.mono ?_; rintro e w2 ⟨rfl, rfl⟩)
   rw [rounds_succ]
   go_wp2_with (go_at_call 131; refine ca.mono ?_; rintro e w2 ⟨rfl, rfl⟩)
   go_ret
   exact ⟨by rw [hT.out]; rfl, rfl⟩
  | true =>
   rw [ha] at ca hT
   go_enter Tryz.func123, Tryz.ntmps123
   go_wp2_with fail
   refine wp_loop_rounds 3 ?_
   rw [rounds_succ]
   go_wp2_with (go_at_call 131; refine cb.mono ?_; rintro e w2 ⟨rfl, rfl⟩)
   rw [rounds_succ]
   go_wp2_with (go_at_call 131; refine ca.mono ?_; rintro e w2 ⟨rfl, rfl⟩)
   rw [rounds_succ]
   go_wp2_with fail
   go_ret
   exact ⟨by rw [hT.out]; rfl, rfl⟩
set_option maxRecDepth 100000 in
set_option maxHeartbeats 4000000 in
theorem trim_two (a b : UInt8) (w : World) :
  Calls Tryz.prog 81 #[.string ⟨#[a, b]⟩, .string ⟨#[47, 92]⟩] w fun e w' => e = .returned (.string ⟨((trimR2 a b).dropWhile slashB).toArray⟩) ∧ Below w.heap.size w w' := by
 have hv : ∀ w, (zeroValue 145).run Tryz.prog w = .ok (.agg (Array.replicate 256 (.bool false))) w := fun w => by kernel_rfl
 have cm := Tryz.strings_makeASCIISet hv ⟨#[47, 92]⟩ w (by decide) (fun j b hj => (show ∀ c ∈ ([47, 92] : List UInt8), c.toNat < 128 by decide) b (List.mem_of_getElem? hj))
 have cm : Calls Tryz.prog 121 #[.string ⟨#[47, 92]⟩] w fun e w' => e = .returned (.tuple #[.agg (Lib.setCells [47, 92]), .bool true]) ∧ w' = w.alloc (.cells (Lib.setCells [47, 92]) 145) := cm
 have hsz := Lib.setCells_size [47, 92]
 have hone := Lib.setCells_one [47, 92]
 have hat : ∀ x : UInt8, (Lib.setCells [47, 92])[x.toNat]? = some (.bool (slashB x)) := fun x => by rw [Lib.setCells_at, ← slS_is]; rfl
 generalize Lib.setCells [47, 92] = A at *
 obtain ⟨w2, hw2⟩ : ∃ w2, (w.alloc (.cells A 145)).alloc (.cells (Array.replicate 256 (Value.bool false)) 145) = w2 := ⟨_, rfl⟩
 have hb2 : Below w.heap.size w w2 := by rw [← hw2]; exact ((Below.refl w.heap.size w).alloc (Nat.le_refl _) _).alloc (by rw [World.size_alloc]; omega) _
 have hh2 : w2.heap[w.heap.size + 1]? = some (.cells (Array.replicate 256 (Value.bool false)) 145 (0, 0)) := by
  have := heap_alloc_new (w.alloc (.cells A 145)) (.cells (Array.replicate 256 (Value.bool false)) 145)
  rw [World.size_alloc, hw2] at this
  exact this
 have hst : (storeCells ⟨w.heap.size + 1, 0, none⟩ A.toList).run Tryz.prog ((w.alloc (.cells A 145)).alloc (.cells (Array.replicate 256 (Value.bool false)) 145)) = .ok () (w2.setRow (w.heap.size + 1) A) := by
  rw [hw2]
  exact store_cells (run_storeVar_row (P := Tryz.prog) w2 (w.heap.size + 1) 145 145 _ A hh2 (by rw [hsz]; kernel_rfl) (by rw [hsz]; simp) hone)
 have hb3 : Below w.heap.size w (w2.setRow (w.heap.size + 1) A) := ⟨hb2.os, hb2.tape, hb2.output, by rw [setRow_size]; exact hb2.size, fun k hk => (setRow_other _ _ _ _ (by omega)).trans (hb2.block k hk)⟩
 have hcell : ∀ x : UInt8, (w2.setRow (w.heap.size + 1) A).cell? ⟨w.heap.size + 1, x.toNat, none⟩ = some (.bool (slashB x)) := fun x => by
  rw [cell_setRow_same w2 (w.heap.size + 1) _ _ _ _ _ hh2]; exact hat x
 generalize w2.setRow (w.heap.size + 1) A = w3 at *
 have ct := trim_set (w.heap.size + 1) (trimR2 a b) w3 hcell (by have := trimR2_len a b; omega)
 have cr := trim_right (w.heap.size + 1) a b w3 hcell
 clear hw2 hh2 hb2 hcell hat hone
 go_enter Tryz.func81, Tryz.ntmps81
 go_wp2_with fail
 go_at_call 121
 refine cm.mono ?_
 rintro e w1 ⟨rfl, rfl⟩
 clear cm
 go_wp2_with fail
 go_at_call 123
 refine cr.mono ?_
 rintro e w4 ⟨rfl, rfl⟩
 clear cr
 go_wp2_with fail
 go_at_call 122
 refine ct.mono ?_
 rintro e w4 ⟨rfl, rfl⟩
 clear ct
 go_wp2_with fail
 go_ret
 exact ⟨rfl, hb3⟩
end Go.Proofs.YtgihofogkoeimaaGreatDoor
namespace Go.Proofs.YtgihofogkoeimaaGreatDoor
open Go.RowKit
def SeenPost (R : Nat) (u base : UrlL) (s : List UInt8) (w : World) (e : Ending) (w' : World) : Prop :=
 KeptX w.heap.size R w w' ∧ match seenU u base s with
  | .error n => e = panE n
  | .ok v => e = .returned (.tuple #[]) ∧ ∃ t, RdAt R v base t w'
def BaseAt (B : Nat) (base : UrlL) (w : World) : Prop := w.heap[B]? = some (.cells (cellsU base).toArray 23 (0, 0))
theorem seen_cons {u base : UrlL} {x : UInt8} {r : List UInt8} (h : twoSl (x :: r) = false) : seenU u base (x :: r) = if slashB x = true then .ok { u with user := base.user, pass := base.pass, host := base.host, port := base.port, path := pathL [] r } else .ok { u with user := base.user, pass := base.pass, host := base.host, port := base.port, path := pathL (partsL 47 base.path).tail.dropLast (x :: r) } := by
 unfold seenU
 rw [if_neg (by rw [h]; simp)]
theorem base_parts {s : List UInt8} (h : 47 ∈ s) : 2 ≤ (partsL 47 s).length ∧ (backL 47 (partsL 47 s).tail.dropLast).length ≤ s.length ∧ (partsL 47 s).length ≤ s.length + 1 := by
 refine ⟨by rw [partsL_len]; have := List.count_pos_iff.2 h; omega, ?_, (partsL_le 47 s).2⟩
 have hj := join_parts 47 s
 cases hP : partsL 47 s with
 | nil => exact absurd hP (partsL_ne 47 s)
 | cons p l =>
  rw [hP, joinL_back] at hj
  have := backL_drop 47 l
  have hl := congrArg List.length hj
  rw [List.length_append] at hl
  simp only [List.tail_cons]
  omega
theorem base_piece (P : List (List UInt8)) (g : Nat) (w : World) (h : w.heap[g]? = some (.cells (strs P).toArray 9 (0, 0))) (hP : 2 ≤ P.length) (o n : Nat) (hn : n = P.length - 2) (ho : o = 1 ∨ n = 0) : Piece w (some g) (.slice (some ⟨g, o, none⟩) n n) P.tail.dropLast w := by
 have hl : P.tail.dropLast.length = n := by simp; omega
 refine ⟨⟨rfl, rfl, rfl, Nat.le_refl _, fun _ _ _ => rfl⟩, .inr ⟨g, o, n, by rw [hl], .inl rfl, (Array.getElem?_eq_some_iff.1 h).1, by omega, fun j u hj => ?_, fun j hj => ⟨?_, Lib.frozen_of_heap h _⟩⟩⟩
 ·have hjl : j < n := by
   have := (List.getElem?_eq_some_iff.1 hj).1
   rw [← hl]; simpa [strs] using this
  obtain rfl : o = 1 := by omega
  rw [Lib.cell_of_heap h, List.getElem?_toArray, ← hj, strs, strs, List.getElem?_map, List.getElem?_map, List.getElem?_dropLast, if_pos (by simp; omega), List.getElem?_tail, Nat.add_comm]
 ·rw [Lib.cell_of_heap h, List.getElem?_toArray, strs, List.getElem?_map, List.getElem?_eq_getElem (by omega)]; rfl
set_option maxRecDepth 100000 in
set_option maxHeartbeats 8000000 in
theorem seen_r (R : Nat) (u base : UrlL) (s : List UInt8) (w : World) (h : RdAt R u base s w) (hE : EnvR R w) (hs : s.length ≤ 4100) (hu : u.user = []) (hp : u.pass = []) (hsl : 47 ∈ base.path) (hbl : base.path.length ≤ 4100) :
  Calls Tryz.prog 53 #[.pointer (some ⟨R, 0, none⟩)] w (SeenPost R u base s w) := by
 have c10 : w.cell? ⟨R, 10, none⟩ = some (.string ⟨s.toArray⟩) := h.cell 10
 have hlt := h.lt
 have c11 : w.cell? ⟨R, 11, none⟩ = some (.string ⟨base.scheme.toArray⟩) := h.cell 11
 have c12 : w.cell? ⟨R, 12, none⟩ = some (.string ⟨base.user.toArray⟩) := h.cell 12
 have c13 : w.cell? ⟨R, 13, none⟩ = some (.string ⟨base.pass.toArray⟩) := h.cell 13
 have c14 : w.cell? ⟨R, 14, none⟩ = some (.string ⟨base.host.toArray⟩) := h.cell 14
 have c15 : w.cell? ⟨R, 15, none⟩ = some (.int .i64 base.port) := h.cell 15
 have c16 : w.cell? ⟨R, 16, none⟩ = some (.string ⟨base.path.toArray⟩) := h.cell 16
 have c17 : w.cell? ⟨R, 17, none⟩ = some (.string ⟨base.query.toArray⟩) := h.cell 17
 have c18 : w.cell? ⟨R, 18, none⟩ = some (.bool base.hasQ) := h.cell 18
 have c19 : w.cell? ⟨R, 19, none⟩ = some (.string ⟨base.mark.toArray⟩) := h.cell 19
 have c20 : w.cell? ⟨R, 20, none⟩ = some (.bool base.hasM) := h.cell 20
 go_enter Tryz.func53, Tryz.ntmps53
 go_wp2_with fail
 go_region
 obtain ⟨w1, hw1⟩ : ∃ W, (w.alloc (.cells #[.string ⟨base.scheme.toArray⟩, .string ⟨base.user.toArray⟩, .string ⟨base.pass.toArray⟩, .string ⟨base.host.toArray⟩, .int .i64 base.port, .string ⟨base.path.toArray⟩, .string ⟨base.query.toArray⟩, .bool base.hasQ, .string ⟨base.mark.toArray⟩, .bool base.hasM] 23)).drew = W := ⟨_, rfl⟩
 rw [hw1]
 have hb1 : Below w.heap.size w w1 := by rw [← hw1]; exact ((Below.refl w.heap.size w).alloc (Nat.le_refl _) _).drew
 have hB1 : BaseAt w.heap.size base w1 := by rw [← hw1]; exact heap_alloc_new w _
 have hR1 := h.below hb1
 have hK1 := KeptX.of_below hb1 (Nat.le_of_lt hlt)
 have hE1 := hE.below hb1
 clear hw1 c10 c11 c12 c13 c14 c15 c16 c17 c18 c19 c20 hb1 h hE
 go_upto_region 1 with fail
 go_cut [21] (fun a21 wx => a21 = .bool (twoSl s) ∧ Below w1.heap.size w1 wx)
 case first =>
  cases s with
  | nil =>
   go_wp2_with fail
   go_meet
   exact ⟨rfl, Below.refl _ _⟩
  | cons a s =>
   cases s with
   | nil =>
    go_wp2_with fail
    go_meet
    exact ⟨rfl, Below.refl _ _⟩
   | cons b s =>
    have hn : (1 : Int) < ((a :: b :: s).length : Int) := by simp only [List.length_cons]; omega
    have hn2 : (2 : Int) ≤ ((a :: b :: s).length : Int) := by simp only [List.length_cons]; omega
    have ct := trim_two a b w1
    have hq : Hid ((((trimR2 a b).dropWhile slashB) == []) = twoSl (a :: b :: s)) := trimR2_nil a b
    generalize (trimR2 a b).dropWhile slashB = X at *
    clear hsl hbl hR1 hK1 hE1 hB1
    go_wp2_with fail
    go_at_call 81
    refine ct.mono ?_
    rintro e w2 ⟨rfl, hb2⟩
    clear ct
    go_wp2_with fail
    go_meet
    exact ⟨congrArg Value.bool ((by cases X <;> rfl : X.isEmpty = (X == [])).trans hq.out), hb2⟩
 case rest =>
  obtain ⟨rfl, hb2⟩ := hcut
  have hR2 := hR1.below hb2
  have hK2 := hK1.calm (Nat.le_of_lt hR1.lt) hb2
  have hE2 := hE1.below hb2
  have hB2 : BaseAt w.heap.size base wc := (hb2.block _ (Array.getElem?_eq_some_iff.1 hB1).1).trans hB1
  clear hR1 hK1 hE1 hB1 hb2
  cases htw : twoSl s with
  | true =>
   have hd : seenU u base s = placeU u (s.dropWhile slashB) := if_pos htw
   have cp := place_r idx_sl R u base s wc hR2 hE2 hs hu hp
   have HD := Lib.hid hd
   clear hd
   go_wp2_with fail
   go_at_call 56
   refine cp.mono ?_
   rintro e w3 ⟨hK3, hpl⟩
   have hK4 := hK2.next hK3
   clear cp hK3 hK2 hR2 hE2 hB2
   cases hpu : placeU u (s.dropWhile slashB) with
   | error n =>
    rw [hpu] at hpl
    obtain rfl : e = panE n := hpl
    exact ⟨rfl, hK4, by rw [HD.out, hpu]; rfl⟩
   | ok v =>
    rw [hpu] at hpl
    obtain ⟨rfl, t, hR4⟩ : e = .returned (.tuple #[]) ∧ ∃ t, RdAt R v base t w3 := hpl
    go_wp2_with fail
    first | go_end0 | refine bodyPost_ret (results_none rfl _ _ _) rfl ?_
    exact ⟨hK4, by rw [HD.out, hpu]; exact ⟨rfl, t, hR4⟩⟩
  | false =>
   have HT := Lib.hid htw
   clear htw
   obtain ⟨B, hB⟩ : ∃ B, w.heap.size = B := ⟨_, rfl⟩
   rw [hB] at hB2 ⊢
   have hBR : B ≠ R := by omega
   have hRB : R ≠ B := by omega
   have hBl : B < wc.heap.size := (Array.getElem?_eq_some_iff.1 hB2).1
   clear hB
   have b1 : wc.cell? ⟨B, 1, none⟩ = some (.string ⟨base.user.toArray⟩) := by rw [Lib.cell_of_heap hB2]; rfl
   have b2 : wc.cell? ⟨B, 2, none⟩ = some (.string ⟨base.pass.toArray⟩) := by rw [Lib.cell_of_heap hB2]; rfl
   have b3 : wc.cell? ⟨B, 3, none⟩ = some (.string ⟨base.host.toArray⟩) := by rw [Lib.cell_of_heap hB2]; rfl
   have b4 : wc.cell? ⟨B, 4, none⟩ = some (.int .i64 base.port) := by rw [Lib.cell_of_heap hB2]; rfl
   have k1 : wc.cell? ⟨R, 1, none⟩ = some _ := hR2.cell 1
   have k2 : wc.cell? ⟨R, 2, none⟩ = some _ := hR2.cell 2
   have k3 : wc.cell? ⟨R, 3, none⟩ = some _ := hR2.cell 3
   have k4 : wc.cell? ⟨R, 4, none⟩ = some _ := hR2.cell 4
   have f1 := hR2.free 1
   have f2 := hR2.free 2
   have f3 := hR2.free 3
   have f4 := hR2.free 4
   go_wp2_with fail
   go_region
   have hR3a := hR2.set (s' := s) (u' := { u with user := base.user }) 1 (.string ⟨base.user.toArray⟩) rfl
   have hR3b := hR3a.set (s' := s) (u' := { u with user := base.user, pass := base.pass }) 2 (.string ⟨base.pass.toArray⟩) rfl
   have hR3c := hR3b.set (s' := s) (u' := { u with user := base.user, pass := base.pass, host := base.host }) 3 (.string ⟨base.host.toArray⟩) rfl
   have hR3d := hR3c.set (s' := s) (u' := { u with user := base.user, pass := base.pass, host := base.host, port := base.port }) 4 (.int .i64 base.port) rfl
   have hKa := (((hR2.kept 1 (.string ⟨base.user.toArray⟩)).next (hR3a.kept 2 (.string ⟨base.pass.toArray⟩))).next (hR3b.kept 3 (.string ⟨base.host.toArray⟩))).next (hR3c.kept 4 (.int .i64 base.port))
   clear hR3a hR3b hR3c b1 b2 b3 b4 k1 k2 k3 k4 f1 f2 f3 f4
   obtain ⟨w3, hw3⟩ : ∃ W, ((((wc.setCell ⟨R, 1, none⟩ (.string ⟨base.user.toArray⟩)).setCell ⟨R, 2, none⟩ (.string ⟨base.pass.toArray⟩)).setCell ⟨R, 3, none⟩ (.string ⟨base.host.toArray⟩)).setCell ⟨R, 4, none⟩ (.int .i64 base.port)).drew = W := ⟨_, rfl⟩
   rw [hw3]
   have hKb : KeptX wc.heap.size R wc w3 := by rw [← hw3]; exact ⟨hKa.1.drew, hKa.2⟩
   have hR3 : RdAt R { u with user := base.user, pass := base.pass, host := base.host, port := base.port } base s w3 := by rw [← hw3]; exact hR3d
   have hB3 : BaseAt B base w3 := (hKb.2 B hBl hBR).trans hB2
   have hK3 := hK2.next hKb
   have hE3 := hE2.kept hKb
   have hR3lt := hR3.lt
   clear hw3 hR3d hKa hKb hB2 hR2 hK2 hE2
   have b5 : w3.cell? ⟨B, 5, none⟩ = some (.string ⟨base.path.toArray⟩) := by rw [Lib.cell_of_heap hB3]; rfl
   cases s with
   | nil =>
    have HD : Hid (seenU u base [] = .ok (if u.hasQ = true then { u with user := base.user, pass := base.pass, host := base.host, port := base.port, path := base.path } else { u with user := base.user, pass := base.pass, host := base.host, port := base.port, path := base.path, hasQ := base.hasQ, query := base.query })) := rfl
    have b6 : w3.cell? ⟨B, 6, none⟩ = some (.string ⟨base.query.toArray⟩) := by rw [Lib.cell_of_heap hB3]; rfl
    have b7 : w3.cell? ⟨B, 7, none⟩ = some (.bool base.hasQ) := by rw [Lib.cell_of_heap hB3]; rfl
    have k5 : w3.cell? ⟨R, 5, none⟩ = some _ := hR3.cell 5
    have k6 : w3.cell? ⟨R, 6, none⟩ = some _ := hR3.cell 6
    have k7 : w3.cell? ⟨R, 7, none⟩ = some (.bool u.hasQ) := hR3.cell 7
    have f5 := hR3.free 5
    have f6 := hR3.free 6
    have f7 := hR3.free 7
    have hR4 := hR3.set (s' := []) (u' := { u with user := base.user, pass := base.pass, host := base.host, port := base.port, path := base.path }) 5 (.string ⟨base.path.toArray⟩) rfl
    have hK4 := hK3.next (hR3.kept 5 (.string ⟨base.path.toArray⟩))
    clear hB3 hE3
    cases hq : u.hasQ with
    | true =>
     rw [hq] at k7
     have HF : Hid (seenU u base [] = .ok { u with user := base.user, pass := base.pass, host := base.host, port := base.port, path := base.path }) := by
      show _ = _
      rw [HD.out, hq]; rfl
     clear HD HT hq
     go_wp2_with fail
     first | go_end0 | refine bodyPost_ret (results_none rfl _ _ _) rfl ?_
     exact ⟨hK4, by rw [HF.out]; exact ⟨rfl, [], hR4⟩⟩
    | false =>
     rw [hq] at k7
     have HF : Hid (seenU u base [] = .ok { u with user := base.user, pass := base.pass, host := base.host, port := base.port, path := base.path, hasQ := base.hasQ, query := base.query }) := by
      show _ = _
      rw [HD.out, hq]; rfl
     have hR5a := hR4.set (s' := []) (u' := { u with user := base.user, pass := base.pass, host := base.host, port := base.port, path := base.path, hasQ := base.hasQ }) 7 (.bool base.hasQ) rfl
     have hR5 := hR5a.set (s' := []) (u' := { u with user := base.user, pass := base.pass, host := base.host, port := base.port, path := base.path, hasQ := base.hasQ, query := base.query }) 6 (.string ⟨base.query.toArray⟩) rfl
     have hK5 := (hK4.next (hR4.kept 7 (.bool base.hasQ))).next (hR5a.kept 6 (.string ⟨base.query.toArray⟩))
     clear HD HT hq hR5a hR4 hK4
     go_wp2_with fail
     go_region
     go_wp2_with fail
     first | go_end0 | refine bodyPost_ret (results_none rfl _ _ _) rfl ?_
     exact ⟨⟨hK5.1.drew, hK5.2⟩, by rw [HF.out]; exact ⟨rfl, [], hR5⟩⟩
   | cons x r =>
    have ci := fun W => Tryz.strings_IndexByte ⟨#[47, 92]⟩ (x.toNat : Int) W
    rw [show ((x.toNat : Int)).toNat.toUInt8 = x by simp] at ci
    have hib := Lib.contains_iff_indexByte [47, 92] x
    rw [slash_in] at hib
    have hxn : (0 : Int) < ((x :: r).length : Int) := by simp only [List.length_cons]; omega
    have hxn1 : (1 : Int) ≤ ((x :: r).length : Int) := by simp only [List.length_cons]; omega
    have HD : Hid (seenU u base (x :: r) = if slashB x = true then .ok { u with user := base.user, pass := base.pass, host := base.host, port := base.port, path := pathL [] r } else .ok { u with user := base.user, pass := base.pass, host := base.host, port := base.port, path := pathL (partsL 47 base.path).tail.dropLast (x :: r) }) := seen_cons HT.out
    simp only [List.length_cons] at hs
    cases hsx : slashB x with
    | true =>
     rw [hsx] at hib
     have hib2 : (0 : Int) ≤ Lib.indexByte [47, 92] x := of_decide_eq_true hib.symm
     have HF : Hid (seenU u base (x :: r) = .ok { u with user := base.user, pass := base.pass, host := base.host, port := base.port, path := pathL [] r }) := by
      show _ = _
      rw [HD.out, hsx]; rfl
     have k10 : w3.cell? ⟨R, 10, none⟩ = some _ := hR3.cell 10
     have f10 := hR3.free 10
     have hR4 := hR3.set (s' := r) (u' := { u with user := base.user, pass := base.pass, host := base.host, port := base.port }) 10 (.string ⟨r.toArray⟩) rfl
     have hKc := hR3.kept 10 (.string ⟨r.toArray⟩)
     have hK4 := hK3.next hKc
     have hE4 := hE3.kept hKc
     clear HD HT hsx hib b5 hB3 hE3 hKc hK3
     go_wp2_with fail
     go_at_call 75
     refine (ci _).mono ?_
     rintro e w4 ⟨rfl, rfl⟩
     clear ci
     go_wp2_with fail
     obtain ⟨w5, hw5⟩ : ∃ W, w4.setCell ⟨R, 10, none⟩ (.string ⟨r.toArray⟩) = W := ⟨_, rfl⟩
     rw [hw5] at hR4 hK4 hE4 ⊢
     clear hw5
     have cr := rest_r w5.heap.size R { u with user := base.user, pass := base.pass, host := base.host, port := base.port } base r (.slice none 0 0) [] none w5 hR4 hE4 (by omega) hR4.lt (Nat.le_refl _) (fun g hg => by cases hg) (fun W hW => ⟨⟨rfl, rfl, rfl, Nat.le_refl _, fun _ _ _ => rfl⟩, .inl ⟨rfl, rfl⟩⟩) (by simp) (by simp [backL])
     go_at_call 82
     refine cr.mono ?_
     rintro e w6 ⟨rfl, hK6, hR6⟩
     have hK7 := hK4.next hK6
     clear cr hK4 hK6 hR4 hE4
     go_wp2_with fail
     first | go_end0 | refine bodyPost_ret (results_none rfl _ _ _) rfl ?_
     exact ⟨hK7, by rw [HF.out]; exact ⟨rfl, r, hR6⟩⟩
    | false =>
     rw [hsx] at hib
     have hib2 : ¬ (0 : Int) ≤ Lib.indexByte [47, 92] x := of_decide_eq_false hib.symm
     have HF : Hid (seenU u base (x :: r) = .ok { u with user := base.user, pass := base.pass, host := base.host, port := base.port, path := pathL (partsL 47 base.path).tail.dropLast (x :: r) }) := by
      show _ = _
      rw [HD.out, hsx]; rfl
     have cs := split_any base.path 47 w3 hE3.env.t.env.shaped (by omega)
     obtain ⟨hPn, hPb, hPl⟩ := base_parts hsl
     generalize partsL 47 base.path = P at *
     have hl1 : (1 : Int) ≤ (P.length : Int) - 1 := by omega
     clear HD HT hsx hib hB3 hsl
     go_wp2_with fail
     go_at_call 75
     refine (ci _).mono ?_
     rintro e w4 ⟨rfl, rfl⟩
     clear ci
     go_wp2_with fail
     go_at_call 72
     refine cs.mono ?_
     rintro e w5 ⟨rfl, hw5⟩
     clear cs b5
     have hb5 : Below w4.heap.size w4 w5 := by rw [hw5]; exact (Below.refl _ w4).alloc (Nat.le_refl _) _
     have hrow : w5.heap[w4.heap.size]? = some (.cells (strs P).toArray 9 (0, 0)) := by rw [hw5]; exact heap_alloc_new w4 _
     have hs5 : w5.heap.size = w4.heap.size + 1 := by rw [hw5]; exact World.size_alloc _ _
     clear hw5
     have hR5 := hR3.below hb5
     have hE5 := hE3.below hb5
     have hK5 := hK3.calm (Nat.le_of_lt hR3lt) hb5
     have hpc := fun W (hW : Below w5.heap.size w5 W) => base_piece P w4.heap.size W ((hW.block _ (by omega)).trans hrow) hPn
     have cr := fun (o n : Nat) (hn : n = P.length - 2) (ho : o = 1 ∨ n = 0) => rest_r w4.heap.size R { u with user := base.user, pass := base.pass, host := base.host, port := base.port } base (x :: r) (.slice (some ⟨w4.heap.size, o, none⟩) n n) P.tail.dropLast (some w4.heap.size) w5 hR5 hE5 (by simp only [List.length_cons]; omega) hR3lt (by omega) (fun g hg => by injection hg with hg; subst hg; omega) (fun W hW => hpc W hW o n hn ho) (by simp; omega) (by omega)
     have hle := hK3.1.size
     clear hR5 hE5 hpc hR3 hE3 hrow hK3 hb5
     go_wp2_with fail
     ·go_at_call 82
      refine (cr 0 0 (by omega) (.inr rfl)).mono ?_
      rintro e w6 ⟨rfl, hK6, hR6⟩
      have hK7 := hK5.trans (hK6.lower hle)
      clear cr hK5 hK6 h
      go_wp2_with fail
      first | go_end0 | refine bodyPost_ret (results_none rfl _ _ _) rfl ?_
      exact ⟨hK7, by rw [HF.out]; exact ⟨rfl, x :: r, hR6⟩⟩
     ·go_at_call 82
      refine (cr 1 (P.length - 1 - 1) (by omega) (.inl rfl)).mono ?_
      rintro e w6 ⟨rfl, hK6, hR6⟩
      have hK7 := hK5.trans (hK6.lower hle)
      clear cr hK5 hK6 h
      go_wp2_with fail
      first | go_end0 | refine bodyPost_ret (results_none rfl _ _ _) rfl ?_
      exact ⟨hK7, by rw [HF.out]; exact ⟨rfl, x :: r, hR6⟩⟩
end Go.Proofs.YtgihofogkoeimaaGreatDoor
