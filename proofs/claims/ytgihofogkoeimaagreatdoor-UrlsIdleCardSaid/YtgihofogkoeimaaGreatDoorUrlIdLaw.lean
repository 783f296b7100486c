/- The law UrlsIdle walked. -/
import Derived.Test.YtgihofogkoeimaaGreatDoorUrlHereLaw
import Derived.Test.YtgihofogkoeimaaGreatDoorUrlIdle
set_option linter.unusedVariables false
set_option linter.unusedSimpArgs false
namespace Go.Proofs.YtgihofogkoeimaaGreatDoor
open Go.RowKit
theorem pair_form (r : Except Nat UrlL) : ∃ (u : UrlL) (n : Nat), pairU r = .tuple #[urlV u, .int .i64 (n : Int)] := by
 cases r with
 | error n => exact ⟨zeroU, n, rfl⟩
 | ok u => exact ⟨u, 0, rfl⟩
theorem inner_eq {s : List UInt8} (h : 0 < s.length) : innerB s = (decide (32 < (s[0]).toNat) && decide (32 < (s[s.length - 1]).toNat)) := by
 unfold innerB
 rw [List.head?_eq_getElem?, List.getLast?_eq_getElem?, List.getElem?_eq_getElem h, List.getElem?_eq_getElem (by omega)]
theorem ends_drop (s : List UInt8) : dropL (32 :: 0 :: 31 :: (s ++ [0, 32])) = dropL s := idle_ends (a := [32, 0, 31]) (b := [0, 32]) (s := s) (by decide) (by decide)
def WideAt (B : Nat) (x0 x1 x2 x3 : Nat) (w : World) : Prop := w.heap[B]? = some (.cells #[.int .u16 (x0 : Int), .int .u16 (x1 : Int), .int .u16 (x2 : Int), .int .u16 (x3 : Int)] 41 (0, 0))
theorem WideAt.on {B x0 x1 x2 x3 : Nat} {w w' : World} (h : WideAt B x0 x1 x2 x3 w) (hb : Below w.heap.size w w') : WideAt B x0 x1 x2 x3 w' := (hb.block _ (Array.getElem?_eq_some_iff.1 h).1).trans h
theorem jr1 (b : List UInt8) : (ByteArray.mk #[32, 0, 31]) ++ (ByteArray.mk b.toArray) = ByteArray.mk (32 :: 0 :: 31 :: b).toArray := ba_append [32, 0, 31] b
theorem jr2 (a : List UInt8) : (ByteArray.mk a.toArray) ++ (ByteArray.mk #[0, 32]) = ByteArray.mk (a ++ [0, 32]).toArray := ba_append a [0, 32]
theorem jr3 (a : List UInt8) (c : UInt8) : (ByteArray.mk a.toArray) ++ (ByteArray.mk #[c]) = ByteArray.mk (a ++ [c]).toArray := ba_append a [c]
theorem jr4 (a : List UInt8) : (ByteArray.mk a.toArray) ++ (ByteArray.mk #[13, 10]) = ByteArray.mk (a ++ [13, 10]).toArray := ba_append a [13, 10]
attribute [local go_sem] jr1 jr2 jr3 jr4 ba_append
theorem put_next {s t x : List UInt8} {k n : Nat} (hx : ∀ c ∈ x, tabB c = true) (hf : t.filter (fun c => !tabB c) = s.filter fun c => !tabB c) (hn : x.length ≤ n) :
  (t.take k ++ x ++ t.drop k).filter (fun c => !tabB c) = s.filter (fun c => !tabB c) ∧ (t.take k ++ x ++ t.drop k).length ≤ t.length + n := by
 have h1 := putAt_filter (t := t) (x := x) k hx
 have h2 := putAt_len t x k
 unfold putAt at h1 h2
 exact ⟨h1.trans hf, by omega⟩
set_option maxRecDepth 100000 in
set_option maxHeartbeats 16000000 in
theorem idle_w (s : List UInt8) (x0 x1 x2 x3 : Nat) (w : World) (hm : s.length ≤ 140737488351232) (hx0 : x0 ≤ 65535) (hx1 : x1 ≤ 65535) (hx2 : x2 ≤ 65535) (hx3 : x3 ≤ 65535) (hE : EnvH w) :
  Calls Tryz.prog 8 #[.string ⟨s.toArray⟩, .agg #[.int .u16 (x0 : Int), .int .u16 (x1 : Int), .int .u16 (x2 : Int), .int .u16 (x3 : Int)]] w fun e w' => e = .returned (.bool true) ∧ Below w.heap.size w w' := by
 obtain ⟨wa, hwa⟩ : ∃ W, w.alloc (.cells #[.int .u16 (x0 : Int), .int .u16 (x1 : Int), .int .u16 (x2 : Int), .int .u16 (x3 : Int)] 41) = W := ⟨_, rfl⟩
 have hba : Below w.heap.size w wa := by rw [← hwa]; exact below_alloc w _
 have hWa : WideAt w.heap.size x0 x1 x2 x3 wa := by rw [← hwa]; exact heap_alloc_new w _
 have cv := lift_k w hE (fun W hW => alive_u W hW)
 by_cases h0 : 1000 < s.length
 ·have hi : (1000 : Int) < (s.length : Int) := by omega
  go_enter Tryz.func8, Tryz.ntmps8
  go_wp2_with fail
  go_at_call 27
  refine (cv _ hba).mono ?_
  rintro e w1 ⟨rfl, hb1⟩
  go_wp2_with fail
  go_at_call 27
  refine (cv _ (below_next hba hb1)).mono ?_
  rintro e w2 ⟨rfl, hb2⟩
  go_wp2_with fail
  go_ret
  exact ⟨rfl, below_next (below_next hba hb1) hb2⟩
 ·have hs1 : s.length ≤ 1000 := by omega
  have hi : ¬ (1000 : Int) < (s.length : Int) := by omega
  have HE := Lib.hid hE
  clear h0 hE
  go_enter Tryz.func8, Tryz.ntmps8
  go_wp2_with fail
  go_at_call 27
  refine (cv _ hba).mono ?_
  rintro e w1 ⟨rfl, hb1⟩
  have hW1 := hWa.on hb1
  have hB1 := below_next hba hb1
  clear cv hba hWa hwa hb1
  go_wp2_with fail
  go_loopw [5, 6, 7] (fun a5 a6 _ wr => ∃ (i : Nat) (t : List UInt8), i ≤ 4 ∧ a6 = .int .i64 (i : Int) ∧ a5 = .string ⟨t.toArray⟩ ∧ t.length ≤ s.length + 2 * i ∧ Hid (t.filter (fun c => !tabB c) = s.filter fun c => !tabB c) ∧ WideAt w.heap.size x0 x1 x2 x3 wr ∧ Below w.heap.size w wr) (fun _ a6 _ _ => 4 - (intOf a6).toNat)
  case atStart => exact ⟨0, s, by omega, rfl, rfl, by omega, rfl, hW1, hB1⟩
  case round =>
   obtain ⟨i, t, hi4, rfl, rfl, hl, HF, hW, hB⟩ := hrel
   have k0 : wr.cell? ⟨w.heap.size, 0, none⟩ = some (.int .u16 (x0 : Int)) := by rw [Lib.cell_of_heap hW]; rfl
   have k1 : wr.cell? ⟨w.heap.size, 1, none⟩ = some (.int .u16 (x1 : Int)) := by rw [Lib.cell_of_heap hW]; rfl
   have k2 : wr.cell? ⟨w.heap.size, 2, none⟩ = some (.int .u16 (x2 : Int)) := by rw [Lib.cell_of_heap hW]; rfl
   have k3 : wr.cell? ⟨w.heap.size, 3, none⟩ = some (.int .u16 (x3 : Int)) := by rw [Lib.cell_of_heap hW]; rfl
   rcases (show i = 0 ∨ i = 1 ∨ i = 2 ∨ i = 3 ∨ i = 4 by omega) with rfl | rfl | rfl | rfl | rfl
   ·have hr : ((x0 : Int).tmod ((t.length : Int) + 1)) = ((x0 % (t.length + 1) : Nat) : Int) := by
     rw [Int.tmod_eq_emod_of_nonneg (by omega)]; rfl
    have hk : x0 % (t.length + 1) ≤ t.length := Nat.le_of_lt_succ (Nat.mod_lt _ (by omega))
    have hnz : ((t.length : Int) + 1 == 0) = false := beq_eq_false_iff_ne.2 (by omega)
    obtain ⟨hf2, hl2⟩ := put_next (s := s) (k := x0 % (t.length + 1)) (x := [9]) (n := 1) (by decide) HF.out (by decide)
    generalize x0 % (t.length + 1) = k at *
    have hki : (k : Int) ≤ (t.length : Int) := by omega
    have g1 : ¬ 9223372036854775807 < k + 1 := by omega
    have g2 : ¬ 9223372036854775807 < k + 1 + (t.length - k) := by omega
    have g3 : (t.take k).length = k := by rw [List.length_take]; omega
    have g4 : min k t.length = k := by omega
    go_wp2_with fail
    have htt : List.take (t.length - k) (List.drop k t) = List.drop k t := List.take_of_length_le (by simp)
    simp only [List.append_assoc, List.cons_append, List.nil_append] at hf2 hl2
    have HF2 := Lib.hid hf2
    clear hf2 HF
    go_region
    simp only [Exit.inBlock]
    go_wp2_with fail
    go_roundw
    case rel => exact ⟨0 + 1, _, by omega, by go_num, rfl, by simp at hl2 ⊢; omega, HF2, hW.on (below_alloc wr _).drew, (hB.alloc hB.size _).drew⟩
    case measure => simp [intOf]
   ·have hr : ((x1 : Int).tmod ((t.length : Int) + 1)) = ((x1 % (t.length + 1) : Nat) : Int) := by
     rw [Int.tmod_eq_emod_of_nonneg (by omega)]; rfl
    have hk : x1 % (t.length + 1) ≤ t.length := Nat.le_of_lt_succ (Nat.mod_lt _ (by omega))
    have hnz : ((t.length : Int) + 1 == 0) = false := beq_eq_false_iff_ne.2 (by omega)
    obtain ⟨hf2, hl2⟩ := put_next (s := s) (k := x1 % (t.length + 1)) (x := [10]) (n := 1) (by decide) HF.out (by decide)
    generalize x1 % (t.length + 1) = k at *
    have hki : (k : Int) ≤ (t.length : Int) := by omega
    have g1 : ¬ 9223372036854775807 < k + 1 := by omega
    have g2 : ¬ 9223372036854775807 < k + 1 + (t.length - k) := by omega
    have g3 : (t.take k).length = k := by rw [List.length_take]; omega
    have g4 : min k t.length = k := by omega
    go_wp2_with fail
    have htt : List.take (t.length - k) (List.drop k t) = List.drop k t := List.take_of_length_le (by simp)
    simp only [List.append_assoc, List.cons_append, List.nil_append] at hf2 hl2
    have HF2 := Lib.hid hf2
    clear hf2 HF
    go_region
    simp only [Exit.inBlock]
    go_wp2_with fail
    go_roundw
    case rel => exact ⟨1 + 1, _, by omega, by go_num, rfl, by simp at hl2 ⊢; omega, HF2, hW.on (below_alloc wr _).drew, (hB.alloc hB.size _).drew⟩
    case measure => simp [intOf]
   ·have hr : ((x2 : Int).tmod ((t.length : Int) + 1)) = ((x2 % (t.length + 1) : Nat) : Int) := by
     rw [Int.tmod_eq_emod_of_nonneg (by omega)]; rfl
    have hk : x2 % (t.length + 1) ≤ t.length := Nat.le_of_lt_succ (Nat.mod_lt _ (by omega))
    have hnz : ((t.length : Int) + 1 == 0) = false := beq_eq_false_iff_ne.2 (by omega)
    obtain ⟨hf2, hl2⟩ := put_next (s := s) (k := x2 % (t.length + 1)) (x := [13]) (n := 1) (by decide) HF.out (by decide)
    generalize x2 % (t.length + 1) = k at *
    have hki : (k : Int) ≤ (t.length : Int) := by omega
    have g1 : ¬ 9223372036854775807 < k + 1 := by omega
    have g2 : ¬ 9223372036854775807 < k + 1 + (t.length - k) := by omega
    have g3 : (t.take k).length = k := by rw [List.length_take]; omega
    have g4 : min k t.length = k := by omega
    go_wp2_with fail
    have htt : List.take (t.length - k) (List.drop k t) = List.drop k t := List.take_of_length_le (by simp)
    simp only [List.append_assoc, List.cons_append, List.nil_append] at hf2 hl2
    have HF2 := Lib.hid hf2
    clear hf2 HF
    go_region
    simp only [Exit.inBlock]
    go_wp2_with fail
    go_roundw
    case rel => exact ⟨2 + 1, _, by omega, by go_num, rfl, by simp at hl2 ⊢; omega, HF2, hW.on (below_alloc wr _).drew, (hB.alloc hB.size _).drew⟩
    case measure => simp [intOf]
   ·have hr : ((x3 : Int).tmod ((t.length : Int) + 1)) = ((x3 % (t.length + 1) : Nat) : Int) := by
     rw [Int.tmod_eq_emod_of_nonneg (by omega)]; rfl
    have hk : x3 % (t.length + 1) ≤ t.length := Nat.le_of_lt_succ (Nat.mod_lt _ (by omega))
    have hnz : ((t.length : Int) + 1 == 0) = false := beq_eq_false_iff_ne.2 (by omega)
    obtain ⟨hf2, hl2⟩ := put_next (s := s) (k := x3 % (t.length + 1)) (x := [13, 10]) (n := 2) (by decide) HF.out (by decide)
    generalize x3 % (t.length + 1) = k at *
    have hki : (k : Int) ≤ (t.length : Int) := by omega
    have g1 : ¬ 9223372036854775807 < k + 2 := by omega
    have g2 : ¬ 9223372036854775807 < k + 2 + (t.length - k) := by omega
    have g3 : (t.take k).length = k := by rw [List.length_take]; omega
    have g4 : min k t.length = k := by omega
    go_wp2_with fail
    have htt : List.take (t.length - k) (List.drop k t) = List.drop k t := List.take_of_length_le (by simp)
    simp only [List.append_assoc, List.cons_append, List.nil_append] at hf2 hl2
    have HF2 := Lib.hid hf2
    clear hf2 HF
    go_region
    simp only [Exit.inBlock]
    go_wp2_with fail
    go_roundw
    case rel => exact ⟨3 + 1, _, by omega, by go_num, rfl, by simp at hl2 ⊢; omega, HF2, hW.on (below_alloc wr _).drew, (hB.alloc hB.size _).drew⟩
    case measure => simp [intOf]
   ·obtain ⟨u0, n0, hpr⟩ := pair_form (parseU s zeroU false)
    have htl : t.length ≤ 4096 := by omega
    obtain ⟨u2, n2, hpr2, hin⟩ : ∃ (u2 : UrlL) (n2 : Nat), pairU (parseU t zeroU false) = .tuple #[urlV u2, .int .i64 (n2 : Int)] ∧ (innerB s = true → u2 = u0 ∧ n2 = n0) := by
     cases h : innerB s with
     | false => obtain ⟨a, b, c⟩ := pair_form (parseU t zeroU false); exact ⟨a, b, c, fun e => by cases e⟩
     | true => exact ⟨u0, n0, by rw [parse_eq htl (by omega) (inner_drop h HF.out)]; exact hpr, fun _ => ⟨rfl, rfl⟩⟩
    have c1 := lift_k w HE.out (fun W hW => parse_u s zeroU false W hW hm (by simp [sizeU, zeroU]) (by simp [zeroU]))
    have c2 := lift_k w HE.out (fun W hW => parse_u (32 :: 0 :: 31 :: (s ++ [0, 32])) zeroU false W hW (by simp; omega) (by simp [sizeU, zeroU]) (by simp [zeroU]))
    have c3 := lift_k w HE.out (fun W hW => parse_u t zeroU false W hW (by omega) (by simp [sizeU, zeroU]) (by simp [zeroU]))
    rw [parse_eq (t := s) (by simp; omega) (by omega) (ends_drop s), hpr] at c2
    rw [hpr] at c1
    rw [hpr2] at c3
    simp only [urlV] at c1 c2 c3
    have HIN := Lib.hid hin
    have g1 : ¬ 9223372036854775807 < 3 + s.length := by omega
    have g2 : ¬ 9223372036854775807 < 3 + s.length + 2 := by omega
    have HB := Lib.hid hB
    clear hpr hpr2 hin HF k0 k1 k2 k3 hW hB hW1 hB1
    go_wp2_with fail
    go_at_call 25
    refine (c1 _ HB.out).mono ?_
    rintro e w4 ⟨rfl, hb4⟩
    have U4 := UrlAt.news w4 u0
    have HB4 := Lib.hid (below_news (below_next HB.out hb4) u0)
    clear c1 hb4 HB
    go_wp2_with fail
    go_at_call 25
    refine (c2 _ HB4.out).mono ?_
    rintro e w5 ⟨rfl, hb5⟩
    have U5 := U4.on hb5
    have hl5 : w4.heap.size < w5.heap.size := U5.lt
    have V4 := U5.pass (u := u0)
    have V5 := UrlAt.news w5 u0
    have HB5 := Lib.hid (below_news (below_next HB4.out hb5) u0)
    clear c2 hb5 HB4 U4 U5
    go_wp2_with fail
    go_at_call 25
    refine (c3 _ HB5.out).mono ?_
    rintro e w6 ⟨rfl, hb6⟩
    have Y4 := V4.on hb6
    have Y5 := V5.on hb6
    have hl46 : w4.heap.size < w6.heap.size := Y4.lt
    have hl56 : w5.heap.size < w6.heap.size := Y5.lt
    have HB6 := Lib.hid (below_news (below_next HB5.out hb6) u2)
    have p0 : w6.cell? ⟨w4.heap.size, 0, none⟩ = some _ := Y4.cell 0
    have p1 : w6.cell? ⟨w4.heap.size, 1, none⟩ = some _ := Y4.cell 1
    have p2 : w6.cell? ⟨w4.heap.size, 2, none⟩ = some _ := Y4.cell 2
    have p3 : w6.cell? ⟨w4.heap.size, 3, none⟩ = some _ := Y4.cell 3
    have p4 : w6.cell? ⟨w4.heap.size, 4, none⟩ = some _ := Y4.cell 4
    have p5 : w6.cell? ⟨w4.heap.size, 5, none⟩ = some _ := Y4.cell 5
    have p6 : w6.cell? ⟨w4.heap.size, 6, none⟩ = some _ := Y4.cell 6
    have p7 : w6.cell? ⟨w4.heap.size, 7, none⟩ = some _ := Y4.cell 7
    have p8 : w6.cell? ⟨w4.heap.size, 8, none⟩ = some _ := Y4.cell 8
    have p9 : w6.cell? ⟨w4.heap.size, 9, none⟩ = some _ := Y4.cell 9
    have q0 : w6.cell? ⟨w5.heap.size, 0, none⟩ = some _ := Y5.cell 0
    have q1 : w6.cell? ⟨w5.heap.size, 1, none⟩ = some _ := Y5.cell 1
    have q2 : w6.cell? ⟨w5.heap.size, 2, none⟩ = some _ := Y5.cell 2
    have q3 : w6.cell? ⟨w5.heap.size, 3, none⟩ = some _ := Y5.cell 3
    have q4 : w6.cell? ⟨w5.heap.size, 4, none⟩ = some _ := Y5.cell 4
    have q5 : w6.cell? ⟨w5.heap.size, 5, none⟩ = some _ := Y5.cell 5
    have q6 : w6.cell? ⟨w5.heap.size, 6, none⟩ = some _ := Y5.cell 6
    have q7 : w6.cell? ⟨w5.heap.size, 7, none⟩ = some _ := Y5.cell 7
    have q8 : w6.cell? ⟨w5.heap.size, 8, none⟩ = some _ := Y5.cell 8
    have q9 : w6.cell? ⟨w5.heap.size, 9, none⟩ = some _ := Y5.cell 9
    clear c3 hb6 HB5 V4 V5 Y4 Y5 g1 g2
    by_cases hs0 : s = []
    ·obtain ⟨e1, e2⟩ := HIN.out (by rw [hs0]; rfl)
     subst hs0
     subst e1
     subst e2
     clear HIN
     go_wp2_with fail
     go_ret
     exact ⟨rfl, HB6.out⟩
    ·have hpos : 0 < s.length := List.length_pos_iff.2 hs0
     have hie := inner_eq hpos
     have z0 : ((s.length : Int) == 0) = false := beq_eq_false_iff_ne.2 (by omega)
     have i0 : (0 : Int) < (s.length : Int) := by omega
     have i1 : (0 : Int) ≤ (s.length : Int) - 1 := by omega
     have i2 : (s.length : Int) - 1 < (s.length : Int) := by omega
     have i3 : ((s.length : Int) - 1).toNat = s.length - 1 := by omega
     by_cases ha : 32 < (s[0]).toNat
     ·have hai : (32 : Int) < ((s[0]).toNat : Int) := by omega
      by_cases hz : 32 < (s[s.length - 1]).toNat
      ·have hzi : (32 : Int) < ((s[s.length - 1]).toNat : Int) := by omega
       obtain ⟨e1, e2⟩ := HIN.out (by rw [hie, decide_eq_true ha, decide_eq_true hz]; rfl)
       subst e1
       subst e2
       clear HIN hie hs0 ha hz
       go_wp2_with fail
       go_ret
       exact ⟨rfl, HB6.out⟩
      ·have hzi : ¬ (32 : Int) < ((s[s.length - 1]).toNat : Int) := by omega
       clear HIN hie hs0 ha hz
       go_wp2_with fail
       go_ret
       exact ⟨rfl, HB6.out⟩
     ·have hai : ¬ (32 : Int) < ((s[0]).toNat : Int) := by omega
      clear HIN hie hs0 ha
      go_wp2_with fail
      go_ret
      exact ⟨rfl, HB6.out⟩
end Go.Proofs.YtgihofogkoeimaaGreatDoor
