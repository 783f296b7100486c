/- A Book of two lists of texts: lookText, keepText and Apart walked (written by mkbooklook.py). -/
import Derived.Test.YtijobaecakhnjaaGreatDoorBookGrow
import Derived.Deep.QuietTactic
set_option linter.unusedVariables false
set_option linter.unusedSimpArgs false
namespace Go.Proofs.YtijobaecakhnjaaGreatDoor
open Go.RowKit

theorem isText_any (n : Nat) (hn : n ≤ 9) (w : World) : Calls Tryz.prog 95 #[markV n, .int .i64 (n : Int)] w fun e w' => e = .returned (.bool true) ∧ w = w' := by
  have cw := fun W => word_any n hn W
  simp only [markV] at cw ⊢
  generalize markB n = m at *
  go_enter Tryz.func95, Tryz.ntmps95
  go_wp2_with (go_at_call 141; refine (cw _).mono ?_; rintro e w1 ⟨rfl, rfl⟩)
  go_ret
  exact ⟨ret_bool (by simp), rfl⟩
theorem below_drewN {B : Nat} {a w : World} (h : Below B a w) (k : Nat) : Below B a (w.drewN k) := ⟨h.os, h.tape, h.output, h.size, h.block⟩
theorem rep_cell {w : World} {base e g n c k : Nat} {m : Value} (h : w.ownsRow base e 1 (.slice (some ⟨g, 0, none⟩) n c) n (List.replicate n m)) (hk : k < n) : w.cell? ⟨g, k, none⟩ = some m := by
  rw [h.cellAt k (by omega), List.getElem?_replicate, if_pos hk]

set_option maxRecDepth 100000 in
set_option maxHeartbeats 4000000 in
theorem lookText_any (base : Nat) (w : World) (gk gt cap : Nat) (a b : Option Addr) (na nb : Nat) (la lb : Value) (hP : Pair base w gk gt cap a b na nb (List.replicate na (markV 1)) (List.replicate nb (markV 2)) la lb) (hna : na ≤ 4000000000) (hnb : nb ≤ 4000000000)
    (hla : w.ownsRow base 9 1 la (na + 40) (List.replicate (na + 40) (markV 1))) (hlb : w.ownsRow base 9 1 lb (nb + 40) (List.replicate (nb + 40) (markV 2))) :
    Calls Tryz.prog 51 #[.pointer (some ⟨gk, 0, none⟩)] w fun e w' => e = .returned (.bool true) ∧ Below w.heap.size w w' := by
  have cm1 := fun W => (isText_any 1 (by decide) W).mono (R' := fun e W' => e = .returned (.bool true) ∧ W' = W) fun e W' h => ⟨h.1, h.2.symm⟩
  have cm2 := fun W => (isText_any 2 (by decide) W).mono (R' := fun e W' => e = .returned (.bool true) ∧ W' = W) fun e W' h => ⟨h.1, h.2.symm⟩
  obtain ⟨_, h0, _⟩ | ⟨ga, ca, rfl, _, hga, _⟩ := own_open hla
  · omega
  obtain ⟨_, h0, _⟩ | ⟨gb, cb, rfl, _, hgb, _⟩ := own_open hlb
  · omega
  have hgtl := (hP.ht.lt gt rfl).2
  have hgkl := hP.hb.lt
  go_enter Tryz.func51, Tryz.ntmps51
  go_wp2_with fail
  go_loopw [3] (fun i wr => ∃ k : Nat, k ≤ 2 ∧ i = .int .i64 k ∧ Below w.heap.size w wr) (fun i _ => 2 - (intOf i).toNat)
  case atStart => exact ⟨0, by omega, rfl, Below.refl _ _⟩
  case round =>
    obtain ⟨V, rfl⟩ : ∃ V, V = wr := ⟨wr, rfl⟩
    obtain ⟨k, hk, rfl, hbl⟩ := hrel
    have hPr := hP.below hbl
    have hc3 := hPr.hb.cell 3
    have e3 : (bookC 2 (.slice (some ⟨gt, 0, none⟩) 2 cap))[3]? = some (.slice (some ⟨gt, 0, none⟩) 2 cap) := rfl
    rw [e3] at hc3
    have r0 := hPr.ht.cellAt 0 (by omega)
    have r1 := hPr.ht.cellAt 1 (by omega)
    have r2 := hPr.ht.cellAt 2 (by omega)
    have r3 := hPr.ht.cellAt 3 (by omega)
    have r4 := hPr.ht.cellAt 4 (by omega)
    have r5 := hPr.ht.cellAt 5 (by omega)
    simp only [List.getElem?_cons_zero, List.getElem?_cons_succ] at r0 r1 r2 r3 r4 r5
    have hsz := hbl.size
    obtain rfl | rfl | rfl : k = 0 ∨ k = 1 ∨ k = 2 := by omega
    · have hP1 := Lib.hid hPr
      clear hPr
      try rw [show ((1 : Nat) : Int) = 1 from rfl]
      try rw [show ((0 : Nat) : Int) = 0 from rfl]
      have hni : ¬ (((na + 40 : Nat) : Int)) = (na : Int) + 40 → False := fun h => h (by omega)
      go_wp2_with fail
      go_loopw [5] (fun i w2 => ∃ j : Nat, j ≤ na + 40 ∧ i = .int .i64 j ∧ Blk w2 V.heap.size 79 #[.slice a na na, .slice (some ⟨ga, 0, none⟩) (na + 40) ca, .int .i64 1] ∧ Below V.heap.size V w2) (fun i _ => na + 40 - (intOf i).toNat)
      case atStart => exact ⟨0, Nat.zero_le _, rfl, Blk.new _ _ _, (Below.refl _ _).alloc (Nat.le_refl _) _⟩
      case round =>
        obtain ⟨j, hj, rfl, hB2, hb2⟩ := hrel
        have c0 := hB2.cell 0
        have c1 := hB2.cell 1
        have c2 := hB2.cell 2
        have e0 : (#[.slice a na na, .slice (some ⟨ga, 0, none⟩) (na + 40) ca, .int .i64 1] : Array Value)[0]? = some (.slice a na na) := rfl
        have e1 : (#[.slice a na na, .slice (some ⟨ga, 0, none⟩) (na + 40) ca, .int .i64 1] : Array Value)[1]? = some (.slice (some ⟨ga, 0, none⟩) (na + 40) ca) := rfl
        have e2 : (#[.slice a na na, .slice (some ⟨ga, 0, none⟩) (na + 40) ca, .int .i64 1] : Array Value)[2]? = some (.int .i64 1) := rfl
        rw [e0] at c0
        rw [e1] at c1
        rw [e2] at c2
        clear e0 e1 e2
        have hP2 := hP1.out.below hb2
        have hll := own_below (own_below hla hbl) hb2
        have HB2 := Lib.hid hB2
        have Hb2 := Lib.hid hb2
        clear hB2 hb2
        by_cases hlt : j < na + 40
        · have cl := rep_cell hll hlt
          by_cases hl2 : j < na
          · obtain ⟨hv, _⟩ | ⟨g, cp, hv, _⟩ := own_open hP2.ha
            · rename_i h0; omega
            · injection hv with hv _ hcp
              subst hv
              subst hcp
              have cj := rep_cell hP2.ha hl2
              have HP2 := Lib.hid hP2
              clear hP2 hll
              go_wp2_with fail
              go_quiet (first | (go_at_call 95; refine Calls.quiet_of_same (cm1 _)))
              go_wp2_with fail
              all_goals
                go_roundw
                case rel => exact ⟨j + 1, by omega, by go_num, HB2.out.drewN _, below_drewN Hb2.out _⟩
                case measure => simp [intOf]; omega
          · have HP2 := Lib.hid hP2
            clear hP2 hll
            go_wp2_with fail
            go_quiet (first | (go_at_call 95; refine Calls.quiet_of_same (cm1 _)))
            go_wp2_with fail
            all_goals
              go_roundw
              case rel => exact ⟨j + 1, by omega, by go_num, HB2.out.drewN _, below_drewN Hb2.out _⟩
              case measure => simp [intOf]; omega
        · obtain rfl : j = na + 40 := by omega
          have hb3 := hbl.trans (Hb2.out.mono hsz)
          clear hP2 hll
          go_wp2_with fail
          go_roundw
          case rel => exact ⟨1, by omega, by go_num, hb3⟩
          case measure => simp [intOf]
    · have hP1 := Lib.hid hPr
      clear hPr
      try rw [show ((1 : Nat) : Int) = 1 from rfl]
      try rw [show ((0 : Nat) : Int) = 0 from rfl]
      have hni : ¬ (((nb + 40 : Nat) : Int)) = (nb : Int) + 40 → False := fun h => h (by omega)
      go_wp2_with fail
      go_loopw [5] (fun i w2 => ∃ j : Nat, j ≤ nb + 40 ∧ i = .int .i64 j ∧ Blk w2 V.heap.size 79 #[.slice b nb nb, .slice (some ⟨gb, 0, none⟩) (nb + 40) cb, .int .i64 2] ∧ Below V.heap.size V w2) (fun i _ => nb + 40 - (intOf i).toNat)
      case atStart => exact ⟨0, Nat.zero_le _, rfl, Blk.new _ _ _, (Below.refl _ _).alloc (Nat.le_refl _) _⟩
      case round =>
        obtain ⟨j, hj, rfl, hB2, hb2⟩ := hrel
        have c0 := hB2.cell 0
        have c1 := hB2.cell 1
        have c2 := hB2.cell 2
        have e0 : (#[.slice b nb nb, .slice (some ⟨gb, 0, none⟩) (nb + 40) cb, .int .i64 2] : Array Value)[0]? = some (.slice b nb nb) := rfl
        have e1 : (#[.slice b nb nb, .slice (some ⟨gb, 0, none⟩) (nb + 40) cb, .int .i64 2] : Array Value)[1]? = some (.slice (some ⟨gb, 0, none⟩) (nb + 40) cb) := rfl
        have e2 : (#[.slice b nb nb, .slice (some ⟨gb, 0, none⟩) (nb + 40) cb, .int .i64 2] : Array Value)[2]? = some (.int .i64 2) := rfl
        rw [e0] at c0
        rw [e1] at c1
        rw [e2] at c2
        clear e0 e1 e2
        have hP2 := hP1.out.below hb2
        have hll := own_below (own_below hlb hbl) hb2
        have HB2 := Lib.hid hB2
        have Hb2 := Lib.hid hb2
        clear hB2 hb2
        by_cases hlt : j < nb + 40
        · have cl := rep_cell hll hlt
          by_cases hl2 : j < nb
          · obtain ⟨hv, _⟩ | ⟨g, cp, hv, _⟩ := own_open hP2.hbv
            · rename_i h0; omega
            · injection hv with hv _ hcp
              subst hv
              subst hcp
              have cj := rep_cell hP2.hbv hl2
              have HP2 := Lib.hid hP2
              clear hP2 hll
              go_wp2_with fail
              go_quiet (first | (go_at_call 95; refine Calls.quiet_of_same (cm2 _)))
              go_wp2_with fail
              all_goals
                go_roundw
                case rel => exact ⟨j + 1, by omega, by go_num, HB2.out.drewN _, below_drewN Hb2.out _⟩
                case measure => simp [intOf]; omega
          · have HP2 := Lib.hid hP2
            clear hP2 hll
            go_wp2_with fail
            go_quiet (first | (go_at_call 95; refine Calls.quiet_of_same (cm2 _)))
            go_wp2_with fail
            all_goals
              go_roundw
              case rel => exact ⟨j + 1, by omega, by go_num, HB2.out.drewN _, below_drewN Hb2.out _⟩
              case measure => simp [intOf]; omega
        · obtain rfl : j = nb + 40 := by omega
          have hb3 := hbl.trans (Hb2.out.mono hsz)
          clear hP2 hll
          go_wp2_with fail
          go_roundw
          case rel => exact ⟨2, by omega, by go_num, hb3⟩
          case measure => simp [intOf]
    · have hP1 := Lib.hid hPr
      clear hPr
      go_wp2_with fail
      go_ret
      exact ⟨rfl, hbl⟩
end Go.Proofs.YtijobaecakhnjaaGreatDoor
