/- A Book of two lists of texts: fillText walked (written by mkbookfill.py). -/
import Derived.Test.YtijobaecakhnjaaGreatDoorBookNone
import Derived.Lib.Hide
import Derived.Deep.RegionWith
import Derived.Test.YtijobaecakhnjaaGreatDoorShelf

set_option linter.unusedVariables false
set_option linter.unusedSimpArgs false
namespace Go.Proofs.YtijobaecakhnjaaGreatDoor
open Go.RowKit

/-- The mark of a number below ten as a text. -/
def markB (n : Nat) : ByteArray := ⟨#[35, UInt8.ofNat (48 + n)]⟩
abbrev markV (n : Nat) : Value := .string (markB n)
/-- A book's cells, if it has none but texts. -/
def bookC (n : Nat) (t : Value) : Array Value := #[.int .i64 (n : Int), nilS, nilS, t, nilS, nilS, nilS, nilS, nilS]
/-- Two lists of texts in a book. -/
structure Pair (base : Nat) (w : World) (gk gt cap : Nat) (a b : Option Addr) (na nb : Nat) (xa xb : List Value) (la lb : Value) : Prop where
  hb : Blk w gk 36 (bookC 2 (.slice (some ⟨gt, 0, none⟩) 2 cap))
  hgk : base ≤ gk
  ht : w.ownsRow base 79 3 (.slice (some ⟨gt, 0, none⟩) 2 cap) 2 [.slice a na na, la, .int .i64 1, .slice b nb nb, lb, .int .i64 2]
  ha : w.ownsRow base 9 1 (.slice a na na) na xa
  hbv : w.ownsRow base 9 1 (.slice b nb nb) nb xb
  hne : (Value.slice a na na).ownBlock = none ∨ (Value.slice a na na).ownBlock ≠ (Value.slice b nb nb).ownBlock
section
variable {base : Nat} {w : World} {gk gt cap : Nat} {a b : Option Addr} {na nb : Nat} {xa xb : List Value} {la lb : Value}
theorem Pair.alloc (h : Pair base w gk gt cap a b na nb xa xb la lb) (o : Obj) : Pair base (w.alloc o) gk gt cap a b na nb xa xb la lb :=
  ⟨h.hb.alloc o, h.hgk, h.ht.alloc o, h.ha.alloc o, h.hbv.alloc o, h.hne⟩
theorem Pair.drewN (h : Pair base w gk gt cap a b na nb xa xb la lb) (k : Nat) : Pair base (w.drewN k) gk gt cap a b na nb xa xb la lb := ⟨h.hb, h.hgk, h.ht, h.ha, h.hbv, h.hne⟩
theorem Pair.drew (h : Pair base w gk gt cap a b na nb xa xb la lb) : Pair base w.drew gk gt cap a b na nb xa xb la lb := ⟨h.hb, h.hgk, h.ht, h.ha, h.hbv, h.hne⟩
theorem Pair.setA (h : Pair base w gk gt cap a b na nb xa xb la lb) {g : Nat} (ha : a = some ⟨g, 0, none⟩) (j : Nat) (u : Value) : Pair base (w.setCell ⟨g, j, none⟩ u) gk gt cap a b na nb (xa.set j u) xb la lb := by
  subst ha
  obtain ⟨h1, hg⟩ := h.ha.stored j u
  have n1 := own_blk_ne h.ha h.hb (by decide)
  refine ⟨h.hb.grown hg (fun e => n1 e.symm), h.hgk, ?_, h1, h.hbv.kept hg ?_, h.hne⟩
  · refine h.ht.kept hg (.inr fun e => ?_)
    rcases h.ht.2 with ⟨hx, _⟩ | ⟨g', cap', cur, hx, _, hh, _⟩
    · cases hx
    · injection hx with hx
      injection hx with hx
      injection hx with hx
      subst hx
      exact own_blk_ne h.ha (g := gt) hh (by decide) e.symm
  · rcases h.hne with hn | hn
    · cases hn
    · exact .inr fun e => hn (by rw [e]; rfl)
theorem Pair.setB (h : Pair base w gk gt cap a b na nb xa xb la lb) {g : Nat} (ha : b = some ⟨g, 0, none⟩) (j : Nat) (u : Value) : Pair base (w.setCell ⟨g, j, none⟩ u) gk gt cap a b na nb xa (xb.set j u) la lb := by
  subst ha
  obtain ⟨h1, hg⟩ := h.hbv.stored j u
  have n1 := own_blk_ne h.hbv h.hb (by decide)
  refine ⟨h.hb.grown hg (fun e => n1 e.symm), h.hgk, ?_, h.ha.kept hg ?_, h1, h.hne⟩
  · refine h.ht.kept hg (.inr fun e => ?_)
    rcases h.ht.2 with ⟨hx, _⟩ | ⟨g', cap', cur, hx, _, hh, _⟩
    · cases hx
    · injection hx with hx
      injection hx with hx
      injection hx with hx
      subst hx
      exact own_blk_ne h.hbv (g := gt) hh (by decide) e.symm
  · rcases h.hne with hn | hn
    · exact .inl hn
    · exact .inr hn
end
/-- Marks so far. -/
def markd (m : Value) (xs : List Value) (j : Nat) : List Value := List.replicate j m ++ xs.drop j
theorem markd_0 (m : Value) (xs : List Value) : markd m xs 0 = xs := by simp [markd]
theorem markd_len (m : Value) (xs : List Value) (j : Nat) (h : j ≤ xs.length) : (markd m xs j).length = xs.length := by simp [markd]; omega
theorem markd_s (m : Value) (xs : List Value) (j : Nat) (h : j < xs.length) : (markd m xs j).set j m = markd m xs (j + 1) := by
  unfold markd
  rw [List.set_append_right _ _ (by simp), List.length_replicate, Nat.sub_self, List.drop_eq_getElem_cons h, List.set_cons_zero, List.replicate_succ', List.append_assoc]
  rfl
theorem markd_end (m : Value) (xs : List Value) (n : Nat) (h : xs.length = n) : markd m xs n = List.replicate n m := by
  unfold markd
  rw [List.drop_of_length_le (by omega), List.append_nil]

set_option maxRecDepth 100000 in
set_option maxHeartbeats 1000000 in
theorem word_any (n : Nat) (hn : n ≤ 9) (w : World) : Calls Tryz.prog 141 #[.int .i64 (n : Int)] w fun e w' => e = .returned (markV n) ∧ w = w' := by
  have hd : (Lib.decDigits n) = [UInt8.ofNat (48 + n)] := by
    rw [Lib.decDigits]; simp [show n < 10 by omega]
  have ci := fun W => (Tryz.strconv_Itoa_small n (by omega) W)
  rw [hd] at ci
  obtain ⟨x, hx⟩ : ∃ x, UInt8.ofNat (48 + n) = x := ⟨_, rfl⟩
  rw [hx] at ci
  have hm : markB n = ⟨#[35, x]⟩ := by unfold markB; rw [hx]
  have hj : (ByteArray.mk #[35]) ++ (ByteArray.mk [x].toArray) = ⟨#[35, x]⟩ := by apply ByteArray.ext; rfl
  have hV : markV n = .string ⟨#[35, x]⟩ := congrArg Value.string hm
  rw [hV]
  clear hx hd hm hV
  go_enter Tryz.func141, Tryz.ntmps141
  go_wp2_with (go_at_call 77; refine (ci _).mono ?_; rintro e w1 ⟨rfl, rfl⟩)
  go_ret
  exact ⟨by rw [← hj]; rfl, rfl⟩
theorem markText_any (n : Nat) (hn : n ≤ 9) (w : World) : Calls Tryz.prog 87 #[.int .i64 (n : Int)] w fun e w' => e = .returned (markV n) ∧ w = w' := by
  have cw := fun W => word_any n hn W
  go_enter Tryz.func87, Tryz.ntmps87
  go_wp2_with (go_at_call 141; refine (cw _).mono ?_; rintro e w1 ⟨rfl, rfl⟩)
  go_ret
  exact ⟨rfl, rfl⟩

set_option maxRecDepth 100000 in
set_option maxHeartbeats 2000000 in
theorem fillText_any (base : Nat) (w : World) (gk gt cap : Nat) (a b : Option Addr) (na nb : Nat) (xa xb : List Value) (hP : Pair base w gk gt cap a b na nb xa xb nilS nilS) (hna : na ≤ 4000000000) (hnb : nb ≤ 4000000000) (hbw : base ≤ w.heap.size) :
    Calls Tryz.prog 35 #[.pointer (some ⟨gk, 0, none⟩)] w fun e w' => e = .returned (.tuple #[]) ∧ Pair base w' gk gt cap a b na nb (List.replicate na (markV 1)) (List.replicate nb (markV 2)) nilS nilS ∧ Below base w w' := by
  have cm1 := fun W => markText_any 1 (by decide) W
  have cm2 := fun W => markText_any 2 (by decide) W
  have la := own_len hP.ha
  have lb := own_len hP.hbv
  go_enter Tryz.func35, Tryz.ntmps35
  go_wp2_with fail
  go_loopw [2] (fun i wr => ∃ (k : Nat) (ya yb : List Value), k ≤ 2 ∧ i = .int .i64 k ∧ Pair base wr gk gt cap a b na nb ya yb nilS nilS ∧ Below base w wr ∧ Hid (ya = if k = 0 then xa else List.replicate na (markV 1)) ∧ Hid (yb = if k ≤ 1 then xb else List.replicate nb (markV 2))) (fun i _ => 2 - (intOf i).toNat)
  case atStart => exact ⟨0, _, _, by omega, rfl, hP, Below.refl _ _, rfl, rfl⟩
  case round =>
    obtain ⟨k, ya, yb, hk, rfl, hPr, hbl, Ha, Hb⟩ := hrel
    have hc3 := hPr.hb.cell 3
    have e3 : (bookC 2 (.slice (some ⟨gt, 0, none⟩) 2 cap))[3]? = some (.slice (some ⟨gt, 0, none⟩) 2 cap) := rfl
    rw [e3] at hc3
    have r0 := hPr.ht.cellAt 0 (by omega)
    have r1 := hPr.ht.cellAt 1 (by omega)
    have r2 := hPr.ht.cellAt 2 (by omega)
    have r3 := hPr.ht.cellAt 3 (by omega)
    have r4 := hPr.ht.cellAt 4 (by omega)
    have r5 := hPr.ht.cellAt 5 (by omega)
    simp only [List.getElem?_cons_zero, List.getElem?_cons_succ] at r0 r1 r2 r3 r4 r5
    have hsz := hbl.size
    have hgtl := (hPr.ht.lt gt rfl).2
    have hgkl := hPr.hb.lt
    obtain rfl | rfl | rfl : k = 0 ∨ k = 1 ∨ k = 2 := by omega
    · obtain rfl : xa = ya := Ha.out.symm
      have hP1 := Lib.hid hPr
      clear hPr
      try rw [show ((1 : Nat) : Int) = 1 from rfl]
      go_wp2_with fail
      go_loopw [4] (fun i w2 => ∃ j : Nat, j ≤ na ∧ i = .int .i64 j ∧ Pair base w2 gk gt cap a b na nb (markd (markV 1) xa j) yb nilS nilS ∧ Blk w2 wr.heap.size 79 #[.slice a na na, nilS, .int .i64 1] ∧ Below base w w2) (fun i _ => na - (intOf i).toNat)
      case atStart => exact ⟨0, Nat.zero_le _, rfl, by rw [markd_0]; exact hP1.out.alloc _, Blk.new _ _ _, hbl.alloc (by omega) _⟩
      case round =>
        obtain ⟨j, hj, rfl, hP2, hB2, hb2⟩ := hrel
        have c0 := hB2.cell 0
        have c2 := hB2.cell 2
        have e0 : (#[.slice a na na, nilS, .int .i64 1] : Array Value)[0]? = some (.slice a na na) := rfl
        have e2 : (#[.slice a na na, nilS, .int .i64 1] : Array Value)[2]? = some (.int .i64 1) := rfl
        rw [e0] at c0
        rw [e2] at c2
        clear e0 e2
        by_cases hlt : j < na
        · obtain ⟨hv, _⟩ | ⟨g, cp, hv, hg1, hg2, _⟩ := own_open hP2.ha
          · rename_i h0; omega
          · injection hv with hv _ hcp
            subst hv
            subst hcp
            have cj := hP2.ha.cellAt j (by omega)
            rw [List.getElem?_eq_getElem (by rw [markd_len _ _ _ (by omega)]; omega)] at cj
            have fj := hP2.ha.frozenAt j
            have hP3 := hP2.setA rfl j (markV 1)
            rw [markd_s _ _ _ (by omega)] at hP3
            have hB3 := hB2.far (p := ⟨g, j, none⟩) (fun e => own_blk_ne hP2.ha hB2 (by decide) (by rw [e]; rfl)) (markV 1)
            have hb3 := hb2.setCell (p := ⟨g, j, none⟩) hg1 (markV 1)
            have HP3 := Lib.hid hP3
            clear hP2 hP3
            go_wp2_with (go_region_with (go_at_call 87; refine (cm1 _).mono ?_; rintro e w1 ⟨rfl, rfl⟩))
            all_goals
              go_roundw
              case rel => exact ⟨j + 1, by omega, by go_num, HP3.out.drew, hB3.drew, hb3.drew⟩
              case measure => simp [intOf]; omega
        · obtain rfl : j = na := by omega
          rw [markd_end _ _ _ (by omega)] at hP2
          have HP2 := Lib.hid hP2
          clear hP2
          go_wp2_with fail
          go_roundw
          case rel => exact ⟨1, _, _, by omega, by go_num, HP2.out, hb2, rfl, Hb⟩
          case measure => simp [intOf]
    · obtain rfl : xb = yb := Hb.out.symm
      have hP1 := Lib.hid hPr
      clear hPr
      try rw [show ((1 : Nat) : Int) = 1 from rfl]
      go_wp2_with fail
      go_loopw [4] (fun i w2 => ∃ j : Nat, j ≤ nb ∧ i = .int .i64 j ∧ Pair base w2 gk gt cap a b na nb ya (markd (markV 2) xb j) nilS nilS ∧ Blk w2 wr.heap.size 79 #[.slice b nb nb, nilS, .int .i64 2] ∧ Below base w w2) (fun i _ => nb - (intOf i).toNat)
      case atStart => exact ⟨0, Nat.zero_le _, rfl, by rw [markd_0]; exact hP1.out.alloc _, Blk.new _ _ _, hbl.alloc (by omega) _⟩
      case round =>
        obtain ⟨j, hj, rfl, hP2, hB2, hb2⟩ := hrel
        have c0 := hB2.cell 0
        have c2 := hB2.cell 2
        have e0 : (#[.slice b nb nb, nilS, .int .i64 2] : Array Value)[0]? = some (.slice b nb nb) := rfl
        have e2 : (#[.slice b nb nb, nilS, .int .i64 2] : Array Value)[2]? = some (.int .i64 2) := rfl
        rw [e0] at c0
        rw [e2] at c2
        clear e0 e2
        by_cases hlt : j < nb
        · obtain ⟨hv, _⟩ | ⟨g, cp, hv, hg1, hg2, _⟩ := own_open hP2.hbv
          · rename_i h0; omega
          · injection hv with hv _ hcp
            subst hv
            subst hcp
            have cj := hP2.hbv.cellAt j (by omega)
            rw [List.getElem?_eq_getElem (by rw [markd_len _ _ _ (by omega)]; omega)] at cj
            have fj := hP2.hbv.frozenAt j
            have hP3 := hP2.setB rfl j (markV 2)
            rw [markd_s _ _ _ (by omega)] at hP3
            have hB3 := hB2.far (p := ⟨g, j, none⟩) (fun e => own_blk_ne hP2.hbv hB2 (by decide) (by rw [e]; rfl)) (markV 2)
            have hb3 := hb2.setCell (p := ⟨g, j, none⟩) hg1 (markV 2)
            have HP3 := Lib.hid hP3
            clear hP2 hP3
            go_wp2_with (go_region_with (go_at_call 87; refine (cm2 _).mono ?_; rintro e w1 ⟨rfl, rfl⟩))
            all_goals
              go_roundw
              case rel => exact ⟨j + 1, by omega, by go_num, HP3.out.drew, hB3.drew, hb3.drew⟩
              case measure => simp [intOf]; omega
        · obtain rfl : j = nb := by omega
          rw [markd_end _ _ _ (by omega)] at hP2
          have HP2 := Lib.hid hP2
          clear hP2
          go_wp2_with fail
          go_roundw
          case rel => exact ⟨2, _, _, by omega, by go_num, HP2.out, hb2, Ha, rfl⟩
          case measure => simp [intOf]
    · have hP1 := Lib.hid hPr
      clear hPr
      go_wp2_with fail
      go_end0
      refine ⟨rfl, ?_, hbl⟩
      have h1 := Ha.out
      have h2 := Hb.out
      simp only [if_neg (by decide : ¬ (2 : Nat) = 0)] at h1
      simp only [if_neg (by decide : ¬ (2 : Nat) ≤ 1)] at h2
      rw [← h1, ← h2]
      exact hP1.out
end Go.Proofs.YtijobaecakhnjaaGreatDoor
