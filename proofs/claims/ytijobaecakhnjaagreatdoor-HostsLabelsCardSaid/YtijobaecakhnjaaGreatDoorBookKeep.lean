/- A Book is told a list of texts: keepText and Texts walked. -/
import Derived.Test.YtijobaecakhnjaaGreatDoorBookLook
import Derived.Deep.AppendLies
import Derived.Deep.RegionLaw
set_option linter.unusedVariables false
set_option linter.unusedSimpArgs false
namespace Go.Proofs.YtijobaecakhnjaaGreatDoor
open Go.RowKit

theorem held_info : (Tryz.prog.info? 79).map (fun i => (i.zero, i.size, i.bytes)) = some (some (.agg #[nilS, nilS, .int .i64 0]), 3, 56) := by kernel_rfl

set_option maxRecDepth 100000 in
set_option maxHeartbeats 2000000 in
theorem keepText_any (base : Nat) (w : World) (gk m : Nat) (hm : m ≤ 1) (tv : Value) (xs : List Value) (a : Option Addr) (na : Nat) (hB : Blk w gk 36 (bookC m tv)) (hgk : base ≤ gk) (hown : w.ownsRow base 79 3 tv m xs) :
    Calls Tryz.prog 32 #[.pointer (some ⟨gk, 0, none⟩), .slice a na na] w fun e w' => e = .returned (.tuple #[]) ∧ ∃ gt cap, Blk w' gk 36 (bookC (m + 1) (.slice (some ⟨gt, 0, none⟩) (m + 1) cap)) ∧ w'.ownsRow base 79 3 (.slice (some ⟨gt, 0, none⟩) (m + 1) cap) (m + 1) (xs ++ [.slice a na na, nilS, .int .i64 ((m + 1 : Nat) : Int)]) ∧ (∀ v n ys, w.ownsRow base 9 1 v n ys → w'.ownsRow base 9 1 v n ys) ∧ Below base w w' := by
  obtain ⟨i0, hi, hz0, hz1, hz2⟩ := info_parts held_info
  have c0 := hB.cell 0
  have c3 := hB.cell 3
  have e0 : (bookC m tv)[0]? = some (.int .i64 (m : Int)) := rfl
  have e3 : (bookC m tv)[3]? = some tv := rfl
  rw [e0] at c0
  rw [e3] at c3
  have f0 := hB.frozen 0
  have f3 := hB.frozen 3
  have hgl := hB.lt
  have n1 := own_blk_ne hown hB (by decide)
  go_enter Tryz.func32, Tryz.ntmps32
  go_upto_region 1 with fail
  have hB1 : Blk (w.setCell ⟨gk, 0, none⟩ (.int .i64 ((m : Int) + 1))) gk 36 (bookC (m + 1) tv) := hB.set_ 0 _
  have hown1 : (w.setCell ⟨gk, 0, none⟩ (.int .i64 ((m : Int) + 1))).ownsRow base 79 3 tv m xs := ownsRow_setCell_other hown n1 _
  have hrows1 : ∀ v n ys, w.ownsRow base 9 1 v n ys → (w.setCell ⟨gk, 0, none⟩ (.int .i64 ((m : Int) + 1))).ownsRow base 9 1 v n ys := fun v n ys h => ownsRow_setCell_other h (own_blk_ne h hB (by decide)) _
  have hb1 : Below base w (w.setCell ⟨gk, 0, none⟩ (.int .i64 ((m : Int) + 1))) := (Below.refl _ _).setCell (p := ⟨gk, 0, none⟩) hgk _
  have hsz1 : (w.setCell ⟨gk, 0, none⟩ (.int .i64 ((m : Int) + 1))).heap.size = w.heap.size := by simp
  generalize w.setCell ⟨gk, 0, none⟩ (.int .i64 ((m : Int) + 1)) = W at *
  clear c0 c3 e0 e3 f0 f3 hB hown
  have HSZ := Lib.hid hsz1
  clear hsz1
  have c0 := hB1.cell 0
  have c3 := hB1.cell 3
  have e0 : (bookC (m + 1) tv)[0]? = some (.int .i64 ((m : Int) + 1)) := rfl
  have e3 : (bookC (m + 1) tv)[3]? = some tv := rfl
  rw [e0] at c0
  rw [e3] at c3
  clear e0 e3
  have f3 := hB1.frozen 3
  have hgl1 := hB1.lt
  go_region_law ((refine step_append_lies _ (by rfl) (.tmp 15) (.tmp 22) 29 (by rfl) base 79 i0 (.agg #[nilS, nilS, .int .i64 0]) 3 56 Tryz.underlying29 hi hz0 hz1 hz2 rfl (by omega) tv m xs (by rfl) (by first | exact hown1.alloc _ | exact (hown1.alloc _).drew | exact hown1.drew.alloc _) ⟨W.heap.size, 0, none⟩ 1 1 [.slice a na na, nilS, .int .i64 ((m : Int) + 1)] (by rfl) rfl (fun j u hj => World.news_of_block (cs := #[.slice a na na, nilS, .int .i64 ((m : Int) + 1)]) (heap_alloc_new _ _) j u hj) (fun u hu => by simp only [List.mem_cons, List.not_mem_nil, or_false] at hu; rcases hu with rfl | rfl | rfl <;> rfl) (by omega) (by unfold maxLen; omega) (by omega) (by simp; omega) (W.heap.size + 1) (by simp) ?_; intro g cap w3 hown3 hgr hat hlt; have hB3 := Blk.grown (g := gk) (t := 36) (cs := bookC (m + 1) tv) (by first | exact hB1.alloc _ | exact (hB1.alloc _).drew | exact hB1.drew.alloc _) hgr (Ne.symm n1); have q3 : w3.cell? ⟨gk, 3, none⟩ = some tv := hB3.cell 3; have q4 := hB3.frozen 3; have hq5 := hB3.lt))
  all_goals
    have hcT : ∃ cs, Blk w3 g 79 cs := by
      rcases hown3.2 with ⟨hx, _⟩ | ⟨g', cap', cur, hx, hbg, hh, _⟩
      · cases hx
      · injection hx with hx
        injection hx with hx
        injection hx with hx
        subst hx
        exact ⟨_, hh⟩
    obtain ⟨csT, hBT⟩ := hcT
    have hB4 : Blk (w3.setCell ⟨gk, 3, none⟩ (.slice (some ⟨g, 0, none⟩) (m + 1) cap)) gk 36 (bookC (m + 1) (.slice (some ⟨g, 0, none⟩) (m + 1) cap)) := hB3.set_ 3 _
    have hown4 := ownsRow_setCell_other hown3 (a := ⟨gk, 3, none⟩) (own_blk_ne hown3 hB3 (by decide)) (.slice (some ⟨g, 0, none⟩) (m + 1) cap)
    have hgrT : W.grownBy w3 tv.ownBlock := grown_trans2 (grown_drew (World.grownBy_alloc W _ _)) hgr
    have hrows4 : ∀ v n ys, w.ownsRow base 9 1 v n ys → (w3.setCell ⟨gk, 3, none⟩ (.slice (some ⟨g, 0, none⟩) (m + 1) cap)).ownsRow base 9 1 v n ys := by
      intro v n ys h
      have h1 := hrows1 v n ys h
      have h2 : w3.ownsRow base 9 1 v n ys := by
        refine h1.kept hgrT ?_
        rcases hown1.2 with ⟨hx, _⟩ | ⟨g', cap', cur, hx, hbg, hh, _⟩
        · rw [hx]; exact none_or _
        · rw [hx]; exact .inr (own_blk_ne h1 (g := g') hh (by decide))
      exact ownsRow_setCell_other h2 (own_blk_ne h2 hB3 (by decide)) _
    have hbW : Below base w w3 := hb1.grown hgrT (Nat.le_trans hgk (Nat.le_of_lt hgl1)) (fun g' h' => (hown1.lt g' h').1)
    have hb4 := hbW.setCell (p := ⟨gk, 3, none⟩) hgk (.slice (some ⟨g, 0, none⟩) (m + 1) cap)
    clear hgrT hbW hown3 hgr hat hB3 q3 q4 hrows1 hB1 hown1 hBT c0 c3 f3
    go_wp2_with fail
    go_end0
    exact ⟨rfl, g, cap, hB4, hown4, hrows4, hb4⟩

theorem texts_any (base : Nat) (w : World) (gk m : Nat) (hm : m ≤ 1) (tv : Value) (xs : List Value) (a : Option Addr) (na : Nat) (hB : Blk w gk 36 (bookC m tv)) (hgk : base ≤ gk) (hown : w.ownsRow base 79 3 tv m xs) :
    Calls Tryz.prog 16 #[.pointer (some ⟨gk, 0, none⟩), .slice a na na] w fun e w' => e = .returned (.tuple #[]) ∧ ∃ gt cap, Blk w' gk 36 (bookC (m + 1) (.slice (some ⟨gt, 0, none⟩) (m + 1) cap)) ∧ w'.ownsRow base 79 3 (.slice (some ⟨gt, 0, none⟩) (m + 1) cap) (m + 1) (xs ++ [.slice a na na, nilS, .int .i64 ((m + 1 : Nat) : Int)]) ∧ (∀ v n ys, w.ownsRow base 9 1 v n ys → w'.ownsRow base 9 1 v n ys) ∧ Below base w w' := by
  have ck := keepText_any base w gk m hm tv xs a na hB hgk hown
  clear hB hown
  go_enter Tryz.func16, Tryz.ntmps16
  go_wp2_with (go_at_call 32; refine ck.mono ?_; rintro e w1 ⟨rfl, hr⟩)
  go_end0
  exact ⟨rfl, hr⟩
end Go.Proofs.YtijobaecakhnjaaGreatDoor
