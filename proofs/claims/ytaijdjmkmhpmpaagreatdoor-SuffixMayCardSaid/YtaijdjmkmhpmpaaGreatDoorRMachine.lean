/- The walk of the reference's Machine. -/
import Derived.Test.YtaijdjmkmhpmpaaGreatDoorGHF
import Derived.Test.YtaijdjmkmhpmpaaGreatDoorGRFour4
set_option linter.unusedVariables false
set_option linter.unusedSimpArgs false
namespace Go.Proofs.YtaijdjmkmhpmpaaGreatDoor
open Go.RowKit

theorem brL_at {s : List UInt8} (h : 0 < s.length) : brL s = decide ((s[0]'h).toNat = 91) := by
  cases s with
  | nil => simp at h
  | cons c t => exact brL_cons c t
set_option maxRecDepth 100000 in
set_option maxHeartbeats 1000000 in
theorem rmachine_any (s : List UInt8) (w : World) (hs : s.length ≤ 3999999999) :
    Calls Tryz.prog 53 #[.string ⟨s.toArray⟩] w fun e w' => e = .returned (.bool (machineL s)) ∧ Below w.heap.size w w' := by
  have cf := fun W => rfour_any s W hs
  have hm : machineL s = (brL s || ((fourL s).1 && decide ((fourL s).2.1 = 0))) := rfl
  generalize fourL s = r at *
  obtain ⟨lk, er, n⟩ := r
  rw [fourV_mk] at cf
  simp only at hm
  by_cases hs0 : s = []
  · subst hs0
    have hb : brL [] = false := rfl
    rw [hb] at hm
    cases hlk : lk
    all_goals
      rw [hlk] at cf hm
      by_cases he : er = 0
      all_goals
        have HM := Lib.hid hm
        clear hm hb hlk
        first
          | subst he
          | (have he1 : ¬ (er : Int) = 0 := by omega
             have he2 : ((er : Int) == 0) = false := by rw [beq_eq_false_iff_ne]; exact he1)
        go_enter Tryz.func53, Tryz.ntmps53
        go_wp2_with fail
        go_at_call 87
        refine (cf _).mono ?_
        rintro e w1 ⟨rfl, hb1⟩
        have hb2 : ∀ o cs, Below w.heap.size w ((w1.alloc o).setRow w1.heap.size cs) := fun o cs => below_row (hb1.alloc hb1.size o) hb1.size cs
        go_wp2_with (refine wpList_store_row (o := ⟨none, .store 51 (.tmp 3) (.tmp 9), _, _, _, _⟩) rfl 51 (.tmp 3) _ rfl w1.heap.size _ rfl rfl 51 zeroA (heap_alloc_new w1 _) (by kernel_rfl) rfl (by simp [Value.oneCell']) ?_)
        go_ret
        exact ⟨ret_bool (by rw [HM.out]; simp [*]), hb2 _ _⟩
  · have hl0 : 0 < s.length := List.length_pos_iff.2 hs0
    have hb := brL_at hl0
    have hne1 := isEmpty_ne hs0
    have hne2 := beq_ne hs0
    clear hs0
    by_cases hc : (s[0]'hl0).toNat = 91
    · rw [decide_eq_true hc] at hb
      rw [hb] at hm
      have hc1 : ((s[0]'hl0).toNat : Int) = 91 := by omega
      have HM := Lib.hid hm
      clear hm hb hc
      cases hlk : lk
      all_goals
        rw [hlk] at cf
        clear hlk
        go_enter Tryz.func53, Tryz.ntmps53
        go_wp2_with fail
        go_at_call 87
        refine (cf _).mono ?_
        rintro e w1 ⟨rfl, hb1⟩
        have hb2 : ∀ o cs, Below w.heap.size w ((w1.alloc o).setRow w1.heap.size cs) := fun o cs => below_row (hb1.alloc hb1.size o) hb1.size cs
        go_wp2_with (refine wpList_store_row (o := ⟨none, .store 51 (.tmp 3) (.tmp 9), _, _, _, _⟩) rfl 51 (.tmp 3) _ rfl w1.heap.size _ rfl rfl 51 zeroA (heap_alloc_new w1 _) (by kernel_rfl) rfl (by simp [Value.oneCell']) ?_)
        go_ret
        exact ⟨ret_bool (by rw [HM.out]; rfl), hb2 _ _⟩
    · rw [decide_eq_false hc] at hb
      rw [hb] at hm
      have hc1 : ¬ ((s[0]'hl0).toNat : Int) = 91 := by omega
      have hc2 : (((s[0]'hl0).toNat : Int) == 91) = false := by rw [beq_eq_false_iff_ne]; exact hc1
      clear hb hc
      cases hlk : lk
      all_goals
        rw [hlk] at cf hm
        by_cases he : er = 0
        all_goals
          have HM := Lib.hid hm
          clear hm hlk
          first
            | subst he
            | (have he1 : ¬ (er : Int) = 0 := by omega
               have he2 : ((er : Int) == 0) = false := by rw [beq_eq_false_iff_ne]; exact he1)
          go_enter Tryz.func53, Tryz.ntmps53
          go_wp2_with fail
          go_at_call 87
          refine (cf _).mono ?_
          rintro e w1 ⟨rfl, hb1⟩
          have hb2 : ∀ o cs, Below w.heap.size w ((w1.alloc o).setRow w1.heap.size cs) := fun o cs => below_row (hb1.alloc hb1.size o) hb1.size cs
          go_wp2_with (refine wpList_store_row (o := ⟨none, .store 51 (.tmp 3) (.tmp 9), _, _, _, _⟩) rfl 51 (.tmp 3) _ rfl w1.heap.size _ rfl rfl 51 zeroA (heap_alloc_new w1 _) (by kernel_rfl) rfl (by simp [Value.oneCell']) ?_)
          go_ret
          exact ⟨ret_bool (by rw [HM.out]; simp [*]), hb2 _ _⟩
end Go.Proofs.YtaijdjmkmhpmpaaGreatDoor
