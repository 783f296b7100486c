/- The walk of the reference's Below, and the laws HostsBelows and SitesDomains. -/
import Derived.Test.YtijobaecakhnjaaDoorBelow
import Derived.Test.YtijobaecakhnjaaDoorRFourAny
import Derived.Test.YtijobaecakhnjaaDoorBeyond
import Derived.Test.YtijobaecakhnjaaDoorPost
set_option linter.unusedVariables false
set_option linter.unusedSimpArgs false
namespace Go.Proofs.YtijobaecakhnjaaDoor
open Go.RowKit

theorem brL_at {s : List UInt8} (h : 0 < s.length) : brL s = decide ((s[0]'h).toNat = 91) := by
  cases s with
  | nil => simp at h
  | cons c t => exact brL_cons c t
set_option maxRecDepth 100000 in
set_option maxHeartbeats 1000000 in
theorem rmachine_any (s : List UInt8) (w : World) (hs : s.length ≤ 3999999999) :
    Calls Tryd.prog 12 #[.string ⟨s.toArray⟩] w fun e w' => e = .returned (.bool (machineL s)) ∧ Below w.heap.size w w' := by
  have cf := fun W => rfour_any s W hs
  have hm : machineL s = (brL s || ((fourL s).1 && decide ((fourL s).2.1 = 0))) := rfl
  generalize fourL s = r at *
  obtain ⟨lk, er, n⟩ := r
  rw [fourV_mk] at cf
  simp only at hm
  by_cases hs0 : s = []
  · subst hs0
    have hb : brL [] = false := rfl
    rw [hb] at hm
    cases hlk : lk
    all_goals
      rw [hlk] at cf hm
      by_cases he : er = 0
      all_goals
        have HM := Lib.hid hm
        clear hm hb hlk
        first
          | subst he
          | (have he1 : ¬ (er : Int) = 0 := by omega
             have he2 : ((er : Int) == 0) = false := by rw [beq_eq_false_iff_ne]; exact he1)
        go_enter Tryd.func12, Tryd.ntmps12
        go_wp2_with fail
        go_at_call 16
        refine (cf _).mono ?_
        rintro e w1 ⟨rfl, hb1⟩
        have hb2 : ∀ o cs, Below w.heap.size w ((w1.alloc o).setRow w1.heap.size cs) := fun o cs => below_row (hb1.alloc hb1.size o) hb1.size cs
        go_wp2_with (refine wpList_store_row (o := ⟨none, .store 28 (.tmp 3) (.tmp 9), _, _, _, _⟩) rfl 28 (.tmp 3) _ rfl w1.heap.size _ rfl rfl 28 zeroA (heap_alloc_new w1 _) (by kernel_rfl) rfl (by simp [Value.oneCell']) ?_)
        go_ret
        exact ⟨ret_bool (by rw [HM.out]; simp [*]), hb2 _ _⟩
  · have hl0 : 0 < s.length := List.length_pos_iff.2 hs0
    have hb := brL_at hl0
    have hne1 := isEmpty_ne hs0
    have hne2 := beq_ne hs0
    clear hs0
    by_cases hc : (s[0]'hl0).toNat = 91
    · rw [decide_eq_true hc] at hb
      rw [hb] at hm
      have hc1 : ((s[0]'hl0).toNat : Int) = 91 := by omega
      have HM := Lib.hid hm
      clear hm hb hc
      cases hlk : lk
      all_goals
        rw [hlk] at cf
        clear hlk
        go_enter Tryd.func12, Tryd.ntmps12
        go_wp2_with fail
        go_at_call 16
        refine (cf _).mono ?_
        rintro e w1 ⟨rfl, hb1⟩
        have hb2 : ∀ o cs, Below w.heap.size w ((w1.alloc o).setRow w1.heap.size cs) := fun o cs => below_row (hb1.alloc hb1.size o) hb1.size cs
        go_wp2_with (refine wpList_store_row (o := ⟨none, .store 28 (.tmp 3) (.tmp 9), _, _, _, _⟩) rfl 28 (.tmp 3) _ rfl w1.heap.size _ rfl rfl 28 zeroA (heap_alloc_new w1 _) (by kernel_rfl) rfl (by simp [Value.oneCell']) ?_)
        go_ret
        exact ⟨ret_bool (by rw [HM.out]; rfl), hb2 _ _⟩
    · rw [decide_eq_false hc] at hb
      rw [hb] at hm
      have hc1 : ¬ ((s[0]'hl0).toNat : Int) = 91 := by omega
      have hc2 : (((s[0]'hl0).toNat : Int) == 91) = false := by rw [beq_eq_false_iff_ne]; exact hc1
      clear hb hc
      cases hlk : lk
      all_goals
        rw [hlk] at cf hm
        by_cases he : er = 0
        all_goals
          have HM := Lib.hid hm
          clear hm hlk
          first
            | subst he
            | (have he1 : ¬ (er : Int) = 0 := by omega
               have he2 : ((er : Int) == 0) = false := by rw [beq_eq_false_iff_ne]; exact he1)
          go_enter Tryd.func12, Tryd.ntmps12
          go_wp2_with fail
          go_at_call 16
          refine (cf _).mono ?_
          rintro e w1 ⟨rfl, hb1⟩
          have hb2 : ∀ o cs, Below w.heap.size w ((w1.alloc o).setRow w1.heap.size cs) := fun o cs => below_row (hb1.alloc hb1.size o) hb1.size cs
          go_wp2_with (refine wpList_store_row (o := ⟨none, .store 28 (.tmp 3) (.tmp 9), _, _, _, _⟩) rfl 28 (.tmp 3) _ rfl w1.heap.size _ rfl rfl 28 zeroA (heap_alloc_new w1 _) (by kernel_rfl) rfl (by simp [Value.oneCell']) ?_)
          go_ret
          exact ⟨ret_bool (by rw [HM.out]; simp [*]), hb2 _ _⟩

theorem suf_short {a b : List UInt8} (h : a.length ≤ b.length) : Lib.hasSuffix a (46 :: b) = false := by
  rw [← Bool.not_eq_true]
  unfold Lib.hasSuffix
  rw [List.isSuffixOf_iff_suffix]
  intro h'
  have := h'.length_le
  simp at this; omega
theorem suf_long {a b : List UInt8} {k : Nat} (h : a.length = b.length + (k + 1)) : Lib.hasSuffix a (46 :: b) = (decide ((a[k]'(by omega)).toNat = 46) && (a.drop (k + 1) == b)) := by
  have hd : a.drop k = a[k]'(by omega) :: a.drop (k + 1) := List.drop_eq_getElem_cons (by omega)
  have e : Lib.hasSuffix a (46 :: b) = (a.drop k == 46 :: b) := by
    rw [Bool.eq_iff_iff, beq_iff_eq]
    unfold Lib.hasSuffix
    rw [List.isSuffixOf_iff_suffix, List.suffix_iff_eq_drop]
    have : a.length - (46 :: b).length = k := by simp; omega
    rw [this]
    exact ⟨fun h => h.symm, fun h => h.symm⟩
  rw [e, hd, Bool.eq_iff_iff]
  simp only [beq_iff_eq, List.cons.injEq, Bool.and_eq_true, decide_eq_true_eq]
  constructor
  · rintro ⟨h1, h2⟩; exact ⟨by rw [h1]; rfl, h2⟩
  · rintro ⟨h1, h2⟩; exact ⟨UInt8.toNat_inj.1 h1, h2⟩
set_option maxRecDepth 100000 in
set_option maxHeartbeats 4000000 in
theorem rbelow_any (a b : List UInt8) (w : World) (ha : a.length ≤ 3999999990) (hb : b.length ≤ 3999999990) :
    Calls Tryd.prog 7 #[.string ⟨a.toArray⟩, .string ⟨b.toArray⟩] w fun e w' => e = .returned (.bool (belowL a b)) ∧ Below w.heap.size w w' := by
  have hbw := Below.refl w.heap.size w
  have hm : belowL a b = (a == b || (!b.isEmpty && (Lib.hasSuffix a (46 :: b) && (!machineL a && !machineL b)))) := rfl
  have cm := fun (x : List UInt8) (hx : x.length ≤ 3999999990) => lift_below w (fun W => rmachine_any x W (by omega))
  by_cases hab : a = b
  · have hab1 : (a == b) = true := by rw [beq_iff_eq]; exact hab
    rw [hab1] at hm
    have HM := Lib.hid hm
    clear hm hab
    go_enter Tryd.func7, Tryd.ntmps7
    go_wp2_with fail
    go_ret
    exact ⟨ret_bool (by rw [HM.out]; rfl), by assumption⟩
  · have hab1 : (a == b) = false := by rw [beq_eq_false_iff_ne]; exact hab
    rw [hab1, Bool.false_or] at hm
    by_cases h0 : b = []
    · have h1 : b.isEmpty = true := by rw [h0]; rfl
      have h2 : (b == []) = true := by rw [h0]; rfl
      rw [h1] at hm
      have HM := Lib.hid hm
      clear hm hab h0
      go_enter Tryd.func7, Tryd.ntmps7
      go_wp2_with fail
      go_ret
      exact ⟨ret_bool (by rw [HM.out]; rfl), by assumption⟩
    · have h1 := isEmpty_ne h0
      have h2 := beq_ne h0
      rw [h1] at hm
      clear hab h0
      by_cases hlen : a.length ≤ b.length
      · rw [suf_short hlen] at hm
        have hn : (a.length : Int) - (b.length : Int) ≤ 0 := by omega
        have HM := Lib.hid hm
        clear hm
        go_enter Tryd.func7, Tryd.ntmps7
        go_wp2_with fail
        go_ret
        exact ⟨ret_bool (by rw [HM.out]; rfl), by assumption⟩
      · obtain ⟨k, hk⟩ : ∃ k, a.length = b.length + (k + 1) := ⟨a.length - b.length - 1, by omega⟩
        rw [suf_long hk] at hm
        have hka : k < a.length := by omega
        have hn : (a.length : Int) - (b.length : Int) = (k : Int) + 1 := by omega
        have htk : List.take (a.length - (k + 1)) (List.drop (k + 1) a) = a.drop (k + 1) := List.take_of_length_le (by simp)
        clear hlen
        by_cases hc : (a[k]'hka).toNat = 46
        · rw [show decide ((a[k]'(by omega)).toNat = 46) = true from decide_eq_true hc] at hm
          have hc1 : ((a[k]'hka).toNat : Int) = 46 := by omega
          have hkH := Lib.hid hk
          clear hc hk
          cases hd : (a.drop (k + 1) == b)
          all_goals
            rw [hd] at hm
            cases hA : machineL a
            all_goals
              rw [hA] at hm
              cases hB : machineL b
              all_goals
                rw [hB] at hm
                have HM := Lib.hid hm
                clear hm
                go_enter Tryd.func7, Tryd.ntmps7
                go_wp2_with (go_at_call 12; refine (cm _ (by assumption) _ (by assumption)).mono ?_; rintro e w1 ⟨rfl, hb1⟩)
                go_ret
                exact ⟨ret_bool (by rw [HM.out]; rfl), by assumption⟩
        · rw [show decide ((a[k]'(by omega)).toNat = 46) = false from decide_eq_false hc] at hm
          have hc1 : ¬ ((a[k]'hka).toNat : Int) = 46 := by omega
          have HM := Lib.hid hm
          clear hm hc hk
          go_enter Tryd.func7, Tryd.ntmps7
          go_wp2_with fail
          go_ret
          exact ⟨ret_bool (by rw [HM.out]; rfl), by assumption⟩
end Go.Proofs.YtijobaecakhnjaaDoor
