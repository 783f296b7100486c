/- The walks of addrs.number and like. -/
import Derived.Test.YtijobaecakhnjaaGreatDoorCount
set_option linter.unusedVariables false
set_option linter.unusedSimpArgs false
namespace Go.Proofs.YtijobaecakhnjaaGreatDoor
open Go.RowKit

theorem isEmpty_ne {l : List UInt8} (h : l ≠ []) : l.isEmpty = false := by cases l with | nil => exact absurd rfl h | cons a l => rfl
theorem beq_ne {l : List UInt8} (h : l ≠ []) : (l == []) = false := by rw [beq_eq_false_iff_ne]; exact h

set_option maxRecDepth 100000 in
set_option maxHeartbeats 1000000 in
theorem anum_any (s : List UInt8) (w : World) (hE : Env w) (hs : s.length ≤ 140737488351232) :
    Calls Tryz.prog 76 #[.string ⟨s.toArray⟩] w fun e w' => e = .returned (cntV (numL s)) ∧ Below w.heap.size w w' := by
  have hbw := Below.refl w.heap.size w
  have ch := lift_same w (fun W => hexed_any s W hs)
  have hn : numL s = if hexPre s then cntL 16 (s.drop 2) else if s = [] then none else if (s.getD 0 0).toNat = 48 then cntL 8 s else cntL 10 s := rfl
  cases hh : hexPre s with
  | true =>
    rw [hh] at ch hn
    rw [if_pos rfl] at hn
    simp only [if_true] at ch
    have cc := lift_env hE (fun W hEW => count_16 (s.drop 2) W hEW (by simp; omega))
    rw [hn]
    generalize cntL 16 (s.drop 2) = r at *
    generalize s.drop 2 = x at *
    clear hh hn
    simp only [cntV] at cc ⊢
    go_enter Tryz.func76, Tryz.ntmps76
    go_wp2_with (first | (go_at_call 129; refine (ch _ (by assumption)).mono ?_; rintro e w1 ⟨rfl, hb1⟩) | (go_at_call 131; refine (cc _ (by assumption)).mono ?_; rintro e w1 ⟨rfl, hb1⟩))
    go_ret2
    exact ⟨rfl, by assumption⟩
  | false =>
    rw [hh] at ch hn
    rw [if_neg (by simp)] at hn
    simp only [Bool.false_eq_true, if_false] at ch
    by_cases h0 : s = []
    · rw [if_pos h0] at hn
      rw [hn]
      subst h0
      go_enter Tryz.func76, Tryz.ntmps76
      go_wp2_with (first | (go_at_call 129; refine (ch _ (by assumption)).mono ?_; rintro e w1 ⟨rfl, hb1⟩))
      go_ret2
      exact ⟨rfl, by assumption⟩
    · have he := isEmpty_ne h0
      have he2 := beq_ne h0
      have hl : 0 < s.length := List.length_pos_iff.2 h0
      have g0 := getD_is (s := s) (k := 0) hl
      rw [if_neg h0, g0] at hn
      by_cases h48 : (s[0]'hl).toNat = 48
      · rw [if_pos h48] at hn
        have cc := lift_env hE (fun W hEW => count_8 s W hEW hs)
        rw [hn]
        have h480 : ((s[0]'hl).toNat : Int) = 48 := by omega
        generalize cntL 8 s = r at *
        clear hh hn h48 h0 g0
        simp only [cntV] at cc ⊢
        go_enter Tryz.func76, Tryz.ntmps76
        go_wp2_with (first | (go_at_call 129; refine (ch _ (by assumption)).mono ?_; rintro e w1 ⟨rfl, hb1⟩) | (go_at_call 131; refine (cc _ (by assumption)).mono ?_; rintro e w1 ⟨rfl, hb1⟩))
        go_ret2
        exact ⟨rfl, by assumption⟩
      · rw [if_neg h48] at hn
        have cc := lift_env hE (fun W hEW => count_10 s W hEW hs)
        rw [hn]
        have h480 : ¬ ((s[0]'hl).toNat : Int) = 48 := by omega
        generalize cntL 10 s = r at *
        clear hh hn h48 h0 g0
        simp only [cntV] at cc ⊢
        go_enter Tryz.func76, Tryz.ntmps76
        go_wp2_with (first | (go_at_call 129; refine (ch _ (by assumption)).mono ?_; rintro e w1 ⟨rfl, hb1⟩) | (go_at_call 131; refine (cc _ (by assumption)).mono ?_; rintro e w1 ⟨rfl, hb1⟩))
        go_ret2
        exact ⟨rfl, by assumption⟩

set_option maxRecDepth 100000 in
set_option maxHeartbeats 1000000 in
theorem like_any (s : List UInt8) (w : World) (hE : Env w) (hs : s.length ≤ 140737488351232) :
    Calls Tryz.prog 75 #[.string ⟨s.toArray⟩] w fun e w' => e = .returned (.bool (likeL s)) ∧ Below w.heap.size w w' := by
  have hbw := Below.refl w.heap.size w
  have ch := lift_same w (fun W => hexed_any s W hs)
  have hn : likeL s = if hexPre s then (numL s).isSome else !s.isEmpty && allDig 10 s := rfl
  cases hh : hexPre s with
  | true =>
    rw [hh] at ch hn
    rw [if_pos rfl] at hn
    simp only [if_true] at ch
    have cc := lift_env hE (fun W hEW => anum_any s W hEW hs)
    rw [hn]
    generalize numL s = r at *
    generalize s.drop 2 = x at *
    clear hh hn
    simp only [cntV] at cc
    go_enter Tryz.func75, Tryz.ntmps75
    go_wp2_with (first | (go_at_call 129; refine (ch _ (by assumption)).mono ?_; rintro e w1 ⟨rfl, hb1⟩) | (go_at_call 76; refine (cc _ (by assumption)).mono ?_; rintro e w1 ⟨rfl, hb1⟩))
    go_ret
    exact ⟨rfl, by assumption⟩
  | false =>
    rw [hh] at ch hn
    rw [if_neg (by simp)] at hn
    simp only [Bool.false_eq_true, if_false] at ch
    rw [hn]
    by_cases h0 : s = []
    · subst h0
      clear hn hh
      go_enter Tryz.func75, Tryz.ntmps75
      go_wp2_with (first | (go_at_call 129; refine (ch _ (by assumption)).mono ?_; rintro e w1 ⟨rfl, hb1⟩))
      go_ret
      exact ⟨rfl, by assumption⟩
    · have he := isEmpty_ne h0
      have he2 := beq_ne h0
      have ct := lift_below w (fun W => trim_any s [48, 49, 50, 51, 52, 53, 54, 55, 56, 57] W hs (by decide) (by decide))
      have hd : (Lib.trimS s [48, 49, 50, 51, 52, 53, 54, 55, 56, 57]).isEmpty = allDig 10 s := by
        rw [Bool.eq_iff_iff, List.isEmpty_iff]; exact trim_10
      have hd2 : (Lib.trimS s [48, 49, 50, 51, 52, 53, 54, 55, 56, 57] == []) = allDig 10 s := by
        rw [Bool.eq_iff_iff, beq_iff_eq]; exact trim_10
      have hr : (!s.isEmpty && allDig 10 s) = allDig 10 s := by rw [he]; rfl
      rw [hr]
      generalize Lib.trimS s [48, 49, 50, 51, 52, 53, 54, 55, 56, 57] = T at *
      cases hA : allDig 10 s
      all_goals
        rw [hA] at hd hd2
        clear hn hh h0 hA hr
        go_enter Tryz.func75, Tryz.ntmps75
        go_wp2_with (first | (go_at_call 129; refine (ch _ (by assumption)).mono ?_; rintro e w1 ⟨rfl, hb1⟩) | (go_at_call 130; refine (ct _ (by assumption)).mono ?_; rintro e w1 ⟨rfl, hb1⟩))
        go_ret
        exact ⟨rfl, by assumption⟩
end Go.Proofs.YtijobaecakhnjaaGreatDoor
