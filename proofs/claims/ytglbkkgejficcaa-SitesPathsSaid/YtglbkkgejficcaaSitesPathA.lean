/- The walks of the path matchers of layer 9: what sites.Path, sites.Usual and their references return. -/
import Derived.Test.YtglbkkgejficcaaBase
import Derived.Test.YtglbkkgejficcaaPathLaw
import Derived.Test.YtglbkkgejficcaaShelf
import Derived.Test.YtglbkkgejficcaaPost
import Derived.Deep.Light
set_option linter.unusedVariables false
set_option linter.unusedSimpArgs false
namespace Go.Proofs.Ytglbkkgejficcaa
open Go.RowKit

theorem path_any (s c : List UInt8) (w : World) (hc : c.length ≤ 9223372036854775807) :
    Calls Try.prog 5 #[.string ⟨s.toArray⟩, .string ⟨c.toArray⟩] w fun e w' => e = .returned (.bool (pathL s c)) ∧ w = w' := by
  have ht : Lib.hasPrefix s c = true → Lib.trimPrefix s c = s.drop c.length := fun h => by simp [Lib.trimPrefix, h]
  by_cases hp : Lib.hasPrefix s c = true
  · have hp2 := ht hp
    clear ht
    go_enter Try.func5, Try.ntmps5
    go_wp2_with (first | (go_at_call 9; refine (Try.strings_CutPrefix _ _ _).mono ?_; rintro e w' ⟨rfl, rfl⟩) | (go_at_call 10; refine (Try.strings_HasSuffix _ _ _ ?_).mono ?_; (exact hc); rintro e w' ⟨rfl, rfl⟩))
    all_goals (first | (go_ret; refine ⟨ret_bool ?_, rfl⟩; rw [pathL, show c.isPrefixOf s = true from hp]) | skip)
    all_goals go_light
    all_goals (first | (simp_all [isEmpty_drop]; done) | (grind [isEmpty_drop]) | trace_state)
  · clear ht
    have hp1 : Lib.hasPrefix s c = false := by simpa using hp
    clear hp
    go_enter Try.func5, Try.ntmps5
    go_wp2_with (go_at_call 9; refine (Try.strings_CutPrefix _ _ _).mono ?_; rintro e w' ⟨rfl, rfl⟩)
    go_ret
    exact ⟨ret_bool (by rw [pathL, show c.isPrefixOf s = false from hp1]; rfl), rfl⟩

theorem refPath_any (s c : List UInt8) (w : World) (hs : s.length ≤ 9223372036854775807) (hc : c.length ≤ 9223372036854775807) :
    Calls Try.prog 6 #[.string ⟨s.toArray⟩, .string ⟨c.toArray⟩] w fun e w' => e = .returned (.bool (pathL s c)) ∧ w = w' := by
  go_enter Try.func6, Try.ntmps6
  go_wp2
  all_goals (go_ret; refine ⟨ret_bool ?_, rfl⟩; rw [pathL_ref])
  all_goals go_light
  all_goals (first | (simp_all; done) | grind | (simp_all; trace_state))

theorem usual_any (s : List UInt8) (w : World) (hs : s.length ≤ 1048576) :
    Calls Try.prog 7 #[.string ⟨s.toArray⟩] w fun e w' => e = .returned (.string ⟨(usualL s).toArray⟩) ∧ w = w' := by
  have hs2 : (⟨s.toArray⟩ : ByteArray).size < 4611686018427387904 := by show s.length < _; omega
  have hl := lastAt_lt s 47 s.length
  have hm := Lib.hid (lastIndexByte_mk s 47)
  go_enter Try.func7, Try.ntmps7
  go_wp2_with (first | (go_at_call 11; refine (Try.strings_LastIndexByte _ _ hs2 _).mono ?_; rintro e w' ⟨rfl, rfl⟩; rw [show Lib.lastIndexByte ⟨s.toArray⟩ 47 = _ from hm.out]))
  all_goals (first | (go_ret; refine ⟨ret_str ?_, rfl⟩; unfold usualL) | (exfalso; omega) | skip)
  all_goals go_light
  all_goals (first | (simp_all; done) | grind | (simp_all; trace_state))

theorem refUsual_any (s : List UInt8) (w : World) (hs : s.length ≤ 1048576) :
    Calls Try.prog 8 #[.string ⟨s.toArray⟩] w fun e w' => e = .returned (.string ⟨(usualL s).toArray⟩) ∧ w = w' := by
  go_enter Try.func8, Try.ntmps8
  go_wp2
  go_loop [3, 4] (fun t i => ∃ k : Nat, k ≤ s.length ∧ i = .int .i64 k ∧ t = .int .i64 (lastZ s k)) (fun _ i => s.length - (intOf i).toNat)
  case atStart => exact ⟨0, Nat.zero_le _, rfl, rfl⟩
  case round =>
    obtain ⟨k, hk, rfl, rfl⟩ := hrel
    have hb := lastZ_bd s k
    by_cases hlt : k < s.length
    · have hh := lastZ_hit s k hlt
      have hm := lastZ_miss s k hlt
      have Hh := Lib.hid hh
      have Hm := Lib.hid hm
      clear hh hm
      go_wp2
      all_goals go_round
      all_goals first
        | (case rel => exact ⟨k + 1, by omega, by go_num, by first | (rw [Hh.out (by assumption)]) | (rw [Hm.out (by assumption)])⟩)
        | skip
      all_goals (case measure => simp [intOf]; omega)
    · obtain rfl : k = s.length := by omega
      go_wp2
      all_goals (first | (go_ret; refine ⟨ret_str ?_, rfl⟩; rw [usualL_ref]) | skip)
      all_goals go_light
      all_goals (first | (simp_all; done) | grind | (simp_all; trace_state))

theorem beyond_any (ns : List Nat) (w : World) (ad : Nat) (hl : ns.length ≤ 1000) (hc : ∀ k : Nat, k < ns.length → w.cell? ⟨ad, k, none⟩ = some (.int .i64 (ns.getD k 0 : Nat))) (hn : ∀ k : Nat, k < ns.length → ns.getD k 0 ≤ 4611686018427387904) :
    Calls Try.prog 4 #[.slice (some ⟨ad, 0, none⟩) ns.length ns.length] w fun e w' => e = .returned (.bool (decide (1048576 < ns.sum))) ∧ w = w' := by
  have Hc := Lib.hid hc
  clear hc
  go_enter Try.func4, Try.ntmps4
  go_wp2
  go_loop [3, 4] (fun t i => ∃ k m : Nat, k ≤ ns.length ∧ i = .int .i64 k ∧ t = .int .i64 m ∧ Hid (m = (ns.take k).sum) ∧ m ≤ 1048576) (fun _ i => ns.length - (intOf i).toNat)
  case atStart => exact ⟨0, 0, Nat.zero_le _, rfl, rfl, rfl, by omega⟩
  case round =>
    obtain ⟨k, m, hk, rfl, rfl, Hm, hm⟩ := hrel
    by_cases hlt : k < ns.length
    · have h1 := Hc.out k hlt
      have h2 := hn k hlt
      have e1 : (ns.take (k + 1)).sum = (ns.take k).sum + ns.getD k 0 := by
        rw [List.take_succ_eq_append_getElem hlt, List.sum_append]; simp [hlt]
      have e2 : (ns.take (k + 1)).sum + (ns.drop (k + 1)).sum = ns.sum := by rw [← List.sum_append, List.take_append_drop]
      have E1 := Lib.hid e1
      have E2 := Lib.hid e2
      clear e1 e2
      generalize ns.getD k 0 = x at *
      go_wp2
      all_goals first
        | (go_round
           case rel => exact ⟨k + 1, m + x, by omega, by go_num, by go_num, by show _ = _; rw [E1.out, ← Hm.out], by omega⟩
           case measure => simp [intOf]; omega)
        | (go_ret; refine ⟨ret_bool ?_, rfl⟩; go_light; have := E1.out; have := E2.out; have := Hm.out; simp; omega)
    · obtain rfl : k = ns.length := by omega
      go_wp2
      go_ret
      refine ⟨ret_bool ?_, rfl⟩
      have := Hm.out
      rw [List.take_length] at this
      simp
      omega

theorem law_any (s c : List UInt8) (w : World) (hs : s.length ≤ 140737488351232) (hc : c.length ≤ 140737488351232) :
    Calls Try.prog 3 #[.string ⟨s.toArray⟩, .string ⟨c.toArray⟩] w fun e w' => e = .returned (.bool true) ∧ Below w.heap.size w w' := by
  by_cases hb : 1048576 < s.length + c.length
  all_goals
    go_enter Try.func3, Try.ntmps3
    go_wp2_with fail
    refine (beyond_any [s.length, c.length] _ _ (by simp) ?_ ?_).mono ?_
    · intro k hk
      match k, hk with
      | 0, _ => exact World.cell?_alloc_at _ _ _ 0 rfl
      | 1, _ => exact World.cell?_alloc_at _ _ _ 1 rfl
    · intro k hk
      match k, hk with
      | 0, _ => simp; omega
      | 1, _ => simp; omega
    rintro e w' ⟨rfl, rfl⟩
  · go_wp2_with fail
    go_ret
    exact ⟨rfl, (Below.refl _ _).alloc (Nat.le_refl _) _⟩
  · go_wp2_with fail
    refine (path_any s c _ (by omega)).mono ?_
    rintro e w' ⟨rfl, rfl⟩
    go_wp2_with fail
    refine (refPath_any s c _ (by omega) (by omega)).mono ?_
    rintro e w' ⟨rfl, rfl⟩
    go_wp2_with fail
    refine (usual_any s _ (by omega)).mono ?_
    rintro e w' ⟨rfl, rfl⟩
    go_wp2_with fail
    refine (refUsual_any s _ (by omega)).mono ?_
    rintro e w' ⟨rfl, rfl⟩
    go_wp2_with fail
    go_ret
    exact ⟨rfl, (Below.refl _ _).alloc (Nat.le_refl _) _⟩
end Go.Proofs.Ytglbkkgejficcaa
