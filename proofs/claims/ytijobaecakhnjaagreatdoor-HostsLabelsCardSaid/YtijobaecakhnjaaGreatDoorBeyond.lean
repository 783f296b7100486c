/- Whether sizes are beyond what is gone through. -/
import Derived.Test.YtijobaecakhnjaaGreatDoorBase
import Derived.Deep.Light
set_option linter.unusedVariables false
set_option linter.unusedSimpArgs false
namespace Go.Proofs.YtijobaecakhnjaaGreatDoor
open Go.RowKit

theorem beyond_any (ns : List Nat) (w : World) (ad : Nat) (hl : ns.length ≤ 1000) (hc : ∀ k : Nat, k < ns.length → w.cell? ⟨ad, k, none⟩ = some (.int .i64 (ns.getD k 0 : Nat))) (hn : ∀ k : Nat, k < ns.length → ns.getD k 0 ≤ 4611686018427387904) :
    Calls Tryz.prog 10 #[.slice (some ⟨ad, 0, none⟩) ns.length ns.length] w fun e w' => e = .returned (.bool (decide (1048576 < ns.sum))) ∧ w = w' := by
  have Hc := Lib.hid hc
  clear hc
  go_enter Tryz.func10, Tryz.ntmps10
  go_wp2
  go_loop [3, 4] (fun t i => ∃ k m : Nat, k ≤ ns.length ∧ i = .int .i64 k ∧ t = .int .i64 m ∧ Hid (m = (ns.take k).sum) ∧ m ≤ 1048576) (fun _ i => ns.length - (intOf i).toNat)
  case atStart => exact ⟨0, 0, Nat.zero_le _, rfl, rfl, rfl, by omega⟩
  case round =>
    obtain ⟨k, m, hk, rfl, rfl, Hm, hm⟩ := hrel
    by_cases hlt : k < ns.length
    · have h1 := Hc.out k hlt
      have h2 := hn k hlt
      have e1 : (ns.take (k + 1)).sum = (ns.take k).sum + ns.getD k 0 := by
        rw [List.take_succ_eq_append_getElem hlt, List.sum_append]; simp [hlt]
      have e2 : (ns.take (k + 1)).sum + (ns.drop (k + 1)).sum = ns.sum := by rw [← List.sum_append, List.take_append_drop]
      have E1 := Lib.hid e1
      have E2 := Lib.hid e2
      clear e1 e2
      generalize ns.getD k 0 = x at *
      go_wp2
      all_goals first
        | (go_round
           case rel => exact ⟨k + 1, m + x, by omega, by go_num, by go_num, by show _ = _; rw [E1.out, ← Hm.out], by omega⟩
           case measure => simp [intOf]; omega)
        | (go_ret; refine ⟨ret_bool ?_, rfl⟩; go_light; have := E1.out; have := E2.out; have := Hm.out; simp; omega)
    · obtain rfl : k = ns.length := by omega
      go_wp2
      go_ret
      refine ⟨ret_bool ?_, rfl⟩
      have := Hm.out
      rw [List.take_length] at this
      simp
      omega
end Go.Proofs.YtijobaecakhnjaaGreatDoor
