/- The walks of hosts.Below and the reference's Below. -/
import Derived.Test.YtijobaecakhnjaaDoorMachine
import Derived.Lib.QuietBelow
set_option linter.unusedVariables false
set_option linter.unusedSimpArgs false
namespace Go.Proofs.YtijobaecakhnjaaDoor
open Go.RowKit

theorem ba_join (a b : List UInt8) : (ByteArray.mk a.toArray) ++ (ByteArray.mk b.toArray) = ByteArray.mk (a ++ b).toArray := by
  apply ByteArray.ext
  simp
theorem dot_join (b : List UInt8) : (ByteArray.mk #[46]) ++ (ByteArray.mk b.toArray) = ByteArray.mk (46 :: b).toArray := ba_join [46] b
attribute [local go_sem] dot_join

/-- Is a host another one, or below it? -/
def belowL (a b : List UInt8) : Bool := a == b || (!b.isEmpty && (Lib.hasSuffix a (46 :: b) && (!machineL a && !machineL b)))
set_option maxRecDepth 100000 in
set_option maxHeartbeats 2000000 in
theorem below_any (a b : List UInt8) (w : World) (hE : Env w) (ha : a.length ≤ 3999999990) (hb : b.length ≤ 3999999990) :
    Calls Tryd.prog 6 #[.string ⟨a.toArray⟩, .string ⟨b.toArray⟩] w fun e w' => e = .returned (.bool (belowL a b)) ∧ Below w.heap.size w w' := by
  have hbw := Below.refl w.heap.size w
  have hm : belowL a b = (a == b || (!b.isEmpty && (Lib.hasSuffix a (46 :: b) && (!machineL a && !machineL b)))) := rfl
  have cs := lift_same w (fun W => (Tryd.strings_HasSuffix ⟨a.toArray⟩ ⟨(46 :: b).toArray⟩ W (by show a.length ≤ _; omega)).mono (R' := fun e W' => e = .returned (.bool (Lib.hasSuffix a (46 :: b))) ∧ W = W') fun e W' ⟨he, hw⟩ => ⟨he, hw.symm⟩)
  have cm := fun (x : List UInt8) (hx : x.length ≤ 3999999990) => lift_env hE (fun W hEW => machine_any x W hEW (by omega))
  by_cases hab : a = b
  · have hab1 : (a == b) = true := by rw [beq_iff_eq]; exact hab
    rw [hab1] at hm
    have HM := Lib.hid hm
    clear hm hab
    go_enter Tryd.func6, Tryd.ntmps6
    go_wp2_with fail
    go_ret
    exact ⟨ret_bool (by rw [HM.out]; rfl), by assumption⟩
  · have hab1 : (a == b) = false := by rw [beq_eq_false_iff_ne]; exact hab
    rw [hab1, Bool.false_or] at hm
    by_cases h0 : b = []
    · have h1 : b.isEmpty = true := by rw [h0]; rfl
      have h2 : (b == []) = true := by rw [h0]; rfl
      rw [h1] at hm
      have HM := Lib.hid hm
      clear hm hab h0
      go_enter Tryd.func6, Tryd.ntmps6
      go_wp2_with fail
      go_ret
      exact ⟨ret_bool (by rw [HM.out]; rfl), by assumption⟩
    · have h1 := isEmpty_ne h0
      have h2 := beq_ne h0
      rw [h1] at hm
      have hsum : ¬ 9223372036854775807 < 1 + b.length := by omega
      clear hab h0
      cases hs : Lib.hasSuffix a (46 :: b)
      all_goals
        rw [hs] at cs hm
        clear hs
        cases hA : machineL a
        all_goals
          rw [hA] at hm
          cases hB : machineL b
          all_goals
            rw [hB] at hm
            have HM := Lib.hid hm
            clear hm
            go_enter Tryd.func6, Tryd.ntmps6
            go_wp2_with (first | (go_at_call 10; refine (cs _ (by assumption)).mono ?_; rintro e w1 ⟨rfl, hb1⟩) | (go_at_call 11; refine (cm _ (by assumption) _ (by assumption)).mono ?_; rintro e w1 ⟨rfl, hb1⟩))
            go_ret
            exact ⟨ret_bool (by rw [HM.out]; rfl), by assumption⟩
end Go.Proofs.YtijobaecakhnjaaDoor
