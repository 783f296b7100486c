/- The suffix of a host without rules, plain. -/
import Derived.Test.YtaijdjmkmhpmpaaGreatDoorGSu4
set_option linter.unusedVariables false
set_option linter.unusedSimpArgs false
namespace Go.Proofs.YtaijdjmkmhpmpaaGreatDoor

theorem last_one {P : List (List UInt8)} (h : 0 < P.length) : lastL P 1 = P[P.length - 1]'(by omega) := by
  unfold lastL
  rw [List.drop_eq_getElem_cons (by omega : P.length - 1 < P.length), List.drop_of_length_le (by omega)]
  rfl
theorem last_two {P : List (List UInt8)} (h : 1 < P.length) : lastL P 2 = P[P.length - 2]'(by omega) ++ 46 :: lastL P 1 := by
  unfold lastL
  rw [List.drop_eq_getElem_cons (by omega : P.length - 2 < P.length), show P.length - 2 + 1 = P.length - 1 by omega, joinL_cons (by
    intro e
    have := congrArg List.length e
    simp at this
    omega)]
theorem none_suffix {h : List UInt8} (hw : hostL h = some h) (hm : machineL h = false) : suffixL [] h = (lastL (partsL 46 h) 1, 0) := by
  have h0 : wrongL [] h = 0 := by
    unfold wrongL
    rw [show checkL [] = true from rfl, if_neg (by simp), if_pos ⟨hw, hm⟩]
  unfold suffixL
  rw [if_pos h0]
  rfl
theorem none_own {h : List UInt8} (hw : hostL h = some h) (hm : machineL h = false) : ownL [] h = if (partsL 46 h).length < 2 then ([], 0) else (lastL (partsL 46 h) 2, 0) := by
  have h0 : wrongL [] h = 0 := by
    unfold wrongL
    rw [show checkL [] = true from rfl, if_neg (by simp), if_pos ⟨hw, hm⟩]
  unfold ownL
  rw [if_pos h0]
  rfl
theorem none_wrong {h : List UInt8} (hw : ¬ (hostL h = some h ∧ machineL h = false)) : suffixL [] h = ([], 5) ∧ ownL [] h = ([], 5) := by
  have h0 : wrongL [] h = 5 := by
    unfold wrongL
    rw [show checkL [] = true from rfl, if_neg (by simp), if_neg hw]
  unfold suffixL ownL
  rw [h0]
  exact ⟨rfl, rfl⟩
end Go.Proofs.YtaijdjmkmhpmpaaGreatDoor
