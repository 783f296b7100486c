/- A host is below its suffix and its own name, plain. -/
import Derived.Test.YtaijdjmkmhpmpaaGreatDoorGSu1
import Derived.Test.YtaijdjmkmhpmpaaGreatDoorGStay
set_option linter.unusedVariables false
set_option linter.unusedSimpArgs false
namespace Go.Proofs.YtaijdjmkmhpmpaaGreatDoor

theorem last_up {P : List (List UInt8)} {n : Nat} : lastL P n = upL P (P.length - n) := rfl
theorem suf_hostok {h : List UInt8} (hh : h.length ≤ 1000) (hx : hostL h = some h) (hm : machineL h = false) : HostOk h (partsL 46 h) := by
  rcases host_ok hh hx with ⟨h1, _⟩ | ⟨l, hl⟩
  · unfold machineL at hm
    cases h with
    | nil => simp at h1
    | cons c r =>
      simp at h1
      subst h1
      rw [brL_cons] at hm
      simp at hm
  · have he : labelsL h = l := by
      rcases hl.labels.1 with ⟨_, h2⟩ | ⟨h2, _⟩
      · rw [hm] at h2; cases h2
      · exact h2
    unfold labelsL at he
    rw [if_neg hl.name.x_ne, hm, if_neg (by simp)] at he
    rw [he]; exact hl
theorem HostOk.labels_up {x : List UInt8} {l : List (List UInt8)} (h : HostOk x l) (hm : machineL x = false) {i : Nat} (hi : i < l.length) : labelsL (upL l i) = l.drop i := by
  unfold labelsL
  rw [if_neg (h.drop_ne hi), show machineL (upL l i) = false from h.up hm hi, if_neg (by simp)]
  exact parts_join (fun e => by have := congrArg List.length e; simp at this; omega) fun p hp c hc => h.name.point p (List.mem_of_mem_drop hp) c hc
/-- What SuffixBelow asks of a suffix of n parts, and of a name of one more. -/
theorem suf_below {h : List UInt8} {n : Nat} (hh : h.length ≤ 1000) (hx : hostL h = some h) (hm : machineL h = false) (h1 : 1 ≤ n) (hn : n ≤ (partsL 46 h).length) :
    lastL (partsL 46 h) n ≠ [] ∧ belowL h (lastL (partsL 46 h) n) = true ∧ (n = (partsL 46 h).length → h = lastL (partsL 46 h) n) ∧
    (n < (partsL 46 h).length → lastL (partsL 46 h) (n + 1) ≠ [] ∧ belowL h (lastL (partsL 46 h) (n + 1)) = true ∧ belowL (lastL (partsL 46 h) (n + 1)) (lastL (partsL 46 h) n) = true ∧ (labelsL (lastL (partsL 46 h) (n + 1))).length = (labelsL (lastL (partsL 46 h) n)).length + 1) := by
  have hk := suf_hostok hh hx hm
  have hi : (partsL 46 h).length - n < (partsL 46 h).length := by omega
  rw [last_up]
  refine ⟨hk.drop_ne hi, hk.below_up hm hi, fun e => ?_, fun hlt => ?_⟩
  · rw [e, Nat.sub_self]; unfold upL; rw [List.drop_zero, ← hk.name.join]
  · have hi2 : (partsL 46 h).length - (n + 1) < (partsL 46 h).length := by omega
    have e2 : (partsL 46 h).length - n = (partsL 46 h).length - (n + 1) + 1 := by omega
    rw [last_up]
    refine ⟨hk.drop_ne hi2, hk.below_up hm hi2, ?_, ?_⟩
    · rw [e2]; exact (hk.up_next hm (by omega)).1
    · rw [hk.labels_up hm hi2, hk.labels_up hm hi, List.length_drop, List.length_drop]; omega
end Go.Proofs.YtaijdjmkmhpmpaaGreatDoor
