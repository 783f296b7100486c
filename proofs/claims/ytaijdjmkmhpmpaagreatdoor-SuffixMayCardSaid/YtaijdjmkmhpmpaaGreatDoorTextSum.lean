/- How long texts are together, in two words. -/
import Derived.Test.YtaijdjmkmhpmpaaGreatDoorGSu1
import Derived.Test.YtaijdjmkmhpmpaaGreatDoorGJoin
set_option linter.unusedVariables false
set_option linter.unusedSimpArgs false
namespace Go.Proofs.YtaijdjmkmhpmpaaGreatDoor

theorem sumT_eq : ∀ l : List (List UInt8), sumT l = sumL l
  | [] => rfl
  | p :: l => by rw [sumT, sumL, sumT_eq l]
theorem textsN_sumL {L : List (List UInt8)} (h : textsN L ≤ 1048576) : textsN L = L.length + sumL L := by rw [textsN_sum h, sumT_eq]
theorem sumL_mem {L : List (List UInt8)} {p : List UInt8} (h : p ∈ L) : p.length ≤ sumL L := by rw [← sumT_eq]; exact sumT_mem h
end Go.Proofs.YtaijdjmkmhpmpaaGreatDoor
