/- The walks of hosts.Labels and the reference's Labels. -/
import Derived.Test.YtijobaecakhnjaaGreatDoorRMachine
import Derived.Test.YtijobaecakhnjaaGreatDoorRParts5
import Derived.Test.YtijobaecakhnjaaGreatDoorOwn
set_option linter.unusedVariables false
set_option linter.unusedSimpArgs false
namespace Go.Proofs.YtijobaecakhnjaaGreatDoor
open Go.RowKit

/-- The parts of a host's name. -/
def labelsL (s : List UInt8) : List (List UInt8) := if s = [] then [] else if machineL s then [s] else partsL 46 s
theorem labelsL_le (s : List UInt8) : (labelsL s).length ≤ s.length + 1 := by
  unfold labelsL
  split
  · simp
  · split
    · simp
    · exact (partsL_le 46 s).2
theorem own_lit {w : World} {base : Nat} {e : TypeId} {l : List (List UInt8)} (hb : base ≤ w.heap.size) (hl : l.length ≤ 4000000000) :
    (w.alloc (.cells (strs l).toArray e)).ownsRow base e 1 (.slice (some ⟨w.heap.size, 0, none⟩) l.length l.length) l.length (strs l) := by
  have h := World.ownsRow_lit (base := base) (e := e) (size := 1) w (strs l).toArray l.length hb (by unfold maxLen; omega) (by simp)
  simpa using h

set_option maxRecDepth 100000 in
set_option maxHeartbeats 1000000 in
theorem labels_any (s : List UInt8) (w : World) (hE : Env w) (hs : s.length ≤ 3999999990) :
    Calls Tryz.prog 11 #[.string ⟨s.toArray⟩] w fun e w' => ∃ ad, e = .returned (.slice ad (labelsL s).length (labelsL s).length) ∧ w'.ownsRow w.heap.size 9 1 (.slice ad (labelsL s).length (labelsL s).length) (labelsL s).length (strs (labelsL s)) ∧ Below w.heap.size w w' := by
  have hm : labelsL s = if s = [] then [] else if machineL s then [s] else partsL 46 s := rfl
  by_cases h0 : s = []
  · rw [if_pos h0] at hm
    have h2 : (s == []) = true := by rw [h0]; rfl
    have HM := Lib.hid hm
    clear hm h0
    go_enter Tryz.func11, Tryz.ntmps11
    go_wp2_with fail
    go_ret
    exact ⟨none, by rw [HM.out]; rfl, by rw [HM.out]; exact World.ownsRow_nil _ _ _ _, Below.refl _ _⟩
  · rw [if_neg h0] at hm
    have h2 := beq_ne h0
    have cm := machine_any s w hE (by omega)
    cases hM : machineL s
    all_goals
      rw [hM] at hm cm
      clear h0
    · have hm : labelsL s = partsL 46 s := hm
      have HM := Lib.hid hm
      clear hm hM
      have hpl := (partsL_le 46 s).2
      go_enter Tryz.func11, Tryz.ntmps11
      go_wp2_with fail
      go_at_call 14
      refine cm.mono ?_
      rintro e w1 ⟨rfl, hb1⟩
      go_wp2_with fail
      go_at_call 28
      refine (split_any s 46 w1 (hE.below hb1).shaped (by omega)).mono ?_
      rintro e w2 ⟨rfl, rfl⟩
      go_wp2_with fail
      go_ret
      exact ⟨_, by rw [HM.out]; rfl, by rw [HM.out]; exact own_lit hb1.size (by omega), hb1.alloc hb1.size _⟩
    · have hm : labelsL s = [s] := hm
      have HM := Lib.hid hm
      clear hm hM
      go_enter Tryz.func11, Tryz.ntmps11
      go_wp2_with fail
      go_at_call 14
      refine cm.mono ?_
      rintro e w1 ⟨rfl, hb1⟩
      go_wp2_with fail
      go_ret
      exact ⟨_, by rw [HM.out]; rfl, by rw [HM.out]; exact own_lit hb1.size (by simp), hb1.alloc hb1.size _⟩
set_option maxRecDepth 100000 in
set_option maxHeartbeats 1000000 in
theorem rlabels_any (s : List UInt8) (w : World) (hs : s.length ≤ 3999999990) :
    Calls Tryz.prog 13 #[.string ⟨s.toArray⟩] w fun e w' => ∃ v, e = .returned v ∧ w'.ownsRow w.heap.size 9 1 v (labelsL s).length (strs (labelsL s)) ∧ Below w.heap.size w w' := by
  have hm : labelsL s = if s = [] then [] else if machineL s then [s] else partsL 46 s := rfl
  by_cases h0 : s = []
  · rw [if_pos h0] at hm
    have h2 : (s == []) = true := by rw [h0]; rfl
    have HM := Lib.hid hm
    clear hm h0
    go_enter Tryz.func13, Tryz.ntmps13
    go_wp2_with fail
    go_ret
    exact ⟨_, rfl, by rw [HM.out]; exact World.ownsRow_nil _ _ _ _, Below.refl _ _⟩
  · rw [if_neg h0] at hm
    have h2 := beq_ne h0
    have cm := rmachine_any s w (by omega)
    cases hM : machineL s
    all_goals
      rw [hM] at hm cm
      clear h0
    · have hm : labelsL s = partsL 46 s := hm
      have HM := Lib.hid hm
      clear hm hM
      go_enter Tryz.func13, Tryz.ntmps13
      go_wp2_with fail
      go_at_call 15
      refine cm.mono ?_
      rintro e w1 ⟨rfl, hb1⟩
      go_wp2_with fail
      go_at_call 29
      refine (rParts_any s w1 (by omega)).mono ?_
      rintro e w2 ⟨v, rfl, hown, hb2⟩
      go_wp2_with fail
      go_ret
      exact ⟨_, rfl, by rw [HM.out]; exact own_base hown hb1.size, hb1.trans (hb2.mono hb1.size)⟩
    · have hm : labelsL s = [s] := hm
      have HM := Lib.hid hm
      clear hm hM
      go_enter Tryz.func13, Tryz.ntmps13
      go_wp2_with fail
      go_at_call 15
      refine cm.mono ?_
      rintro e w1 ⟨rfl, hb1⟩
      go_wp2_with fail
      go_ret
      exact ⟨_, rfl, by rw [HM.out]; exact own_lit hb1.size (by simp), hb1.alloc hb1.size _⟩
end Go.Proofs.YtijobaecakhnjaaGreatDoor
