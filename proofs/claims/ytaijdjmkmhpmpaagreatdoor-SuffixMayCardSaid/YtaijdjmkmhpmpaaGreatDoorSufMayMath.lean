/- When a rule of some parts may be, plain. -/
import Derived.Test.YtaijdjmkmhpmpaaGreatDoorGSu4
set_option linter.unusedVariables false
set_option linter.unusedSimpArgs false
namespace Go.Proofs.YtaijdjmkmhpmpaaGreatDoor

theorem may_forms {l : List (List UInt8)} (h0 : l ≠ []) (hd : ∀ p ∈ l, (46 : UInt8) ∉ p) (hs : ∀ p ∈ l, p ≠ [42]) (hx : ∀ p ∈ l, p.head? ≠ some 33) (hn : (joinL 46 l).length ≤ 250) :
    mayL (joinL 46 l) = !l.any oddB ∧ mayL (42 :: 46 :: joinL 46 l) = !l.any oddB ∧ mayL (33 :: joinL 46 l) = (!l.any oddB && decide (1 < l.length)) ∧ mayL (33 :: 42 :: 46 :: joinL 46 l) = false ∧ mayL (joinL 46 l ++ [46, 42]) = false := by
  have hp : ∀ m : List (List UInt8), m ≠ [] → (∀ p ∈ m, (46 : UInt8) ∉ p) → partsL 46 (joinL 46 m) = m := fun m h1 h2 => parts_join h1 fun p hm c hc e => h2 p hm (e ▸ hc)
  have hS : partsL 46 (42 :: 46 :: joinL 46 l) = [42] :: l := by
    have e : 42 :: 46 :: joinL 46 l = joinL 46 ([42] :: l) := by rw [joinL_cons h0]; rfl
    rw [e]
    exact hp _ (by simp) (fun p hm => by rcases List.mem_cons.1 hm with rfl | hm; decide; exact hd p hm)
  have hE : partsL 46 (joinL 46 l ++ [46, 42]) = l ++ [[42]] := by
    rw [← show joinL 46 (l ++ [[42]]) = joinL 46 l ++ [46, 42] from join_snocS h0 [42]]
    exact hp _ (by simp) (fun p hm => by
      rcases List.mem_append.1 hm with hm | hm
      · exact hd p hm
      · rw [List.mem_singleton] at hm; rw [hm]; decide)
  have hL := hp l h0 hd
  have hne : (joinL 46 l).head? ≠ some 33 := by
    obtain ⟨p, r, rfl⟩ := List.exists_cons_of_ne_nil h0
    have hpx := hx p List.mem_cons_self
    cases p with
    | nil => cases r with
      | nil => simp [joinL]
      | cons q r => rw [joinL_cons (by simp)]; simp
    | cons c p => cases r with
      | nil => simpa [joinL] using hpx
      | cons q r => rw [joinL_cons (by simp)]; simpa using hpx
  have hhd : (l.head? == some [42]) = false := by
    obtain ⟨p, r, rfl⟩ := List.exists_cons_of_ne_nil h0
    have := hs p List.mem_cons_self
    simpa using this
  have e1 : exceptB (joinL 46 l) = false := by unfold exceptB; simpa using hne
  have e2 : exceptB (42 :: 46 :: joinL 46 l) = false := rfl
  have e3 : exceptB (33 :: joinL 46 l) = true := rfl
  have e4 : exceptB (33 :: 42 :: 46 :: joinL 46 l) = true := rfl
  have e5 : exceptB (joinL 46 l ++ [46, 42]) = false := by
    unfold exceptB
    cases hj : joinL 46 l with
    | nil => rfl
    | cons c r => rw [hj] at hne; simpa using hne
  have hl1 := List.length_pos_iff.2 h0
  have ho : oddB [42] = true := by decide
  refine ⟨?_, ?_, ?_, ?_, ?_⟩
  · have s1 : sufP (joinL 46 l) = l := by unfold sufP bareL; rw [if_neg (by rw [e1]; simp), hL]
    have st : starB (joinL 46 l) = false := by unfold starB; rw [s1, hhd]; simp
    unfold mayL restN restP bareL
    rw [e1, st, s1]
    simp
    omega
  · have s1 : sufP (42 :: 46 :: joinL 46 l) = [42] :: l := by unfold sufP bareL; rw [if_neg (by rw [e2]; simp), hS]
    have st : starB (42 :: 46 :: joinL 46 l) = true := by unfold starB; rw [s1, e2]; simp; omega
    unfold mayL restN restP bareL
    rw [e2, st, s1]
    simp
    omega
  · have s1 : sufP (33 :: joinL 46 l) = l := by unfold sufP bareL; rw [if_pos e3]; exact hL
    have st : starB (33 :: joinL 46 l) = false := by unfold starB; rw [e3]; simp
    unfold mayL restN restP bareL
    rw [e3, st, s1]
    have : (joinL 46 l).length ≤ 253 := by omega
    by_cases h2 : l.length < 2
    · simp [h2]; intro; omega
    · have : 1 < l.length := by omega
      simp [h2, this]; omega
  · have s1 : sufP (33 :: 42 :: 46 :: joinL 46 l) = [42] :: l := by unfold sufP bareL; rw [if_pos e4]; exact hS
    have st : starB (33 :: 42 :: 46 :: joinL 46 l) = false := by unfold starB; rw [e4]; simp
    unfold mayL restP
    rw [st, s1]
    simp [ho]
  · have s1 : sufP (joinL 46 l ++ [46, 42]) = l ++ [[42]] := by unfold sufP bareL; rw [if_neg (by rw [e5]; simp), hE]
    have st : starB (joinL 46 l ++ [46, 42]) = false := by
      obtain ⟨p, r, rfl⟩ := List.exists_cons_of_ne_nil h0
      have := hs p List.mem_cons_self
      unfold starB; rw [s1]; simp [this]
    unfold mayL restP
    rw [st, s1]
    simp [ho]
end Go.Proofs.YtaijdjmkmhpmpaaGreatDoor
