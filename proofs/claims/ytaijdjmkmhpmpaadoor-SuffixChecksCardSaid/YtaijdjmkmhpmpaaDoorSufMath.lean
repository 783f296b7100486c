/- Rules of names that anybody may register, plain. -/
import Derived.Test.YtaijdjmkmhpmpaaDoorParts
set_option linter.unusedVariables false
set_option linter.unusedSimpArgs false
namespace Go.Proofs.YtaijdjmkmhpmpaaDoor

/-- Does a rule begin with an exclamation mark? -/
def exceptB (s : List UInt8) : Bool := s.head? == some 33
/-- A rule without its mark. -/
def bareL (s : List UInt8) : List UInt8 := if exceptB s then s.tail else s
/-- A rule's parts. -/
def sufP (s : List UInt8) : List (List UInt8) := partsL 46 (bareL s)
/-- A sign of a part. -/
def labB (c : UInt8) : Bool := (decide (97 ≤ c.toNat) && decide (c.toNat ≤ 122)) || ((decide (48 ≤ c.toNat) && decide (c.toNat ≤ 57)) || decide (c.toNat = 45))
theorem labB_iff {c : UInt8} : labB c = true ↔ (97 ≤ c.toNat ∧ c.toNat ≤ 122) ∨ (48 ≤ c.toNat ∧ c.toNat ≤ 57) ∨ c.toNat = 45 := by simp [labB]
def oddB (x : List UInt8) : Bool := x.isEmpty || (decide (63 < x.length) || !x.all labB)
def starB (s : List UInt8) : Bool := !exceptB s && (decide (1 < (sufP s).length) && (sufP s).head? == some [42])
def restP (s : List UInt8) : List (List UInt8) := if starB s then (sufP s).tail else sufP s
def restN (s : List UInt8) : Nat := (bareL s).length - (if starB s then 2 else 0)
/-- May a text be a rule? -/
def mayL (s : List UInt8) : Bool := !(exceptB s && decide ((sufP s).length < 2)) && (decide (restN s ≤ 253) && !(restP s).any oddB)
def checkL (l : List (List UInt8)) : Bool := decide (l.length ≤ 1024) && !l.any fun s => !mayL s

theorem sufP_ne (s : List UInt8) : sufP s ≠ [] := partsL_ne 46 _
theorem bareL_le (s : List UInt8) : (bareL s).length ≤ s.length := by unfold bareL; split <;> simp
theorem sufP_le (s : List UInt8) : (∀ p ∈ sufP s, p.length ≤ s.length) ∧ (sufP s).length ≤ s.length + 1 := by
  have h := partsL_le 46 (bareL s)
  have := bareL_le s
  exact ⟨fun p hp => by have := h.1 p hp; omega, by unfold sufP; omega⟩
theorem restP_le (s : List UInt8) : (restP s).length ≤ (sufP s).length ∧ ∀ p ∈ restP s, p ∈ sufP s := by
  unfold restP
  split
  · exact ⟨by simp, fun p hp => List.mem_of_mem_tail hp⟩
  · exact ⟨Nat.le_refl _, fun p hp => hp⟩
theorem bareL_len (s : List UInt8) : (bareL s).length = s.length - (if exceptB s then 1 else 0) := by
  unfold bareL
  split
  · simp
  · simp
theorem exceptB_pos {s : List UInt8} (h : exceptB s = true) : 1 ≤ s.length := by
  cases s with
  | nil => simp [exceptB] at h
  | cons c s => simp
/-- With a star ahead: what stands behind it. -/
theorem star_bare {s : List UInt8} (h : starB s = true) : exceptB s = false ∧ 1 < (sufP s).length ∧ ∃ l, sufP s = [42] :: l ∧ l ≠ [] ∧ s = 42 :: 46 :: joinL 46 l := by
  unfold starB at h
  simp only [Bool.and_eq_true, Bool.not_eq_true', decide_eq_true_eq, beq_iff_eq] at h
  obtain ⟨h1, h2, h3⟩ := h
  refine ⟨h1, h2, ?_⟩
  obtain ⟨p, l, e⟩ := List.exists_cons_of_ne_nil (sufP_ne s)
  rw [e] at h3 h2
  have h3 : p = [42] := by simpa using h3
  subst h3
  have hl : l ≠ [] := fun e => by rw [e] at h2; simp at h2
  refine ⟨l, e, hl, ?_⟩
  have hj := join_parts 46 (bareL s)
  have hb : bareL s = s := by unfold bareL; rw [if_neg (by rw [h1]; simp)]
  unfold sufP at e
  rw [e, joinL_cons hl, hb] at hj
  rw [← hj]
  rfl
end Go.Proofs.YtaijdjmkmhpmpaaDoor
