/- A part of a host's name, plain: as it is asked for, and as it is shown. -/
import Derived.Test.YtafieajameapiaaDoorDecMath
import Derived.Test.YtafieajameapiaaDoorREncBad
import Derived.Test.YtafieajameapiaaDoorPlain
import Derived.Test.YtafieajameapiaaDoorLower
set_option linter.unusedVariables false
set_option linter.unusedSimpArgs false
namespace Go.Proofs.YtafieajameapiaaDoor

theorem decF_len : ∀ (f : Nat) (s : List UInt8) (b sign place : Nat) (first : Bool) (l r : List Nat), decF f s b sign place first l = some r → r.length ≤ l.length + s.length
  | 0, _, _, _, _, _, _, _, h => by simp [decF] at h
  | f + 1, s, b, sign, place, first, l, r, h => by
    unfold decF at h
    by_cases hs : s = []
    · rw [if_pos hs] at h; injection h with h; subst h; omega
    · rw [if_neg hs] at h
      cases hr : readL b s 36 1 place with
      | none => rw [hr] at h; cases h
      | some p =>
        obtain ⟨n, rest⟩ := p
        rw [hr] at h
        have hl := (readL_some b s 36 1 place n rest hr).2.2.1
        simp only at h
        split at h
        · cases h
        · have := decF_len f _ _ _ _ _ _ _ h
          have hm : n % (l.length + 1) ≤ l.length := by have := Nat.mod_lt n (show 0 < l.length + 1 by omega); omega
          simp only [List.length_append, List.length_take, List.length_drop, List.length_singleton] at this
          omega
theorem decTop_len {s : List UInt8} {r : List Nat} (h : decTop s = some r) : r.length ≤ s.length := by
  unfold decTop at h
  have hb := lastAt_lt s 45 s.length
  split at h
  · have := decF_len _ _ _ _ _ _ _ _ h
    simp only [List.length_map, List.length_take, List.length_drop] at this
    omega
  · have := decF_len _ _ _ _ _ _ _ _ h
    simpa using this
theorem decode_len (s : List UInt8) : (decode s).1.length ≤ 4 * s.length := by
  unfold decode
  split
  · simp
  · split
    · simp
    · cases h : decTop s with
      | none => simp
      | some l =>
        have := decTop_len h
        have h2 := bytesL_len l
        show (bytesL l).length ≤ _
        omega
theorem decode_nil : decode [] = ([], 0) := by
  rw [decode_plain (by simp) (by simp)]
  rfl

theorem run_ok {R : List Nat} {p : Nat} (hR : R.length ≤ 7000) : ∀ (ms : List Nat) (x : Nat × ES), OutOk R p x ms → OutOk R p (runS R p ms x) []
  | [], _, h => h
  | m :: ms, x, h => run_ok hR ms _ (h.next hR)
theorem encR_len {R : List Nat} (hR : R.length ≤ 7000) (hx : ∀ c ∈ R, c ≤ 1114111) : (encR R).length ≤ 245001 := by
  have h := run_ok hR _ _ (start_ok R hx)
  have h1 := h.out
  have h2 := h.done
  unfold encR
  omega
theorem encodeL_len {s : List UInt8} (hs : s.length ≤ 5000) : (encodeL s).1.length ≤ 245001 := by
  unfold encodeL
  rw [if_neg (by omega)]
  split
  · have h1 := runes_len _ s (Nat.le_refl _)
    exact encR_len (by omega) (runes_le _ s (Nat.le_refl _))
  · simp

/-- Up to 63 bytes. -/
def finL (u : List UInt8) : List UInt8 × Nat := if 63 < u.length then ([], 5) else (u, 0)
def fewB : List UInt8 := [120, 110, 45, 45]
theorem finL_big {u : List UInt8} (h : 63 < u.length) : finL u = ([], 5) := if_pos h
theorem finL_ok {u : List UInt8} (h : u.length ≤ 63) : finL u = (u, 0) := if_neg (by omega)
theorem few_append (l : List UInt8) : (ByteArray.mk #[120, 110, 45, 45]) ++ (ByteArray.mk l.toArray) = ByteArray.mk (fewB ++ l).toArray := ba_append fewB l
theorem few_len (l : List UInt8) : (fewB ++ l).length = 4 + l.length := by simp [fewB]; omega
theorem encodeL_err {s : List UInt8} (h : (encodeL s).2 ≠ 0) : (encodeL s).1 = [] := by
  unfold encodeL at h ⊢
  split
  · rfl
  · split
    · rename_i h1 h2
      rw [if_neg h1, if_pos h2] at h
      exact absurd rfl h
    · rfl
theorem few_whole {u : List UInt8} (h : fewL u = true) : u = fewB ++ u.drop 4 := by
  unfold fewL at h
  rw [beq_iff_eq] at h
  conv => lhs; rw [← List.take_append_drop 4 u, h]
  rfl
def labelL (s : List UInt8) : List UInt8 × Nat :=
  if s = [] ∨ Lib.validD s = false then ([], 5)
  else if plainL (lowerL s) = false then (if (encodeL (lowerL s)).2 ≠ 0 then ([], 5) else finL (fewB ++ (encodeL (lowerL s)).1))
  else if fewL (lowerL s) then
    (if (decode ((lowerL s).drop 4)).2 ≠ 0 ∨ plainL (decode ((lowerL s).drop 4)).1 then ([], 5)
    else if (encodeL (decode ((lowerL s).drop 4)).1).1 ≠ (lowerL s).drop 4 then ([], 5) else finL (lowerL s))
  else finL (lowerL s)
end Go.Proofs.YtafieajameapiaaDoor
