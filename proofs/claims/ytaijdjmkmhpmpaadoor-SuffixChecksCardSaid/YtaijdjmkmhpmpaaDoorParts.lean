/- What stands between the bytes at which a text is split, plain. -/
import Derived.Test.YtaijdjmkmhpmpaaDoorBase
import Derived.Lib.SplitLaws
set_option linter.unusedVariables false
set_option linter.unusedSimpArgs false
namespace Go.Proofs.YtaijdjmkmhpmpaaDoor

def partsL (c : UInt8) : List UInt8 → List (List UInt8)
  | [] => [[]]
  | x :: s => if x = c then [] :: partsL c s else (x :: (partsL c s).headD []) :: (partsL c s).tail
theorem partsL_ne (c : UInt8) (s : List UInt8) : partsL c s ≠ [] := by
  cases s with
  | nil => simp [partsL]
  | cons x s => unfold partsL; split <;> simp
theorem partsL_hit {c : UInt8} {s : List UInt8} : partsL c (c :: s) = [] :: partsL c s := by rw [partsL, if_pos rfl]
theorem partsL_miss {c x : UInt8} {s : List UInt8} (h : x ≠ c) : partsL c (x :: s) = (x :: (partsL c s).headD []) :: (partsL c s).tail := by rw [partsL, if_neg h]
theorem partsL_len (c : UInt8) : ∀ s : List UInt8, (partsL c s).length = s.count c + 1
  | [] => rfl
  | x :: s => by
    have ih := partsL_len c s
    by_cases h : x = c
    · subst h; rw [partsL_hit, List.length_cons, ih, List.count_cons_self]
    · rw [partsL_miss h, List.length_cons, List.length_tail, ih, List.count_cons_of_ne h]; rfl
theorem partsL_le (c : UInt8) : ∀ s : List UInt8, (∀ p ∈ partsL c s, p.length ≤ s.length) ∧ (partsL c s).length ≤ s.length + 1
  | [] => by simp [partsL]
  | x :: s => by
    obtain ⟨h1, h2⟩ := partsL_le c s
    by_cases h : x = c
    · subst h
      rw [partsL_hit]
      refine ⟨fun p hp => ?_, by simp; omega⟩
      rcases List.mem_cons.1 hp with rfl | hp
      · simp
      · have := h1 p hp; simp; omega
    · rw [partsL_miss h]
      refine ⟨fun p hp => ?_, by simp; omega⟩
      rcases List.mem_cons.1 hp with rfl | hp
      · have : ((partsL c s).headD []).length ≤ s.length := by
          cases hh : partsL c s with
          | nil => simp
          | cons a l => rw [hh] at h1; exact h1 a List.mem_cons_self
        rw [List.length_cons, List.length_cons]; omega
      · have := h1 p (List.mem_of_mem_tail hp); simp; omega
theorem partsL_mem (c : UInt8) : ∀ (s : List UInt8), ∀ p ∈ partsL c s, ∀ x ∈ p, x ∈ s ∧ x ≠ c
  | [], p, hp, x, hx => by simp [partsL] at hp; subst hp; simp at hx
  | y :: s, p, hp, x, hx => by
    by_cases h : y = c
    · subst h
      rw [partsL_hit] at hp
      rcases List.mem_cons.1 hp with rfl | hp
      · simp at hx
      · have := partsL_mem y s p hp x hx
        exact ⟨List.mem_cons_of_mem _ this.1, this.2⟩
    · rw [partsL_miss h] at hp
      rcases List.mem_cons.1 hp with rfl | hp
      · rcases List.mem_cons.1 hx with rfl | hx
        · exact ⟨List.mem_cons_self, h⟩
        · have : (partsL c s).headD [] ∈ partsL c s := by
            cases hh : partsL c s with
            | nil => exact absurd hh (partsL_ne c s)
            | cons a l => simp
          have := partsL_mem c s _ this x hx
          exact ⟨List.mem_cons_of_mem _ this.1, this.2⟩
      · have := partsL_mem c s p (List.mem_of_mem_tail hp) x hx
        exact ⟨List.mem_cons_of_mem _ this.1, this.2⟩
/-- With a byte between: back. -/
def joinL (c : UInt8) : List (List UInt8) → List UInt8
  | [] => []
  | [p] => p
  | p :: q :: l => p ++ c :: joinL c (q :: l)
theorem joinL_cons {c : UInt8} {p : List UInt8} {l : List (List UInt8)} (h : l ≠ []) : joinL c (p :: l) = p ++ c :: joinL c l := by
  cases l with
  | nil => exact absurd rfl h
  | cons q l => rfl
theorem join_parts (c : UInt8) : ∀ s : List UInt8, joinL c (partsL c s) = s
  | [] => rfl
  | x :: s => by
    have ih := join_parts c s
    by_cases h : x = c
    · subst h; rw [partsL_hit, joinL_cons (partsL_ne x s), ih]; rfl
    · rw [partsL_miss h]
      cases hh : partsL c s with
      | nil => exact absurd hh (partsL_ne c s)
      | cons a l =>
        rw [hh] at ih
        cases l with
        | nil => simp only [List.headD_cons, List.tail_cons]; rw [← ih]; rfl
        | cons b l => simp only [List.headD_cons, List.tail_cons]; rw [← ih]; rfl
theorem parts_app {c : UInt8} : ∀ {p : List UInt8} {s : List UInt8}, (∀ x ∈ p, x ≠ c) → partsL c (p ++ c :: s) = p :: partsL c s
  | [], s, _ => partsL_hit
  | x :: p, s, h => by
    have := @parts_app c p s (fun y hy => h y (List.mem_cons_of_mem _ hy))
    rw [List.cons_append, partsL_miss (h x List.mem_cons_self), this]
    rfl
theorem parts_one {c : UInt8} : ∀ {p : List UInt8}, (∀ x ∈ p, x ≠ c) → partsL c p = [p]
  | [], _ => rfl
  | x :: p, h => by
    have := @parts_one c p (fun y hy => h y (List.mem_cons_of_mem _ hy))
    rw [partsL_miss (h x List.mem_cons_self), this]
    rfl
theorem parts_join {c : UInt8} : ∀ {l : List (List UInt8)}, l ≠ [] → (∀ p ∈ l, ∀ x ∈ p, x ≠ c) → partsL c (joinL c l) = l
  | [], h, _ => absurd rfl h
  | [p], _, h => parts_one (h p List.mem_cons_self)
  | p :: q :: l, _, h => by
    rw [joinL_cons (by simp), parts_app (h p List.mem_cons_self), parts_join (by simp) (fun p' hp => h p' (List.mem_cons_of_mem _ hp))]

/-- What is found so far, and the rest. -/
def partsA (c : UInt8) (cur rest : List UInt8) : List (List UInt8) := (cur ++ (partsL c rest).headD []) :: (partsL c rest).tail
theorem partsA_nil (c : UInt8) (s : List UInt8) : partsA c [] s = partsL c s := by
  unfold partsA
  cases h : partsL c s with
  | nil => exact absurd h (partsL_ne c s)
  | cons a l => rfl
theorem partsA_hit {c : UInt8} {cur s : List UInt8} : partsA c cur (c :: s) = cur :: partsL c s := by
  unfold partsA; rw [partsL_hit]; simp
theorem partsA_miss {c x : UInt8} {cur s : List UInt8} (h : x ≠ c) : partsA c cur (x :: s) = partsA c (cur ++ [x]) s := by
  unfold partsA; rw [partsL_miss h]; simp
theorem partsA_end {c : UInt8} {cur : List UInt8} : partsA c cur [] = [cur] := by unfold partsA; simp [partsL]

/-- The library's split at a byte. -/
theorem splitK_parts (c : UInt8) : ∀ s : List UInt8, Lib.splitK [c] 0 (Lib.count s [c]) s = partsL c s
  | [] => by
    have : Lib.count [] [c] = 0 := by rw [Lib.count_one]; rfl
    rw [this]; rfl
  | x :: s => by
    have ih := splitK_parts c s
    by_cases h : x = c
    · subst h
      rw [Lib.count_cons_eq, partsL_hit, show 1 + Lib.count s [x] = Lib.count s [x] + 1 by omega]
      have hi : Lib.index (x :: s) [x] = 0 := by simp [Lib.index]
      rw [Lib.splitK, hi]
      simp only [beq_iff_eq, Int.reduceNeg]
      rw [if_neg (by decide)]
      simp [ih]
    · rw [Lib.count_cons_ne x c s h, partsL_miss h, ← ih]
      have hpre : ([c] : List UInt8).isPrefixOf (x :: s) = false := by
        simp [List.isPrefixOf]; exact fun e => h e.symm
      cases hk : Lib.count s [c] with
      | zero => rfl
      | succ k =>
        have hne : Lib.index s [c] ≠ -1 := fun e => by
          have := Lib.count_miss e
          omega
        have hge := Lib.index_ge s [c]
        have hi : Lib.index (x :: s) [c] = Lib.index s [c] + 1 := by
          rw [Lib.index, if_neg (by rw [hpre]; simp), if_neg (by simpa using hne)]
        obtain ⟨i, hii⟩ : ∃ i : Nat, Lib.index s [c] = i := ⟨(Lib.index s [c]).toNat, by omega⟩
        rw [Lib.splitK, Lib.splitK, hi, hii, if_neg (by rw [beq_iff_eq]; omega), if_neg (by rw [beq_iff_eq]; omega)]
        have e1 : ((i : Int) + 1).toNat = i + 1 := by omega
        have e2 : ((i : Int)).toNat = i := by omega
        rw [e1, e2]
        simp
theorem split_parts (c : UInt8) (s : List UInt8) : Lib.split s [c] = partsL c s := splitK_parts c s
end Go.Proofs.YtaijdjmkmhpmpaaDoor
