/- The signs of a text, plain: by the decoder over lists. -/
import Derived.Test.YtafieajameapiaaDoorBase
import Derived.Lib.ValidLaws
import Derived.Lib.MapLaws
import Derived.Lib.TrimUEq
set_option linter.unusedVariables false
set_option linter.unusedSimpArgs false
namespace Go.Proofs.YtafieajameapiaaDoor

def runesF : Nat → List UInt8 → List Nat
  | 0, _ => []
  | f + 1, l => if l = [] then [] else (Lib.decodeL l).1 :: runesF f (l.drop (Lib.decodeL l).2)
theorem runesF_any : ∀ (f g : Nat) (l : List UInt8), l.length ≤ f → l.length ≤ g → runesF f l = runesF g l
  | 0, 0, _, _, _ => rfl
  | 0, g + 1, l, h, _ => by
    have : l = [] := List.length_eq_zero_iff.1 (by omega)
    subst this; simp [runesF]
  | f + 1, 0, l, _, h => by
    have : l = [] := List.length_eq_zero_iff.1 (by omega)
    subst this; simp [runesF]
  | f + 1, g + 1, l, h1, h2 => by
    unfold runesF
    split
    · rfl
    · have := Lib.decodeL_width l
      rw [runesF_any f g _ (by simp; omega) (by simp; omega)]
def runes (l : List UInt8) : List Nat := runesF l.length l
theorem runes_nil : runes [] = [] := rfl
theorem runes_step {l : List UInt8} (h : l ≠ []) : runes l = (Lib.decodeL l).1 :: runes (l.drop (Lib.decodeL l).2) := by
  unfold runes
  have hl : 0 < l.length := List.length_pos_iff.2 h
  have hw := Lib.decodeL_width l
  rw [show runesF l.length l = runesF (l.length - 1 + 1) l from by rw [Nat.sub_add_cancel hl]]
  conv => lhs; unfold runesF
  rw [if_neg h, runesF_any _ _ _ (by simp; omega) (Nat.le_refl _)]
theorem runes_len : ∀ (n : Nat) (l : List UInt8), l.length ≤ n → (runes l).length ≤ l.length
  | 0, l, h => by
    have : l = [] := List.length_eq_zero_iff.1 (by omega)
    subst this; simp [runes_nil]
  | n + 1, l, h => by
    by_cases hne : l = []
    · subst hne; simp [runes_nil]
    · have hw := Lib.decodeL_width l
      have hl : 0 < l.length := List.length_pos_iff.2 hne
      rw [runes_step hne, List.length_cons]
      have := runes_len n (l.drop (Lib.decodeL l).2) (by simp; omega)
      simp only [List.length_drop] at this
      omega
theorem runes_le : ∀ (n : Nat) (l : List UInt8), l.length ≤ n → ∀ c ∈ runes l, c ≤ 1114111
  | 0, l, h => by
    have : l = [] := List.length_eq_zero_iff.1 (by omega)
    subst this; simp [runes_nil]
  | n + 1, l, h => by
    by_cases hne : l = []
    · subst hne; simp [runes_nil]
    · have hw := Lib.decodeL_width l
      have hl : 0 < l.length := List.length_pos_iff.2 hne
      rw [runes_step hne]
      intro c hc
      rcases List.mem_cons.1 hc with rfl | hc
      · exact Lib.decodeL_rune l
      · exact runes_le n (l.drop (Lib.decodeL l).2) (by simp; omega) c hc
/-- The state of a walk over a text: so many bytes are through; what their signs are. -/
def Thru (s : List UInt8) (pre : List Nat) (pos : Nat) : Prop := runes s = pre ++ runes (s.drop pos) ∧ pre.length ≤ pos
theorem thru_start (s : List UInt8) : Thru s [] 0 := ⟨by simp, Nat.le_refl _⟩
theorem thru_step {s : List UInt8} {pre : List Nat} {pos : Nat} (h : Thru s pre pos) (hp : pos < s.length) : Thru s (pre ++ [(Utf8.decode ⟨s.toArray⟩ pos).1]) (pos + (Utf8.decode ⟨s.toArray⟩ pos).2) := by
  have hne : s.drop pos ≠ [] := by intro e; have := congrArg List.length e; simp at this; omega
  have hd : Lib.decodeL (s.drop pos) = Utf8.decode ⟨s.toArray⟩ pos := Lib.decodeL_drop ⟨s.toArray⟩ pos
  have hw := Lib.decodeL_width (s.drop pos)
  have h1 := h.1
  have h2 := h.2
  rw [runes_step hne, hd] at h1
  rw [hd] at hw
  refine ⟨?_, by simp; omega⟩
  rw [h1, List.drop_drop]
  simp
theorem thru_end {s : List UInt8} {pre : List Nat} {pos : Nat} (h : Thru s pre pos) (hp : ¬ pos < s.length) : runes s = pre := by
  have h1 := h.1
  rw [List.drop_eq_nil_of_le (by omega), runes_nil, List.append_nil] at h1
  exact h1
theorem thru_len {s : List UInt8} {pre : List Nat} {pos : Nat} (h : Thru s pre pos) : pre.length ≤ s.length := by
  have := runes_len _ s (Nat.le_refl _)
  rw [h.1, List.length_append] at this
  omega
end Go.Proofs.YtafieajameapiaaDoor
