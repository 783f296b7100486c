/- strings.Trim at letters of our own, and when nothing is left. -/
import Derived.Test.YtaijdjmkmhpmpaaDoorBase
import Derived.Test.YtaijdjmkmhpmpaaDoorShelf
import Derived.Shelf.Strings.SlTrimAscii
set_option linter.unusedVariables false
set_option linter.unusedSimpArgs false
namespace Go.Proofs.YtaijdjmkmhpmpaaDoor
open Go.RowKit

theorem trim_any (s cut : List UInt8) (w : World) (hs : s.length ≤ 140737488351232) (hc : cut.length ≤ 1000) (ha : ∀ c ∈ cut, c.toNat < 128) :
    Calls Tryd.prog 18 #[.string ⟨s.toArray⟩, .string ⟨cut.toArray⟩] w fun e w' => e = .returned (.string ⟨(Lib.trimS s cut).toArray⟩) ∧ Below w.heap.size w w' :=
  Any.strings_Trim_laid Tryd.lays160 (by kernel_rfl) ⟨s.toArray⟩ ⟨cut.toArray⟩ w (by show s.length ≤ _; omega) (by show cut.length < _; omega) (fun j b h => ha b (List.mem_of_getElem? h))
theorem dropWhile_nil {p : UInt8 → Bool} {l : List UInt8} : l.dropWhile p = [] ↔ ∀ c ∈ l, p c = true := by
  induction l with
  | nil => simp
  | cons a l ih =>
    by_cases h : p a = true
    · rw [List.dropWhile_cons_of_pos h, ih]; simp [h]
    · rw [List.dropWhile_cons_of_neg h]; simp [h]
theorem trimS_nil {s cut : List UInt8} : Lib.trimS s cut = [] ↔ ∀ c ∈ s, cut.contains c = true := by
  unfold Lib.trimS Lib.trimLeftS Lib.trimRightS
  rw [dropWhile_nil]
  constructor
  · intro h
    cases hd : s.reverse.dropWhile (cut.contains ·) with
    | nil =>
      have := dropWhile_nil.1 hd
      intro c hc
      exact this c (by simpa using hc)
    | cons a l =>
      exfalso
      have h1 := h a (by rw [hd]; simp)
      have h2 : ¬ cut.contains a = true := by
        have : ∀ (l' : List UInt8), l'.dropWhile (cut.contains ·) = a :: l → ¬ cut.contains a = true := by
          intro l'
          induction l' with
          | nil => intro h; simp at h
          | cons b l' ih =>
            by_cases hb : cut.contains b = true
            · rw [List.dropWhile_cons_of_pos hb]; exact ih
            · rw [List.dropWhile_cons_of_neg hb]
              intro h
              injection h with h _
              rw [← h]; exact hb
        exact this _ hd
      exact h2 h1
  · intro h c hc
    have : c ∈ s := by
      have := List.mem_reverse.1 hc
      have := (List.dropWhile_sublist _).subset this
      simpa using this
    exact h c this
end Go.Proofs.YtaijdjmkmhpmpaaDoor
