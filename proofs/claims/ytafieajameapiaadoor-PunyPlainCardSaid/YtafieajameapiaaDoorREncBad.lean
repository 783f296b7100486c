/- The reference's Encode where it refuses; Encode and it, in one. -/
import Derived.Test.YtafieajameapiaaDoorEncBad
import Derived.Test.YtafieajameapiaaDoorREncWalk
set_option linter.unusedVariables false
set_option linter.unusedSimpArgs false
namespace Go.Proofs.YtafieajameapiaaDoor
open Go.RowKit

set_option maxRecDepth 100000 in
set_option maxHeartbeats 1000000 in
theorem rencode_long (s : List UInt8) (w : World) (hs : 65536 < s.length) (hm : s.length ≤ 140737488351232) :
    Calls Tryd.prog 11 #[.string ⟨s.toArray⟩] w fun e w' => e = .returned (.tuple #[.string ⟨#[]⟩, .int .i64 3]) ∧ w = w' := by
  have hb : decide (65536 < (s.length : Int)) = true := by simp; omega
  clear hs
  go_enter Tryd.func11, Tryd.ntmps11
  iterate 8 go_step
  go_wp2_with fail
  go_ret2
  exact ⟨rfl, rfl⟩

set_option maxRecDepth 100000 in
set_option maxHeartbeats 1000000 in
theorem rencode_bad (s : List UInt8) (w : World) (hs : s.length ≤ 65536) (hv : Lib.validD s = false) :
    Calls Tryd.prog 11 #[.string ⟨s.toArray⟩] w fun e w' => e = .returned (.tuple #[.string ⟨#[]⟩, .int .i64 4]) ∧ Below w.heap.size w w' := by
  have hb : decide (65536 < (s.length : Int)) = false := by simp; omega
  have cs : Calls Tryd.prog 27 #[.string ⟨s.toArray⟩] w fun e w' => e = .returned (.tuple #[.slice none 0 0, .bool false]) ∧ Below w.heap.size w w' := by
    refine (signs_any s w hs).mono ?_
    rintro e w' ⟨⟨hf, _⟩ | ⟨_, he⟩, hbl⟩
    · rw [hv] at hf; cases hf
    · exact ⟨he, hbl⟩
  clear hs hv
  go_enter Tryd.func11, Tryd.ntmps11
  iterate 8 go_step
  go_wp2_with (go_at_call 27; refine cs.mono ?_; rintro e w1 ⟨rfl, hb1⟩)
  go_ret2
  exact ⟨rfl, hb1⟩

/-- What Encode answers. -/
def encodeL (s : List UInt8) : List UInt8 × Nat := if 65536 < s.length then ([], 3) else if Lib.validD s then (encR (runes s), 0) else ([], 4)
def encV (r : List UInt8 × Nat) : Value := .tuple #[.string ⟨r.1.toArray⟩, .int .i64 (r.2 : Int)]
theorem encode_any (s : List UInt8) (w : World) (hs : s.length ≤ 5000 ∨ 65536 < s.length) (hm : s.length ≤ 140737488351232) (hT : Lib.Utf8Tabs (validRen.g 3) (validRen.g 4) w) :
    Calls Tryd.prog 10 #[.string ⟨s.toArray⟩] w fun e w' => e = .returned (encV (encodeL s)) ∧ Below w.heap.size w w' := by
  unfold encodeL
  rcases hs with hs | hs
  · rw [if_neg (by omega)]
    cases hv : Lib.validD s with
    | true => exact encode_walk s w hs hT hv
    | false => exact encode_bad s w (by omega) hT hv
  · rw [if_pos hs]
    refine (encode_long s w hs hm).mono ?_
    rintro e w' ⟨he, rfl⟩
    exact ⟨he, Below.refl _ _⟩
theorem rencode_any (s : List UInt8) (w : World) (hs : s.length ≤ 5000 ∨ 65536 < s.length) (hm : s.length ≤ 140737488351232) :
    Calls Tryd.prog 11 #[.string ⟨s.toArray⟩] w fun e w' => e = .returned (encV (encodeL s)) ∧ Below w.heap.size w w' := by
  unfold encodeL
  rcases hs with hs | hs
  · rw [if_neg (by omega)]
    cases hv : Lib.validD s with
    | true => exact rencode_walk s w hs hv
    | false => exact rencode_bad s w (by omega) hv
  · rw [if_pos hs]
    refine (rencode_long s w hs hm).mono ?_
    rintro e w' ⟨he, rfl⟩
    exact ⟨he, Below.refl _ _⟩
end Go.Proofs.YtafieajameapiaaDoor
