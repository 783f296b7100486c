/- The walks of suffix.read, suffix.may and suffix.Check. -/
import Derived.Test.YtaijdjmkmhpmpaaDoorSufMath
import Derived.Test.YtaijdjmkmhpmpaaDoorTrim
import Derived.Test.YtaijdjmkmhpmpaaDoorWords
import Derived.Test.YtaijdjmkmhpmpaaDoorTextArg
set_option linter.unusedVariables false
set_option linter.unusedSimpArgs false
namespace Go.Proofs.YtaijdjmkmhpmpaaDoor
open Go.RowKit

theorem pref_except (s : List UInt8) : Lib.hasPrefix s [33] = exceptB s := by
  unfold Lib.hasPrefix exceptB
  cases s with
  | nil => rfl
  | cons x s =>
    simp only [List.isPrefixOf, Bool.and_true, List.head?_cons]
    rw [Bool.eq_iff_iff, beq_iff_eq, beq_iff_eq]
    exact ⟨fun h => by rw [h], fun h => (Option.some.inj h).symm⟩
theorem trim_bare (s : List UInt8) : Lib.trimPrefix s [33] = bareL s := by
  unfold Lib.trimPrefix bareL
  rw [pref_except]
  have : s.drop 1 = s.tail := by cases s <;> rfl
  split
  · exact this
  · rfl
theorem cut_mark (s : List UInt8) (w : World) :
    Calls Tryd.prog 22 #[.string ⟨s.toArray⟩, .string ⟨#[33]⟩] w fun e w' => e = .returned (.tuple #[.string ⟨(bareL s).toArray⟩, .bool (exceptB s)]) ∧ w = w' := by
  refine (Tryd.strings_CutPrefix ⟨s.toArray⟩ ⟨#[33]⟩ w).mono ?_
  rintro e w' ⟨rfl, rfl⟩
  refine ⟨?_, rfl⟩
  rw [← trim_bare, ← pref_except]
theorem trim_mark (s : List UInt8) (w : World) :
    Calls Tryd.prog 16 #[.string ⟨s.toArray⟩, .string ⟨#[33]⟩] w fun e w' => e = .returned (.string ⟨(bareL s).toArray⟩) ∧ w = w' := by
  refine (Tryd.strings_TrimPrefix ⟨s.toArray⟩ ⟨#[33]⟩ w).mono ?_
  rintro e w' ⟨rfl, rfl⟩
  refine ⟨?_, rfl⟩
  rw [← trim_bare]

set_option maxRecDepth 100000 in
set_option maxHeartbeats 1000000 in
theorem sread_any (s : List UInt8) (w : World) (hE : w.ShapedOpen Tryd.prog) (hs : s.length ≤ 4000000000) :
    Calls Tryd.prog 15 #[.string ⟨s.toArray⟩] w fun e w' => ∃ g, e = .returned (.agg #[.slice (some ⟨g, 0, none⟩) (sufP s).length (sufP s).length, .bool (exceptB s)]) ∧ Txt w' (.slice (some ⟨g, 0, none⟩) (sufP s).length (sufP s).length) (sufP s) ∧ Below w.heap.size w w' := by
  have hb := bareL_le s
  have cc := cut_mark s
  go_enter Tryd.func15, Tryd.ntmps15
  go_wp2_with fail
  go_at_call 22
  refine (cc _).mono ?_
  rintro e w1 ⟨rfl, rfl⟩
  have hb1 := (Below.refl w.heap.size w).alloc (Nat.le_refl _) (.cells #[.slice none 0 0, .bool false] 32)
  have hsz : (w.alloc (.cells #[.slice none 0 0, .bool false] 32)).heap.size = w.heap.size + 1 := World.size_alloc _ _
  have cs := split_any (bareL s) 46 _ (shaped_below hE hb1) (by omega)
  rw [hsz] at cs
  generalize hX : bareL s = X at *
  go_wp2_with fail
  go_at_call 23
  refine cs.mono ?_
  rintro e w2 ⟨rfl, rfl⟩
  go_wp2_with fail
  have hg : (((w.alloc (.cells #[.slice (some ⟨w.heap.size + 1, 0, none⟩) (partsL 46 X).length (partsL 46 X).length, .bool (exceptB s)] 32)).alloc (.cells (strs (partsL 46 X)).toArray 9)).heap[w.heap.size]? : Option Obj) = some (.cells #[.slice (some ⟨w.heap.size + 1, 0, none⟩) (partsL 46 X).length (partsL 46 X).length, .bool (exceptB s)] 32 (0, 0)) := heap_alloc2_old w _ _
  refine bodyPost_ret (results_cell_row (fn := Tryd.f15) (p := 2) (ty := 32) rfl _ _ w.heap.size 32 _ (0, 0) _ rfl hg Tryd.underlying32 rfl (by kernel_rfl)) rfl ?_
  have hP : sufP s = partsL 46 X := by unfold sufP; rw [hX]
  rw [hP]
  have hsz2 : (w.alloc (.cells #[.slice (some ⟨w.heap.size + 1, 0, none⟩) (partsL 46 X).length (partsL 46 X).length, .bool (exceptB s)] 32)).heap.size = w.heap.size + 1 := World.size_alloc _ _
  refine ⟨w.heap.size + 1, rfl, .inr ⟨⟨w.heap.size + 1, 0, none⟩, _, rfl, Nat.le_refl _, fun _ => ?_, fun k hk => ?_⟩, ((Below.refl w.heap.size w).alloc (Nat.le_refl _) _).alloc (by rw [hsz2]; omega) _⟩
  · show w.heap.size + 1 < _
    rw [World.size_alloc, hsz2]; omega
  · rw [Addr.add_lit, Nat.zero_add, World.cell?_alloc_at _ _ _ _ (by rw [hsz2]), List.getElem?_toArray, strs_get hk]
end Go.Proofs.YtaijdjmkmhpmpaaDoor
