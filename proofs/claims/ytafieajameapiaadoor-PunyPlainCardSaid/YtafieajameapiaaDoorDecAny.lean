/- Decode and the reference's Decode: one contract each. -/
import Derived.Test.YtafieajameapiaaDoorDecRef
set_option linter.unusedVariables false
set_option linter.unusedSimpArgs false
namespace Go.Proofs.YtafieajameapiaaDoor
open Go.RowKit

theorem decode_any (s : List UInt8) (w : World) (hm : s.length ≤ 140737488351232) :
    Calls Tryd.prog 17 #[.string ⟨s.toArray⟩] w fun e w' => e = .returned (resV (decode s)) ∧ Below w.heap.size w w' := by
  by_cases h : s.length ≤ 65536
  · exact decode_walk s w h
  · exact decode_walk_long s w (by omega) hm
theorem rdecode_any (s : List UInt8) (w : World) (hm : s.length ≤ 140737488351232) :
    Calls Tryd.prog 35 #[.string ⟨s.toArray⟩] w fun e w' => e = .returned (resV (decode s)) ∧ Below w.heap.size w w' := by
  by_cases h : s.length ≤ 65536
  · exact rdecode_walk s w h
  · exact rdecode_walk_long s w (by omega) hm
end Go.Proofs.YtafieajameapiaaDoor
