/- A contract for every world, lifted over worlds in which nothing that was there has turned. -/
import Derived.Test.YtaijdjmkmhpmpaaDoorBase
import Derived.Below
set_option linter.unusedVariables false
set_option linter.unusedSimpArgs false
namespace Go.Proofs.YtaijdjmkmhpmpaaDoor
open Go.RowKit

theorem lift_below {f : FuncId} {args : Array Value} {v : Value} (w : World) (h : ∀ W, Calls Tryd.prog f args W fun e W' => e = .returned v ∧ Below W.heap.size W W') : ∀ W, Below w.heap.size w W → Calls Tryd.prog f args W fun e W' => e = .returned v ∧ Below w.heap.size w W' := fun W hW =>
  (h W).mono fun e W' ⟨he, hb⟩ => ⟨he, hW.trans (hb.mono hW.size)⟩
theorem lift_same {f : FuncId} {args : Array Value} {v : Value} (w : World) (h : ∀ W, Calls Tryd.prog f args W fun e W' => e = .returned v ∧ W = W') : ∀ W, Below w.heap.size w W → Calls Tryd.prog f args W fun e W' => e = .returned v ∧ Below w.heap.size w W' := fun W hW =>
  (h W).mono fun e W' ⟨he, hb⟩ => ⟨he, hb ▸ hW⟩
end Go.Proofs.YtaijdjmkmhpmpaaDoor
