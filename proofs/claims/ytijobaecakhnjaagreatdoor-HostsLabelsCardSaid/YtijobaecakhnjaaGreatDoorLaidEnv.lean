/- What the listed variables give the walks. -/
import Derived.Test.YtijobaecakhnjaaGreatDoorPubParse
import Derived.Stop.LaidErr
import Derived.RowKitTokens
set_option linter.unusedVariables false
set_option linter.unusedSimpArgs false
namespace Go.Proofs.YtijobaecakhnjaaGreatDoor
open Go.RowKit Go.ChangeShapes

theorem starE : "*" ++ "errors.errorString" = "*errors.errorString" := by decide
theorem rowE (u : TypeId) (h : Tryz.prog.typeName? 3 u = some "*errors.errorString") : u = 241 :=
  typeName_ptr_named (nm := "errors.errorString") (by rw [starE]; kernel_rfl) (by kernel_rfl) (by decide) u (by rw [starE]; exact h)
theorem env_of_laid {W : World} {t1 t2 : List UInt8} {r : List (String × DataW Unit)} (hs : W.ShapedOpen Tryz.prog)
    (hL : laidMet Tryz.prog (("strconv.ErrRange", .iface "*errors.errorString" (.ptr (.agg [.lit (.string t1)]))) :: ("strconv.ErrSyntax", .iface "*errors.errorString" (.ptr (.agg [.lit (.string t2)]))) :: r) W) : Env W := by
  have g1 : Tryz.prog.globalNamed "strconv.ErrRange" = some 5 := by kernel_rfl
  have g2 : Tryz.prog.globalNamed "strconv.ErrSyntax" = some 4 := by kernel_rfl
  obtain ⟨a1, s1, hv1, _, _, _⟩ := laid_sentinel hL g1 (by kernel_rfl) Tryz.underlying155 rowE Tryz.underlying241 Tryz.underlying243 rfl rfl Tryz.underlying9 (by kernel_rfl) (by kernel_rfl)
  obtain ⟨a2, s2, hv2, _, _, _⟩ := laid_sentinel hL.tail g2 (by kernel_rfl) Tryz.underlying155 rowE Tryz.underlying241 Tryz.underlying243 rfl rfl Tryz.underlying9 (by kernel_rfl) (by kernel_rfl)
  exact ⟨hs, ⟨_, _, by simpa using World.var?_cell g2 hv2 0⟩, ⟨_, _, by simpa using World.var?_cell g1 hv1 0⟩⟩
end Go.Proofs.YtijobaecakhnjaaGreatDoor
