/- A row of texts that a call made: where it lies, and what its cells hold. -/
import Derived.Test.YtaijdjmkmhpmpaaDoorWords
import Derived.Test.YtaijdjmkmhpmpaaDoorOwn
set_option linter.unusedVariables false
set_option linter.unusedSimpArgs false
namespace Go.Proofs.YtaijdjmkmhpmpaaDoor
open Go.RowKit

theorem txt_own {w : World} {base e n c : Nat} {ad : Option Addr} {L : List (List UInt8)} (h : w.ownsRow base e 1 (.slice ad n c) n (strs L)) (hn : n = L.length) (h0 : 0 < L.length) :
    ∃ g, ad = some ⟨g, 0, none⟩ ∧ base ≤ g ∧ g < w.heap.size ∧ n ≤ c ∧ ∀ W, Below w.heap.size w W → ∀ (k : Nat) (hk : k < L.length), W.cell? ⟨g, k, none⟩ = some (.string ⟨(L[k]).toArray⟩) := by
  rcases own_open h with ⟨_, h1, _⟩ | ⟨g, cp, hv, hb, hg, hc, _, hcell⟩
  · omega
  · injection hv with e1 e2 e3
    subst e1
    exact ⟨g, rfl, hb, hg, by omega, fun W hW k hk => (hW.cell (p := ⟨g, k, none⟩) hg).trans (hcell k _ (strs_get hk))⟩
end Go.Proofs.YtaijdjmkmhpmpaaDoor
