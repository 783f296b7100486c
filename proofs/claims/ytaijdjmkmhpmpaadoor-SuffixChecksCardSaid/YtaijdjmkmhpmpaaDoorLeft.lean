/- The walk of footmanlaw01.LeftTexts. -/
import Derived.Test.YtaijdjmkmhpmpaaDoorTwin
import Derived.Deep.QuietTactic
set_option linter.unusedVariables false
set_option linter.unusedSimpArgs false
namespace Go.Proofs.YtaijdjmkmhpmpaaDoor
open Go.RowKit

theorem below_drawnN {B : Nat} {a w : World} (h : Below B a w) (k : Nat) : Below B a (w.drewN k) := ⟨h.os, h.tape, h.output, h.size, h.block⟩
set_option maxRecDepth 100000 in
set_option maxHeartbeats 2000000 in
theorem left_any (L : List (List UInt8)) (t v : Value) (w : World) (B : Nat) (htw : Twin w B t L) (ht : Txt w v L) (hl : L.length ≤ 1000000) :
    Calls Tryd.prog 8 #[t, v] w fun e w' => e = .returned (.bool true) ∧ Below w.heap.size w w' := by
  obtain ⟨g, c, rfl, hc, _, hg, hcell, hsp⟩ := htw
  have hsp2 : w.cell? ⟨g, L.length, none⟩ = some (.string ⟨#[115, 112, 97, 114, 101]⟩) := hsp
  have hv : v = .slice none 0 0 ∧ L = [] ∨ ∃ a c2, v = .slice (some a) L.length c2 ∧ ∀ (k : Nat) (hk : k < L.length), w.cell? (a.add k) = some (.string ⟨(L[k]).toArray⟩) := by
    rcases ht with h | ⟨a, c2, h1, _, _, h4⟩
    · exact .inl h
    · exact .inr ⟨a, c2, h1, h4⟩
  clear ht hsp
  have hci : ¬ (c : Int) ≤ (L.length : Int) := by omega
  rcases hv with ⟨rfl, rfl⟩ | ⟨a, c2, rfl, hcell2⟩
  · have hsp3 : w.cell? ⟨g, 0, none⟩ = some (.string ⟨#[115, 112, 97, 114, 101]⟩) := hsp2
    have hci2 : ¬ (c : Int) ≤ 0 := hci
    have hc2 : 0 < c := hc
    clear hcell hsp2
    go_enter Tryd.func8, Tryd.ntmps8
    go_wp2_with fail
    go_loop [5] (fun i => i = .int .i64 0) (fun _ => 0)
    case atStart => exact rfl
    case round =>
      obtain rfl := hrel
      go_wp2_with fail
      go_ret
      exact ⟨rfl, Below.refl _ _⟩
  · have HC := Lib.hid hcell
    have HC2 := Lib.hid hcell2
    clear hcell hcell2
    go_enter Tryd.func8, Tryd.ntmps8
    go_wp2_with fail
    go_loopw [5] (fun i wr => ∃ k q : Nat, k ≤ L.length ∧ i = .int .i64 k ∧ wr = w.drewN q) (fun i _ => L.length - (intOf i).toNat)
    case atStart => exact ⟨0, 0, Nat.zero_le _, rfl, rfl⟩
    case round =>
      obtain ⟨k, q, hk, rfl, rfl⟩ := hrel
      by_cases hlt : k < L.length
      · have hc1 := HC.out k hlt
        have hc2 := HC2.out k hlt
        generalize L[k] = X at *
        go_wp2_with fail
        go_quiet (fail)
        go_wp2_with fail
        go_roundw
        case rel => exact ⟨k + 1, _, by omega, by go_num, rfl⟩
        case measure => simp [intOf]; omega
      · obtain rfl : k = L.length := by omega
        go_wp2_with fail
        go_ret
        exact ⟨rfl, below_drawnN (Below.refl _ _) _⟩
end Go.Proofs.YtaijdjmkmhpmpaaDoor
