/- SameTexts walked: are two lists of texts the same? -/
import Derived.Test.YtijobaecakhnjaaGreatDoorWords
import Derived.Test.YtijobaecakhnjaaGreatDoorOwn
import Derived.Deep.QuietTactic
set_option linter.unusedVariables false
set_option linter.unusedSimpArgs false
namespace Go.Proofs.YtijobaecakhnjaaGreatDoor
open Go.RowKit

theorem own_cell_at {w : World} {base e : Nat} {ad : Option Addr} {n c : Nat} {xs : List Value} (h : w.ownsRow base e 1 (.slice ad n c) n xs) {k : Nat} (hk : k < n) : ∃ g, ad = some ⟨g, 0, none⟩ ∧ w.cell? ⟨g, k, none⟩ = xs[k]? := by
  rcases own_open h with ⟨hv, h0, _⟩ | ⟨g, cp, hv, _⟩
  · omega
  · injection hv with h1 h2 h3
    subst h1
    exact ⟨g, rfl, h.cellAt k (by omega)⟩
theorem below_drawn {B : Nat} {a w : World} (h : Below B a w) (k : Nat) : Below B a (w.drewN k) := ⟨h.os, h.tape, h.output, h.size, h.block⟩
theorem list_ne_at {l m : List (List UInt8)} {k : Nat} (hl : k < l.length) (hm : k < m.length) (h : l[k] ≠ m[k]) : l ≠ m := by
  rintro rfl; exact h rfl
set_option maxRecDepth 100000 in
set_option maxHeartbeats 1000000 in
theorem same_any (l m : List (List UInt8)) (w : World) (b1 b2 : Nat) (ad bd : Option Addr) (c d : Nat) (hl : w.ownsRow b1 9 1 (.slice ad l.length c) l.length (strs l)) (hm : w.ownsRow b2 9 1 (.slice bd m.length d) m.length (strs m)) (hln : l.length ≤ 4000000000) (hmn : m.length ≤ 4000000000) :
    Calls Tryz.prog 12 #[.slice ad l.length c, .slice bd m.length d] w fun e w' => e = .returned (.bool (decide (l = m))) ∧ Below w.heap.size w w' := by
  by_cases hlen : l.length = m.length
  · have hcl : ∀ k (hk : k < l.length), ∃ g, ad = some ⟨g, 0, none⟩ ∧ w.cell? ⟨g, k, none⟩ = some (.string ⟨(l[k]).toArray⟩) := fun k hk => by
      obtain ⟨g, h1, h2⟩ := own_cell_at hl hk
      exact ⟨g, h1, h2.trans (strs_get hk)⟩
    have hcm : ∀ k (hk : k < m.length), ∃ g, bd = some ⟨g, 0, none⟩ ∧ w.cell? ⟨g, k, none⟩ = some (.string ⟨(m[k]).toArray⟩) := fun k hk => by
      obtain ⟨g, h1, h2⟩ := own_cell_at hm hk
      exact ⟨g, h1, h2.trans (strs_get hk)⟩
    have HL := Lib.hid hcl
    have HM := Lib.hid hcm
    clear hcl hcm hl hm
    have HLen := Lib.hid hlen
    have hle : ((l.length : Int)) = (m.length : Int) := by omega
    go_enter Tryz.func12, Tryz.ntmps12
    rw [hlen]
    clear hle hlen
    go_wp2_with fail
    go_loopw [5] (fun i wr => ∃ k q : Nat, k ≤ m.length ∧ i = .int .i64 k ∧ Hid (∀ j (h1 : j < l.length) (h2 : j < m.length), j < k → l[j] = m[j]) ∧ wr = w.drewN q) (fun i _ => m.length - (intOf i).toNat)
    case atStart => exact ⟨0, 0, Nat.zero_le _, rfl, fun j _ _ h => absurd h (by omega), rfl⟩
    case round =>
      obtain ⟨k, q, hk, rfl, hH, rfl⟩ := hrel
      by_cases hlt : k < m.length
      · obtain ⟨g1, hg1, hc1⟩ := HL.out k (by have := HLen.out; omega)
        obtain ⟨g2, hg2, hc2⟩ := HM.out k hlt
        subst hg1
        subst hg2
        have hll : k < l.length := by have := HLen.out; omega
        by_cases he : l[k] = m[k]
        · have HN : Hid (∀ j (h1 : j < l.length) (h2 : j < m.length), j < k + 1 → l[j] = m[j]) := fun j h1 h2 h3 => by
            by_cases hj : j < k
            · exact hH.out j h1 h2 hj
            · obtain rfl : j = k := by omega
              exact he
          rw [he] at hc1
          clear he hH
          generalize m[k] = X at *
          go_wp2_with fail
          go_quiet (fail)
          go_wp2_with fail
          go_roundw
          case rel => exact ⟨k + 1, _, by omega, by go_num, HN, rfl⟩
          case measure => simp [intOf]; omega
        · have hne : Hid (l ≠ m) := list_ne_at hll hlt he
          have he2 : (l[k] == m[k]) = false := by rw [beq_eq_false_iff_ne]; exact he
          generalize l[k] = X at *
          generalize m[k] = Y at *
          clear hH
          go_wp2_with fail
          go_quiet (fail)
          go_wp2_with fail
          go_ret
          exact ⟨ret_bool (by rw [decide_eq_false hne.out]), below_drawn (below_drawn (Below.refl _ _) _) _⟩
      · obtain rfl : k = m.length := by omega
        have heq : Hid (l = m) := List.ext_getElem HLen.out fun j h1 h2 => hH.out j h1 h2 h2
        clear hH
        go_wp2_with fail
        go_ret
        exact ⟨ret_bool (by rw [decide_eq_true heq.out]), below_drawn (Below.refl _ _) _⟩
  · have hne : Hid (l ≠ m) := fun h => hlen (by rw [h])
    have hle : ¬ ((l.length : Int)) = (m.length : Int) := by omega
    clear hl hm
    go_enter Tryz.func12, Tryz.ntmps12
    go_wp2_with fail
    go_ret
    exact ⟨ret_bool (by rw [decide_eq_false hne.out]), Below.refl _ _⟩
end Go.Proofs.YtijobaecakhnjaaGreatDoor
