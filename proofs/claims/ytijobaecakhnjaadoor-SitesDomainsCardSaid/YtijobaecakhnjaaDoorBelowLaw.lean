/- The laws HostsBelows and SitesDomains walked. -/
import Derived.Test.YtijobaecakhnjaaDoorRBelow
set_option linter.unusedVariables false
set_option linter.unusedSimpArgs false
namespace Go.Proofs.YtijobaecakhnjaaDoor
open Go.RowKit

set_option maxRecDepth 100000 in
theorem belows_law (s c : List UInt8) (w : World) (hs : s.length ≤ 140737488351232) (hc : c.length ≤ 140737488351232) (hE : Env w) :
    Calls Tryd.prog 3 #[.string ⟨s.toArray⟩, .string ⟨c.toArray⟩] w fun e w' => e = .returned (.bool true) ∧ Below w.heap.size w w' := by
  have hb0 : ∀ o, Below w.heap.size w (w.alloc o) := fun o => (Below.refl _ _).alloc (Nat.le_refl _) o
  by_cases hb : 1048576 < s.length + c.length
  all_goals
    go_enter Tryd.func3, Tryd.ntmps3
    go_wp2_with fail
    refine (beyond_any [s.length, c.length] _ _ (by simp) ?_ ?_).mono ?_
    · intro k hk
      match k, hk with
      | 0, _ => exact World.cell?_alloc_at _ _ _ 0 rfl
      | 1, _ => exact World.cell?_alloc_at _ _ _ 1 rfl
    · intro k hk
      match k, hk with
      | 0, _ => simp; omega
      | 1, _ => simp; omega
    rintro e w' ⟨rfl, rfl⟩
  · go_wp2_with fail
    go_ret
    exact ⟨rfl, hb0 _⟩
  · go_wp2_with fail
    refine (below_any s c _ (hE.below (hb0 _)) (by omega) (by omega)).mono ?_
    rintro e w1 ⟨rfl, hb1⟩
    go_wp2_with fail
    refine (rbelow_any s c _ (by omega) (by omega)).mono ?_
    rintro e w2 ⟨rfl, hb2⟩
    go_wp2_with fail
    go_ret
    exact ⟨rfl, ((hb0 _).trans (hb1.mono (hb0 _).size)).trans (hb2.mono (Nat.le_trans (hb0 _).size hb1.size))⟩

def domainL (a b : List UInt8) : Bool := !b.isEmpty && belowL a b
theorem domain_any (a b : List UInt8) (w : World) (hE : Env w) (ha : a.length ≤ 3999999990) (hb : b.length ≤ 3999999990) :
    Calls Tryd.prog 8 #[.string ⟨a.toArray⟩, .string ⟨b.toArray⟩] w fun e w' => e = .returned (.bool (domainL a b)) ∧ Below w.heap.size w w' := by
  have hm : domainL a b = (!b.isEmpty && belowL a b) := rfl
  by_cases h0 : b = []
  · have h1 : b.isEmpty = true := by rw [h0]; rfl
    have h2 : (b == []) = true := by rw [h0]; rfl
    rw [h1] at hm
    have HM := Lib.hid hm
    clear hm h0
    go_enter Tryd.func8, Tryd.ntmps8
    go_wp2_with fail
    go_ret
    exact ⟨ret_bool (by rw [HM.out]; rfl), Below.refl _ _⟩
  · have h1 := isEmpty_ne h0
    have h2 := beq_ne h0
    have cb := below_any a b w hE ha hb
    rw [h1] at hm
    have HM := Lib.hid hm
    clear hm h0
    generalize belowL a b = r at *
    go_enter Tryd.func8, Tryd.ntmps8
    go_wp2_with (go_at_call 6; refine cb.mono ?_; rintro e w1 ⟨rfl, hb1⟩)
    go_ret
    exact ⟨ret_bool (by rw [HM.out]; rfl), by assumption⟩
theorem rdomain_any (a b : List UInt8) (w : World) (ha : a.length ≤ 3999999990) (hb : b.length ≤ 3999999990) :
    Calls Tryd.prog 9 #[.string ⟨a.toArray⟩, .string ⟨b.toArray⟩] w fun e w' => e = .returned (.bool (domainL a b)) ∧ Below w.heap.size w w' := by
  have hm : domainL a b = (!b.isEmpty && belowL a b) := rfl
  by_cases h0 : b = []
  · have h1 : b.isEmpty = true := by rw [h0]; rfl
    have h2 : (b == []) = true := by rw [h0]; rfl
    rw [h1] at hm
    have HM := Lib.hid hm
    clear hm h0
    go_enter Tryd.func9, Tryd.ntmps9
    go_wp2_with fail
    go_ret
    exact ⟨ret_bool (by rw [HM.out]; rfl), Below.refl _ _⟩
  · have h1 := isEmpty_ne h0
    have h2 := beq_ne h0
    have cb := rbelow_any a b w ha hb
    rw [h1] at hm
    have HM := Lib.hid hm
    clear hm h0
    generalize belowL a b = r at *
    go_enter Tryd.func9, Tryd.ntmps9
    go_wp2_with (go_at_call 7; refine cb.mono ?_; rintro e w1 ⟨rfl, hb1⟩)
    go_ret
    exact ⟨ret_bool (by rw [HM.out]; rfl), by assumption⟩
set_option maxRecDepth 100000 in
theorem domains_law (s c : List UInt8) (w : World) (hs : s.length ≤ 140737488351232) (hc : c.length ≤ 140737488351232) (hE : Env w) :
    Calls Tryd.prog 4 #[.string ⟨s.toArray⟩, .string ⟨c.toArray⟩] w fun e w' => e = .returned (.bool true) ∧ Below w.heap.size w w' := by
  have hb0 : ∀ o, Below w.heap.size w (w.alloc o) := fun o => (Below.refl _ _).alloc (Nat.le_refl _) o
  by_cases hb : 1048576 < s.length + c.length
  all_goals
    go_enter Tryd.func4, Tryd.ntmps4
    go_wp2_with fail
    refine (beyond_any [s.length, c.length] _ _ (by simp) ?_ ?_).mono ?_
    · intro k hk
      match k, hk with
      | 0, _ => exact World.cell?_alloc_at _ _ _ 0 rfl
      | 1, _ => exact World.cell?_alloc_at _ _ _ 1 rfl
    · intro k hk
      match k, hk with
      | 0, _ => simp; omega
      | 1, _ => simp; omega
    rintro e w' ⟨rfl, rfl⟩
  · go_wp2_with fail
    go_ret
    exact ⟨rfl, hb0 _⟩
  · go_wp2_with fail
    refine (domain_any s c _ (hE.below (hb0 _)) (by omega) (by omega)).mono ?_
    rintro e w1 ⟨rfl, hb1⟩
    go_wp2_with fail
    refine (rdomain_any s c _ (by omega) (by omega)).mono ?_
    rintro e w2 ⟨rfl, hb2⟩
    go_wp2_with fail
    go_ret
    exact ⟨rfl, ((hb0 _).trans (hb1.mono (hb0 _).size)).trans (hb2.mono (Nat.le_trans (hb0 _).size hb1.size))⟩
end Go.Proofs.YtijobaecakhnjaaDoor
