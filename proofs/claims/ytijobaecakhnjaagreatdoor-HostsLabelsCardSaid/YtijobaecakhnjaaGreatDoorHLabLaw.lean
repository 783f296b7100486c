/- The law HostsLabels walked. -/
import Derived.Test.YtijobaecakhnjaaGreatDoorLabels
import Derived.Test.YtijobaecakhnjaaGreatDoorSame
import Derived.Test.YtijobaecakhnjaaGreatDoorBookApart
import Derived.Test.YtijobaecakhnjaaGreatDoorBeyond
import Derived.Test.YtijobaecakhnjaaGreatDoorPost
set_option linter.unusedVariables false
set_option linter.unusedSimpArgs false
namespace Go.Proofs.YtijobaecakhnjaaGreatDoor
open Go.RowKit

theorem same_true (l : List (List UInt8)) (w : World) (b1 b2 : Nat) (ad bd : Option Addr) (c d : Nat) (hl : w.ownsRow b1 9 1 (.slice ad l.length c) l.length (strs l)) (hm : w.ownsRow b2 9 1 (.slice bd l.length d) l.length (strs l)) (hln : l.length ≤ 4000000000) :
    Calls Tryz.prog 12 #[.slice ad l.length c, .slice bd l.length d] w fun e w' => e = .returned (.bool true) ∧ Below w.heap.size w w' :=
  (same_any l l w b1 b2 ad bd c d hl hm hln hln).mono fun e w' h => ⟨by rw [h.1, decide_eq_true rfl], h.2⟩
theorem ownBlock_far {w : World} {b e n c : Nat} {ad : Option Addr} {xs : List Value} {w1 : World} {n1 c1 : Nat} {bd : Option Addr} {ys : List Value} (h : w.ownsRow b e 1 (.slice ad n c) n xs) (h1 : w1.ownsRow w.heap.size e 1 (.slice bd n1 c1) n1 ys) :
    (Value.slice ad n c).ownBlock = none ∨ (Value.slice ad n c).ownBlock ≠ (Value.slice bd n1 c1).ownBlock := own_far h h1

set_option maxRecDepth 100000 in
set_option maxHeartbeats 4000000 in
theorem hlabels_law (s : List UInt8) (w : World) (hs : s.length ≤ 140737488351232) (hE : Env w) :
    Calls Tryz.prog 3 #[.string ⟨s.toArray⟩] w fun e w' => e = .returned (.bool true) ∧ Below w.heap.size w w' := by
  have hb0 : ∀ o, Below w.heap.size w (w.alloc o) := fun o => (Below.refl _ _).alloc (Nat.le_refl _) o
  by_cases hb : 1048576 < s.length
  all_goals
    go_enter Tryz.func3, Tryz.ntmps3
    go_wp2_with fail
    refine (beyond_any [s.length] _ _ (by simp) ?_ ?_).mono ?_
    · intro k hk
      match k, hk with
      | 0, _ => exact World.cell?_alloc_at _ _ _ 0 rfl
    · intro k hk
      match k, hk with
      | 0, _ => simp; omega
    rintro e w' ⟨rfl, rfl⟩
  · go_wp2_with fail
    go_ret
    exact ⟨rfl, hb0 _⟩
  · go_wp2_with fail
    go_at_call 11
    refine (labels_any s _ (hE.below (hb0 _)) (by omega)).mono ?_
    rintro e w1 ⟨a, rfl, hA1, hb1⟩
    have hbw1 : Below w.heap.size w w1 := (hb0 _).trans (hb1.mono (hb0 _).size)
    go_wp2_with fail
    go_at_call 11
    refine (labels_any s w1 (hE.below hbw1) (by omega)).mono ?_
    rintro e w2 ⟨b, rfl, hB2, hb2⟩
    have hbw2 : Below w.heap.size w w2 := hbw1.trans (hb2.mono hbw1.size)
    have hA2 := own_base (own_below hA1 hb2) (hb0 (.cells #[.int .i64 (s.length : Int)] 3)).size
    have hne := ownBlock_far hA1 hB2
    have hB2' := own_base hB2 hbw1.size
    have hE2 := hE.below hbw2
    have hLn := labelsL_le s
    have cL := fun W => rlabels_any s W (by omega)
    have cM := fun W (hW : Below w2.heap.size w2 W) => machine_any s W (hE2.below hW) (by omega)
    have cR := fun W => rmachine_any s W (by omega)
    have cS := fun W (hW : Below w2.heap.size w2 W) bd b2 d (h : W.ownsRow b2 9 1 (.slice bd (labelsL s).length d) (labelsL s).length (strs (labelsL s))) => same_true (labelsL s) W _ b2 a bd _ d (own_below hA2 hW) h (by omega)
    have hr2 := Below.refl w2.heap.size w2
    clear hA1 hB2 hb1 hb2 hE hs
    generalize labelsL s = L at *
    generalize machineL s = M at *
    go_wp2_with fail
    refine (cL _).mono ?_
    rintro e w3 ⟨v, rfl, hown3, hb3⟩
    obtain ⟨bd, d, rfl⟩ := own_form hown3
    go_wp2_with fail
    go_at_call 12
    refine (cS w3 hb3 _ _ _ hown3).mono ?_
    rintro e w4 ⟨rfl, hb4⟩
    have hb24 := hb3.trans (hb4.mono hb3.size)
    go_wp2_with fail
    go_at_call 14
    refine (cM w4 hb24).mono ?_
    rintro e w5 ⟨rfl, hb5⟩
    have hb25 := hb24.trans (hb5.mono hb24.size)
    go_wp2_with fail
    go_at_call 15
    refine (cR w5).mono ?_
    rintro e w6 ⟨rfl, hb6⟩
    have hb26 := hb25.trans (hb6.mono hb25.size)
    have hA6 := own_below hA2 hb26
    have hB6 := own_below hB2' hb26
    have hbw6 := hbw2.trans (hb26.mono hbw2.size)
    clear hA2 hB2' cL cM cR cS hown3 hb3 hb4 hb5 hb6 hb24 hb25 hb26 hE2 hr2 hbw1 hbw2
    have HA6 := Lib.hid hA6
    have HB6 := Lib.hid hB6
    have HNE := Lib.hid hne
    clear hA6 hB6 hne
    cases M
    all_goals
      go_wp2_with fail
      go_at_call 16
      refine (texts_any w.heap.size _ w6.heap.size 0 (by decide) nilS [] a L.length (Blk.new w6 _ _) hbw6.size (World.ownsRow_nil _ _ _ _)).mono ?_
      rintro e w7 ⟨rfl, gt1, cap1, hB7, hT7, hR7, hb7⟩
      have hA7 := hR7 _ _ _ (HA6.out.alloc _)
      have hC7 := hR7 _ _ _ (HB6.out.alloc _)
      have hbw7 := (hbw6.alloc hbw6.size _).trans hb7
      have HA7 := Lib.hid hA7
      have HC7 := Lib.hid hC7
      clear hA7 hC7 hR7 hb7
      go_wp2_with fail
      go_at_call 16
      refine (texts_any w.heap.size w7 w6.heap.size 1 (by decide) _ _ b L.length hB7 hbw6.size hT7).mono ?_
      rintro e w8 ⟨rfl, gt2, cap2, hB8, hT8, hR8, hb8⟩
      have hP : Pair w.heap.size w8 w6.heap.size gt2 cap2 a b L.length L.length (strs L) (strs L) nilS nilS := ⟨hB8, hbw6.size, hT8, hR8 _ _ _ HA7.out, hR8 _ _ _ HC7.out, HNE.out⟩
      have hbw8 := hbw7.trans hb8
      clear hB7 hT7 hB8 hT8 hR8 hb8
      go_wp2_with fail
      go_at_call 17
      refine (apart_any w.heap.size w8 w6.heap.size gt2 cap2 a b L.length L.length _ _ hP (by omega) (by omega) hbw8.size).mono ?_
      rintro e w9 ⟨rfl, hb9⟩
      go_wp2_with fail
      go_ret
      exact ⟨rfl, hbw8.trans hb9⟩
end Go.Proofs.YtijobaecakhnjaaGreatDoor
