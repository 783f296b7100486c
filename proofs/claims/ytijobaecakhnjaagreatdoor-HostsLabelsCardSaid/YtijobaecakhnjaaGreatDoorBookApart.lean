/- Apart walked: no two lists of texts of a Book share memory (written by mkbookapart.py). -/
import Derived.Test.YtijobaecakhnjaaGreatDoorBookKeep
set_option linter.unusedVariables false
set_option linter.unusedSimpArgs false
namespace Go.Proofs.YtijobaecakhnjaaGreatDoor
open Go.RowKit

set_option maxRecDepth 100000 in
set_option maxHeartbeats 4000000 in
theorem apart_any (base : Nat) (w : World) (gk gt cap : Nat) (a b : Option Addr) (na nb : Nat) (xa xb : List Value) (hP : Pair base w gk gt cap a b na nb xa xb nilS nilS) (hna : na ≤ 4000000000) (hnb : nb ≤ 4000000000) (hbw : base ≤ w.heap.size) :
    Calls Tryz.prog 17 #[.pointer (some ⟨gk, 0, none⟩)] w fun e w' => e = .returned (.bool true) ∧ Below base w w' := by
  go_enter Tryz.func17, Tryz.ntmps17
  go_wp2_with (first | (go_at_call 33; refine (fill_Byte gk _ _ hP.hb rfl).mono ?_; rintro e wx ⟨rfl, rfl⟩) | (go_at_call 34; refine (fill_Int gk _ _ hP.hb rfl).mono ?_; rintro e wx ⟨rfl, rfl⟩))
  go_at_call 35
  refine (fillText_any base _ gk gt cap a b na nb xa xb hP hna hnb hbw).mono ?_
  rintro e w2 ⟨rfl, hP2, hb2⟩
  go_wp2_with (first | (go_at_call 36; refine (fill_Field gk _ _ hP2.hb rfl).mono ?_; rintro e wx ⟨rfl, rfl⟩) | (go_at_call 37; refine (fill_Cookie gk _ _ hP2.hb rfl).mono ?_; rintro e wx ⟨rfl, rfl⟩) | (go_at_call 38; refine (fill_Sealed gk _ _ hP2.hb rfl).mono ?_; rintro e wx ⟨rfl, rfl⟩) | (go_at_call 39; refine (fill_Change gk _ _ hP2.hb rfl).mono ?_; rintro e wx ⟨rfl, rfl⟩) | (go_at_call 40; refine (fill_Message gk _ _ hP2.hb rfl).mono ?_; rintro e wx ⟨rfl, rfl⟩) | (go_at_call 41; refine (grow_Byte gk _ _ hP2.hb rfl).mono ?_; rintro e wx ⟨rfl, rfl⟩) | (go_at_call 42; refine (grow_Int gk _ _ hP2.hb rfl).mono ?_; rintro e wx ⟨rfl, rfl⟩))
  go_at_call 43
  refine (growText_any base _ gk gt cap a b na nb hP2 hna hnb (Nat.le_trans hbw hb2.size)).mono ?_
  rintro e w3 ⟨rfl, la, lb, hP3, hla, hlb, hb3⟩
  go_wp2_with (first | (go_at_call 44; refine (grow_Field gk _ _ hP3.hb rfl).mono ?_; rintro e wx ⟨rfl, rfl⟩) | (go_at_call 45; refine (grow_Cookie gk _ _ hP3.hb rfl).mono ?_; rintro e wx ⟨rfl, rfl⟩) | (go_at_call 46; refine (grow_Sealed gk _ _ hP3.hb rfl).mono ?_; rintro e wx ⟨rfl, rfl⟩) | (go_at_call 47; refine (grow_Change gk _ _ hP3.hb rfl).mono ?_; rintro e wx ⟨rfl, rfl⟩) | (go_at_call 48; refine (grow_Message gk _ _ hP3.hb rfl).mono ?_; rintro e wx ⟨rfl, rfl⟩) | (go_at_call 49; refine (look_Byte gk _ _ hP3.hb rfl).mono ?_; rintro e wx ⟨rfl, rfl⟩) | (go_at_call 50; refine (look_Int gk _ _ hP3.hb rfl).mono ?_; rintro e wx ⟨rfl, rfl⟩))
  go_at_call 51
  refine (lookText_any base _ gk gt cap a b na nb la lb hP3 hna hnb hla hlb).mono ?_
  rintro e w4 ⟨rfl, hb4⟩
  have hP4 := hP3.below hb4
  go_wp2_with (first | (go_at_call 52; refine (look_Field gk _ _ hP4.hb rfl).mono ?_; rintro e wx ⟨rfl, rfl⟩) | (go_at_call 53; refine (look_Cookie gk _ _ hP4.hb rfl).mono ?_; rintro e wx ⟨rfl, rfl⟩) | (go_at_call 54; refine (look_Sealed gk _ _ hP4.hb rfl).mono ?_; rintro e wx ⟨rfl, rfl⟩) | (go_at_call 55; refine (look_Change gk _ _ hP4.hb rfl).mono ?_; rintro e wx ⟨rfl, rfl⟩) | (go_at_call 56; refine (look_Message gk _ _ hP4.hb rfl).mono ?_; rintro e wx ⟨rfl, rfl⟩))
  go_ret
  exact ⟨rfl, (hb2.trans hb3).trans (hb4.mono (Nat.le_trans hbw (hb2.trans hb3).size))⟩
end Go.Proofs.YtijobaecakhnjaaGreatDoor
