/- puny.Encode where it refuses. -/
import Derived.Test.YtafieajameapiaaDoorEncWalk
set_option linter.unusedVariables false
set_option linter.unusedSimpArgs false
namespace Go.Proofs.YtafieajameapiaaDoor
open Go.RowKit

set_option maxRecDepth 100000 in
set_option maxHeartbeats 1000000 in
theorem encode_long (s : List UInt8) (w : World) (hs : 65536 < s.length) (hm : s.length ≤ 140737488351232) :
    Calls Tryd.prog 10 #[.string ⟨s.toArray⟩] w fun e w' => e = .returned (.tuple #[.string ⟨#[]⟩, .int .i64 3]) ∧ w = w' := by
  have hb : decide (65536 < (s.length : Int)) = true := by simp; omega
  clear hs
  refine (callsIn_wide (n := 4)).1 (callsIn_of_wp_marks Tryd.func10 rfl trivial (wpIn_wide.2 ?_) rfl)
  simp only [Tryd.ntmps10, List.size_toArray, List.length_cons, List.length_nil, Nat.reduceAdd, Nat.reduceSub, Array.replicate_succ, Array.replicate_zero, List.push_toArray, List.append_toArray, List.nil_append, List.cons_append]
  iterate 12 go_step
  go_wp2_with fail
  exact ⟨_, results_tmp2 (fn := Tryd.f10) (t := 2) (u := 3) rfl _ _ _, rfl, rfl⟩

set_option maxRecDepth 100000 in
set_option maxHeartbeats 1000000 in
theorem encode_bad (s : List UInt8) (w : World) (hs : s.length ≤ 65536) (hT : Lib.Utf8Tabs (validRen.g 3) (validRen.g 4) w) (hv : Lib.validD s = false) :
    Calls Tryd.prog 10 #[.string ⟨s.toArray⟩] w fun e w' => e = .returned (.tuple #[.string ⟨#[]⟩, .int .i64 4]) ∧ Below w.heap.size w w' := by
  have cv := valid_any s w (by omega) hT
  rw [hv] at cv
  clear hv
  have hb : decide (65536 < (s.length : Int)) = false := by simp; omega
  refine (callsIn_wide (n := 4)).1 (callsIn_of_wp_marks Tryd.func10 rfl trivial (wpIn_wide.2 ?_) rfl)
  simp only [Tryd.ntmps10, List.size_toArray, List.length_cons, List.length_nil, Nat.reduceAdd, Nat.reduceSub, Array.replicate_succ, Array.replicate_zero, List.push_toArray, List.append_toArray, List.nil_append, List.cons_append]
  clear hs
  iterate 12 go_step
  go_wp2_with (go_at_call 19; refine cv.mono ?_; rintro e w1 ⟨rfl, hb1⟩)
  exact ⟨_, results_tmp2 (fn := Tryd.f10) (t := 2) (u := 3) rfl _ _ _, rfl, hb1⟩
end Go.Proofs.YtafieajameapiaaDoor
