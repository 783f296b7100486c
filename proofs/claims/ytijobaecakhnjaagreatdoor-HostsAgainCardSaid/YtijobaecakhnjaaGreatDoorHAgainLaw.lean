/- The laws HostsAgain and HostsSigns walked. -/
import Derived.Test.YtijobaecakhnjaaGreatDoorHAlive
import Derived.Test.YtijobaecakhnjaaGreatDoorGLab
import Derived.Test.YtijobaecakhnjaaGreatDoorPost
set_option linter.unusedVariables false
set_option linter.unusedSimpArgs false
namespace Go.Proofs.YtijobaecakhnjaaGreatDoor
open Go.RowKit
attribute [local go_sem] dot_behind

set_option maxRecDepth 100000 in
set_option maxHeartbeats 2000000 in
theorem hagain_law (s : List UInt8) (w : World) (hm : s.length ≤ 140737488351232) (hE : EnvH w) :
    Calls Tryz.prog 5 #[.string ⟨s.toArray⟩] w fun e w' => e = .returned (.bool true) ∧ Below w.heap.size w w' := by
  have hbw := Below.refl w.heap.size w
  have ca := lift_h w hE (fun W hEW => halive_any W hEW)
  by_cases h0 : 1000 < s.length
  · go_enter Tryz.func5, Tryz.ntmps5
    go_wp2_with (go_at_call 20; refine (ca _ (by assumption)).mono ?_; rintro e w1 ⟨rfl, hb1⟩)
    go_ret
    exact ⟨rfl, by assumption⟩
  · have cp := lift_h w hE (fun W hEW => hparse_any s W hEW (by omega))
    cases hh : hostL s with
    | none =>
      rw [hh] at cp
      simp only [optV] at cp
      go_enter Tryz.func5, Tryz.ntmps5
      go_wp2_with (first | (go_at_call 20; refine (ca _ (by assumption)).mono ?_; rintro e w1 ⟨rfl, hb1⟩) | (go_at_call 18; refine (cp _ (by assumption)).mono ?_; rintro e w1 ⟨rfl, hb1⟩))
      go_ret
      exact ⟨rfl, by assumption⟩
    | some x =>
      rw [hh] at cp
      simp only [optV] at cp
      have hlen := host_len (by omega) hh
      rcases host_ok (by omega) hh with ⟨h1, h2⟩ | ⟨l, hl⟩
      · have ci := his_yes h2 (by omega) w hE
        obtain ⟨c, r, rfl⟩ := List.exists_cons_of_ne_nil (show x ≠ [] by intro e; rw [e] at hlen; simp at hlen)
        obtain rfl : c = 91 := by simpa using h1
        clear hh h1 h2
        go_enter Tryz.func5, Tryz.ntmps5
        go_wp2_with (first | (go_at_call 20; refine (ca _ (by assumption)).mono ?_; rintro e w1 ⟨rfl, hb1⟩) | (go_at_call 18; refine (cp _ (by assumption)).mono ?_; rintro e w1 ⟨rfl, hb1⟩) | (go_at_call 21; refine (ci _ (by assumption)).mono ?_; rintro e w1 ⟨rfl, hb1⟩))
        go_ret
        exact ⟨rfl, by assumption⟩
      · have ci := his_yes hl.host (by omega) w hE
        have cj := his_yes hl.behind (by simp; omega) w hE
        have clo := lift_below w (fun W => lower_any x W (by omega))
        rw [hl.lower] at clo
        have hx0 : (0 : Nat) < x.length := by omega
        have hc1 : ¬ ((x[0]'hx0).toNat : Int) = 91 := by
          have := hl.sign _ (List.getElem_mem hx0)
          omega
        have hsum : ¬ 9223372036854775807 < x.length + 1 := by omega
        clear hh hl
        go_enter Tryz.func5, Tryz.ntmps5
        go_wp2_with fail
        go_at_call 20
        refine (ca _ (by assumption)).mono ?_
        rintro e w1 ⟨rfl, hb1⟩
        go_wp2_with fail
        go_at_call 18
        refine (cp _ (by assumption)).mono ?_
        rintro e w2 ⟨rfl, hb2⟩
        go_wp2_with fail
        go_at_call 21
        refine (ci _ (by assumption)).mono ?_
        rintro e w3 ⟨rfl, hb3⟩
        go_wp2_with fail
        go_at_call 21
        refine (cj _ (by assumption)).mono ?_
        rintro e w4 ⟨rfl, hb4⟩
        go_wp2_with fail
        go_at_call 22
        refine (clo _ (by assumption)).mono ?_
        rintro e w5 ⟨rfl, hb5⟩
        go_wp2_with fail
        go_ret
        exact ⟨rfl, by assumption⟩
end Go.Proofs.YtijobaecakhnjaaGreatDoor
