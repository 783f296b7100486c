/- The law HostsSigns walked. -/
import Derived.Test.YtijobaecakhnjaaGreatDoorHAlive
import Derived.Test.YtijobaecakhnjaaGreatDoorPost
import Derived.Test.YtijobaecakhnjaaGreatDoorTextRow
set_option linter.unusedVariables false
set_option linter.unusedSimpArgs false
namespace Go.Proofs.YtijobaecakhnjaaGreatDoor
open Go.RowKit
attribute [local go_sem] ba_append

set_option maxRecDepth 100000 in
set_option maxHeartbeats 4000000 in
theorem hsigns_law (s : List UInt8) (w : World) (hm : s.length ≤ 140737488351232) (hE : EnvH w) :
    Calls Tryz.prog 6 #[.string ⟨s.toArray⟩] w fun e w' => e = .returned (.bool true) ∧ Below w.heap.size w w' := by
  have hbw := Below.refl w.heap.size w
  have ca := lift_h w hE (fun W hEW => halive_any W hEW)
  by_cases h0 : 1000 < s.length
  · go_enter Tryz.func6, Tryz.ntmps6
    go_wp2_with (go_at_call 20; refine (ca _ (by assumption)).mono ?_; rintro e w1 ⟨rfl, hb1⟩)
    go_ret
    exact ⟨rfl, by assumption⟩
  · have cp := lift_h w hE (fun W hEW => hparse_any s W hEW (by omega))
    cases hh : hostL s with
    | none =>
      rw [hh] at cp
      simp only [optV] at cp
      go_enter Tryz.func6, Tryz.ntmps6
      go_wp2_with (first | (go_at_call 20; refine (ca _ (by assumption)).mono ?_; rintro e w1 ⟨rfl, hb1⟩) | (go_at_call 18; refine (cp _ (by assumption)).mono ?_; rintro e w1 ⟨rfl, hb1⟩))
      go_ret
      exact ⟨rfl, by assumption⟩
    | some x =>
      rw [hh] at cp
      simp only [optV] at cp
      have hlen := host_len (by omega) hh
      rcases host_ok (by omega) hh with ⟨h1, h2⟩ | ⟨l, hl⟩
      · obtain ⟨c, r, rfl⟩ := List.exists_cons_of_ne_nil (show x ≠ [] by intro e; rw [e] at hlen; simp at hlen)
        obtain rfl : c = 91 := by simpa using h1
        clear hh h1 h2
        go_enter Tryz.func6, Tryz.ntmps6
        go_wp2_with (first | (go_at_call 20; refine (ca _ (by assumption)).mono ?_; rintro e w1 ⟨rfl, hb1⟩) | (go_at_call 18; refine (cp _ (by assumption)).mono ?_; rintro e w1 ⟨rfl, hb1⟩))
        go_ret
        exact ⟨rfl, by assumption⟩
      · have hsign := hl.sign
        have hlab := hl.labels.2
        have hLne : labelsL x ≠ [] := by
          rcases hl.labels.1 with ⟨e, _⟩ | ⟨e, _⟩
          · rw [e]; simp
          · rw [e]; exact hl.name.ne
        have hLle := labelsL_le x
        have cl := fun W (hW : Below w.heap.size w W) => labels_any x W (hE.below hW).t.env (by omega)
        have hx0 : (0 : Nat) < x.length := by omega
        have hc1 : ¬ ((x[0]'hx0).toNat : Int) = 91 := by
          have := hsign _ (List.getElem_mem hx0)
          omega
        have HS := Lib.hid hsign
        have HLab := Lib.hid hlab
        have hLpos : 0 < (labelsL x).length := List.length_pos_iff.2 hLne
        generalize labelsL x = L at *
        clear hh hl hsign hlab hLne
        go_enter Tryz.func6, Tryz.ntmps6
        go_wp2_with fail
        go_at_call 20
        refine (ca _ (by assumption)).mono ?_
        rintro e w1 ⟨rfl, hb1⟩
        go_wp2_with fail
        go_at_call 18
        refine (cp _ (by assumption)).mono ?_
        rintro e w2 ⟨rfl, hb2⟩
        go_wp2_with fail
        go_at_call 11
        refine (cl _ (by assumption)).mono ?_
        rintro e w3 ⟨ad, rfl, hown, hb3'⟩
        have hb3 := hb2.trans (hb3'.mono hb2.size)
        obtain ⟨g, rfl, _, _, _, hcl⟩ := own_texts hown rfl hLpos
        have hcell : Hid (∀ k (hk : k < L.length), w3.cell? ⟨g, k, none⟩ = some (.string ⟨(L[k]).toArray⟩)) := fun k hk => hcl w3 (Below.refl _ _) k hk
        clear hown ca cp cl hb3' hcl
        go_wp2_with fail
        go_loop [6] (fun i => ∃ k : Nat, k ≤ L.length ∧ i = .int .i64 k) (fun i => L.length - (intOf i).toNat)
        case atStart => exact ⟨0, Nat.zero_le _, rfl⟩
        case round =>
          obtain ⟨k, hk, rfl⟩ := hrel
          by_cases hlt : k < L.length
          · have hc := hcell.out k hlt
            have hne := HLab.out _ (List.getElem_mem hlt)
            generalize L[k] = X at *
            have hne2 : (X == []) = false := by rw [beq_eq_false_iff_ne]; exact hne
            go_wp2_with fail
            go_round
            case rel => exact ⟨k + 1, by omega, by go_num⟩
            case measure => simp [intOf]; omega
          · obtain rfl : k = L.length := by omega
            go_wp2_with fail
            go_loop [7, 8] (fun i c => ∃ k : Nat, k ≤ x.length ∧ i = .int .i64 k) (fun i _ => x.length - (intOf i).toNat)
            case atStart => exact ⟨0, Nat.zero_le _, rfl⟩
            case round =>
              obtain ⟨j, hj, rfl⟩ := hrel
              by_cases hlt2 : j < x.length
              · have hs2 := HS.out _ (List.getElem_mem hlt2)
                obtain ⟨a1, a2, a3, a4, a5, a6, a7, a8, a9, a10, a11⟩ := hs2
                have e3 : ¬ ((x[j]'hlt2).toNat : Int) = 35 := by omega
                have e4 : ¬ ((x[j]'hlt2).toNat : Int) = 37 := by omega
                have e5 : ¬ ((x[j]'hlt2).toNat : Int) = 47 := by omega
                have e6 : ¬ ((x[j]'hlt2).toNat : Int) = 58 := by omega
                have e7 : ¬ ((x[j]'hlt2).toNat : Int) = 63 := by omega
                have e8 : ¬ ((x[j]'hlt2).toNat : Int) = 64 := by omega
                have e9 : ¬ ((x[j]'hlt2).toNat : Int) = 91 := by omega
                have e10 : ¬ ((x[j]'hlt2).toNat : Int) = 93 := by omega
                have e11 : ¬ ((x[j]'hlt2).toNat : Int) = 92 := by omega
                have e1 : ¬ ((x[j]'hlt2).toNat : Int) ≤ 32 := by omega
                have e2 : ¬ (127 : Int) ≤ ((x[j]'hlt2).toNat : Int) := by omega
                clear a1 a2 a3 a4 a5 a6 a7 a8 a9 a10 a11
                go_wp2_with fail
                go_round
                case rel => exact ⟨j + 1, by omega, by go_num⟩
                case measure => simp [intOf]; omega
              · obtain rfl : j = x.length := by omega
                go_wp2_with fail
                go_ret
                exact ⟨rfl, by assumption⟩
end Go.Proofs.YtijobaecakhnjaaGreatDoor
