/- The walks of the reference's Hex, count, number, digits and parts. -/
import Derived.Test.YtijobaecakhnjaaGreatDoorFour
import Derived.Test.YtijobaecakhnjaaGreatDoorOwn
set_option linter.unusedVariables false
set_option linter.unusedSimpArgs false
namespace Go.Proofs.YtijobaecakhnjaaGreatDoor
open Go.RowKit

theorem rhex_any (c : Nat) (hc : c < 256) (w : World) :
    Calls Tryz.prog 109 #[.int .u8 (c : Int)] w fun e w' => e = .returned (.int .i64 (hexI c)) ∧ w = w' := by
  have hx : hexI c = if 48 ≤ c ∧ c ≤ 57 then (c : Int) - 48 else if 97 ≤ c ∧ c ≤ 102 then (c : Int) - 87 else if 65 ≤ c ∧ c ≤ 70 then (c : Int) - 55 else -1 := rfl
  by_cases q1 : 48 ≤ c ∧ c ≤ 57
  · rw [if_pos q1] at hx
    obtain ⟨q2, q3⟩ := q1
    have H := Lib.hid hx
    clear hx
    go_enter Tryz.func109, Tryz.ntmps109
    go_wp2_with fail
    go_ret
    exact ⟨ret_int (by rw [H.out]), rfl⟩
  · rw [if_neg q1] at hx
    by_cases q2 : 97 ≤ c ∧ c ≤ 102
    · rw [if_pos q2] at hx
      obtain ⟨q2, q3⟩ := q2
      have H := Lib.hid hx
      clear hx q1
      go_enter Tryz.func109, Tryz.ntmps109
      go_wp2_with fail
      go_ret
      exact ⟨ret_int (by rw [H.out]; omega), rfl⟩
    · rw [if_neg q2] at hx
      by_cases q3 : 65 ≤ c ∧ c ≤ 70
      · rw [if_pos q3] at hx
        obtain ⟨q3, q4⟩ := q3
        have H := Lib.hid hx
        clear hx q1 q2
        go_enter Tryz.func109, Tryz.ntmps109
        go_wp2_with fail
        go_ret
        exact ⟨ret_int (by rw [H.out]; omega), rfl⟩
      · rw [if_neg q3] at hx
        have H := Lib.hid hx
        have r1 : c < 48 ∨ 57 < c := by omega
        have r2 : c < 97 ∨ 102 < c := by omega
        have r3 : c < 65 ∨ 70 < c := by omega
        clear hx q1 q2 q3
        rcases r1 with r1 | r1 <;> rcases r2 with r2 | r2 <;> rcases r3 with r3 | r3
        all_goals
          go_enter Tryz.func109, Tryz.ntmps109
          go_wp2_with fail
          all_goals go_ret
          all_goals exact ⟨ret_int (by rw [H.out]), rfl⟩

theorem cntF_syn {base acc : Nat} {c : UInt8} {r : List UInt8} (h : hexI c.toNat < 0 ∨ (base : Int) ≤ hexI c.toNat) : cntF base acc (c :: r) = none := by rw [cntF, if_pos h]
theorem cntF_go {base acc : Nat} {c : UInt8} {r : List UInt8} (h : ¬ (hexI c.toNat < 0 ∨ (base : Int) ≤ hexI c.toNat)) : cntF base acc (c :: r) = cntF base (min 4294967296 (acc * base + (hexI c.toNat).toNat)) r := by
  conv => lhs; rw [cntF]
  rw [if_neg h]
set_option maxRecDepth 100000 in
set_option maxHeartbeats 1000000 in
theorem rcount_8 (s : List UInt8) (w : World) (hs : s.length ≤ 140737488351232) :
    Calls Tryz.prog 139 #[.string ⟨s.toArray⟩, .int .i64 8] w fun e w' => e = .returned (cntV (cntL 8 s)) ∧ w = w' := by
  go_enter Tryz.func139, Tryz.ntmps139
  go_wp2_with fail
  go_loop [6, 7] (fun n i => ∃ k acc : Nat, k ≤ s.length ∧ acc ≤ 4294967296 ∧ n = .int .i64 acc ∧ i = .int .i64 k ∧ Hid (cntL 8 s = cntF 8 acc (s.drop k))) (fun _ i => s.length - (intOf i).toNat)
  case atStart => exact ⟨0, 0, Nat.zero_le _, by omega, rfl, rfl, rfl⟩
  case round =>
    obtain ⟨k, acc, hk, ha, rfl, rfl, H⟩ := hrel
    by_cases hlt : k < s.length
    · have hd : s.drop k = s[k] :: s.drop (k + 1) := List.drop_eq_getElem_cons hlt
      have ch := rhex_any s[k].toNat s[k].toNat_lt
      have hbd := hexI_bd s[k].toNat
      have H0 := H.out
      rw [hd] at H0
      by_cases hsyn : hexI s[k].toNat < 0 ∨ (8 : Int) ≤ hexI s[k].toNat
      · rw [cntF_syn hsyn] at H0
        have H1 := Lib.hid H0
        clear H H0 hd
        generalize hexI s[k].toNat = d at *
        rcases hsyn with h | h
        all_goals first
          | (exfalso; omega)
          | (go_wp2_with (go_at_call 109; refine (ch _).mono ?_; rintro e w' ⟨rfl, rfl⟩)
             go_ret2
             exact ⟨by rw [H1.out]; rfl, rfl⟩)
      · have hg := cntF_go (base := 8) (acc := acc) (r := s.drop (k + 1)) hsyn
        rw [hg] at H0
        obtain ⟨h1, h2⟩ : 0 ≤ hexI s[k].toNat ∧ hexI s[k].toNat < (8 : Int) := by omega
        clear H hd hg hsyn
        generalize hexI s[k].toNat = d at *
        obtain ⟨dn, rfl⟩ : ∃ dn : Nat, d = dn := ⟨d.toNat, by omega⟩
        rw [Int.toNat_natCast] at H0
        by_cases hm : acc * 8 + dn ≤ 4294967296
        · rw [Nat.min_eq_right hm] at H0
          have H1 := Lib.hid H0
          clear H0
          have hm2 : (acc : Int) * 8 + (dn : Int) ≤ 4294967296 := by omega
          go_wp2_with (go_at_call 109; refine (ch _).mono ?_; rintro e w' ⟨rfl, rfl⟩)
          go_round
          case rel => exact ⟨k + 1, acc * 8 + dn, by omega, hm, by go_num, by go_num, H1⟩
          case measure => simp [intOf]; omega
        · rw [Nat.min_eq_left (by omega)] at H0
          have H1 := Lib.hid H0
          clear H0
          have hm2 : 4294967296 < (acc : Int) * 8 + (dn : Int) := by omega
          go_wp2_with (go_at_call 109; refine (ch _).mono ?_; rintro e w' ⟨rfl, rfl⟩)
          go_round
          case rel => exact ⟨k + 1, 4294967296, by omega, by omega, by go_num, by go_num, H1⟩
          case measure => simp [intOf]; omega
    · obtain rfl : k = s.length := by omega
      have H0 := H.out
      rw [List.drop_length] at H0
      have H1 : Hid (cntL 8 s = some acc) := H0
      clear H H0
      go_wp2_with fail
      go_ret2
      exact ⟨by rw [H1.out]; rfl, rfl⟩
set_option maxRecDepth 100000 in
set_option maxHeartbeats 1000000 in
theorem rcount_10 (s : List UInt8) (w : World) (hs : s.length ≤ 140737488351232) :
    Calls Tryz.prog 139 #[.string ⟨s.toArray⟩, .int .i64 10] w fun e w' => e = .returned (cntV (cntL 10 s)) ∧ w = w' := by
  go_enter Tryz.func139, Tryz.ntmps139
  go_wp2_with fail
  go_loop [6, 7] (fun n i => ∃ k acc : Nat, k ≤ s.length ∧ acc ≤ 4294967296 ∧ n = .int .i64 acc ∧ i = .int .i64 k ∧ Hid (cntL 10 s = cntF 10 acc (s.drop k))) (fun _ i => s.length - (intOf i).toNat)
  case atStart => exact ⟨0, 0, Nat.zero_le _, by omega, rfl, rfl, rfl⟩
  case round =>
    obtain ⟨k, acc, hk, ha, rfl, rfl, H⟩ := hrel
    by_cases hlt : k < s.length
    · have hd : s.drop k = s[k] :: s.drop (k + 1) := List.drop_eq_getElem_cons hlt
      have ch := rhex_any s[k].toNat s[k].toNat_lt
      have hbd := hexI_bd s[k].toNat
      have H0 := H.out
      rw [hd] at H0
      by_cases hsyn : hexI s[k].toNat < 0 ∨ (10 : Int) ≤ hexI s[k].toNat
      · rw [cntF_syn hsyn] at H0
        have H1 := Lib.hid H0
        clear H H0 hd
        generalize hexI s[k].toNat = d at *
        rcases hsyn with h | h
        all_goals first
          | (exfalso; omega)
          | (go_wp2_with (go_at_call 109; refine (ch _).mono ?_; rintro e w' ⟨rfl, rfl⟩)
             go_ret2
             exact ⟨by rw [H1.out]; rfl, rfl⟩)
      · have hg := cntF_go (base := 10) (acc := acc) (r := s.drop (k + 1)) hsyn
        rw [hg] at H0
        obtain ⟨h1, h2⟩ : 0 ≤ hexI s[k].toNat ∧ hexI s[k].toNat < (10 : Int) := by omega
        clear H hd hg hsyn
        generalize hexI s[k].toNat = d at *
        obtain ⟨dn, rfl⟩ : ∃ dn : Nat, d = dn := ⟨d.toNat, by omega⟩
        rw [Int.toNat_natCast] at H0
        by_cases hm : acc * 10 + dn ≤ 4294967296
        · rw [Nat.min_eq_right hm] at H0
          have H1 := Lib.hid H0
          clear H0
          have hm2 : (acc : Int) * 10 + (dn : Int) ≤ 4294967296 := by omega
          go_wp2_with (go_at_call 109; refine (ch _).mono ?_; rintro e w' ⟨rfl, rfl⟩)
          go_round
          case rel => exact ⟨k + 1, acc * 10 + dn, by omega, hm, by go_num, by go_num, H1⟩
          case measure => simp [intOf]; omega
        · rw [Nat.min_eq_left (by omega)] at H0
          have H1 := Lib.hid H0
          clear H0
          have hm2 : 4294967296 < (acc : Int) * 10 + (dn : Int) := by omega
          go_wp2_with (go_at_call 109; refine (ch _).mono ?_; rintro e w' ⟨rfl, rfl⟩)
          go_round
          case rel => exact ⟨k + 1, 4294967296, by omega, by omega, by go_num, by go_num, H1⟩
          case measure => simp [intOf]; omega
    · obtain rfl : k = s.length := by omega
      have H0 := H.out
      rw [List.drop_length] at H0
      have H1 : Hid (cntL 10 s = some acc) := H0
      clear H H0
      go_wp2_with fail
      go_ret2
      exact ⟨by rw [H1.out]; rfl, rfl⟩
set_option maxRecDepth 100000 in
set_option maxHeartbeats 1000000 in
theorem rcount_16 (s : List UInt8) (w : World) (hs : s.length ≤ 140737488351232) :
    Calls Tryz.prog 139 #[.string ⟨s.toArray⟩, .int .i64 16] w fun e w' => e = .returned (cntV (cntL 16 s)) ∧ w = w' := by
  go_enter Tryz.func139, Tryz.ntmps139
  go_wp2_with fail
  go_loop [6, 7] (fun n i => ∃ k acc : Nat, k ≤ s.length ∧ acc ≤ 4294967296 ∧ n = .int .i64 acc ∧ i = .int .i64 k ∧ Hid (cntL 16 s = cntF 16 acc (s.drop k))) (fun _ i => s.length - (intOf i).toNat)
  case atStart => exact ⟨0, 0, Nat.zero_le _, by omega, rfl, rfl, rfl⟩
  case round =>
    obtain ⟨k, acc, hk, ha, rfl, rfl, H⟩ := hrel
    by_cases hlt : k < s.length
    · have hd : s.drop k = s[k] :: s.drop (k + 1) := List.drop_eq_getElem_cons hlt
      have ch := rhex_any s[k].toNat s[k].toNat_lt
      have hbd := hexI_bd s[k].toNat
      have H0 := H.out
      rw [hd] at H0
      by_cases hsyn : hexI s[k].toNat < 0 ∨ (16 : Int) ≤ hexI s[k].toNat
      · rw [cntF_syn hsyn] at H0
        have H1 := Lib.hid H0
        clear H H0 hd
        generalize hexI s[k].toNat = d at *
        rcases hsyn with h | h
        all_goals first
          | (exfalso; omega)
          | (go_wp2_with (go_at_call 109; refine (ch _).mono ?_; rintro e w' ⟨rfl, rfl⟩)
             go_ret2
             exact ⟨by rw [H1.out]; rfl, rfl⟩)
      · have hg := cntF_go (base := 16) (acc := acc) (r := s.drop (k + 1)) hsyn
        rw [hg] at H0
        obtain ⟨h1, h2⟩ : 0 ≤ hexI s[k].toNat ∧ hexI s[k].toNat < (16 : Int) := by omega
        clear H hd hg hsyn
        generalize hexI s[k].toNat = d at *
        obtain ⟨dn, rfl⟩ : ∃ dn : Nat, d = dn := ⟨d.toNat, by omega⟩
        rw [Int.toNat_natCast] at H0
        by_cases hm : acc * 16 + dn ≤ 4294967296
        · rw [Nat.min_eq_right hm] at H0
          have H1 := Lib.hid H0
          clear H0
          have hm2 : (acc : Int) * 16 + (dn : Int) ≤ 4294967296 := by omega
          go_wp2_with (go_at_call 109; refine (ch _).mono ?_; rintro e w' ⟨rfl, rfl⟩)
          go_round
          case rel => exact ⟨k + 1, acc * 16 + dn, by omega, hm, by go_num, by go_num, H1⟩
          case measure => simp [intOf]; omega
        · rw [Nat.min_eq_left (by omega)] at H0
          have H1 := Lib.hid H0
          clear H0
          have hm2 : 4294967296 < (acc : Int) * 16 + (dn : Int) := by omega
          go_wp2_with (go_at_call 109; refine (ch _).mono ?_; rintro e w' ⟨rfl, rfl⟩)
          go_round
          case rel => exact ⟨k + 1, 4294967296, by omega, by omega, by go_num, by go_num, H1⟩
          case measure => simp [intOf]; omega
    · obtain rfl : k = s.length := by omega
      have H0 := H.out
      rw [List.drop_length] at H0
      have H1 : Hid (cntL 16 s = some acc) := H0
      clear H H0
      go_wp2_with fail
      go_ret2
      exact ⟨by rw [H1.out]; rfl, rfl⟩
end Go.Proofs.YtijobaecakhnjaaGreatDoor
