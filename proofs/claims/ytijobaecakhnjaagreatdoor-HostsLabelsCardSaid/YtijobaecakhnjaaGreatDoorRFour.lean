/- The walks of the reference's number, digits and parts. -/
import Derived.Test.YtijobaecakhnjaaGreatDoorRCount
set_option linter.unusedVariables false
set_option linter.unusedSimpArgs false
namespace Go.Proofs.YtijobaecakhnjaaGreatDoor
open Go.RowKit

theorem cntV_mk (r : Option Nat) : ∃ (n : Int) (b : Bool), cntV r = .tuple #[.int .i64 n, .bool b] := ⟨_, _, rfl⟩
theorem cnt_zero {base : Nat} (hb : 1 ≤ base) {s : List UInt8} {x : UInt8} (h : x.toNat = 48) : cntL base (x :: s) = cntL base s := by
  have e : hexI x.toNat = 0 := by rw [h]; rfl
  unfold cntL
  rw [cntF_go (by rw [e]; omega), e]
  simp
theorem one_of {s : List UInt8} (h : s.length = 1) : ∃ x, s = [x] := List.length_eq_one_iff.1 h
set_option maxRecDepth 100000 in
set_option maxHeartbeats 1000000 in
theorem rnumber_any (s : List UInt8) (w : World) (hs : s.length ≤ 140737488351232) :
    Calls Tryz.prog 83 #[.string ⟨s.toArray⟩] w fun e w' => e = .returned (cntV (numL s)) ∧ w = w' := by
  have hn : numL s = if hexPre s then cntL 16 (s.drop 2) else if s = [] then none else if (s.getD 0 0).toNat = 48 then cntL 8 s else cntL 10 s := rfl
  by_cases h2 : 2 ≤ s.length
  · have g0 := getD_is (s := s) (k := 0) (by omega)
    have g1 := getD_is (s := s) (k := 1) (by omega)
    have hne : s ≠ [] := fun e => by rw [e] at h2; simp at h2
    by_cases h0 : (s.getD 0 0).toNat = 48
    · have hx := hexPre_is h2 h0
      by_cases h1 : (s.getD 1 0).toNat = 120 ∨ (s.getD 1 0).toNat = 88
      · have hp : hexPre s = true := by rw [hx]; rcases h1 with h | h <;> (rw [h]; rfl)
        rw [if_pos hp] at hn
        have cc := fun W => rcount_16 (s.drop 2) W (by simp; omega)
        have htk : List.take (s.length - 2) (List.drop 2 s) = s.drop 2 := List.take_of_length_le (by simp)
        rw [g0] at h0
        rw [g1] at h1
        have h00 : ((s[0]'(by omega)).toNat : Int) = 48 := by omega
        rw [hn]
        generalize cntL 16 (s.drop 2) = r at *
        clear hn hx hp g0 g1 h0 hne
        rcases h1 with h1 | h1
        all_goals
          have h11 : ((s[1]'(by omega)).toNat : Int) = _ := congrArg Nat.cast h1
          clear h1
          simp only [cntV] at cc ⊢
          go_enter Tryz.func83, Tryz.ntmps83
          go_wp2_with (go_at_call 139; refine (cc _).mono ?_; rintro e w1 ⟨rfl, rfl⟩)
          go_ret2
          exact ⟨rfl, rfl⟩
      · have hp : hexPre s = false := by
          rw [hx, Bool.or_eq_false_iff, beq_eq_false_iff_ne, beq_eq_false_iff_ne]; omega
        have e : s = s[0] :: s.drop 1 := by
          have := List.drop_eq_getElem_cons (l := s) (i := 0) (by omega)
          rwa [List.drop_zero] at this
        have hz : cntL 8 s = cntL 8 (s.drop 1) := by
          conv => lhs; rw [e]
          exact cnt_zero (by decide) (by rw [← g0]; exact h0)
        rw [if_neg (by rw [hp]; simp), if_neg hne, if_pos h0, hz] at hn
        have cc := fun W => rcount_8 s.tail W (by simp; omega)
        rw [List.drop_one] at hn
        have htk : List.take (s.length - 1) s.tail = s.tail := List.take_of_length_le (by simp)
        rw [g0] at h0
        rw [g1] at h1
        have h00 : ((s[0]'(by omega)).toNat : Int) = 48 := by omega
        have h11 : ¬ ((s[1]'(by omega)).toNat : Int) = 120 := by omega
        have h12 : ¬ ((s[1]'(by omega)).toNat : Int) = 88 := by omega
        have h13 : (((s[1]'(by omega)).toNat : Int) == 120) = false := by rw [beq_eq_false_iff_ne]; exact h11
        have h14 : (((s[1]'(by omega)).toNat : Int) == 88) = false := by rw [beq_eq_false_iff_ne]; exact h12
        have h15 : ((s[1]'(by omega)).toNat == 120) = false := by rw [beq_eq_false_iff_ne]; omega
        have h16 : ((s[1]'(by omega)).toNat == 88) = false := by rw [beq_eq_false_iff_ne]; omega
        rw [hn]
        generalize cntL 8 s.tail = r at *
        clear hn hx hp g0 g1 h0 h1 hne e hz
        simp only [cntV] at cc ⊢
        go_enter Tryz.func83, Tryz.ntmps83
        go_wp2_with (go_at_call 139; refine (cc _).mono ?_; rintro e w1 ⟨rfl, rfl⟩)
        go_ret2
        exact ⟨rfl, rfl⟩
    · have hp := hexPre_false (s := s) (.inr h0)
      rw [if_neg (by rw [hp]; simp), if_neg hne, if_neg h0] at hn
      have cc := fun W => rcount_10 s W hs
      rw [g0] at h0
      have h00 : ¬ ((s[0]'(by omega)).toNat : Int) = 48 := by omega
      rw [hn]
      generalize cntL 10 s = r at *
      clear hn hp g0 g1 h0 hne
      simp only [cntV] at cc ⊢
      go_enter Tryz.func83, Tryz.ntmps83
      go_wp2_with (go_at_call 139; refine (cc _).mono ?_; rintro e w1 ⟨rfl, rfl⟩)
      go_ret2
      exact ⟨rfl, rfl⟩
  · have hp := hexPre_false (s := s) (.inl (by omega))
    rw [if_neg (by rw [hp]; simp)] at hn
    by_cases h0 : s = []
    · rw [if_pos h0] at hn
      rw [hn]
      subst h0
      clear hn hp h2
      go_enter Tryz.func83, Tryz.ntmps83
      go_wp2_with fail
      go_ret2
      exact ⟨rfl, rfl⟩
    · rw [if_neg h0] at hn
      obtain ⟨x, rfl⟩ := one_of (s := s) (by have := List.length_pos_iff.2 h0; omega)
      have hz : (if ([x].getD 0 0).toNat = 48 then cntL 8 [x] else cntL 10 [x]) = cntL 10 [x] := by
        split
        · rename_i h
          have h : x.toNat = 48 := h
          rw [cnt_zero (by decide) h, cnt_zero (by decide) h]; rfl
        · rfl
      rw [hz] at hn
      have cc := fun W => rcount_10 [x] W (by simp)
      rw [hn]
      generalize cntL 10 [x] = r at *
      clear hn hp h0 hz h2
      simp only [cntV] at cc ⊢
      go_enter Tryz.func83, Tryz.ntmps83
      go_wp2_with (go_at_call 139; refine (cc _).mono ?_; rintro e w1 ⟨rfl, rfl⟩)
      go_ret2
      exact ⟨rfl, rfl⟩

/-- Is a byte a digit? -/
def isDig (c : Nat) : Bool := decide (48 ≤ c ∧ c ≤ 57)
theorem rdig01_any (c : Nat) (hc : c < 256) (w : World) : Calls Tryz.prog 140 #[.int .u8 (c : Int)] w fun e w' => e = .returned (.bool (isDig c)) ∧ w = w' := by
  by_cases h1 : 48 ≤ c
  · by_cases h2 : c ≤ 57
    · have H : Hid (isDig c = true) := decide_eq_true ⟨h1, h2⟩
      go_enter Tryz.func140, Tryz.ntmps140
      go_wp2_with fail
      go_ret
      exact ⟨ret_bool (by rw [H.out]; try (simp; omega)), rfl⟩
    · have H : Hid (isDig c = false) := decide_eq_false (by omega)
      have h2' : 57 < c := by omega
      clear h2
      go_enter Tryz.func140, Tryz.ntmps140
      go_wp2_with fail
      go_ret
      exact ⟨ret_bool (by rw [H.out]; try (simp; omega)), rfl⟩
  · have H : Hid (isDig c = false) := decide_eq_false (by omega)
    have h1' : c < 48 := by omega
    clear h1
    go_enter Tryz.func140, Tryz.ntmps140
    go_wp2_with fail
    go_ret
    exact ⟨ret_bool (by rw [H.out]; try (simp; omega)), rfl⟩
/-- At least one digit, and nothing else. -/
def digsL (s : List UInt8) : Bool := !s.isEmpty && s.all fun c => decide (48 ≤ c.toNat ∧ c.toNat ≤ 57)
theorem digsL_no {s : List UInt8} {k : Nat} (h : k < s.length) (hc : ¬ (48 ≤ s[k].toNat ∧ s[k].toNat ≤ 57)) : digsL s = false := by
  unfold digsL
  have : (s.all fun c => decide (48 ≤ c.toNat ∧ c.toNat ≤ 57)) = false := by
    rw [← Bool.not_eq_true, List.all_eq_true]
    intro h'
    have := h' _ (List.getElem_mem h)
    simp at this; omega
  rw [this, Bool.and_false]
theorem digsL_yes {s : List UInt8} (h : ∀ j (hj : j < s.length), 48 ≤ s[j].toNat ∧ s[j].toNat ≤ 57) : digsL s = decide (0 < s.length) := by
  unfold digsL
  have : (s.all fun c => decide (48 ≤ c.toNat ∧ c.toNat ≤ 57)) = true := by
    rw [List.all_eq_true]
    intro c hc
    obtain ⟨j, hj, rfl⟩ := List.getElem_of_mem hc
    simpa using h j hj
  rw [this, Bool.and_true]
  cases s <;> rfl
theorem digsL_eq (s : List UInt8) : digsL s = (!s.isEmpty && allDig 10 s) := by
  unfold digsL allDig
  congr 2
  funext c
  have hx : hexI c.toNat = if 48 ≤ c.toNat ∧ c.toNat ≤ 57 then (c.toNat : Int) - 48 else if 97 ≤ c.toNat ∧ c.toNat ≤ 102 then (c.toNat : Int) - 87 else if 65 ≤ c.toNat ∧ c.toNat ≤ 70 then (c.toNat : Int) - 55 else -1 := rfl
  rw [Bool.eq_iff_iff, Bool.and_eq_true, decide_eq_true_eq, decide_eq_true_eq, decide_eq_true_eq]
  by_cases h1 : 48 ≤ c.toNat ∧ c.toNat ≤ 57
  · rw [if_pos h1] at hx; omega
  · rw [if_neg h1] at hx
    by_cases h2 : 97 ≤ c.toNat ∧ c.toNat ≤ 102
    · rw [if_pos h2] at hx; omega
    · rw [if_neg h2] at hx
      by_cases h3 : 65 ≤ c.toNat ∧ c.toNat ≤ 70
      · rw [if_pos h3] at hx; omega
      · rw [if_neg h3] at hx; omega
set_option maxRecDepth 100000 in
theorem rdigits_any (s : List UInt8) (w : World) (hs : s.length ≤ 140737488351232) :
    Calls Tryz.prog 84 #[.string ⟨s.toArray⟩] w fun e w' => e = .returned (.bool (digsL s)) ∧ w = w' := by
  go_enter Tryz.func84, Tryz.ntmps84
  go_wp2_with fail
  go_loop [3] (fun i => ∃ k : Nat, k ≤ s.length ∧ i = .int .i64 k ∧ Hid (∀ j (hj : j < s.length), j < k → 48 ≤ s[j].toNat ∧ s[j].toNat ≤ 57)) (fun i => s.length - (intOf i).toNat)
  case atStart => exact ⟨0, Nat.zero_le _, rfl, fun j hj h => by omega⟩
  case round =>
    obtain ⟨k, hk, rfl, H⟩ := hrel
    by_cases hlt : k < s.length
    · have cd := rdig01_any s[k].toNat s[k].toNat_lt
      by_cases hc : 48 ≤ s[k].toNat ∧ s[k].toNat ≤ 57
      · have H2 : Hid (∀ j (hj : j < s.length), j < k + 1 → 48 ≤ s[j].toNat ∧ s[j].toNat ≤ 57) := fun j hj hjk => by
          by_cases e : j = k
          · subst e; exact hc
          · exact H.out j hj (by omega)
        rw [show isDig s[k].toNat = true from decide_eq_true hc] at cd
        clear hc
        go_wp2_with (go_at_call 140; refine (cd _).mono ?_; rintro e w' ⟨rfl, rfl⟩)
        go_round
        case rel => exact ⟨k + 1, by omega, by go_num, H2⟩
        case measure => simp [intOf]; omega
      · rw [show isDig s[k].toNat = false from decide_eq_false hc] at cd
        have HF := Lib.hid (digsL_no hlt hc)
        clear hc
        go_wp2_with (go_at_call 140; refine (cd _).mono ?_; rintro e w' ⟨rfl, rfl⟩)
        go_ret
        exact ⟨ret_bool HF.out.symm, rfl⟩
    · obtain rfl : k = s.length := by omega
      have HF := Lib.hid (digsL_yes (fun j hj => H.out j hj hj))
      clear H
      by_cases h0 : 0 < s.length
      all_goals
        go_wp2_with fail
        go_ret
        exact ⟨ret_bool (by rw [HF.out]; simp [h0]), rfl⟩
end Go.Proofs.YtijobaecakhnjaaGreatDoor
