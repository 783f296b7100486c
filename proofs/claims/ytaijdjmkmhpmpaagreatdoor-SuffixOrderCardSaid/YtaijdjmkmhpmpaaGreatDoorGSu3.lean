/- The walks of the reference's except, bare, part, may and Check (suffix). -/
import Derived.Test.YtaijdjmkmhpmpaaGreatDoorGSu1
import Derived.Test.YtaijdjmkmhpmpaaGreatDoorGRP
import Derived.Test.YtaijdjmkmhpmpaaGreatDoorGJoin
import Derived.Deep.QuietTactic
import Derived.Test.YtaijdjmkmhpmpaaGreatDoorGBel
set_option linter.unusedVariables false
set_option linter.unusedSimpArgs false
namespace Go.Proofs.YtaijdjmkmhpmpaaGreatDoor
open Go.RowKit

theorem rexcept_any (s : List UInt8) (w : World) :
    Calls Tryz.prog 56 #[.string ⟨s.toArray⟩] w fun e w' => e = .returned (.bool (exceptB s)) ∧ w = w' := by
  cases s with
  | nil =>
    go_enter Tryz.func56, Tryz.ntmps56
    go_wp2_with fail
    go_ret
    exact ⟨rfl, rfl⟩
  | cons c r =>
    have hm : exceptB (c :: r) = ((c.toNat : Int) == 33) := by
      unfold exceptB
      rw [List.head?_cons, Bool.eq_iff_iff, beq_iff_eq, beq_iff_eq, Option.some.injEq]
      constructor
      · intro h; rw [h]; rfl
      · intro h; exact UInt8.toNat_inj.1 (show c.toNat = 33 by omega)
    have hne : ((c :: r : List UInt8) == []) = false := rfl
    rw [hm]
    go_enter Tryz.func56, Tryz.ntmps56
    go_wp2_with fail
    go_ret
    exact ⟨rfl, rfl⟩
theorem rbare_any (s : List UInt8) (w : World) (hs : s.length ≤ 4000000000) :
    Calls Tryz.prog 54 #[.string ⟨s.toArray⟩] w fun e w' => ∃ g c, e = .returned (.slice (some ⟨g, 0, none⟩) (sufP s).length c) ∧ Txt w' (.slice (some ⟨g, 0, none⟩) (sufP s).length c) (sufP s) ∧ Below w.heap.size w w' := by
  have ce := rexcept_any s
  have cp := fun (x : List UInt8) (h : x.length ≤ 4000000000) W => rParts_any x W h
  have hP : sufP s = partsL 46 (bareL s) := rfl
  have hb : bareL s = if exceptB s then s.tail else s := rfl
  cases hx : exceptB s with
  | true =>
    obtain ⟨c, r, rfl⟩ := List.exists_cons_of_ne_nil (show s ≠ [] by intro e; rw [e] at hx; cases hx)
    rw [hx, if_pos rfl] at hb
    rw [hx] at ce
    have hb2 : bareL (c :: r) = r := hb
    rw [hb2] at hP
    have cp2 := cp r (by simp at hs; omega)
    have htk : List.take r.length r = r := List.take_length
    rw [hP]
    clear hb hb2 hP hx cp
    go_enter Tryz.func54, Tryz.ntmps54
    go_wp2_with fail
    go_at_call 56
    refine (ce _).mono ?_
    rintro e w1 ⟨rfl, rfl⟩
    go_wp2_with fail
    go_at_call 28
    refine (cp2 _).mono ?_
    rintro e w2 ⟨v, rfl, hown, hb2⟩
    go_wp2_with fail
    go_ret
    obtain ⟨g, c', rfl, ht⟩ := txt_conc hown rfl (partsL_ne 46 _)
    exact ⟨g, c', rfl, ht, hb2⟩
  | false =>
    rw [hx, if_neg (by simp)] at hb
    rw [hx] at ce
    rw [hb] at hP
    have cp2 := cp s hs
    rw [hP]
    clear hb hP hx cp
    go_enter Tryz.func54, Tryz.ntmps54
    go_wp2_with fail
    go_at_call 56
    refine (ce _).mono ?_
    rintro e w1 ⟨rfl, rfl⟩
    go_wp2_with fail
    go_at_call 28
    refine (cp2 _).mono ?_
    rintro e w2 ⟨v, rfl, hown, hb2⟩
    go_wp2_with fail
    go_ret
    obtain ⟨g, c', rfl, ht⟩ := txt_conc hown rfl (partsL_ne 46 _)
    exact ⟨g, c', rfl, ht, hb2⟩
theorem rdig1_any (c : UInt8) (w : World) :
    Calls Tryz.prog 159 #[.int .u8 (c.toNat : Int)] w fun e w' => e = .returned (.bool (decide (48 ≤ c.toNat) && decide (c.toNat ≤ 57))) ∧ w = w' := by
  by_cases h1 : 48 ≤ c.toNat <;> by_cases h2 : c.toNat ≤ 57
  all_goals
    have e1 : (48 : Int) ≤ (c.toNat : Int) ↔ 48 ≤ c.toNat := by omega
    have e2 : (c.toNat : Int) ≤ 57 ↔ c.toNat ≤ 57 := by omega
    go_enter Tryz.func159, Tryz.ntmps159
    go_wp2_with fail
    go_ret
    exact ⟨ret_bool (by simp [h1, h2]), rfl⟩
set_option maxRecDepth 100000 in
set_option maxHeartbeats 2000000 in
theorem rpart_any (x : List UInt8) (w : World) (hs : x.length ≤ 140737488351232) :
    Calls Tryz.prog 118 #[.string ⟨x.toArray⟩] w fun e w' => e = .returned (.bool (!oddB x)) ∧ w = w' := by
  have hm : oddB x = (x.isEmpty || (decide (63 < x.length) || !x.all labB)) := rfl
  have he : x.isEmpty = decide (x.length = 0) := by cases x <;> simp
  have HM := Lib.hid hm
  have HE := Lib.hid he
  clear hm he
  go_enter Tryz.func118, Tryz.ntmps118
  go_wp2_with fail
  go_loop [3, 4] (fun i _ => ∃ k : Nat, k ≤ x.length ∧ i = .int .i64 k ∧ Hid (∀ c ∈ x.take k, labB c = true)) (fun i _ => x.length - (intOf i).toNat)
  case atStart => exact ⟨0, Nat.zero_le _, rfl, Lib.hid (by simp)⟩
  case round =>
    obtain ⟨k, hk, rfl, HP⟩ := hrel
    by_cases hlt : k < x.length
    · have HN : Hid (labB x[k] = true → ∀ c ∈ x.take (k + 1), labB c = true) := fun h c hc => by
        rw [List.take_succ_eq_append_getElem hlt] at hc
        rcases List.mem_append.1 hc with hc | hc
        · exact HP.out c hc
        · rw [List.mem_singleton] at hc; subst hc; exact h
      have HBad : Hid (labB x[k] = false → (!oddB x) = false) := fun h => by
        have : x.all labB = false := by
          cases ha : x.all labB with
          | false => rfl
          | true => rw [List.all_eq_true] at ha; rw [ha _ (List.getElem_mem hlt)] at h; cases h
        rw [HM.out, this]
        simp
      have hlab := labB_iff (c := x[k])
      generalize hx : x[k] = c at *
      have hc255 := c.toNat_lt
      have cd := rdig1_any c
      by_cases hd : 48 ≤ c.toNat ∧ c.toNat ≤ 57
      · rw [decide_eq_true hd.1, decide_eq_true hd.2] at cd
        have hgood : labB c = true := hlab.2 (.inr (.inl hd))
        have HN2 := Lib.hid (HN.out hgood)
        clear HN HBad hlab
        go_wp2_with fail
        go_at_call 159
        refine (cd _).mono ?_
        rintro e w1 ⟨rfl, rfl⟩
        go_wp2_with fail
        go_round
        case rel => exact ⟨k + 1, by omega, by go_num, HN2⟩
        case measure => simp [intOf]; omega
      · have hdf : (decide (48 ≤ c.toNat) && decide (c.toNat ≤ 57)) = false := by
          rw [Bool.and_eq_false_iff, decide_eq_false_iff_not, decide_eq_false_iff_not]
          omega
        rw [hdf] at cd
        by_cases hg : labB c = true
        · have HN2 := Lib.hid (HN.out hg)
          have hor := hlab.1 hg
          clear HN HBad hlab
          by_cases p7 : (c.toNat : Int) = 45
          · have p7b : ((c.toNat : Int) != 45) = false := by rw [p7]; rfl
            clear p7 hor
            go_wp2_with fail
            go_at_call 159
            refine (cd _).mono ?_
            rintro e w1 ⟨rfl, rfl⟩
            go_wp2_with fail
            go_round
            case rel => exact ⟨k + 1, by omega, by go_num, HN2⟩
            case measure => simp [intOf]; omega
          · have p7b : ((c.toNat : Int) != 45) = true := by (rw [bne_iff_ne]; exact p7)
            have p3 : ¬ (c.toNat : Int) < 97 := by omega
            have p4 : ¬ (122 : Int) < (c.toNat : Int) := by omega
            go_wp2_with fail
            go_at_call 159
            refine (cd _).mono ?_
            rintro e w1 ⟨rfl, rfl⟩
            go_wp2_with fail
            go_round
            case rel => exact ⟨k + 1, by omega, by go_num, HN2⟩
            case measure => simp [intOf]; omega
        · have hgf : labB c = false := by simpa using hg
          have HB2 := Lib.hid (HBad.out hgf)
          have p7 : ¬ (c.toNat : Int) = 45 := fun e => hg (hlab.2 (.inr (.inr (by omega))))
          have p7b : ((c.toNat : Int) != 45) = true := by (rw [bne_iff_ne]; exact p7)
          have p34 : (c.toNat : Int) < 97 ∨ (122 : Int) < (c.toNat : Int) := by
            by_cases h : (c.toNat : Int) < 97
            · exact .inl h
            · by_cases h2 : (122 : Int) < (c.toNat : Int)
              · exact .inr h2
              · exact absurd (hlab.2 (.inl ⟨by omega, by omega⟩)) hg
          clear HN HBad hlab hg hgf
          rcases p34 with p3 | p4
          · go_wp2_with fail
            go_at_call 159
            refine (cd _).mono ?_
            rintro e w1 ⟨rfl, rfl⟩
            go_wp2_with fail
            go_ret
            exact ⟨ret_bool (by rw [HB2.out]), rfl⟩
          · have p3 : ¬ (c.toNat : Int) < 97 := by omega
            go_wp2_with fail
            go_at_call 159
            refine (cd _).mono ?_
            rintro e w1 ⟨rfl, rfl⟩
            go_wp2_with fail
            go_ret
            exact ⟨ret_bool (by rw [HB2.out]), rfl⟩
    · obtain rfl : k = x.length := by omega
      have hall : x.all labB = true := List.all_eq_true.2 fun c hc => HP.out c (by rw [List.take_length]; exact hc)
      have HV : Hid ((!oddB x) = (decide (1 ≤ x.length) && decide (x.length ≤ 63))) := by
        show _ = _
        rw [HM.out, HE.out, hall]
        by_cases h1 : x.length = 0
        · simp [h1]
        · by_cases h2 : x.length ≤ 63
          · rw [decide_eq_false h1, decide_eq_false (by omega), decide_eq_true (by omega), decide_eq_true h2]; rfl
          · rw [decide_eq_false h1, decide_eq_true (by omega), decide_eq_true (by omega), decide_eq_false h2]; rfl
      clear hall HP HM HE
      by_cases h1 : 1 ≤ x.length <;> by_cases h2 : x.length ≤ 63
      all_goals
        have e1 : (1 : Int) ≤ (x.length : Int) ↔ 1 ≤ x.length := by omega
        have e2 : (x.length : Int) ≤ 63 ↔ x.length ≤ 63 := by omega
        go_wp2_with fail
        go_ret
        exact ⟨ret_bool (by rw [HV.out]; simp [h1, h2]), rfl⟩

set_option maxRecDepth 100000 in
set_option maxHeartbeats 2000000 in
theorem rmay_any (s : List UInt8) (w : World) (hs : s.length ≤ 4000000000) :
    Calls Tryz.prog 81 #[.string ⟨s.toArray⟩] w fun e w' => e = .returned (.bool (mayL s)) ∧ Below w.heap.size w w' := by
  have cb := rbare_any s w hs
  have ce := rexcept_any s
  have hP := sufP_le s
  have hne := List.length_pos_iff.2 (sufP_ne s)
  have hm : mayL s = (!(exceptB s && decide ((sufP s).length < 2)) && (decide (restN s ≤ 253) && !(restP s).any oddB)) := rfl
  have hbl := bareL_len s
  have hep := fun h => exceptB_pos (s := s) h
  by_cases hx2 : exceptB s = true ∧ (sufP s).length < 2
  · obtain ⟨hx, h2⟩ := hx2
    rw [hx, decide_eq_true h2] at hm
    rw [hx] at ce
    have hs1 := hep hx
    have h2i : ((sufP s).length : Int) < 2 := by omega
    have HM := Lib.hid hm
    clear hm hbl hep hP
    generalize sufP s = P at *
    go_enter Tryz.func81, Tryz.ntmps81
    go_wp2_with fail
    go_at_call 54
    refine cb.mono ?_
    rintro e w1 ⟨g, c, rfl, ht, hb1⟩
    go_wp2_with fail
    go_at_call 56
    refine (ce _).mono ?_
    rintro e w2 ⟨rfl, rfl⟩
    go_wp2_with fail
    go_ret
    exact ⟨ret_bool (by rw [HM.out]; rfl), hb1⟩
  · have hx3 : (exceptB s && decide ((sufP s).length < 2)) = false := by
      cases hx : exceptB s with
      | false => rfl
      | true => rw [Bool.true_and, decide_eq_false (fun h => hx2 ⟨hx, h⟩)]
    rw [hx3, Bool.not_false, Bool.true_and] at hm
    have hodd : ∀ x ∈ restP s, ∀ W, Calls Tryz.prog 118 #[.string ⟨x.toArray⟩] W fun e W' => e = .returned (.bool (!oddB x)) ∧ W = W' := fun x hx W => rpart_any x W (by have := hP.1 x ((restP_le s).2 x hx); omega)
    have hway : ∀ n : Nat, n = restN s → (exceptB s = true ∧ starB s = false ∧ ¬ ((sufP s).length : Int) < 2 ∧ (s.length : Int) - 1 = (n : Int)) ∨ (exceptB s = false ∧ starB s = false ∧ ¬ (1 : Int) < ((sufP s).length : Int) ∧ s.length = n) ∨ (exceptB s = false ∧ starB s = false ∧ (1 : Int) < ((sufP s).length : Int) ∧ ((sufP s)[0] == [42]) = false ∧ s.length = n) ∨ (exceptB s = false ∧ starB s = true ∧ (s.length : Int) - 2 = (n : Int)) := by
      intro n hn
      have hrn : restN s = (bareL s).length - (if starB s then 2 else 0) := rfl
      cases hst : starB s with
      | true =>
        obtain ⟨h1, _, l, _, _, h4⟩ := star_bare hst
        refine .inr (.inr (.inr ⟨h1, rfl, ?_⟩))
        rw [hst, hbl, h1] at hrn
        have hl2 : 2 ≤ s.length := by rw [h4]; simp
        simp at hrn
        omega
      | false =>
        rw [hst, hbl] at hrn
        cases hx : exceptB s with
        | true =>
          rw [hx] at hrn
          have := hep hx
          simp at hrn
          exact .inl ⟨rfl, rfl, fun h => hx2 ⟨hx, by omega⟩, by omega⟩
        | false =>
          rw [hx] at hrn
          simp at hrn
          right
          by_cases h1 : 1 < (sufP s).length
          · refine .inr (.inl ⟨rfl, rfl, by omega, ?_, by omega⟩)
            unfold starB at hst
            rw [hx, decide_eq_true h1] at hst
            rw [List.head?_eq_getElem?, List.getElem?_eq_getElem hne] at hst
            rw [beq_eq_false_iff_ne]
            intro e
            rw [e] at hst
            simp at hst
          · exact .inl ⟨rfl, rfl, by omega, by omega⟩
    obtain ⟨n, hn⟩ : ∃ n, n = restN s := ⟨_, rfl⟩
    have hway2 := hway n hn
    clear hway
    rw [← hn] at hm
    clear hn hx3 hx2 hbl hep
    rcases hway2 with ⟨hx, hst, hw1, hw2⟩ | ⟨hx, hst, hw1, hw2⟩ | ⟨hx, hst, hw1, hw3, hw2⟩ | ⟨hx, hst, hw2⟩
    · have hrp : restP s = sufP s := by unfold restP; rw [if_neg (by rw [hst]; simp)]
      rw [hrp] at hm hodd
      rw [hx] at ce
      have HM := Lib.hid hm
      have HO := Lib.hid hodd
      have hPl := hP.2
      clear hm hodd hrp hst hx hP
      generalize hPP : sufP s = P at *
      go_enter Tryz.func81, Tryz.ntmps81
      go_wp2_with fail
      go_at_call 54
      refine cb.mono ?_
      rintro e w1 ⟨g, c, rfl, ht, hb1⟩
      have HC : Hid (∀ (k : Nat) (hk : k < P.length), w1.cell? ⟨g, k, none⟩ = some (.string ⟨(P[k]).toArray⟩)) := fun k hk => by
        have := (txt_cell ht hne).2.2.2 w1 (Below.refl _ _) k hk
        rwa [Nat.zero_add] at this
      have hPc := (txt_cell ht hne).2.1
      clear ht cb
      go_wp2_with fail
      go_at_call 56
      refine (ce _).mono ?_
      rintro e w2 ⟨rfl, rfl⟩
      go_wp2_with fail
      try rw [hw2]
      go_loop [5] (fun i => ∃ k : Nat, k ≤ P.length ∧ i = .int .i64 k ∧ Hid (∀ (j : Nat) (h : j < P.length), j < k → oddB P[j] = false)) (fun i => P.length - (intOf i).toNat)
      case atStart => exact ⟨0, Nat.zero_le _, rfl, Lib.hid (fun j _ h => absurd h (by omega))⟩
      case round =>
        obtain ⟨k, hk, rfl, HP⟩ := hrel
        by_cases hlt : k < P.length
        · have hck := HC.out k hlt
          have cd := HO.out _ (List.getElem_mem hlt)
          cases hp : oddB P[k] with
          | true =>
            have hany : P.any oddB = true := List.any_eq_true.2 ⟨_, List.getElem_mem hlt, hp⟩
            have HV : Hid (mayL s = false) := by
              show _ = _
              rw [HM.out, hany]; simp
            rw [hp] at cd
            clear hp HP hany
            generalize P[k] = X at *
            go_wp2_with fail
            go_at_call 118
            refine (cd _).mono ?_
            rintro e w3 ⟨rfl, rfl⟩
            go_wp2_with fail
            go_ret
            exact ⟨ret_bool (by rw [HV.out]), hb1⟩
          | false =>
            have HP2 : Hid (∀ (j : Nat) (h : j < P.length), j < k + 1 → oddB P[j] = false) := fun j h h1 => by
              by_cases hj : j < k
              · exact HP.out j h hj
              · obtain rfl : j = k := by omega
                exact hp
            rw [hp] at cd
            clear hp HP
            generalize P[k] = X at *
            go_wp2_with fail
            go_at_call 118
            refine (cd _).mono ?_
            rintro e w3 ⟨rfl, rfl⟩
            go_wp2_with fail
            go_round
            case rel => exact ⟨k + 1, by omega, by go_num, HP2⟩
            case measure => simp [intOf]; omega
        · obtain rfl : k = P.length := by omega
          have hany : P.any oddB = false := by
            rw [List.any_eq_false]
            intro x hx
            obtain ⟨j, hj, e⟩ := List.getElem_of_mem hx
            rw [← e, HP.out j hj hj]
            simp
          have HV : Hid (mayL s = decide (n ≤ 253)) := by
            show _ = _
            rw [HM.out, hany]; simp
          have e1 : (n : Int) ≤ 253 ↔ n ≤ 253 := by omega
          by_cases h253 : n ≤ 253
          all_goals
            go_wp2_with fail
            go_ret
            exact ⟨ret_bool (by rw [HV.out]; simp [h253]), hb1⟩
    · have hrp : restP s = sufP s := by unfold restP; rw [if_neg (by rw [hst]; simp)]
      rw [hrp] at hm hodd
      rw [hx] at ce
      have HM := Lib.hid hm
      have HO := Lib.hid hodd
      have hPl := hP.2
      clear hm hodd hrp hst hx hP
      generalize hPP : sufP s = P at *
      go_enter Tryz.func81, Tryz.ntmps81
      go_wp2_with fail
      go_at_call 54
      refine cb.mono ?_
      rintro e w1 ⟨g, c, rfl, ht, hb1⟩
      have HC : Hid (∀ (k : Nat) (hk : k < P.length), w1.cell? ⟨g, k, none⟩ = some (.string ⟨(P[k]).toArray⟩)) := fun k hk => by
        have := (txt_cell ht hne).2.2.2 w1 (Below.refl _ _) k hk
        rwa [Nat.zero_add] at this
      have hPc := (txt_cell ht hne).2.1
      clear ht cb
      go_wp2_with fail
      go_at_call 56
      refine (ce _).mono ?_
      rintro e w2 ⟨rfl, rfl⟩
      go_wp2_with fail
      try rw [hw2]
      go_loop [5] (fun i => ∃ k : Nat, k ≤ P.length ∧ i = .int .i64 k ∧ Hid (∀ (j : Nat) (h : j < P.length), j < k → oddB P[j] = false)) (fun i => P.length - (intOf i).toNat)
      case atStart => exact ⟨0, Nat.zero_le _, rfl, Lib.hid (fun j _ h => absurd h (by omega))⟩
      case round =>
        obtain ⟨k, hk, rfl, HP⟩ := hrel
        by_cases hlt : k < P.length
        · have hck := HC.out k hlt
          have cd := HO.out _ (List.getElem_mem hlt)
          cases hp : oddB P[k] with
          | true =>
            have hany : P.any oddB = true := List.any_eq_true.2 ⟨_, List.getElem_mem hlt, hp⟩
            have HV : Hid (mayL s = false) := by
              show _ = _
              rw [HM.out, hany]; simp
            rw [hp] at cd
            clear hp HP hany
            generalize P[k] = X at *
            go_wp2_with fail
            go_at_call 118
            refine (cd _).mono ?_
            rintro e w3 ⟨rfl, rfl⟩
            go_wp2_with fail
            go_ret
            exact ⟨ret_bool (by rw [HV.out]), hb1⟩
          | false =>
            have HP2 : Hid (∀ (j : Nat) (h : j < P.length), j < k + 1 → oddB P[j] = false) := fun j h h1 => by
              by_cases hj : j < k
              · exact HP.out j h hj
              · obtain rfl : j = k := by omega
                exact hp
            rw [hp] at cd
            clear hp HP
            generalize P[k] = X at *
            go_wp2_with fail
            go_at_call 118
            refine (cd _).mono ?_
            rintro e w3 ⟨rfl, rfl⟩
            go_wp2_with fail
            go_round
            case rel => exact ⟨k + 1, by omega, by go_num, HP2⟩
            case measure => simp [intOf]; omega
        · obtain rfl : k = P.length := by omega
          have hany : P.any oddB = false := by
            rw [List.any_eq_false]
            intro x hx
            obtain ⟨j, hj, e⟩ := List.getElem_of_mem hx
            rw [← e, HP.out j hj hj]
            simp
          have HV : Hid (mayL s = decide (n ≤ 253)) := by
            show _ = _
            rw [HM.out, hany]; simp
          have e1 : (n : Int) ≤ 253 ↔ n ≤ 253 := by omega
          by_cases h253 : n ≤ 253
          all_goals
            go_wp2_with fail
            go_ret
            exact ⟨ret_bool (by rw [HV.out]; simp [h253]), hb1⟩
    · have hrp : restP s = sufP s := by unfold restP; rw [if_neg (by rw [hst]; simp)]
      rw [hrp] at hm hodd
      rw [hx] at ce
      have HM := Lib.hid hm
      have HO := Lib.hid hodd
      have hPl := hP.2
      clear hm hodd hrp hst hx hP
      generalize hPP : sufP s = P at *
      go_enter Tryz.func81, Tryz.ntmps81
      go_wp2_with fail
      go_at_call 54
      refine cb.mono ?_
      rintro e w1 ⟨g, c, rfl, ht, hb1⟩
      have HC : Hid (∀ (k : Nat) (hk : k < P.length), w1.cell? ⟨g, k, none⟩ = some (.string ⟨(P[k]).toArray⟩)) := fun k hk => by
        have := (txt_cell ht hne).2.2.2 w1 (Below.refl _ _) k hk
        rwa [Nat.zero_add] at this
      have hPc := (txt_cell ht hne).2.1
      have hc0 := HC.out 0 hne
      generalize P[0] = Q at *
      clear ht cb
      go_wp2_with fail
      go_at_call 56
      refine (ce _).mono ?_
      rintro e w2 ⟨rfl, rfl⟩
      go_wp2_with fail
      clear hc0
      try rw [hw2]
      go_loop [5] (fun i => ∃ k : Nat, k ≤ P.length ∧ i = .int .i64 k ∧ Hid (∀ (j : Nat) (h : j < P.length), j < k → oddB P[j] = false)) (fun i => P.length - (intOf i).toNat)
      case atStart => exact ⟨0, Nat.zero_le _, rfl, Lib.hid (fun j _ h => absurd h (by omega))⟩
      case round =>
        obtain ⟨k, hk, rfl, HP⟩ := hrel
        by_cases hlt : k < P.length
        · have hck := HC.out k hlt
          have cd := HO.out _ (List.getElem_mem hlt)
          cases hp : oddB P[k] with
          | true =>
            have hany : P.any oddB = true := List.any_eq_true.2 ⟨_, List.getElem_mem hlt, hp⟩
            have HV : Hid (mayL s = false) := by
              show _ = _
              rw [HM.out, hany]; simp
            rw [hp] at cd
            clear hp HP hany
            generalize P[k] = X at *
            go_wp2_with fail
            go_at_call 118
            refine (cd _).mono ?_
            rintro e w3 ⟨rfl, rfl⟩
            go_wp2_with fail
            go_ret
            exact ⟨ret_bool (by rw [HV.out]), hb1⟩
          | false =>
            have HP2 : Hid (∀ (j : Nat) (h : j < P.length), j < k + 1 → oddB P[j] = false) := fun j h h1 => by
              by_cases hj : j < k
              · exact HP.out j h hj
              · obtain rfl : j = k := by omega
                exact hp
            rw [hp] at cd
            clear hp HP
            generalize P[k] = X at *
            go_wp2_with fail
            go_at_call 118
            refine (cd _).mono ?_
            rintro e w3 ⟨rfl, rfl⟩
            go_wp2_with fail
            go_round
            case rel => exact ⟨k + 1, by omega, by go_num, HP2⟩
            case measure => simp [intOf]; omega
        · obtain rfl : k = P.length := by omega
          have hany : P.any oddB = false := by
            rw [List.any_eq_false]
            intro x hx
            obtain ⟨j, hj, e⟩ := List.getElem_of_mem hx
            rw [← e, HP.out j hj hj]
            simp
          have HV : Hid (mayL s = decide (n ≤ 253)) := by
            show _ = _
            rw [HM.out, hany]; simp
          have e1 : (n : Int) ≤ 253 ↔ n ≤ 253 := by omega
          by_cases h253 : n ≤ 253
          all_goals
            go_wp2_with fail
            go_ret
            exact ⟨ret_bool (by rw [HV.out]; simp [h253]), hb1⟩
    · obtain ⟨_, h1, l, hl, hlne, hsl⟩ := star_bare hst
      have hrp : restP s = l := by unfold restP; rw [if_pos hst, hl]; rfl
      rw [hrp] at hm hodd
      rw [hx] at ce
      rw [hl] at cb h1 hP
      have HM := Lib.hid hm
      have HO := Lib.hid hodd
      have hll : (([42] : List UInt8) :: l).length = l.length + 1 := rfl
      rw [hll] at cb h1
      have hPl := hP.2
      rw [hll] at hPl
      have h1i : (1 : Int) < ((l.length + 1 : Nat) : Int) := by omega
      clear hm hodd hrp hst hx hP hl hsl hne
      go_enter Tryz.func81, Tryz.ntmps81
      go_wp2_with fail
      go_at_call 54
      refine cb.mono ?_
      rintro e w1 ⟨g, c, rfl, ht, hb1⟩
      have HC : Hid (∀ (k : Nat) (hk : k < l.length), w1.cell? ⟨g, 1 + k, none⟩ = some (.string ⟨(l[k]).toArray⟩)) := fun k hk => by
        have := (txt_cell ht (by simp)).2.2.2 w1 (Below.refl _ _) (k + 1) (by simpa using hk)
        rw [Nat.zero_add] at this
        rw [Nat.add_comm 1 k]
        exact this
      have hc0 : w1.cell? ⟨g, 0, none⟩ = some (.string ⟨#[42]⟩) := (txt_cell ht (by simp)).2.2.2 w1 (Below.refl _ _) 0 (by simp)
      have hPc : l.length + 1 ≤ c := (txt_cell ht (by simp)).2.1
      clear ht cb
      go_wp2_with fail
      go_at_call 56
      refine (ce _).mono ?_
      rintro e w2 ⟨rfl, rfl⟩
      go_wp2_with fail
      clear hc0
      try rw [hw2]
      go_loop [5] (fun i => ∃ k : Nat, k ≤ l.length ∧ i = .int .i64 k ∧ Hid (∀ (j : Nat) (h : j < l.length), j < k → oddB l[j] = false)) (fun i => l.length - (intOf i).toNat)
      case atStart => exact ⟨0, Nat.zero_le _, rfl, Lib.hid (fun j _ h => absurd h (by omega))⟩
      case round =>
        obtain ⟨k, hk, rfl, HP⟩ := hrel
        by_cases hlt : k < l.length
        · have hck := HC.out k hlt
          have cd := HO.out _ (List.getElem_mem hlt)
          cases hp : oddB l[k] with
          | true =>
            have hany : l.any oddB = true := List.any_eq_true.2 ⟨_, List.getElem_mem hlt, hp⟩
            have HV : Hid (mayL s = false) := by
              show _ = _
              rw [HM.out, hany]; simp
            rw [hp] at cd
            clear hp HP hany
            generalize l[k] = X at *
            go_wp2_with fail
            go_at_call 118
            refine (cd _).mono ?_
            rintro e w3 ⟨rfl, rfl⟩
            go_wp2_with fail
            go_ret
            exact ⟨ret_bool (by rw [HV.out]), hb1⟩
          | false =>
            have HP2 : Hid (∀ (j : Nat) (h : j < l.length), j < k + 1 → oddB l[j] = false) := fun j h h1 => by
              by_cases hj : j < k
              · exact HP.out j h hj
              · obtain rfl : j = k := by omega
                exact hp
            rw [hp] at cd
            clear hp HP
            generalize l[k] = X at *
            go_wp2_with fail
            go_at_call 118
            refine (cd _).mono ?_
            rintro e w3 ⟨rfl, rfl⟩
            go_wp2_with fail
            go_round
            case rel => exact ⟨k + 1, by omega, by go_num, HP2⟩
            case measure => simp [intOf]; omega
        · obtain rfl : k = l.length := by omega
          have hany : l.any oddB = false := by
            rw [List.any_eq_false]
            intro x hx
            obtain ⟨j, hj, e⟩ := List.getElem_of_mem hx
            rw [← e, HP.out j hj hj]
            simp
          have HV : Hid (mayL s = decide (n ≤ 253)) := by
            show _ = _
            rw [HM.out, hany]; simp
          have e1 : (n : Int) ≤ 253 ↔ n ≤ 253 := by omega
          by_cases h253 : n ≤ 253
          all_goals
            go_wp2_with fail
            go_ret
            exact ⟨ret_bool (by rw [HV.out]; simp [h253]), hb1⟩

set_option maxRecDepth 100000 in
theorem rcheck_any (L : List (List UInt8)) (v : Value) (w : World) (ht : Txt w v L) (hl : L.length ≤ 1000000) (hs : ∀ p ∈ L, p.length ≤ 4000000000) :
    Calls Tryz.prog 51 #[v] w fun e w' => e = .returned (.bool (checkL L)) ∧ Below w.heap.size w w' := by
  have hm : checkL L = (decide (L.length ≤ 1024) && !L.any fun s => !mayL s) := rfl
  have hbw := Below.refl w.heap.size w
  have HM := Lib.hid hm
  clear hm
  rcases ht with ⟨rfl, rfl⟩ | ⟨a, c, rfl, hc, hab, hcell⟩
  · have HV : Hid (checkL [] = true) := by
      show _ = _
      rfl
    go_enter Tryz.func51, Tryz.ntmps51
    go_wp2_with fail
    go_loop [3] (fun i => i = .int .i64 0) (fun _ => 0)
    case atStart => exact rfl
    case round =>
      obtain rfl := hrel
      go_wp2_with fail
      go_ret
      exact ⟨ret_bool (by rw [HV.out]), hbw⟩
  · have HC := Lib.hid fun W (hW : Below w.heap.size w W) (k : Nat) (hk : k < L.length) => (hW.cell (p := a.add k) (by rw [Go.ChangeShapes.block_add]; exact hab (by omega))).trans (hcell k hk)
    have HS := Lib.hid hs
    have HA : Hid ((∀ (j : Nat) (h : j < L.length), mayL L[j] = true) → (L.any fun s => !mayL s) = false) := fun h => by
      rw [List.any_eq_false]
      intro x hx
      obtain ⟨j, hj, e⟩ := List.getElem_of_mem hx
      rw [← e, h j hj]
      simp
    clear hcell hs
    by_cases h : L.length ≤ 1024
    · have hi : ¬ (1024 : Int) < (L.length : Int) := by omega
      go_enter Tryz.func51, Tryz.ntmps51
      go_wp2_with fail
      go_loopw [3] (fun i wr => ∃ k : Nat, k ≤ L.length ∧ i = .int .i64 k ∧ Hid (∀ (j : Nat) (h : j < L.length), j < k → mayL L[j] = true) ∧ Below w.heap.size w wr) (fun i _ => L.length - (intOf i).toNat)
      case atStart => exact ⟨0, Nat.zero_le _, rfl, Lib.hid (fun j _ h => absurd h (by omega)), hbw⟩
      case round =>
        obtain ⟨k, hk, rfl, HP, hbr⟩ := hrel
        by_cases hlt : k < L.length
        · have hck := HC.out _ hbr k hlt
          have cd := fun W => rmay_any L[k] W (HS.out _ (List.getElem_mem hlt))
          cases hp : mayL L[k] with
          | false =>
            have HV : Hid (checkL L = false) := by
              show _ = _
              have hany : (L.any fun s => !mayL s) = true := List.any_eq_true.2 ⟨_, List.getElem_mem hlt, by simp [hp]⟩
              rw [HM.out, hany]; simp
            rw [hp] at cd
            clear hp HP
            generalize L[k] = X at *
            go_wp2_with fail
            go_at_call 81
            refine (cd _).mono ?_
            rintro e w3 ⟨rfl, hb3⟩
            go_wp2_with fail
            go_ret
            exact ⟨ret_bool (by rw [HV.out]), hbr.trans (hb3.mono hbr.size)⟩
          | true =>
            have HP2 : Hid (∀ (j : Nat) (h : j < L.length), j < k + 1 → mayL L[j] = true) := fun j h h1 => by
              by_cases hj : j < k
              · exact HP.out j h hj
              · obtain rfl : j = k := by omega
                exact hp
            rw [hp] at cd
            clear hp HP
            generalize L[k] = X at *
            go_wp2_with fail
            go_at_call 81
            refine (cd _).mono ?_
            rintro e w3 ⟨rfl, hb3⟩
            go_wp2_with fail
            go_roundw
            case rel => exact ⟨k + 1, by omega, by go_num, HP2, hbr.trans (hb3.mono hbr.size)⟩
            case measure => simp [intOf]; omega
        · obtain rfl : k = L.length := by omega
          have HV : Hid (checkL L = true) := by
            show _ = _
            rw [HM.out, HA.out (fun j h => HP.out j h h), decide_eq_true h]; rfl
          go_wp2_with fail
          go_ret
          exact ⟨ret_bool (by rw [HV.out]), hbr⟩
    · have hi : (1024 : Int) < (L.length : Int) := by omega
      have HV : Hid (checkL L = false) := by
        show _ = _
        rw [HM.out, decide_eq_false h]; rfl
      go_enter Tryz.func51, Tryz.ntmps51
      go_wp2_with fail
      go_ret
      exact ⟨ret_bool (by rw [HV.out]), hbw⟩
end Go.Proofs.YtaijdjmkmhpmpaaGreatDoor
namespace Go.Proofs.YtaijdjmkmhpmpaaGreatDoor
open Go.RowKit

theorem below_drewM {B : Nat} {a w : World} (h : Below B a w) (k : Nat) : Below B a (w.drewN k) := ⟨h.os, h.tape, h.output, h.size, h.block⟩
set_option maxRecDepth 100000 in
set_option maxHeartbeats 2000000 in
theorem rfits_any (P H : List (List UInt8)) (g c b d : Nat) (w : World) (hP : Txt w (.slice (some ⟨g, 0, none⟩) P.length c) P) (hH : Txt w (.slice (some ⟨b, 0, none⟩) H.length d) H) (h0 : P ≠ []) (hl : H.length ≤ 4000000001) :
    Calls Tryz.prog 55 #[.slice (some ⟨g, 0, none⟩) P.length c, .slice (some ⟨b, 0, none⟩) H.length d] w fun e w' => e = .returned (.bool (fitsL P H)) ∧ Below w.heap.size w w' := by
  have hm : fitsL P H = (decide (P.length ≤ H.length) && eqF (H.drop (H.length - P.length)) P) := rfl
  have hP0 := List.length_pos_iff.2 h0
  by_cases hle : P.length ≤ H.length
  · rw [decide_eq_true hle, Bool.true_and] at hm
    have hlei : ¬ (H.length : Int) < (P.length : Int) := by omega
    obtain ⟨n, hn⟩ : ∃ n : Nat, n + P.length = H.length := ⟨H.length - P.length, by omega⟩
    have hni : (H.length : Int) - (P.length : Int) = (n : Int) := by omega
    have hnn : H.length - P.length = n := by omega
    rw [hnn] at hm
    have hDl : (H.drop n).length = P.length := by simp; omega
    have heq := eqF_iff hDl
    obtain ⟨_, hPc, _, hcP⟩ := txt_cell hP hP0
    obtain ⟨_, hHc, _, hcH⟩ := txt_cell hH (by omega)
    have HCP : Hid (∀ (k : Nat) (hk : k < P.length), w.cell? ⟨g, k, none⟩ = some (.string ⟨(P[k]).toArray⟩)) := fun k hk => by
      have := hcP w (Below.refl _ _) k hk
      rwa [Nat.zero_add] at this
    have HCH : Hid (∀ (k : Nat) (hk : k < P.length) (hk2 : k < (H.drop n).length), w.cell? ⟨b, n + k, none⟩ = some (.string ⟨((H.drop n)[k]).toArray⟩)) := fun k hk hk2 => by
      have := hcH w (Below.refl _ _) (n + k) (by omega)
      rw [Nat.zero_add] at this
      rw [List.getElem_drop]
      exact this
    generalize hD : H.drop n = D at *
    have HM := Lib.hid hm
    have HEQ := Lib.hid heq
    have HDl := Lib.hid hDl
    clear hP hH hcP hcH hm heq hDl hD hnn
    go_enter Tryz.func55, Tryz.ntmps55
    go_wp2_with fail
    go_loopw [5] (fun i wr => ∃ k q : Nat, k ≤ P.length ∧ i = .int .i64 k ∧ Hid (∀ (j : Nat) (h : j < D.length) (h2 : j < P.length), j < k → P[j] = [42] ∨ D[j] = P[j]) ∧ wr = w.drewN q) (fun i _ => P.length - (intOf i).toNat)
    case atStart => exact ⟨0, 0, Nat.zero_le _, rfl, Lib.hid (fun j _ _ h => absurd h (by omega)), rfl⟩
    case round =>
      obtain ⟨k, q, hk, rfl, HI, rfl⟩ := hrel
      by_cases hlt : k < P.length
      · have hDk : k < D.length := by rw [HDl.out]; exact hlt
        have hc1 := HCP.out k hlt
        have hc2 := HCH.out k hlt hDk
        by_cases hor : P[k] = [42] ∨ D[k] = P[k]
        · have HN : Hid (∀ (j : Nat) (h : j < D.length) (h2 : j < P.length), j < k + 1 → P[j] = [42] ∨ D[j] = P[j]) := fun j h h2 h3 => by
            by_cases hj : j < k
            · exact HI.out j h h2 hj
            · obtain rfl : j = k := by omega
              exact hor
          clear HI
          generalize P[k] = X at *
          generalize D[k] = Y at *
          by_cases hX : X = [42]
          · have e1 : (X == [42]) = true := by rw [hX]; rfl
            clear hX hor
            go_wp2_with fail
            go_quiet (fail)
            go_wp2_with fail
            go_roundw
            case rel => exact ⟨k + 1, _, by omega, by go_num, HN, rfl⟩
            case measure => simp [intOf]; omega
          · have e1 : (X == [42]) = false := beq_eq_false_iff_ne.2 hX
            have e2 : (X == Y) = true := by rcases hor with h | h; exact absurd h hX; rw [h]; exact beq_self_eq_true X
            clear hX hor
            go_wp2_with fail
            go_quiet (fail)
            go_wp2_with fail
            go_roundw
            case rel => exact ⟨k + 1, _, by omega, by go_num, HN, rfl⟩
            case measure => simp [intOf]; omega
        · have HV : Hid (fitsL P H = false) := by
            show _ = _
            rw [HM.out]
            cases he : eqF D P with
            | false => rfl
            | true => exact absurd (HEQ.out.1 he k hDk hlt) hor
          clear HI
          generalize P[k] = X at *
          generalize D[k] = Y at *
          have e1 : (X == [42]) = false := beq_eq_false_iff_ne.2 (fun e => hor (.inl e))
          have e2 : (X == Y) = false := beq_eq_false_iff_ne.2 (fun e => hor (.inr e.symm))
          clear hor
          go_wp2_with fail
          go_quiet (fail)
          go_wp2_with fail
          go_ret
          exact ⟨ret_bool (by rw [HV.out]), below_drewM (below_drewM (Below.refl _ _) _) _⟩
      · obtain rfl : k = P.length := by omega
        have HV : Hid (fitsL P H = true) := by
          show _ = _
          rw [HM.out]
          exact HEQ.out.2 fun i h h2 => HI.out i h h2 h2
        clear HI
        go_wp2_with fail
        go_ret
        exact ⟨ret_bool (by rw [HV.out]), below_drewM (Below.refl _ _) _⟩
  · rw [decide_eq_false hle] at hm
    have hlei : (H.length : Int) < (P.length : Int) := by omega
    have HM := Lib.hid hm
    clear hm hP hH
    go_enter Tryz.func55, Tryz.ntmps55
    go_wp2_with fail
    go_ret
    exact ⟨ret_bool (by rw [HM.out]; rfl), Below.refl _ _⟩
end Go.Proofs.YtaijdjmkmhpmpaaGreatDoor
namespace Go.Proofs.YtaijdjmkmhpmpaaGreatDoor
open Go.RowKit
theorem join_snocS : ∀ {l : List (List UInt8)}, l ≠ [] → ∀ p, joinL 46 (l ++ [p]) = joinL 46 l ++ 46 :: p
  | [], h, _ => absurd rfl h
  | [q], _, p => rfl
  | q :: r :: l, _, p => by
    rw [List.cons_append, joinL_cons (by simp), joinL_cons (by simp), join_snocS (by simp)]
    simp
theorem dot_tail (a : List UInt8) : (ByteArray.mk a.toArray) ++ (ByteArray.mk #[46]) = ByteArray.mk (a ++ [46]).toArray := ba_join a [46]
attribute [local go_sem] dot_tail ba_append

set_option maxRecDepth 100000 in
set_option maxHeartbeats 2000000 in
theorem rmany_any (L H : List (List UInt8)) (v : Value) (b d : Nat) (w : World) (ht : Txt w v L) (hH : Txt w (.slice (some ⟨b, 0, none⟩) H.length d) H) (hl : L.length ≤ 1000000) (hs : ∀ p ∈ L, p.length ≤ 4000000000) (hHl : H.length ≤ 4000000001) :
    Calls Tryz.prog 30 #[v, .slice (some ⟨b, 0, none⟩) H.length d] w fun e w' => e = .returned (.int .i64 (manyL L H : Int)) ∧ Below w.heap.size w w' := by
  have hbw := Below.refl w.heap.size w
  have hm : manyL L H = manyF 1 (L.drop 0) H := rfl
  have HM := Lib.hid hm
  rcases ht with ⟨rfl, rfl⟩ | ⟨a, c, rfl, hc, hab, hcell⟩
  · have HV : Hid (manyL [] H = 1) := by
      show _ = _
      rfl
    clear hm hH
    go_enter Tryz.func30, Tryz.ntmps30
    go_wp2_with fail
    go_loop [5, 6, 7] (fun n i _ => i = .int .i64 0 ∧ n = .int .i64 1) (fun _ _ _ => 0)
    case atStart => exact ⟨rfl, rfl⟩
    case round =>
      obtain ⟨rfl, rfl⟩ := hrel
      go_wp2_with fail
      go_ret
      exact ⟨ret_int (by rw [HV.out]; rfl), hbw⟩
  · have HC := Lib.hid fun W (hW : Below w.heap.size w W) (k : Nat) (hk : k < L.length) => (hW.cell (p := a.add k) (by rw [Go.ChangeShapes.block_add]; exact hab (by omega))).trans (hcell k hk)
    have HS := Lib.hid hs
    have HH := Lib.hid hH
    clear hcell hs hm hH
    go_enter Tryz.func30, Tryz.ntmps30
    go_wp2_with fail
    go_loopw [5, 6, 7] (fun n i _ wr => ∃ k m : Nat, k ≤ L.length ∧ i = .int .i64 k ∧ n = .int .i64 m ∧ m ≤ 4000000001 ∧ Hid (manyL L H = manyF m (L.drop k) H) ∧ Below w.heap.size w wr) (fun _ i _ _ => L.length - (intOf i).toNat)
    case atStart => exact ⟨0, 1, Nat.zero_le _, rfl, rfl, by omega, HM, hbw⟩
    case round =>
      obtain ⟨k, m, hk, rfl, rfl, hm8, HK, hbr⟩ := hrel
      by_cases hlt : k < L.length
      · have hck := HC.out _ hbr k hlt
        have hcw := fun W hW => HC.out W hW k hlt
        have hstep := manyF_drop (n := m) (host := H) hlt
        have cb := rbare_any L[k] wr (HS.out _ (List.getElem_mem hlt))
        have ce := rexcept_any L[k]
        have hPn := sufP_ne L[k]
        have hPl := (sufP_le L[k]).2
        have hsk := HS.out _ (List.getElem_mem hlt)
        generalize L[k] = X at *
        have hP0 := List.length_pos_iff.2 hPn
        have cf := fun (g c2 : Nat) W ht hh => rfits_any (sufP X) H g c2 b d W ht hh hPn hHl
        have hHr := HH.out.below hbr (Nat.le_refl _)
        cases hf : fitsL (sufP X) H with
        | false =>
          rw [hf, if_neg (by simp)] at hstep
          rw [hf] at cf
          have HN : Hid (manyL L H = manyF m (L.drop (k + 1)) H) := by
            show _ = _
            rw [HK.out, hstep]
          clear hstep HK hf
          generalize sufP X = P at *
          go_wp2_with fail
          go_at_call 54
          refine cb.mono ?_
          rintro e w3 ⟨g, c2, rfl, htP, hb3⟩
          have cf3 := cf g c2 w3 htP (hHr.below hb3 (Nat.le_refl _))
          clear cf cb
          go_wp2_with fail
          go_at_call 55
          refine cf3.mono ?_
          rintro e w4 ⟨rfl, hb4⟩
          go_wp2_with fail
          go_roundw
          case rel => exact ⟨k + 1, m, by omega, by go_num, rfl, hm8, HN, hbr.trans ((hb3.trans (hb4.mono hb3.size)).mono hbr.size)⟩
          case measure => simp [intOf]; omega
        | true =>
          rw [hf, if_pos rfl] at hstep
          rw [hf] at cf
          cases hx : exceptB X with
          | true =>
            rw [hx, if_pos rfl] at hstep
            rw [hx] at ce
            have HV : Hid (manyL L H = (sufP X).length - 1) := by
              show _ = _
              rw [HK.out, hstep]
            clear hstep HK hf hx
            generalize sufP X = P at *
            go_wp2_with fail
            go_at_call 54
            refine cb.mono ?_
            rintro e w3 ⟨g, c2, rfl, htP, hb3⟩
            have cf3 := cf g c2 w3 htP (hHr.below hb3 (Nat.le_refl _))
            have hb3r := hbr.trans (hb3.mono hbr.size)
            clear cf cb
            go_wp2_with fail
            go_at_call 55
            refine cf3.mono ?_
            rintro e w4 ⟨rfl, hb4⟩
            have hb4r := hb3r.trans (hb4.mono hb3r.size)
            have hck4 := hcw _ hb4r
            go_wp2_with fail
            go_at_call 56
            refine (ce _).mono ?_
            rintro e w5 ⟨rfl, rfl⟩
            go_wp2_with fail
            go_ret
            exact ⟨ret_int (by rw [HV.out]; omega), hb4r⟩
          | false =>
            rw [hx, if_neg (by simp)] at hstep
            rw [hx] at ce
            have HN : Hid (manyL L H = manyF (max m (sufP X).length) (L.drop (k + 1)) H) := by
              show _ = _
              rw [HK.out, hstep]
            clear hstep HK hf hx
            generalize sufP X = P at *
            have hmx : (max (m : Int) (P.length : Int)) = ((max m P.length : Nat) : Int) := by omega
            have hmx8 : max m P.length ≤ 4000000001 := by omega
            go_wp2_with fail
            go_at_call 54
            refine cb.mono ?_
            rintro e w3 ⟨g, c2, rfl, htP, hb3⟩
            have cf3 := cf g c2 w3 htP (hHr.below hb3 (Nat.le_refl _))
            have hb3r := hbr.trans (hb3.mono hbr.size)
            clear cf cb
            go_wp2_with fail
            go_at_call 55
            refine cf3.mono ?_
            rintro e w4 ⟨rfl, hb4⟩
            have hb4r := hb3r.trans (hb4.mono hb3r.size)
            have hck4 := hcw _ hb4r
            go_wp2_with fail
            go_at_call 56
            refine (ce _).mono ?_
            rintro e w5 ⟨rfl, rfl⟩
            go_wp2_with fail
            go_roundw
            case rel => exact ⟨k + 1, max m P.length, by omega, by go_num, by first | rfl | (rw [hmx]) | go_num, hmx8, HN, hb4r⟩
            case measure => simp [intOf]; omega
      · obtain rfl : k = L.length := by omega
        have HV : Hid (manyL L H = m) := by
          show _ = _
          rw [HK.out, List.drop_length]; rfl
        go_wp2_with fail
        go_ret
        exact ⟨ret_int (by rw [HV.out]), hbr⟩

theorem join_take_le : ∀ (l : List (List UInt8)) (k : Nat), (joinL 46 (l.take k)).length ≤ (joinL 46 l).length
  | [], k => by simp
  | p :: l, 0 => by simp [joinL]
  | [p], k + 1 => by simp [joinL]
  | p :: q :: l, k + 1 => by
    have ih := join_take_le (q :: l) k
    rw [List.take_succ_cons]
    cases k with
    | zero => rw [List.take_zero, joinL_cons (l := q :: l) (by simp)]; simp [joinL]
    | succ k =>
      rw [List.take_succ_cons] at ih ⊢
      rw [joinL_cons (p := p) (l := q :: l.take k) (by simp), joinL_cons (p := p) (l := q :: l) (by simp), List.length_append, List.length_append, List.length_cons, List.length_cons]
      omega
theorem join_drop_le : ∀ (l : List (List UInt8)) (k : Nat), (joinL 46 (l.drop k)).length ≤ (joinL 46 l).length
  | [], k => by simp
  | p :: l, 0 => by simp
  | [p], k + 1 => by simp [joinL]
  | p :: q :: l, k + 1 => by
    have ih := join_drop_le (q :: l) k
    rw [List.drop_succ_cons, joinL_cons (l := q :: l) (by simp), List.length_append, List.length_cons]
    omega
theorem join_mem_le : ∀ {l : List (List UInt8)} {p : List UInt8}, p ∈ l → p.length ≤ (joinL 46 l).length
  | [], p, h => by simp at h
  | [q], p, h => by rw [List.mem_singleton] at h; subst h; simp [joinL]
  | q :: r :: l, p, h => by
    rw [joinL_cons (by simp), List.length_append, List.length_cons]
    rcases List.mem_cons.1 h with rfl | h
    · omega
    · have := join_mem_le h; omega
set_option maxRecDepth 100000 in
set_option maxHeartbeats 2000000 in
theorem rlast_any (L : List (List UInt8)) (n b d : Nat) (w : World) (hL : Txt w (.slice (some ⟨b, 0, none⟩) L.length d) L) (hn : n ≤ L.length) (h0 : 1 ≤ L.length) (hJ : (joinL 46 L).length ≤ 1000000) (hLl : L.length ≤ 1000001) :
    Calls Tryz.prog 29 #[.slice (some ⟨b, 0, none⟩) L.length d, .int .i64 (n : Int)] w fun e w' => e = .returned (.string ⟨(lastL L n).toArray⟩) ∧ w = w' := by
  obtain ⟨m, hm⟩ : ∃ m : Nat, m + n = L.length := ⟨L.length - n, by omega⟩
  have hmi : (L.length : Int) - (n : Int) = (m : Int) := by omega
  have hV : lastL L n = joinL 46 (L.drop m) := by unfold lastL; rw [show L.length - n = m by omega]
  obtain ⟨_, hLd, _, hcL⟩ := txt_cell hL (by omega)
  have HC : Hid (∀ (k : Nat) (hk : k < L.length), w.cell? ⟨b, k, none⟩ = some (.string ⟨(L[k]).toArray⟩)) := fun k hk => by
    have := hcL w (Below.refl _ _) k hk
    rwa [Nat.zero_add] at this
  have HT : Hid (∀ k, (joinL 46 ((L.drop m).take k)).length ≤ 1000000) := fun k => by
    have h1 := join_take_le (L.drop m) k
    have h2 := join_drop_le L m
    omega
  have HML : Hid (∀ (k : Nat) (hk : k < L.length), (L[k]).length ≤ 1000000) := fun k hk => by
    have := join_mem_le (List.getElem_mem hk); omega
  have HV := Lib.hid hV
  clear hV hcL hL
  go_enter Tryz.func29, Tryz.ntmps29
  go_wp2_with fail
  go_loop [5, 6] (fun s i => ∃ (k j : Nat) (S : List UInt8), j = m + k ∧ k ≤ n ∧ i = .int .i64 j ∧ s = .string ⟨S.toArray⟩ ∧ Hid (S = joinL 46 ((L.drop m).take k))) (fun _ i => L.length - (intOf i).toNat)
  case atStart => exact ⟨0, m, [], rfl, Nat.zero_le _, rfl, rfl, by show _ = _; rw [List.take_zero]; rfl⟩
  case round =>
    obtain ⟨k, j, S, hj, hk, rfl, rfl, HS⟩ := hrel
    have hSl : S.length ≤ 1000000 := by rw [HS.out]; exact HT.out k
    by_cases hlt : k < n
    · have hjL : j < L.length := by omega
      have hck := HC.out j hjL
      have hXl := HML.out j hjL
      have htk : (L.drop m).take (k + 1) = (L.drop m).take k ++ [L[j]] := by
        rw [List.take_succ_eq_append_getElem (by simp; omega)]
        congr 2
        simp [hj]
      by_cases hk0 : k = 0
      · have HN : Hid (S ++ L[j] = joinL 46 ((L.drop m).take (k + 1))) := by
          show _ = _
          rw [HS.out, htk, hk0, List.take_zero]; simp [joinL]
        have hg : ¬ (m : Int) < (j : Int) := by omega
        clear HS htk
        generalize L[j] = X at *
        have hs1 : ¬ 9223372036854775807 < S.length + X.length := by omega
        have hk1 : k + 1 ≤ n := by omega
        have hj1 : j + 1 = m + (k + 1) := by omega
        clear hk0 hj
        go_wp2_with fail
        go_round
        case rel => exact ⟨k + 1, j + 1, S ++ X, hj1, hk1, by go_num, rfl, HN⟩
        case measure => simp [intOf]; omega
      · have HN : Hid (S ++ 46 :: L[j] = joinL 46 ((L.drop m).take (k + 1))) := by
          show _ = _
          rw [HS.out, htk, join_snocS]
          intro e
          have := congrArg List.length e
          simp at this; omega
        have hg : (m : Int) < (j : Int) := by omega
        clear HS htk
        generalize L[j] = X at *
        have hs1 : ¬ 9223372036854775807 < S.length + 1 := by omega
        have hs2 : ¬ 9223372036854775807 < (S ++ [46]).length + X.length := by simp; omega
        have hk1 : k + 1 ≤ n := by omega
        have hj1 : j + 1 = m + (k + 1) := by omega
        clear hk0 hj
        go_wp2_with fail
        go_round
        case rel => exact ⟨k + 1, j + 1, S ++ 46 :: X, hj1, hk1, by go_num, rfl, HN⟩
        case measure => simp [intOf]; omega
    · obtain rfl : k = n := by omega
      have hjL : j = L.length := by omega
      have HR : Hid (lastL L k = S) := by
        show _ = _
        rw [HV.out, HS.out, List.take_of_length_le (by simp; omega)]
      have hjg : ¬ (j : Int) < (L.length : Int) := by omega
      clear hj hjL HS
      go_wp2_with fail
      go_ret
      exact ⟨ret_str (by rw [HR.out]), rfl⟩
end Go.Proofs.YtaijdjmkmhpmpaaGreatDoor
