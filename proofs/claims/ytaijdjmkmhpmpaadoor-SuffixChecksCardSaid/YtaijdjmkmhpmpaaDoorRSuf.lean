/- The walks of the reference's except, bare, part, may and Check (suffix). -/
import Derived.Test.YtaijdjmkmhpmpaaDoorSufMath
import Derived.Test.YtaijdjmkmhpmpaaDoorTextArg
import Derived.Test.YtaijdjmkmhpmpaaDoorPartsD
import Derived.Test.YtaijdjmkmhpmpaaDoorLift
set_option linter.unusedVariables false
set_option linter.unusedSimpArgs false
namespace Go.Proofs.YtaijdjmkmhpmpaaDoor
open Go.RowKit

theorem rexcept_any (s : List UInt8) (w : World) :
    Calls Tryd.prog 20 #[.string ⟨s.toArray⟩] w fun e w' => e = .returned (.bool (exceptB s)) ∧ w = w' := by
  cases s with
  | nil =>
    go_enter Tryd.func20, Tryd.ntmps20
    go_wp2_with fail
    go_ret
    exact ⟨rfl, rfl⟩
  | cons c r =>
    have hm : exceptB (c :: r) = ((c.toNat : Int) == 33) := by
      unfold exceptB
      rw [List.head?_cons, Bool.eq_iff_iff, beq_iff_eq, beq_iff_eq, Option.some.injEq]
      constructor
      · intro h; rw [h]; rfl
      · intro h; exact UInt8.toNat_inj.1 (show c.toNat = 33 by omega)
    have hne : ((c :: r : List UInt8) == []) = false := rfl
    rw [hm]
    go_enter Tryd.func20, Tryd.ntmps20
    go_wp2_with fail
    go_ret
    exact ⟨rfl, rfl⟩
theorem rbare_any (s : List UInt8) (w : World) (hs : s.length ≤ 4000000000) :
    Calls Tryd.prog 19 #[.string ⟨s.toArray⟩] w fun e w' => ∃ g c, e = .returned (.slice (some ⟨g, 0, none⟩) (sufP s).length c) ∧ Txt w' (.slice (some ⟨g, 0, none⟩) (sufP s).length c) (sufP s) ∧ Below w.heap.size w w' := by
  have ce := rexcept_any s
  have cp := fun (x : List UInt8) (h : x.length ≤ 4000000000) W => rParts_any x W h
  have hP : sufP s = partsL 46 (bareL s) := rfl
  have hb : bareL s = if exceptB s then s.tail else s := rfl
  cases hx : exceptB s with
  | true =>
    obtain ⟨c, r, rfl⟩ := List.exists_cons_of_ne_nil (show s ≠ [] by intro e; rw [e] at hx; cases hx)
    rw [hx, if_pos rfl] at hb
    rw [hx] at ce
    have hb2 : bareL (c :: r) = r := hb
    rw [hb2] at hP
    have cp2 := cp r (by simp at hs; omega)
    have htk : List.take r.length r = r := List.take_length
    rw [hP]
    clear hb hb2 hP hx cp
    go_enter Tryd.func19, Tryd.ntmps19
    go_wp2_with fail
    go_at_call 20
    refine (ce _).mono ?_
    rintro e w1 ⟨rfl, rfl⟩
    go_wp2_with fail
    go_at_call 32
    refine (cp2 _).mono ?_
    rintro e w2 ⟨v, rfl, hown, hb2⟩
    go_wp2_with fail
    go_ret
    obtain ⟨g, c', rfl, ht⟩ := txt_conc hown rfl (partsL_ne 46 _)
    exact ⟨g, c', rfl, ht, hb2⟩
  | false =>
    rw [hx, if_neg (by simp)] at hb
    rw [hx] at ce
    rw [hb] at hP
    have cp2 := cp s hs
    rw [hP]
    clear hb hP hx cp
    go_enter Tryd.func19, Tryd.ntmps19
    go_wp2_with fail
    go_at_call 20
    refine (ce _).mono ?_
    rintro e w1 ⟨rfl, rfl⟩
    go_wp2_with fail
    go_at_call 32
    refine (cp2 _).mono ?_
    rintro e w2 ⟨v, rfl, hown, hb2⟩
    go_wp2_with fail
    go_ret
    obtain ⟨g, c', rfl, ht⟩ := txt_conc hown rfl (partsL_ne 46 _)
    exact ⟨g, c', rfl, ht, hb2⟩
theorem rdig1_any (c : UInt8) (w : World) :
    Calls Tryd.prog 33 #[.int .u8 (c.toNat : Int)] w fun e w' => e = .returned (.bool (decide (48 ≤ c.toNat) && decide (c.toNat ≤ 57))) ∧ w = w' := by
  by_cases h1 : 48 ≤ c.toNat <;> by_cases h2 : c.toNat ≤ 57
  all_goals
    have e1 : (48 : Int) ≤ (c.toNat : Int) ↔ 48 ≤ c.toNat := by omega
    have e2 : (c.toNat : Int) ≤ 57 ↔ c.toNat ≤ 57 := by omega
    go_enter Tryd.func33, Tryd.ntmps33
    go_wp2_with fail
    go_ret
    exact ⟨ret_bool (by simp [h1, h2]), rfl⟩
set_option maxRecDepth 100000 in
set_option maxHeartbeats 2000000 in
theorem rpart_any (x : List UInt8) (w : World) (hs : x.length ≤ 140737488351232) :
    Calls Tryd.prog 21 #[.string ⟨x.toArray⟩] w fun e w' => e = .returned (.bool (!oddB x)) ∧ w = w' := by
  have hm : oddB x = (x.isEmpty || (decide (63 < x.length) || !x.all labB)) := rfl
  have he : x.isEmpty = decide (x.length = 0) := by cases x <;> simp
  have HM := Lib.hid hm
  have HE := Lib.hid he
  clear hm he
  go_enter Tryd.func21, Tryd.ntmps21
  go_wp2_with fail
  go_loop [3, 4] (fun i _ => ∃ k : Nat, k ≤ x.length ∧ i = .int .i64 k ∧ Hid (∀ c ∈ x.take k, labB c = true)) (fun i _ => x.length - (intOf i).toNat)
  case atStart => exact ⟨0, Nat.zero_le _, rfl, Lib.hid (by simp)⟩
  case round =>
    obtain ⟨k, hk, rfl, HP⟩ := hrel
    by_cases hlt : k < x.length
    · have HN : Hid (labB x[k] = true → ∀ c ∈ x.take (k + 1), labB c = true) := fun h c hc => by
        rw [List.take_succ_eq_append_getElem hlt] at hc
        rcases List.mem_append.1 hc with hc | hc
        · exact HP.out c hc
        · rw [List.mem_singleton] at hc; subst hc; exact h
      have HBad : Hid (labB x[k] = false → (!oddB x) = false) := fun h => by
        have : x.all labB = false := by
          cases ha : x.all labB with
          | false => rfl
          | true => rw [List.all_eq_true] at ha; rw [ha _ (List.getElem_mem hlt)] at h; cases h
        rw [HM.out, this]
        simp
      have hlab := labB_iff (c := x[k])
      generalize hx : x[k] = c at *
      have hc255 := c.toNat_lt
      have cd := rdig1_any c
      by_cases hd : 48 ≤ c.toNat ∧ c.toNat ≤ 57
      · rw [decide_eq_true hd.1, decide_eq_true hd.2] at cd
        have hgood : labB c = true := hlab.2 (.inr (.inl hd))
        have HN2 := Lib.hid (HN.out hgood)
        clear HN HBad hlab
        go_wp2_with fail
        go_at_call 33
        refine (cd _).mono ?_
        rintro e w1 ⟨rfl, rfl⟩
        go_wp2_with fail
        go_round
        case rel => exact ⟨k + 1, by omega, by go_num, HN2⟩
        case measure => simp [intOf]; omega
      · have hdf : (decide (48 ≤ c.toNat) && decide (c.toNat ≤ 57)) = false := by
          rw [Bool.and_eq_false_iff, decide_eq_false_iff_not, decide_eq_false_iff_not]
          omega
        rw [hdf] at cd
        by_cases hg : labB c = true
        · have HN2 := Lib.hid (HN.out hg)
          have hor := hlab.1 hg
          clear HN HBad hlab
          by_cases p7 : (c.toNat : Int) = 45
          · have p7b : ((c.toNat : Int) != 45) = false := by rw [p7]; rfl
            clear p7 hor
            go_wp2_with fail
            go_at_call 33
            refine (cd _).mono ?_
            rintro e w1 ⟨rfl, rfl⟩
            go_wp2_with fail
            go_round
            case rel => exact ⟨k + 1, by omega, by go_num, HN2⟩
            case measure => simp [intOf]; omega
          · have p7b : ((c.toNat : Int) != 45) = true := by (rw [bne_iff_ne]; exact p7)
            have p3 : ¬ (c.toNat : Int) < 97 := by omega
            have p4 : ¬ (122 : Int) < (c.toNat : Int) := by omega
            go_wp2_with fail
            go_at_call 33
            refine (cd _).mono ?_
            rintro e w1 ⟨rfl, rfl⟩
            go_wp2_with fail
            go_round
            case rel => exact ⟨k + 1, by omega, by go_num, HN2⟩
            case measure => simp [intOf]; omega
        · have hgf : labB c = false := by simpa using hg
          have HB2 := Lib.hid (HBad.out hgf)
          have p7 : ¬ (c.toNat : Int) = 45 := fun e => hg (hlab.2 (.inr (.inr (by omega))))
          have p7b : ((c.toNat : Int) != 45) = true := by (rw [bne_iff_ne]; exact p7)
          have p34 : (c.toNat : Int) < 97 ∨ (122 : Int) < (c.toNat : Int) := by
            by_cases h : (c.toNat : Int) < 97
            · exact .inl h
            · by_cases h2 : (122 : Int) < (c.toNat : Int)
              · exact .inr h2
              · exact absurd (hlab.2 (.inl ⟨by omega, by omega⟩)) hg
          clear HN HBad hlab hg hgf
          rcases p34 with p3 | p4
          · go_wp2_with fail
            go_at_call 33
            refine (cd _).mono ?_
            rintro e w1 ⟨rfl, rfl⟩
            go_wp2_with fail
            go_ret
            exact ⟨ret_bool (by rw [HB2.out]), rfl⟩
          · have p3 : ¬ (c.toNat : Int) < 97 := by omega
            go_wp2_with fail
            go_at_call 33
            refine (cd _).mono ?_
            rintro e w1 ⟨rfl, rfl⟩
            go_wp2_with fail
            go_ret
            exact ⟨ret_bool (by rw [HB2.out]), rfl⟩
    · obtain rfl : k = x.length := by omega
      have hall : x.all labB = true := List.all_eq_true.2 fun c hc => HP.out c (by rw [List.take_length]; exact hc)
      have HV : Hid ((!oddB x) = (decide (1 ≤ x.length) && decide (x.length ≤ 63))) := by
        show _ = _
        rw [HM.out, HE.out, hall]
        by_cases h1 : x.length = 0
        · simp [h1]
        · by_cases h2 : x.length ≤ 63
          · rw [decide_eq_false h1, decide_eq_false (by omega), decide_eq_true (by omega), decide_eq_true h2]; rfl
          · rw [decide_eq_false h1, decide_eq_true (by omega), decide_eq_true (by omega), decide_eq_false h2]; rfl
      clear hall HP HM HE
      by_cases h1 : 1 ≤ x.length <;> by_cases h2 : x.length ≤ 63
      all_goals
        have e1 : (1 : Int) ≤ (x.length : Int) ↔ 1 ≤ x.length := by omega
        have e2 : (x.length : Int) ≤ 63 ↔ x.length ≤ 63 := by omega
        go_wp2_with fail
        go_ret
        exact ⟨ret_bool (by rw [HV.out]; simp [h1, h2]), rfl⟩

set_option maxRecDepth 100000 in
set_option maxHeartbeats 2000000 in
theorem rmay_any (s : List UInt8) (w : World) (hs : s.length ≤ 4000000000) :
    Calls Tryd.prog 13 #[.string ⟨s.toArray⟩] w fun e w' => e = .returned (.bool (mayL s)) ∧ Below w.heap.size w w' := by
  have cb := rbare_any s w hs
  have ce := rexcept_any s
  have hP := sufP_le s
  have hne := List.length_pos_iff.2 (sufP_ne s)
  have hm : mayL s = (!(exceptB s && decide ((sufP s).length < 2)) && (decide (restN s ≤ 253) && !(restP s).any oddB)) := rfl
  have hbl := bareL_len s
  have hep := fun h => exceptB_pos (s := s) h
  by_cases hx2 : exceptB s = true ∧ (sufP s).length < 2
  · obtain ⟨hx, h2⟩ := hx2
    rw [hx, decide_eq_true h2] at hm
    rw [hx] at ce
    have hs1 := hep hx
    have h2i : ((sufP s).length : Int) < 2 := by omega
    have HM := Lib.hid hm
    clear hm hbl hep hP
    generalize sufP s = P at *
    go_enter Tryd.func13, Tryd.ntmps13
    go_wp2_with fail
    go_at_call 19
    refine cb.mono ?_
    rintro e w1 ⟨g, c, rfl, ht, hb1⟩
    go_wp2_with fail
    go_at_call 20
    refine (ce _).mono ?_
    rintro e w2 ⟨rfl, rfl⟩
    go_wp2_with fail
    go_ret
    exact ⟨ret_bool (by rw [HM.out]; rfl), hb1⟩
  · have hx3 : (exceptB s && decide ((sufP s).length < 2)) = false := by
      cases hx : exceptB s with
      | false => rfl
      | true => rw [Bool.true_and, decide_eq_false (fun h => hx2 ⟨hx, h⟩)]
    rw [hx3, Bool.not_false, Bool.true_and] at hm
    have hodd : ∀ x ∈ restP s, ∀ W, Calls Tryd.prog 21 #[.string ⟨x.toArray⟩] W fun e W' => e = .returned (.bool (!oddB x)) ∧ W = W' := fun x hx W => rpart_any x W (by have := hP.1 x ((restP_le s).2 x hx); omega)
    have hway : ∀ n : Nat, n = restN s → (exceptB s = true ∧ starB s = false ∧ ¬ ((sufP s).length : Int) < 2 ∧ (s.length : Int) - 1 = (n : Int)) ∨ (exceptB s = false ∧ starB s = false ∧ ¬ (1 : Int) < ((sufP s).length : Int) ∧ s.length = n) ∨ (exceptB s = false ∧ starB s = false ∧ (1 : Int) < ((sufP s).length : Int) ∧ ((sufP s)[0] == [42]) = false ∧ s.length = n) ∨ (exceptB s = false ∧ starB s = true ∧ (s.length : Int) - 2 = (n : Int)) := by
      intro n hn
      have hrn : restN s = (bareL s).length - (if starB s then 2 else 0) := rfl
      cases hst : starB s with
      | true =>
        obtain ⟨h1, _, l, _, _, h4⟩ := star_bare hst
        refine .inr (.inr (.inr ⟨h1, rfl, ?_⟩))
        rw [hst, hbl, h1] at hrn
        have hl2 : 2 ≤ s.length := by rw [h4]; simp
        simp at hrn
        omega
      | false =>
        rw [hst, hbl] at hrn
        cases hx : exceptB s with
        | true =>
          rw [hx] at hrn
          have := hep hx
          simp at hrn
          exact .inl ⟨rfl, rfl, fun h => hx2 ⟨hx, by omega⟩, by omega⟩
        | false =>
          rw [hx] at hrn
          simp at hrn
          right
          by_cases h1 : 1 < (sufP s).length
          · refine .inr (.inl ⟨rfl, rfl, by omega, ?_, by omega⟩)
            unfold starB at hst
            rw [hx, decide_eq_true h1] at hst
            rw [List.head?_eq_getElem?, List.getElem?_eq_getElem hne] at hst
            rw [beq_eq_false_iff_ne]
            intro e
            rw [e] at hst
            simp at hst
          · exact .inl ⟨rfl, rfl, by omega, by omega⟩
    obtain ⟨n, hn⟩ : ∃ n, n = restN s := ⟨_, rfl⟩
    have hway2 := hway n hn
    clear hway
    rw [← hn] at hm
    clear hn hx3 hx2 hbl hep
    rcases hway2 with ⟨hx, hst, hw1, hw2⟩ | ⟨hx, hst, hw1, hw2⟩ | ⟨hx, hst, hw1, hw3, hw2⟩ | ⟨hx, hst, hw2⟩
    · have hrp : restP s = sufP s := by unfold restP; rw [if_neg (by rw [hst]; simp)]
      rw [hrp] at hm hodd
      rw [hx] at ce
      have HM := Lib.hid hm
      have HO := Lib.hid hodd
      have hPl := hP.2
      clear hm hodd hrp hst hx hP
      generalize hPP : sufP s = P at *
      go_enter Tryd.func13, Tryd.ntmps13
      go_wp2_with fail
      go_at_call 19
      refine cb.mono ?_
      rintro e w1 ⟨g, c, rfl, ht, hb1⟩
      have HC : Hid (∀ (k : Nat) (hk : k < P.length), w1.cell? ⟨g, k, none⟩ = some (.string ⟨(P[k]).toArray⟩)) := fun k hk => by
        have := (txt_cell ht hne).2.2.2 w1 (Below.refl _ _) k hk
        rwa [Nat.zero_add] at this
      have hPc := (txt_cell ht hne).2.1
      clear ht cb
      go_wp2_with fail
      go_at_call 20
      refine (ce _).mono ?_
      rintro e w2 ⟨rfl, rfl⟩
      go_wp2_with fail
      try rw [hw2]
      go_loop [5] (fun i => ∃ k : Nat, k ≤ P.length ∧ i = .int .i64 k ∧ Hid (∀ (j : Nat) (h : j < P.length), j < k → oddB P[j] = false)) (fun i => P.length - (intOf i).toNat)
      case atStart => exact ⟨0, Nat.zero_le _, rfl, Lib.hid (fun j _ h => absurd h (by omega))⟩
      case round =>
        obtain ⟨k, hk, rfl, HP⟩ := hrel
        by_cases hlt : k < P.length
        · have hck := HC.out k hlt
          have cd := HO.out _ (List.getElem_mem hlt)
          cases hp : oddB P[k] with
          | true =>
            have hany : P.any oddB = true := List.any_eq_true.2 ⟨_, List.getElem_mem hlt, hp⟩
            have HV : Hid (mayL s = false) := by
              show _ = _
              rw [HM.out, hany]; simp
            rw [hp] at cd
            clear hp HP hany
            generalize P[k] = X at *
            go_wp2_with fail
            go_at_call 21
            refine (cd _).mono ?_
            rintro e w3 ⟨rfl, rfl⟩
            go_wp2_with fail
            go_ret
            exact ⟨ret_bool (by rw [HV.out]), hb1⟩
          | false =>
            have HP2 : Hid (∀ (j : Nat) (h : j < P.length), j < k + 1 → oddB P[j] = false) := fun j h h1 => by
              by_cases hj : j < k
              · exact HP.out j h hj
              · obtain rfl : j = k := by omega
                exact hp
            rw [hp] at cd
            clear hp HP
            generalize P[k] = X at *
            go_wp2_with fail
            go_at_call 21
            refine (cd _).mono ?_
            rintro e w3 ⟨rfl, rfl⟩
            go_wp2_with fail
            go_round
            case rel => exact ⟨k + 1, by omega, by go_num, HP2⟩
            case measure => simp [intOf]; omega
        · obtain rfl : k = P.length := by omega
          have hany : P.any oddB = false := by
            rw [List.any_eq_false]
            intro x hx
            obtain ⟨j, hj, e⟩ := List.getElem_of_mem hx
            rw [← e, HP.out j hj hj]
            simp
          have HV : Hid (mayL s = decide (n ≤ 253)) := by
            show _ = _
            rw [HM.out, hany]; simp
          have e1 : (n : Int) ≤ 253 ↔ n ≤ 253 := by omega
          by_cases h253 : n ≤ 253
          all_goals
            go_wp2_with fail
            go_ret
            exact ⟨ret_bool (by rw [HV.out]; simp [h253]), hb1⟩
    · have hrp : restP s = sufP s := by unfold restP; rw [if_neg (by rw [hst]; simp)]
      rw [hrp] at hm hodd
      rw [hx] at ce
      have HM := Lib.hid hm
      have HO := Lib.hid hodd
      have hPl := hP.2
      clear hm hodd hrp hst hx hP
      generalize hPP : sufP s = P at *
      go_enter Tryd.func13, Tryd.ntmps13
      go_wp2_with fail
      go_at_call 19
      refine cb.mono ?_
      rintro e w1 ⟨g, c, rfl, ht, hb1⟩
      have HC : Hid (∀ (k : Nat) (hk : k < P.length), w1.cell? ⟨g, k, none⟩ = some (.string ⟨(P[k]).toArray⟩)) := fun k hk => by
        have := (txt_cell ht hne).2.2.2 w1 (Below.refl _ _) k hk
        rwa [Nat.zero_add] at this
      have hPc := (txt_cell ht hne).2.1
      clear ht cb
      go_wp2_with fail
      go_at_call 20
      refine (ce _).mono ?_
      rintro e w2 ⟨rfl, rfl⟩
      go_wp2_with fail
      try rw [hw2]
      go_loop [5] (fun i => ∃ k : Nat, k ≤ P.length ∧ i = .int .i64 k ∧ Hid (∀ (j : Nat) (h : j < P.length), j < k → oddB P[j] = false)) (fun i => P.length - (intOf i).toNat)
      case atStart => exact ⟨0, Nat.zero_le _, rfl, Lib.hid (fun j _ h => absurd h (by omega))⟩
      case round =>
        obtain ⟨k, hk, rfl, HP⟩ := hrel
        by_cases hlt : k < P.length
        · have hck := HC.out k hlt
          have cd := HO.out _ (List.getElem_mem hlt)
          cases hp : oddB P[k] with
          | true =>
            have hany : P.any oddB = true := List.any_eq_true.2 ⟨_, List.getElem_mem hlt, hp⟩
            have HV : Hid (mayL s = false) := by
              show _ = _
              rw [HM.out, hany]; simp
            rw [hp] at cd
            clear hp HP hany
            generalize P[k] = X at *
            go_wp2_with fail
            go_at_call 21
            refine (cd _).mono ?_
            rintro e w3 ⟨rfl, rfl⟩
            go_wp2_with fail
            go_ret
            exact ⟨ret_bool (by rw [HV.out]), hb1⟩
          | false =>
            have HP2 : Hid (∀ (j : Nat) (h : j < P.length), j < k + 1 → oddB P[j] = false) := fun j h h1 => by
              by_cases hj : j < k
              · exact HP.out j h hj
              · obtain rfl : j = k := by omega
                exact hp
            rw [hp] at cd
            clear hp HP
            generalize P[k] = X at *
            go_wp2_with fail
            go_at_call 21
            refine (cd _).mono ?_
            rintro e w3 ⟨rfl, rfl⟩
            go_wp2_with fail
            go_round
            case rel => exact ⟨k + 1, by omega, by go_num, HP2⟩
            case measure => simp [intOf]; omega
        · obtain rfl : k = P.length := by omega
          have hany : P.any oddB = false := by
            rw [List.any_eq_false]
            intro x hx
            obtain ⟨j, hj, e⟩ := List.getElem_of_mem hx
            rw [← e, HP.out j hj hj]
            simp
          have HV : Hid (mayL s = decide (n ≤ 253)) := by
            show _ = _
            rw [HM.out, hany]; simp
          have e1 : (n : Int) ≤ 253 ↔ n ≤ 253 := by omega
          by_cases h253 : n ≤ 253
          all_goals
            go_wp2_with fail
            go_ret
            exact ⟨ret_bool (by rw [HV.out]; simp [h253]), hb1⟩
    · have hrp : restP s = sufP s := by unfold restP; rw [if_neg (by rw [hst]; simp)]
      rw [hrp] at hm hodd
      rw [hx] at ce
      have HM := Lib.hid hm
      have HO := Lib.hid hodd
      have hPl := hP.2
      clear hm hodd hrp hst hx hP
      generalize hPP : sufP s = P at *
      go_enter Tryd.func13, Tryd.ntmps13
      go_wp2_with fail
      go_at_call 19
      refine cb.mono ?_
      rintro e w1 ⟨g, c, rfl, ht, hb1⟩
      have HC : Hid (∀ (k : Nat) (hk : k < P.length), w1.cell? ⟨g, k, none⟩ = some (.string ⟨(P[k]).toArray⟩)) := fun k hk => by
        have := (txt_cell ht hne).2.2.2 w1 (Below.refl _ _) k hk
        rwa [Nat.zero_add] at this
      have hPc := (txt_cell ht hne).2.1
      have hc0 := HC.out 0 hne
      generalize P[0] = Q at *
      clear ht cb
      go_wp2_with fail
      go_at_call 20
      refine (ce _).mono ?_
      rintro e w2 ⟨rfl, rfl⟩
      go_wp2_with fail
      clear hc0
      try rw [hw2]
      go_loop [5] (fun i => ∃ k : Nat, k ≤ P.length ∧ i = .int .i64 k ∧ Hid (∀ (j : Nat) (h : j < P.length), j < k → oddB P[j] = false)) (fun i => P.length - (intOf i).toNat)
      case atStart => exact ⟨0, Nat.zero_le _, rfl, Lib.hid (fun j _ h => absurd h (by omega))⟩
      case round =>
        obtain ⟨k, hk, rfl, HP⟩ := hrel
        by_cases hlt : k < P.length
        · have hck := HC.out k hlt
          have cd := HO.out _ (List.getElem_mem hlt)
          cases hp : oddB P[k] with
          | true =>
            have hany : P.any oddB = true := List.any_eq_true.2 ⟨_, List.getElem_mem hlt, hp⟩
            have HV : Hid (mayL s = false) := by
              show _ = _
              rw [HM.out, hany]; simp
            rw [hp] at cd
            clear hp HP hany
            generalize P[k] = X at *
            go_wp2_with fail
            go_at_call 21
            refine (cd _).mono ?_
            rintro e w3 ⟨rfl, rfl⟩
            go_wp2_with fail
            go_ret
            exact ⟨ret_bool (by rw [HV.out]), hb1⟩
          | false =>
            have HP2 : Hid (∀ (j : Nat) (h : j < P.length), j < k + 1 → oddB P[j] = false) := fun j h h1 => by
              by_cases hj : j < k
              · exact HP.out j h hj
              · obtain rfl : j = k := by omega
                exact hp
            rw [hp] at cd
            clear hp HP
            generalize P[k] = X at *
            go_wp2_with fail
            go_at_call 21
            refine (cd _).mono ?_
            rintro e w3 ⟨rfl, rfl⟩
            go_wp2_with fail
            go_round
            case rel => exact ⟨k + 1, by omega, by go_num, HP2⟩
            case measure => simp [intOf]; omega
        · obtain rfl : k = P.length := by omega
          have hany : P.any oddB = false := by
            rw [List.any_eq_false]
            intro x hx
            obtain ⟨j, hj, e⟩ := List.getElem_of_mem hx
            rw [← e, HP.out j hj hj]
            simp
          have HV : Hid (mayL s = decide (n ≤ 253)) := by
            show _ = _
            rw [HM.out, hany]; simp
          have e1 : (n : Int) ≤ 253 ↔ n ≤ 253 := by omega
          by_cases h253 : n ≤ 253
          all_goals
            go_wp2_with fail
            go_ret
            exact ⟨ret_bool (by rw [HV.out]; simp [h253]), hb1⟩
    · obtain ⟨_, h1, l, hl, hlne, hsl⟩ := star_bare hst
      have hrp : restP s = l := by unfold restP; rw [if_pos hst, hl]; rfl
      rw [hrp] at hm hodd
      rw [hx] at ce
      rw [hl] at cb h1 hP
      have HM := Lib.hid hm
      have HO := Lib.hid hodd
      have hll : (([42] : List UInt8) :: l).length = l.length + 1 := rfl
      rw [hll] at cb h1
      have hPl := hP.2
      rw [hll] at hPl
      have h1i : (1 : Int) < ((l.length + 1 : Nat) : Int) := by omega
      clear hm hodd hrp hst hx hP hl hsl hne
      go_enter Tryd.func13, Tryd.ntmps13
      go_wp2_with fail
      go_at_call 19
      refine cb.mono ?_
      rintro e w1 ⟨g, c, rfl, ht, hb1⟩
      have HC : Hid (∀ (k : Nat) (hk : k < l.length), w1.cell? ⟨g, 1 + k, none⟩ = some (.string ⟨(l[k]).toArray⟩)) := fun k hk => by
        have := (txt_cell ht (by simp)).2.2.2 w1 (Below.refl _ _) (k + 1) (by simpa using hk)
        rw [Nat.zero_add] at this
        rw [Nat.add_comm 1 k]
        exact this
      have hc0 : w1.cell? ⟨g, 0, none⟩ = some (.string ⟨#[42]⟩) := (txt_cell ht (by simp)).2.2.2 w1 (Below.refl _ _) 0 (by simp)
      have hPc : l.length + 1 ≤ c := (txt_cell ht (by simp)).2.1
      clear ht cb
      go_wp2_with fail
      go_at_call 20
      refine (ce _).mono ?_
      rintro e w2 ⟨rfl, rfl⟩
      go_wp2_with fail
      clear hc0
      try rw [hw2]
      go_loop [5] (fun i => ∃ k : Nat, k ≤ l.length ∧ i = .int .i64 k ∧ Hid (∀ (j : Nat) (h : j < l.length), j < k → oddB l[j] = false)) (fun i => l.length - (intOf i).toNat)
      case atStart => exact ⟨0, Nat.zero_le _, rfl, Lib.hid (fun j _ h => absurd h (by omega))⟩
      case round =>
        obtain ⟨k, hk, rfl, HP⟩ := hrel
        by_cases hlt : k < l.length
        · have hck := HC.out k hlt
          have cd := HO.out _ (List.getElem_mem hlt)
          cases hp : oddB l[k] with
          | true =>
            have hany : l.any oddB = true := List.any_eq_true.2 ⟨_, List.getElem_mem hlt, hp⟩
            have HV : Hid (mayL s = false) := by
              show _ = _
              rw [HM.out, hany]; simp
            rw [hp] at cd
            clear hp HP hany
            generalize l[k] = X at *
            go_wp2_with fail
            go_at_call 21
            refine (cd _).mono ?_
            rintro e w3 ⟨rfl, rfl⟩
            go_wp2_with fail
            go_ret
            exact ⟨ret_bool (by rw [HV.out]), hb1⟩
          | false =>
            have HP2 : Hid (∀ (j : Nat) (h : j < l.length), j < k + 1 → oddB l[j] = false) := fun j h h1 => by
              by_cases hj : j < k
              · exact HP.out j h hj
              · obtain rfl : j = k := by omega
                exact hp
            rw [hp] at cd
            clear hp HP
            generalize l[k] = X at *
            go_wp2_with fail
            go_at_call 21
            refine (cd _).mono ?_
            rintro e w3 ⟨rfl, rfl⟩
            go_wp2_with fail
            go_round
            case rel => exact ⟨k + 1, by omega, by go_num, HP2⟩
            case measure => simp [intOf]; omega
        · obtain rfl : k = l.length := by omega
          have hany : l.any oddB = false := by
            rw [List.any_eq_false]
            intro x hx
            obtain ⟨j, hj, e⟩ := List.getElem_of_mem hx
            rw [← e, HP.out j hj hj]
            simp
          have HV : Hid (mayL s = decide (n ≤ 253)) := by
            show _ = _
            rw [HM.out, hany]; simp
          have e1 : (n : Int) ≤ 253 ↔ n ≤ 253 := by omega
          by_cases h253 : n ≤ 253
          all_goals
            go_wp2_with fail
            go_ret
            exact ⟨ret_bool (by rw [HV.out]; simp [h253]), hb1⟩

set_option maxRecDepth 100000 in
theorem rcheck_any (L : List (List UInt8)) (v : Value) (w : World) (ht : Txt w v L) (hl : L.length ≤ 1000000) (hs : ∀ p ∈ L, p.length ≤ 4000000000) :
    Calls Tryd.prog 7 #[v] w fun e w' => e = .returned (.bool (checkL L)) ∧ Below w.heap.size w w' := by
  have hm : checkL L = (decide (L.length ≤ 1024) && !L.any fun s => !mayL s) := rfl
  have hbw := Below.refl w.heap.size w
  have HM := Lib.hid hm
  clear hm
  rcases ht with ⟨rfl, rfl⟩ | ⟨a, c, rfl, hc, hab, hcell⟩
  · have HV : Hid (checkL [] = true) := by
      show _ = _
      rfl
    go_enter Tryd.func7, Tryd.ntmps7
    go_wp2_with fail
    go_loop [3] (fun i => i = .int .i64 0) (fun _ => 0)
    case atStart => exact rfl
    case round =>
      obtain rfl := hrel
      go_wp2_with fail
      go_ret
      exact ⟨ret_bool (by rw [HV.out]), hbw⟩
  · have HC := Lib.hid fun W (hW : Below w.heap.size w W) (k : Nat) (hk : k < L.length) => (hW.cell (p := a.add k) (by rw [Go.ChangeShapes.block_add]; exact hab (by omega))).trans (hcell k hk)
    have HS := Lib.hid hs
    have HA : Hid ((∀ (j : Nat) (h : j < L.length), mayL L[j] = true) → (L.any fun s => !mayL s) = false) := fun h => by
      rw [List.any_eq_false]
      intro x hx
      obtain ⟨j, hj, e⟩ := List.getElem_of_mem hx
      rw [← e, h j hj]
      simp
    clear hcell hs
    by_cases h : L.length ≤ 1024
    · have hi : ¬ (1024 : Int) < (L.length : Int) := by omega
      go_enter Tryd.func7, Tryd.ntmps7
      go_wp2_with fail
      go_loopw [3] (fun i wr => ∃ k : Nat, k ≤ L.length ∧ i = .int .i64 k ∧ Hid (∀ (j : Nat) (h : j < L.length), j < k → mayL L[j] = true) ∧ Below w.heap.size w wr) (fun i _ => L.length - (intOf i).toNat)
      case atStart => exact ⟨0, Nat.zero_le _, rfl, Lib.hid (fun j _ h => absurd h (by omega)), hbw⟩
      case round =>
        obtain ⟨k, hk, rfl, HP, hbr⟩ := hrel
        by_cases hlt : k < L.length
        · have hck := HC.out _ hbr k hlt
          have cd := fun W => rmay_any L[k] W (HS.out _ (List.getElem_mem hlt))
          cases hp : mayL L[k] with
          | false =>
            have HV : Hid (checkL L = false) := by
              show _ = _
              have hany : (L.any fun s => !mayL s) = true := List.any_eq_true.2 ⟨_, List.getElem_mem hlt, by simp [hp]⟩
              rw [HM.out, hany]; simp
            rw [hp] at cd
            clear hp HP
            generalize L[k] = X at *
            go_wp2_with fail
            go_at_call 13
            refine (cd _).mono ?_
            rintro e w3 ⟨rfl, hb3⟩
            go_wp2_with fail
            go_ret
            exact ⟨ret_bool (by rw [HV.out]), hbr.trans (hb3.mono hbr.size)⟩
          | true =>
            have HP2 : Hid (∀ (j : Nat) (h : j < L.length), j < k + 1 → mayL L[j] = true) := fun j h h1 => by
              by_cases hj : j < k
              · exact HP.out j h hj
              · obtain rfl : j = k := by omega
                exact hp
            rw [hp] at cd
            clear hp HP
            generalize L[k] = X at *
            go_wp2_with fail
            go_at_call 13
            refine (cd _).mono ?_
            rintro e w3 ⟨rfl, hb3⟩
            go_wp2_with fail
            go_roundw
            case rel => exact ⟨k + 1, by omega, by go_num, HP2, hbr.trans (hb3.mono hbr.size)⟩
            case measure => simp [intOf]; omega
        · obtain rfl : k = L.length := by omega
          have HV : Hid (checkL L = true) := by
            show _ = _
            rw [HM.out, HA.out (fun j h => HP.out j h h), decide_eq_true h]; rfl
          go_wp2_with fail
          go_ret
          exact ⟨ret_bool (by rw [HV.out]), hbr⟩
    · have hi : (1024 : Int) < (L.length : Int) := by omega
      have HV : Hid (checkL L = false) := by
        show _ = _
        rw [HM.out, decide_eq_false h]; rfl
      go_enter Tryd.func7, Tryd.ntmps7
      go_wp2_with fail
      go_ret
      exact ⟨ret_bool (by rw [HV.out]), hbw⟩
end Go.Proofs.YtaijdjmkmhpmpaaDoor
