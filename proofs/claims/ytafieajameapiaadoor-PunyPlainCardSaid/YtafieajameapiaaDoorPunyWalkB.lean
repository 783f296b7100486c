/- The walks of the small functions of the reference of layer 2: bounds, biases, digits, numbers. -/
import Derived.Test.YtafieajameapiaaDoorPunyWalkA
set_option linter.unusedVariables false
set_option linter.unusedSimpArgs false
namespace Go.Proofs.YtafieajameapiaaDoor
open Go.RowKit

theorem rbound_any (b k : Nat) (w : World) (hb : b ≤ 1000000) (hk : k ≤ 1000000000000) :
    Calls Tryd.prog 49 #[.int .i64 k, .int .i64 b] w fun e w' => e = .returned (.int .i64 (bnd b k)) ∧ w = w' := by
  go_enter Tryd.func49, Tryd.ntmps49
  go_wp2
  all_goals (go_ret; refine ⟨ret_int ?_, rfl⟩; unfold bnd; omega)

theorem rnext_no (n signs : Nat) (w : World) (hn : n ≤ 8589934592) (hs : 1 ≤ signs) (hs2 : signs ≤ 8589934592) :
    Calls Tryd.prog 29 #[.int .i64 n, .int .i64 signs, .bool false] w fun e w' => e = .returned (.int .i64 (nextL n signs false)) ∧ w = w' := by
  have q2 : (0 : Int) ≤ (n : Int) / 2 / (signs : Int) ∧ (n : Int) / 2 / (signs : Int) ≤ (n : Int) ∧ (n : Int) / 2 / (signs : Int) = ((n / 2 / signs : Nat) : Int) := divb n 2 signs
  obtain ⟨q21, q22, q23⟩ := q2
  have Q2 := Lib.hid q23
  clear q23
  go_enter Tryd.func29, Tryd.ntmps29
  go_wp2
  go_loop [0, 7] (fun x y => ∃ m k : Nat, x = .int .i64 m ∧ y = .int .i64 k ∧ m ≤ 17179869184 ∧ k + 36 * m ≤ 1000000000000 ∧ Hid (adv m k = nextL n signs false)) (fun x _ => (intOf x).toNat)
  case atStart =>
    have h2 : n / 2 / signs ≤ n := Nat.le_trans (Nat.div_le_self _ _) (Nat.div_le_self _ _)
    exact ⟨n / 2 + n / 2 / signs, 0, by rw [Q2.out]; go_num, rfl, by omega, by omega, by simp [Hid, nextL]⟩
  case round =>
    obtain ⟨m, k, rfl, rfl, hm, hk, H⟩ := hrel
    have hq : (36 * (m : Int)) / ((m : Int) + 38) = ((36 * m / (m + 38) : Nat) : Int) := by rw [Int.natCast_ediv]; congr 1
    have hq1 : (0 : Int) ≤ (36 * (m : Int)) / ((m : Int) + 38) := by rw [hq]; exact Int.natCast_nonneg _
    have hq2 : (36 * (m : Int)) / ((m : Int) + 38) ≤ 36 := by
      rw [hq]
      have : 36 * m / (m + 38) ≤ 36 := Nat.div_le_of_le_mul (by omega)
      exact Int.ofNat_le.2 this
    have Hq := Lib.hid hq
    clear hq
    go_wp2
    · go_round
      case rel => exact ⟨m / 35, k + 36, by go_num, by go_num, by omega, by omega, by show _ = _; rw [← H.out]; exact (adv_big (by omega)).symm⟩
      case measure => simp [intOf]; omega
    · go_ret
      refine ⟨ret_int ?_, rfl⟩
      rw [← H.out, adv_small (by omega), Hq.out]
      rfl

theorem rnext_yes (n signs : Nat) (w : World) (hn : n ≤ 8589934592) (hs : 1 ≤ signs) (hs2 : signs ≤ 8589934592) :
    Calls Tryd.prog 29 #[.int .i64 n, .int .i64 signs, .bool true] w fun e w' => e = .returned (.int .i64 (nextL n signs true)) ∧ w = w' := by
  have q2 : (0 : Int) ≤ (n : Int) / 700 / (signs : Int) ∧ (n : Int) / 700 / (signs : Int) ≤ (n : Int) ∧ (n : Int) / 700 / (signs : Int) = ((n / 700 / signs : Nat) : Int) := divb n 700 signs
  obtain ⟨q21, q22, q23⟩ := q2
  have Q2 := Lib.hid q23
  clear q23
  go_enter Tryd.func29, Tryd.ntmps29
  go_wp2
  go_loop [0, 7] (fun x y => ∃ m k : Nat, x = .int .i64 m ∧ y = .int .i64 k ∧ m ≤ 17179869184 ∧ k + 36 * m ≤ 1000000000000 ∧ Hid (adv m k = nextL n signs true)) (fun x _ => (intOf x).toNat)
  case atStart =>
    have h2 : n / 700 / signs ≤ n := Nat.le_trans (Nat.div_le_self _ _) (Nat.div_le_self _ _)
    exact ⟨n / 700 + n / 700 / signs, 0, by rw [Q2.out]; go_num, rfl, by omega, by omega, by simp [Hid, nextL]⟩
  case round =>
    obtain ⟨m, k, rfl, rfl, hm, hk, H⟩ := hrel
    have hq : (36 * (m : Int)) / ((m : Int) + 38) = ((36 * m / (m + 38) : Nat) : Int) := by rw [Int.natCast_ediv]; congr 1
    have hq1 : (0 : Int) ≤ (36 * (m : Int)) / ((m : Int) + 38) := by rw [hq]; exact Int.natCast_nonneg _
    have hq2 : (36 * (m : Int)) / ((m : Int) + 38) ≤ 36 := by
      rw [hq]
      have : 36 * m / (m + 38) ≤ 36 := Nat.div_le_of_le_mul (by omega)
      exact Int.ofNat_le.2 this
    have Hq := Lib.hid hq
    clear hq
    go_wp2
    · go_round
      case rel => exact ⟨m / 35, k + 36, by go_num, by go_num, by omega, by omega, by show _ = _; rw [← H.out]; exact (adv_big (by omega)).symm⟩
      case measure => simp [intOf]; omega
    · go_ret
      refine ⟨ret_int ?_, rfl⟩
      rw [← H.out, adv_small (by omega), Hq.out]
      rfl

theorem rnext_any (n signs : Nat) (b : Bool) (w : World) (hn : n ≤ 8589934592) (hs : 1 ≤ signs) (hs2 : signs ≤ 8589934592) :
    Calls Tryd.prog 29 #[.int .i64 n, .int .i64 signs, .bool b] w fun e w' => e = .returned (.int .i64 (nextL n signs b)) ∧ w = w' := by
  cases b
  · exact rnext_no n signs w hn hs hs2
  · exact rnext_yes n signs w hn hs hs2

theorem rdigit_any (c : UInt8) (w : World) :
    Calls Tryd.prog 70 #[.int .u8 c.toNat] w fun e w' => e = .returned (.int .i64 (digI c.toNat)) ∧ w = w' := by
  have hlt := c.toNat_lt
  go_enter Tryd.func70, Tryd.ntmps70
  go_wp2
  all_goals (go_ret; refine ⟨ret_int ?_, rfl⟩; go_light; unfold digI; grind)

/-- What the reference's number hands back: the place behind it in the place of what is behind. -/
def numberV (s : List UInt8) (r : Option (Nat × List UInt8)) : Value := match r with
  | some (m, t) => .tuple #[.int .i64 m, .int .i64 ((s.length - t.length : Nat) : Int), .bool true]
  | none => .tuple #[.int .i64 0, .int .i64 0, .bool false]

theorem number_any (b : Nat) (s : List UInt8) (i n : Nat) (w : World) (hb : b ≤ 1000000) (hs : s.length ≤ 65536) (hi : i ≤ s.length) (hn : n ≤ 2147483648) :
    Calls Tryd.prog 51 #[.string ⟨s.toArray⟩, .int .i64 i, .int .i64 n, .int .i64 b] w fun e w' => e = .returned (numberV s (readL b (s.drop i) 36 1 n)) ∧ w = w' := by
  go_enter Tryd.func51, Tryd.ntmps51
  go_wp2
  go_loop [1, 2, 11, 12] (fun a2 a3 a4 a5 => ∃ (j m v k : Nat), a2 = .int .i64 j ∧ a3 = .int .i64 m ∧ a4 = .int .i64 v ∧ a5 = .int .i64 k ∧ j ≤ s.length ∧ m ≤ 2147483648 ∧ v ≤ 75161927645 ∧ k ≤ 36 + 36 * j ∧ Hid (readL b (s.drop j) k v m = readL b (s.drop i) 36 1 n)) (fun a2 _ _ _ => s.length - (intOf a2).toNat)
  case atStart => exact ⟨i, n, 1, 36, rfl, rfl, rfl, rfl, hi, hn, by omega, by omega, rfl⟩
  case round =>
    obtain ⟨j, m, v, k, rfl, rfl, rfl, rfl, hj, hm, hv, hk, H⟩ := hrel
    by_cases hlt : j < s.length
    · have e := List.drop_eq_getElem_cons hlt
      have E := Lib.hid e
      clear e
      have hd := digI_bd s[j].toNat
      obtain ⟨hd1, hd2⟩ := hd
      have hb2 := bnd_bd b k
      obtain ⟨hb3, hb4⟩ := hb2
      have hp1 : -75161927645 ≤ digI s[j].toNat * (v : Int) := by
        have := Int.mul_le_mul_of_nonneg_right hd1 (Int.natCast_nonneg v); omega
      have hp2 : digI s[j].toNat * (v : Int) ≤ 2630667467575 := by
        have := Int.mul_le_mul_of_nonneg_right hd2 (Int.natCast_nonneg v); omega
      have hp3 : 0 ≤ (v : Int) * (36 - (bnd b k : Int)) := Int.mul_nonneg (Int.natCast_nonneg v) (by omega)
      have hp4 : (v : Int) * (36 - (bnd b k : Int)) ≤ 2630667467575 := by
        have := Int.mul_le_mul_of_nonneg_left (show 36 - (bnd b k : Int) ≤ 35 by omega) (Int.natCast_nonneg v); omega
      have hl : s.length - (s.drop (j + 1)).length = j + 1 := by simp; omega
      have HL := Lib.hid hl
      clear hl
      go_wp2_with (first | (go_at_call 70; refine (rdigit_any s[j] _).mono ?_; rintro e w' ⟨rfl, rfl⟩) | (go_at_call 49; refine (rbound_any b k _ (by omega) (by omega)).mono ?_; rintro e w' ⟨rfl, rfl⟩))
      all_goals first
        | (go_ret3; refine ⟨?_, rfl⟩; rw [← H.out, E.out]; go_light
           first
             | (rw [readL_neg (by first | assumption | omega)]; rfl)
             | (rw [readL_big (by first | assumption | omega) (by first | assumption | omega)]; rfl)
             | (rw [readL_end (by first | assumption | omega) (by first | assumption | omega) (by first | assumption | omega)]; simp only [numberV, HL.out, readL_sum (c := s[j]) (by first | assumption | omega)]; rfl))
        | (go_round
           case rel =>
             obtain ⟨g1, g2, g3⟩ := readL_weight (b := b) (c := s[j]) (k := k) (w := v) (n := m) (by first | assumption | omega) (by first | assumption | omega) (by first | assumption | omega)
             exact ⟨j + 1, _, _, k + 36, by go_num, by rw [readL_sum (by first | assumption | omega)], by rw [g3], by go_num, by omega, Nat.le_succ_of_le g1, g2, by omega, by show _ = _; rw [← H.out, E.out]; exact (readL_go (by first | assumption | omega) (by first | assumption | omega) (by first | assumption | omega)).symm⟩
           case measure => simp [intOf]; omega)
    · obtain rfl : j = s.length := by omega
      go_wp2
      go_ret3
      refine ⟨?_, rfl⟩
      rw [← H.out, List.drop_length]
      rfl
end Go.Proofs.YtafieajameapiaaDoor
