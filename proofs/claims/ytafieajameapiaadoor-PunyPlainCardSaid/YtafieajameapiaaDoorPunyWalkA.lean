/- The walks of the small functions of layer 2 (puny) and of their references: bounds, biases, digits, numbers. -/
import Derived.Test.YtafieajameapiaaDoorPunyMath
import Derived.Test.YtafieajameapiaaDoorShelf
import Derived.Deep.Light
import Derived.Lib.Bytealg
set_option linter.unusedVariables false
set_option linter.unusedSimpArgs false
namespace Go.Proofs.YtafieajameapiaaDoor
open Go.RowKit

theorem bound_any (b k : Nat) (w : World) (hb : b ≤ 1000000) (hk : k ≤ 1000000000000) :
    Calls Tryd.prog 48 #[.int .i64 b, .int .i64 k] w fun e w' => e = .returned (.int .i64 (bnd b k)) ∧ w = w' := by
  go_enter Tryd.func48, Tryd.ntmps48
  go_wp2
  all_goals (go_ret; refine ⟨ret_int ?_, rfl⟩; unfold bnd; omega)

theorem divb (n d s : Nat) : (0 : Int) ≤ (n : Int) / (d : Int) / (s : Int) ∧ (n : Int) / (d : Int) / (s : Int) ≤ (n : Int) ∧ (n : Int) / (d : Int) / (s : Int) = ((n / d / s : Nat) : Int) := by
  have h : (n : Int) / (d : Int) / (s : Int) = ((n / d / s : Nat) : Int) := by rw [Int.natCast_ediv, Int.natCast_ediv]
  have h2 : n / d / s ≤ n := Nat.le_trans (Nat.div_le_self _ _) (Nat.div_le_self _ _)
  rw [h]
  exact ⟨Int.natCast_nonneg _, Int.ofNat_le.2 h2, rfl⟩

theorem next_no (n signs : Nat) (w : World) (hn : n ≤ 8589934592) (hs : 1 ≤ signs) (hs2 : signs ≤ 8589934592) :
    Calls Tryd.prog 25 #[.int .i64 n, .int .i64 signs, .bool false] w fun e w' => e = .returned (.int .i64 (nextL n signs false)) ∧ w = w' := by
  have q2 : (0 : Int) ≤ (n : Int) / 2 / (signs : Int) ∧ (n : Int) / 2 / (signs : Int) ≤ (n : Int) ∧ (n : Int) / 2 / (signs : Int) = ((n / 2 / signs : Nat) : Int) := divb n 2 signs
  obtain ⟨q21, q22, q23⟩ := q2
  have Q2 := Lib.hid q23
  clear q23
  go_enter Tryd.func25, Tryd.ntmps25
  go_wp2
  go_loop [0, 8] (fun x y => ∃ m k : Nat, x = .int .i64 m ∧ y = .int .i64 k ∧ m ≤ 17179869184 ∧ k + 36 * m ≤ 1000000000000 ∧ Hid (adv m k = nextL n signs false)) (fun x _ => (intOf x).toNat)
  case atStart =>
    have h2 : n / 2 / signs ≤ n := Nat.le_trans (Nat.div_le_self _ _) (Nat.div_le_self _ _)
    exact ⟨n / 2 + n / 2 / signs, 0, by rw [Q2.out]; go_num, rfl, by omega, by omega, by simp [Hid, nextL]⟩
  case round =>
    obtain ⟨m, k, rfl, rfl, hm, hk, H⟩ := hrel
    have hq : (36 * (m : Int)) / ((m : Int) + 38) = ((36 * m / (m + 38) : Nat) : Int) := by rw [Int.natCast_ediv]; congr 1
    have hq1 : (0 : Int) ≤ (36 * (m : Int)) / ((m : Int) + 38) := by rw [hq]; exact Int.natCast_nonneg _
    have hq2 : (36 * (m : Int)) / ((m : Int) + 38) ≤ 36 := by
      rw [hq]
      have : 36 * m / (m + 38) ≤ 36 := Nat.div_le_of_le_mul (by omega)
      exact Int.ofNat_le.2 this
    have Hq := Lib.hid hq
    clear hq
    go_wp2
    · go_round
      case rel => exact ⟨m / 35, k + 36, by go_num, by go_num, by omega, by omega, by show _ = _; rw [← H.out]; exact (adv_big (by omega)).symm⟩
      case measure => simp [intOf]; omega
    · go_ret
      refine ⟨ret_int ?_, rfl⟩
      rw [← H.out, adv_small (by omega), Hq.out]
      rfl

theorem next_yes (n signs : Nat) (w : World) (hn : n ≤ 8589934592) (hs : 1 ≤ signs) (hs2 : signs ≤ 8589934592) :
    Calls Tryd.prog 25 #[.int .i64 n, .int .i64 signs, .bool true] w fun e w' => e = .returned (.int .i64 (nextL n signs true)) ∧ w = w' := by
  have q2 : (0 : Int) ≤ (n : Int) / 700 / (signs : Int) ∧ (n : Int) / 700 / (signs : Int) ≤ (n : Int) ∧ (n : Int) / 700 / (signs : Int) = ((n / 700 / signs : Nat) : Int) := divb n 700 signs
  obtain ⟨q21, q22, q23⟩ := q2
  have Q2 := Lib.hid q23
  clear q23
  go_enter Tryd.func25, Tryd.ntmps25
  go_wp2
  go_loop [0, 8] (fun x y => ∃ m k : Nat, x = .int .i64 m ∧ y = .int .i64 k ∧ m ≤ 17179869184 ∧ k + 36 * m ≤ 1000000000000 ∧ Hid (adv m k = nextL n signs true)) (fun x _ => (intOf x).toNat)
  case atStart =>
    have h2 : n / 700 / signs ≤ n := Nat.le_trans (Nat.div_le_self _ _) (Nat.div_le_self _ _)
    exact ⟨n / 700 + n / 700 / signs, 0, by rw [Q2.out]; go_num, rfl, by omega, by omega, by simp [Hid, nextL]⟩
  case round =>
    obtain ⟨m, k, rfl, rfl, hm, hk, H⟩ := hrel
    have hq : (36 * (m : Int)) / ((m : Int) + 38) = ((36 * m / (m + 38) : Nat) : Int) := by rw [Int.natCast_ediv]; congr 1
    have hq1 : (0 : Int) ≤ (36 * (m : Int)) / ((m : Int) + 38) := by rw [hq]; exact Int.natCast_nonneg _
    have hq2 : (36 * (m : Int)) / ((m : Int) + 38) ≤ 36 := by
      rw [hq]
      have : 36 * m / (m + 38) ≤ 36 := Nat.div_le_of_le_mul (by omega)
      exact Int.ofNat_le.2 this
    have Hq := Lib.hid hq
    clear hq
    go_wp2
    · go_round
      case rel => exact ⟨m / 35, k + 36, by go_num, by go_num, by omega, by omega, by show _ = _; rw [← H.out]; exact (adv_big (by omega)).symm⟩
      case measure => simp [intOf]; omega
    · go_ret
      refine ⟨ret_int ?_, rfl⟩
      rw [← H.out, adv_small (by omega), Hq.out]
      rfl

theorem next_any (n signs : Nat) (b : Bool) (w : World) (hn : n ≤ 8589934592) (hs : 1 ≤ signs) (hs2 : signs ≤ 8589934592) :
    Calls Tryd.prog 25 #[.int .i64 n, .int .i64 signs, .bool b] w fun e w' => e = .returned (.int .i64 (nextL n signs b)) ∧ w = w' := by
  cases b
  · exact next_no n signs w hn hs hs2
  · exact next_yes n signs w hn hs hs2

theorem digit_bits : ∀ c : Fin 256, 65 ≤ c.val ∧ c.val ≤ 90 → bits BinOp.or IntKind.u8 (c.val : Int) 32 = (c.val : Int) + 32 := by decide +kernel
theorem digit_idx : ∀ c : Fin 256, ¬ (65 ≤ c.val ∧ c.val ≤ 90) → Lib.indexByte [97, 98, 99, 100, 101, 102, 103, 104, 105, 106, 107, 108, 109, 110, 111, 112, 113, 114, 115, 116, 117, 118, 119, 120, 121, 122, 48, 49, 50, 51, 52, 53, 54, 55, 56, 57] (UInt8.ofNat c.val) = digI c.val := by decide +kernel
theorem digit_idx2 : ∀ c : Fin 256, 65 ≤ c.val ∧ c.val ≤ 90 → Lib.indexByte [97, 98, 99, 100, 101, 102, 103, 104, 105, 106, 107, 108, 109, 110, 111, 112, 113, 114, 115, 116, 117, 118, 119, 120, 121, 122, 48, 49, 50, 51, 52, 53, 54, 55, 56, 57] (UInt8.ofNat (c.val + 32)) = digI c.val := by decide +kernel
theorem digit_any (c : UInt8) (w : World) :
    Calls Tryd.prog 54 #[.int .u8 c.toNat] w fun e w' => e = .returned (.int .i64 (digI c.toNat)) ∧ w = w' := by
  have hlt := c.toNat_lt
  by_cases hc : 65 ≤ c.toNat ∧ c.toNat ≤ 90
  · have hb := Lib.hid (digit_bits ⟨c.toNat, hlt⟩ hc)
    have hi := Lib.hid (digit_idx2 ⟨c.toNat, hlt⟩ hc)
    obtain ⟨h1, h2⟩ := hc
    go_enter Tryd.func54, Tryd.ntmps54
    go_wp2_with fail
    rw [show bits BinOp.or IntKind.u8 (c.toNat : Int) 32 = _ from hb.out]
    refine (Tryd.strings_IndexByte _ _ _).mono ?_
    rintro e w' ⟨rfl, rfl⟩
    go_wp2_with fail
    go_ret
    exact ⟨ret_int (by first | (rw [show ((c.toNat : Int) + 32).toNat = c.toNat + 32 from by omega]; exact hi.out) | simpa using hi.out), rfl⟩
  · have hi := Lib.hid (digit_idx ⟨c.toNat, hlt⟩ hc)
    go_enter Tryd.func54, Tryd.ntmps54
    go_wp2_with fail
    all_goals
      refine (Tryd.strings_IndexByte _ _ _).mono ?_
      rintro e w' ⟨rfl, rfl⟩
      go_wp2_with fail
      go_ret
      exact ⟨ret_int (by first | (rw [show ((c.toNat : Int) + 32).toNat = c.toNat + 32 from by omega]; exact hi.out) | simpa using hi.out), rfl⟩

def readV (r : Option (Nat × List UInt8)) : Value := match r with
  | some (m, s) => .tuple #[.int .i64 m, .string ⟨s.toArray⟩, .bool true]
  | none => .tuple #[.int .i64 0, .string ⟨#[]⟩, .bool false]
def strLen : Value → Nat
  | .string b => b.size
  | _ => 0

theorem read_any (b : Nat) (s : List UInt8) (n : Nat) (w : World) (hb : b ≤ 1000000) (hs : s.length ≤ 65536) (hn : n ≤ 2147483648) :
    Calls Tryd.prog 38 #[.int .i64 b, .string ⟨s.toArray⟩, .int .i64 n] w fun e w' => e = .returned (readV (readL b s 36 1 n)) ∧ w = w' := by
  go_enter Tryd.func38, Tryd.ntmps38
  go_wp2
  go_loop [1, 2, 9, 10] (fun a2 a3 a4 a5 => ∃ (t : List UInt8) (m v k : Nat), a2 = .string ⟨t.toArray⟩ ∧ a3 = .int .i64 m ∧ a4 = .int .i64 v ∧ a5 = .int .i64 k ∧ m ≤ 2147483648 ∧ v ≤ 75161927645 ∧ k + 36 * t.length ≤ 36 + 36 * s.length ∧ Hid (readL b t k v m = readL b s 36 1 n)) (fun a2 _ _ _ => strLen a2)
  case atStart => exact ⟨s, n, 1, 36, rfl, rfl, rfl, rfl, hn, by omega, by omega, rfl⟩
  case round =>
    obtain ⟨t, m, v, k, rfl, rfl, rfl, rfl, hm, hv, hk, H⟩ := hrel
    cases t with
    | nil =>
      go_wp2_with fail
      go_ret3
      refine ⟨?_, rfl⟩
      rw [← H.out]
      rfl
    | cons c t =>
      simp only [List.length_cons] at hk
      have hd := digI_bd c.toNat
      obtain ⟨hd1, hd2⟩ := hd
      have hb2 := bnd_bd b k
      obtain ⟨hb3, hb4⟩ := hb2
      have hp1 : -75161927645 ≤ digI c.toNat * (v : Int) := by
        have := Int.mul_le_mul_of_nonneg_right hd1 (Int.natCast_nonneg v); omega
      have hp2 : digI c.toNat * (v : Int) ≤ 2630667467575 := by
        have := Int.mul_le_mul_of_nonneg_right hd2 (Int.natCast_nonneg v); omega
      have hp3 : 0 ≤ (v : Int) * (36 - (bnd b k : Int)) := Int.mul_nonneg (Int.natCast_nonneg v) (by omega)
      have hp4 : (v : Int) * (36 - (bnd b k : Int)) ≤ 2630667467575 := by
        have := Int.mul_le_mul_of_nonneg_left (show 36 - (bnd b k : Int) ≤ 35 by omega) (Int.natCast_nonneg v); omega
      go_wp2_with (first | (go_at_call 54; refine (digit_any c _).mono ?_; rintro e w' ⟨rfl, rfl⟩) | (go_at_call 48; refine (bound_any b k _ (by omega) (by omega)).mono ?_; rintro e w' ⟨rfl, rfl⟩))
      all_goals first
        | (go_ret3; refine ⟨?_, rfl⟩; rw [← H.out]; go_light
           first
             | (rw [readL_neg (by assumption)]; rfl)
             | (rw [readL_big (by assumption) (by assumption)]; rfl)
             | (rw [readL_end (by assumption) (by assumption) (by assumption)]; simp [readV, readL_sum (by assumption : 0 ≤ digI c.toNat)]))
        | (go_round
           case rel =>
             obtain ⟨g1, g2, g3⟩ := readL_weight (b := b) (k := k) (by assumption : 0 ≤ digI c.toNat) (by assumption) (by assumption)
             exact ⟨t, _, _, k + 36, rfl, by rw [readL_sum (by assumption)], by rw [g3], by go_num, by omega, g2, by omega, by show _ = _; rw [← H.out]; exact (readL_go (by assumption) (by assumption) (by assumption)).symm⟩
           case measure => simp [strLen, size_mk])
end Go.Proofs.YtafieajameapiaaDoor
