/- The walk of the reference's told. -/
import Derived.Test.YtafieajameapiaaDoorEncMath
import Derived.Test.YtafieajameapiaaDoorPunyWalkB
set_option linter.unusedVariables false
set_option linter.unusedSimpArgs false
namespace Go.Proofs.YtafieajameapiaaDoor
open Go.RowKit

theorem ba_append (a b : List UInt8) : (ByteArray.mk a.toArray) ++ (ByteArray.mk b.toArray) = ByteArray.mk (a ++ b).toArray := by
  apply ByteArray.ext
  simp
theorem digs_take (d : Nat) (h : d < 36) : List.take 1 (List.drop d ([97, 98, 99, 100, 101, 102, 103, 104, 105, 106, 107, 108, 109, 110, 111, 112, 113, 114, 115, 116, 117, 118, 119, 120, 121, 122, 48, 49, 50, 51, 52, 53, 54, 55, 56, 57] : List UInt8)) = [UInt8.ofNat (digB d)] := by
  rw [List.drop_eq_getElem_cons (by exact h), List.take_succ_cons, List.take_zero, digs_get d h]

set_option maxRecDepth 100000 in
set_option maxHeartbeats 2000000 in
theorem rtold_any (n0 b : Nat) (w : World) (hn : n0 ≤ 8589934592) (hb : b ≤ 1000000) :
    Calls Tryd.prog 28 #[.int .i64 (n0 : Int), .int .i64 (b : Int)] w fun e w' => e = .returned (.string ⟨(toldL n0 b 36).toArray⟩) ∧ w = w' := by
  obtain ⟨T, hT⟩ : ∃ T, toldL n0 b 36 = T := ⟨_, rfl⟩
  rw [hT]
  have hTH := Lib.hid hT
  have hTl35 : T.length ≤ 35 := by rw [← hT]; exact toldL_bd hn
  clear hT
  go_enter Tryd.func28, Tryd.ntmps28
  go_wp2
  go_loop [0, 5, 7] (fun nv sv kv => ∃ (n k : Nat) (pre : List UInt8), nv = .int .i64 (n : Int) ∧ kv = .int .i64 (k : Int) ∧ sv = .string ⟨pre.toArray⟩ ∧ Hid (T = pre ++ toldL n b k) ∧ n ≤ 8589934592 ∧ k ≤ 36 * (8589934592 - n) + 36) (fun nv _ _ => (intOf nv).toNat)
  case atStart => exact ⟨n0, 36, [], rfl, rfl, rfl, by rw [← hTH.out]; exact rfl, hn, by omega⟩
  case round =>
    obtain ⟨m', k, pre, rfl, rfl, rfl, hT', hm', hk⟩ := hrel
    have hpl : pre.length ≤ 35 := by have := congrArg List.length hT'.out; rw [List.length_append] at this; omega
    have hbd := bnd_bd b k
    by_cases hlast : m' < bnd b k
    · have hl36 : m' < 36 := by omega
      have hTl : Hid (T = pre ++ [UInt8.ofNat (digB m')]) := by show _ = _; rw [hT'.out, told_last hlast]
      clear hT'
      go_wp2_with (go_at_call 49; refine (rbound_any b k _ (by omega) (by omega)).mono ?_; rintro e w' ⟨rfl, rfl⟩)
      go_ret
      refine ⟨?_, rfl⟩
      rw [ba_append, digs_take m' hl36, ← hTl.out]
      rfl
    · obtain ⟨t, ht⟩ : ∃ t, bnd b k = t := ⟨_, rfl⟩
      have ht1 : 1 ≤ t := by omega
      have ht2 : t ≤ 26 := by omega
      have htm : t ≤ m' := by omega
      have hTl : Hid (T = pre ++ UInt8.ofNat (digB (t + (m' - t) % (36 - t))) :: toldL ((m' - t) / (36 - t)) b (k + 36)) := by show _ = _; rw [hT'.out, told_more (by omega), ht]
      have hr0 : (0 : Int) ≤ ((m' : Int) - (t : Int)) % (36 - (t : Int)) := Int.emod_nonneg _ (by omega)
      have hr1 : ((m' : Int) - (t : Int)) % (36 - (t : Int)) < 36 - (t : Int) := Int.emod_lt_of_pos _ (by omega)
      have hr2 : ((m' : Int) - (t : Int)) % (36 - (t : Int)) = (((m' - t) % (36 - t) : Nat) : Int) := by
        rw [Int.natCast_emod, Int.natCast_sub (by omega), Int.natCast_sub (by omega)]; rfl
      have hq2 : ((m' : Int) - (t : Int)) / (36 - (t : Int)) = (((m' - t) / (36 - t) : Nat) : Int) := by
        rw [Int.natCast_ediv, Int.natCast_sub (by omega), Int.natCast_sub (by omega)]; rfl
      have hq3 : (m' - t) / (36 - t) ≤ m' - t := Nat.div_le_self _ _
      have q0 : (0 : Int) ≤ ((m' : Int) - (t : Int)) / (36 - (t : Int)) := Int.ediv_nonneg (by omega) (by omega)
      have q1 : ((m' : Int) - (t : Int)) / (36 - (t : Int)) ≤ (m' : Int) := by rw [hq2]; omega
      have hbt : ∀ w, Calls Tryd.prog 49 #[.int .i64 k, .int .i64 b] w fun e w' => e = .returned (.int .i64 (t : Int)) ∧ w = w' := fun w => by rw [← ht]; exact rbound_any b k w (by omega) (by omega)
      have hqi := Lib.hid hq2
      have hri := Lib.hid hr2
      clear hq2 hr2 hT' ht hbd hlast
      go_wp2_with (go_at_call 49; refine (hbt _).mono ?_; rintro e w' ⟨rfl, rfl⟩)
      have hd36 : t + (m' - t) % (36 - t) < 36 := by have := Nat.mod_lt (m' - t) (show 0 < 36 - t by omega); omega
      rw [ba_append, digs_take _ hd36, hqi.out]
      refine ⟨⟨(m' - t) / (36 - t), k + 36, _, rfl, rfl, rfl, ?_, by omega, by omega⟩, by simp [intOf]; omega⟩
      show _ = _
      rw [hTl.out]; simp
end Go.Proofs.YtafieajameapiaaDoor
