/- The law SuffixStar walked. -/
import Derived.Test.YtaijdjmkmhpmpaaGreatDoorSufAlive
import Derived.Test.YtaijdjmkmhpmpaaGreatDoorSufStarMath
import Derived.Test.YtaijdjmkmhpmpaaGreatDoorOpenB
import Derived.Test.YtaijdjmkmhpmpaaGreatDoorGSu5
import Derived.Deep.QuietTactic
import Derived.BigQuiet
set_option linter.unusedVariables false
set_option linter.unusedSimpArgs false
namespace Go.Proofs.YtaijdjmkmhpmpaaGreatDoor
open Go.RowKit

theorem alpha_one : ∀ n : Fin 26, List.take 1 (List.drop n.val [97, 98, 99, 100, 101, 102, 103, 104, 105, 106, 107, 108, 109, 110, 111, 112, 113, 114, 115, 116, 117, 118, 119, 120, 121, 122]) = [UInt8.ofNat (97 + n.val)] := by decide +kernel
theorem bang_onS (b : List UInt8) : (ByteArray.mk #[33]) ++ (ByteArray.mk b.toArray) = ByteArray.mk (33 :: b).toArray := ba_join [33] b
theorem zed_dot (b : List UInt8) : (ByteArray.mk #[122, 46]) ++ (ByteArray.mk b.toArray) = ByteArray.mk (122 :: 46 :: b).toArray := ba_join [122, 46] b
theorem dot_top (a : List UInt8) : (ByteArray.mk a.toArray) ++ (ByteArray.mk #[46, 116, 111, 112]) = ByteArray.mk (a ++ dotTop).toArray := ba_join a dotTop
attribute [local go_sem] bang_onS zed_dot dot_top ba_append
theorem letters_step {l : List UInt8} {k : Nat} (hk : k < l.length) (h30 : k < 30) : 97 :: (l.take (k + 1)).map (fun b => UInt8.ofNat (97 + b.toNat % 26)) = (97 :: (l.take k).map fun b => UInt8.ofNat (97 + b.toNat % 26)) ++ [UInt8.ofNat (97 + l[k].toNat % 26)] := by
  rw [List.take_succ_eq_append_getElem hk, List.map_append]; rfl
set_option maxRecDepth 100000 in
set_option maxHeartbeats 2000000 in
theorem letters_any (l : List UInt8) (v : Value) (w : World) (ht : ByT w v l) :
    Calls Tryz.prog 21 #[v] w fun e w' => e = .returned (.string ⟨(lettersL l).toArray⟩) ∧ Below w.heap.size w w' := by
  have hm : lettersL l = 97 :: (l.take 30).map fun b => UInt8.ofNat (97 + b.toNat % 26) := rfl
  have hcell : ∃ ad c, v = .slice ad l.length c ∧ ∀ W, Below w.heap.size w W → ∀ k (hk : k < l.length), ∃ a, ad = some a ∧ W.cell? (a.add k) = some (.int .u8 (l[k].toNat : Int)) := by
    rcases ht with ⟨rfl, rfl⟩ | ⟨a, c, rfl, hab, hcell⟩
    · exact ⟨none, 0, rfl, fun W _ k hk => absurd hk (by simp)⟩
    · exact ⟨some a, c, rfl, fun W hW k hk => ⟨a, rfl, (hW.cell (p := a.add k) (by rw [Go.ChangeShapes.block_add]; exact hab (by omega))).trans (hcell k hk)⟩⟩
  obtain ⟨ad, c, rfl, HC0⟩ := hcell
  have HC := Lib.hid HC0
  have HM := Lib.hid hm
  have hbw := Below.refl w.heap.size w
  clear hm ht HC0
  go_enter Tryz.func21, Tryz.ntmps21
  go_wp2_with fail
  go_loopw [3, 4] (fun s i wr => ∃ (k : Nat) (A : List UInt8), k ≤ l.length ∧ k ≤ 30 ∧ i = .int .i64 k ∧ s = .string ⟨A.toArray⟩ ∧ A.length = k + 1 ∧ Hid (A = 97 :: (l.take k).map fun b => UInt8.ofNat (97 + b.toNat % 26)) ∧ Below w.heap.size w wr) (fun _ i _ => 30 - (intOf i).toNat)
  case atStart => exact ⟨0, [97], Nat.zero_le _, by omega, rfl, rfl, rfl, rfl, hbw⟩
  case round =>
    obtain ⟨k, A, hk, hk30, rfl, rfl, hA, HA, hbr⟩ := hrel
    by_cases hlt : k < l.length
    · by_cases h30 : k < 30
      · obtain ⟨a, rfl, hck⟩ := HC.out _ hbr k hlt
        have HA2 : Hid (A ++ [UInt8.ofNat (97 + l[k].toNat % 26)] = 97 :: (l.take (k + 1)).map fun b => UInt8.ofNat (97 + b.toNat % 26)) := by
          show _ = _
          rw [letters_step hlt h30, HA.out]
        clear HA
        generalize l[k] = X at *
        obtain ⟨n, hn, hn26⟩ : ∃ n : Nat, X.toNat % 26 = n ∧ n < 26 := ⟨_, rfl, Nat.mod_lt _ (by omega)⟩
        have hX := X.toNat_lt
        have hni : Int.tmod (X.toNat : Int) 26 = (n : Int) := by rw [← hn]; rfl
        rw [hn] at HA2
        have he := alpha_one ⟨n, hn26⟩
        simp only at he
        generalize UInt8.ofNat (97 + n) = u at *
        have hsum : ¬ 9223372036854775807 < A.length + 1 := by omega
        have hw1 : IntKind.u8.wrap ((n : Int) + 1) = (n : Int) + 1 := by simp [IntKind.wrap, IntKind.signed, IntKind.bits]; omega
        go_wp2_with fail
        go_quiet (fail)
        have hbr2 := below_drewM hbr nq
        generalize wr.drewN nq = w2 at *
        go_wp2_with fail
        go_roundw
        case rel => exact ⟨k + 1, _, by omega, by omega, by go_num, rfl, by simp; omega, HA2, hbr2⟩
        case measure => simp [intOf]; omega
      · obtain rfl : k = 30 := by omega
        go_wp2_with fail
        go_ret
        exact ⟨by rw [HM.out, ← HA.out]; rfl, hbr⟩
    · obtain rfl : k = l.length := by omega
      have e : l.take 30 = l.take l.length := by rw [List.take_length, List.take_of_length_le hk30]
      go_wp2_with fail
      go_ret
      exact ⟨by rw [HM.out, e, ← HA.out]; rfl, hbr⟩
set_option maxRecDepth 100000 in
set_option maxHeartbeats 4000000 in
theorem sufstar_law (L0 : List UInt8) (v0 : Value) (L1 : List UInt8) (v1 : Value) (w : World) (h0 : ByT w v0 L0) (h1 : ByT w v1 L1) (hE : EnvH w) :
    Calls Tryz.prog 7 #[v0, v1] w fun e w' => e = .returned (.bool true) ∧ Below w.heap.size w w' := by
  have hbw := Below.refl w.heap.size w
  have ca := lift_hS w hE (fun W hEW => salive_any W hEW)
  have c0 := letters_any L0 v0 w h0
  have c1 := fun W (hW : Below w.heap.size w W) => letters_any L1 v1 W (h1.below hW)
  have hx := letters_let L0
  have hy := letters_let L1
  generalize lettersL L0 = x at *
  generalize lettersL L1 = y at *
  by_cases hxy : x = y
  · subst hxy
    have hq : (x == x) = true := beq_self_eq_true x
    clear h0 h1 hx hy
    go_enter Tryz.func7, Tryz.ntmps7
    go_wp2_with fail
    go_at_call 21
    refine c0.mono ?_
    rintro e w1 ⟨rfl, hb1⟩
    go_wp2_with fail
    go_at_call 21
    refine (c1 _ hb1).mono ?_
    rintro e w2 ⟨rfl, hb2⟩
    replace hb2 := hb1.trans (hb2.mono hb1.size)
    go_wp2_with (go_at_call 17; refine (ca _ (by assumption)).mono ?_; rintro e w3 ⟨rfl, hb3⟩)
    go_ret
    exact ⟨rfl, by assumption⟩
  · have hq : (x == y) = false := beq_eq_false_iff_ne.2 hxy
    obtain ⟨s1, s2, s3, s4⟩ := star_suffix x y hx hy hxy hx.le hy.le
    have hR : ∀ W : World, Txt (W.alloc (.cells #[.string ⟨#[42, 46, 116, 111, 112]⟩, .string ⟨(33 :: x ++ dotTop).toArray⟩] 9)) (.slice (some ⟨W.heap.size, 0, none⟩) 2 2) (starR x) := fun W => lit_txt W (starR x) _ rfl
    have hRs : ∀ p ∈ starR x, p.length ≤ 4000000000 := fun p hp => by
      have := hx.le
      simp only [starR, List.mem_cons, List.not_mem_nil, or_false] at hp
      rcases hp with rfl | rfl
      · decide
      · simp [dotTop, topL]; omega
    have hlx := hx.le
    have hly := hy.le
    have a1 := fun (v : Value) W (hT : Txt W v (starR x)) (hW : Below w.heap.size w W) => suffix_any (starR x) (y ++ dotTop) v W (hE.below hW) hT (by simp [starR]) hRs (by simp [dotTop, topL]; omega)
    have a2 := fun (v : Value) W (hT : Txt W v (starR x)) (hW : Below w.heap.size w W) => suffix_any (starR x) (x ++ dotTop) v W (hE.below hW) hT (by simp [starR]) hRs (by simp [dotTop, topL]; omega)
    have a3 := fun (v : Value) W (hT : Txt W v (starR x)) (hW : Below w.heap.size w W) => own_any (starR x) (122 :: 46 :: y ++ dotTop) v W (hE.below hW) hT (by simp [starR]) hRs (by simp [dotTop, topL]; omega)
    have a4 := fun (v : Value) W (hT : Txt W v (starR x)) (hW : Below w.heap.size w W) => own_any (starR x) (122 :: 46 :: x ++ dotTop) v W (hE.below hW) hT (by simp [starR]) hRs (by simp [dotTop, topL]; omega)
    rw [s1] at a1
    rw [s2] at a2
    rw [s3] at a3
    rw [s4] at a4
    simp only [sufV] at a1 a2 a3 a4
    clear s1 s2 s3 s4 h0 h1 hx hy hRs
    simp only [dotTop, topL, List.cons_append] at a1 a2 a3 a4 hR
    have q1 : (y ++ [46, 116, 111, 112] == y ++ [46, 116, 111, 112]) = true := beq_self_eq_true _
    have q2 : (x ++ [46, 116, 111, 112] == x ++ [46, 116, 111, 112]) = true := beq_self_eq_true _
    have q3 : (122 :: 46 :: (y ++ [46, 116, 111, 112]) == 122 :: 46 :: (y ++ [46, 116, 111, 112])) = true := beq_self_eq_true _
    have z1 : ¬ 9223372036854775807 < 1 + x.length := by omega
    have z2 : ¬ 9223372036854775807 < (33 :: x).length + 4 := by simp; omega
    have z3 : ¬ 9223372036854775807 < y.length + 4 := by omega
    have z4 : ¬ 9223372036854775807 < x.length + 4 := by omega
    have z5 : ¬ 9223372036854775807 < 2 + y.length := by omega
    have z6 : ¬ 9223372036854775807 < 2 + x.length := by omega
    have z7 : ¬ 9223372036854775807 < (122 :: 46 :: y).length + 4 := by simp; omega
    have z8 : ¬ 9223372036854775807 < (122 :: 46 :: x).length + 4 := by simp; omega
    go_enter Tryz.func7, Tryz.ntmps7
    go_wp2_with fail
    go_at_call 21
    refine c0.mono ?_
    rintro e w1 ⟨rfl, hb1⟩
    go_wp2_with fail
    go_at_call 21
    refine (c1 _ hb1).mono ?_
    rintro e w2 ⟨rfl, hb2⟩
    replace hb2 := hb1.trans (hb2.mono hb1.size)
    go_wp2_with fail
    go_at_call 17
    refine (ca _ (by assumption)).mono ?_
    rintro e w3 ⟨rfl, hb3⟩
    have hT3 := hR w3
    have hb4 := hb3.alloc hb3.size (.cells #[.string ⟨#[42, 46, 116, 111, 112]⟩, .string ⟨(33 :: (x ++ [46, 116, 111, 112])).toArray⟩] 9)
    go_wp2_with fail
    go_at_call 12
    refine (a1 _ _ hT3 hb4).mono ?_
    rintro e w5 ⟨rfl, hb5⟩
    have hT5 := hT3.below hb5 (Nat.le_refl _)
    replace hb5 := hb4.trans (hb5.mono hb4.size)
    clear a1 hT3 hb4
    go_wp2_with fail
    go_at_call 12
    refine (a2 _ _ hT5 hb5).mono ?_
    rintro e w6 ⟨rfl, hb6⟩
    have hT6 := hT5.below hb6 (Nat.le_refl _)
    replace hb6 := hb5.trans (hb6.mono hb5.size)
    clear a2 hT5
    go_wp2_with fail
    go_at_call 15
    refine (a3 _ _ hT6 hb6).mono ?_
    rintro e w7 ⟨rfl, hb7⟩
    have hT7 := hT6.below hb7 (Nat.le_refl _)
    replace hb7 := hb6.trans (hb7.mono hb6.size)
    clear a3 hT6
    go_wp2_with fail
    go_at_call 15
    refine (a4 _ _ hT7 hb7).mono ?_
    rintro e w8 ⟨rfl, hb8⟩
    replace hb8 := hb7.trans (hb8.mono hb7.size)
    clear a4 hT7
    go_wp2_with fail
    go_ret
    exact ⟨rfl, hb8⟩
end Go.Proofs.YtaijdjmkmhpmpaaGreatDoor
