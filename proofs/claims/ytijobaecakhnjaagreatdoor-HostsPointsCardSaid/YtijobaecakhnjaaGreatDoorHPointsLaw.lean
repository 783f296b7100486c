/- The law HostsPoints walked. -/
import Derived.Test.YtijobaecakhnjaaGreatDoorHAlive
import Derived.Test.YtijobaecakhnjaaGreatDoorPost
import Derived.Test.YtijobaecakhnjaaGreatDoorOpen
import Derived.Test.YtijobaecakhnjaaGreatDoorTextArg
import Derived.Test.YtijobaecakhnjaaGreatDoorGText
set_option linter.unusedVariables false
set_option linter.unusedSimpArgs false
namespace Go.Proofs.YtijobaecakhnjaaGreatDoor
open Go.RowKit
open Go.Sort
attribute [local go_sem] dot_behind ba_append

theorem cut_first (c : UInt8) (X : List UInt8) (W : World) : (Instr.slice 9 (.string ⟨(c :: X).toArray⟩) (some (.int .i64 1)) none none).run Tryz.prog W = .ok (.string ⟨X.toArray⟩) W := by
  simp [go_sem, Tryz.underlying9]
  intro h; omega
/-- Parts, each behind a point. -/
def dotsL : List (List UInt8) → List UInt8
  | [] => []
  | p :: l => 46 :: p ++ dotsL l
theorem dotsL_snoc : ∀ (l : List (List UInt8)) (p : List UInt8), dotsL (l ++ [p]) = dotsL l ++ [46] ++ p
  | [], p => by simp [dotsL]
  | q :: l, p => by simp [dotsL, dotsL_snoc l p]
theorem dotsL_join : ∀ {l : List (List UInt8)}, l ≠ [] → dotsL l = 46 :: joinL 46 l
  | [], h => absurd rfl h
  | [p], _ => by simp [dotsL, joinL]
  | p :: q :: l, _ => by
    rw [joinL_cons (by simp), dotsL, dotsL_join (l := q :: l) (by simp)]
    rfl
theorem dotsL_len : ∀ l : List (List UInt8), (dotsL l).length = l.length + sumL l
  | [] => rfl
  | p :: l => by simp [dotsL, sumL, dotsL_len l]; omega
/-- What is known of the parts so far. -/
structure PartsOk (L : List (List UInt8)) (r : List (List UInt8)) (k : Nat) : Prop where
  len : r.length = k
  le : k ≤ L.length
  lab : ∀ (i : Nat) (h : i < L.length) (h2 : i < r.length), labelL L[i] = (r[i], 0)
  sign : ∀ (i : Nat) (h : i < L.length), i < k → ∀ c ∈ L[i], partB c = true
  few : ∀ p ∈ r, p.length ≤ 63
theorem PartsOk.step {L r : List (List UInt8)} {k : Nat} (h : PartsOk L r k) (hk : k < L.length) (y : List UInt8) (hy : labelL L[k] = (y, 0)) (hs : ∀ c ∈ L[k], partB c = true) : PartsOk L (r ++ [y]) (k + 1) := by
  refine ⟨by simp [h.len], by omega, fun i h1 h2 => ?_, fun i h1 h2 => ?_, fun p hp => ?_⟩
  · by_cases hi : i < k
    · rw [List.getElem_append_left (by rw [h.len]; exact hi)]
      exact h.lab i h1 (by rw [h.len]; exact hi)
    · obtain rfl : i = k := by simp [h.len] at h2; omega
      rw [List.getElem_append_right (by rw [h.len]; exact Nat.le_refl _)]
      simp [h.len, hy]
  · by_cases hi : i < k
    · exact h.sign i h1 hi
    · obtain rfl : i = k := by omega
      exact hs
  · rcases List.mem_append.1 hp with hp | hp
    · exact h.few p hp
    · rw [List.mem_singleton] at hp
      subst hp
      have := labelL_le (s := L[k])
      rw [hy] at this
      exact this
theorem sumL_few : ∀ {l : List (List UInt8)} {n : Nat}, (∀ p ∈ l, p.length ≤ n) → sumL l ≤ n * l.length
  | [], n, _ => by simp [sumL]
  | p :: l, n, h => by
    have h1 := h p List.mem_cons_self
    have h2 := sumL_few (l := l) (n := n) (fun q hq => h q (List.mem_cons_of_mem _ hq))
    rw [sumL, List.length_cons, Nat.mul_add]; omega
theorem PartsOk.done {L r : List (List UInt8)} (h : PartsOk L r L.length) (h0 : L ≠ []) (hs : ∀ p ∈ L, p.length ≤ 1000) (hw : (dotsL r).length ≤ 254) (hf : (fourL (joinL 46 r)).1 = false) : hostL (joinL 46 L) = some (joinL 46 r) := by
  have hr : r ≠ [] := fun e => by
    have h1 := h.len
    rw [e] at h1
    exact h0 (List.length_eq_zero_iff.1 h1.symm)
  rw [dotsL_join hr] at hw
  refine points_host h0 h.len.symm h.lab hs (fun p hp => ?_) (by simp at hw; omega) hf
  obtain ⟨i, hi, e⟩ := List.getElem_of_mem hp
  rw [← e]
  exact h.sign i hi hi

set_option maxRecDepth 100000 in
set_option maxHeartbeats 8000000 in
theorem hpoints_law (L : List (List UInt8)) (v : Value) (w : World) (ht : Txt w v L) (hl : L.length ≤ 140737488351232) (hs : ∀ p ∈ L, p.length ≤ 140737488351232) (hE : EnvH w) :
    Calls Tryz.prog 8 #[v] w fun e w' => e = .returned (.bool true) ∧ Below w.heap.size w w' := by
  have hbw := Below.refl w.heap.size w
  have ca := lift_h w hE (fun W hEW => halive_any W hEW)
  have ct := fun W (hW : Below w.heap.size w W) => texts_size_any L v W (ht.below hW (Nat.le_refl _)) hl hs
  rcases ht with ⟨rfl, rfl⟩ | ⟨a, c, rfl, hc, hab, hcell⟩
  · clear ct
    go_enter Tryz.func8, Tryz.ntmps8
    go_wp2_with (go_at_call 20; refine (ca _ (by assumption)).mono ?_; rintro e w1 ⟨rfl, hb1⟩)
    go_ret
    exact ⟨rfl, by assumption⟩
  · by_cases h0 : L.length = 0
    · obtain rfl := List.length_eq_zero_iff.1 h0
      clear ct hcell
      go_enter Tryz.func8, Tryz.ntmps8
      go_wp2_with (go_at_call 20; refine (ca _ (by assumption)).mono ?_; rintro e w1 ⟨rfl, hb1⟩)
      go_ret
      exact ⟨rfl, by assumption⟩
    · have h0i : ¬ (L.length : Int) = 0 := by omega
      have h0b : ((L.length : Int) == 0) = false := beq_eq_false_iff_ne.2 h0i
      by_cases h20 : 20 < L.length
      · have h20i : (20 : Int) < (L.length : Int) := by omega
        clear ct hcell
        go_enter Tryz.func8, Tryz.ntmps8
        go_wp2_with (go_at_call 20; refine (ca _ (by assumption)).mono ?_; rintro e w1 ⟨rfl, hb1⟩)
        go_ret
        exact ⟨rfl, by assumption⟩
      · have h20i : ¬ (20 : Int) < (L.length : Int) := by omega
        by_cases hz : 1000 < textsN L
        · have hzi : (1000 : Int) < (textsN L : Int) := by omega
          generalize textsN L = N at *
          clear hcell
          go_enter Tryz.func8, Tryz.ntmps8
          go_wp2_with (first | (go_at_call 20; refine (ca _ (by assumption)).mono ?_; rintro e w1 ⟨rfl, hb1⟩) | (go_at_call 24; refine (ct _ (by assumption)).mono ?_; rintro e w2 ⟨rfl, rfl⟩))
          go_ret
          exact ⟨rfl, by assumption⟩
        · have hzi : ¬ (1000 : Int) < (textsN L : Int) := by omega
          have hsum := textsN_sum (L := L) (by omega)
          have hs2 : ∀ p ∈ L, p.length ≤ 1000 := fun p hp => by have := sumL_mem hp; omega
          have hsl : sumL L ≤ 1000 := by omega
          have hLS : L.length + sumL L ≤ 1000 := by omega
          have HS := Lib.hid hs2
          have HCL := Lib.hid fun W (hW : Below w.heap.size w W) (k : Nat) (hk : k < L.length) => (hW.cell (p := a.add k) (by rw [Go.ChangeShapes.block_add]; exact hab (by omega))).trans (hcell k hk)
          have clab := fun (s : List UInt8) (h : s.length ≤ 1000) => lift_h w hE (fun W hEW => label_any s W h hEW.t.tabs)
          generalize textsN L = N at *
          clear hcell hs hs2 hsum
          go_enter Tryz.func8, Tryz.ntmps8
          go_wp2_with (first | (go_at_call 20; refine (ca _ (by assumption)).mono ?_; rintro e w1 ⟨rfl, hb1⟩) | (go_at_call 24; refine (ct _ (by assumption)).mono ?_; rintro e w2 ⟨rfl, rfl⟩))
          clear ct ca
          go_loopw [3, 4, 5, 6, 7, 8, 9] (fun al wa i _ _ _ _ wr => ∃ (k : Nat) (r : List (List UInt8)) (A B : List UInt8), i = .int .i64 k ∧ Hid (PartsOk L r k) ∧ al = .string ⟨A.toArray⟩ ∧ wa = .string ⟨B.toArray⟩ ∧ Hid (A = dotsL (L.take k)) ∧ Hid (B = dotsL r) ∧ k ≤ L.length ∧ Below w.heap.size w wr) (fun _ _ i _ _ _ _ _ => L.length - (intOf i).toNat)
          case atStart => exact ⟨0, [], [], [], rfl, Lib.hid ⟨rfl, Nat.zero_le _, fun i _ h => by simp at h, fun i _ h => absurd h (by omega), by simp⟩, rfl, rfl, rfl, rfl, Nat.zero_le _, by assumption⟩
          case round =>
            obtain ⟨k, r, A, B, rfl, HOK, rfl, rfl, HA, HB, hk, hbr⟩ := hrel
            have hA : A.length ≤ 1020 := by
              have h1 := sumL_take_le L k
              rw [HA.out, dotsL_len, List.length_take]; omega
            have hB : B.length ≤ 1300 := by
              have h1 := sumL_few HOK.out.few
              rw [HB.out, dotsL_len, HOK.out.len]
              rw [HOK.out.len] at h1
              omega
            by_cases hlt : k < L.length
            · have hck := HCL.out _ hbr k hlt
              have hcw := fun W hW => HCL.out W hW k hlt
              have hsk := HS.out _ (List.getElem_mem hlt)
              have cl := clab L[k] hsk
              by_cases he : (labelL L[k]).2 = 0
              · obtain ⟨y, hy⟩ : ∃ y, labelL L[k] = (y, 0) := ⟨_, Prod.ext rfl he⟩
                have hyl := labelL_le (s := L[k])
                rw [hy] at cl hyl
                simp only [encV] at cl hyl
                have HStep := Lib.hid fun hs => HOK.out.step hlt y hy hs
                have HA2 : Hid (A ++ 46 :: L[k] = dotsL (L.take (k + 1))) := by
                  show _ = _
                  rw [HA.out, List.take_succ_eq_append_getElem hlt, dotsL_snoc]; simp
                have HB2 : Hid (B ++ 46 :: y = dotsL (r ++ [y])) := by
                  show _ = _
                  rw [HB.out, dotsL_snoc]; simp
                clear hy he
                generalize L[k] = X at *
                have hs1 : ¬ 9223372036854775807 < A.length + 1 := by omega
                have hs2 : ¬ 9223372036854775807 < (A ++ [46]).length + X.length := by simp; omega
                have hs3 : ¬ 9223372036854775807 < B.length + 1 := by omega
                have hs4 : ¬ 9223372036854775807 < (B ++ [46]).length + y.length := by simp; omega
                go_wp2_with fail
                go_at_call 25
                refine (cl _ (by assumption)).mono ?_
                rintro e w3 ⟨rfl, hb3⟩
                have hck3 := hcw _ hb3
                clear cl hck hcw
                go_wp2_with fail
                go_loop [8, 9] (fun j _ => ∃ m : Nat, m ≤ X.length ∧ j = .int .i64 m ∧ Hid (∀ c ∈ X.take m, partB c = true)) (fun j _ => X.length - (intOf j).toNat)
                case atStart => exact ⟨0, Nat.zero_le _, rfl, Lib.hid (by simp)⟩
                case round =>
                  obtain ⟨m, hm, rfl, HP⟩ := hrel
                  by_cases hm2 : m < X.length
                  · have HN : Hid (partB X[m] = true → ∀ c ∈ X.take (m + 1), partB c = true) := fun h c hc => by
                      rw [List.take_succ_eq_append_getElem hm2] at hc
                      rcases List.mem_append.1 hc with hc | hc
                      · exact HP.out c hc
                      · rw [List.mem_singleton] at hc; subst hc; exact h
                    generalize hx : X[m] = c at *
                    have hc255 := c.toNat_lt
                    by_cases p1 : (c.toNat : Int) = 46 <;> by_cases p2 : (c.toNat : Int) = 37 <;> by_cases p3 : (c.toNat : Int) < 97 <;> by_cases p4 : (122 : Int) < (c.toNat : Int) <;> by_cases p5 : (c.toNat : Int) < 48 <;> by_cases p6 : (57 : Int) < (c.toNat : Int) <;> by_cases p7 : (c.toNat : Int) = 45 <;> by_cases p8 : (c.toNat : Int) < 128 <;> first | (exfalso; omega) | skip
                    all_goals
                      first | (have p7b : ((c.toNat : Int) != 45) = true := by (rw [bne_iff_ne]; exact p7)) | skip
                      first | (have p1b : ((c.toNat : Int) == 46) = false := by (rw [beq_eq_false_iff_ne]; exact p1)) | skip
                      first | (have p2b : ((c.toNat : Int) == 37) = false := by (rw [beq_eq_false_iff_ne]; exact p2)) | skip
                      go_wp2_with fail
                      first
                        | (go_ret; exact ⟨rfl, by assumption⟩)
                        | (go_round
                           case rel => exact ⟨m + 1, by omega, by go_num, HN.out (partB_iff.2 (by omega))⟩
                           case measure => simp [intOf]; omega)
                  · obtain rfl : m = X.length := by omega
                    have hall : ∀ c ∈ X, partB c = true := fun c hc => HP.out c (by rw [List.take_length]; exact hc)
                    have HOK2 := Lib.hid (HStep.out hall)
                    clear hall HP HStep
                    go_wp2_with fail
                    go_roundw
                    case rel => exact ⟨k + 1, r ++ [y], A ++ 46 :: X, B ++ 46 :: y, by go_num, HOK2, rfl, rfl, HA2, HB2, by omega, by assumption⟩
                    case measure => simp [intOf]; omega
              · have hei : ¬ ((labelL L[k]).2 : Int) = 0 := by omega
                simp only [encV] at cl
                generalize labelL L[k] = y at *
                obtain ⟨y1, y2⟩ := y
                generalize L[k] = X at *
                simp only at cl hei
                go_wp2_with fail
                go_at_call 25
                refine (cl _ (by assumption)).mono ?_
                rintro e w3 ⟨rfl, hb3⟩
                go_wp2_with fail
                go_ret
                exact ⟨rfl, by assumption⟩
            · obtain rfl : k = L.length := by omega
              have hr : r ≠ [] := fun e => by
                have h1 := HOK.out.len
                rw [e] at h1
                simp at h1; omega
              have hLne : L ≠ [] := fun e => by rw [e] at h0; simp at h0
              have eA : A = 46 :: joinL 46 L := by rw [HA.out, List.take_length, dotsL_join hLne]
              have eB : B = 46 :: joinL 46 r := by rw [HB.out, dotsL_join hr]
              have hdone := HOK.out.done hLne (fun p hp => HS.out p hp)
              rw [← HB.out, eB] at hdone
              subst eA eB
              simp only [List.length_cons] at hA hB hdone
              have cf := lift_h w hE (fun W hEW => four_any (joinL 46 r) W hEW.t.env (by omega))
              have hWl : (joinL 46 r).length ≤ 1299 := by omega
              have hXl : (joinL 46 L).length ≤ 1019 := by omega
              have hXl2 : (joinL 46 L).length ≤ 1000 := by
                have h1 := dotsL_len L
                rw [dotsL_join hLne, List.length_cons] at h1
                omega
              have htk1 : List.take (joinL 46 r).length (joinL 46 r) = joinL 46 r := List.take_length
              have htk2 : List.take (joinL 46 L).length (joinL 46 L) = joinL 46 L := List.take_length
              generalize hW : joinL 46 r = R at *
              generalize hX : joinL 46 L = X at *
              generalize fourL R = q at *
              obtain ⟨lk, er, n⟩ := q
              rw [fourV_mk, addrV_adC] at cf
              simp only at cf hdone
              have hBl := b16_len n
              have hi := adC_info false hBl
              have hz := zeroA_size false hBl
              have h1 := adC_one false (b16 n)
              generalize b16 n = B at *
              clear HA HB HOK HS HCL clab hW hX
              cases lk with
              | true =>
                clear hdone
                go_wp2_with fail
                go_at_call 26
                refine (cf _ (by assumption)).mono ?_
                rintro e w4 ⟨rfl, hb4⟩
                have hb5 : Below w.heap.size w ((w4.alloc (.cells zeroA 47)).setRow w4.heap.size (adC false B)) := below_row (hb4.alloc hb4.size _) hb4.size _
                go_wp2_with (refine wpList_store_row (o := ⟨none, .store 47 (.tmp 10) (.tmp 107), _, _, _, _⟩) rfl 47 (.tmp 10) _ rfl w4.heap.size (adC false B) rfl rfl 47 zeroA (heap_alloc_new w4 _) hi hz h1 ?_)
                go_ret
                exact ⟨rfl, by assumption⟩
              | false =>
                by_cases h254 : 254 < R.length + 1
                · clear hdone
                  have h254i : (254 : Int) < (R.length : Int) + 1 := by omega
                  go_wp2_with fail
                  go_at_call 26
                  refine (cf _ (by assumption)).mono ?_
                  rintro e w4 ⟨rfl, hb4⟩
                  have hb5 : Below w.heap.size w ((w4.alloc (.cells zeroA 47)).setRow w4.heap.size (adC false B)) := below_row (hb4.alloc hb4.size _) hb4.size _
                  go_wp2_with (refine wpList_store_row (o := ⟨none, .store 47 (.tmp 10) (.tmp 107), _, _, _, _⟩) rfl 47 (.tmp 10) _ rfl w4.heap.size (adC false B) rfl rfl 47 zeroA (heap_alloc_new w4 _) hi hz h1 ?_)
                  go_ret
                  exact ⟨rfl, by assumption⟩
                · have h254i : ¬ (254 : Int) < (R.length : Int) + 1 := by omega
                  have hhost : hostL X = some R := hdone (by simp; omega) rfl
                  clear hdone
                  go_wp2_with fail
                  go_at_call 26
                  refine (cf _ (by assumption)).mono ?_
                  rintro e w4 ⟨rfl, hb4⟩
                  have hb5 : Below w.heap.size w ((w4.alloc (.cells zeroA 47)).setRow w4.heap.size (adC false B)) := below_row (hb4.alloc hb4.size _) hb4.size _
                  go_wp2_with (refine wpList_store_row (o := ⟨none, .store 47 (.tmp 10) (.tmp 107), _, _, _, _⟩) rfl 47 (.tmp 10) _ rfl w4.heap.size (adC false B) rfl rfl 47 zeroA (heap_alloc_new w4 _) hi hz h1 ?_)
                  generalize (w4.alloc (.cells zeroA 47)).setRow w4.heap.size (adC false B) = w5 at *
                  have ci := fun W (hW : Below w5.heap.size w5 W) => his_yes hhost hXl2 W (hE.below (hb5.trans (hW.mono hb5.size))) W (Below.refl _ _)
                  have kl := fun d os => quiet_reg (w1 := w5) ci d os
                  have hq1 := cut_first 46 X
                  have hq2 := cut_first 46 R
                  refine wp_region_quiet_below (by kernel_rfl) (by kernel_rfl) ?_
                  repeat (quiet_step (first | exact kl _ _))
                  refine wpQuiet_nil ?_
                  intro _ hw'
                  obtain ⟨⟨dq, osq⟩, hw''⟩ := hw'
                  subst hw''
                  have hb6 := hb5.trans ((below_regrown w5 dq osq).mono hb5.size)
                  generalize grow (redrawn w5 dq) osq = w6 at *
                  go_wp2_with fail
                  go_ret
                  exact ⟨rfl, by assumption⟩
end Go.Proofs.YtijobaecakhnjaaGreatDoor
