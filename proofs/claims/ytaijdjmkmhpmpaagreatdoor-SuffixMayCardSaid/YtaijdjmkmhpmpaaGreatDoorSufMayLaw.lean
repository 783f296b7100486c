/- The law SuffixMay walked. -/
import Derived.Test.YtaijdjmkmhpmpaaGreatDoorSufAlive
import Derived.Test.YtaijdjmkmhpmpaaGreatDoorSufMayMath
import Derived.Test.YtaijdjmkmhpmpaaGreatDoorTextSum
import Derived.Test.YtaijdjmkmhpmpaaGreatDoorGSu5
set_option linter.unusedVariables false
set_option linter.unusedSimpArgs false
namespace Go.Proofs.YtaijdjmkmhpmpaaGreatDoor
open Go.RowKit

theorem check_one (s : List UInt8) : checkL [s] = mayL s := by simp [checkL]
theorem head_mark2 {c : UInt8} {r : List UInt8} : ((c :: r).head? = some 33) ↔ c.toNat = 33 := by
  simp only [List.head?_cons, Option.some.injEq]
  exact ⟨fun h => h ▸ rfl, fun h => UInt8.toNat_inj.1 h⟩
theorem star_dot (b : List UInt8) : (ByteArray.mk #[42, 46]) ++ (ByteArray.mk b.toArray) = ByteArray.mk (42 :: 46 :: b).toArray := ba_join [42, 46] b
theorem bang_on (b : List UInt8) : (ByteArray.mk #[33]) ++ (ByteArray.mk b.toArray) = ByteArray.mk (33 :: b).toArray := ba_join [33] b
theorem bang_star (b : List UInt8) : (ByteArray.mk #[33, 42, 46]) ++ (ByteArray.mk b.toArray) = ByteArray.mk (33 :: 42 :: 46 :: b).toArray := ba_join [33, 42, 46] b
theorem dot_star (a : List UInt8) : (ByteArray.mk a.toArray) ++ (ByteArray.mk #[46, 42]) = ByteArray.mk (a ++ [46, 42]).toArray := ba_join a [46, 42]
theorem dot_on (a : List UInt8) : (ByteArray.mk a.toArray) ++ (ByteArray.mk #[46]) = ByteArray.mk (a ++ [46]).toArray := ba_join a [46]
attribute [local go_sem] star_dot bang_on bang_star dot_star dot_on ba_append
theorem check_lit (w : World) (hE : EnvH w) (s : List UInt8) (hs : s.length ≤ 1000) : ∀ W, Below w.heap.size w W → Calls Tryz.prog 23 #[.slice (some ⟨W.heap.size, 0, none⟩) 1 1] (W.alloc (.cells #[.string ⟨s.toArray⟩] 9)) fun e W' => e = .returned (.bool (mayL s)) ∧ Below w.heap.size w W' := fun W hW => by
  have hb := hW.alloc hW.size (.cells #[.string ⟨s.toArray⟩] 9)
  have := check_any [s] _ _ (hE.below hb).t.env.shaped (lit_txt W [s] _ rfl) (by simp) (fun p hp => by rw [List.mem_singleton.1 hp]; omega)
  rw [check_one] at this
  exact this.mono fun e W' ⟨he, hb2⟩ => ⟨he, hb.trans (hb2.mono hb.size)⟩
/-- What is known of the parts so far. -/
structure MaySo (L : List (List UInt8)) (n : Nat) (A : List UInt8) (b : Bool) : Prop where
  all : A = joinL 46 (L.take (max n 1))
  may : b = !(L.take n).any oddB
  good : ∀ p ∈ L.take n, (46 : UInt8) ∉ p ∧ p ≠ [42] ∧ p.head? ≠ some 33
theorem join_more {L : List (List UInt8)} {n : Nat} (h0 : 0 < n) (h : n < L.length) : joinL 46 (L.take (n + 1)) = joinL 46 (L.take n) ++ 46 :: L[n] := by
  rw [List.take_succ_eq_append_getElem h, join_snocS (fun e => by
    have := congrArg List.length e
    rw [List.length_take, List.length_nil] at this
    omega)]
theorem MaySo.step {L : List (List UInt8)} {n : Nat} {A : List UInt8} {b : Bool} (h : MaySo L n A b) (hn : n < L.length) (h46 : (46 : UInt8) ∉ L[n]) (h42 : L[n] ≠ [42]) (h33 : (L[n]).head? ≠ some 33) :
    MaySo L (n + 1) (if n = 0 then A else A ++ 46 :: L[n]) (b && !oddB L[n]) := by
  have ht := List.take_succ_eq_append_getElem hn
  refine ⟨?_, ?_, fun p hp => ?_⟩
  · rw [h.all, show max (n + 1) 1 = n + 1 by omega]
    by_cases h0 : n = 0
    · subst h0; rw [if_pos rfl]; rfl
    · rw [if_neg h0, show max n 1 = n by omega, join_more (by omega) hn]
  · rw [h.may, ht, List.any_append, Bool.not_or]
    simp only [List.any_cons, List.any_nil, Bool.or_false]
  · rw [ht] at hp
    rcases List.mem_append.1 hp with hp | hp
    · exact h.good p hp
    · rw [List.mem_singleton.1 hp]; exact ⟨h46, h42, h33⟩
theorem MaySo.done {L : List (List UInt8)} {A : List UInt8} {b : Bool} (h : MaySo L L.length A b) (h0 : L ≠ []) (hn : A.length ≤ 250) :
    mayL A = b ∧ mayL (42 :: 46 :: A) = b ∧ mayL (33 :: A) = (b && decide (1 < L.length)) ∧ mayL (33 :: 42 :: 46 :: A) = false ∧ mayL (A ++ [46, 42]) = false := by
  have hl := List.length_pos_iff.2 h0
  have ha := h.all
  have hm := h.may
  have hg := h.good
  rw [show max L.length 1 = L.length by omega, List.take_length] at ha
  rw [List.take_length] at hm hg
  rw [ha] at hn ⊢
  rw [hm]
  exact may_forms h0 (fun p hp => (hg p hp).1) (fun p hp => (hg p hp).2.1) (fun p hp => (hg p hp).2.2) hn
theorem odd_fin {b q : Bool} {X : List UInt8} (hq : q = (b && X.all labB)) : (b && !oddB X) = (q && (decide (0 < X.length) && decide (X.length ≤ 63))) := by
  subst hq
  unfold oddB
  have e : decide (X.length ≤ 63) = !decide (63 < X.length) := by
    by_cases h : X.length ≤ 63
    · rw [decide_eq_true h, decide_eq_false (by omega)]; rfl
    · rw [decide_eq_false h, decide_eq_true (by omega)]; rfl
  rw [e]
  cases X with
  | nil => simp
  | cons c r => cases b <;> cases (c :: r).all labB <;> simp
theorem take_all {X : List UInt8} {m : Nat} (h : m < X.length) : (X.take (m + 1)).all labB = ((X.take m).all labB && labB X[m]) := by
  rw [List.take_succ_eq_append_getElem h, List.all_append]
  simp only [List.all_cons, List.all_nil, Bool.and_true]
theorem head_at {X : List UInt8} (h : 0 < X.length) (e : (X[0]'h).toNat = 33) : X.head? = some 33 := by
  cases X with
  | nil => cases h
  | cons c r => exact head_mark2.2 e
theorem at_head {X : List UInt8} (h : X.head? = some 33) : ∃ h0 : 0 < X.length, (X[0]'h0).toNat = 33 := by
  cases X with
  | nil => cases h
  | cons c r => exact ⟨by simp, head_mark2.1 h⟩
theorem join_len_le : ∀ l : List (List UInt8), (joinL 46 l).length ≤ l.length + sumL l
  | [] => by simp [joinL]
  | [p] => by simp [joinL, sumL]
  | p :: q :: l => by
    have := join_len_le (q :: l)
    rw [joinL_cons (by simp), List.length_append, List.length_cons, sumL, List.length_cons]; omega
theorem MaySo.len {L : List (List UInt8)} {n : Nat} {A : List UInt8} {b : Bool} (h : MaySo L n A b) : A.length ≤ L.length + sumL L := by
  rw [h.all]
  have h1 := join_len_le (L.take (max n 1))
  have h2 := sumL_take_le L (max n 1)
  rw [List.length_take] at h1
  omega
set_option maxRecDepth 100000 in
set_option maxHeartbeats 8000000 in
theorem sufmay_law (L : List (List UInt8)) (v : Value) (w : World) (ht : Txt w v L) (hl : L.length ≤ 140737488351232) (hs : ∀ p ∈ L, p.length ≤ 140737488351232) (hE : EnvH w) :
    Calls Tryz.prog 8 #[v] w fun e w' => e = .returned (.bool true) ∧ Below w.heap.size w w' := by
  have hbw := Below.refl w.heap.size w
  have ca := lift_hS w hE (fun W hEW => salive_any W hEW)
  have ct := fun W (hW : Below w.heap.size w W) => texts_size_any L v W (ht.below hW (Nat.le_refl _)) hl hs
  have ck := check_lit w hE
  obtain ⟨ad, cp, rfl⟩ := ht.form
  by_cases h0 : L.length = 0
  · have h0i : (L.length : Int) = 0 := by omega
    clear ct ht
    go_enter Tryz.func8, Tryz.ntmps8
    go_wp2_with (go_at_call 17; refine (ca _ (by assumption)).mono ?_; rintro e w1 ⟨rfl, hb1⟩)
    go_ret
    exact ⟨rfl, by assumption⟩
  · have hL0 : 0 < L.length := by omega
    have h0i : ¬ (L.length : Int) = 0 := by omega
    have h0b : ((L.length : Int) == 0) = false := beq_eq_false_iff_ne.2 h0i
    by_cases h10 : 10 < L.length
    · have h10i : (10 : Int) < (L.length : Int) := by omega
      clear ct ht
      go_enter Tryz.func8, Tryz.ntmps8
      go_wp2_with (go_at_call 17; refine (ca _ (by assumption)).mono ?_; rintro e w1 ⟨rfl, hb1⟩)
      go_ret
      exact ⟨rfl, by assumption⟩
    · have h10i : ¬ (10 : Int) < (L.length : Int) := by omega
      by_cases hz : 200 < textsN L
      · have hzi : (200 : Int) < (textsN L : Int) := by omega
        generalize textsN L = N at *
        clear ht
        go_enter Tryz.func8, Tryz.ntmps8
        go_wp2_with (first | (go_at_call 17; refine (ca _ (by assumption)).mono ?_; rintro e w1 ⟨rfl, hb1⟩) | (go_at_call 22; refine (ct _ (by assumption)).mono ?_; rintro e w2 ⟨rfl, rfl⟩))
        go_ret
        exact ⟨rfl, by assumption⟩
      · have hzi : ¬ (200 : Int) < (textsN L : Int) := by omega
        have hsum := textsN_sumL (L := L) (by omega)
        have hsl : L.length + sumL L ≤ 200 := by omega
        have hs2 : ∀ p ∈ L, p.length ≤ 200 := fun p hp => by have := sumL_mem hp; omega
        have hcell : ∃ a, ad = some a ∧ ∀ W, Below w.heap.size w W → ∀ k (hk : k < L.length), W.cell? (a.add k) = some (.string ⟨(L[k]).toArray⟩) := by
          rcases ht with ⟨_, rfl⟩ | ⟨a, c, hv, hc, hab, hcell⟩
          · exact absurd rfl h0
          · injection hv with e1 e2 e3
            exact ⟨a, e1, fun W hW k hk => (hW.cell (p := a.add k) (by rw [Go.ChangeShapes.block_add]; exact hab (by omega))).trans (hcell k hk)⟩
        obtain ⟨a, rfl, HC0⟩ := hcell
        have HC := Lib.hid HC0
        have HS := Lib.hid hs2
        have hc00 := fun W hW => HC0 W hW 0 hL0
        have hadd0 : a.add 0 = a := by cases a; rfl
        simp only [hadd0] at hc00
        have HM0 : Hid (MaySo L 0 (L[0]'hL0) true) := ⟨by rw [show max 0 1 = 0 + 1 from rfl, List.take_succ_eq_append_getElem hL0]; rfl, rfl, fun p hp => by simp at hp⟩
        clear hs hs2 ht hsum HC0
        generalize textsN L = N at *
        generalize L[0]'hL0 = X0 at *
        go_enter Tryz.func8, Tryz.ntmps8
        go_wp2_with (first | (go_at_call 17; refine (ca _ (by assumption)).mono ?_; rintro e w1 ⟨rfl, hb1⟩) | (go_at_call 22; refine (ct _ (by assumption)).mono ?_; rintro e w2 ⟨rfl, rfl⟩; have hx0 := hc00 _ hb1))
        go_loopw [3, 4, 5, 6, 7] (fun all may i _ _ wr => ∃ (n : Nat) (A : List UInt8) (b : Bool), n ≤ L.length ∧ i = .int .i64 n ∧ all = .string ⟨A.toArray⟩ ∧ may = .bool b ∧ Hid (MaySo L n A b) ∧ Below w.heap.size w wr) (fun _ _ i _ _ _ => L.length - (intOf i).toNat)
        case atStart => exact ⟨0, X0, true, Nat.zero_le _, rfl, rfl, rfl, HM0, by assumption⟩
        case round =>
          obtain ⟨n, A, b, hn, rfl, rfl, rfl, HMS, hbr⟩ := hrel
          have hAl := HMS.out.len
          by_cases hlt : n < L.length
          · have hck := HC.out _ hbr n hlt
            have hXl := HS.out _ (List.getElem_mem hlt)
            have HStep := Lib.hid fun h46 h42 h33 => HMS.out.step hlt h46 h42 h33
            clear HMS HM0 hc00
            generalize hX : L[n] = X at *
            obtain ⟨A2, hA2⟩ : ∃ A2, (if n = 0 then A else A ++ 46 :: X) = A2 := ⟨_, rfl⟩
            rw [hA2] at HStep
            have hs1 : ¬ 9223372036854775807 < A.length + 1 := by omega
            have hs2 : ¬ 9223372036854775807 < (A ++ [46]).length + X.length := by simp; omega
            by_cases hx42 : X = [42]
            · subst hx42
              clear HStep
              by_cases hni : (0 : Int) < (n : Int)
              all_goals
                go_wp2_with fail
                go_ret
                exact ⟨rfl, hbr⟩
            · have hx42b : (X == [42]) = false := beq_eq_false_iff_ne.2 hx42
              by_cases hx33 : X.head? = some 33
              · obtain ⟨hX0, hx33n⟩ := at_head hx33
                have hX0i : (0 : Int) < (X.length : Int) := by omega
                have hx33i : ((X[0]'hX0).toNat : Int) = 33 := by omega
                clear HStep
                by_cases hni : (0 : Int) < (n : Int)
                all_goals
                  go_wp2_with fail
                  go_ret
                  exact ⟨rfl, hbr⟩
              · have hfin := fun (q : Bool) (hq : q = (b && X.all labB)) => odd_fin hq
                have HF := Lib.hid fun (h46 : (46 : UInt8) ∉ X) (r : Bool) (hr : (b && !oddB X) = r) => hr ▸ HStep.out h46 hx42 hx33
                have hAs : (¬ (0 : Int) < (n : Int) ∧ A2 = A) ∨ ((0 : Int) < (n : Int) ∧ A2 = A ++ 46 :: X) := by
                  by_cases h : n = 0
                  · rw [if_pos h] at hA2; exact .inl ⟨by omega, hA2.symm⟩
                  · rw [if_neg h] at hA2; exact .inr ⟨by omega, hA2.symm⟩
                clear HStep hA2
                by_cases hX0 : 0 < X.length
                all_goals
                  have hX0i : (0 : Int) < (X.length : Int) ↔ 0 < X.length := by omega
                  simp only [hX0, iff_true, iff_false] at hX0i
                  first | (have hx33i : ¬ ((X[0]'hX0).toNat : Int) = 33 := fun e => hx33 (head_at hX0 (by omega))) | skip
                  rcases hAs with ⟨hni, rfl⟩ | ⟨hni, rfl⟩
                  all_goals
                    go_wp2_with fail
                    go_loop [4, 6, 7] (fun may k _ => ∃ (m : Nat) (q : Bool), m ≤ X.length ∧ k = .int .i64 m ∧ may = .bool q ∧ Hid (q = (b && (X.take m).all labB)) ∧ Hid ((46 : UInt8) ∉ X.take m)) (fun _ k _ => X.length - (intOf k).toNat)
                    case atStart => exact ⟨0, b, Nat.zero_le _, rfl, rfl, Lib.hid (by simp), Lib.hid (by simp)⟩
                    case round =>
                      obtain ⟨m, q, hm, rfl, rfl, HQ, H46⟩ := hrel
                      by_cases hm2 : m < X.length
                      · have HQ2 : Hid (∀ r, labB X[m] = r → (q && r) = (b && (X.take (m + 1)).all labB)) := fun r hr => by
                          rw [HQ.out, take_all hm2, hr, Bool.and_assoc]
                        have H462 : Hid (¬ X[m].toNat = 46 → (46 : UInt8) ∉ X.take (m + 1)) := fun hne hc => by
                          rw [List.take_succ_eq_append_getElem hm2] at hc
                          rcases List.mem_append.1 hc with hc | hc
                          · exact H46.out hc
                          · rw [List.mem_singleton] at hc
                            exact hne (by rw [← hc]; rfl)
                        clear HQ H46
                        generalize hx : X[m] = c at *
                        have hc255 := c.toNat_lt
                        by_cases p1 : (c.toNat : Int) = 46
                        · go_wp2_with fail
                          go_ret
                          exact ⟨rfl, hbr⟩
                        · have H463 := Lib.hid (H462.out (by omega))
                          clear H462
                          cases q with
                          | false =>
                            have HQ3 := HQ2.out _ rfl
                            rw [Bool.false_and] at HQ3
                            have HQ4 := Lib.hid HQ3
                            clear HQ2 HQ3
                            go_wp2_with fail
                            first
                            | done
                            | (go_round
                               case rel => exact ⟨m + 1, _, by omega, by go_num, rfl, HQ4, H463⟩
                               case measure => simp [intOf]; omega)
                          | true =>
                            simp only [Bool.true_and] at HQ2
                            by_cases p3 : (97 : Int) ≤ (c.toNat : Int) <;> by_cases p4 : (c.toNat : Int) ≤ 122 <;> by_cases p5 : (48 : Int) ≤ (c.toNat : Int) <;> by_cases p6 : (c.toNat : Int) ≤ 57 <;> by_cases p7 : (c.toNat : Int) = 45 <;> first | (exfalso; omega) | skip
                            all_goals
                              first | (have p7b : ((c.toNat : Int) == 45) = false := (by rw [beq_eq_false_iff_ne]; exact p7)) | skip
                              go_wp2_with fail
                              go_round
                              case rel => exact ⟨m + 1, _, by omega, by go_num, rfl, HQ2.out _ (by first | exact labB_iff.2 (by omega) | (rw [Bool.eq_false_iff]; intro e; have := labB_iff.1 e; omega)), H463⟩
                              case measure => simp [intOf]; omega
                      · obtain rfl : m = X.length := by omega
                        have hq := HQ.out
                        have h46 := H46.out
                        rw [List.take_length] at hq h46
                        have HF2 := HF.out h46
                        rw [hfin q hq] at HF2
                        have HF3 := Lib.hid HF2
                        clear HQ H46 HF HF2 hq h46 hfin
                        by_cases h63 : X.length ≤ 63
                        all_goals
                          have h63i : (X.length : Int) ≤ 63 ↔ X.length ≤ 63 := by omega
                          simp only [h63, iff_true, iff_false] at h63i
                          cases q
                          all_goals
                            go_wp2_with fail
                            go_roundw
                            case rel => exact ⟨n + 1, _, _, by omega, by go_num, rfl, rfl, HF3.out _ (by simp only [hX0, h63, decide_true, decide_false, Bool.and_true, Bool.true_and, Bool.and_false, Bool.false_and]), hbr⟩
                            case measure => simp [intOf]; omega
          · obtain rfl : n = L.length := by omega
            obtain ⟨m1, m2, m3, m4, m5⟩ := HMS.out.done (fun e => h0 (by rw [e]; rfl)) (by omega)
            have k1 := ck A (by omega)
            have k2 := ck (42 :: 46 :: A) (by simp; omega)
            have k3 := ck (33 :: A) (by simp; omega)
            have k4 := ck (33 :: 42 :: 46 :: A) (by simp; omega)
            have k5 := ck (A ++ [46, 42]) (by simp; omega)
            rw [m1] at k1
            rw [m2] at k2
            rw [m3] at k3
            rw [m4] at k4
            rw [m5] at k5
            have z1 : ¬ 9223372036854775807 < 2 + A.length := by omega
            have z2 : ¬ 9223372036854775807 < 1 + A.length := by omega
            have z3 : ¬ 9223372036854775807 < 3 + A.length := by omega
            have z4 : ¬ 9223372036854775807 < A.length + 2 := by omega
            have h1i : (1 : Int) < (L.length : Int) ↔ 1 < L.length := by omega
            clear m1 m2 m3 m4 m5 HM0 HMS HC HS hc00 ck
            cases b with
            | true =>
              simp only [Bool.true_and] at k3
              by_cases h1 : 1 < L.length
              all_goals
                simp only [h1, iff_true, iff_false, decide_true, decide_false] at h1i k3
                go_wp2_with fail
                go_at_call 23
                refine (k1 _ hbr).mono ?_
                rintro e w3 ⟨rfl, hb3⟩
                go_wp2_with fail
                go_at_call 23
                refine (k2 _ hb3).mono ?_
                rintro e w4 ⟨rfl, hb4⟩
                go_wp2_with fail
                go_at_call 23
                refine (k3 _ hb4).mono ?_
                rintro e w5 ⟨rfl, hb5⟩
                go_wp2_with fail
                go_at_call 23
                refine (k4 _ hb5).mono ?_
                rintro e w6 ⟨rfl, hb6⟩
                go_wp2_with fail
                go_at_call 23
                refine (k5 _ hb6).mono ?_
                rintro e w7 ⟨rfl, hb7⟩
                go_wp2_with fail
                go_ret
                exact ⟨ret_bool (by simp [h1i]), hb7⟩
            | false =>
              simp only [Bool.false_and] at k3
              go_wp2_with fail
              go_at_call 23
              refine (k1 _ hbr).mono ?_
              rintro e w3 ⟨rfl, hb3⟩
              go_wp2_with fail
              go_at_call 23
              refine (k2 _ hb3).mono ?_
              rintro e w4 ⟨rfl, hb4⟩
              go_wp2_with fail
              go_at_call 23
              refine (k3 _ hb4).mono ?_
              rintro e w5 ⟨rfl, hb5⟩
              go_wp2_with fail
              go_at_call 23
              refine (k4 _ hb5).mono ?_
              rintro e w6 ⟨rfl, hb6⟩
              go_wp2_with fail
              go_at_call 23
              refine (k5 _ hb6).mono ?_
              rintro e w7 ⟨rfl, hb7⟩
              go_wp2_with fail
              go_ret
              exact ⟨rfl, hb7⟩
end Go.Proofs.YtaijdjmkmhpmpaaGreatDoor
