/- The law PunyCase walked: great and small letters in numbers say the same. -/
import Derived.Test.YtafieajameapiaaDoorAlive
import Derived.Test.YtafieajameapiaaDoorPost
import Derived.Outline
import Derived.Lib.QuietBelow
set_option linter.unusedVariables false
set_option linter.unusedSimpArgs false
namespace Go.Proofs.YtafieajameapiaaDoor
open Go.RowKit
attribute [local go_sem] ba_append

open Go.Sort
/-- A contract that makes memory, met in a region that draws its order. -/
theorem quiet_call {f : FuncId} {args : Array Value} {v : Value} {w1 : World} (h : ∀ W, Below w1.heap.size w1 W → Calls Tryd.prog f args W fun e W' => e = .returned v ∧ Below W.heap.size W W') (d : Nat) (os : Array Obj) :
    Calls Tryd.prog f args (grow (redrawn w1 d) os) fun e w'' => e = .returned v ∧ ∃ p : Regrown, w'' = grow (redrawn w1 p.d) p.os := Calls.regrown_of (h _ (below_regrown w1 d os))

theorem lowB_digI (c : UInt8) : digI (lowB c).toNat = digI c.toNat := by
  rw [lowB_nat]
  generalize c.toNat = n
  unfold lowN digI
  by_cases h : 65 ≤ n ∧ n ≤ 90
  · rw [if_pos h, if_pos (by omega), if_neg (by omega), if_pos h]; omega
  · rw [if_neg h]
theorem readL_low (b : Nat) : ∀ (s : List UInt8) (k w n : Nat), readL b (lowerL s) k w n = (readL b s k w n).map fun p => (p.1, lowerL p.2)
  | [], _, _, _ => rfl
  | c :: s, k, w, n => by
    show readL b (lowB c :: lowerL s) k w n = _
    have hd := lowB_digI c
    by_cases h0 : digI c.toNat < 0
    · rw [readL_neg (by rw [hd]; exact h0), readL_neg h0]; rfl
    · have h0' : 0 ≤ digI c.toNat := by omega
      by_cases h1 : 2147483647 < (n : Int) + digI c.toNat * (w : Int)
      · rw [readL_big (by rw [hd]; exact h0') (by rw [hd]; exact h1), readL_big h0' h1]; rfl
      · by_cases h2 : digI c.toNat < (bnd b k : Int)
        · rw [readL_end (by rw [hd]; exact h0') (by rw [hd]; omega) (by rw [hd]; exact h2), readL_end h0' (by omega) h2, hd]; rfl
        · rw [readL_go (by rw [hd]; exact h0') (by rw [hd]; omega) (by rw [hd]; omega), readL_go h0' (by omega) (by omega), hd]
          exact readL_low b s _ _ _
theorem decF_low : ∀ (f : Nat) (s : List UInt8) (b sign place : Nat) (first : Bool) (l : List Nat), decF f (lowerL s) b sign place first l = decF f s b sign place first l
  | 0, _, _, _, _, _, _ => rfl
  | f + 1, [], _, _, _, _, _ => rfl
  | f + 1, c :: s, b, sign, place, first, l => by
    rw [decF_step (by simp [lowerL]), decF_step (by simp), readL_low]
    cases readL b (c :: s) 36 1 place with
    | none => rfl
    | some x =>
      obtain ⟨n, r⟩ := x
      simp only [Option.map_some]
      split
      · rfl
      · exact decF_low f r _ _ _ _ _
theorem decL_low (s : List UInt8) (b sign place : Nat) (first : Bool) (l : List Nat) : decL (lowerL s) b sign place first l = decL s b sign place first l := by
  unfold decL
  rw [show (lowerL s).length = s.length by simp [lowerL], decF_low]
def normL (s : List UInt8) : List UInt8 := s.take (cutN s) ++ lowerL (s.drop (cutN s))
theorem normL_len (s : List UInt8) : (normL s).length = s.length := by simp [normL, lowerL]; omega
theorem cutN_le (s : List UInt8) : cutN s ≤ s.length := by have := lastAt_lt s 45 s.length; unfold cutN; omega
theorem low_45 (c : UInt8) : (lowB c).toNat = 45 ↔ c.toNat = 45 := by
  rw [lowB_nat]; unfold lowN; split <;> omega
theorem normL_get (s : List UInt8) (i : Nat) : ((normL s).getD i 0).toNat = 45 ↔ (s.getD i 0).toNat = 45 := by
  have hc := cutN_le s
  unfold normL
  by_cases h : i < cutN s
  · rw [List.getD_eq_getElem?_getD, List.getElem?_append_left (by simp; omega), List.getElem?_take_of_lt h, ← List.getD_eq_getElem?_getD]
  · rw [List.getD_eq_getElem?_getD, List.getElem?_append_right (by simp; omega)]
    simp only [List.length_take, Nat.min_eq_left hc]
    unfold lowerL
    rw [List.getElem?_map, List.getElem?_drop, show cutN s + (i - cutN s) = i by omega, List.getD_eq_getElem?_getD]
    cases s[i]? with
    | none => rfl
    | some c => exact low_45 c
theorem lastAt_norm (s : List UInt8) : ∀ k, lastAt (normL s) 45 k = lastAt s 45 k
  | 0 => rfl
  | k + 1 => by
    have h := normL_get s k
    have ih := lastAt_norm s k
    unfold lastAt
    rw [ih]
    by_cases c : (s.getD k 0).toNat = 45
    · rw [if_pos c, if_pos (h.2 c)]
    · rw [if_neg c, if_neg (fun h' => c (h.1 h'))]
theorem decode_norm (s : List UInt8) : decode (normL s) = decode s := by
  have hl := normL_len s
  have ht : decTop (normL s) = decTop s := by
    have hlt := lastAt_lt s 45 s.length
    unfold decTop
    rw [hl, lastAt_norm]
    by_cases h : 0 < lastAt s 45 s.length
    · rw [if_pos h, if_pos h]
      have e : (lastAt s 45 s.length).toNat = cutN s := rfl
      rw [e]
      have hc : cutN s < s.length := by unfold cutN; omega
      have e1 : (normL s).take (cutN s) = s.take (cutN s) := by unfold normL; rw [List.take_left' (by simp; omega)]
      have e2 : (normL s).drop (cutN s + 1) = lowerL (s.drop (cutN s + 1)) := by
        unfold normL
        rw [← List.drop_drop, List.drop_left' (by simp; omega)]
        unfold lowerL
        rw [← List.map_drop, List.drop_drop]
      rw [e1, e2, decL_low]
    · rw [if_neg h, if_neg h]
      have hc : cutN s = 0 := by unfold cutN; omega
      have e : normL s = lowerL s := by unfold normL; rw [hc]; simp
      rw [e, decL_low]
  have hw : (∃ c ∈ normL s, 128 ≤ c.toNat) ↔ ∃ c ∈ s, 128 ≤ c.toNat := by
    have key : ∀ l : List UInt8, (∃ c ∈ lowerL l, 128 ≤ c.toNat) ↔ ∃ c ∈ l, 128 ≤ c.toNat := fun l => by
      unfold lowerL
      constructor
      · rintro ⟨c, hc, h⟩
        obtain ⟨x, hx, rfl⟩ := List.mem_map.1 hc
        exact ⟨x, hx, by have := low_plain x; omega⟩
      · rintro ⟨c, hc, h⟩
        exact ⟨lowB c, List.mem_map.2 ⟨c, hc, rfl⟩, by have := low_plain c; omega⟩
    constructor
    · rintro ⟨c, hc, h⟩
      rcases List.mem_append.1 hc with hc | hc
      · exact ⟨c, List.mem_of_mem_take hc, h⟩
      · obtain ⟨x, hx, h'⟩ := (key _).1 ⟨c, hc, h⟩
        exact ⟨x, List.mem_of_mem_drop hx, h'⟩
    · rintro ⟨c, hc, h⟩
      rw [← List.take_append_drop (cutN s) s] at hc
      rcases List.mem_append.1 hc with hc | hc
      · exact ⟨c, List.mem_append_left _ hc, h⟩
      · obtain ⟨x, hx, h'⟩ := (key _).2 ⟨c, hc, h⟩
        exact ⟨x, List.mem_append_right _ hx, h'⟩
  unfold decode
  rw [hl, ht]
  by_cases h1 : 65536 < s.length
  · rw [if_pos h1, if_pos h1]
  · rw [if_neg h1, if_neg h1]
    by_cases h2 : ∃ c ∈ s, 128 ≤ c.toNat
    · rw [if_pos h2, if_pos (hw.2 h2)]
    · rw [if_neg h2, if_neg (fun h => h2 (hw.1 h))]
theorem cutZ_cutN (s : List UInt8) : cutZ s s.length = (cutN s : Int) := by
  have := lastAt_lt s 45 s.length
  unfold cutZ cutN
  omega

set_option maxRecDepth 100000 in
set_option maxHeartbeats 2000000 in
theorem case_law (s : List UInt8) (w : World) (hm : s.length ≤ 140737488351232) (hT : Lib.Utf8Tabs (validRen.g 3) (validRen.g 4) w) :
    Calls Tryd.prog 7 #[.string ⟨s.toArray⟩] w fun e w' => e = .returned (.bool true) ∧ Below w.heap.size w w' := by
  have hbw := Below.refl w.heap.size w
  have ca := lift_tabs w hT (fun W hTW => alive_any W hTW)
  by_cases h0 : 1000 < s.length
  · go_enter Tryd.func7, Tryd.ntmps7
    go_wp2_with (go_at_call 16; refine (ca _ (by assumption)).mono ?_; rintro e w1 ⟨rfl, hb1⟩)
    go_ret
    exact ⟨rfl, by assumption⟩
  · go_enter Tryd.func7, Tryd.ntmps7
    go_wp2_with (go_at_call 16; refine (ca _ (by assumption)).mono ?_; rintro e w1 ⟨rfl, hb1⟩)
    have hd1 := decode_norm s
    have cd1 := lift_below w (fun W => decode_any s W (by omega))
    have cd2 := fun W => decode_any (normL s) W (by rw [normL_len]; omega)
    rw [hd1] at cd2
    have hcl := cutN_le s
    have cl := lift_below w (fun W => lower_any (s.drop (cutN s)) W (by simp; omega))
    have hnl : (s.take (cutN s)).length + (lowerL (s.drop (cutN s))).length ≤ 1000 := by simp [lowerL]; omega
    have hnorm : normL s = s.take (cutN s) ++ lowerL (s.drop (cutN s)) := rfl
    rw [hnorm] at cd2
    have hcz := Lib.hid (cutZ_cutN s)
    generalize decode s = d at *
    obtain ⟨t, e⟩ := d
    simp only [resV] at cd1 cd2
    clear hd1 hnorm
    go_loop [3, 4] (fun c i => ∃ k : Nat, k ≤ s.length ∧ i = .int .i64 k ∧ c = .int .i64 (cutZ s k)) (fun _ i => s.length - (intOf i).toNat)
    case atStart => exact ⟨0, Nat.zero_le _, rfl, rfl⟩
    case round =>
      obtain ⟨k, hk, rfl, rfl⟩ := hrel
      have hz := cutZ_bd s k
      by_cases hlt : k < s.length
      · have Hh := Lib.hid (cutZ_hit s k hlt)
        have Hm := Lib.hid (cutZ_miss s k hlt)
        go_wp2_with fail
        all_goals
          go_round
          case rel => exact ⟨k + 1, by omega, by go_num, by first | rw [Hh.out (by assumption)] | rw [Hm.out (by assumption)]⟩
          case measure => simp [intOf]; omega
      · obtain rfl : k = s.length := by omega
        rw [hcz.out]
        generalize hcc : cutN s = c at *
        clear hcz hz hk
        have htk : List.take (s.length - c) (List.drop c s) = List.drop c s := List.take_of_length_le (by simp)
        have hci : (c : Int) ≤ (s.length : Int) := by omega
        have hci0 : (0 : Int) ≤ (c : Int) := by omega
        have hbs := hb1
        go_wp2_with (first | (go_at_call 17; refine (cd1 _ (by assumption)).mono ?_; rintro e w2 ⟨rfl, hb2⟩))
        have hn : (lowerL (s.drop c)).length ≤ 1000 := by simp [lowerL]; omega
        have hn2 : (s.take c).length ≤ 1000 := by simp; omega
        have kl : ∀ d os, _ := quiet_call (w1 := w2) (fun W _ => lower_any (s.drop c) W (by simp; omega))
        have kd : ∀ d os, _ := quiet_call (w1 := w2) (fun W _ => cd2 W)
        clear hcc hnl cl ca cd2 cd1
        generalize lowerL (s.drop c) = B at *
        generalize hD : s.drop c = D at *
        generalize hA : s.take c = A at *
        have hsum : ¬ 9223372036854775807 < A.length + B.length := by omega
        refine wp_region_quiet_below (by kernel_rfl) (by kernel_rfl) ?_
        repeat (quiet_step (first | exact kl _ _ | exact kd _ _))
        refine wpQuiet_nil ?_
        intro _ hw'
        obtain ⟨⟨dq, osq⟩, hw''⟩ := hw'
        subst hw''
        have hb3 := hb2.trans ((below_regrown w2 dq osq).mono hb2.size)
        generalize grow (redrawn w2 dq) osq = w3 at *
        go_wp2_with fail
        go_ret
        exact ⟨rfl, by assumption⟩
end Go.Proofs.YtafieajameapiaaDoor
