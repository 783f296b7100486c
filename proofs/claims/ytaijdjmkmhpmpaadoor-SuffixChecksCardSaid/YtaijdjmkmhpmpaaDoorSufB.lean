/- The walks of suffix.may and suffix.Check. -/
import Derived.Test.YtaijdjmkmhpmpaaDoorSufA
import Derived.Test.YtaijdjmkmhpmpaaDoorLift
set_option linter.unusedVariables false
set_option linter.unusedSimpArgs false
namespace Go.Proofs.YtaijdjmkmhpmpaaDoor
open Go.RowKit

def cutS : List UInt8 := [97, 98, 99, 100, 101, 102, 103, 104, 105, 106, 107, 108, 109, 110, 111, 112, 113, 114, 115, 116, 117, 118, 119, 120, 121, 122, 48, 49, 50, 51, 52, 53, 54, 55, 56, 57, 45]
theorem cutS_lab (c : UInt8) : cutS.contains c = labB c := by
  have key : ∀ v : Fin 256, cutS.contains (UInt8.ofNat v.val) = labB (UInt8.ofNat v.val) := by decide +kernel
  have := key ⟨c.toNat, u8_lt c⟩
  simpa using this
theorem trim_lab {x : List UInt8} : Lib.trimS x cutS = [] ↔ x.all labB = true := by
  rw [trimS_nil, List.all_eq_true]
  simp only [cutS_lab]
set_option maxRecDepth 100000 in
set_option maxHeartbeats 1000000 in
theorem odd_any (x : List UInt8) (w : World) (hs : x.length ≤ 140737488351232) :
    Calls Tryd.prog 17 #[.string ⟨x.toArray⟩] w fun e w' => e = .returned (.bool (oddB x)) ∧ Below w.heap.size w w' := by
  have hm : oddB x = (x.isEmpty || (decide (63 < x.length) || !x.all labB)) := rfl
  have hbw := Below.refl w.heap.size w
  by_cases h0 : x = []
  · have h2 : (x == []) = true := by rw [h0]; rfl
    have h1 : oddB x = true := by rw [h0]; rfl
    have HM := Lib.hid h1
    clear hm h0 h1
    go_enter Tryd.func17, Tryd.ntmps17
    go_wp2_with fail
    go_ret
    exact ⟨ret_bool (by rw [HM.out]), hbw⟩
  · have h2 : (x == []) = false := beq_eq_false_iff_ne.2 h0
    have h1 : x.isEmpty = false := by cases x with
      | nil => exact absurd rfl h0
      | cons c r => rfl
    rw [h1, Bool.false_or] at hm
    by_cases h63 : 63 < x.length
    · rw [decide_eq_true h63, Bool.true_or] at hm
      have h63i : (63 : Int) < (x.length : Int) := by omega
      have HM := Lib.hid hm
      clear hm h0
      go_enter Tryd.func17, Tryd.ntmps17
      go_wp2_with fail
      go_ret
      exact ⟨ret_bool (by rw [HM.out]), hbw⟩
    · rw [decide_eq_false h63, Bool.false_or] at hm
      have h63i : ¬ (63 : Int) < (x.length : Int) := by omega
      have ct := lift_below w (fun W => trim_any x cutS W hs (by decide) (by decide))
      have ht := trim_lab (x := x)
      cases ha : x.all labB with
      | true =>
        rw [ha] at hm
        rw [ht.2 ha] at ct
        have HM := Lib.hid hm
        clear hm h0 ht ha
        go_enter Tryd.func17, Tryd.ntmps17
        go_wp2_with fail
        go_at_call 18
        refine (ct _ hbw).mono ?_
        rintro e w1 ⟨rfl, hb1⟩
        go_wp2_with fail
        go_ret
        exact ⟨ret_bool (by rw [HM.out]; rfl), hb1⟩
      | false =>
        rw [ha] at hm
        have hne : Lib.trimS x cutS ≠ [] := fun e => by rw [ht.1 e] at ha; cases ha
        generalize Lib.trimS x cutS = T at *
        have hT : (T == []) = false := beq_eq_false_iff_ne.2 hne
        have HM := Lib.hid hm
        clear hm h0 ht ha hne
        go_enter Tryd.func17, Tryd.ntmps17
        go_wp2_with fail
        go_at_call 18
        refine (ct _ hbw).mono ?_
        rintro e w1 ⟨rfl, hb1⟩
        go_wp2_with fail
        go_ret
        exact ⟨ret_bool (by rw [HM.out]; rfl), hb1⟩

/-! ### A predicate over texts in a slice -/
set_option maxRecDepth 100000 in
set_option maxHeartbeats 1000000 in
theorem idxfunc_any (fn : FuncId) (hen : ∀ args W, (callFunc fn args).run Tryd.prog W = .ok (.enter fn args) W) (p : List UInt8 → Bool) (L : List (List UInt8)) (v : Value) (w : World) (ht : Txt w v L) (hl : L.length ≤ 140737488351232)
    (hf : ∀ x ∈ L, ∀ W, Below w.heap.size w W → Calls Tryd.prog fn #[.string ⟨x.toArray⟩] W fun e W' => e = .returned (.bool (p x)) ∧ Below w.heap.size w W') :
    Calls Tryd.prog 14 #[v, .func (.func fn) #[] #[]] w fun e w' => ∃ r : Int, e = .returned (.int .i64 r) ∧ decide (0 ≤ r) = L.any p ∧ Below w.heap.size w w' := by
  have hbw := Below.refl w.heap.size w
  rcases ht with ⟨rfl, rfl⟩ | ⟨a, c, rfl, hc, hab, hcell⟩
  · clear hf hen
    go_enter Tryd.func14, Tryd.ntmps14
    go_wp2_with fail
    go_loop [5, 8] (fun _ i => i = .int .i64 0) (fun _ _ => 0)
    case atStart => exact rfl
    case round =>
      obtain rfl := hrel
      go_wp2_with fail
      go_ret
      exact ⟨-1, rfl, by simp, hbw⟩
  · have HF := Lib.hid hf
    have HC := Lib.hid fun W (hW : Below w.heap.size w W) (k : Nat) (hk : k < L.length) => (hW.cell (p := a.add k) (by rw [Go.ChangeShapes.block_add]; exact hab (by omega))).trans (hcell k hk)
    have HA : Hid (∀ k, (∀ (j : Nat) (h : j < L.length), j < k → p L[j] = false) → (L.take k).any p = false) := fun k h => by
      rw [List.any_eq_false]
      intro x hx
      obtain ⟨j, hj, e⟩ := List.getElem_of_mem hx
      rw [List.length_take] at hj
      rw [← e, List.getElem_take, h j (by omega) (by omega)]
      simp
    clear hf hcell
    go_enter Tryd.func14, Tryd.ntmps14
    go_wp2_with fail
    go_loopw [5, 8] (fun _ i wr => ∃ k : Nat, k ≤ L.length ∧ i = .int .i64 k ∧ Hid (∀ (j : Nat) (h : j < L.length), j < k → p L[j] = false) ∧ Below w.heap.size w wr) (fun _ i _ => L.length - (intOf i).toNat)
    case atStart => exact ⟨0, Nat.zero_le _, rfl, Lib.hid (fun j _ h => absurd h (by omega)), hbw⟩
    case round =>
      obtain ⟨k, hk, rfl, HP, hbr⟩ := hrel
      by_cases hlt : k < L.length
      · have hck := HC.out _ hbr k hlt
        have cf := HF.out _ (List.getElem_mem hlt)
        cases hp : p L[k] with
        | true =>
          have hany : Hid (L.any p = true) := List.any_eq_true.2 ⟨_, List.getElem_mem hlt, hp⟩
          rw [hp] at cf
          clear hp HP
          generalize L[k] = X at *
          go_wp2_with fail
          go_at_fn fn
          refine (cf _ hbr).mono ?_
          rintro e w1 ⟨rfl, hb1⟩
          go_wp2_with fail
          go_ret
          exact ⟨k, rfl, by rw [hany.out]; simp, hb1⟩
        | false =>
          have HP2 : Hid (∀ (j : Nat) (h : j < L.length), j < k + 1 → p L[j] = false) := fun j h h1 => by
            by_cases hj : j < k
            · exact HP.out j h hj
            · obtain rfl : j = k := by omega
              exact hp
          rw [hp] at cf
          clear hp HP
          generalize L[k] = X at *
          go_wp2_with fail
          go_at_fn fn
          refine (cf _ hbr).mono ?_
          rintro e w1 ⟨rfl, hb1⟩
          go_wp2_with fail
          go_roundw
          case rel => exact ⟨k + 1, by omega, by go_num, HP2, hb1⟩
          case measure => simp [intOf]; omega
      · obtain rfl : k = L.length := by omega
        have hany := HA.out L.length HP.out
        rw [List.take_length] at hany
        go_wp2_with fail
        go_ret
        exact ⟨-1, rfl, by rw [hany]; rfl, hbr⟩
end Go.Proofs.YtaijdjmkmhpmpaaDoor
