/- The walks of suffix.may and suffix.Check, whole. -/
import Derived.Test.YtaijdjmkmhpmpaaDoorSufB
import Derived.Shelf.Abstract
set_option linter.unusedVariables false
set_option linter.unusedSimpArgs false
namespace Go.Proofs.YtaijdjmkmhpmpaaDoor
open Go.RowKit

set_option maxRecDepth 100000 in
theorem contains_any (fn : FuncId) (hen : ∀ args W, (callFunc fn args).run Tryd.prog W = .ok (.enter fn args) W) (p : List UInt8 → Bool) (L : List (List UInt8)) (v : Value) (w : World) (ht : Txt w v L) (hl : L.length ≤ 140737488351232)
    (hf : ∀ x ∈ L, ∀ W, Below w.heap.size w W → Calls Tryd.prog fn #[.string ⟨x.toArray⟩] W fun e W' => e = .returned (.bool (p x)) ∧ Below w.heap.size w W') :
    Calls Tryd.prog 10 #[v, .func (.func fn) #[] #[]] w fun e w' => e = .returned (.bool (L.any p)) ∧ Below w.heap.size w w' := by
  have ci := idxfunc_any fn hen p L v w ht hl hf
  clear hf ht hen
  generalize L.any p = B at *
  go_enter Tryd.func10, Tryd.ntmps10
  go_wp2_with fail
  go_at_call 14
  refine ci.mono ?_
  rintro e w1 ⟨r, rfl, hr, hb1⟩
  go_wp2_with fail
  go_ret
  exact ⟨ret_bool (by rw [← hr]), hb1⟩
theorem enters_odd : ∀ args W, (callFunc 17 args).run Tryd.prog W = .ok (.enter 17 args) W := enters_of Tryd.func17 (by kernel_rfl) rfl
theorem enters_chk : ∀ args W, (callFunc 11 args).run Tryd.prog W = .ok (.enter 11 args) W := enters_of Tryd.func11 (by kernel_rfl) rfl

set_option maxRecDepth 100000 in
set_option maxHeartbeats 4000000 in
theorem may_any (s : List UInt8) (w : World) (hE : w.ShapedOpen Tryd.prog) (hs : s.length ≤ 4000000000) :
    Calls Tryd.prog 12 #[.string ⟨s.toArray⟩] w fun e w' => e = .returned (.bool (mayL s)) ∧ Below w.heap.size w w' := by
  have cr := sread_any s w hE hs
  have ct := trim_mark s
  have hP := sufP_le s
  have hbl := bareL_le s
  have hne := List.length_pos_iff.2 (sufP_ne s)
  have hm : mayL s = (!(exceptB s && decide ((sufP s).length < 2)) && (decide (restN s ≤ 253) && !(restP s).any oddB)) := rfl
  by_cases hx2 : exceptB s = true ∧ (sufP s).length < 2
  · obtain ⟨hx, h2⟩ := hx2
    rw [hx, decide_eq_true h2] at hm
    rw [hx] at cr
    have h2i : ((sufP s).length : Int) < 2 := by omega
    have HM := Lib.hid hm
    clear hm
    generalize sufP s = P at *
    generalize bareL s = X at *
    go_enter Tryd.func12, Tryd.ntmps12
    go_wp2_with fail
    go_at_call 15
    refine cr.mono ?_
    rintro e w1 ⟨g, rfl, ht, hb1⟩
    have hb2 := hb1.alloc hb1.size (.cells #[.slice (some ⟨g, 0, none⟩) P.length P.length, .bool true] 32)
    go_wp2_with fail
    go_at_call 16
    refine (ct _).mono ?_
    rintro e w2 ⟨rfl, rfl⟩
    go_wp2_with fail
    go_ret
    exact ⟨ret_bool (by rw [HM.out]; rfl), hb2⟩
  · have hx3 : (exceptB s && decide ((sufP s).length < 2)) = false := by
      cases hx : exceptB s with
      | false => rfl
      | true => rw [Bool.true_and, decide_eq_false (fun h => hx2 ⟨hx, h⟩)]
    rw [hx3, Bool.not_false, Bool.true_and] at hm
    cases hst : starB s with
    | false =>
      have hrp : restP s = sufP s := by unfold restP; rw [if_neg (by rw [hst]; simp)]
      have hrn : restN s = (bareL s).length := by unfold restN; rw [if_neg (by rw [hst]; simp)]; rfl
      rw [hrp, hrn] at hm
      have hway : (exceptB s = true ∧ ¬ ((sufP s).length : Int) < 2) ∨ (exceptB s = false ∧ ¬ (1 : Int) < ((sufP s).length : Int)) ∨ (exceptB s = false ∧ (1 : Int) < ((sufP s).length : Int) ∧ ((sufP s)[0] == [42]) = false) := by
        cases hx : exceptB s with
        | true => exact .inl ⟨rfl, fun h => hx2 ⟨hx, by omega⟩⟩
        | false =>
          right
          by_cases h1 : 1 < (sufP s).length
          · refine .inr ⟨rfl, by omega, ?_⟩
            unfold starB at hst
            rw [hx, decide_eq_true h1] at hst
            rw [List.head?_eq_getElem?, List.getElem?_eq_getElem hne] at hst
            rw [beq_eq_false_iff_ne]
            intro e
            rw [e] at hst
            simp at hst
          · exact .inl ⟨rfl, by omega⟩
      clear hst hrp hrn hx3 hx2
      have hodd : ∀ w3, ∀ x ∈ sufP s, ∀ W, Below w3.heap.size w3 W → Calls Tryd.prog 17 #[.string ⟨x.toArray⟩] W fun e W' => e = .returned (.bool (oddB x)) ∧ Below w3.heap.size w3 W' := fun w3 x hx => lift_below w3 (fun W => odd_any x W (by have := hP.1 x hx; omega))
      generalize hPP : sufP s = P at *
      generalize bareL s = X at *
      generalize exceptB s = E at *
      have hany := contains_any 17 enters_odd oddB P
      generalize P.any oddB = A at *
      by_cases h253 : X.length ≤ 253
      · rw [decide_eq_true h253] at hm
        have h253i : (X.length : Int) ≤ 253 := by omega
        have HM := Lib.hid hm
        clear hm
        rcases hway with ⟨rfl, hw1⟩ | ⟨rfl, hw1⟩ | ⟨rfl, hw1, hw2⟩
        all_goals
          go_enter Tryd.func12, Tryd.ntmps12
          go_wp2_with fail
          go_at_call 15
          refine cr.mono ?_
          rintro e w1 ⟨g, rfl, ht, hb1⟩
          have hb2 := fun b : Bool => hb1.alloc hb1.size (.cells #[.slice (some ⟨g, 0, none⟩) P.length P.length, .bool b] 32)
          have hbw := fun b : Bool => (Below.refl w1.heap.size w1).alloc (Nat.le_refl _) (.cells #[.slice (some ⟨g, 0, none⟩) P.length P.length, .bool b] 32)
          have hc0 := fun W hW => (txt_cell ht hne).2.2.2 W hW 0 hne
          have hc1 := fun b => hc0 _ (hbw b)
          simp only [Nat.zero_add] at hc1
          have ca := fun b => hany (.slice (some ⟨g, 0, none⟩) P.length P.length) _ (ht.below (hbw b) (Nat.le_refl _)) (by omega) (hodd _)
          generalize hQ : P[0] = Q at *
          clear hodd hany hc0 cr
          go_wp2_with fail
          go_at_call 16
          refine (ct _).mono ?_
          rintro e w2 ⟨rfl, rfl⟩
          go_wp2_with fail
          go_at_call 10
          refine (ca _).mono ?_
          rintro e w3 ⟨rfl, hb3⟩
          go_wp2_with fail
          go_ret
          exact ⟨ret_bool (by rw [HM.out]; rfl), (hb2 _).trans (hb3.mono (hb2 _).size)⟩
      · rw [decide_eq_false h253] at hm
        have h253i : ¬ (X.length : Int) ≤ 253 := by omega
        have HM := Lib.hid hm
        clear hm
        rcases hway with ⟨rfl, hw1⟩ | ⟨rfl, hw1⟩ | ⟨rfl, hw1, hw2⟩
        all_goals
          go_enter Tryd.func12, Tryd.ntmps12
          go_wp2_with fail
          go_at_call 15
          refine cr.mono ?_
          rintro e w1 ⟨g, rfl, ht, hb1⟩
          have hb2 := fun b : Bool => hb1.alloc hb1.size (.cells #[.slice (some ⟨g, 0, none⟩) P.length P.length, .bool b] 32)
          have hbw := fun b : Bool => (Below.refl w1.heap.size w1).alloc (Nat.le_refl _) (.cells #[.slice (some ⟨g, 0, none⟩) P.length P.length, .bool b] 32)
          have hc0 := fun W hW => (txt_cell ht hne).2.2.2 W hW 0 hne
          have hc1 := fun b => hc0 _ (hbw b)
          simp only [Nat.zero_add] at hc1
          generalize hQ : P[0] = Q at *
          clear hodd hany hc0 cr
          go_wp2_with fail
          go_at_call 16
          refine (ct _).mono ?_
          rintro e w2 ⟨rfl, rfl⟩
          go_wp2_with fail
          go_ret
          exact ⟨ret_bool (by rw [HM.out]; rfl), hb2 _⟩
    | true =>
      obtain ⟨hx, h1, l, hl, hlne, hsl⟩ := star_bare hst
      have hrp : restP s = l := by unfold restP; rw [if_pos hst, hl]; rfl
      have hbe : bareL s = 42 :: 46 :: joinL 46 l := by unfold bareL; rw [if_neg (by rw [hx]; simp), ← hsl]
      have hrn : restN s = (joinL 46 l).length := by unfold restN; rw [if_pos hst, hbe]; simp
      rw [hrp, hrn] at hm
      have hodd : ∀ w3, ∀ x ∈ l, ∀ W, Below w3.heap.size w3 W → Calls Tryd.prog 17 #[.string ⟨x.toArray⟩] W fun e W' => e = .returned (.bool (oddB x)) ∧ Below w3.heap.size w3 W' := fun w3 x hx => lift_below w3 (fun W => odd_any x W (by have := hP.1 x (by rw [hl]; exact List.mem_cons_of_mem _ hx); omega))
      rw [hx, hl] at cr
      rw [hbe] at ct hbl
      rw [hl] at h1
      have h1i : (1 : Int) < ((([42] : List UInt8) :: l).length : Int) := by omega
      have hany := contains_any 17 enters_odd oddB l
      have hll : (([42] : List UInt8) :: l).length = l.length + 1 := rfl
      rw [hll] at cr h1i
      have hl1 : l.length ≤ 4000000001 := by have := hP.2; rw [hl, hll] at this; omega
      clear hst hrp hrn hx hx2 hx3 hbe hsl hP hne
      generalize joinL 46 l = J at *
      generalize l.any oddB = A at *
      by_cases h253 : J.length ≤ 253
      · rw [decide_eq_true h253] at hm
        have h253i : (J.length : Int) ≤ 253 := by omega
        have HM := Lib.hid hm
        clear hm
        go_enter Tryd.func12, Tryd.ntmps12
        go_wp2_with fail
        go_at_call 15
        refine cr.mono ?_
        rintro e w1 ⟨g, rfl, ht, hb1⟩
        have htl := txt_tail ht
        have hc0 := fun W hW => (txt_cell ht (by simp)).2.2.2 W hW 0 (by simp)
        simp only [Nat.zero_add, List.getElem_cons_zero] at hc0
        have hbw := (Below.refl w1.heap.size w1).alloc (Nat.le_refl _) (.cells #[.slice (some ⟨g, 0, none⟩) (l.length + 1) (l.length + 1), .bool false] 32)
        have hc1 := hc0 _ hbw
        clear hc0
        go_wp2_with fail
        go_at_call 16
        refine (ct _).mono ?_
        rintro e w2 ⟨rfl, rfl⟩
        go_wp2_with fail
        go_at_call 10
        rw [Nat.add_sub_cancel] at htl
        have hb2 := hb1.alloc hb1.size (.cells #[.slice (some ⟨g, 1, none⟩) l.length l.length, .bool false] 32)
        have hbw2 := (Below.refl w1.heap.size w1).alloc (Nat.le_refl _) (.cells #[.slice (some ⟨g, 1, none⟩) l.length l.length, .bool false] 32)
        refine (hany _ _ (htl.below hbw2 (Nat.le_refl _)) (by omega) (hodd _)).mono ?_
        rintro e w3 ⟨rfl, hb3⟩
        go_wp2_with fail
        go_ret
        exact ⟨ret_bool (by rw [HM.out]; rfl), hb2.trans (hb3.mono hb2.size)⟩
      · rw [decide_eq_false h253] at hm
        have h253i : ¬ (J.length : Int) ≤ 253 := by omega
        have HM := Lib.hid hm
        clear hm
        go_enter Tryd.func12, Tryd.ntmps12
        go_wp2_with fail
        go_at_call 15
        refine cr.mono ?_
        rintro e w1 ⟨g, rfl, ht, hb1⟩
        have htl := txt_tail ht
        have hc0 := fun W hW => (txt_cell ht (by simp)).2.2.2 W hW 0 (by simp)
        simp only [Nat.zero_add, List.getElem_cons_zero] at hc0
        have hbw := (Below.refl w1.heap.size w1).alloc (Nat.le_refl _) (.cells #[.slice (some ⟨g, 0, none⟩) (l.length + 1) (l.length + 1), .bool false] 32)
        have hc1 := hc0 _ hbw
        clear hc0
        go_wp2_with fail
        go_at_call 16
        refine (ct _).mono ?_
        rintro e w2 ⟨rfl, rfl⟩
        go_wp2_with fail
        have hb2 := hb1.alloc hb1.size (.cells #[.slice (some ⟨g, 1, none⟩) l.length l.length, .bool false] 32)
        go_ret
        exact ⟨ret_bool (by rw [HM.out]; rfl), hb2⟩

theorem chk_any (s : List UInt8) (w : World) (hE : w.ShapedOpen Tryd.prog) (hs : s.length ≤ 4000000000) :
    Calls Tryd.prog 11 #[.string ⟨s.toArray⟩] w fun e w' => e = .returned (.bool (!mayL s)) ∧ Below w.heap.size w w' := by
  have cm := may_any s w hE hs
  generalize mayL s = M at *
  go_enter Tryd.func11, Tryd.ntmps11
  go_wp2_with fail
  go_at_call 12
  refine cm.mono ?_
  rintro e w1 ⟨rfl, hb1⟩
  go_wp2_with fail
  go_ret
  exact ⟨rfl, hb1⟩
theorem check_any (L : List (List UInt8)) (v : Value) (w : World) (hE : w.ShapedOpen Tryd.prog) (ht : Txt w v L) (hl : L.length ≤ 140737488351232) (hs : ∀ p ∈ L, p.length ≤ 4000000000) :
    Calls Tryd.prog 6 #[v] w fun e w' => e = .returned (.bool (checkL L)) ∧ Below w.heap.size w w' := by
  have hm : checkL L = (decide (L.length ≤ 1024) && !L.any fun s => !mayL s) := rfl
  have hbw := Below.refl w.heap.size w
  have ca := contains_any 11 enters_chk (fun s => !mayL s) L v w ht hl (fun x hx W hW => (chk_any x W (shaped_below hE hW) (hs x hx)).mono fun e W' ⟨he, hb⟩ => ⟨he, hW.trans (hb.mono hW.size)⟩)
  have hv : v = .slice none 0 0 ∧ L.length = 0 ∨ ∃ a c, v = .slice (some a) L.length c := by
    rcases ht with ⟨h1, h2⟩ | ⟨a, c, h1, _⟩
    · exact .inl ⟨h1, by rw [h2]; rfl⟩
    · exact .inr ⟨a, c, h1⟩
  clear ht
  generalize (L.any fun s => !mayL s) = A at *
  by_cases h : L.length ≤ 1024
  · rw [decide_eq_true h] at hm
    have hi : (L.length : Int) ≤ 1024 := by omega
    have HM := Lib.hid hm
    clear hm
    rcases hv with ⟨rfl, h0⟩ | ⟨a, c, rfl⟩
    all_goals
      go_enter Tryd.func6, Tryd.ntmps6
      go_wp2_with fail
      go_at_call 10
      refine ca.mono ?_
      rintro e w1 ⟨rfl, hb1⟩
      go_wp2_with fail
      go_ret
      exact ⟨ret_bool (by rw [HM.out]; rfl), hb1⟩
  · rw [decide_eq_false h] at hm
    have hi : ¬ (L.length : Int) ≤ 1024 := by omega
    have HM := Lib.hid hm
    clear hm
    rcases hv with ⟨rfl, h0⟩ | ⟨a, c, rfl⟩
    · omega
    · go_enter Tryd.func6, Tryd.ntmps6
      go_wp2_with fail
      go_ret
      exact ⟨ret_bool (by rw [HM.out]; rfl), hbw⟩
end Go.Proofs.YtaijdjmkmhpmpaaDoor
