/- A Book of two lists of texts: growText walked (written by mkbookgrow.py). -/
import Derived.Test.YtijobaecakhnjaaGreatDoorBookFill
import Derived.ArgAppend
import Derived.OneCell
set_option linter.unusedVariables false
set_option linter.unusedSimpArgs false
namespace Go.Proofs.YtijobaecakhnjaaGreatDoor
open Go.RowKit

theorem e_text : Elem1 Tryz.prog 23 9 (.string ⟨#[]⟩) 16 := ⟨Tryz.underlying23, info_parts (by kernel_rfl), rfl⟩
/-- 'append(v, x)' where v has no room, behind the making of the argument's block. -/
theorem wpList_grow_vals {P : Program} {t e : TypeId} {z : Value} {bytes : Nat} (E : Elem1 P t e z bytes) (w0 : World) {ops : Array Oper} {rest : List Oper} {o : Oper} {a : Act} {Q : Exit → Act → World → Prop} (hgd : o.guard = none) (s x : Operand)
    (ho : o.op = .call { callee := .builtin .append, args := #[s, x], argTypes := #[t, t] })
    (base : Nat) (ao : Option Addr) (n : Nat) (xs : List Value) (hs : a.eval s = .slice ao n n) (hown : w0.ownsRow base e 1 (.slice ao n n) n xs)
    (m : Nat) (hm0 : 0 < m) (news : List Value) (e' : TypeId) (hx : a.eval x = .slice (some ⟨w0.heap.size, 0, none⟩) m m) (hl : news.length = m) (h1 : ∀ u ∈ news, u.oneCell' = true)
    (h63 : n + m ≤ 140737488355328) (hbytes : (n + m) * bytes ≤ 140737488355328)
    (h : ∀ v' w', w'.ownsRow w0.heap.size e 1 v' (n + m) (xs ++ news) → w0.grownBy w' none → wpList P ops Q rest (a.put o.dst v') w') :
    wpList P ops Q (o :: rest) a (w0.alloc (.cells news.toArray e')) := by
  obtain ⟨i, hi, hz, hsize, hby⟩ := E.hi
  have hown1 := hown.alloc (.cells news.toArray e')
  refine wpList_append_grows _ hgd s x t ho e i z 1 bytes E.ht hi hz hsize hby E.hz (by decide) ao n n xs hs ?_ ?_ ?_ ⟨w0.heap.size, 0, none⟩ m m news hx (by omega) ?_ h1 (by omega) (by unfold maxLen; omega) hbytes ?_
  · rintro rfl
    rcases own_open hown with ⟨hv, h0, _⟩ | ⟨g, c, hv, _⟩
    · exact ⟨h0, h0⟩
    · injection hv with hv; cases hv
  · have := hown.1; omega
  · intro b hb j u hj
    subst hb
    rcases own_open hown1 with ⟨hv, h0, h2⟩ | ⟨g, c, hv, _, _, _, _, hc⟩
    · subst h2; cases hj
    · injection hv with hv
      injection hv with hv
      subst hv
      rw [Addr.add_lit, Nat.zero_add]
      exact hc j u hj
  · intro j u hj
    rw [Addr.add_lit, Nat.zero_add, World.cell?_alloc_at _ _ _ j rfl]
    simpa using hj
  · intro v' w' h2 h3
    exact h v' w' (own_base h2 (by simp)) (grown_trans2 (World.grownBy_alloc w0 _ _) h3)

section
variable {base : Nat} {w w' : World} {gk gt cap : Nat} {a b : Option Addr} {na nb : Nat} {xa xb : List Value} {la lb : Value}
theorem Pair.below (h : Pair base w gk gt cap a b na nb xa xb la lb) (hb : Below w.heap.size w w') : Pair base w' gk gt cap a b na nb xa xb la lb :=
  ⟨h.hb.below hb h.hb.lt, h.hgk, own_below h.ht hb, own_below h.ha hb, own_below h.hbv hb, h.hne⟩
theorem Pair.gt_blk (h : Pair base w gk gt cap a b na nb xa xb la lb) : ∃ cs, Blk w gt 79 cs ∧ base ≤ gt := by
  rcases h.ht.2 with ⟨hx, _⟩ | ⟨g', cap', cur, hx, hbg, hh, _⟩
  · cases hx
  · injection hx with hx
    injection hx with hx
    injection hx with hx
    subst hx
    exact ⟨_, hh, hbg⟩
theorem Pair.setL (h : Pair base w gk gt cap a b na nb xa xb la lb) (u : Value) : Pair base (w.setCell ⟨gt, 1, none⟩ u) gk gt cap a b na nb xa xb u lb := by
  obtain ⟨h1, hg⟩ := h.ht.stored 1 u
  obtain ⟨cs, hB, _⟩ := h.gt_blk
  refine ⟨h.hb.grown hg (fun e => ?_), h.hgk, h1, h.ha.kept hg (.inr (own_blk_ne h.ha hB (by decide))), h.hbv.kept hg (.inr (own_blk_ne h.hbv hB (by decide))), h.hne⟩
  injection e with e
  exact h.hb.ne_ hB (by decide) e
theorem Pair.setR (h : Pair base w gk gt cap a b na nb xa xb la lb) (u : Value) : Pair base (w.setCell ⟨gt, 4, none⟩ u) gk gt cap a b na nb xa xb la u := by
  obtain ⟨h1, hg⟩ := h.ht.stored 4 u
  obtain ⟨cs, hB, _⟩ := h.gt_blk
  refine ⟨h.hb.grown hg (fun e => ?_), h.hgk, h1, h.ha.kept hg (.inr (own_blk_ne h.ha hB (by decide))), h.hbv.kept hg (.inr (own_blk_ne h.hbv hB (by decide))), h.hne⟩
  injection e with e
  exact h.hb.ne_ hB (by decide) e
end
theorem reps_snoc (m : Value) (n : Nat) : List.replicate n m ++ [m] = List.replicate (n + 1) m := by rw [List.replicate_succ']

set_option maxRecDepth 100000 in
set_option maxHeartbeats 2000000 in
theorem growText_any (base : Nat) (w : World) (gk gt cap : Nat) (a b : Option Addr) (na nb : Nat) (hP : Pair base w gk gt cap a b na nb (List.replicate na (markV 1)) (List.replicate nb (markV 2)) nilS nilS) (hna : na ≤ 4000000000) (hnb : nb ≤ 4000000000) (hbw : base ≤ w.heap.size) :
    Calls Tryz.prog 43 #[.pointer (some ⟨gk, 0, none⟩)] w fun e w' => e = .returned (.tuple #[]) ∧ ∃ la lb, Pair base w' gk gt cap a b na nb (List.replicate na (markV 1)) (List.replicate nb (markV 2)) la lb ∧ w'.ownsRow base 9 1 la (na + 40) (List.replicate (na + 40) (markV 1)) ∧ w'.ownsRow base 9 1 lb (nb + 40) (List.replicate (nb + 40) (markV 2)) ∧ Below base w w' := by
  have cm1 := fun W => markText_any 1 (by decide) W
  have cm2 := fun W => markText_any 2 (by decide) W
  go_enter Tryz.func43, Tryz.ntmps43
  go_wp2_with fail
  go_loopw [2] (fun i wr => ∃ (k : Nat) (la lb : Value), k ≤ 2 ∧ i = .int .i64 k ∧ Pair base wr gk gt cap a b na nb (List.replicate na (markV 1)) (List.replicate nb (markV 2)) la lb ∧ Below base w wr ∧ Hid (k = 0 → la = nilS) ∧ Hid (k ≤ 1 → lb = nilS) ∧ Hid (1 ≤ k → wr.ownsRow base 9 1 la (na + 40) (List.replicate (na + 40) (markV 1))) ∧ Hid (2 ≤ k → wr.ownsRow base 9 1 lb (nb + 40) (List.replicate (nb + 40) (markV 2)))) (fun i _ => 2 - (intOf i).toNat)
  case atStart => exact ⟨0, _, _, by omega, rfl, hP, Below.refl _ _, fun _ => rfl, fun _ => rfl, fun h => by omega, fun h => by omega⟩
  case round =>
    obtain ⟨V, rfl⟩ : ∃ V, V = wr := ⟨wr, rfl⟩
    obtain ⟨k, la, lb, hk, rfl, hPr, hbl, H1, H2, H3, H4⟩ := hrel
    have hc3 := hPr.hb.cell 3
    have e3 : (bookC 2 (.slice (some ⟨gt, 0, none⟩) 2 cap))[3]? = some (.slice (some ⟨gt, 0, none⟩) 2 cap) := rfl
    rw [e3] at hc3
    have r0 := hPr.ht.cellAt 0 (by omega)
    have r1 := hPr.ht.cellAt 1 (by omega)
    have r2 := hPr.ht.cellAt 2 (by omega)
    have r3 := hPr.ht.cellAt 3 (by omega)
    have r4 := hPr.ht.cellAt 4 (by omega)
    have r5 := hPr.ht.cellAt 5 (by omega)
    simp only [List.getElem?_cons_zero, List.getElem?_cons_succ] at r0 r1 r2 r3 r4 r5
    have hsz := hbl.size
    have hgtl := (hPr.ht.lt gt rfl).2
    have hgkl := hPr.hb.lt
    obtain ⟨csT, hBT, hbT⟩ := hPr.gt_blk
    obtain rfl | rfl | rfl : k = 0 ∨ k = 1 ∨ k = 2 := by omega
    · obtain rfl : la = nilS := H1.out (by omega)
      have hP1 := Lib.hid hPr
      clear hPr
      try rw [show ((1 : Nat) : Int) = 1 from rfl]
      go_wp2_with fail
      go_loopw [4, 5] (fun v i w2 => ∃ j : Nat, j ≤ 40 ∧ i = .int .i64 j ∧ Blk w2 V.heap.size 79 #[.slice a na na, nilS, .int .i64 1] ∧ Below V.heap.size V w2 ∧ V.heap.size < w2.heap.size ∧ ((j = 0 ∧ v = .slice a na na) ∨ (1 ≤ j ∧ w2.ownsRow (V.heap.size + 1) 9 1 v (na + j) (List.replicate (na + j) (markV 1))))) (fun _ i _ => 40 - (intOf i).toNat)
      case atStart => exact ⟨0, Nat.zero_le _, rfl, Blk.new _ _ _, (Below.refl _ _).alloc (Nat.le_refl _) _, by simp, .inl ⟨rfl, rfl⟩⟩
      case round =>
        obtain ⟨j, hj, rfl, hB2, hb2, hs2, hv⟩ := hrel
        have c0 := hB2.cell 0
        have c2 := hB2.cell 2
        have e0 : (#[.slice a na na, nilS, .int .i64 1] : Array Value)[0]? = some (.slice a na na) := rfl
        have e2 : (#[.slice a na na, nilS, .int .i64 1] : Array Value)[2]? = some (.int .i64 1) := rfl
        rw [e0] at c0
        rw [e2] at c2
        clear e0 e2
        by_cases hlt : j < 40
        · have hP2 := hP1.out.below hb2
          have HB2 := Lib.hid hB2
          have Hb2 := Lib.hid hb2
          clear hB2 hb2
          rcases hv with ⟨rfl, rfl⟩ | ⟨hj1, hown⟩
          · have hown := hP2.ha
            have HP2 := Lib.hid hP2
            clear hP2
            go_wp2_with (first | (go_at_call 87; refine (cm1 _).mono ?_; rintro e w1 ⟨rfl, rfl⟩) | (at_builtin; refine wpList_grow_vals e_text _ rfl _ _ rfl base _ _ _ rfl hown 1 (by decide) [markV 1] _ rfl rfl (fun u hu => by simp only [List.mem_cons, List.not_mem_nil, or_false] at hu; rcases hu with rfl; rfl) (by omega) (by omega) ?_))
            intro v' w3 hown3 hgr
            rw [reps_snoc] at hown3
            go_wp2_with fail
            go_roundw
            case rel => exact ⟨1, by omega, by go_num, HB2.out.grown hgr (by simp), Hb2.out.grown hgr (by omega) (fun _ h => by cases h), Nat.lt_of_lt_of_le hs2 hgr.size, .inr ⟨Nat.le_refl _, own_base hown3 (by omega)⟩⟩
            case measure => simp [intOf]
          · have HP2 := Lib.hid hP2
            clear hP2
            have hgb := fun g' h' => (hown.lt g' h').1
            go_wp2_with (first | (go_at_call 87; refine (cm1 _).mono ?_; rintro e w1 ⟨rfl, rfl⟩) | (at_builtin; refine wpList_append_vals e_text _ rfl _ _ rfl (V.heap.size + 1) _ _ _ rfl hown 1 [markV 1] _ rfl rfl (fun u hu => by simp only [List.mem_cons, List.not_mem_nil, or_false] at hu; rcases hu with rfl; rfl) (by omega) (by omega) (by omega) ?_))
            intro v' w3 hown3 hgr _
            rw [reps_snoc] at hown3
            go_wp2_with fail
            go_roundw
            case rel => exact ⟨j + 1, by omega, by go_num, HB2.out.grown hgr (fun e => by have := hgb _ e.symm; omega), Hb2.out.grown hgr (by omega) (fun g' h' => by have := hgb g' h'; omega), Nat.lt_of_lt_of_le hs2 hgr.size, .inr ⟨by omega, hown3⟩⟩
            case measure => simp [intOf]; omega
        · obtain rfl : j = 40 := by omega
          rcases hv with ⟨h0, _⟩ | ⟨_, hown⟩
          · omega
          · obtain ⟨ad, c, rfl⟩ := own_form hown
            have hP2 := hP1.out.below hb2
            have q3 := hP2.hb.cell 3
            have e3' : (bookC 2 (.slice (some ⟨gt, 0, none⟩) 2 cap))[3]? = some (.slice (some ⟨gt, 0, none⟩) 2 cap) := rfl
            rw [e3'] at q3
            have qT := hP2.ht.cellAt 1 (by omega)
            simp only [List.getElem?_cons_zero, List.getElem?_cons_succ] at qT
            have fT := hP2.ht.frozenAt 1
            have hBT2 := hBT.below hb2 hgtl
            have hP3 := hP2.setL (.slice ad (na + 40) c)
            have hown3 := ownsRow_setCell_other hown (a := ⟨gt, 1, none⟩) (own_blk_ne hown hBT2 (by decide)) (.slice ad (na + 40) c)
            have hb3 := (hbl.trans (hb2.mono (Nat.le_trans hbw hsz))).setCell (p := ⟨gt, 1, none⟩) hbT (.slice ad (na + 40) c)
            have hown4 := own_base hown3 (show base ≤ V.heap.size + 1 by omega)
            have HP3 := Lib.hid hP3
            have HO4 := Lib.hid hown4
            have HB3 := Lib.hid hb3
            clear hP2 hP3 hown hown3 hown4 hb3 hB2 hb2
            go_wp2_with fail
            go_roundw
            case rel => exact ⟨1, _, _, by omega, by go_num, HP3.out, HB3.out, fun h => by omega, fun _ => H2.out (by omega), fun _ => HO4.out, fun h => by omega⟩
            case measure => simp [intOf]
    · obtain rfl : lb = nilS := H2.out (by omega)
      have hP1 := Lib.hid hPr
      clear hPr
      try rw [show ((1 : Nat) : Int) = 1 from rfl]
      go_wp2_with fail
      go_loopw [4, 5] (fun v i w2 => ∃ j : Nat, j ≤ 40 ∧ i = .int .i64 j ∧ Blk w2 V.heap.size 79 #[.slice b nb nb, nilS, .int .i64 2] ∧ Below V.heap.size V w2 ∧ V.heap.size < w2.heap.size ∧ ((j = 0 ∧ v = .slice b nb nb) ∨ (1 ≤ j ∧ w2.ownsRow (V.heap.size + 1) 9 1 v (nb + j) (List.replicate (nb + j) (markV 2))))) (fun _ i _ => 40 - (intOf i).toNat)
      case atStart => exact ⟨0, Nat.zero_le _, rfl, Blk.new _ _ _, (Below.refl _ _).alloc (Nat.le_refl _) _, by simp, .inl ⟨rfl, rfl⟩⟩
      case round =>
        obtain ⟨j, hj, rfl, hB2, hb2, hs2, hv⟩ := hrel
        have c0 := hB2.cell 0
        have c2 := hB2.cell 2
        have e0 : (#[.slice b nb nb, nilS, .int .i64 2] : Array Value)[0]? = some (.slice b nb nb) := rfl
        have e2 : (#[.slice b nb nb, nilS, .int .i64 2] : Array Value)[2]? = some (.int .i64 2) := rfl
        rw [e0] at c0
        rw [e2] at c2
        clear e0 e2
        by_cases hlt : j < 40
        · have hP2 := hP1.out.below hb2
          have HB2 := Lib.hid hB2
          have Hb2 := Lib.hid hb2
          clear hB2 hb2
          rcases hv with ⟨rfl, rfl⟩ | ⟨hj1, hown⟩
          · have hown := hP2.hbv
            have HP2 := Lib.hid hP2
            clear hP2
            go_wp2_with (first | (go_at_call 87; refine (cm2 _).mono ?_; rintro e w1 ⟨rfl, rfl⟩) | (at_builtin; refine wpList_grow_vals e_text _ rfl _ _ rfl base _ _ _ rfl hown 1 (by decide) [markV 2] _ rfl rfl (fun u hu => by simp only [List.mem_cons, List.not_mem_nil, or_false] at hu; rcases hu with rfl; rfl) (by omega) (by omega) ?_))
            intro v' w3 hown3 hgr
            rw [reps_snoc] at hown3
            go_wp2_with fail
            go_roundw
            case rel => exact ⟨1, by omega, by go_num, HB2.out.grown hgr (by simp), Hb2.out.grown hgr (by omega) (fun _ h => by cases h), Nat.lt_of_lt_of_le hs2 hgr.size, .inr ⟨Nat.le_refl _, own_base hown3 (by omega)⟩⟩
            case measure => simp [intOf]
          · have HP2 := Lib.hid hP2
            clear hP2
            have hgb := fun g' h' => (hown.lt g' h').1
            go_wp2_with (first | (go_at_call 87; refine (cm2 _).mono ?_; rintro e w1 ⟨rfl, rfl⟩) | (at_builtin; refine wpList_append_vals e_text _ rfl _ _ rfl (V.heap.size + 1) _ _ _ rfl hown 1 [markV 2] _ rfl rfl (fun u hu => by simp only [List.mem_cons, List.not_mem_nil, or_false] at hu; rcases hu with rfl; rfl) (by omega) (by omega) (by omega) ?_))
            intro v' w3 hown3 hgr _
            rw [reps_snoc] at hown3
            go_wp2_with fail
            go_roundw
            case rel => exact ⟨j + 1, by omega, by go_num, HB2.out.grown hgr (fun e => by have := hgb _ e.symm; omega), Hb2.out.grown hgr (by omega) (fun g' h' => by have := hgb g' h'; omega), Nat.lt_of_lt_of_le hs2 hgr.size, .inr ⟨by omega, hown3⟩⟩
            case measure => simp [intOf]; omega
        · obtain rfl : j = 40 := by omega
          rcases hv with ⟨h0, _⟩ | ⟨_, hown⟩
          · omega
          · obtain ⟨ad, c, rfl⟩ := own_form hown
            have hP2 := hP1.out.below hb2
            have q3 := hP2.hb.cell 3
            have e3' : (bookC 2 (.slice (some ⟨gt, 0, none⟩) 2 cap))[3]? = some (.slice (some ⟨gt, 0, none⟩) 2 cap) := rfl
            rw [e3'] at q3
            have qT := hP2.ht.cellAt 4 (by omega)
            simp only [List.getElem?_cons_zero, List.getElem?_cons_succ] at qT
            have fT := hP2.ht.frozenAt 4
            have hBT2 := hBT.below hb2 hgtl
            have hP3 := hP2.setR (.slice ad (nb + 40) c)
            have hown3 := ownsRow_setCell_other hown (a := ⟨gt, 4, none⟩) (own_blk_ne hown hBT2 (by decide)) (.slice ad (nb + 40) c)
            have hb3 := (hbl.trans (hb2.mono (Nat.le_trans hbw hsz))).setCell (p := ⟨gt, 4, none⟩) hbT (.slice ad (nb + 40) c)
            have hown4 := own_base hown3 (show base ≤ V.heap.size + 1 by omega)
            have hl0 := H3.out (by omega)
            have hl1 := ownsRow_setCell_other (own_below hl0 hb2) (a := ⟨gt, 4, none⟩) (own_blk_ne (own_below hl0 hb2) hBT2 (by decide)) (.slice ad (nb + 40) c)
            have HL1 := Lib.hid hl1
            clear hl0 hl1
            have HP3 := Lib.hid hP3
            have HO4 := Lib.hid hown4
            have HB3 := Lib.hid hb3
            clear hP2 hP3 hown hown3 hown4 hb3 hB2 hb2
            go_wp2_with fail
            go_roundw
            case rel => exact ⟨2, _, _, by omega, by go_num, HP3.out, HB3.out, fun h => by omega, fun h => by omega, fun _ => HL1.out, fun _ => HO4.out⟩
            case measure => simp [intOf]
    · have hP1 := Lib.hid hPr
      clear hPr
      go_wp2_with fail
      go_end0
      exact ⟨rfl, _, _, hP1.out, H3.out (by omega), H4.out (by omega), hbl⟩
end Go.Proofs.YtijobaecakhnjaaGreatDoor
