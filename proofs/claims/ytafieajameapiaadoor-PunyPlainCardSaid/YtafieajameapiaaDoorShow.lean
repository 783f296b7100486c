/- What is shown of a part of a host's name, plain; the walks of puny.Show and the reference's Show. -/
import Derived.Test.YtafieajameapiaaDoorRLabel
import Derived.Test.YtafieajameapiaaDoorTellMath
set_option linter.unusedVariables false
set_option linter.unusedSimpArgs false
namespace Go.Proofs.YtafieajameapiaaDoor
open Go.RowKit

attribute [local go_sem] few_append

theorem low_plain (c : UInt8) : (lowB c).toNat < 128 ↔ c.toNat < 128 := by
  rw [lowB_nat]; unfold lowN; split <;> omega
theorem plain_lower (s : List UInt8) : plainL (lowerL s) = plainL s := by
  unfold plainL lowerL
  rw [List.all_map]
  congr 1
  funext c
  rw [Bool.eq_iff_iff]
  simp [low_plain]
theorem plainL_iff {s : List UInt8} : plainL s = true ↔ ∀ c ∈ s, c.toNat < 128 := by
  unfold plainL; rw [List.all_eq_true]; simp
theorem told_plain (n b k : Nat) : ∀ c ∈ toldL n b k, c.toNat < 128 := fun c hc => by
  obtain ⟨d, hd, rfl⟩ := told_dig n n b k (Nat.le_refl _) c hc
  rw [digB_nat hd]; exact digB_lt hd
theorem passS_plain (m p : Nat) : ∀ (pre : List Nat) (st : ES), (∀ c ∈ st.out, c.toNat < 128) → ∀ c ∈ (passS m p pre st).out, c.toNat < 128
  | [], st, h => h
  | x :: pre, st, h => by
    rw [passS_cons]
    refine passS_plain m p pre _ ?_
    unfold stepS
    split
    · exact h
    · split
      · intro c hc
        rcases List.mem_append.1 hc with hc | hc
        · exact h c hc
        · exact told_plain _ _ _ c hc
      · exact h
theorem runS_plain (R : List Nat) (p : Nat) : ∀ (ms : List Nat) (x : Nat × ES), (∀ c ∈ x.2.out, c.toNat < 128) → ∀ c ∈ (runS R p ms x).2.out, c.toNat < 128
  | [], x, h => h
  | m :: ms, x, h => runS_plain R p ms _ (passS_plain m p R _ h)
theorem startOut_plain (R : List Nat) : ∀ c ∈ startOut R, c.toNat < 128 := by
  intro c hc
  rcases List.mem_append.1 hc with hc | hc
  · obtain ⟨x, hx, rfl⟩ := List.mem_map.1 hc
    have := (List.mem_filter.1 hx).2
    simp only [decide_eq_true_eq] at this
    rw [u8_of (by omega)]; exact this
  · split at hc
    · simp only [List.mem_singleton] at hc
      subst hc; decide
    · simp at hc
theorem encodeL_plain (s : List UInt8) : ∀ c ∈ (encodeL s).1, c.toNat < 128 := by
  unfold encodeL
  split
  · intro c hc; simp at hc
  · split
    · exact runS_plain _ _ _ _ (startOut_plain _)
    · intro c hc; simp at hc

/-- What is shown of a part. -/
def showL (s : List UInt8) : List UInt8 := if (labelL s).2 ≠ 0 ∨ fewL (lowerL s) = false ∨ plainL s = false then s else (decode ((lowerL s).drop 4)).1

theorem finL_zero {u : List UInt8} (h : (finL u).2 = 0) : finL u = (u, 0) := by
  unfold finL at h ⊢
  split
  · rename_i c; rw [if_pos c] at h; cases h
  · rfl
theorem labelL_zero {s : List UInt8} (h : (labelL s).2 = 0) : s ≠ [] ∧ Lib.validD s = true ∧
    ((plainL s = false ∧ (encodeL (lowerL s)).2 = 0 ∧ labelL s = (fewB ++ (encodeL (lowerL s)).1, 0) ∧ (fewB ++ (encodeL (lowerL s)).1).length ≤ 63) ∨
     (plainL s = true ∧ fewL (lowerL s) = true ∧ (decode ((lowerL s).drop 4)).2 = 0 ∧ plainL (decode ((lowerL s).drop 4)).1 = false ∧ (encodeL (decode ((lowerL s).drop 4)).1).1 = (lowerL s).drop 4 ∧ labelL s = (lowerL s, 0) ∧ s.length ≤ 63) ∨
     (plainL s = true ∧ fewL (lowerL s) = false ∧ labelL s = (lowerL s, 0) ∧ s.length ≤ 63)) := by
  have hfin : ∀ {u}, (finL u).2 = 0 → finL u = (u, 0) ∧ u.length ≤ 63 := fun {u} h => by
    unfold finL at h ⊢
    split
    · rename_i c; rw [if_pos c] at h; cases h
    · exact ⟨rfl, by omega⟩
  have hul : (lowerL s).length = s.length := by simp [lowerL]
  by_cases h0 : s = [] ∨ Lib.validD s = false
  · unfold labelL at h; rw [if_pos h0] at h; cases h
  have h1 : s ≠ [] := fun h => h0 (.inl h)
  have hv : Lib.validD s = true := by cases h : Lib.validD s with | true => rfl | false => exact absurd (.inr h) h0
  refine ⟨h1, hv, ?_⟩
  rw [labelL_else h1 hv, plain_lower] at h ⊢
  by_cases hp : plainL s = false
  · rw [if_pos hp] at h ⊢
    by_cases he : (encodeL (lowerL s)).2 ≠ 0
    · rw [if_pos he] at h; cases h
    · rw [if_neg he] at h ⊢
      exact .inl ⟨hp, by omega, (hfin h).1, (hfin h).2⟩
  · rw [if_neg hp] at h ⊢
    have hp' : plainL s = true := by simpa using hp
    by_cases hf : fewL (lowerL s) = true
    · rw [if_pos hf] at h ⊢
      by_cases hd : (decode ((lowerL s).drop 4)).2 ≠ 0 ∨ plainL (decode ((lowerL s).drop 4)).1 = true
      · rw [if_pos hd] at h; cases h
      · rw [if_neg hd] at h ⊢
        by_cases he : (encodeL (decode ((lowerL s).drop 4)).1).1 ≠ (lowerL s).drop 4
        · rw [if_pos he] at h; cases h
        · rw [if_neg he] at h ⊢
          obtain ⟨a, b⟩ := hfin h
          refine .inr (.inl ⟨hp', hf, ?_, ?_, Classical.byContradiction he, a, by omega⟩)
          · exact Classical.byContradiction fun h => hd (.inl h)
          · cases h : plainL (decode ((lowerL s).drop 4)).1 with | false => rfl | true => exact absurd (.inr h) hd
    · rw [if_neg hf] at h ⊢
      obtain ⟨a, b⟩ := hfin h
      exact .inr (.inr ⟨hp', by simpa using hf, a, by omega⟩)
theorem labelL_err {s : List UInt8} (h : (labelL s).2 ≠ 0) : labelL s = ([], 5) := by
  have hfin : ∀ {u}, (finL u).2 ≠ 0 → finL u = ([], 5) := fun {u} h => by
    unfold finL at h ⊢
    split
    · rfl
    · rename_i c; rw [if_neg c] at h; exact absurd rfl h
  unfold labelL at h ⊢
  repeat' split
  all_goals first | rfl | (simp_all; done) | skip
  all_goals (simp only [*, if_true, if_false] at h; exact hfin (by simpa using h))

set_option maxRecDepth 100000 in
set_option maxHeartbeats 4000000 in
theorem show_any (s : List UInt8) (w : World) (hs : s.length ≤ 1000) (hT : Lib.Utf8Tabs (validRen.g 3) (validRen.g 4) w) :
    Calls Tryd.prog 14 #[.string ⟨s.toArray⟩] w fun e w' => e = .returned (.string ⟨(showL s).toArray⟩) ∧ Below w.heap.size w w' := by
  have hul : (lowerL s).length = s.length := by simp [lowerL]
  have hbw := Below.refl w.heap.size w
  have hsh : showL s = if (labelL s).2 ≠ 0 ∨ fewL (lowerL s) = false ∨ plainL s = false then s else (decode ((lowerL s).drop 4)).1 := rfl
  have hz := @labelL_zero s
  have clab := lift_tabs w hT (fun W hTW => label_any s W hs hTW)
  have cl := lift_below w (fun W => lower_any s W (by omega))
  have hep := encodeL_plain (lowerL s)
  have hpl := plain_lower s
  generalize lowerL s = u at *
  have ccut := lift_same w (fun W => cut_any u W)
  by_cases he : (labelL s).2 = 0
  · obtain ⟨_, _, hz⟩ := hz he
    have hcap : ((labelL s).1).length ≤ 63 := by
      rcases hz with ⟨_, _, h, h2⟩ | ⟨_, _, _, _, _, h, h2⟩ | ⟨_, _, h, h2⟩
      all_goals (rw [h]; dsimp only; omega)
    generalize labelL s = r at *
    obtain ⟨l, e⟩ := r
    simp only [encV] at he hsh hz clab hcap
    subst he
    cases hf : fewL u with
    | false =>
      rw [hf] at ccut hsh
      have hH : Hid (showL s = s) := by show _ = _; rw [hsh, if_pos (.inr (.inl rfl))]
      clear hsh hz hpl hep hul
      go_enter Tryd.func14, Tryd.ntmps14
      go_wp2_with (first | (go_at_call 12; refine (clab _ (by assumption)).mono ?_; rintro e w1 ⟨rfl, hb1⟩) | (go_at_call 18; refine (cl _ (by assumption)).mono ?_; rintro e w1 ⟨rfl, hb1⟩) | (go_at_call 30; refine (ccut _ (by assumption)).mono ?_; rintro e w1 ⟨rfl, hb1⟩))
      all_goals
        go_ret
        exact ⟨ret_str hH.out.symm, by assumption⟩
    | true =>
      rw [hf] at ccut hsh
      simp only [if_true] at ccut
      have hfw := few_whole hf
      cases hp : plainL s with
      | false =>
        have hH : Hid (showL s = s) := by show _ = _; rw [hsh, if_pos (.inr (.inr hp))]
        have hcmp : (fewB ++ u.drop 4 == l) = false := by
          rw [beq_eq_false_iff_ne, ← hfw]
          rintro rfl
          rcases hz with ⟨_, _, h, _⟩ | ⟨h, _⟩ | ⟨h, _⟩
          · have : plainL u = true := by
              rw [plainL_iff]
              intro c hc
              have hu := (Prod.mk.injEq .. ▸ h : _ ∧ _).1
              rw [hu] at hc
              rcases List.mem_append.1 hc with hc | hc
              · exact (by decide : ∀ c ∈ fewB, c.toNat < 128) c hc
              · exact hep c hc
            rw [hpl, hp] at this
            cases this
          · rw [hp] at h; cases h
          · rw [hp] at h; cases h
        have hbl : (u.drop 4).length ≤ 1000 := by simp; omega
        generalize u.drop 4 = bare at *
        clear hsh hz hpl hep hul hfw hp
        go_enter Tryd.func14, Tryd.ntmps14
        go_wp2_with (first | (go_at_call 12; refine (clab _ (by assumption)).mono ?_; rintro e w1 ⟨rfl, hb1⟩) | (go_at_call 18; refine (cl _ (by assumption)).mono ?_; rintro e w1 ⟨rfl, hb1⟩) | (go_at_call 30; refine (ccut _ (by assumption)).mono ?_; rintro e w1 ⟨rfl, hb1⟩))
        all_goals
          go_ret
          exact ⟨ret_str hH.out.symm, by assumption⟩
      | true =>
        rw [hp] at hsh
        have hH : Hid (showL s = (decode (u.drop 4)).1) := by show _ = _; rw [hsh, if_neg (by simp)]
        have hlu : l = u ∧ (decode (u.drop 4)).2 = 0 := by
          rcases hz with ⟨h, _⟩ | ⟨_, _, h, _, _, h2, _⟩ | ⟨_, h, _⟩
          · rw [hp] at h; cases h
          · exact ⟨(Prod.mk.injEq .. ▸ h2 : _ ∧ _).1, h⟩
          · rw [hf] at h; cases h
        obtain ⟨rfl, hd0⟩ := hlu
        have hcmp : (fewB ++ l.drop 4 == l) = true := by rw [beq_iff_eq]; exact hfw.symm
        have cd := lift_below w (fun W => decode_any (l.drop 4) W (by simp; omega))
        have hbl : (l.drop 4).length ≤ 1000 := by simp; omega
        generalize l.drop 4 = bare at *
        generalize decode bare = d at *
        obtain ⟨t, e⟩ := d
        simp only [resV] at cd hd0 hH
        subst hd0
        clear hsh hz hpl hep hul hfw hp
        go_enter Tryd.func14, Tryd.ntmps14
        go_wp2_with (first | (go_at_call 12; refine (clab _ (by assumption)).mono ?_; rintro e w1 ⟨rfl, hb1⟩) | (go_at_call 18; refine (cl _ (by assumption)).mono ?_; rintro e w1 ⟨rfl, hb1⟩) | (go_at_call 30; refine (ccut _ (by assumption)).mono ?_; rintro e w1 ⟨rfl, hb1⟩) | (go_at_call 17; refine (cd _ (by assumption)).mono ?_; rintro e w1 ⟨rfl, hb1⟩))
        all_goals
          go_ret
          exact ⟨ret_str hH.out.symm, by assumption⟩
  · have hH : Hid (showL s = s) := by show _ = _; rw [hsh, if_pos (.inl he)]
    rw [labelL_err he] at clab
    simp only [encV] at clab
    clear hsh hz hpl hep hul he
    cases hf : fewL u
    all_goals
      rw [hf] at ccut
      go_enter Tryd.func14, Tryd.ntmps14
      go_wp2_with (first | (go_at_call 12; refine (clab _ (by assumption)).mono ?_; rintro e w1 ⟨rfl, hb1⟩) | (go_at_call 18; refine (cl _ (by assumption)).mono ?_; rintro e w1 ⟨rfl, hb1⟩) | (go_at_call 30; refine (ccut _ (by assumption)).mono ?_; rintro e w1 ⟨rfl, hb1⟩))
      all_goals
        go_ret
        exact ⟨ret_str hH.out.symm, by assumption⟩

set_option maxRecDepth 100000 in
set_option maxHeartbeats 4000000 in
theorem rshow_any (s : List UInt8) (w : World) (hs : s.length ≤ 1000) :
    Calls Tryd.prog 15 #[.string ⟨s.toArray⟩] w fun e w' => e = .returned (.string ⟨(showL s).toArray⟩) ∧ Below w.heap.size w w' := by
  have hul : (lowerL s).length = s.length := by simp [lowerL]
  have hbw := Below.refl w.heap.size w
  have hsh : showL s = if (labelL s).2 ≠ 0 ∨ fewL (lowerL s) = false ∨ plainL s = false then s else (decode ((lowerL s).drop 4)).1 := rfl
  have hz := @labelL_zero s
  have clab := lift_below w (fun W => rlabel_any s W hs)
  have cl := lift_below w (fun W => rlower_any s W (by omega))
  have cp := lift_same w (fun W => rplain_any s W (by omega))
  generalize lowerL s = u at *
  have cf := lift_same w (fun W => few_any u W (by omega))
  by_cases he : (labelL s).2 = 0
  · obtain ⟨_, _, hz⟩ := hz he
    generalize labelL s = r at *
    obtain ⟨l, e⟩ := r
    simp only [encV] at he hsh hz clab
    subst he
    cases hf : fewL u with
    | false =>
      rw [hf] at cf hsh
      have hH : Hid (showL s = s) := by show _ = _; rw [hsh, if_pos (.inr (.inl rfl))]
      clear hsh hz hul
      go_enter Tryd.func15, Tryd.ntmps15
      go_wp2_with (first | (go_at_call 13; refine (clab _ (by assumption)).mono ?_; rintro e w1 ⟨rfl, hb1⟩) | (go_at_call 32; refine (cl _ (by assumption)).mono ?_; rintro e w1 ⟨rfl, hb1⟩) | (go_at_call 34; refine (cf _ (by assumption)).mono ?_; rintro e w1 ⟨rfl, hb1⟩) | (go_at_call 33; refine (cp _ (by assumption)).mono ?_; rintro e w1 ⟨rfl, hb1⟩))
      all_goals
        go_ret
        exact ⟨ret_str hH.out.symm, by assumption⟩
    | true =>
      rw [hf] at cf hsh
      cases hp : plainL s with
      | false =>
        rw [hp] at cp
        have hH : Hid (showL s = s) := by show _ = _; rw [hsh, if_pos (.inr (.inr hp))]
        clear hsh hz hul hp
        go_enter Tryd.func15, Tryd.ntmps15
        go_wp2_with (first | (go_at_call 13; refine (clab _ (by assumption)).mono ?_; rintro e w1 ⟨rfl, hb1⟩) | (go_at_call 32; refine (cl _ (by assumption)).mono ?_; rintro e w1 ⟨rfl, hb1⟩) | (go_at_call 34; refine (cf _ (by assumption)).mono ?_; rintro e w1 ⟨rfl, hb1⟩) | (go_at_call 33; refine (cp _ (by assumption)).mono ?_; rintro e w1 ⟨rfl, hb1⟩))
        all_goals
          go_ret
          exact ⟨ret_str hH.out.symm, by assumption⟩
      | true =>
        rw [hp] at hsh cp
        have hH : Hid (showL s = (decode (u.drop 4)).1) := by show _ = _; rw [hsh, if_neg (by simp)]
        have hlu : l = u ∧ (decode (u.drop 4)).2 = 0 := by
          rcases hz with ⟨h, _⟩ | ⟨_, _, h, _, _, h2, _⟩ | ⟨_, h, _⟩
          · rw [hp] at h; cases h
          · exact ⟨(Prod.mk.injEq .. ▸ h2 : _ ∧ _).1, h⟩
          · rw [hf] at h; cases h
        obtain ⟨rfl, hd0⟩ := hlu
        have hfw := few_whole hf
        have hu4 : 4 ≤ l.length := by have := congrArg List.length hfw; rw [List.length_append, show fewB.length = 4 from rfl] at this; omega
        have hl1 : l.length ≤ 1000 := by omega
        have cd := lift_below w (fun W => rdecode_any (l.drop 4) W (by simp; omega))
        have htk : List.take (l.length - 4) (List.drop 4 l) = l.drop 4 := List.take_of_length_le (by simp)
        generalize hb : l.drop 4 = bare at *
        generalize decode bare = d at *
        obtain ⟨t, e⟩ := d
        simp only [resV] at cd hd0 hH
        subst hd0
        clear hsh hz hul hfw hp
        go_enter Tryd.func15, Tryd.ntmps15
        go_wp2_with (first | (go_at_call 13; refine (clab _ (by assumption)).mono ?_; rintro e w1 ⟨rfl, hb1⟩) | (go_at_call 32; refine (cl _ (by assumption)).mono ?_; rintro e w1 ⟨rfl, hb1⟩) | (go_at_call 34; refine (cf _ (by assumption)).mono ?_; rintro e w1 ⟨rfl, hb1⟩) | (go_at_call 33; refine (cp _ (by assumption)).mono ?_; rintro e w1 ⟨rfl, hb1⟩) | (go_at_call 35; refine (cd _ (by assumption)).mono ?_; rintro e w1 ⟨rfl, hb1⟩))
        all_goals
          go_ret
          exact ⟨ret_str hH.out.symm, by assumption⟩
  · have hH : Hid (showL s = s) := by show _ = _; rw [hsh, if_pos (.inl he)]
    rw [labelL_err he] at clab
    simp only [encV] at clab
    clear hsh hz hul he
    cases hf : fewL u
    all_goals
      rw [hf] at cf
      cases hp : plainL s
      all_goals
        rw [hp] at cp
        clear hp
        go_enter Tryd.func15, Tryd.ntmps15
        go_wp2_with (first | (go_at_call 13; refine (clab _ (by assumption)).mono ?_; rintro e w1 ⟨rfl, hb1⟩) | (go_at_call 32; refine (cl _ (by assumption)).mono ?_; rintro e w1 ⟨rfl, hb1⟩) | (go_at_call 34; refine (cf _ (by assumption)).mono ?_; rintro e w1 ⟨rfl, hb1⟩) | (go_at_call 33; refine (cp _ (by assumption)).mono ?_; rintro e w1 ⟨rfl, hb1⟩))
        all_goals
          go_ret
          exact ⟨ret_str hH.out.symm, by assumption⟩
end Go.Proofs.YtafieajameapiaaDoor
