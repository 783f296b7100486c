/- The walk of the reference's Label. -/
import Derived.Test.YtafieajameapiaaDoorLabel
import Derived.Outline
set_option linter.unusedVariables false
set_option linter.unusedSimpArgs false
namespace Go.Proofs.YtafieajameapiaaDoor
open Go.RowKit

attribute [local go_sem] few_append

theorem labelL_else {s : List UInt8} (h0 : s ≠ []) (hv : Lib.validD s = true) : labelL s = if plainL (lowerL s) = false then (if (encodeL (lowerL s)).2 ≠ 0 then ([], 5) else finL (fewB ++ (encodeL (lowerL s)).1))
    else if fewL (lowerL s) then
      (if (decode ((lowerL s).drop 4)).2 ≠ 0 ∨ plainL (decode ((lowerL s).drop 4)).1 then ([], 5)
      else if (encodeL (decode ((lowerL s).drop 4)).1).1 ≠ (lowerL s).drop 4 then ([], 5) else finL (lowerL s))
    else finL (lowerL s) := by
  conv => lhs; unfold labelL
  rw [if_neg (by rintro (h | h); exact h0 h; rw [hv] at h; cases h)]

set_option maxRecDepth 100000 in
set_option maxHeartbeats 4000000 in
theorem rlabel_any (s : List UInt8) (w : World) (hs : s.length ≤ 1000) :
    Calls Tryd.prog 13 #[.string ⟨s.toArray⟩] w fun e w' => e = .returned (encV (labelL s)) ∧ Below w.heap.size w w' := by
  have csg : Calls Tryd.prog 27 #[.string ⟨s.toArray⟩] w fun e w' => ∃ v, e = .returned (.tuple #[v, .bool (Lib.validD s)]) ∧ Below w.heap.size w w' := by
    refine (signs_any s w (by omega)).mono ?_
    rintro e w' ⟨⟨hv, v, he, _⟩ | ⟨hv, he⟩, hbl⟩
    · exact ⟨v, by rw [hv]; exact he, hbl⟩
    · exact ⟨_, by rw [hv]; exact he, hbl⟩
  by_cases h0 : s = [] ∨ Lib.validD s = false
  · have hL : labelL s = ([], 5) := by unfold labelL; rw [if_pos h0]
    rw [hL]
    clear hL
    rcases h0 with h0 | h0
    · have h1 : s.isEmpty = true := by rw [h0]; rfl
      have h2 : (s == []) = true := by rw [h0]; rfl
      clear h0
      go_enter Tryd.func13, Tryd.ntmps13
      go_wp2_with (go_at_call 27; refine csg.mono ?_; rintro e w1 ⟨v, rfl, hb1⟩)
      all_goals
        go_ret2
        exact ⟨rfl, by assumption⟩
    · rw [h0] at csg
      cases hse : s.isEmpty
      all_goals
        clear h0
        go_enter Tryd.func13, Tryd.ntmps13
        go_wp2_with (go_at_call 27; refine csg.mono ?_; rintro e w1 ⟨v, rfl, hb1⟩)
        all_goals
          go_ret2
          exact ⟨rfl, by assumption⟩
  · have h1 : s ≠ [] := fun h => h0 (.inl h)
    have hv : Lib.validD s = true := by cases h : Lib.validD s with | true => rfl | false => exact absurd (.inr h) h0
    have hL := labelL_else h1 hv
    have hse : s.isEmpty = false := by cases s with | nil => exact absurd rfl h1 | cons a l => rfl
    rw [hv] at csg
    have hul : (lowerL s).length = s.length := by simp [lowerL]
    have cl := lift_below w (fun W => rlower_any s W (by omega))
    clear hv h0 h1
    generalize lowerL s = u at *
    have cpx : ∀ (x : List UInt8), x.length ≤ 4000 → ∀ W, Below w.heap.size w W → Calls Tryd.prog 33 #[.string ⟨x.toArray⟩] W fun e W' => e = .returned (.bool (plainL x)) ∧ Below w.heap.size w W' := fun x hx => lift_same w (fun W => rplain_any x W (by omega))
    have cf := lift_same w (fun W => few_any u W (by omega))
    have hfl : fewB.length = 4 := rfl
    cases hp : plainL u with
    | false =>
      rw [if_pos hp] at hL
      have ce := lift_below w (fun W => rencode_any u W (.inl (by omega)) (by omega))
      have hll := encodeL_len (s := u) (by omega)
      obtain ⟨r, hr⟩ : ∃ r, encodeL u = r := ⟨_, rfl⟩
      rw [hr] at ce hL hll
      obtain ⟨l, e⟩ := r
      simp only [encV] at ce hL hll ⊢
      clear hr
      have hLH := Lib.hid hL
      clear hL
      by_cases he : e = 0
      · subst he
        go_enter Tryd.func13, Tryd.ntmps13
        go_wp2_with (first | (go_at_call 27; refine csg.mono ?_; rintro e w1 ⟨v, rfl, hb1⟩) | (go_at_call 32; refine (cl _ (by assumption)).mono ?_; rintro e w1 ⟨rfl, hb1⟩) | (go_at_call 33; refine (cpx _ (by omega) _ (by assumption)).mono ?_; rintro e w1 ⟨rfl, hb1⟩) | (go_at_call 11; refine (ce _ (by assumption)).mono ?_; rintro e w1 ⟨rfl, hb1⟩))
        all_goals
          go_ret2
          refine ⟨?_, by assumption⟩
          rw [hLH.out, if_neg (by simp)]
          first
            | (rw [finL_big (by rw [List.length_append]; omega)]; rfl)
            | (rw [finL_ok (by rw [List.length_append]; omega)]; rfl)
      · have hez : ¬ ((e : Int) = 0) := by omega
        go_enter Tryd.func13, Tryd.ntmps13
        go_wp2_with (first | (go_at_call 27; refine csg.mono ?_; rintro e w1 ⟨v, rfl, hb1⟩) | (go_at_call 32; refine (cl _ (by assumption)).mono ?_; rintro e w1 ⟨rfl, hb1⟩) | (go_at_call 33; refine (cpx _ (by omega) _ (by assumption)).mono ?_; rintro e w1 ⟨rfl, hb1⟩) | (go_at_call 11; refine (ce _ (by assumption)).mono ?_; rintro e w1 ⟨rfl, hb1⟩))
        all_goals
          go_ret2
          refine ⟨?_, by assumption⟩
          rw [hLH.out, if_pos he]
          rfl
    | true =>
      rw [if_neg (by rw [hp]; simp)] at hL
      cases hf : fewL u with
      | false =>
        rw [hf] at hL cf
        have hLH := Lib.hid hL
        clear hL hf
        go_enter Tryd.func13, Tryd.ntmps13
        go_wp2_with (first | (go_at_call 27; refine csg.mono ?_; rintro e w1 ⟨v, rfl, hb1⟩) | (go_at_call 32; refine (cl _ (by assumption)).mono ?_; rintro e w1 ⟨rfl, hb1⟩) | (go_at_call 33; refine (cpx _ (by omega) _ (by assumption)).mono ?_; rintro e w1 ⟨rfl, hb1⟩) | (go_at_call 34; refine (cf _ (by assumption)).mono ?_; rintro e w1 ⟨rfl, hb1⟩))
        all_goals
          go_ret2
          refine ⟨?_, by assumption⟩
          rw [hLH.out, if_neg (by simp)]
          first
            | (rw [finL_big (by omega)]; rfl)
            | (rw [finL_ok (by omega)]; rfl)
      | true =>
        rw [hf] at hL cf
        rw [if_pos rfl] at hL
        have hfw := Lib.hid (few_whole hf)
        have hu4 : 4 ≤ u.length := by have := congrArg List.length hfw.out; rw [List.length_append] at this; omega
        have hdl := decode_len (u.drop 4)
        have h4 : (u.drop 4).length ≤ 1000 := by simp; omega
        have cd := lift_below w (fun W => rdecode_any (u.drop 4) W (by omega))
        have htk : List.take (u.length - 4) (List.drop 4 u) = u.drop 4 := List.take_of_length_le (by simp)
        generalize hb : u.drop 4 = bare at *
        obtain ⟨r, hr⟩ : ∃ r, decode bare = r := ⟨_, rfl⟩
        rw [hr] at cd hL hdl
        obtain ⟨t, e⟩ := r
        simp only [resV] at cd hL hdl
        have htl : t.length ≤ 4000 := by omega
        have hul2 : u.length ≤ 1000 := by omega
        clear hr hf hul
        by_cases he : e = 0
        · subst he
          cases hpt : plainL t with
          | true =>
            have hLH : Hid (labelL s = ([], 5)) := by show _ = _; rw [hL, if_pos (.inr hpt)]
            clear hL
            go_enter Tryd.func13, Tryd.ntmps13
            go_wp2_with (first | (go_at_call 27; refine csg.mono ?_; rintro e w1 ⟨v, rfl, hb1⟩) | (go_at_call 32; refine (cl _ (by assumption)).mono ?_; rintro e w1 ⟨rfl, hb1⟩) | (go_at_call 33; refine (cpx _ (by omega) _ (by assumption)).mono ?_; rintro e w1 ⟨rfl, hb1⟩) | (go_at_call 34; refine (cf _ (by assumption)).mono ?_; rintro e w1 ⟨rfl, hb1⟩) | (go_at_call 35; refine (cd _ (by assumption)).mono ?_; rintro e w1 ⟨rfl, hb1⟩))
            all_goals
              go_ret2
              refine ⟨?_, by assumption⟩
              rw [hLH.out]
              rfl
          | false =>
            rw [if_neg (by rw [hpt]; simp)] at hL
            have ce := lift_below w (fun W => rencode_any t W (.inl (by omega)) (by omega))
            have hll := encodeL_len (s := t) (by omega)
            obtain ⟨r, hr⟩ : ∃ r, encodeL t = r := ⟨_, rfl⟩
            rw [hr] at ce hL hll
            obtain ⟨l, e⟩ := r
            simp only [encV] at ce hL hll ⊢
            clear hr
            by_cases hlb : l = bare
            · have hLH : Hid (labelL s = finL u) := by show _ = _; rw [hL, if_neg (by rw [hlb]; simp)]
              clear hL
              subst hlb
              have hfwb := hfw
              go_enter Tryd.func13, Tryd.ntmps13
              go_wp2_with (first | (go_at_call 27; refine csg.mono ?_; rintro e w1 ⟨v, rfl, hb1⟩) | (go_at_call 32; refine (cl _ (by assumption)).mono ?_; rintro e w1 ⟨rfl, hb1⟩) | (go_at_call 33; refine (cpx _ (by omega) _ (by assumption)).mono ?_; rintro e w1 ⟨rfl, hb1⟩) | (go_at_call 34; refine (cf _ (by assumption)).mono ?_; rintro e w1 ⟨rfl, hb1⟩) | (go_at_call 35; refine (cd _ (by assumption)).mono ?_; rintro e w1 ⟨rfl, hb1⟩) | (go_at_call 11; refine (ce _ (by assumption)).mono ?_; rintro e w1 ⟨rfl, hb1⟩))
              all_goals
                go_ret2
                refine ⟨?_, by assumption⟩
                rw [hLH.out]
                first
                  | (rw [finL_big (by omega)]; rfl)
                  | (rw [finL_ok (by omega)]; rfl)
            · have hLH : Hid (labelL s = ([], 5)) := by show _ = _; rw [hL, if_pos hlb]
              have hcmp : (l == bare) = false := by rw [beq_eq_false_iff_ne]; exact hlb
              clear hL hlb
              go_enter Tryd.func13, Tryd.ntmps13
              go_wp2_with (first | (go_at_call 27; refine csg.mono ?_; rintro e w1 ⟨v, rfl, hb1⟩) | (go_at_call 32; refine (cl _ (by assumption)).mono ?_; rintro e w1 ⟨rfl, hb1⟩) | (go_at_call 33; refine (cpx _ (by omega) _ (by assumption)).mono ?_; rintro e w1 ⟨rfl, hb1⟩) | (go_at_call 34; refine (cf _ (by assumption)).mono ?_; rintro e w1 ⟨rfl, hb1⟩) | (go_at_call 35; refine (cd _ (by assumption)).mono ?_; rintro e w1 ⟨rfl, hb1⟩) | (go_at_call 11; refine (ce _ (by assumption)).mono ?_; rintro e w1 ⟨rfl, hb1⟩))
              all_goals
                go_ret2
                refine ⟨?_, by assumption⟩
                rw [hLH.out]
                rfl
        · have hez : ¬ ((e : Int) = 0) := by omega
          have hLH : Hid (labelL s = ([], 5)) := by show _ = _; rw [hL, if_pos (.inl he)]
          clear hL
          go_enter Tryd.func13, Tryd.ntmps13
          go_wp2_with (first | (go_at_call 27; refine csg.mono ?_; rintro e w1 ⟨v, rfl, hb1⟩) | (go_at_call 32; refine (cl _ (by assumption)).mono ?_; rintro e w1 ⟨rfl, hb1⟩) | (go_at_call 33; refine (cpx _ (by omega) _ (by assumption)).mono ?_; rintro e w1 ⟨rfl, hb1⟩) | (go_at_call 34; refine (cf _ (by assumption)).mono ?_; rintro e w1 ⟨rfl, hb1⟩) | (go_at_call 35; refine (cd _ (by assumption)).mono ?_; rintro e w1 ⟨rfl, hb1⟩))
          all_goals
            go_ret2
            refine ⟨?_, by assumption⟩
            rw [hLH.out]
            rfl
end Go.Proofs.YtafieajameapiaaDoor
