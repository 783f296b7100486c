/- The law SuffixBelow walked. -/
import Derived.Test.YtaijdjmkmhpmpaaGreatDoorSufAlive
import Derived.Test.YtaijdjmkmhpmpaaGreatDoorSufBelMath
import Derived.Test.YtaijdjmkmhpmpaaGreatDoorGSu5
set_option linter.unusedVariables false
set_option linter.unusedSimpArgs false
namespace Go.Proofs.YtaijdjmkmhpmpaaGreatDoor
open Go.RowKit

theorem wrong_or {L : List (List UInt8)} {h : List UInt8} (h0 : wrongL L h ≠ 0) : wrongL L h = 1 ∨ wrongL L h = 5 := by
  unfold wrongL at h0 ⊢
  split
  · exact .inl rfl
  · rename_i hc
    rw [if_neg hc] at h0
    split
    · rename_i hg
      rw [if_pos hg] at h0
      exact absurd rfl h0
    · exact .inr rfl
set_option maxRecDepth 100000 in
set_option maxHeartbeats 2000000 in
theorem sufbelow_law (L : List (List UInt8)) (v : Value) (h : List UInt8) (w : World) (ht : Txt w v L) (hl : L.length ≤ 140737488351232) (hs : ∀ p ∈ L, p.length ≤ 140737488351232) (hh : h.length ≤ 140737488351232) (hE : EnvH w) :
    Calls Tryz.prog 9 #[v, .string ⟨h.toArray⟩] w fun e w' => e = .returned (.bool true) ∧ Below w.heap.size w w' := by
  have hbw := Below.refl w.heap.size w
  have ca := lift_hS w hE (fun W hEW => salive_any W hEW)
  have cg := fun W (hW : Below w.heap.size w W) => great_any L v h W (ht.below hW (Nat.le_refl _)) hl hs hh
  cases hg : greatB L h with
  | true =>
    rw [hg] at cg
    clear ht
    go_enter Tryz.func9, Tryz.ntmps9
    go_wp2_with (first | (go_at_call 17; refine (ca _ (by assumption)).mono ?_; rintro e w1 ⟨rfl, hb1⟩) | (go_at_call 10; refine (cg _ (by assumption)).mono ?_; rintro e w2 ⟨rfl, rfl⟩))
    go_ret
    exact ⟨rfl, by assumption⟩
  | false =>
    rw [hg] at cg
    obtain ⟨h1, _, h3, h4⟩ := great_no hg
    have cs : ∀ W, Below w.heap.size w W → Calls Tryz.prog 12 #[v, .string ⟨h.toArray⟩] W fun e W' => e = .returned (sufV (suffixL L h)) ∧ Below w.heap.size w W' := fun W hW =>
      (suffix_any L h v W (hE.below hW) (ht.below hW (Nat.le_refl _)) (by omega) (fun p hp => by have := h3 p hp; omega) (by omega)).mono fun e W' ⟨he, hb⟩ => ⟨he, hW.trans (hb.mono hW.size)⟩
    have co : ∀ W, Below w.heap.size w W → Calls Tryz.prog 15 #[v, .string ⟨h.toArray⟩] W fun e W' => e = .returned (sufV (ownL L h)) ∧ Below w.heap.size w W' := fun W hW =>
      (own_any L h v W (hE.below hW) (ht.below hW (Nat.le_refl _)) (by omega) (fun p hp => by have := h3 p hp; omega) (by omega)).mono fun e W' ⟨he, hb⟩ => ⟨he, hW.trans (hb.mono hW.size)⟩
    clear hg h3 ht hl hs
    by_cases h0 : wrongL L h = 0
    · obtain ⟨hc, hx, hm⟩ := wrong_ok h0
      obtain ⟨hn1, hn2⟩ := many_bd hc (partsL_ne 46 h)
      have es : suffixL L h = (lastL (partsL 46 h) (manyL L (partsL 46 h)), 0) := by unfold suffixL; rw [if_pos h0]
      have eo : ownL L h = if (partsL 46 h).length < manyL L (partsL 46 h) + 1 then ([], 0) else (lastL (partsL 46 h) (manyL L (partsL 46 h) + 1), 0) := by unfold ownL; rw [if_pos h0]
      obtain ⟨b1, b2, b3, b4⟩ := suf_below h4 hx hm hn1 hn2
      rw [es] at cs
      rw [eo] at co
      have hll : ∀ m, (lastL (partsL 46 h) m).length ≤ 1000 := fun m => by
        have hd := join_drop_le (partsL 46 h) ((partsL 46 h).length - m)
        rw [join_parts] at hd
        unfold lastL; omega
      have cb : ∀ (a b : List UInt8) (r : Bool), belowL a b = r → a.length ≤ 1000 → b.length ≤ 1000 → ∀ W, Below w.heap.size w W → Calls Tryz.prog 24 #[.string ⟨a.toArray⟩, .string ⟨b.toArray⟩] W fun e W' => e = .returned (.bool r) ∧ Below w.heap.size w W' := fun a b r h ha hb => h ▸ lift_hS w hE (fun W hEW => below_any a b W hEW.t.env (by omega) (by omega))
      have cl : ∀ (a : List UInt8), a.length ≤ 1000 → ∀ W, Below w.heap.size w W → Calls Tryz.prog 20 #[.string ⟨a.toArray⟩] W fun e W' => ∃ ad, e = .returned (.slice ad (labelsL a).length (labelsL a).length) ∧ Below w.heap.size w W' := fun a ha W hW =>
        (labels_any a W (hE.below hW).t.env (by omega)).mono fun e W' ⟨ad, he, _, hb⟩ => ⟨ad, he, hW.trans (hb.mono hW.size)⟩
      clear hc hx hm es eo h0 hE
      by_cases hlt : (partsL 46 h).length < manyL L (partsL 46 h) + 1
      · rw [if_pos hlt] at co
        have c1 := cb h _ _ b2 h4 (hll _)
        have b3' := b3 (by omega)
        clear cb cl hll b4 b3 hn1 hn2 hlt b2
        have hq : (lastL (partsL 46 h) (manyL L (partsL 46 h)) == []) = false := beq_eq_false_iff_ne.2 b1
        generalize lastL (partsL 46 h) (manyL L (partsL 46 h)) = E at *
        simp only [sufV] at cs co
        subst b3'
        go_enter Tryz.func9, Tryz.ntmps9
        go_wp2_with (first
          | (go_at_call 17; refine (ca _ (by assumption)).mono ?_; rintro e w1 ⟨rfl, hb1⟩)
          | (go_at_call 10; refine (cg _ (by assumption)).mono ?_; rintro e w2 ⟨rfl, rfl⟩)
          | (go_at_call 12; refine (cs _ (by assumption)).mono ?_; rintro e w3 ⟨rfl, hb3⟩)
          | (go_at_call 15; refine (co _ (by assumption)).mono ?_; rintro e w4 ⟨rfl, hb4⟩)
          | (go_at_call 24; refine (c1 _ (by assumption)).mono ?_; rintro e w5 ⟨rfl, hb5⟩))
        go_ret
        exact ⟨rfl, by assumption⟩
      · rw [if_neg hlt] at co
        obtain ⟨d1, d2, d3, d4⟩ := b4 (by omega)
        have c1 := cb h _ _ b2 h4 (hll _)
        have c2 := cb h _ _ d2 h4 (hll _)
        have c3 := cb _ _ _ d3 (hll _) (hll _)
        have l1 := cl _ (hll (manyL L (partsL 46 h) + 1))
        have l2 := cl _ (hll (manyL L (partsL 46 h)))
        rw [d4] at l1
        have hN := labelsL_le (lastL (partsL 46 h) (manyL L (partsL 46 h)))
        have hN2 := hll (manyL L (partsL 46 h))
        generalize (labelsL (lastL (partsL 46 h) (manyL L (partsL 46 h)))).length = N at *
        clear cb cl hll b3 b4 hn1 hn2 hlt b2 d2 d3 d4
        have hq : (lastL (partsL 46 h) (manyL L (partsL 46 h)) == []) = false := beq_eq_false_iff_ne.2 b1
        have hq2 : (lastL (partsL 46 h) (manyL L (partsL 46 h) + 1) == []) = false := beq_eq_false_iff_ne.2 d1
        generalize lastL (partsL 46 h) (manyL L (partsL 46 h)) = E at *
        generalize lastL (partsL 46 h) (manyL L (partsL 46 h) + 1) = O at *
        simp only [sufV] at cs co
        go_enter Tryz.func9, Tryz.ntmps9
        go_wp2_with (first
          | (go_at_call 17; refine (ca _ (by assumption)).mono ?_; rintro e w1 ⟨rfl, hb1⟩)
          | (go_at_call 10; refine (cg _ (by assumption)).mono ?_; rintro e w2 ⟨rfl, rfl⟩)
          | (go_at_call 12; refine (cs _ (by assumption)).mono ?_; rintro e w3 ⟨rfl, hb3⟩)
          | (go_at_call 15; refine (co _ (by assumption)).mono ?_; rintro e w4 ⟨rfl, hb4⟩))
        go_at_call 24
        refine (c1 _ (by assumption)).mono ?_
        rintro e w5 ⟨rfl, hb5⟩
        go_wp2_with fail
        go_at_call 24
        refine (c2 _ (by assumption)).mono ?_
        rintro e w6 ⟨rfl, hb6⟩
        go_wp2_with fail
        go_at_call 24
        refine (c3 _ (by assumption)).mono ?_
        rintro e w7 ⟨rfl, hb7⟩
        go_wp2_with fail
        go_at_call 20
        refine (l1 _ (by assumption)).mono ?_
        rintro e w8 ⟨ad, rfl, hb8⟩
        go_wp2_with fail
        go_at_call 20
        refine (l2 _ (by assumption)).mono ?_
        rintro e w9 ⟨ad2, rfl, hb9⟩
        go_wp2_with fail
        go_ret
        exact ⟨rfl, by assumption⟩
    · have es : suffixL L h = ([], wrongL L h) := by unfold suffixL; rw [if_neg h0]
      have eo : ownL L h = ([], wrongL L h) := by unfold ownL; rw [if_neg h0]
      rw [es] at cs
      rw [eo] at co
      rcases wrong_or h0 with hw | hw
      all_goals
        rw [hw] at cs co
        simp only [sufV] at cs co
        clear es eo hw h0 hE
        go_enter Tryz.func9, Tryz.ntmps9
        go_wp2_with (first
          | (go_at_call 17; refine (ca _ (by assumption)).mono ?_; rintro e w1 ⟨rfl, hb1⟩)
          | (go_at_call 10; refine (cg _ (by assumption)).mono ?_; rintro e w2 ⟨rfl, rfl⟩)
          | (go_at_call 12; refine (cs _ (by assumption)).mono ?_; rintro e w3 ⟨rfl, hb3⟩)
          | (go_at_call 15; refine (co _ (by assumption)).mono ?_; rintro e w4 ⟨rfl, hb4⟩))
        go_ret
        exact ⟨rfl, by assumption⟩
end Go.Proofs.YtaijdjmkmhpmpaaGreatDoor
