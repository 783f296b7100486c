/- The law SuffixNone walked. -/
import Derived.Test.YtaijdjmkmhpmpaaGreatDoorSufAlive
import Derived.Test.YtaijdjmkmhpmpaaGreatDoorSufNoMath
import Derived.Test.YtaijdjmkmhpmpaaGreatDoorGSu5
set_option linter.unusedVariables false
set_option linter.unusedSimpArgs false
namespace Go.Proofs.YtaijdjmkmhpmpaaGreatDoor
open Go.RowKit

theorem dot_one (a : List UInt8) : (ByteArray.mk a.toArray) ++ (ByteArray.mk #[46]) = ByteArray.mk (a ++ [46]).toArray := ba_join a [46]
theorem dot_two (a b : List UInt8) : (ByteArray.mk (a ++ [46]).toArray) ++ (ByteArray.mk b.toArray) = ByteArray.mk (a ++ 46 :: b).toArray := by rw [ba_join]; simp
attribute [local go_sem] dot_one dot_two

theorem labels_good {h : List UInt8} (h0 : h ≠ []) (hm : machineL h = false) : labelsL h = partsL 46 h := by
  unfold labelsL
  rw [if_neg h0, hm, if_neg (by simp)]
set_option maxRecDepth 100000 in
set_option maxHeartbeats 2000000 in
theorem sufnone_law (h : List UInt8) (w : World) (hm : h.length ≤ 140737488351232) (hE : EnvH w) :
    Calls Tryz.prog 6 #[.string ⟨h.toArray⟩] w fun e w' => e = .returned (.bool true) ∧ Below w.heap.size w w' := by
  have hbw := Below.refl w.heap.size w
  have ca := lift_hS w hE (fun W hEW => salive_any W hEW)
  by_cases h0 : 1000 < h.length
  · go_enter Tryz.func6, Tryz.ntmps6
    go_wp2_with (go_at_call 17; refine (ca _ (by assumption)).mono ?_; rintro e w1 ⟨rfl, hb1⟩)
    go_ret
    exact ⟨rfl, by assumption⟩
  · have hT : ∀ W : World, Txt W (.slice none 0 0) [] := fun W => .inl ⟨rfl, rfl⟩
    have cs := lift_hS w hE (fun W hEW => suffix_any [] h _ W hEW (hT W) (by decide) (fun p hp => by cases hp) (by omega))
    have co := lift_hS w hE (fun W hEW => own_any [] h _ W hEW (hT W) (by decide) (fun p hp => by cases hp) (by omega))
    have cp := lift_hS w hE (fun W hEW => hparse_any h W hEW (by omega))
    have cm := lift_hS w hE (fun W hEW => machine_any h W hEW.t.env (by omega))
    by_cases hg : hostL h = some h ∧ machineL h = false
    · obtain ⟨hg1, hg2⟩ := hg
      have hne : h ≠ [] := fun e => by rw [e, host_nilS] at hg1; cases hg1
      have cl := fun W (hW : Below w.heap.size w W) => (labels_any h W (hE.below hW).t.env (by omega)).mono (R' := fun e w' => ∃ ad, e = .returned (.slice ad (labelsL h).length (labelsL h).length) ∧ w'.ownsRow W.heap.size 9 1 (.slice ad (labelsL h).length (labelsL h).length) (labelsL h).length (strs (labelsL h)) ∧ Below w.heap.size w w') fun e w' ⟨ad, he, ho, hb⟩ => ⟨ad, he, ho, hW.trans (hb.mono hW.size)⟩
      rw [labels_good hne hg2] at cl
      rw [none_suffix hg1 hg2] at cs
      rw [none_own hg1 hg2] at co
      rw [hg1] at cp
      rw [hg2] at cm
      have hPn := partsL_ne 46 h
      have hP0 := List.length_pos_iff.2 hPn
      have hPl := (partsL_le 46 h).2
      have e1 := last_one hP0
      have hsl := (partsL_le 46 h).1
      clear hg1 hg2 hT
      by_cases h2 : (partsL 46 h).length < 2
      · have h21 : (partsL 46 h).length = 1 := by omega
        rw [if_pos h2] at co
        simp only [optV, sufV] at cs co cp
        have e1b : lastL (partsL 46 h) 1 = (partsL 46 h)[0]'(by omega) := by rw [e1]; congr 1; omega
        clear e1 hsl
        generalize hP : partsL 46 h = P at *
        generalize lastL P 1 = E at *
        go_enter Tryz.func6, Tryz.ntmps6
        go_wp2_with (first
          | (go_at_call 17; refine (ca _ (by assumption)).mono ?_; rintro e w1 ⟨rfl, hb1⟩)
          | (go_at_call 12; refine (cs _ (by assumption)).mono ?_; rintro e w2 ⟨rfl, hb2⟩)
          | (go_at_call 15; refine (co _ (by assumption)).mono ?_; rintro e w3 ⟨rfl, hb3⟩)
          | (go_at_call 18; refine (cp _ (by assumption)).mono ?_; rintro e w4 ⟨rfl, hb4⟩)
          | (go_at_call 19; refine (cm _ (by assumption)).mono ?_; rintro e w5 ⟨rfl, hb5⟩))
        go_at_call 20
        refine (cl _ (by assumption)).mono ?_
        rintro e w6 ⟨ad, rfl, hown, hb6⟩
        obtain ⟨g, rfl, _, hgl, _, hcl⟩ := txt_own hown rfl (by omega)
        have hc0 := hcl w6 (Below.refl _ _) 0 (by omega)
        rw [← e1b] at hc0
        clear hown cl hcl
        go_wp2_with fail
        go_ret
        exact ⟨rfl, by assumption⟩
      · obtain ⟨m, hm2⟩ : ∃ m, (partsL 46 h).length = m + 2 := ⟨(partsL 46 h).length - 2, by omega⟩
        have hk1 : m < (partsL 46 h).length := by omega
        have hk2 : m + 1 < (partsL 46 h).length := by omega
        have hk3 : 1 < (partsL 46 h).length := by omega
        have e2 := last_two hk3
        rw [if_neg h2, e2] at co
        have hz1 : ((partsL 46 h)[m]'hk1).length ≤ 1000 := by have := hsl _ (List.getElem_mem hk1); omega
        have hz2 : ((partsL 46 h)[m + 1]'hk2).length ≤ 1000 := by have := hsl _ (List.getElem_mem hk2); omega
        simp only [optV, sufV] at cs co cp
        have e1b : lastL (partsL 46 h) 1 = (partsL 46 h)[m + 1]'hk2 := by rw [e1]; congr 1; omega
        have e2b : ((partsL 46 h)[(partsL 46 h).length - 2]'(by omega)) = (partsL 46 h)[m]'hk1 := by congr 1; omega
        rw [e2b] at co
        rw [← e1b] at hz2
        clear e1 e2b hsl e2
        generalize hP : partsL 46 h = P at *
        generalize lastL P 1 = E at *
        generalize hX1 : P[m]'hk1 = X at *
        have HE := Lib.hid e1b
        have HX := Lib.hid hX1
        have hs1 : ¬ 9223372036854775807 < X.length + 1 := by omega
        have hs2 : ¬ 9223372036854775807 < (X ++ [46]).length + E.length := by simp; omega
        have hq : (X ++ 46 :: E == X ++ 46 :: E) = true := beq_self_eq_true _
        clear e1b hX1
        have i2 : (P.length : Int) - 2 = (m : Int) := by omega
        have i1 : (P.length : Int) - 1 = (m : Int) + 1 := by omega
        go_enter Tryz.func6, Tryz.ntmps6
        go_wp2_with (first
          | (go_at_call 17; refine (ca _ (by assumption)).mono ?_; rintro e w1 ⟨rfl, hb1⟩)
          | (go_at_call 12; refine (cs _ (by assumption)).mono ?_; rintro e w2 ⟨rfl, hb2⟩)
          | (go_at_call 15; refine (co _ (by assumption)).mono ?_; rintro e w3 ⟨rfl, hb3⟩)
          | (go_at_call 18; refine (cp _ (by assumption)).mono ?_; rintro e w4 ⟨rfl, hb4⟩)
          | (go_at_call 19; refine (cm _ (by assumption)).mono ?_; rintro e w5 ⟨rfl, hb5⟩))
        go_at_call 20
        refine (cl _ (by assumption)).mono ?_
        rintro e w6 ⟨ad, rfl, hown, hb6⟩
        obtain ⟨g, rfl, _, hgl, _, hcl⟩ := txt_own hown rfl (by omega)
        have hc1 := hcl w6 (Below.refl _ _) (m + 1) hk2
        have hc2 := hcl w6 (Below.refl _ _) m hk1
        rw [← HE.out] at hc1
        rw [HX.out] at hc2
        clear hown cl hcl
        go_wp2_with fail
        go_ret
        exact ⟨rfl, by assumption⟩
    · obtain ⟨n1, n2⟩ := none_wrong hg
      rw [n1] at cs
      rw [n2] at co
      simp only [sufV] at cs co
      clear n1 n2 hT
      cases hx : hostL h with
      | none =>
        rw [hx] at cp
        simp only [optV] at cp
        clear hg hx cm
        go_enter Tryz.func6, Tryz.ntmps6
        go_wp2_with (first
          | (go_at_call 17; refine (ca _ (by assumption)).mono ?_; rintro e w1 ⟨rfl, hb1⟩)
          | (go_at_call 12; refine (cs _ (by assumption)).mono ?_; rintro e w2 ⟨rfl, hb2⟩)
          | (go_at_call 15; refine (co _ (by assumption)).mono ?_; rintro e w3 ⟨rfl, hb3⟩)
          | (go_at_call 18; refine (cp _ (by assumption)).mono ?_; rintro e w4 ⟨rfl, hb4⟩)
          | (go_at_call 19; refine (cm _ (by assumption)).mono ?_; rintro e w5 ⟨rfl, hb5⟩))
        go_ret
        exact ⟨rfl, by assumption⟩
      | some x =>
        rw [hx] at cp
        simp only [optV] at cp
        by_cases hxh : x = h
        · have hm1 : machineL h = true := by
            cases q : machineL h with
            | true => rfl
            | false => exact absurd ⟨by rw [hx, hxh], q⟩ hg
          rw [hm1] at cm
          rw [hxh] at cp
          have hq : (h == h) = true := beq_self_eq_true h
          have hq2 : (h != h) = false := by rw [bne, hq]; rfl
          clear hg hx hxh hm1
          go_enter Tryz.func6, Tryz.ntmps6
          go_wp2_with (first
            | (go_at_call 17; refine (ca _ (by assumption)).mono ?_; rintro e w1 ⟨rfl, hb1⟩)
            | (go_at_call 12; refine (cs _ (by assumption)).mono ?_; rintro e w2 ⟨rfl, hb2⟩)
            | (go_at_call 15; refine (co _ (by assumption)).mono ?_; rintro e w3 ⟨rfl, hb3⟩)
            | (go_at_call 18; refine (cp _ (by assumption)).mono ?_; rintro e w4 ⟨rfl, hb4⟩)
            | (go_at_call 19; refine (cm _ (by assumption)).mono ?_; rintro e w5 ⟨rfl, hb5⟩))
          go_ret
          exact ⟨rfl, by assumption⟩
        · have hq : (x == h) = false := beq_eq_false_iff_ne.2 hxh
          have hq2 : (x != h) = true := by rw [bne, hq]; rfl
          clear hg hx hxh cm
          go_enter Tryz.func6, Tryz.ntmps6
          go_wp2_with (first
            | (go_at_call 17; refine (ca _ (by assumption)).mono ?_; rintro e w1 ⟨rfl, hb1⟩)
            | (go_at_call 12; refine (cs _ (by assumption)).mono ?_; rintro e w2 ⟨rfl, hb2⟩)
            | (go_at_call 15; refine (co _ (by assumption)).mono ?_; rintro e w3 ⟨rfl, hb3⟩)
            | (go_at_call 18; refine (cp _ (by assumption)).mono ?_; rintro e w4 ⟨rfl, hb4⟩)
            | (go_at_call 19; refine (cm _ (by assumption)).mono ?_; rintro e w5 ⟨rfl, hb5⟩))
          go_ret
          exact ⟨rfl, by assumption⟩
end Go.Proofs.YtaijdjmkmhpmpaaGreatDoor
