/- The law HostsUp walked. -/
import Derived.Test.YtijobaecakhnjaaGreatDoorHAlive
import Derived.Test.YtijobaecakhnjaaGreatDoorTextRow
import Derived.Test.YtijobaecakhnjaaGreatDoorPost
set_option linter.unusedVariables false
set_option linter.unusedSimpArgs false
namespace Go.Proofs.YtijobaecakhnjaaGreatDoor
open Go.RowKit
attribute [local go_sem] dot_join ado_join ba_append

/-- What stands of a host's end between two rounds. -/
def upS (l : List (List UInt8)) (k : Nat) : List UInt8 := if k = l.length then [] else 46 :: upL l k
theorem upS_full {l : List (List UInt8)} : upS l l.length = [] := if_pos rfl
theorem upS_more {l : List (List UInt8)} {k : Nat} (h : k < l.length) : upS l k = 46 :: upL l k := if_neg (by omega)
theorem upL_step {l : List (List UInt8)} {j : Nat} (h : j < l.length) : l[j] ++ upS l (j + 1) = upL l j := by
  by_cases hj : j + 1 = l.length
  · rw [hj, upS_full, List.append_nil]
    exact (join_last hj).symm
  · rw [upS_more (by omega)]
    exact (join_drop (by omega)).symm
set_option maxRecDepth 100000 in
set_option maxHeartbeats 4000000 in
theorem hup_law (s : List UInt8) (w : World) (hm : s.length ≤ 140737488351232) (hE : EnvH w) :
    Calls Tryz.prog 7 #[.string ⟨s.toArray⟩] w fun e w' => e = .returned (.bool true) ∧ Below w.heap.size w w' := by
  have hbw := Below.refl w.heap.size w
  have ca := lift_h w hE (fun W hEW => halive_any W hEW)
  by_cases h0 : 1000 < s.length
  · go_enter Tryz.func7, Tryz.ntmps7
    go_wp2_with (go_at_call 20; refine (ca _ (by assumption)).mono ?_; rintro e w1 ⟨rfl, hb1⟩)
    go_ret
    exact ⟨rfl, by assumption⟩
  · have cp := lift_h w hE (fun W hEW => hparse_any s W hEW (by omega))
    cases hh : hostL s with
    | none =>
      rw [hh] at cp
      simp only [optV] at cp
      go_enter Tryz.func7, Tryz.ntmps7
      go_wp2_with (first | (go_at_call 20; refine (ca _ (by assumption)).mono ?_; rintro e w1 ⟨rfl, hb1⟩) | (go_at_call 18; refine (cp _ (by assumption)).mono ?_; rintro e w1 ⟨rfl, hb1⟩))
      go_ret
      exact ⟨rfl, by assumption⟩
    | some x =>
      rw [hh] at cp
      simp only [optV] at cp
      have hlen := host_len (by omega) hh
      have hxne : x ≠ [] := fun e => by rw [e] at hlen; simp at hlen
      have cl := fun W (hW : Below w.heap.size w W) => labels_any x W (hE.below hW).t.env (by omega)
      have hsum : ¬ 9223372036854775807 < 2 + x.length := by omega
      have cmb : ∀ w3, Below w.heap.size w w3 → (∀ W, Below w3.heap.size w3 W → Calls Tryz.prog 14 #[.string ⟨x.toArray⟩] W fun e W' => e = .returned (.bool (machineL x)) ∧ Below w3.heap.size w3 W') ∧
          ∀ (a b : List UInt8) (r : Bool), belowL a b = r → a.length ≤ 1000 → b.length ≤ 1000 → ∀ W, Below w3.heap.size w3 W → Calls Tryz.prog 23 #[.string ⟨a.toArray⟩, .string ⟨b.toArray⟩] W fun e W' => e = .returned (.bool r) ∧ Below w3.heap.size w3 W' := fun w3 hb3 =>
        ⟨lift_h w3 (hE.below hb3) (fun W hEW => machine_any x W hEW.t.env (by omega)), fun a b r h ha hb => h ▸ lift_h w3 (hE.below hb3) (fun W hEW => below_any a b W hEW.t.env (by omega) (by omega))⟩
      cases hmx : machineL x with
      | true =>
        obtain ⟨h1, h2, h3⟩ := machine_below hmx hxne
        have eL : labelsL x = [x] := by unfold labelsL; rw [if_neg hxne, hmx, if_pos rfl]
        rw [eL] at cl
        rw [hmx] at cmb
        have htk : List.take (x.length - 2) (List.drop 2 x) = List.drop 2 x := List.take_of_length_le (by simp)
        by_cases h4 : 4 ≤ x.length
        all_goals
          have h4i : (x.length : Int) < 4 ↔ ¬ 4 ≤ x.length := by omega
          clear hh eL hmx
          go_enter Tryz.func7, Tryz.ntmps7
          go_wp2_with fail
          go_at_call 20
          refine (ca _ (by assumption)).mono ?_
          rintro e w1 ⟨rfl, hb1⟩
          go_wp2_with fail
          go_at_call 18
          refine (cp _ (by assumption)).mono ?_
          rintro e w2 ⟨rfl, hb2⟩
          go_wp2_with fail
          go_at_call 11
          refine (cl _ (by assumption)).mono ?_
          rintro e w3 ⟨ad, rfl, hown, hb3'⟩
          have hb3 := hb2.trans (hb3'.mono hb2.size)
          obtain ⟨g, rfl, _, hgl, _, hcl⟩ := own_texts hown rfl (by simp)
          have hcell2 : ∀ W, Below w3.heap.size w3 W → W.cell? ⟨g, 0, none⟩ = some (.string ⟨x.toArray⟩) := fun W hW => hcl W hW 0 (by simp)
          obtain ⟨cm, cb⟩ := cmb w3 hb3
          have b1 := cb x x true h1 (by omega) (by omega)
          have b2 := cb (97 :: 46 :: x) x false h2 (by simp; omega) (by omega)
          have b3 := fun (h : 4 ≤ x.length) => cb x (x.drop 2) false (h3 h) (by omega) (by simp; omega)
          have hbw3 := Below.refl w3.heap.size w3
          clear hown ca cp cl hcl cmb cb hb1 hb2 hb3' h1 h2 h3
          go_wp2_with fail
          go_at_call 14
          refine (cm _ hbw3).mono ?_
          rintro e w4 ⟨rfl, hb4⟩
          have hc4 := hcell2 _ hb4
          clear cm hcell2
          go_wp2_with fail
          go_at_call 23
          refine (b1 _ hb4).mono ?_
          rintro e w5 ⟨rfl, hb5⟩
          go_wp2_with fail
          go_at_call 23
          refine (b2 _ hb5).mono ?_
          rintro e w6 ⟨rfl, hb6⟩
        · go_wp2_with fail
          go_at_call 23
          refine (b3 h4 _ hb6).mono ?_
          rintro e w7 ⟨rfl, hb7⟩
          go_wp2_with fail
          go_ret
          exact ⟨rfl, hb3.trans (hb7.mono hb3.size)⟩
        · go_wp2_with fail
          go_ret
          exact ⟨rfl, hb3.trans (hb6.mono hb3.size)⟩
      | false =>
        have hok : ∃ l, HostOk x l := by
          rcases host_ok (by omega) hh with ⟨h1, _⟩ | h
          · exfalso
            unfold machineL at hmx
            rw [br_head.2 h1] at hmx
            simp at hmx
          · exact h
        obtain ⟨l, hl⟩ := hok
        have eL : labelsL x = l := by unfold labelsL; rw [if_neg hxne, hmx, if_neg (by simp), hl.name.parts]
        have hlne := List.length_pos_iff.2 hl.name.ne
        have hle : l.length ≤ 1000 := by have := labelsL_le x; rw [eL] at this; omega
        have hul : ∀ k, k < l.length → (upL l k).length ≤ 1000 := fun k hk => by
          by_cases h0 : k = 0
          · subst h0
            have : upL l 0 = x := by unfold upL; rw [List.drop_zero, hl.name.join]
            rw [this]; omega
          · obtain ⟨p, hp⟩ := upL_suffix (by omega) hk
            rw [← hl.name.join] at hp
            have := congrArg List.length hp
            simp at this; omega
        have hx0 : 46 :: upL l 0 = 46 :: x := by unfold upL; rw [List.drop_zero, hl.name.join]
        have HBX := Lib.hid fun k (hk : k < l.length) => hl.below_up hmx hk
        have HBN := Lib.hid fun k (hk : k + 1 < l.length) => hl.up_next hmx hk
        have hba := hl.below_a hmx
        rw [eL] at cl
        rw [hmx] at cmb
        have HUL := Lib.hid hul
        clear hh eL hmx hl hul
        go_enter Tryz.func7, Tryz.ntmps7
        go_wp2_with fail
        go_at_call 20
        refine (ca _ (by assumption)).mono ?_
        rintro e w1 ⟨rfl, hb1⟩
        go_wp2_with fail
        go_at_call 18
        refine (cp _ (by assumption)).mono ?_
        rintro e w2 ⟨rfl, hb2⟩
        go_wp2_with fail
        go_at_call 11
        refine (cl _ (by assumption)).mono ?_
        rintro e w3 ⟨ad, rfl, hown, hb3'⟩
        have hb3 := hb2.trans (hb3'.mono hb2.size)
        obtain ⟨g, rfl, _, hgl, _, hcl⟩ := own_texts hown rfl (by omega)
        obtain ⟨cm, cb⟩ := cmb w3 hb3
        have hbw3 := Below.refl w3.heap.size w3
        have HCL := Lib.hid hcl
        have ba := cb (97 :: 46 :: x) x true hba (by simp; omega) (by omega)
        clear hown ca cp cl hcl cmb hb1 hb2 hb3'
        go_wp2_with fail
        go_at_call 14
        refine (cm _ hbw3).mono ?_
        rintro e w4 ⟨rfl, hb4⟩
        clear cm
        go_wp2_with fail
        go_loopw [6, 7, 8] (fun u i q wr => ∃ k : Nat, k ≤ l.length ∧ i = .int .i64 ((k : Int) - 1) ∧ u = .string ⟨(upS l k).toArray⟩ ∧ Below w3.heap.size w3 wr) (fun _ i _ _ => (intOf i + 1).toNat)
        case atStart => exact ⟨l.length, Nat.le_refl _, by go_num, by rw [upS_full], hb4⟩
        case round =>
          obtain ⟨k, hk, rfl, rfl, hbr⟩ := hrel
          by_cases hk0 : 0 < k
          · obtain ⟨j, rfl⟩ : ∃ j, k = j + 1 := ⟨k - 1, by omega⟩
            have hcj := HCL.out _ hbr j (by omega)
            have hst := upL_step (l := l) (j := j) (by omega)
            have hu1 := HUL.out j (by omega)
            have bx := cb x (upL l j) true (HBX.out j (by omega)) (by omega) hu1
            have hnext := upS_more (l := l) (k := j) (by omega)
            by_cases hend : j + 1 = l.length
            · rw [hend, upS_full, List.append_nil] at hst
              rw [hend, upS_full]
              generalize hU : upL l j = U at *
              rw [hst] at hcj
              generalize hS : upS l j = S at *
              subst hnext
              have hii : ((l.length : Int) - 1) = (j : Int) := by omega
              rw [hii]
              clear HCL HUL HBX HBN hst cb
              go_wp2_with fail
              go_at_call 23
              refine (bx _ (by assumption)).mono ?_
              rintro e w5 ⟨rfl, hb5⟩
              go_wp2_with fail
              go_roundw
              case rel => exact ⟨j, by omega, by go_num, by rw [hS], by assumption⟩
              case measure => simp [intOf] <;> omega
            · have hlt : j + 1 < l.length := by omega
              rw [upS_more hlt] at hst ⊢
              obtain ⟨hn1, hn2⟩ := HBN.out j hlt
              have hu2 := HUL.out (j + 1) hlt
              have b1 := cb (upL l j) (upL l (j + 1)) true hn1 hu1 hu2
              have b2 := cb (upL l (j + 1)) (upL l j) false hn2 hu2 hu1
              generalize hU2 : upL l (j + 1) = U2 at *
              generalize hU : upL l j = U at *
              generalize hS : upS l j = S at *
              subst hnext
              generalize l[j] = X at *
              have hl2 : X.length + (U2.length + 1) = U.length := by rw [← hst]; simp
              have hs1 : ¬ 9223372036854775807 < X.length + (46 :: U2).length := by simp; omega
              have hs2 : ¬ 9223372036854775807 < 1 + U.length := by omega
              have htk : List.take U2.length U2 = U2 := List.take_length
              have hii : (((j + 1 : Nat) : Int) - 1) = (j : Int) := by omega
              rw [hii]
              clear HCL HUL HBX HBN cb hn1 hn2
              go_wp2_with fail
              go_at_call 23
              refine (bx _ (by assumption)).mono ?_
              rintro e w5 ⟨rfl, hb5⟩
              go_wp2_with fail
              go_at_call 23
              refine (b1 _ (by assumption)).mono ?_
              rintro e w6 ⟨rfl, hb6⟩
              go_wp2_with fail
              go_at_call 23
              refine (b2 _ (by assumption)).mono ?_
              rintro e w7 ⟨rfl, hb7⟩
              go_wp2_with fail
              go_roundw
              case rel => exact ⟨j, by omega, by go_num, by rw [hS], by assumption⟩
              case measure => simp [intOf] <;> omega
          · obtain rfl : k = 0 := by omega
            rw [upS_more hlne, hx0]
            have hs2 : ¬ 9223372036854775807 < 1 + x.length := by omega
            clear HCL HUL HBX HBN cb
            go_wp2_with (go_at_call 23; refine (ba _ (by assumption)).mono ?_; rintro e w5 ⟨rfl, hb5⟩)
            go_ret
            exact ⟨rfl, hb3.trans (Below.mono (B := w3.heap.size) (by assumption) hb3.size)⟩
end Go.Proofs.YtijobaecakhnjaaGreatDoor
