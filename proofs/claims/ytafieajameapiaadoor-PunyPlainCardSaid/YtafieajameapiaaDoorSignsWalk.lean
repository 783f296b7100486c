/- The walk of the reference's Signs. -/
import Derived.Test.YtafieajameapiaaDoorSignsMath
import Derived.Test.YtafieajameapiaaDoorBytesRef
import Derived.Deep.DeepCutAuto
set_option linter.unusedVariables false
set_option linter.unusedSimpArgs false
namespace Go.Proofs.YtafieajameapiaaDoor
open Go.RowKit

theorem bt_get {s : List UInt8} {i : Nat} (h : i < s.length) : (s[i]'h).toNat = bt s i := by simp [bt, h]

set_option maxRecDepth 100000 in
set_option maxHeartbeats 2000000 in
theorem signs_any (s : List UInt8) (w : World) (hs : s.length ≤ 65536) :
    Calls Tryd.prog 27 #[.string ⟨s.toArray⟩] w fun e w' => ((Lib.validD s = true ∧ ∃ v, e = .returned (.tuple #[v, .bool true]) ∧ w'.ownsRow w.heap.size 3 1 v (runes s).length (i64s (runes s))) ∨ (Lib.validD s = false ∧ e = .returned (.tuple #[.slice none 0 0, .bool false]))) ∧ Below w.heap.size w w' := by
  go_enter Tryd.func27, Tryd.ntmps27
  go_wp2
  go_loopw [4, 5] (fun l iv wr => ∃ (i : Nat) (pre : List Nat), iv = .int .i64 i ∧ Hid (Good s pre i) ∧ i ≤ s.length ∧ pre.length ≤ i ∧ wr.ownsRow w.heap.size 3 1 l pre.length (i64s pre) ∧ Below w.heap.size w wr) (fun _ iv _ => s.length - (intOf iv).toNat)
  case atStart => exact ⟨0, [], rfl, good_start s, Nat.zero_le _, Nat.le_refl _, World.ownsRow_nil _ _ _ _, Below.refl _ _⟩
  case round =>
    obtain ⟨i, pre, rfl, hg, hil, hpi, hown, hbl⟩ := hrel
    by_cases hi : i < s.length
    · have hget := Lib.hid (bt_get hi)
      have hsi : (s[i]'hi).toNat < 256 := u8_lt _
      go_upto_region 6 with fail
      iterate 8 go_step
      cases hcl : cls (bt s i) with
      | none =>
        have hn := cls_none hcl
        rw [← hget.out] at hn
        have hf := Lib.hid (good_bad hg.out hi (step_none hcl))
        clear hcl
        have h1 : ¬ (s[i]'hi).toNat < 128 := by omega
        rcases (show (s[i]'hi).toNat < 192 ∨ 248 ≤ (s[i]'hi).toNat by omega) with h2 | h2
        all_goals
          go_wp2_with fail
          go_ret2
          exact ⟨.inr ⟨hf.out, rfl⟩, hbl⟩
      | some r =>
        obtain ⟨n, x0, least⟩ := r
        obtain ⟨b1, b2, b3, b4⟩ := cls_bd hcl
        have hcc := cls_cases hcl
        rw [← hget.out] at hcc
        have hcH := Lib.hid hcl
        clear hcl
        go_cut [6, 7, 8] (fun s6 s7 s8 wx => wr = wx ∧ s6 = .int .i64 (n : Int) ∧ s7 = .int .i64 (x0 : Int) ∧ s8 = .int .i64 (least : Int))
        case first =>
          rcases hcc with ⟨hk, rfl, rfl, rfl⟩ | ⟨⟨hk, hk2⟩, rfl, rfl, rfl⟩ | ⟨⟨hk, hk2⟩, rfl, rfl, rfl⟩ | ⟨⟨hk, hk2⟩, rfl, rfl, rfl⟩
          all_goals
            go_wp2_with fail
            go_meet
            case rel => exact ⟨rfl, rfl, by go_num, rfl⟩
        case rest =>
          obtain ⟨rfl, rfl, rfl, rfl⟩ := hcut
          clear hcc hsi hget
          by_cases hn : i + n ≤ s.length
          · have hni : (i : Int) + (n : Int) ≤ (s.length : Int) := by omega
            go_wp2_with fail
            go_loopw [7, 9] (fun xv kv wx => wr = wx ∧ ∃ k : Nat, kv = .int .i64 (k : Int) ∧ 1 ≤ k ∧ k ≤ n ∧ Hid (∀ j, 1 ≤ j → j < k → 128 ≤ bt s (i + j) ∧ bt s (i + j) < 192) ∧ xv = .int .i64 ((acc s i x0 (k - 1) : Nat) : Int)) (fun _ kv _ => n - (intOf kv).toNat)
            case atStart => exact ⟨rfl, 1, rfl, Nat.le_refl _, b1, fun j h1 h2 => by omega, rfl⟩
            case round =>
              obtain ⟨rfl, k, rfl, hk1, hkn, hcont, rfl⟩ := hrel
              have hab := acc_bd (i := i) (s := s) b3 (k - 1) (fun j h1 h2 => hcont.out j h1 (by omega))
              have hab2 : acc s i x0 (k - 1) ≤ 33554432 := by
                have : 128 * 64 ^ (k - 1) ≤ 128 * 64 ^ 3 := Nat.mul_le_mul_left _ (Nat.pow_le_pow_right (by omega) (by omega))
                omega
              clear hab
              by_cases hlt : k < n
              · have hik : i + k < s.length := by omega
                have hg2 := Lib.hid (bt_get hik)
                have hs2 : (s[i + k]'hik).toNat < 256 := u8_lt _
                by_cases hc1 : 128 ≤ (s[i + k]'hik).toNat ∧ (s[i + k]'hik).toNat < 192
                · obtain ⟨hc2, hc3⟩ := hc1
                  have hac : Hid (acc s i x0 (k + 1 - 1) = 64 * acc s i x0 (k - 1) + (s[i + k]'hik).toNat - 128) := by
                    rw [hg2.out]
                    obtain ⟨k', rfl⟩ : ∃ k', k = k' + 1 := ⟨k - 1, by omega⟩
                    rfl
                  go_wp2_with fail
                  go_roundw
                  case rel =>
                    refine ⟨trivial, k + 1, by go_num, by omega, by omega, fun j h1 h2 => ?_, ?_⟩
                    · rcases Nat.lt_or_ge j k with h | h
                      · exact hcont.out j h1 h
                      · have : j = k := by omega
                        subst this
                        rw [← hg2.out]; exact ⟨hc2, hc3⟩
                    · rw [hac.out]; go_num
                  case measure => simp [intOf]; omega
                · have hf := Lib.hid (good_bad hg.out hi (step_bad hcH.out (.inr (.inl ⟨k, hk1, hlt, by rw [← hg2.out]; exact hc1⟩)) hi))
                  rcases (show (s[i + k]'hik).toNat < 128 ∨ 192 ≤ (s[i + k]'hik).toNat by omega) with hc2 | hc2
                  all_goals
                    clear hc1
                    go_wp2_with fail
                    go_ret2
                    exact ⟨.inr ⟨hf.out, rfl⟩, hbl⟩
              · obtain rfl : k = n := by omega
                obtain ⟨x, hx⟩ : ∃ x, acc s i x0 (k - 1) = x := ⟨_, rfl⟩
                rw [hx] at hab2 ⊢
                by_cases hbx : badX x least
                · have hf := Lib.hid (good_bad hg.out hi (step_bad hcH.out (.inr (.inr ⟨hcont.out, by rw [hx]; exact hbx⟩)) hi))
                  have hxx := Lib.hid hx
                  clear hx
                  unfold badX at hbx
                  rcases hbx with hbx | hbx | ⟨hbx, hby⟩
                  · go_wp2_with fail
                    go_ret2
                    exact ⟨.inr ⟨hf.out, rfl⟩, hbl⟩
                  · go_wp2_with fail
                    all_goals (go_ret2; exact ⟨.inr ⟨hf.out, rfl⟩, hbl⟩)
                  · go_wp2_with fail
                    all_goals (go_ret2; exact ⟨.inr ⟨hf.out, rfl⟩, hbl⟩)
                · obtain ⟨hd, hd2⟩ := step_good hi hcH.out hn hcont.out hx hbx
                  have hg3 := Lib.hid (good_step hg.out hi hd hd2)
                  have hxx := Lib.hid hx
                  clear hx hd hd2
                  unfold badX at hbx
                  have hlx : least ≤ x := by omega
                  have hx11 : x ≤ 1114111 := by omega
                  have hxs : x ≤ 55295 ∨ 57344 ≤ x := by omega
                  clear hbx
                  rcases hxs with hxs | hxs
                  all_goals
                    go_wp2_with (at_builtin; refine wpList_append_vals e_int _ rfl _ _ rfl w.heap.size _ _ _ rfl hown _ _ _ rfl rfl (by intro u hu; simp only [List.mem_cons, List.not_mem_nil, or_false] at hu; subst hu; rfl) (by simp; omega) (by simp; omega) hbl.size ?_)
                    intro v' w2 hown2 hgr _
                    go_wp2
                    go_roundw
                    case rel => exact ⟨i + k, pre ++ [x], by go_num, hg3, by omega, by simp; omega, by rw [List.length_append, i64s, List.map_append]; exact hown2, hbl.grown hgr hbl.size (fun g' hg' => (hown.lt g' hg').1)⟩
                    case measure => simp [intOf]; omega
          · have hni : (s.length : Int) < (i : Int) + (n : Int) := by omega
            have hf := Lib.hid (good_bad hg.out hi (step_bad hcH.out (.inl hn) hi))
            go_wp2_with fail
            go_ret2
            exact ⟨.inr ⟨hf.out, rfl⟩, hbl⟩
    · obtain ⟨he, hv⟩ := good_end hg.out hi
      have heH := Lib.hid he
      have hvH := Lib.hid hv
      clear he hv
      go_wp2_with fail
      go_ret2
      exact ⟨.inl ⟨hvH.out, _, rfl, by rw [heH.out]; exact hown⟩, hbl⟩
end Go.Proofs.YtafieajameapiaaDoor
