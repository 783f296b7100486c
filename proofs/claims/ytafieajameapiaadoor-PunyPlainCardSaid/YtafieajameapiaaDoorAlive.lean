/- Some answers that the document fixes: the walks of footmanlaw02.is and alive. -/
import Derived.Test.YtafieajameapiaaDoorBackMath
import Derived.Outline
set_option linter.unusedVariables false
set_option linter.unusedSimpArgs false
namespace Go.Proofs.YtafieajameapiaaDoor
open Go.RowKit

theorem is_yes {s few : List UInt8} (h : decode few = (s, 0)) (hl : few.length ≤ 1000) (hc : (few.take (cutN few) ++ lowerL (few.drop (cutN few)) == few) = true) (w : World) (hT : Lib.Utf8Tabs (validRen.g 3) (validRen.g 4) w) :
    ∀ W, Below w.heap.size w W → Calls Tryd.prog 36 #[.string ⟨s.toArray⟩, .string ⟨few.toArray⟩] W fun e W' => e = .returned (.bool true) ∧ Below w.heap.size w W' := by
  refine lift_tabs w hT fun W hTW => ?_
  obtain ⟨ha, hv⟩ := again_law (by omega) h
  rw [beq_iff_eq.1 hc] at ha
  have hsl := decode_len few
  rw [h] at hsl
  simp only at hsl
  have hbw := Below.refl W.heap.size W
  have c1 := lift_tabs W hTW (fun W hTW => encode_any s W (.inl (by omega)) (by omega) hTW)
  have c2 := lift_below W (fun W => decode_any few W (by omega))
  rw [ha] at c1
  rw [h] at c2
  simp only [encV, resV] at c1 c2
  clear ha h hc hv
  go_enter Tryd.func36, Tryd.ntmps36
  go_wp2_with (first | (go_at_call 10; refine (c1 _ (by assumption)).mono ?_; rintro e w1 ⟨rfl, hb1⟩) | (go_at_call 17; refine (c2 _ (by assumption)).mono ?_; rintro e w1 ⟨rfl, hb1⟩))
  go_ret
  exact ⟨rfl, by assumption⟩

theorem dec0 : decode [98, 99, 104, 101, 114, 45, 107, 118, 97] = ([98, 195, 188, 99, 104, 101, 114], 0) := by decide +kernel
theorem dec1 : decode [110, 51, 104] = ([226, 152, 131], 0) := by decide +kernel
theorem dec2 : decode [114, 56, 106, 122, 52, 53, 103] = ([228, 190, 139, 227, 129, 136], 0) := by decide +kernel
theorem dec3 : decode [105, 104, 113, 119, 99, 114, 98, 52, 99, 118, 56, 97, 56, 100, 113, 103, 48, 53, 54, 112, 113, 106, 121, 101] = ([228, 187, 150, 228, 187, 172, 228, 184, 186, 228, 187, 128, 228, 185, 136, 228, 184, 141, 232, 175, 180, 228, 184, 173, 230, 150, 135], 0) := by decide +kernel
theorem dec4 : decode [51, 66, 45, 119, 119, 52, 99, 53, 101, 49, 56, 48, 101, 53, 55, 53, 97, 54, 53, 108, 115, 121, 50, 98] = ([51, 229, 185, 180, 66, 231, 181, 132, 233, 135, 145, 229, 133, 171, 229, 133, 136, 231, 148, 159], 0) := by decide +kernel
theorem dec5 : decode [97, 98, 99, 45] = ([97, 98, 99], 0) := by decide +kernel
theorem decB : decode [45, 97] = ([], 4) := by decide +kernel
theorem encU : encodeL [98, 195, 188, 99, 104, 101, 114] = ([98, 99, 104, 101, 114, 45, 107, 118, 97], 0) := by
  have := (again_law (by decide) dec0).1
  rw [this]
  decide +kernel
theorem labU : labelL [66, 195, 188, 67, 72, 69, 82] = ([120, 110, 45, 45, 98, 99, 104, 101, 114, 45, 107, 118, 97], 0) := by
  have e : lowerL [66, 195, 188, 67, 72, 69, 82] = [98, 195, 188, 99, 104, 101, 114] := by decide +kernel
  rw [labelL_else (by decide) (by decide +kernel), e, encU]
  decide +kernel
theorem labP : labelL [120, 110, 45, 45, 97, 98, 99, 45] = ([], 5) := by
  have e : lowerL [120, 110, 45, 45, 97, 98, 99, 45] = [120, 110, 45, 45, 97, 98, 99, 45] := by decide +kernel
  rw [labelL_else (by decide) (by decide +kernel), e, if_neg (by decide +kernel), if_pos (by decide +kernel), if_pos (by decide +kernel)]
theorem labX : labelL [88, 78, 45, 45, 98, 99, 104, 101, 114, 45, 107, 118, 97] = ([120, 110, 45, 45, 98, 99, 104, 101, 114, 45, 107, 118, 97], 0) := by
  have e : lowerL [88, 78, 45, 45, 98, 99, 104, 101, 114, 45, 107, 118, 97] = [120, 110, 45, 45, 98, 99, 104, 101, 114, 45, 107, 118, 97] := by decide +kernel
  have d : List.drop 4 ([120, 110, 45, 45, 98, 99, 104, 101, 114, 45, 107, 118, 97] : List UInt8) = [98, 99, 104, 101, 114, 45, 107, 118, 97] := rfl
  rw [labelL_else (by decide) (by decide +kernel), e, if_neg (by decide +kernel), if_pos (by decide +kernel), d, dec0, if_neg (by decide +kernel)]
  show (if (encodeL [98, 195, 188, 99, 104, 101, 114]).1 ≠ _ then _ else _) = _
  rw [encU]
  decide +kernel
theorem labW : labelL [119, 119, 119] = ([119, 119, 119], 0) := by
  have e : lowerL [119, 119, 119] = [119, 119, 119] := by decide +kernel
  rw [labelL_else (by decide) (by decide +kernel), e, if_neg (by decide +kernel), if_neg (by decide +kernel)]
  decide +kernel
theorem shX : showL [88, 78, 45, 45, 98, 99, 104, 101, 114, 45, 107, 118, 97] = [98, 195, 188, 99, 104, 101, 114] := by
  unfold showL
  rw [labX, if_neg (by decide +kernel)]
  decide +kernel
theorem shW : showL [119, 119, 119] = [119, 119, 119] := by
  unfold showL
  rw [labW, if_pos (.inr (.inl (by decide +kernel)))]

set_option maxRecDepth 100000 in
set_option maxHeartbeats 2000000 in
theorem alive_any (w : World) (hT : Lib.Utf8Tabs (validRen.g 3) (validRen.g 4) w) :
    Calls Tryd.prog 16 #[] w fun e w' => e = .returned (.bool true) ∧ Below w.heap.size w w' := by
  have hbw := Below.refl w.heap.size w
  have d1 := lift_below w (fun W => decode_any [45, 97] W (by decide))
  have l1 := lift_tabs w hT (fun W hTW => label_any [66, 195, 188, 67, 72, 69, 82] W (by decide) hTW)
  have l2 := lift_tabs w hT (fun W hTW => label_any [120, 110, 45, 45, 97, 98, 99, 45] W (by decide) hTW)
  have s1 := lift_tabs w hT (fun W hTW => show_any [88, 78, 45, 45, 98, 99, 104, 101, 114, 45, 107, 118, 97] W (by decide) hTW)
  have s2 := lift_tabs w hT (fun W hTW => show_any [119, 119, 119] W (by decide) hTW)
  rw [decB] at d1
  rw [labU] at l1
  rw [labP] at l2
  rw [shX] at s1
  rw [shW] at s2
  simp only [encV, resV] at d1 l1 l2
  have i0 := is_yes dec0 (by decide) (by decide +kernel) w hT
  have i1 := is_yes dec1 (by decide) (by decide +kernel) w hT
  have i2 := is_yes dec2 (by decide) (by decide +kernel) w hT
  have i3 := is_yes dec3 (by decide) (by decide +kernel) w hT
  have i4 := is_yes dec4 (by decide) (by decide +kernel) w hT
  have i5 := is_yes dec5 (by decide) (by decide +kernel) w hT
  go_enter Tryd.func16, Tryd.ntmps16
  go_wp2_with fail
  go_at_call 17
  refine (d1 _ (by assumption)).mono ?_
  rintro e w1 ⟨rfl, hb1⟩
  go_wp2_with fail
  go_at_call 12
  refine (l1 _ (by assumption)).mono ?_
  rintro e w1 ⟨rfl, hb1⟩
  go_wp2_with fail
  go_at_call 12
  refine (l2 _ (by assumption)).mono ?_
  rintro e w1 ⟨rfl, hb1⟩
  go_wp2_with fail
  go_at_call 36
  refine (i0 _ (by assumption)).mono ?_
  rintro e w1 ⟨rfl, hb1⟩
  go_wp2_with fail
  go_at_call 36
  refine (i1 _ (by assumption)).mono ?_
  rintro e w1 ⟨rfl, hb1⟩
  go_wp2_with fail
  go_at_call 36
  refine (i2 _ (by assumption)).mono ?_
  rintro e w1 ⟨rfl, hb1⟩
  go_wp2_with fail
  go_at_call 36
  refine (i3 _ (by assumption)).mono ?_
  rintro e w1 ⟨rfl, hb1⟩
  go_wp2_with fail
  go_at_call 36
  refine (i4 _ (by assumption)).mono ?_
  rintro e w1 ⟨rfl, hb1⟩
  go_wp2_with fail
  go_at_call 36
  refine (i5 _ (by assumption)).mono ?_
  rintro e w1 ⟨rfl, hb1⟩
  go_wp2_with fail
  go_at_call 14
  refine (s1 _ (by assumption)).mono ?_
  rintro e w1 ⟨rfl, hb1⟩
  go_wp2_with fail
  go_at_call 14
  refine (s2 _ (by assumption)).mono ?_
  rintro e w1 ⟨rfl, hb1⟩
  go_wp2_with fail
  go_ret
  exact ⟨rfl, by assumption⟩
end Go.Proofs.YtafieajameapiaaDoor
