/- The walk of the reference's Decode. -/
import Derived.Test.YtafieajameapiaaDoorDecWalk
import Derived.Test.YtafieajameapiaaDoorPunyWalkB
set_option linter.unusedVariables false
set_option linter.unusedSimpArgs false
namespace Go.Proofs.YtafieajameapiaaDoor
open Go.RowKit

theorem rdecode_walk_long (s : List UInt8) (w : World) (hs : 65536 < s.length) (hm : s.length ≤ 140737488351232) :
    Calls Tryd.prog 35 #[.string ⟨s.toArray⟩] w fun e w' => e = .returned (resV (decode s)) ∧ Below w.heap.size w w' := by
  have hd := Lib.hid (decode_long hs)
  have hb : decide (65536 < (s.length : Int)) = true := by simp; omega
  clear hs
  go_enter Tryd.func35, Tryd.ntmps35
  iterate 8 go_step
  go_wp2
  go_ret2
  exact ⟨by rw [hd.out]; rfl, Below.refl _ _⟩

/-- What holds at the head of each round. -/
def RefI (w wr : World) (v : Value) (s : List UInt8) (i b sg pl : Nat) (fst : Bool) (l : List Nat) : Prop :=
  wr.ownsRow w.heap.size 3 1 v l.length (i64s l) ∧ Below w.heap.size w wr ∧ i ≤ s.length ∧ b ≤ 288 ∧ sg ≤ 1114111 ∧ pl ≤ l.length ∧ l.length + (s.drop i).length ≤ 65536 ∧ (∀ x ∈ l, ¬ badSign x) ∧ Hid (decL (s.drop i) b sg pl fst l = decTop s)
theorem refI_start {w wr : World} {v : Value} {s : List UInt8} {k : Nat} (hs : s.length ≤ 65536) (hp : ∀ c ∈ s, c.toNat < 128) (hk : k ≤ s.length) (hk2 : 0 < k → k < s.length) (hc : cutZ s s.length = k) (hbl : Below w.heap.size w wr)
    (hown : wr.ownsRow w.heap.size 3 1 v ((s.take k).map fun c => c.toNat).length (i64s ((s.take k).map fun c => c.toNat))) (i : Nat) (hi : (0 < k ∧ i = k + 1) ∨ (k = 0 ∧ i = 0)) : RefI w wr v s i 72 128 0 true ((s.take k).map fun c => c.toNat) := by
  refine ⟨hown, hbl, by omega, by omega, by omega, by omega, by simp; omega, ?_, ?_⟩
  · intro x hx
    obtain ⟨u, hu, rfl⟩ := List.mem_map.1 hx
    exact bad_plain (hp u (List.mem_of_mem_take hu))
  · show _ = _
    unfold cutZ at hc
    unfold decTop
    rcases hi with ⟨h0, rfl⟩ | ⟨rfl, rfl⟩
    · have : lastAt s 45 s.length = k := by omega
      rw [this, if_pos (by omega)]
      rfl
    · rw [if_neg (by omega)]
      rfl
theorem refI_next {w w3 : World} {v' : Value} {s rest : List UInt8} {i b' sg p : Nat} {l : List Nat} (hown : w3.ownsRow w.heap.size 3 1 v' (p + 1 + (l.length - p)) ((i64s l).take p ++ [.int .i64 (sg : Int)] ++ (i64s l).drop p)) (hp : p ≤ l.length) (hb : Below w.heap.size w w3) (hi : i ≤ s.length) (hr : s.drop i = rest) (hb' : b' ≤ 288)
    (hs : ¬ badSign sg) (hlen : l.length + 1 + rest.length ≤ 65536) (hbad : ∀ x ∈ l, ¬ badSign x) (H : decL rest b' sg (p + 1) false (l.take p ++ [sg] ++ l.drop p) = decTop s) : RefI w w3 v' s i b' sg (p + 1) false (l.take p ++ [sg] ++ l.drop p) := by
  subst hr
  have hl : (l.take p ++ [sg] ++ l.drop p).length = l.length + 1 := by simp; omega
  refine ⟨?_, hb, hi, hb', ?_, ?_, ?_, ?_, H⟩
  · rw [hl]
    have e : i64s (l.take p ++ [sg] ++ l.drop p) = (i64s l).take p ++ [.int .i64 (sg : Int)] ++ (i64s l).drop p := by simp [i64s, List.map_take, List.map_drop]
    rw [e]
    rwa [show p + 1 + (l.length - p) = l.length + 1 from by omega] at hown
  · unfold badSign at hs; omega
  · rw [hl]; omega
  · rw [hl]; omega
  · intro x hx
    simp only [List.mem_append, List.mem_singleton] at hx
    rcases hx with (hx | rfl) | hx
    · exact hbad x (List.mem_of_mem_take hx)
    · exact hs
    · exact hbad x (List.mem_of_mem_drop hx)
theorem drop_suffix {s rest p : List UInt8} {i : Nat} (h : p ++ rest = s.drop i) : s.drop (s.length - rest.length) = rest := by
  have h2 : s.take i ++ p ++ rest = s := by rw [List.append_assoc, h, List.take_append_drop]
  generalize s.take i ++ p = q at h2
  subst h2
  rw [List.length_append, Nat.add_sub_cancel]
  exact List.drop_left
theorem i64s_one {l : List Nat} {u : Value} (h : u ∈ i64s l) : u.oneCell' = true := by
  obtain ⟨x, _, rfl⟩ := List.mem_map.1 h
  rfl
theorem one_int {z : Int} : ∀ u ∈ [Value.int .i64 z], u.oneCell' = true := by
  intro u hu
  simp only [List.mem_cons, List.not_mem_nil, or_false] at hu
  subst hu
  rfl
theorem elem_int : Tryd.prog.elem 32 = 3 := by kernel_rfl

set_option maxHeartbeats 1000000 in
set_option maxRecDepth 100000 in
theorem rdecode_walk (s : List UInt8) (w : World) (hs : s.length ≤ 65536) :
    Calls Tryd.prog 35 #[.string ⟨s.toArray⟩] w fun e w' => e = .returned (resV (decode s)) ∧ Below w.heap.size w w' := by
  have hb : decide (65536 < (s.length : Int)) = false := by simp; omega
  go_enter Tryd.func35, Tryd.ntmps35
  go_wp2
  go_loop [4, 5] (fun c i => ∃ k : Nat, k ≤ s.length ∧ i = .int .i64 k ∧ c = .int .i64 (cutZ s k) ∧ Hid (∀ j (hj : j < s.length), j < k → s[j].toNat < 128)) (fun _ i => s.length - (intOf i).toNat)
  case atStart => exact ⟨0, Nat.zero_le _, rfl, rfl, fun j _ h => absurd h (Nat.not_lt_zero _)⟩
  case round =>
    obtain ⟨k, hk, rfl, rfl, H⟩ := hrel
    have hz := cutZ_bd s k
    by_cases hlt : k < s.length
    · have Hh := Lib.hid (cutZ_hit s k hlt)
      have Hm := Lib.hid (cutZ_miss s k hlt)
      go_wp2
      all_goals first
        | (go_ret2
           refine ⟨?_, Below.refl _ _⟩
           rw [decode_wide hs ⟨s[k], List.getElem_mem hlt, by omega⟩]
           rfl)
        | (go_round
           case rel => exact ⟨k + 1, by omega, by go_num, by first | rw [Hh.out (by assumption)] | rw [Hm.out (by assumption)], fun j hj hjk => by
             by_cases e : j = k
             · subst e; omega
             · exact H.out j hj (by omega)⟩
           case measure => simp [intOf]; omega)
    · obtain rfl : k = s.length := by omega
      have hp : ∀ c ∈ s, c.toNat < 128 := by
        intro c hc
        obtain ⟨j, hj, rfl⟩ := List.getElem_of_mem hc
        exact H.out j hj hj
      have Hp := Lib.hid hp
      clear hp H hk hlt
      have hlt2 : cutZ s s.length ≤ (s.length : Int) := hz.2
      have hzz : cutZ s s.length = max 0 (lastAt s 45 s.length) := rfl
      have hll := lastAt_lt s 45 s.length
      obtain ⟨c, hc⟩ : ∃ c : Nat, cutZ s s.length = c := ⟨(cutZ s s.length).toNat, by omega⟩
      have hcl : c ≤ s.length := by omega
      have hcl2 : 0 < c → c < s.length := by omega
      have HC := Lib.hid hc
      have Hcl2 := Lib.hid hcl2
      rw [hc]
      clear hc hz hlt2 hzz hll hcl2
      go_wp2_with fail
      go_loopw [6, 7] (fun v i wr => ∃ k : Nat, k ≤ c ∧ i = .int .i64 k ∧ wr.ownsRow w.heap.size 3 1 v ((s.take k).map fun c => c.toNat).length (i64s ((s.take k).map fun c => c.toNat)) ∧ Below w.heap.size w wr) (fun _ i _ => c - (intOf i).toNat)
      case atStart => exact ⟨0, Nat.zero_le _, rfl, World.ownsRow_nil _ _ _ _, Below.refl _ _⟩
      case round =>
        obtain ⟨k, hk, rfl, hown, hbl⟩ := hrel
        by_cases hlt : k < c
        · have hks : k < s.length := by omega
          have ht : (s.take (k + 1)).map (fun c => c.toNat) = (s.take k).map (fun c => c.toNat) ++ [s[k].toNat] := by rw [List.take_succ_eq_append_getElem hks, List.map_append]; rfl
          have HT := Lib.hid ht
          have hln : (List.map (fun c => c.toNat) (s.take k)).length ≤ k := by simp; omega
          have hsz := hbl.size
          have hu := u8_lt s[k]
          clear ht
          go_wp2_with (at_builtin; refine wpList_append_vals e_int _ rfl _ _ rfl w.heap.size _ _ _ rfl hown _ _ _ rfl rfl ?c1 ?c2 ?c3 ?c4 ?_)
          case c1 => intro u hu; simp only [List.mem_cons, List.not_mem_nil, or_false] at hu; rcases hu with rfl
                     rfl
          case c2 => simp; omega
          case c3 => simp; omega
          case c4 => exact hsz
          intro v' w2 hown2 hgr _
          go_wp2
          go_roundw
          case rel => exact ⟨k + 1, by omega, by go_num, by rw [HT.out]; simpa [i64s] using hown2, hbl.grown hgr hsz (fun g' hg' => (hown.lt g' hg').1)⟩
          case measure => simp [intOf]; omega
        · obtain rfl : k = c := by omega
          go_upto_if 49 with fail
          go_cut [8] (fun a8 wx => wr = wx ∧ ∃ i : Nat, a8 = .int .i64 i ∧ Hid ((0 < k ∧ i = k + 1) ∨ (k = 0 ∧ i = 0)))
          case first =>
            by_cases h0 : 0 < k
            · go_wp2_with fail
              go_meet
              exact ⟨rfl, k + 1, by go_num, .inl ⟨h0, rfl⟩⟩
            · go_wp2_with fail
              go_meet
              exact ⟨rfl, k, rfl, .inr ⟨by omega, by omega⟩⟩
          case rest =>
            obtain ⟨rfl, i0, rfl, Hi⟩ := hcut
            have HI := Lib.hid (refI_start hs Hp.out hcl Hcl2.out HC.out hbl hown i0 Hi.out)
            clear hown hbl hcl HC Hcl2 Hi hk hlt
            go_wp2_with fail
            go_loopw [6, 8, 9, 10, 11, 12] (fun a6 a8 a9 a10 a11 a12 wr => ∃ (i b sg pl : Nat) (fst : Bool) (l : List Nat), a8 = .int .i64 i ∧ a9 = .int .i64 b ∧ a10 = .int .i64 pl ∧ a11 = .int .i64 sg ∧ a12 = .bool fst ∧ RefI w wr a6 s i b sg pl fst l) (fun _ a8 _ _ _ _ _ => s.length - (intOf a8).toNat)
            case atStart => exact ⟨i0, 72, 128, 0, true, _, rfl, rfl, rfl, rfl, rfl, HI.out⟩
            case round =>
              clear HI
              obtain ⟨i, b, sg, pl, fst, l, rfl, rfl, rfl, rfl, rfl, I⟩ := hrel
              obtain ⟨hown, hbl, hi, hb8, hsg, hpl, hlen, hbad, H⟩ := I
              have HB := Lib.hid hbad
              clear hbad
              by_cases hlt : i < s.length
              · have ht : s.drop i ≠ [] := by
                  intro h0
                  have := congrArg List.length h0
                  simp at this
                  omega
                cases hr : readL b (s.drop i) 36 1 pl with
                | none =>
                  have HN := Lib.hid (decL_none (sign := sg) (first := fst) (l := l) ht hr)
                  go_wp2_with fail
                  refine (number_any b s i pl _ (by omega) (by omega) (by omega) (by omega)).mono ?_
                  rw [hr]
                  simp only [numberV]
                  rintro e w2 ⟨rfl, rfl⟩
                  clear hr
                  go_wp2_with fail
                  go_ret2
                  refine ⟨?_, hbl⟩
                  rw [decode_plain hs Hp.out, ← H.out, HN.out]
                  rfl
                | some r =>
                  obtain ⟨n, rest⟩ := r
                  obtain ⟨hn1, hn2, hn3, hn4⟩ := readL_some b (s.drop i) 36 1 pl n rest hr
                  have HDR := Lib.hid (show s.drop (s.length - rest.length) = rest by obtain ⟨p, hp⟩ := hn4; exact drop_suffix hp)
                  have hrl : rest.length < s.length - i := by rw [List.length_drop] at hn3; exact hn3
                  clear hn4
                  obtain ⟨oa, oc, rfl⟩ := own_form hown
                  have HR := Lib.hid hr
                  obtain ⟨hq1, hq2, hq3⟩ := quo_len n l.length
                  obtain ⟨hq5, hq6, hq7⟩ := rem_len n l.length
                  have Hq3 := Lib.hid hq3
                  have Hq7 := Lib.hid hq7
                  have HN := Lib.hid (nextL_le (n - pl) (l.length + 1) fst (by omega))
                  clear hq3 hq7
                  have HW := Lib.hid (show (n : Int) - (pl : Int) = ((n - pl : Nat) : Int) by omega)
                  by_cases hbs : badSign (sg + n / (l.length + 1))
                  · have hbv : (1114111 : Int) < (sg : Int) + (n : Int) / ((l.length : Int) + 1) ∨ (55296 ≤ (sg : Int) + (n : Int) / ((l.length : Int) + 1) ∧ (sg : Int) + (n : Int) / ((l.length : Int) + 1) ≤ 57343) := by
                      rw [Hq3.out, ← Int.natCast_add]
                      unfold badSign at hbs
                      omega
                    have HD := Lib.hid (decL_bad (first := fst) (l := l) (sign := sg) ht hr hbs)
                    clear hbs
                    rcases hbv with hbv | ⟨hbv, hvf⟩
                    all_goals
                      go_wp2_with fail
                      refine (number_any b s i pl _ (by omega) (by omega) (by omega) (by omega)).mono ?_
                      rw [hr]
                      simp only [numberV]
                      rintro e w2 ⟨rfl, rfl⟩
                      clear hr
                      go_wp2_with fail
                      rw [HW.out]
                      refine (rnext_any (n - pl) (l.length + 1) fst _ (by omega) (by omega) (by omega)).mono ?_
                      rintro e w2 ⟨rfl, rfl⟩
                      go_wp2_with fail
                      go_ret2
                      refine ⟨?_, hbl⟩
                      rw [decode_plain hs Hp.out, ← H.out, HD.out]
                      rfl
                  · have hv1 : ((sg : Int) + (n : Int) / ((l.length : Int) + 1) ≤ 55295) ∨ (57344 ≤ (sg : Int) + (n : Int) / ((l.length : Int) + 1) ∧ (sg : Int) + (n : Int) / ((l.length : Int) + 1) ≤ 1114111) := by
                      rw [Hq3.out, ← Int.natCast_add]
                      unfold badSign at hbs
                      omega
                    have HD := Lib.hid (decL_go (first := fst) (l := l) (sign := sg) ht hr hbs)
                    have HS := Lib.hid hbs
                    clear hbs
                    have hml : n % (l.length + 1) ≤ l.length := by have := Nat.mod_lt n (show 0 < l.length + 1 by omega); omega
                    obtain ⟨x1, hx1, hs1⟩ := segTo e_int elem_int (fun W => by kernel_rfl) hown (n % (l.length + 1)) hml
                    obtain ⟨x2, hx2, hs2⟩ := segFrom e_int elem_int (fun W => by kernel_rfl) hown (n % (l.length + 1)) hml
                    rw [← Hq7.out] at hx1 hx2
                    have hc9 : ((i64s l).take (n % (l.length + 1))).length = n % (l.length + 1) := by simp; omega
                    have hc8 : ((i64s l).drop (n % (l.length + 1))).length = l.length - n % (l.length + 1) := by simp
                    have hc1 : ∀ u ∈ (i64s l).take (n % (l.length + 1)), u.oneCell' = true := fun u hu => i64s_one (List.mem_of_mem_take hu)
                    have hc5 : ∀ u ∈ (i64s l).drop (n % (l.length + 1)), u.oneCell' = true := fun u hu => i64s_one (List.mem_of_mem_drop hu)
                    have hc2 : 0 + ((i64s l).take (n % (l.length + 1))).length ≤ 140737488355328 := by rw [hc9]; omega
                    have hc3 : (0 + ((i64s l).take (n % (l.length + 1))).length) * 8 ≤ 140737488355328 := by rw [hc9]; omega
                    have hc4 : n % (l.length + 1) + 1 ≤ 100000 := by omega
                    have hc6 : (100000 : Nat) ≤ 140737488355328 := by omega
                    have hc7 : 100000 * 8 ≤ 140737488355328 := by omega
                    have hc11 : n % (l.length + 1) + 1 + ((i64s l).drop (n % (l.length + 1))).length ≤ 140737488355328 := by rw [hc8]; omega
                    have hc12 : (n % (l.length + 1) + 1 + ((i64s l).drop (n % (l.length + 1))).length) * 8 ≤ 140737488355328 := by rw [hc8]; omega
                    have Hc9 := Lib.hid hc9
                    have Hc8 := Lib.hid hc8
                    clear hc8
                    rcases hv1 with hv1 | ⟨hv1, hv3⟩
                    all_goals
                      go_wp2_with fail
                      refine (number_any b s i pl _ (by omega) (by omega) (by omega) (by omega)).mono ?_
                      rw [hr]
                      simp only [numberV]
                      rintro e w2 ⟨rfl, rfl⟩
                      clear hr
                      go_wp2_with fail
                      rw [HW.out]
                      refine (rnext_any (n - pl) (l.length + 1) fst _ (by omega) (by omega) (by omega)).mono ?_
                      rintro e w2 ⟨rfl, rfl⟩
                      go_wp2_with (at_builtin; refine wpList_append_seg e_int _ rfl (.tmp 98) (.tmp 101) rfl wr.heap.size _ 0 [] rfl (World.ownsRow_nil _ _ _ _) _ _ _ rfl hs1 hc1 hc2 hc3 (Nat.le_refl _) ?_)
                      intro v1 w1 hown1 hg1
                      have hz1 := hg1.size
                      have hs3 := hs2.kept hg1 (none_or _)
                      go_wp2_with (at_builtin; refine wpList_append_vals e_int _ rfl (.tmp 103) (.tmp 105) rfl wr.heap.size _ _ _ rfl hown1 1 _ _ rfl rfl one_int (Nat.le_trans hc4 hc6) (Nat.le_trans (Nat.mul_le_mul_right _ hc4) hc7) hz1 ?_)
                      intro v2 w2 hown2 hg2 hnn2
                      have hz2 : wr.heap.size ≤ w2.heap.size := Nat.le_trans hz1 hg2.size
                      have hs4 := hs3.kept hg2 (own_far hown hown1)
                      go_wp2_with (at_builtin; refine wpList_append_seg e_int _ rfl (.tmp 107) (.tmp 110) rfl wr.heap.size _ _ _ rfl hown2 _ _ _ rfl hs4 hc5 hc11 hc12 hz2 ?_)
                      intro v3 w3 hown3 hg3
                      have hb1 : Below w.heap.size w w1 := hbl.grown hg1 hbl.size (fun k hk => by simp [Value.ownBlock] at hk)
                      have hb2 : Below w.heap.size w w2 := hb1.grown hg2 hb1.size (fun k hk => Nat.le_trans hbl.size (hown1.lt k hk).1)
                      have hb3 : Below w.heap.size w w3 := hb2.grown hg3 hb2.size (fun k hk => Nat.le_trans hbl.size (hown2.lt k hk).1)
                      have HO := Lib.hid (own_base hown3 hbl.size)
                      clear hown hown1 hown2 hown3 hs1 hs2 hs3 hs4 hg1 hg2 hg3 hbl hb1 hb2 hx1 hx2 hc9
                      go_wp2_with fail
                      go_roundw
                      case rel =>
                        have h3 := HO.out
                        rw [Hq3.out, ← Int.natCast_add] at h3
                        exact ⟨s.length - rest.length, _, _, n % (l.length + 1) + 1, false, l.take (n % (l.length + 1)) ++ [sg + n / (l.length + 1)] ++ l.drop (n % (l.length + 1)), rfl, rfl, by rw [Hq7.out]; rfl, by rw [Hq3.out, ← Int.natCast_add], rfl,
                          refI_next (by simpa using h3) hml hb3 (by omega) HDR.out HN.out HS.out (by rw [List.length_drop] at hlen; omega) HB.out (by rw [← HD.out]; exact H.out)⟩
                      case measure => simp [intOf]; omega
              · obtain rfl : i = s.length := by omega
                go_wp2_with fail
                refine (bytes_any w.heap.size _ l _ hown hbl.size (by omega) (fun x hx => by have := HB.out x hx; unfold badSign at this; omega)).mono ?_
                rintro e w2 ⟨rfl, hb2⟩
                go_wp2_with fail
                go_ret2
                refine ⟨?_, hbl.trans (hb2.mono hbl.size)⟩
                rw [decode_plain hs Hp.out, ← H.out, List.drop_length, decL_nil]
                rfl
end Go.Proofs.YtafieajameapiaaDoor
