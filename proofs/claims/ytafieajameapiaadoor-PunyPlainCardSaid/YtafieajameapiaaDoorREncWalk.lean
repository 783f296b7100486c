/- The walk of the reference's Encode. -/
import Derived.Test.YtafieajameapiaaDoorSignsWalk
import Derived.Test.YtafieajameapiaaDoorRTold
import Derived.Deep.LoopGhost
import Derived.Deep.DeepCutAuto
set_option linter.unusedVariables false
set_option linter.unusedSimpArgs false
namespace Go.Proofs.YtafieajameapiaaDoor
open Go.RowKit

/-- The least sign of at least 'last'. -/
def minL (last : Nat) (l : List Nat) : Nat := l.foldl (fun m c => if last ≤ c ∧ c < m then c else m) 1114112
theorem minL_snoc (last c : Nat) (l : List Nat) : minL last (l ++ [c]) = if last ≤ c ∧ c < minL last l then c else minL last l := by rw [minL, List.foldl_append]; rfl
theorem minL_ge (last m : Nat) : ∀ (l : List Nat) (a : Nat), m ≤ a → (∀ c ∈ l, last ≤ c → m ≤ c) → m ≤ l.foldl (fun m c => if last ≤ c ∧ c < m then c else m) a
  | [], a, ha, _ => ha
  | c :: l, a, ha, hc => by
    rw [List.foldl_cons]
    refine minL_ge last m l _ ?_ (fun d hd => hc d (List.mem_cons_of_mem _ hd))
    split
    · rename_i h; exact hc c List.mem_cons_self h.1
    · exact ha
theorem minL_le (last m : Nat) (hm : last ≤ m) : ∀ (l : List Nat) (a : Nat), (m ∈ l ∨ a ≤ m) → l.foldl (fun m c => if last ≤ c ∧ c < m then c else m) a ≤ m
  | [], a, h => by simpa using h
  | c :: l, a, h => by
    rw [List.foldl_cons]
    refine minL_le last m hm l _ ?_
    rcases h with h | h
    · rcases List.mem_cons.1 h with rfl | h
      · right; split <;> omega
      · exact .inl h
    · right; split <;> omega
theorem OutOk.least {R : List Nat} {p : Nat} {x : Nat × ES} {m : Nat} {rest : List Nat} (h : OutOk R p x (m :: rest)) : minL x.1 R = m := by
  have hm := h.mem m List.mem_cons_self
  have hge : ∀ c ∈ R, x.1 ≤ c → m ≤ c := fun c hc hx => by
    rcases List.mem_cons.1 (h.compl c hc hx) with h6 | h6
    · omega
    · exact Nat.le_of_lt ((List.pairwise_cons.1 h.sorted).1 c h6)
  exact Nat.le_antisymm (minL_le x.1 m hm.2.1 R _ (.inl hm.1)) (minL_ge x.1 m R _ (by omega) hge)
theorem minL_bd (last : Nat) : ∀ (l : List Nat) (a : Nat), a ≤ 1114112 → l.foldl (fun m c => if last ≤ c ∧ c < m then c else m) a ≤ 1114112
  | [], a, h => h
  | c :: l, a, h => by
    rw [List.foldl_cons]
    refine minL_bd last l _ ?_
    split <;> omega
theorem take_next {R : List Nat} {i : Nat} (h : i < R.length) : R.take (i + 1) = R.take i ++ [R.getD i 0] := by
  rw [List.take_succ_eq_append_getElem h]; simp [h]
theorem plainB_take {R : List Nat} {i : Nat} (h : i < R.length) : plainB (R.take (i + 1)) = if R.getD i 0 < 128 then plainB (R.take i) ++ [UInt8.ofNat (R.getD i 0)] else plainB (R.take i) := by
  rw [take_next h, plainB, List.filter_append, List.map_append]
  split <;> simp_all [plainB]
theorem own1 (w : World) (x : Nat) (h : x < 256) : (w.alloc (.cells #[.int .u8 (x : Int)] 5)).ownsRow w.heap.size 5 1 (.slice (some ⟨w.heap.size, 0, none⟩) 1 1) [UInt8.ofNat x].length ([UInt8.ofNat x].map fun c => .int .u8 (c.toNat : Int)) := by
  refine ⟨rfl, .inr ⟨w.heap.size, 1, _, rfl, Nat.le_refl _, World.alloc_heap_new w _, Nat.le_refl _, by unfold maxLen; omega, rfl, ?_⟩⟩
  simp only [List.map_cons, List.map_nil, u8_of h]
  rfl

set_option maxRecDepth 1000000 in
set_option maxHeartbeats 4000000 in
theorem rencode_walk (s : List UInt8) (w : World) (hs : s.length ≤ 5000) (hv : Lib.validD s = true) :
    Calls Tryd.prog 11 #[.string ⟨s.toArray⟩] w fun e w' => e = .returned (.tuple #[.string ⟨(encR (runes s)).toArray⟩, .int .i64 0]) ∧ Below w.heap.size w w' := by
  have hb : decide (65536 < (s.length : Int)) = false := by simp; omega
  have cs : Calls Tryd.prog 27 #[.string ⟨s.toArray⟩] w fun e w' => ∃ v, e = .returned (.tuple #[v, .bool true]) ∧ w'.ownsRow w.heap.size 3 1 v (runes s).length (i64s (runes s)) ∧ Below w.heap.size w w' := by
    refine (signs_any s w (by omega)).mono ?_
    rintro e w' ⟨⟨_, v, he, ho⟩ | ⟨hf, _⟩, hbl⟩
    · exact ⟨v, he, ho, hbl⟩
    · rw [hv] at hf; cases hf
  have hRl := runes_len _ s (Nat.le_refl _)
  have hRx := runes_le _ s (Nat.le_refl _)
  generalize runes s = R at *
  have hRx' := Lib.hid hRx
  clear hv hRx
  go_enter Tryd.func11, Tryd.ntmps11
  iterate 8 go_step
  go_wp2_with (go_at_call 27; refine cs.mono ?_; rintro e w1 ⟨v, rfl, hown, hb1⟩)
  obtain ⟨c, hv, hc⟩ : ∃ (c : Option Addr × Nat), v = .slice c.1 R.length c.2 ∧ ∀ k, k < R.length → ∃ g, c.1 = some ⟨g, 0, none⟩ ∧ g < w1.heap.size ∧ w1.cell? ⟨g, k, none⟩ = some (.int .i64 (R.getD k 0 : Nat)) := by
    rcases own_open hown with ⟨rfl, h0, _⟩ | ⟨g, cap, rfl, _, hg, _, _, hcell⟩
    · exact ⟨(none, 0), by rw [h0], fun k hk => by omega⟩
    · exact ⟨(some ⟨g, 0, none⟩, cap), rfl, fun k hk => ⟨g, rfl, hg, hcell k _ (by simp [hk])⟩⟩
  obtain ⟨a0, cap⟩ := c
  simp only at hv hc
  subst hv
  have Hc := Lib.hid hc
  clear hown hc cs
  go_loopw [6, 7] (fun ov iv wr => ∃ i : Nat, i ≤ R.length ∧ iv = .int .i64 (i : Int) ∧ ov = .string ⟨(plainB (R.take i)).toArray⟩ ∧ Below w1.heap.size w1 wr) (fun _ iv _ => R.length - (intOf iv).toNat)
  case atStart => exact ⟨0, Nat.zero_le _, rfl, rfl, Below.refl _ _⟩
  case round =>
    obtain ⟨i, hil, rfl, rfl, hbl⟩ := hrel
    have hpl : (plainB (R.take i)).length ≤ 5000 := by
      simp only [plainB, List.length_map]
      have := List.length_filter_le (· < 128) (R.take i)
      have h2 : (R.take i).length ≤ R.length := by simp; omega
      omega
    by_cases hlt : i < R.length
    · obtain ⟨g, rfl, hg, hcell0⟩ := Hc.out i hlt
      have hcell : wr.cell? ⟨g, i, none⟩ = some (.int .i64 (R.getD i 0 : Nat)) := (hbl.cell (p := ⟨g, i, none⟩) hg).trans hcell0
      clear hcell0
      have hPT := Lib.hid (plainB_take hlt)
      generalize R.getD i 0 = x at *
      by_cases h128 : x < 128
      · have hcv := convert_bytes_own (P := Tryd.prog) (src := 29) (dst := 9) (e := 5) (l := [UInt8.ofNat x]) Tryd.underlying29 Tryd.underlying5 Tryd.underlying9 (own1 wr x (by omega))
        have hPT2 : Hid (plainB (R.take (i + 1)) = plainB (R.take i) ++ [UInt8.ofNat x]) := by show _ = _; rw [hPT.out, if_pos h128]
        clear hPT
        go_wp2_with fail
        refine ⟨⟨i + 1, by omega, by go_num, ?_, hbl.trans ((below_alloc wr _).mono hbl.size)⟩, by simp [intOf]; omega⟩
        rw [hPT2.out, ← ba_append]
      · have hPT2 : Hid (plainB (R.take (i + 1)) = plainB (R.take i)) := by show _ = _; rw [hPT.out, if_neg h128]
        clear hPT
        go_wp2_with fail
        exact ⟨⟨i + 1, by omega, by go_num, by rw [hPT2.out], hbl⟩, by simp [intOf]; omega⟩
    · obtain rfl : i = R.length := by omega
      rw [List.take_length] at hpl ⊢
      go_upto_if 50 with fail
      go_cut [6] from 46 to 52 (fun s6 wx => wr = wx ∧ s6 = .string ⟨(startOut R).toArray⟩)
      case first =>
        by_cases h0 : 0 < (plainB R).length
        · have h0i : decide ((0 : Int) < ((plainB R).length : Int)) = true := by simp; omega
          have e1 : Hid (startOut R = plainB R ++ [45]) := by show _ = _; unfold startOut; rw [if_pos h0]
          go_wp2_with fail
          go_meet
          case rel =>
            refine ⟨rfl, ?_⟩
            rw [e1.out, ← ba_append]
        · have e1 : Hid (startOut R = plainB R) := by show _ = _; unfold startOut; rw [if_neg h0, List.append_nil]
          go_wp2_with fail
          go_meet
          case rel => exact ⟨rfl, by rw [e1.out]⟩
      case rest =>
        obtain ⟨rfl, rfl⟩ := hcut
        clear hpl hlt
        go_wp2_with fail
        go_loopg [6, 9, 10, 11, 12] (msN R).length (fun gk ov many bias num last wx => wr = wx ∧ ∃ (mpre mrest : List Nat) (x : Nat × ES), Hid (msN R = mpre ++ mrest) ∧ Hid (runS R (plainB R).length mpre (start R) = x) ∧ OutOk R (plainB R).length x mrest ∧ gk = mrest.length ∧ ov = .string ⟨x.2.out.toArray⟩ ∧ many = .int .i64 (x.2.many : Int) ∧ bias = .int .i64 (x.2.b : Int) ∧ num = .int .i64 (x.2.n : Int) ∧ last = .int .i64 (x.1 : Int))
        case atStart => exact ⟨rfl, [], msN R, start R, rfl, rfl, start_ok R hRx'.out, rfl, rfl, rfl, rfl, rfl, rfl⟩
        case round =>
          obtain ⟨rfl, mpre, mrest, x, hmsr, hrun, hok, rfl, rfl, rfl, rfl, rfl, rfl⟩ := hrel
          have hR7 : R.length ≤ 7000 := by omega
          cases mrest with
          | nil =>
            have hdone := hok.done
            have hdn : ¬ x.2.many < R.length := by omega
            have hres : Hid (encR R = x.2.out) := by
              have h1 := hmsr.out
              rw [List.append_nil] at h1
              show _ = _
              rw [encR, h1, hrun.out]
            clear hdone
            go_wp2_with fail
            go_ret2
            exact ⟨by rw [hres.out]; rfl, hb1.trans (hbl.mono hb1.size)⟩
          | cons m mrest =>
            have hmore := hok.more
            obtain ⟨hq1, hm7, hn7, hx1, hm1⟩ := hok.start_n hR7
            have hlo := hok.lo
            have hbb := hok.b
            have hP2 : ((m : Int) - (x.1 : Int)) * ((x.2.many : Int) + 1) = (((m - x.1) * (x.2.many + 1) : Nat) : Int) := by
              rw [Int.natCast_mul, Int.natCast_sub (by omega)]; rfl
            have hP0 : (0 : Int) ≤ ((m : Int) - (x.1 : Int)) * ((x.2.many : Int) + 1) := by rw [hP2]; omega
            have hP1 : ((m : Int) - (x.1 : Int)) * ((x.2.many : Int) + 1) ≤ 7798994983 := by rw [hP2]; omega
            have hPH := Lib.hid hP2
            have hlst := Lib.hid hok.least
            clear hP2 hq1
            go_wp2_with fail
            go_loop [13, 14] (fun mv iv => ∃ i : Nat, i ≤ R.length ∧ iv = .int .i64 (i : Int) ∧ mv = .int .i64 ((minL x.1 (R.take i) : Nat) : Int)) (fun _ iv => R.length - (intOf iv).toNat)
            case atStart => exact ⟨0, Nat.zero_le _, rfl, rfl⟩
            case round =>
              obtain ⟨i, hil, rfl, rfl⟩ := hrel
              by_cases hlt : i < R.length
              · obtain ⟨g, rfl, hg, hcell0⟩ := Hc.out i hlt
                have hcell : wr.cell? ⟨g, i, none⟩ = some (.int .i64 (R.getD i 0 : Nat)) := (hbl.cell (p := ⟨g, i, none⟩) hg).trans hcell0
                clear hcell0
                have hsn := Lib.hid (minL_snoc x.1 (R.getD i 0) (R.take i))
                rw [← take_next hlt] at hsn
                have hmb : minL x.1 (R.take i) ≤ 1114112 := minL_bd _ _ _ (Nat.le_refl _)
                generalize R.getD i 0 = c at *
                generalize minL x.1 (R.take i) = mm at *
                by_cases h1 : x.1 ≤ c
                · by_cases h2 : c < mm
                  · have hn : Hid (minL x.1 (R.take (i + 1)) = c) := by show _ = _; rw [hsn.out, if_pos ⟨h1, h2⟩]
                    clear hsn
                    go_wp2_with fail
                    exact ⟨⟨i + 1, by omega, by go_num, by rw [hn.out]⟩, by simp [intOf]; omega⟩
                  · have hn : Hid (minL x.1 (R.take (i + 1)) = mm) := by show _ = _; rw [hsn.out, if_neg (fun h => h2 h.2)]
                    clear hsn
                    go_wp2_with fail
                    exact ⟨⟨i + 1, by omega, by go_num, by rw [hn.out]⟩, by simp [intOf]; omega⟩
                · have hn : Hid (minL x.1 (R.take (i + 1)) = mm) := by show _ = _; rw [hsn.out, if_neg (fun h => h1 h.1)]
                  clear hsn
                  go_wp2_with fail
                  exact ⟨⟨i + 1, by omega, by go_num, by rw [hn.out]⟩, by simp [intOf]; omega⟩
              · obtain rfl : i = R.length := by omega
                rw [List.take_length, hlst.out]
                go_wp2_with fail
                go_loop [6, 9, 10, 11, 15] (fun ov many bias num iv => ∃ (i : Nat) (st : ES), i ≤ R.length ∧ iv = .int .i64 (i : Int) ∧ Hid (passS m (plainB R).length (R.take i) ⟨x.2.b, x.2.n + (m - x.1) * (x.2.many + 1), x.2.many, x.2.out⟩ = st) ∧ ov = .string ⟨st.out.toArray⟩ ∧ many = .int .i64 (st.many : Int) ∧ bias = .int .i64 (st.b : Int) ∧ num = .int .i64 (st.n : Int)) (fun _ _ _ _ iv => R.length - (intOf iv).toNat)
                case atStart => exact ⟨0, ⟨x.2.b, x.2.n + (m - x.1) * (x.2.many + 1), x.2.many, x.2.out⟩, Nat.zero_le _, rfl, rfl, rfl, rfl, rfl, by show Value.int _ _ = _; rw [Int.natCast_add, ← hPH.out]⟩
                case round =>
                  obtain ⟨i, st, hil2, rfl, hst, rfl, rfl, rfl, rfl⟩ := hrel
                  obtain ⟨sb, sn, sm, sp, so⟩ := hok.pass_bd hR7 (R.take i) (R.drop i) (List.take_append_drop i R).symm hst.out
                  by_cases hlt2 : i < R.length
                  · obtain ⟨g, rfl, hg, hcell0⟩ := Hc.out i hlt2
                    have hcell : wr.cell? ⟨g, i, none⟩ = some (.int .i64 (R.getD i 0 : Nat)) := (hbl.cell (p := ⟨g, i, none⟩) hg).trans hcell0
                    clear hcell0
                    have htn := Lib.hid (take_next hlt2)
                    generalize R.getD i 0 = c at *
                    rcases Nat.lt_trichotomy c m with hcm | hcm | hcm
                    · have hn : Hid (passS m (plainB R).length (R.take (i + 1)) ⟨x.2.b, x.2.n + (m - x.1) * (x.2.many + 1), x.2.many, x.2.out⟩ = ⟨st.b, st.n + 1, st.many, st.out⟩) := by
                        show _ = _
                        rw [htn.out, passS_snoc, hst.out, stepS, if_pos hcm]
                      go_wp2_with fail
                      exact ⟨⟨i + 1, _, by omega, by go_num, hn, rfl, rfl, rfl, rfl⟩, by simp [intOf]; omega⟩
                    · subst hcm
                      have hn : Hid (passS c (plainB R).length (R.take (i + 1)) ⟨x.2.b, x.2.n + (c - x.1) * (x.2.many + 1), x.2.many, x.2.out⟩ = ⟨nextL st.n (st.many + 1) (decide (st.many = (plainB R).length)), 0, st.many + 1, st.out ++ toldL st.n st.b 36⟩) := by
                        show _ = _
                        rw [htn.out, passS_snoc, hst.out, stepS, if_neg (by omega), if_pos rfl]
                      have htl := toldL_bd (n := st.n) (b := st.b) (k := 36) (by omega)
                      have cn : ∀ w, Calls Tryd.prog 29 #[.int .i64 (st.n : Int), .int .i64 ((st.many : Int) + 1), .bool ((st.many : Int) == ((plainB R).length : Int))] w fun e w' => e = .returned (.int .i64 ((nextL st.n (st.many + 1) (decide (st.many = (plainB R).length)) : Nat) : Int)) ∧ w = w' := fun w => by
                        have := rnext_any st.n (st.many + 1) (decide (st.many = (plainB R).length)) w (by omega) (by omega) (by omega)
                        have e : ((st.many : Int) == ((plainB R).length : Int)) = decide (st.many = (plainB R).length) := by rw [Bool.eq_iff_iff]; simp; omega
                        rw [e]; exact this
                      go_wp2_with (first | (go_at_call 29; refine (cn _).mono ?_; rintro e w' ⟨rfl, rfl⟩) | (go_at_call 28; refine (rtold_any st.n st.b _ (by omega) (by omega)).mono ?_; rintro e w' ⟨rfl, rfl⟩))
                      refine ⟨⟨i + 1, _, by omega, by go_num, hn, ?_, rfl, rfl, rfl⟩, by simp [intOf]; omega⟩
                      rw [ba_append]
                    · have hn : Hid (passS m (plainB R).length (R.take (i + 1)) ⟨x.2.b, x.2.n + (m - x.1) * (x.2.many + 1), x.2.many, x.2.out⟩ = st) := by
                        show _ = _
                        rw [htn.out, passS_snoc, hst.out, stepS, if_neg (by omega), if_neg (by omega)]
                      go_wp2_with fail
                      exact ⟨⟨i + 1, _, by omega, by go_num, hn, rfl, rfl, rfl, rfl⟩, by simp [intOf]; omega⟩
                  · obtain rfl : i = R.length := by omega
                    have hst2 := hst.out
                    rw [List.take_length] at hst2
                    have ho : Hid (outS R (plainB R).length x m = (m + 1, ⟨st.b, st.n + 1, st.many, st.out⟩)) := by show _ = _; simp only [outS, hst2]
                    clear hst2
                    go_wp2_with fail
                    go_roundg mrest.length
                    case measure => simp
                    case rel =>
                      refine ⟨rfl, mpre ++ [m], mrest, (m + 1, ⟨st.b, st.n + 1, st.many, st.out⟩), ?_, ?_, ?_, rfl, rfl, rfl, rfl, rfl, rfl⟩
                      · show _ = _
                        rw [hmsr.out]; simp
                      · show _ = _
                        rw [runS_snoc, hrun.out, ho.out]
                      · rw [← ho.out]; exact hok.next hR7
end Go.Proofs.YtafieajameapiaaDoor
