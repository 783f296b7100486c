/- The walk of puny.Encode. -/
import Derived.Test.YtgihofogkoeimaaGreatDoorGEnc
import Derived.Deep.DeepCutAuto
set_option linter.unusedVariables false
set_option linter.unusedSimpArgs false
namespace Go.Proofs.YtgihofogkoeimaaGreatDoor
open Go.RowKit
attribute [local go_sem] Oper.semAt_some
def othersN (R : List Nat) : List Nat := R.filter (128 ≤ ·)
theorem i64s_int (l : List Nat) : i64s l = intVs (l.map Int.ofNat) := by simp [i64s, intVs, List.map_map]
theorem othersI_eq (R : List Nat) : othersI R = (othersN R).map Int.ofNat := rfl
theorem msN_len (R : List Nat) : (msN R).length ≤ R.length := by
 have h1 : (msI R).length ≤ (sortedI R).length := Lib.compact_length_le _
 have h2 : (sortedI R).length = (othersI R).length := by simp [sortedI]
 have h3 : (othersI R).length ≤ R.length := by rw [othersI, List.length_map]; exact List.length_filter_le _ _
 simp only [msN, List.length_map]
 omega
set_option maxRecDepth 1000000 in
set_option maxHeartbeats 4000000 in
theorem encode_walk (s : List UInt8) (w : World) (hs : s.length ≤ 18000) (hT : Lib.Utf8Tabs (validRen.g 3) (validRen.g 4) w) (hv : Lib.validD s = true) :
  Calls Tryz.prog 108 #[.string ⟨s.toArray⟩] w fun e w' => e = .returned (.tuple #[.string ⟨(encR (runes s)).toArray⟩, .int .i64 0]) ∧ Below w.heap.size w w' := by
 have cv := valid_any s w (by omega) hT
 rw [hv] at cv
 clear hv
 have hb : decide (65536 < (s.length : Int)) = false := by simp; omega
 refine (callsIn_wide (n := 4)).1 (callsIn_of_wp_marks Tryz.func108 rfl trivial (wpIn_wide.2 ?_) rfl)
 simp only [Tryz.ntmps108, List.size_toArray, List.length_cons, List.length_nil, Nat.reduceAdd, Nat.reduceSub, Array.replicate_succ, Array.replicate_zero, List.push_toArray, List.append_toArray, List.nil_append, List.cons_append]
 iterate 12 go_step
 go_wp2_with (go_at_call 105; refine cv.mono ?_; rintro e w1 ⟨rfl, hb1⟩)
 go_loopw [5] (fun o wr => ∃ (pos : Nat) (pre : List Nat), Thru s pre pos ∧ Mem w1.heap.size w1 none [] (plainB pre) wr ∧ wr.ownsRow (w1.heap.size + 1) 3 1 o (othersN pre).length (i64s (othersN pre)) ∧ wr.heap[w1.heap.size + 1]? = some (.stringIter ⟨s.toArray⟩ pos)) (fun o wr => s.length - wr.iterPos (w1.heap.size + 1))
 case atStart =>
  refine ⟨0, [], thru_start s, ?_, World.ownsRow_nil _ _ _ _, ?_⟩
  ·exact ⟨(Lib.IsBuilderF.of (Lib.fresh_isBuilder _ _ w1)).alloc _, ((Below.refl _ w1).alloc (Nat.le_refl _) _).alloc (by rw [World.size_alloc]; omega) _, by show _ < (World.alloc _ _).heap.size; rw [World.size_alloc, World.size_alloc]; omega, marks_nil _ _, fun g cur e => by cases e⟩
  ·have := World.iter_heap (w1.alloc (.cells #[.pointer none, .slice none 0 0] 53)) ⟨s.toArray⟩ 0
   simpa using this
 case round =>
  obtain ⟨pos, pre, hth, hmem, hown, hit⟩ := hrel
  have hpl := thru_len hth
  have hol : (othersN pre).length ≤ pre.length := List.length_filter_le _ _
  have hpb : (plainB pre).length ≤ pre.length := by simp only [plainB, List.length_map]; exact List.length_filter_le _ _
  by_cases hp : pos < s.length
  ·have hth2 := thru_step hth hp
   have hwd : 1 ≤ (Utf8.decode ⟨s.toArray⟩ pos).2 := by have := Lib.decodeL_drop ⟨s.toArray⟩ pos; rw [← this]; exact Lib.decodeL_width _
   have hc : (Utf8.decode ⟨s.toArray⟩ pos).1 ≤ 1114111 := by have := Lib.decodeL_drop ⟨s.toArray⟩ pos; rw [← this]; exact Lib.decodeL_rune _
   have hnx : ∀ ty, (Instr.next (.pointer (some ⟨w1.heap.size + 1, 0, none⟩)) true ty).run Tryz.prog wr = _ := fun ty => Lib.run_next_any_at wr (w1.heap.size + 1) ⟨s.toArray⟩ pos ty hit hp
   obtain ⟨d, hd⟩ : ∃ d, Utf8.decode ⟨s.toArray⟩ pos = d := ⟨_, rfl⟩
   rw [hd] at hth2 hwd hc hnx
   clear hd
   obtain ⟨c, z⟩ := d
   simp only at hth2 hwd hc hnx
   have hmem2 := hmem.iterAt hit (by omega) (pos + z)
   have hit2 := Lib.iterAt_heap wr (w1.heap.size + 1) ⟨s.toArray⟩ pos (pos + z) hit
   have hown2 := own_iterAt hown hit (pos + z)
   have hTh := Lib.hid hth2
   clear hth2 hth
   by_cases h128 : c < 128
   ·have hci : (c : Int) % 256 = (c : Int) := by omega
    go_wp2_with (go_at_call 31; refine (writeByte_k w1.heap.size w1.heap.size _ (c : Int) _ hmem2.bld (by rw [Lib.byteCells_length]; omega) (Nat.le_of_lt hmem2.sz)).mono ?_)
    rintro e W1 ⟨rfl, h1, b1, k1⟩
    go_wp2
    go_roundw
    case rel =>
     refine ⟨pos + z, pre ++ [c], hTh, ?_, ?_, k1.iter hit2 (by omega)⟩
     ·have e1 : plainB (pre ++ [c]) = plainB pre ++ [UInt8.ofNat c] := by simp [plainB, h128]
      rw [e1]
      exact hmem2.wrote (by rw [u8_of (by omega)]; exact h1) b1 k1
     ·have e1 : othersN (pre ++ [c]) = othersN pre := by simp [othersN]; omega
      rw [e1]
      exact own_wrote hown2 k1
    case measure =>
     simp only [World.iterPos, k1.iter hit2 (by omega), hit]
     omega
   ·go_wp2_with (at_builtin; refine wpList_append_vals e_int _ rfl _ _ rfl (w1.heap.size + 1) _ _ _ rfl hown2 _ _ _ rfl rfl ?c1 ?c2 ?c3 ?c4 ?_)
    case c1 => (intro u hu; simp only [List.mem_cons, List.not_mem_nil, or_false] at hu; rcases hu with rfl; all_goals rfl)
    case c2 => simp; omega
    case c3 => simp; omega
    case c4 => have := hmem2.sz; omega
    intro v' w2 hown3 hgr _
    have hkd := own_kind hown2
    go_wp2
    go_roundw
    case rel =>
     refine ⟨pos + z, pre ++ [c], hTh, ?_, ?_, iter_grown hit2 hgr (fun j e => by obtain ⟨_, c, fz, h⟩ := hkd j e; exact ⟨_, _, _, h⟩)⟩
     ·have e1 : plainB (pre ++ [c]) = plainB pre := by simp [plainB, h128]
      rw [e1]
      exact hmem2.grown hgr (fun k e => ⟨by have := (hkd k e).1; omega, (hkd k e).2⟩)
     ·have e1 : othersN (pre ++ [c]) = othersN pre ++ [c] := by simp [othersN]; omega
      rw [e1, List.length_append, i64s, List.map_append]
      exact hown3
    case measure =>
     simp only [World.iterPos, iter_grown hit2 hgr (fun j e => by obtain ⟨_, c, fz, h⟩ := hkd j e; exact ⟨_, _, _, h⟩), hit]
     omega
  ·have hnx : ∀ ty, (Instr.next (.pointer (some ⟨w1.heap.size + 1, 0, none⟩)) true ty).run Tryz.prog wr = _ := fun ty => Lib.run_next_end_at wr (w1.heap.size + 1) ⟨s.toArray⟩ pos ty hit hp
   have hR := thru_end hth hp
   have hth' := Lib.hid hth
   have hRR := Lib.hid hR
   clear hth hR
   have cl : Calls Tryz.prog 159 #[.pointer (some ⟨w1.heap.size, 0, none⟩)] wr fun e w' => e = .returned (.int .i64 (plainB pre).length) ∧ w' = wr := by
    have := Tryz.Builder_Len_f w1.heap.size w1.heap.size _ _ hmem.bld
    rwa [Lib.byteCells_length] at this
   go_upto_if 43 with (go_at_call 159; refine cl.mono ?_; rintro e w' ⟨rfl, rfl⟩)
   go_cut [] from 18 to 44 (fun wx => Mem w1.heap.size w1 none [] (startOut pre) wx ∧ wx.ownsRow (w1.heap.size + 1) 3 1 u5 (othersN pre).length (i64s (othersN pre)))
   case first =>
    by_cases h0 : 0 < (plainB pre).length
    ·have h0i : decide ((0 : Int) < ((plainB pre).length : Int)) = true := by simp; omega
     go_wp2_with (go_at_call 31; refine (writeByte_k w1.heap.size w1.heap.size _ 45 _ hmem.bld (by rw [Lib.byteCells_length]; omega) (Nat.le_of_lt hmem.sz)).mono ?_)
     rintro e W1 ⟨rfl, h1, b1, k1⟩
     go_wp2
     go_meet
     case rel =>
      refine ⟨?_, own_wrote hown k1⟩
      have e1 : startOut pre = plainB pre ++ [45] := by unfold startOut; rw [if_pos h0]
      rw [e1]
      exact hmem.wrote (c := 45) h1 b1 k1
    ·go_wp2_with fail
     go_meet
     case rel =>
      refine ⟨?_, hown⟩
      have e1 : startOut pre = plainB pre := by unfold startOut; rw [if_neg h0, List.append_nil]
      rw [e1]
      exact hmem
   case rest =>
    obtain ⟨hmem3, hown3⟩ := hcut
    clear hmem hown hit hnx cl hp hth'
    obtain ⟨R, rfl⟩ : ∃ R, R = pre := ⟨_, rfl⟩
    have hi : i64s (othersN R) = intVs (othersI R) := i64s_int _
    have hil : (othersN R).length = (othersI R).length := by rw [othersI_eq, List.length_map]
    rw [hi, hil] at hown3
    have cs := sort_any _ _ _ _ hown3 (by omega)
    clear hi
    go_upto_region 18 with (go_at_call 160; refine cs.mono ?_; rintro e W2 ⟨rfl, hown4, hgr⟩)
    have hkd := own_kind hown3
    have hmem4 := hmem3.grown hgr (fun k e => ⟨by have := (hkd k e).1; omega, (hkd k e).2⟩)
    have hkd4 := own_kind hown4
    have hsl : ((othersI R).mergeSort fun x y => decide (x ≤ y)).length = (othersI R).length := by simp
    have hown5 : W2.ownsRow (w1.heap.size + 1) 3 1 u5 (sortedI R).length (intVs (sortedI R)) := by rw [show (sortedI R).length = (othersI R).length from hsl]; exact hown4
    have cc := compact_any _ _ _ _ hown5 (by rw [show (sortedI R).length = (othersI R).length from hsl]; omega)
    clear hgr hown3 hown4 hown5 hmem3 cs hkd
    have hil' := Lib.hid hil
    clear hil hsl
    go_wp2_with (go_at_call 161; refine cc.mono ?_; rintro e W3 ⟨ad, cp, rfl, hgr, hrow⟩)
    obtain ⟨row, hmem5, HR⟩ : ∃ row, Mem w1.heap.size w1 row [] (startOut R) W3 ∧ ∀ (j m : Nat), (msN R)[j]? = some m → ∃ gb cur, ad = some ⟨gb, 0, none⟩ ∧ row = some (gb, cur) ∧ cur[j]? = some (.int .i64 (m : Int)) := by
     have hmsI := msI_nat R
     rcases hrow with ⟨he, hno⟩ | ⟨g, cur, rfl, hgB, hob, hcur, htk⟩
     ·refine ⟨none, hmem4.grown hgr (fun k e => by rw [hno] at e; cases e), fun j m hj => ?_⟩
      have he' : msI R = [] := he
      rw [msN, he'] at hj
      simp at hj
     ·have hm := hmem4.grown hgr (fun k e => ⟨by have := (hkd4 k e).1; omega, (hkd4 k e).2⟩)
      refine ⟨some (g, cur), ⟨hm.bld, hm.low, hm.sz, hm.marks, fun g' cur' e => by cases e; exact ⟨by omega, hcur⟩⟩, fun j m hj => ⟨g, cur, rfl, rfl, ?_⟩⟩
      have htk' : cur.toList.take (msI R).length = intVs (msI R) := htk
      have hjl : j < (msN R).length := (List.getElem?_eq_some_iff.1 hj).1
      have hjl2 : j < (msI R).length := by rw [hmsI, List.length_map]; exact hjl
      have h1 := congrArg (fun l => l[j]?) htk'
      simp only [List.getElem?_take_of_lt hjl2, Array.getElem?_toList] at h1
      rw [h1, hmsI]
      simp [intVs, hj]
    have hms : (Lib.compact (sortedI R)).length = (msN R).length := by simp [msN, msI]
    have hHR := Lib.hid HR
    clear HR hrow hgr hmem4 cc
    refine wp_loop_ghost_k (OuterI s R w1 ad cp row) (msN R).length ?start ?round
    case start =>
     exact ⟨rfl, rfl, rfl, rfl, rfl, congrArg (fun k : Nat => Value.int .i64 (k : Int)) hms, [], msN R, start R, ⟨rfl, rfl, start_ok R (fun c hc => runes_le _ s (Nat.le_refl _) c (by rw [hRR.out]; exact hc)), rfl, hmem5⟩, rfl, rfl, rfl, rfl, rfl⟩
    case round =>
     intro gk _ wo hinv
     obtain ⟨u, ds, mpre, mrest, x, ⟨hmsr, hrun, hok, rfl, hmem⟩, rfl⟩ := hinv.opened
     clear hinv
     intro J K hJ hK
     cases mrest with
     | nil =>
      have hmo : Hid (msN R = mpre) := by have := hmsr.out; rw [List.append_nil] at this; exact this
      have hml : ¬ mpre.length < (msN R).length := by rw [hmo.out]; omega
      have hmle : (msN R).length = mpre.length := by rw [hmo.out]
      have hmlH := Lib.hid hmle
      clear hmle hms hHR hmem5 hkd4 hil' hol hpl
      go_wp2_with (go_at_call 33; refine (Tryz.Builder_String_any_k w1.heap.size w1.heap.size x.2.out _ hmem.bld (Nat.le_of_lt hmem.sz)).mono ?_)
      rintro e W4 ⟨rfl, h1, b1, k1⟩
      go_wp2
      have hmk : Marks w1.heap.size W4 ds := hmem.marks.kept (fun D o hD => k1 D _ hD (fun e => by
       have e := Option.some.inj e
       subst e
       rcases hmem.bld with ⟨_, v, hb, _⟩ | ⟨_, v, hb, _⟩
       ·rw [hb] at hD; cases hD
       ·rw [hb] at hD; cases hD) (fun c fz e => by cases e))
      obtain ⟨Ds, rfl, hnd, hm⟩ := hmk
      have hlow := hmem.low.trans b1
      refine leaves_marks (v := .tuple #[.string ⟨x.2.out.toArray⟩, .int .i64 0]) (fun w => results_tmp2 (fn := Tryz.f108) (t := 2) (u := 3) rfl _ _ _) Ds W4 hnd hm hlow.size ?_
      intro W hW
      have hres : encR (runes s) = x.2.out := by
       rw [hRR.out, encR, hmo.out, hrun.out]
      rw [hres]
      exact ⟨rfl, hb1.trans ((hlow.trans hW).mono hb1.size)⟩
     | cons m mrest =>
      obtain ⟨gb, cur, rfl, rfl, hcur⟩ := hHR.out mpre.length m (by rw [hmsr.out]; simp)
      have hR7 : R.length ≤ 20000 := by omega
      obtain ⟨hq1, hm7, hn7, hx1, hm1⟩ := hok.start_n hR7
      have hlo := hok.lo
      have hbb := hok.b
      have hml : mpre.length < (msN R).length := by rw [hmsr.out]; simp
      have hms' : (msI R).length = (msN R).length := hms
      have hrb := hmem.row gb cur rfl
      have hcell : wo.cell? ⟨gb, mpre.length, none⟩ = some (.int .i64 (m : Int)) := by
       simp only [World.cell?, hrb.2]
       simpa using hcur
      have hP2 : ((m : Int) - (x.1 : Int)) * ((x.2.many : Int) + 1) = (((m - x.1) * (x.2.many + 1) : Nat) : Int) := by
       rw [Int.natCast_mul, Int.natCast_sub (by omega)]; rfl
      have hP0 : (0 : Int) ≤ ((m : Int) - (x.1 : Int)) * ((x.2.many : Int) + 1) := by rw [hP2]; omega
      have hP1 : ((m : Int) - (x.1 : Int)) * ((x.2.many : Int) + 1) ≤ 22280773983 := by rw [hP2]; omega
      have hPH := Lib.hid hP2
      clear hP2 hq1 hcur hms hHR hmem5 hkd4 hil' hol
      have hmlen : (msI R).length = (msN R).length := hms'
      have hidx : mpre.length < (msI R).length := by omega
      have hmlenH := Lib.hid hmlen
      have hmb : mpre.length ≤ 20000 := by have := msN_len R; omega
      have hkB : w1.heap.size < wo.heap.size := hmem.sz
      clear hms' hmlen
      go_wp2_with fail
      refine wp_loop_ghost_k (InnerI s R w1 (some ⟨gb, 0, none⟩) cp (some (gb, cur)) mpre x m wo.heap.size) s.length ?istart ?iround
      case istart =>
       refine ⟨rfl, rfl, rfl, rfl, rfl, rfl, rfl, rfl, rfl, rfl, 0, [], ⟨x.2.b, x.2.n + (m - x.1) * (x.2.many + 1), x.2.many, x.2.out⟩, ⟨thru_start s, rfl, hmem.alloc _, World.iter_heap wo _ 0, by simp⟩, rfl, ?_, rfl⟩
       show Value.int _ _ = _
       rw [Int.natCast_add, ← hPH.out]
      case iround =>
       intro gi _ wr hinv
       obtain ⟨u', ds', pos, pre, st, ⟨hth, hpass, hmem', hit, rfl⟩, rfl⟩ := hinv.opened
       clear hinv hmem hrb hcell
       intro J' K' hJ' hK'
       have hsplit : R = pre ++ runes (s.drop pos) := by rw [← hRR.out]; exact hth.1
       obtain ⟨sb, sn, sm, sp, so⟩ := hok.pass_bd hR7 pre _ hsplit hpass.out
       by_cases hp : pos < s.length
       ·have hth2 := thru_step hth hp
        have hwd : 1 ≤ (Utf8.decode ⟨s.toArray⟩ pos).2 := by have := Lib.decodeL_drop ⟨s.toArray⟩ pos; rw [← this]; exact Lib.decodeL_width _
        have hc : (Utf8.decode ⟨s.toArray⟩ pos).1 ≤ 1114111 := by have := Lib.decodeL_drop ⟨s.toArray⟩ pos; rw [← this]; exact Lib.decodeL_rune _
        have hnx : ∀ ty, (Instr.next (.pointer (some ⟨wo.heap.size, 0, none⟩)) true ty).run Tryz.prog wr = _ := fun ty => Lib.run_next_any_at wr wo.heap.size ⟨s.toArray⟩ pos ty hit hp
        obtain ⟨d, hd⟩ : ∃ d, Utf8.decode ⟨s.toArray⟩ pos = d := ⟨_, rfl⟩
        rw [hd] at hth2 hwd hc hnx
        clear hd
        obtain ⟨c, z⟩ := d
        simp only at hth2 hwd hc hnx
        have hmem2 := hmem'.iterAt hit (Nat.le_of_lt hkB) (pos + z)
        have hit2 := Lib.iterAt_heap wr wo.heap.size ⟨s.toArray⟩ pos (pos + z) hit
        have hTh := Lib.hid hth2
        have hsp := Lib.hid hsplit
        clear hth2 hth hsplit
        rcases Nat.lt_trichotomy c m with hcm | hcm | hcm
        ·go_wp2_with fail
         refine Handed.intro (s.length - (pos + z)) (by omega) (hJ' _ _ _ ⟨rfl, rfl, rfl, rfl, rfl, rfl, rfl, rfl, rfl, rfl, pos + z, pre ++ [c], ⟨st.b, st.n + 1, st.many, st.out⟩, ⟨hTh, ?_, hmem2, hit2, rfl⟩, rfl, rfl, rfl⟩)
         show _ = _
         rw [passS_snoc, hpass.out, stepS, if_pos hcm]
        ·subst hcm
         go_wp2_with (go_at_call 162; refine (tell_any st.b st.n _).mono ?_; rintro e w' ⟨rfl, rfl⟩)
         obtain ⟨WW, hWW⟩ : ∃ WW, wr.iterAt wo.heap.size ⟨s.toArray⟩ (pos + z) = WW := ⟨_, rfl⟩
         rw [hWW] at hmem2 hit2 ⊢
         clear hWW
         have hb1' := Boxed.new WW 168 (.int .i64 (st.b : Int))
         have hmemA := (hmem2.alloc (.cells #[.int .i64 (st.b : Int)] 168)).alloc (.cells #[.int .i64 (st.n : Int)] 3)
         have hbB := hb1'.alloc (.cells #[.int .i64 (st.n : Int)] 3)
         have hbN := Boxed.new (WW.alloc (.cells #[.int .i64 (st.b : Int)] 168)) 3 (.int .i64 (st.n : Int))
         rw [World.size_alloc] at hbN
         have hsz2 := hmem2.sz
         have hkk : wo.heap.size < WW.heap.size := (Array.getElem?_eq_some_iff.1 hit2).1
         have hrw := (hmem2.row gb cur rfl).2
         have hgk : gb < WW.heap.size := (Array.getElem?_eq_some_iff.1 hrw).1
         refine tell_range st.b st.n WW.heap.size (WW.heap.size + 1) w1.heap.size w1.heap.size st.out rfl rfl (by omega) (by omega) (by omega) hbB hbN hmemA.bld (Nat.le_of_lt hmemA.sz) (by omega) (by omega) (by omega) hmemA.sz ?len ?round ?done
         case len => have := toldL_bd (n := st.n) (b := st.b) (k := 36) (by omega); omega
         case round =>
          intro l x W
          gi_wp2
          refine ⟨trivial, ?_⟩
          intro W2 post hw
          have fw : Fence.wide.fn 31 := trivial
          gi_wp2_with (gi_at_call 31; refine (CallsIn.inRound l (callsIn_wide.2 hw)).mono ?_; rintro e w' ⟨rfl, hpost⟩)
          exact hpost
         case done =>
          intro D W hD hbd hlow hkept hmark
          have hit3 : W.heap[wo.heap.size]? = some (.stringIter ⟨s.toArray⟩ (pos + z)) := hkept _ _ ((Lib.alloc_old _ _ _ (by simp; omega)).trans ((Lib.alloc_old _ _ _ hkk).trans hit2)) (by omega) (by omega) (fun c fz e => by cases e)
          have hmem3 := hmemA.told ⟨_, _, _, hbN⟩ (fun g cur' e => by cases e; omega) hD hbd hlow hkept hmark
          clear hkept hmark hbd hlow hbN hbB hb1' hmemA hrw
          have cn : ∀ w, Calls Tryz.prog 156 #[.int .i64 (st.n : Int), .int .i64 ((st.many : Int) + 1), .bool ((st.many : Int) == ((plainB R).length : Int))] w fun e w' => e = .returned (.int .i64 ((nextL st.n (st.many + 1) (decide (st.many = (plainB R).length)) : Nat) : Int)) ∧ w = w' := fun w => by
           have := next_any st.n (st.many + 1) (decide (st.many = (plainB R).length)) w (by omega) (by omega) (by omega)
           have e : ((st.many : Int) == ((plainB R).length : Int)) = decide (st.many = (plainB R).length) := by rw [Bool.eq_iff_iff]; simp; omega
           rw [e]; exact this
          simp only [Exit.inBlock, Exit.then]
          go_wp2_with (go_at_call 156; refine (cn _).mono ?_; rintro e w' ⟨rfl, rfl⟩)
          refine Handed.intro (s.length - (pos + z)) (by omega) (hJ' _ _ _ ⟨rfl, rfl, rfl, rfl, rfl, rfl, rfl, rfl, rfl, rfl, pos + z, pre ++ [c], ⟨nextL st.n (st.many + 1) (decide (st.many = (plainB R).length)), 0, st.many + 1, st.out ++ toldL st.n st.b 36⟩, ⟨hTh, ?_, hmem3, hit3, rfl⟩, rfl, rfl, rfl⟩)
          show _ = _
          rw [passS_snoc, hpass.out, stepS, if_neg (by omega), if_pos rfl]
        ·go_wp2_with fail
         refine Handed.intro (s.length - (pos + z)) (by omega) (hJ' _ _ _ ⟨rfl, rfl, rfl, rfl, rfl, rfl, rfl, rfl, rfl, rfl, pos + z, pre ++ [c], st, ⟨hTh, ?_, hmem2, hit2, rfl⟩, rfl, rfl, rfl⟩)
         show _ = _
         rw [passS_snoc, hpass.out, stepS, if_neg (by omega), if_neg (by omega)]
       ·have hnx : ∀ ty, (Instr.next (.pointer (some ⟨wo.heap.size, 0, none⟩)) true ty).run Tryz.prog wr = _ := fun ty => Lib.run_next_end_at wr wo.heap.size ⟨s.toArray⟩ pos ty hit hp
        have hpre : Hid (pre = R) := by rw [← hRR.out]; exact (thru_end hth hp).symm
        clear hsplit hth
        go_wp2_with fail
        have hst : passS m (plainB R).length R ⟨x.2.b, x.2.n + (m - x.1) * (x.2.many + 1), x.2.many, x.2.out⟩ = st := by
         have := hpass.out
         rw [hpre.out] at this
         exact this
        have ho : outS R (plainB R).length x m = (m + 1, ⟨st.b, st.n + 1, st.many, st.out⟩) := by simp only [outS, hst]
        refine Handed.intro mrest.length (by simp) (hJ _ _ _ ⟨rfl, rfl, rfl, rfl, rfl, rfl, mpre ++ [m], mrest, (m + 1, ⟨st.b, st.n + 1, st.many, st.out⟩), ⟨?_, ?_, ?_, rfl, hmem'⟩, rfl, rfl, rfl, rfl, ?_⟩)
        ·show _ = _
         rw [hmsr.out]; simp
        ·show _ = _
         rw [runS_snoc, hrun.out, ho]
        ·rw [← ho]; exact hok.next hR7
        ·show Value.int _ _ = _
         simp only [List.length_append, List.length_singleton, Int.natCast_add]
         rfl
end Go.Proofs.YtgihofogkoeimaaGreatDoor
namespace Go.Proofs.YtgihofogkoeimaaGreatDoor
open Go.RowKit
set_option maxRecDepth 100000 in
set_option maxHeartbeats 1000000 in
theorem encode_long (s : List UInt8) (w : World) (hs : 65536 < s.length) (hm : s.length ≤ 140737488351232) :
  Calls Tryz.prog 108 #[.string ⟨s.toArray⟩] w fun e w' => e = .returned (.tuple #[.string ⟨#[]⟩, .int .i64 3]) ∧ w = w' := by
 have hb : decide (65536 < (s.length : Int)) = true := by simp; omega
 clear hs
 refine (callsIn_wide (n := 4)).1 (callsIn_of_wp_marks Tryz.func108 rfl trivial (wpIn_wide.2 ?_) rfl)
 simp only [Tryz.ntmps108, List.size_toArray, List.length_cons, List.length_nil, Nat.reduceAdd, Nat.reduceSub, Array.replicate_succ, Array.replicate_zero, List.push_toArray, List.append_toArray, List.nil_append, List.cons_append]
 iterate 12 go_step
 go_wp2_with fail
 exact ⟨_, results_tmp2 (fn := Tryz.f108) (t := 2) (u := 3) rfl _ _ _, rfl, rfl⟩
set_option maxRecDepth 100000 in
set_option maxHeartbeats 1000000 in
theorem encode_bad (s : List UInt8) (w : World) (hs : s.length ≤ 65536) (hT : Lib.Utf8Tabs (validRen.g 3) (validRen.g 4) w) (hv : Lib.validD s = false) :
  Calls Tryz.prog 108 #[.string ⟨s.toArray⟩] w fun e w' => e = .returned (.tuple #[.string ⟨#[]⟩, .int .i64 4]) ∧ Below w.heap.size w w' := by
 have cv := valid_any s w (by omega) hT
 rw [hv] at cv
 clear hv
 have hb : decide (65536 < (s.length : Int)) = false := by simp; omega
 refine (callsIn_wide (n := 4)).1 (callsIn_of_wp_marks Tryz.func108 rfl trivial (wpIn_wide.2 ?_) rfl)
 simp only [Tryz.ntmps108, List.size_toArray, List.length_cons, List.length_nil, Nat.reduceAdd, Nat.reduceSub, Array.replicate_succ, Array.replicate_zero, List.push_toArray, List.append_toArray, List.nil_append, List.cons_append]
 clear hs
 iterate 12 go_step
 go_wp2_with (go_at_call 105; refine cv.mono ?_; rintro e w1 ⟨rfl, hb1⟩)
 exact ⟨_, results_tmp2 (fn := Tryz.f108) (t := 2) (u := 3) rfl _ _ _, rfl, hb1⟩
end Go.Proofs.YtgihofogkoeimaaGreatDoor
