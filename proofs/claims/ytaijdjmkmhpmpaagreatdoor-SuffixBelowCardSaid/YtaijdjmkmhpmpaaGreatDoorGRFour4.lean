/- The walk of the reference's Four: four parts and an empty one (written by mkrfour.py). -/
import Derived.Test.YtaijdjmkmhpmpaaGreatDoorRFourWalk
import Derived.Test.YtaijdjmkmhpmpaaGreatDoorRFourWalk2
import Derived.Test.YtaijdjmkmhpmpaaGreatDoorRFourWalk3
set_option linter.unusedVariables false
set_option linter.unusedSimpArgs false
namespace Go.Proofs.YtaijdjmkmhpmpaaGreatDoor
open Go.RowKit

set_option maxRecDepth 100000 in
set_option maxHeartbeats 4000000 in
theorem rfour_C3 (s : List UInt8) (w : World) (x0 x1 x2 x3 : List UInt8) (hx : ∀ p ∈ [x0, x1, x2, x3, []], p.length ≤ 4000000000)
    (cs : Calls Tryz.prog 128 #[.string ⟨s.toArray⟩, .int .u8 46] (w.alloc (.cells zeroA 51)) fun e w' => ∃ g cap, e = .returned (.slice (some ⟨g, 0, none⟩) 5 cap) ∧ 5 ≤ cap ∧ RFW w w' [x0, x1, x2, x3, []] g) (r : Bool × Nat × Nat)
    (hr : r = if likeL x3 = false then (false, 0, 0) else match evalF [x0, x1, x2, x3] 4294967296 0 with | none => (true, 5, 0) | some n => (true, 0, n)) :
    Calls Tryz.prog 87 #[.string ⟨s.toArray⟩] w fun e w' => e = .returned (fourV r) ∧ Below w.heap.size w w' := by
  have hxl : x3.length ≤ 4000000000 := hx x3 (by simp)
  have cn := fun W => rnumber_any x3 W (by omega)
  have cd := fun W => rdigits_any x3 W (by omega)
  simp only [cntV] at cn
  have hhex := @like_hex x3
  have hdig := @like_dig x3
  have Hx := Lib.hid hx
  have HH := Lib.hid hhex
  have HD := Lib.hid hdig
  have HR := Lib.hid hr
  clear hx hhex hdig hr
  go_enter Tryz.func87, Tryz.ntmps87
  go_wp2_with fail
  go_at_call 128
  refine cs.mono ?_
  rintro e w2 ⟨g, cap, rfl, hcap, hW⟩
  obtain ⟨hb2, hrow, hlo, hhi, hcell⟩ := hW
  have c0 := hcell 0 (by simp)
  have c1 := hcell 1 (by simp)
  have c2 := hcell 2 (by simp)
  have c3 := hcell 3 (by simp)
  have c4 := hcell 4 (by simp)
  simp only [List.getElem_cons_zero, List.getElem_cons_succ] at c0 c1 c2 c3 c4
  clear hcell cs
  go_upto_region 6 with (go_at_call 129; refine (cn _).mono ?_; rintro e w3 ⟨rfl, rfl⟩)
  go_cut [9] (fun h wx => w2 = wx ∧ ∃ b : Bool, h = .bool b ∧ Hid (likeL x3 = (digsL x3 || b)))
  case first =>
    cases p : hexPre x3 with
    | true =>
      obtain ⟨y1, y2⟩ := HH.out p
      obtain ⟨h2, z0, z1⟩ := hex_parts p
      have Y1 := Lib.hid y1
      have Y2 := Lib.hid y2
      clear p y1 y2 HH HD HR
      rcases z1 with z1 | z1
      all_goals
        go_wp2_with fail
        go_meet
        exact ⟨rfl, _, rfl, by show _ = _; rw [Y1.out, Y2.out]; rfl⟩
    | false =>
      have y1 := HD.out p
      have Y1 := Lib.hid y1
      have hn := hex_not p
      clear p y1 HH HD HR
      rcases hn with h2 | ⟨h2, z0⟩ | ⟨h2, z0, z1, z2⟩
      all_goals
        go_wp2_with fail
        go_meet
        exact ⟨rfl, _, rfl, by show _ = _; rw [Y1.out, Bool.or_false]⟩
  case rest =>
    obtain ⟨rfl, b, rfl, hI⟩ := hcut
    have hr := HR.out
    have hI := hI.out
    clear HR HH HD
    by_cases hno : digsL x3 = false ∧ b = false
    · obtain ⟨hd, hbf⟩ := hno
      rw [hd, hbf, Bool.or_false] at hI
      rw [if_pos hI] at hr
      subst hr
      rw [hd] at cd
      clear hI hd
      go_upto_region 8 with (go_at_call 130; refine (cd _).mono ?_; rintro e w3 ⟨rfl, rfl⟩)
      go_wp2_with (refine wpList_store_same (o := ⟨none, .store 51 (.tmp 2) (.tmp 75), _, _, _, _⟩) rfl 51 (.tmp 2) _ rfl w.heap.size zeroA rfl rfl 51 hrow (by kernel_rfl) (by decide +kernel) ?_)
      exact bodyPost_ret (results_row3 (fn := Tryz.f87) (p := 2) (q := 3) (r := 4) (ty := 51) rfl _ _ w.heap.size 51 zeroA (0, 0) _ rfl hrow Tryz.underlying51 rfl (by kernel_rfl)) rfl ⟨rfl, hb2⟩
    · have hlk : likeL x3 = true := by rw [hI]; cases h1 : digsL x3 <;> cases h2 : b <;> simp_all
      rw [if_neg (by rw [hlk]; simp)] at hr
      have hcase : digsL x3 = true ∨ (digsL x3 = false ∧ b = true) := by cases h1 : digsL x3 <;> cases h2 : b <;> simp_all
      clear hlk hI hno
      have hcell : ∀ (o : Obj) (j : Nat), (w2.alloc o).cell? ⟨g, j, none⟩ = w2.cell? ⟨g, j, none⟩ := fun o j => World.cell?_alloc_old _ _ _ (by show g ≠ _; omega)
      have hrw2 : ∀ (o : Obj), (w2.alloc o).heap[w.heap.size]? = some (.cells zeroA 51 (0, 0)) := fun o => (Below.heap_alloc w2 o _ (by omega)).trans hrow
      have hbw2 : ∀ (o : Obj), Below w.heap.size w (w2.alloc o) := fun o => hb2.alloc hb2.size o
      rcases hcase with hd | ⟨hd, hbt⟩
      all_goals
        rw [hd] at cd
        clear hd
        go_wp2_with (go_at_call 130; refine (cd _).mono ?_; rintro e w3 ⟨rfl, rfl⟩)
        refine wp_loop_rounds 5 ?_
        rw [rounds_succ]
        have cm0 := fun W => rnumber_any x0 W (by have := Hx.out x0 (by simp); omega)
        cases hn0 : numL x0 with
        | none =>
          have hr2 : r = (true, 5, 0) := by rw [hr]; simp [evalF, hn0]
          subst hr2
          rw [hn0] at cm0
          simp only [cntV] at cm0
          clear hr hn0
          go_wp2_with (go_at_call 129; refine (cm0 _).mono ?_; rintro e w3 ⟨rfl, rfl⟩)
          refine wp_loop_rounds 1 ?_
          rw [rounds_succ]
          go_upto_region 22 with fail
          go_wp2_with (refine wpList_store_same (o := ⟨none, .store 51 (.tmp 2) (.tmp 116), _, _, _, _⟩) rfl 51 (.tmp 2) _ rfl w.heap.size zeroA rfl rfl 51 (hrw2 _) (by kernel_rfl) (by decide +kernel) ?_)
          exact bodyPost_ret (results_row3 (fn := Tryz.f87) (p := 2) (q := 3) (r := 4) (ty := 51) rfl _ _ w.heap.size 51 zeroA (0, 0) _ rfl (hrw2 _) Tryz.underlying51 rfl (by kernel_rfl)) rfl ⟨rfl, hbw2 _⟩
        | some n0 =>
          rw [hn0] at cm0
          simp only [cntV] at cm0
          by_cases q0 : n0 ≤ 255
          · have hge0 : decide ((256 : Int) ≤ (n0 : Int)) = false := by rw [decide_eq_false_iff_not]; omega
            have Q0 := Lib.hid q0
            clear q0
            go_wp2_with (go_at_call 129; refine (cm0 _).mono ?_; rintro e w3 ⟨rfl, rfl⟩)
            refine wp_loop_rounds 1 ?_
            rw [rounds_succ]
            go_wp2_with fail
            have q0 := Q0.out
            rw [rounds_succ]
            have cm1 := fun W => rnumber_any x1 W (by have := Hx.out x1 (by simp); omega)
            cases hn1 : numL x1 with
            | none =>
              have hr2 : r = (true, 5, 0) := by rw [hr]; simp [evalF, hn0, show n0 < 256 from by omega, hn1]
              subst hr2
              rw [hn1] at cm1
              simp only [cntV] at cm1
              clear hr hn0 hn1
              go_wp2_with (go_at_call 129; refine (cm1 _).mono ?_; rintro e w3 ⟨rfl, rfl⟩)
              refine wp_loop_rounds 1 ?_
              rw [rounds_succ]
              go_upto_region 22 with fail
              go_wp2_with (refine wpList_store_same (o := ⟨none, .store 51 (.tmp 2) (.tmp 116), _, _, _, _⟩) rfl 51 (.tmp 2) _ rfl w.heap.size zeroA rfl rfl 51 (hrw2 _) (by kernel_rfl) (by decide +kernel) ?_)
              exact bodyPost_ret (results_row3 (fn := Tryz.f87) (p := 2) (q := 3) (r := 4) (ty := 51) rfl _ _ w.heap.size 51 zeroA (0, 0) _ rfl (hrw2 _) Tryz.underlying51 rfl (by kernel_rfl)) rfl ⟨rfl, hbw2 _⟩
            | some n1 =>
              rw [hn1] at cm1
              simp only [cntV] at cm1
              by_cases q1 : n1 ≤ 255
              · have hge1 : decide ((256 : Int) ≤ (n1 : Int)) = false := by rw [decide_eq_false_iff_not]; omega
                have Q1 := Lib.hid q1
                clear q1
                go_wp2_with (go_at_call 129; refine (cm1 _).mono ?_; rintro e w3 ⟨rfl, rfl⟩)
                refine wp_loop_rounds 1 ?_
                rw [rounds_succ]
                go_wp2_with fail
                have q1 := Q1.out
                rw [rounds_succ]
                have cm2 := fun W => rnumber_any x2 W (by have := Hx.out x2 (by simp); omega)
                cases hn2 : numL x2 with
                | none =>
                  have hr2 : r = (true, 5, 0) := by rw [hr]; simp [evalF, hn0, show n0 < 256 from by omega, hn1, show n1 < 256 from by omega, hn2]
                  subst hr2
                  rw [hn2] at cm2
                  simp only [cntV] at cm2
                  clear hr hn0 hn1 hn2
                  go_wp2_with (go_at_call 129; refine (cm2 _).mono ?_; rintro e w3 ⟨rfl, rfl⟩)
                  refine wp_loop_rounds 1 ?_
                  rw [rounds_succ]
                  go_upto_region 22 with fail
                  go_wp2_with (refine wpList_store_same (o := ⟨none, .store 51 (.tmp 2) (.tmp 116), _, _, _, _⟩) rfl 51 (.tmp 2) _ rfl w.heap.size zeroA rfl rfl 51 (hrw2 _) (by kernel_rfl) (by decide +kernel) ?_)
                  exact bodyPost_ret (results_row3 (fn := Tryz.f87) (p := 2) (q := 3) (r := 4) (ty := 51) rfl _ _ w.heap.size 51 zeroA (0, 0) _ rfl (hrw2 _) Tryz.underlying51 rfl (by kernel_rfl)) rfl ⟨rfl, hbw2 _⟩
                | some n2 =>
                  rw [hn2] at cm2
                  simp only [cntV] at cm2
                  by_cases q2 : n2 ≤ 255
                  · have hge2 : decide ((256 : Int) ≤ (n2 : Int)) = false := by rw [decide_eq_false_iff_not]; omega
                    have Q2 := Lib.hid q2
                    clear q2
                    go_wp2_with (go_at_call 129; refine (cm2 _).mono ?_; rintro e w3 ⟨rfl, rfl⟩)
                    refine wp_loop_rounds 1 ?_
                    rw [rounds_succ]
                    go_wp2_with fail
                    have q2 := Q2.out
                    rw [rounds_succ]
                    have cm3 := fun W => rnumber_any x3 W (by have := Hx.out x3 (by simp); omega)
                    cases hn3 : numL x3 with
                    | none =>
                      have hr2 : r = (true, 5, 0) := by rw [hr]; simp [evalF, hn0, show n0 < 256 from by omega, hn1, show n1 < 256 from by omega, hn2, show n2 < 256 from by omega, hn3]
                      subst hr2
                      rw [hn3] at cm3
                      simp only [cntV] at cm3
                      clear hr hn0 hn1 hn2 hn3
                      go_wp2_with (go_at_call 129; refine (cm3 _).mono ?_; rintro e w3 ⟨rfl, rfl⟩)
                      refine wp_loop_rounds 1 ?_
                      rw [rounds_succ]
                      go_upto_region 22 with fail
                      go_wp2_with (refine wpList_store_same (o := ⟨none, .store 51 (.tmp 2) (.tmp 116), _, _, _, _⟩) rfl 51 (.tmp 2) _ rfl w.heap.size zeroA rfl rfl 51 (hrw2 _) (by kernel_rfl) (by decide +kernel) ?_)
                      exact bodyPost_ret (results_row3 (fn := Tryz.f87) (p := 2) (q := 3) (r := 4) (ty := 51) rfl _ _ w.heap.size 51 zeroA (0, 0) _ rfl (hrw2 _) Tryz.underlying51 rfl (by kernel_rfl)) rfl ⟨rfl, hbw2 _⟩
                    | some n3 =>
                      rw [hn3] at cm3
                      simp only [cntV] at cm3
                      by_cases q3 : n3 ≤ 255
                      · have hge3 : decide ((256 : Int) ≤ (n3 : Int)) = false := by rw [decide_eq_false_iff_not]; omega
                        have Q3 := Lib.hid q3
                        clear q3
                        go_wp2_with (go_at_call 129; refine (cm3 _).mono ?_; rintro e w3 ⟨rfl, rfl⟩)
                        refine wp_loop_rounds 1 ?_
                        rw [rounds_succ]
                        go_wp2_with fail
                        have q3 := Q3.out
                        refine wp_loop_rounds 2 ?_
                        rw [rounds_succ]
                        go_wp2_with fail
                        rw [rounds_succ]
                        go_wp2_with fail
                        rw [rounds_succ]
                        go_upto_region 30 with fail
                        go_step
                        refine wpList_load_row (o := ⟨some _, .load 51 (.tmp 10), _, _, _, _⟩) rfl 51 (.tmp 10) rfl w2.heap.size rfl 51 _ (0, 0) _ (heap_alloc_new w2 _) Tryz.underlying51 rfl (by kernel_rfl) ?_
                        refine wpList_store_row (o := ⟨none, .store 51 (.tmp 2) (.tmp 140), _, _, _, _⟩) rfl 51 (.tmp 2) _ rfl w.heap.size _ rfl rfl 51 zeroA (hrw2 _) (by kernel_rfl) rfl (by simp [Value.oneCell']) ?_
                        go_wp2_with fail
                        refine bodyPost_ret (results_row3 (fn := Tryz.f87) (p := 2) (q := 3) (r := 4) (ty := 51) rfl _ _ w.heap.size 51 _ (0, 0) _ rfl (setRow_heap _ _ _ _ _ _ (hrw2 _)) Tryz.underlying51 rfl (by kernel_rfl)) rfl ⟨?_, below_setRow (hbw2 _) (Nat.le_refl _) _⟩
                        have hr2 : r = (true, 0, ((n0 * 256 + n1) * 256 + n2) * 256 + n3) := by
                          rw [hr]
                          simp [evalF, hn0, show n0 < 256 from by omega, hn1, show n1 < 256 from by omega, hn2, show n2 < 256 from by omega, hn3, show n3 < 256 from by omega]
                        rw [hr2]
                        simp [fourV, addrV]
                        omega
                      · have q3b : 256 ≤ n3 := by omega
                        have hr2 : r = (true, 5, 0) := by rw [hr]; simp [evalF, hn0, show n0 < 256 from by omega, hn1, show n1 < 256 from by omega, hn2, show n2 < 256 from by omega, hn3, show ¬ n3 < 256 from by omega]
                        subst hr2
                        have hge3 : decide ((256 : Int) ≤ (n3 : Int)) = true := by rw [decide_eq_true_eq]; omega
                        clear q3 q3b hr hn0 hn1 hn2 hn3
                        go_wp2_with (go_at_call 129; refine (cm3 _).mono ?_; rintro e w3 ⟨rfl, rfl⟩)
                        refine wp_loop_rounds 1 ?_
                        rw [rounds_succ]
                        go_upto_region 22 with fail
                        go_wp2_with (refine wpList_store_same (o := ⟨none, .store 51 (.tmp 2) (.tmp 116), _, _, _, _⟩) rfl 51 (.tmp 2) _ rfl w.heap.size zeroA rfl rfl 51 (hrw2 _) (by kernel_rfl) (by decide +kernel) ?_)
                        exact bodyPost_ret (results_row3 (fn := Tryz.f87) (p := 2) (q := 3) (r := 4) (ty := 51) rfl _ _ w.heap.size 51 zeroA (0, 0) _ rfl (hrw2 _) Tryz.underlying51 rfl (by kernel_rfl)) rfl ⟨rfl, hbw2 _⟩
                  · have q2b : 256 ≤ n2 := by omega
                    have hr2 : r = (true, 5, 0) := by rw [hr]; simp [evalF, hn0, show n0 < 256 from by omega, hn1, show n1 < 256 from by omega, hn2, show ¬ n2 < 256 from by omega]
                    subst hr2
                    have hge2 : decide ((256 : Int) ≤ (n2 : Int)) = true := by rw [decide_eq_true_eq]; omega
                    clear q2 q2b hr hn0 hn1 hn2
                    go_wp2_with (go_at_call 129; refine (cm2 _).mono ?_; rintro e w3 ⟨rfl, rfl⟩)
                    refine wp_loop_rounds 1 ?_
                    rw [rounds_succ]
                    go_upto_region 22 with fail
                    go_wp2_with (refine wpList_store_same (o := ⟨none, .store 51 (.tmp 2) (.tmp 116), _, _, _, _⟩) rfl 51 (.tmp 2) _ rfl w.heap.size zeroA rfl rfl 51 (hrw2 _) (by kernel_rfl) (by decide +kernel) ?_)
                    exact bodyPost_ret (results_row3 (fn := Tryz.f87) (p := 2) (q := 3) (r := 4) (ty := 51) rfl _ _ w.heap.size 51 zeroA (0, 0) _ rfl (hrw2 _) Tryz.underlying51 rfl (by kernel_rfl)) rfl ⟨rfl, hbw2 _⟩
              · have q1b : 256 ≤ n1 := by omega
                have hr2 : r = (true, 5, 0) := by rw [hr]; simp [evalF, hn0, show n0 < 256 from by omega, hn1, show ¬ n1 < 256 from by omega]
                subst hr2
                have hge1 : decide ((256 : Int) ≤ (n1 : Int)) = true := by rw [decide_eq_true_eq]; omega
                clear q1 q1b hr hn0 hn1
                go_wp2_with (go_at_call 129; refine (cm1 _).mono ?_; rintro e w3 ⟨rfl, rfl⟩)
                refine wp_loop_rounds 1 ?_
                rw [rounds_succ]
                go_upto_region 22 with fail
                go_wp2_with (refine wpList_store_same (o := ⟨none, .store 51 (.tmp 2) (.tmp 116), _, _, _, _⟩) rfl 51 (.tmp 2) _ rfl w.heap.size zeroA rfl rfl 51 (hrw2 _) (by kernel_rfl) (by decide +kernel) ?_)
                exact bodyPost_ret (results_row3 (fn := Tryz.f87) (p := 2) (q := 3) (r := 4) (ty := 51) rfl _ _ w.heap.size 51 zeroA (0, 0) _ rfl (hrw2 _) Tryz.underlying51 rfl (by kernel_rfl)) rfl ⟨rfl, hbw2 _⟩
          · have q0b : 256 ≤ n0 := by omega
            have hr2 : r = (true, 5, 0) := by rw [hr]; simp [evalF, hn0, show ¬ n0 < 256 from by omega]
            subst hr2
            have hge0 : decide ((256 : Int) ≤ (n0 : Int)) = true := by rw [decide_eq_true_eq]; omega
            clear q0 q0b hr hn0
            go_wp2_with (go_at_call 129; refine (cm0 _).mono ?_; rintro e w3 ⟨rfl, rfl⟩)
            refine wp_loop_rounds 1 ?_
            rw [rounds_succ]
            go_upto_region 22 with fail
            go_wp2_with (refine wpList_store_same (o := ⟨none, .store 51 (.tmp 2) (.tmp 116), _, _, _, _⟩) rfl 51 (.tmp 2) _ rfl w.heap.size zeroA rfl rfl 51 (hrw2 _) (by kernel_rfl) (by decide +kernel) ?_)
            exact bodyPost_ret (results_row3 (fn := Tryz.f87) (p := 2) (q := 3) (r := 4) (ty := 51) rfl _ _ w.heap.size 51 zeroA (0, 0) _ rfl (hrw2 _) Tryz.underlying51 rfl (by kernel_rfl)) rfl ⟨rfl, hbw2 _⟩
end Go.Proofs.YtaijdjmkmhpmpaaGreatDoor
namespace Go.Proofs.YtaijdjmkmhpmpaaGreatDoor
open Go.RowKit


theorem rfour_any (s : List UInt8) (w : World) (hs : s.length ≤ 3999999999) :
    Calls Tryz.prog 87 #[.string ⟨s.toArray⟩] w fun e w' => e = .returned (fourV (fourL s)) ∧ Below w.heap.size w w' := by
  have cs := rfw s w (by omega)
  obtain ⟨hP1, hP2⟩ := partsL_le 46 s
  have hne := partsL_ne 46 s
  have hx : ∀ p ∈ partsL 46 s, p.length ≤ 4000000000 := fun p hp => by have := hP1 p hp; omega
  have hk := @parts_keep s _ rfl
  have hc := @parts_cut s _ rfl
  obtain ⟨P, hP⟩ : ∃ P, partsL 46 s = P := ⟨_, rfl⟩
  rw [hP] at cs hP2 hne hx hk hc
  clear hP1
  match P, cs, hne, hx, hk, hc, hP2 with
  | [], _, h, _, _, _, _ => exact absurd rfl h
  | [x0], cs, _, hx, hk, hc, _ =>
    exact rfour_A0 s w x0 hx cs _ (fourL_small (hk (by simp)) rfl (by simp))
  | [x0, x1], cs, _, hx, hk, hc, _ =>
    by_cases h : x1 = []
    · subst h
      exact rfour_C0 s w x0 hx cs _ (fourL_small (Q := [x0]) (hc ⟨by simp, rfl⟩) rfl (by simp))
    · exact rfour_B1 s w x0 x1 hx h cs _ (fourL_small (hk (by rintro ⟨_, h'⟩; exact h h')) rfl (by simp))
  | [x0, x1, x2], cs, _, hx, hk, hc, _ =>
    by_cases h : x2 = []
    · subst h
      exact rfour_C1 s w x0 x1 hx cs _ (fourL_small (Q := [x0, x1]) (hc ⟨by simp, rfl⟩) rfl (by simp))
    · exact rfour_B2 s w x0 x1 x2 hx h cs _ (fourL_small (hk (by rintro ⟨_, h'⟩; exact h h')) rfl (by simp))
  | [x0, x1, x2, x3], cs, _, hx, hk, hc, _ =>
    by_cases h : x3 = []
    · subst h
      exact rfour_C2 s w x0 x1 x2 hx cs _ (fourL_small (Q := [x0, x1, x2]) (hc ⟨by simp, rfl⟩) rfl (by simp))
    · exact rfour_B3 s w x0 x1 x2 x3 hx h cs _ (fourL_small (hk (by rintro ⟨_, h'⟩; exact h h')) rfl (by simp))
  | x0 :: x1 :: x2 :: x3 :: x4 :: R, cs, _, hx, hk, hc, hP2 =>
    have hlen : (x0 :: x1 :: x2 :: x3 :: x4 :: R).length = R.length + 5 := by simp
    generalize hPP : x0 :: x1 :: x2 :: x3 :: x4 :: R = P at *
    have hl : P.length = (R.length + 4) + 1 := by omega
    have hlast := getLast_is hl
    by_cases h : P[R.length + 4]'(by omega) = []
    · have hcc : 1 < P.length ∧ P.getLastD [] = [] := ⟨by omega, by rw [hlast]; exact h⟩
      have hq := hc hcc
      have hdl : P.dropLast.length = R.length + 4 := by simp [hlen]
      cases hR : R with
      | nil =>
        subst hR
        subst hPP
        have h4 : x4 = [] := h
        subst h4
        rw [hlen] at cs
        exact rfour_C3 s w x0 x1 x2 x3 hx cs _ (fourL_small (Q := [x0, x1, x2, x3]) hq rfl (by simp))
      | cons y R' =>
        have hR' : R.length = R'.length + 1 := by rw [hR]; simp
        have hget : P.dropLast[R.length + 3]'(by omega) = P[R.length + 3]'(by omega) := by simp
        refine rfour_Cbig s w (R.length + 3) (by omega) (by omega) (P[R.length + 3]'(by omega)) (hx _ (List.getElem_mem _)) (cs.mono ?_) _ ?_
        · rintro e w' ⟨g, cap, rfl, hcap, hb2, hrow, _, _, hcell⟩
          have c1 := hcell (R.length + 3) (by omega)
          have c2 := hcell (R.length + 4) (by omega)
          rw [h] at c2
          exact ⟨g, cap, by rw [hlen], by omega, hb2, hrow, c1, c2⟩
        · have := fourL_big (l := R.length + 3) hq (by omega) (by omega)
          rw [this, hget]
    · have hcc : ¬ (1 < P.length ∧ P.getLastD [] = []) := by rintro ⟨_, h'⟩; rw [hlast] at h'; exact h h'
      have hq := hk hcc
      refine rfour_Bbig s w (R.length + 4) (by omega) (by omega) _ (hx _ (List.getElem_mem _)) h (cs.mono ?_) _ (fourL_big hq hl (by omega))
      rintro e w' ⟨g, cap, rfl, hcap, hb2, hrow, _, _, hcell⟩
      have c1 := hcell (R.length + 4) (by omega)
      exact ⟨g, cap, by rw [hlen], by omega, hb2, hrow, c1⟩
end Go.Proofs.YtaijdjmkmhpmpaaGreatDoor
