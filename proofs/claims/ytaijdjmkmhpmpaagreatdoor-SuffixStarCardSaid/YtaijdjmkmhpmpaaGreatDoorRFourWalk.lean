/- The walk of the reference's Four (written by mkrfour.py). -/
import Derived.Test.YtaijdjmkmhpmpaaGreatDoorGRFour
import Derived.Test.YtaijdjmkmhpmpaaGreatDoorFourWalk
set_option linter.unusedVariables false
set_option linter.unusedSimpArgs false
namespace Go.Proofs.YtaijdjmkmhpmpaaGreatDoor
open Go.RowKit

/-- The world behind the splitting. -/
structure RFW (w W2 : World) (P : List (List UInt8)) (g : Nat) : Prop where
  below : Below w.heap.size w W2
  row : W2.heap[w.heap.size]? = some (.cells zeroA 51 (0, 0))
  lo : w.heap.size < g
  hi : g < W2.heap.size
  cell : ∀ j (h : j < P.length), W2.cell? ⟨g, j, none⟩ = some (.string ⟨(P[j]).toArray⟩)
theorem rfw (s : List UInt8) (w : World) (hs : s.length ≤ 4000000000) :
    Calls Tryz.prog 128 #[.string ⟨s.toArray⟩, .int .u8 46] (w.alloc (.cells zeroA 51)) fun e w' => ∃ g cap, e = .returned (.slice (some ⟨g, 0, none⟩) (partsL 46 s).length cap) ∧ (partsL 46 s).length ≤ cap ∧ RFW w w' (partsL 46 s) g := by
  refine (rparts_any s 46 (w.alloc (.cells zeroA 51)) hs).mono ?_
  rintro e w1 ⟨v, rfl, hown, hb⟩
  have hne := partsL_ne 46 s
  have h0 : 0 < (partsL 46 s).length := List.length_pos_iff.2 hne
  obtain ⟨g, cap, rfl, hlo, hlt⟩ := hown.form h0
  have hcap : (partsL 46 s).length ≤ cap := by
    rcases own_open hown with ⟨h, _⟩ | ⟨g', cap', h, hr⟩
    · cases h
    · simp only [Value.slice.injEq] at h
      obtain ⟨_, _, rfl⟩ := h
      omega
  rw [World.size_alloc] at hb hlo
  have hb1 := hb
  refine ⟨g, cap, rfl, hcap, ((Below.refl _ _).alloc (Nat.le_refl _) _).trans (hb.mono (by omega)), (hb.block _ (by omega)).trans (heap_alloc_new w _), by omega, hlt, fun j h => ?_⟩
  have := hown.cells (g := g) rfl j _ (strs_get h)
  rwa [Addr.add_lit, Nat.zero_add] at this
theorem below_setRow {B g : Nat} {a w : World} (h : Below B a w) (hg : B ≤ g) (cs : Array Value) : Below B a (w.setRow g cs) := by
  refine h.trans ⟨rfl, rfl, rfl, ?_, fun k hk => setRow_other w g k cs (by omega)⟩
  simp [World.setRow]
theorem like_hex {x : List UInt8} (h : hexPre x = true) : digsL x = false ∧ likeL x = (numL x).isSome := by
  have hl : 2 ≤ x.length := by
    unfold hexPre at h
    simp only [Bool.and_eq_true, decide_eq_true_eq] at h
    exact h.1.1
  have h0 : (x.getD 0 0).toNat = 48 := by
    unfold hexPre at h
    simp only [Bool.and_eq_true, decide_eq_true_eq, beq_iff_eq] at h
    exact h.1.2
  rw [hexPre_is hl h0, getD_is (s := x) (k := 1) (by omega)] at h
  refine ⟨digsL_no (k := 1) (by omega) ?_, ?_⟩
  · simp only [Bool.or_eq_true, beq_iff_eq] at h; omega
  · unfold likeL
    rw [if_pos]
    rw [hexPre_is hl h0, getD_is (s := x) (k := 1) (by omega)]; exact h
theorem hex_parts {x : List UInt8} (h : hexPre x = true) : ∃ h2 : 2 ≤ x.length, ((x[0]'(by omega)).toNat : Int) = 48 ∧ (((x[1]'(by omega)).toNat : Int) = 120 ∨ ((x[1]'(by omega)).toNat : Int) = 88) := by
  have hl : 2 ≤ x.length := by
    unfold hexPre at h
    simp only [Bool.and_eq_true, decide_eq_true_eq] at h
    exact h.1.1
  have h0 : (x.getD 0 0).toNat = 48 := by
    unfold hexPre at h
    simp only [Bool.and_eq_true, decide_eq_true_eq, beq_iff_eq] at h
    exact h.1.2
  rw [hexPre_is hl h0, getD_is (s := x) (k := 1) (by omega)] at h
  rw [getD_is (s := x) (k := 0) (by omega)] at h0
  simp only [Bool.or_eq_true, beq_iff_eq] at h
  exact ⟨hl, by omega, by omega⟩
theorem hex_not {x : List UInt8} (h : hexPre x = false) : x.length < 2 ∨ (∃ h2 : 2 ≤ x.length, ¬ ((x[0]'(by omega)).toNat : Int) = 48) ∨ ∃ h2 : 2 ≤ x.length, ((x[0]'(by omega)).toNat : Int) = 48 ∧ (((x[1]'(by omega)).toNat : Int) == 120) = false ∧ (((x[1]'(by omega)).toNat : Int) == 88) = false := by
  by_cases hl : 2 ≤ x.length
  · by_cases h0 : (x.getD 0 0).toNat = 48
    · rw [hexPre_is hl h0, getD_is (s := x) (k := 1) (by omega)] at h
      rw [getD_is (s := x) (k := 0) (by omega)] at h0
      simp only [Bool.or_eq_false_iff, beq_eq_false_iff_ne] at h
      refine .inr (.inr ⟨hl, by omega, ?_, ?_⟩)
      · rw [beq_eq_false_iff_ne]; omega
      · rw [beq_eq_false_iff_ne]; omega
    · rw [getD_is (s := x) (k := 0) (by omega)] at h0
      exact .inr (.inl ⟨hl, by omega⟩)
  · exact .inl (by omega)
theorem like_dig {x : List UInt8} (h : hexPre x = false) : likeL x = digsL x := by
  unfold likeL
  rw [h, if_neg (by simp), digsL_eq]
set_option maxRecDepth 100000 in
set_option maxHeartbeats 4000000 in
theorem rfour_A0 (s : List UInt8) (w : World) (x0 : List UInt8) (hx : ∀ p ∈ [x0], p.length ≤ 4000000000)
    (cs : Calls Tryz.prog 128 #[.string ⟨s.toArray⟩, .int .u8 46] (w.alloc (.cells zeroA 51)) fun e w' => ∃ g cap, e = .returned (.slice (some ⟨g, 0, none⟩) 1 cap) ∧ 1 ≤ cap ∧ RFW w w' [x0] g) (r : Bool × Nat × Nat)
    (hr : r = if likeL x0 = false then (false, 0, 0) else match evalF [x0] 4294967296 0 with | none => (true, 5, 0) | some n => (true, 0, n)) :
    Calls Tryz.prog 87 #[.string ⟨s.toArray⟩] w fun e w' => e = .returned (fourV r) ∧ Below w.heap.size w w' := by
  have hxl : x0.length ≤ 4000000000 := hx x0 (by simp)
  have cn := fun W => rnumber_any x0 W (by omega)
  have cd := fun W => rdigits_any x0 W (by omega)
  simp only [cntV] at cn
  have hhex := @like_hex x0
  have hdig := @like_dig x0
  have Hx := Lib.hid hx
  have HH := Lib.hid hhex
  have HD := Lib.hid hdig
  have HR := Lib.hid hr
  clear hx hhex hdig hr
  go_enter Tryz.func87, Tryz.ntmps87
  go_wp2_with fail
  go_at_call 128
  refine cs.mono ?_
  rintro e w2 ⟨g, cap, rfl, hcap, hW⟩
  obtain ⟨hb2, hrow, hlo, hhi, hcell⟩ := hW
  have c0 := hcell 0 (by simp)
  simp only [List.getElem_cons_zero, List.getElem_cons_succ] at c0
  clear hcell cs
  go_upto_region 6 with (go_at_call 129; refine (cn _).mono ?_; rintro e w3 ⟨rfl, rfl⟩)
  go_cut [9] (fun h wx => w2 = wx ∧ ∃ b : Bool, h = .bool b ∧ Hid (likeL x0 = (digsL x0 || b)))
  case first =>
    cases p : hexPre x0 with
    | true =>
      obtain ⟨y1, y2⟩ := HH.out p
      obtain ⟨h2, z0, z1⟩ := hex_parts p
      have Y1 := Lib.hid y1
      have Y2 := Lib.hid y2
      clear p y1 y2 HH HD HR
      rcases z1 with z1 | z1
      all_goals
        go_wp2_with fail
        go_meet
        exact ⟨rfl, _, rfl, by show _ = _; rw [Y1.out, Y2.out]; rfl⟩
    | false =>
      have y1 := HD.out p
      have Y1 := Lib.hid y1
      have hn := hex_not p
      clear p y1 HH HD HR
      rcases hn with h2 | ⟨h2, z0⟩ | ⟨h2, z0, z1, z2⟩
      all_goals
        go_wp2_with fail
        go_meet
        exact ⟨rfl, _, rfl, by show _ = _; rw [Y1.out, Bool.or_false]⟩
  case rest =>
    obtain ⟨rfl, b, rfl, hI⟩ := hcut
    have hr := HR.out
    have hI := hI.out
    clear HR HH HD
    by_cases hno : digsL x0 = false ∧ b = false
    · obtain ⟨hd, hbf⟩ := hno
      rw [hd, hbf, Bool.or_false] at hI
      rw [if_pos hI] at hr
      subst hr
      rw [hd] at cd
      clear hI hd
      go_upto_region 8 with (go_at_call 130; refine (cd _).mono ?_; rintro e w3 ⟨rfl, rfl⟩)
      go_wp2_with (refine wpList_store_same (o := ⟨none, .store 51 (.tmp 2) (.tmp 75), _, _, _, _⟩) rfl 51 (.tmp 2) _ rfl w.heap.size zeroA rfl rfl 51 hrow (by kernel_rfl) (by decide +kernel) ?_)
      exact bodyPost_ret (results_row3 (fn := Tryz.f87) (p := 2) (q := 3) (r := 4) (ty := 51) rfl _ _ w.heap.size 51 zeroA (0, 0) _ rfl hrow Tryz.underlying51 rfl (by kernel_rfl)) rfl ⟨rfl, hb2⟩
    · have hlk : likeL x0 = true := by rw [hI]; cases h1 : digsL x0 <;> cases h2 : b <;> simp_all
      rw [if_neg (by rw [hlk]; simp)] at hr
      have hcase : digsL x0 = true ∨ (digsL x0 = false ∧ b = true) := by cases h1 : digsL x0 <;> cases h2 : b <;> simp_all
      clear hlk hI hno
      have hcell : ∀ (o : Obj) (j : Nat), (w2.alloc o).cell? ⟨g, j, none⟩ = w2.cell? ⟨g, j, none⟩ := fun o j => World.cell?_alloc_old _ _ _ (by show g ≠ _; omega)
      have hrw2 : ∀ (o : Obj), (w2.alloc o).heap[w.heap.size]? = some (.cells zeroA 51 (0, 0)) := fun o => (Below.heap_alloc w2 o _ (by omega)).trans hrow
      have hbw2 : ∀ (o : Obj), Below w.heap.size w (w2.alloc o) := fun o => hb2.alloc hb2.size o
      rcases hcase with hd | ⟨hd, hbt⟩
      all_goals
        rw [hd] at cd
        clear hd
        go_wp2_with (go_at_call 130; refine (cd _).mono ?_; rintro e w3 ⟨rfl, rfl⟩)
        refine wp_loop_rounds 2 ?_
        rw [rounds_succ]
        have cm0 := fun W => rnumber_any x0 W (by have := Hx.out x0 (by simp); omega)
        cases hn0 : numL x0 with
        | none =>
          have hr2 : r = (true, 5, 0) := by rw [hr]; simp [evalF, hn0]
          subst hr2
          rw [hn0] at cm0
          simp only [cntV] at cm0
          clear hr hn0
          go_wp2_with (go_at_call 129; refine (cm0 _).mono ?_; rintro e w3 ⟨rfl, rfl⟩)
          refine wp_loop_rounds 4 ?_
          rw [rounds_succ]
          go_wp2_with fail
          rw [rounds_succ]
          go_wp2_with fail
          rw [rounds_succ]
          go_wp2_with fail
          rw [rounds_succ]
          go_upto_region 22 with fail
          go_wp2_with (refine wpList_store_same (o := ⟨none, .store 51 (.tmp 2) (.tmp 116), _, _, _, _⟩) rfl 51 (.tmp 2) _ rfl w.heap.size zeroA rfl rfl 51 (hrw2 _) (by kernel_rfl) (by decide +kernel) ?_)
          exact bodyPost_ret (results_row3 (fn := Tryz.f87) (p := 2) (q := 3) (r := 4) (ty := 51) rfl _ _ w.heap.size 51 zeroA (0, 0) _ rfl (hrw2 _) Tryz.underlying51 rfl (by kernel_rfl)) rfl ⟨rfl, hbw2 _⟩
        | some n0 =>
          rw [hn0] at cm0
          simp only [cntV] at cm0
          by_cases q0 : n0 ≤ 4294967295
          · have hge0 : decide ((4294967296 : Int) ≤ (n0 : Int)) = false := by rw [decide_eq_false_iff_not]; omega
            have Q0 := Lib.hid q0
            clear q0
            go_wp2_with (go_at_call 129; refine (cm0 _).mono ?_; rintro e w3 ⟨rfl, rfl⟩)
            refine wp_loop_rounds 4 ?_
            rw [rounds_succ]
            go_wp2_with fail
            rw [rounds_succ]
            go_wp2_with fail
            rw [rounds_succ]
            go_wp2_with fail
            rw [rounds_succ]
            go_wp2_with fail
            have q0 := Q0.out
            refine wp_loop_rounds 5 ?_
            rw [rounds_succ]
            go_wp2_with fail
            rw [rounds_succ]
            go_wp2_with fail
            rw [rounds_succ]
            go_wp2_with fail
            rw [rounds_succ]
            go_wp2_with fail
            rw [rounds_succ]
            go_wp2_with fail
            rw [rounds_succ]
            go_upto_region 30 with fail
            go_step
            refine wpList_load_row (o := ⟨some _, .load 51 (.tmp 10), _, _, _, _⟩) rfl 51 (.tmp 10) rfl w2.heap.size rfl 51 _ (0, 0) _ (heap_alloc_new w2 _) Tryz.underlying51 rfl (by kernel_rfl) ?_
            refine wpList_store_row (o := ⟨none, .store 51 (.tmp 2) (.tmp 140), _, _, _, _⟩) rfl 51 (.tmp 2) _ rfl w.heap.size _ rfl rfl 51 zeroA (hrw2 _) (by kernel_rfl) rfl (by simp [Value.oneCell']) ?_
            go_wp2_with fail
            refine bodyPost_ret (results_row3 (fn := Tryz.f87) (p := 2) (q := 3) (r := 4) (ty := 51) rfl _ _ w.heap.size 51 _ (0, 0) _ rfl (setRow_heap _ _ _ _ _ _ (hrw2 _)) Tryz.underlying51 rfl (by kernel_rfl)) rfl ⟨?_, below_setRow (hbw2 _) (Nat.le_refl _) _⟩
            have hr2 : r = (true, 0, n0) := by
              rw [hr]
              simp [evalF, hn0, show n0 < 4294967296 from by omega]
            rw [hr2]
            simp [fourV, addrV]
            omega
          · have q0b : 4294967296 ≤ n0 := by omega
            have hr2 : r = (true, 5, 0) := by rw [hr]; simp [evalF, hn0, show ¬ n0 < 4294967296 from by omega]
            subst hr2
            have hge0 : decide ((4294967296 : Int) ≤ (n0 : Int)) = true := by rw [decide_eq_true_eq]; omega
            clear q0 q0b hr hn0
            go_wp2_with (go_at_call 129; refine (cm0 _).mono ?_; rintro e w3 ⟨rfl, rfl⟩)
            refine wp_loop_rounds 4 ?_
            rw [rounds_succ]
            go_wp2_with fail
            rw [rounds_succ]
            go_wp2_with fail
            rw [rounds_succ]
            go_wp2_with fail
            rw [rounds_succ]
            go_upto_region 22 with fail
            go_wp2_with (refine wpList_store_same (o := ⟨none, .store 51 (.tmp 2) (.tmp 116), _, _, _, _⟩) rfl 51 (.tmp 2) _ rfl w.heap.size zeroA rfl rfl 51 (hrw2 _) (by kernel_rfl) (by decide +kernel) ?_)
            exact bodyPost_ret (results_row3 (fn := Tryz.f87) (p := 2) (q := 3) (r := 4) (ty := 51) rfl _ _ w.heap.size 51 zeroA (0, 0) _ rfl (hrw2 _) Tryz.underlying51 rfl (by kernel_rfl)) rfl ⟨rfl, hbw2 _⟩
set_option maxRecDepth 100000 in
set_option maxHeartbeats 4000000 in
theorem rfour_B1 (s : List UInt8) (w : World) (x0 x1 : List UInt8) (hx : ∀ p ∈ [x0, x1], p.length ≤ 4000000000) (hne : x1 ≠ [])
    (cs : Calls Tryz.prog 128 #[.string ⟨s.toArray⟩, .int .u8 46] (w.alloc (.cells zeroA 51)) fun e w' => ∃ g cap, e = .returned (.slice (some ⟨g, 0, none⟩) 2 cap) ∧ 2 ≤ cap ∧ RFW w w' [x0, x1] g) (r : Bool × Nat × Nat)
    (hr : r = if likeL x1 = false then (false, 0, 0) else match evalF [x0, x1] 4294967296 0 with | none => (true, 5, 0) | some n => (true, 0, n)) :
    Calls Tryz.prog 87 #[.string ⟨s.toArray⟩] w fun e w' => e = .returned (fourV r) ∧ Below w.heap.size w w' := by
  have hxl : x1.length ≤ 4000000000 := hx x1 (by simp)
  have cn := fun W => rnumber_any x1 W (by omega)
  have cd := fun W => rdigits_any x1 W (by omega)
  simp only [cntV] at cn
  have hhex := @like_hex x1
  have hdig := @like_dig x1
  have hne1 := isEmpty_ne hne
  have hne2 := beq_ne hne
  have Hx := Lib.hid hx
  have HH := Lib.hid hhex
  have HD := Lib.hid hdig
  have HR := Lib.hid hr
  clear hx hhex hdig hr hne
  go_enter Tryz.func87, Tryz.ntmps87
  go_wp2_with fail
  go_at_call 128
  refine cs.mono ?_
  rintro e w2 ⟨g, cap, rfl, hcap, hW⟩
  obtain ⟨hb2, hrow, hlo, hhi, hcell⟩ := hW
  have c0 := hcell 0 (by simp)
  have c1 := hcell 1 (by simp)
  simp only [List.getElem_cons_zero, List.getElem_cons_succ] at c0 c1
  clear hcell cs
  go_upto_region 6 with (go_at_call 129; refine (cn _).mono ?_; rintro e w3 ⟨rfl, rfl⟩)
  go_cut [9] (fun h wx => w2 = wx ∧ ∃ b : Bool, h = .bool b ∧ Hid (likeL x1 = (digsL x1 || b)))
  case first =>
    cases p : hexPre x1 with
    | true =>
      obtain ⟨y1, y2⟩ := HH.out p
      obtain ⟨h2, z0, z1⟩ := hex_parts p
      have Y1 := Lib.hid y1
      have Y2 := Lib.hid y2
      clear p y1 y2 HH HD HR
      rcases z1 with z1 | z1
      all_goals
        go_wp2_with fail
        go_meet
        exact ⟨rfl, _, rfl, by show _ = _; rw [Y1.out, Y2.out]; rfl⟩
    | false =>
      have y1 := HD.out p
      have Y1 := Lib.hid y1
      have hn := hex_not p
      clear p y1 HH HD HR
      rcases hn with h2 | ⟨h2, z0⟩ | ⟨h2, z0, z1, z2⟩
      all_goals
        go_wp2_with fail
        go_meet
        exact ⟨rfl, _, rfl, by show _ = _; rw [Y1.out, Bool.or_false]⟩
  case rest =>
    obtain ⟨rfl, b, rfl, hI⟩ := hcut
    have hr := HR.out
    have hI := hI.out
    clear HR HH HD
    by_cases hno : digsL x1 = false ∧ b = false
    · obtain ⟨hd, hbf⟩ := hno
      rw [hd, hbf, Bool.or_false] at hI
      rw [if_pos hI] at hr
      subst hr
      rw [hd] at cd
      clear hI hd
      go_upto_region 8 with (go_at_call 130; refine (cd _).mono ?_; rintro e w3 ⟨rfl, rfl⟩)
      go_wp2_with (refine wpList_store_same (o := ⟨none, .store 51 (.tmp 2) (.tmp 75), _, _, _, _⟩) rfl 51 (.tmp 2) _ rfl w.heap.size zeroA rfl rfl 51 hrow (by kernel_rfl) (by decide +kernel) ?_)
      exact bodyPost_ret (results_row3 (fn := Tryz.f87) (p := 2) (q := 3) (r := 4) (ty := 51) rfl _ _ w.heap.size 51 zeroA (0, 0) _ rfl hrow Tryz.underlying51 rfl (by kernel_rfl)) rfl ⟨rfl, hb2⟩
    · have hlk : likeL x1 = true := by rw [hI]; cases h1 : digsL x1 <;> cases h2 : b <;> simp_all
      rw [if_neg (by rw [hlk]; simp)] at hr
      have hcase : digsL x1 = true ∨ (digsL x1 = false ∧ b = true) := by cases h1 : digsL x1 <;> cases h2 : b <;> simp_all
      clear hlk hI hno
      have hcell : ∀ (o : Obj) (j : Nat), (w2.alloc o).cell? ⟨g, j, none⟩ = w2.cell? ⟨g, j, none⟩ := fun o j => World.cell?_alloc_old _ _ _ (by show g ≠ _; omega)
      have hrw2 : ∀ (o : Obj), (w2.alloc o).heap[w.heap.size]? = some (.cells zeroA 51 (0, 0)) := fun o => (Below.heap_alloc w2 o _ (by omega)).trans hrow
      have hbw2 : ∀ (o : Obj), Below w.heap.size w (w2.alloc o) := fun o => hb2.alloc hb2.size o
      rcases hcase with hd | ⟨hd, hbt⟩
      all_goals
        rw [hd] at cd
        clear hd
        go_wp2_with (go_at_call 130; refine (cd _).mono ?_; rintro e w3 ⟨rfl, rfl⟩)
        refine wp_loop_rounds 3 ?_
        rw [rounds_succ]
        have cm0 := fun W => rnumber_any x0 W (by have := Hx.out x0 (by simp); omega)
        cases hn0 : numL x0 with
        | none =>
          have hr2 : r = (true, 5, 0) := by rw [hr]; simp [evalF, hn0]
          subst hr2
          rw [hn0] at cm0
          simp only [cntV] at cm0
          clear hr hn0
          go_wp2_with (go_at_call 129; refine (cm0 _).mono ?_; rintro e w3 ⟨rfl, rfl⟩)
          refine wp_loop_rounds 1 ?_
          rw [rounds_succ]
          go_upto_region 22 with fail
          go_wp2_with (refine wpList_store_same (o := ⟨none, .store 51 (.tmp 2) (.tmp 116), _, _, _, _⟩) rfl 51 (.tmp 2) _ rfl w.heap.size zeroA rfl rfl 51 (hrw2 _) (by kernel_rfl) (by decide +kernel) ?_)
          exact bodyPost_ret (results_row3 (fn := Tryz.f87) (p := 2) (q := 3) (r := 4) (ty := 51) rfl _ _ w.heap.size 51 zeroA (0, 0) _ rfl (hrw2 _) Tryz.underlying51 rfl (by kernel_rfl)) rfl ⟨rfl, hbw2 _⟩
        | some n0 =>
          rw [hn0] at cm0
          simp only [cntV] at cm0
          by_cases q0 : n0 ≤ 255
          · have hge0 : decide ((256 : Int) ≤ (n0 : Int)) = false := by rw [decide_eq_false_iff_not]; omega
            have Q0 := Lib.hid q0
            clear q0
            go_wp2_with (go_at_call 129; refine (cm0 _).mono ?_; rintro e w3 ⟨rfl, rfl⟩)
            refine wp_loop_rounds 1 ?_
            rw [rounds_succ]
            go_wp2_with fail
            have q0 := Q0.out
            rw [rounds_succ]
            have cm1 := fun W => rnumber_any x1 W (by have := Hx.out x1 (by simp); omega)
            cases hn1 : numL x1 with
            | none =>
              have hr2 : r = (true, 5, 0) := by rw [hr]; simp [evalF, hn0, show n0 < 256 from by omega, hn1]
              subst hr2
              rw [hn1] at cm1
              simp only [cntV] at cm1
              clear hr hn0 hn1
              go_wp2_with (go_at_call 129; refine (cm1 _).mono ?_; rintro e w3 ⟨rfl, rfl⟩)
              refine wp_loop_rounds 3 ?_
              rw [rounds_succ]
              go_wp2_with fail
              rw [rounds_succ]
              go_wp2_with fail
              rw [rounds_succ]
              go_upto_region 22 with fail
              go_wp2_with (refine wpList_store_same (o := ⟨none, .store 51 (.tmp 2) (.tmp 116), _, _, _, _⟩) rfl 51 (.tmp 2) _ rfl w.heap.size zeroA rfl rfl 51 (hrw2 _) (by kernel_rfl) (by decide +kernel) ?_)
              exact bodyPost_ret (results_row3 (fn := Tryz.f87) (p := 2) (q := 3) (r := 4) (ty := 51) rfl _ _ w.heap.size 51 zeroA (0, 0) _ rfl (hrw2 _) Tryz.underlying51 rfl (by kernel_rfl)) rfl ⟨rfl, hbw2 _⟩
            | some n1 =>
              rw [hn1] at cm1
              simp only [cntV] at cm1
              by_cases q1 : n1 ≤ 16777215
              · have hge1 : decide ((16777216 : Int) ≤ (n1 : Int)) = false := by rw [decide_eq_false_iff_not]; omega
                have Q1 := Lib.hid q1
                clear q1
                go_wp2_with (go_at_call 129; refine (cm1 _).mono ?_; rintro e w3 ⟨rfl, rfl⟩)
                refine wp_loop_rounds 3 ?_
                rw [rounds_succ]
                go_wp2_with fail
                rw [rounds_succ]
                go_wp2_with fail
                rw [rounds_succ]
                go_wp2_with fail
                have q1 := Q1.out
                refine wp_loop_rounds 4 ?_
                rw [rounds_succ]
                go_wp2_with fail
                rw [rounds_succ]
                go_wp2_with fail
                rw [rounds_succ]
                go_wp2_with fail
                rw [rounds_succ]
                go_wp2_with fail
                rw [rounds_succ]
                go_upto_region 30 with fail
                go_step
                refine wpList_load_row (o := ⟨some _, .load 51 (.tmp 10), _, _, _, _⟩) rfl 51 (.tmp 10) rfl w2.heap.size rfl 51 _ (0, 0) _ (heap_alloc_new w2 _) Tryz.underlying51 rfl (by kernel_rfl) ?_
                refine wpList_store_row (o := ⟨none, .store 51 (.tmp 2) (.tmp 140), _, _, _, _⟩) rfl 51 (.tmp 2) _ rfl w.heap.size _ rfl rfl 51 zeroA (hrw2 _) (by kernel_rfl) rfl (by simp [Value.oneCell']) ?_
                go_wp2_with fail
                refine bodyPost_ret (results_row3 (fn := Tryz.f87) (p := 2) (q := 3) (r := 4) (ty := 51) rfl _ _ w.heap.size 51 _ (0, 0) _ rfl (setRow_heap _ _ _ _ _ _ (hrw2 _)) Tryz.underlying51 rfl (by kernel_rfl)) rfl ⟨?_, below_setRow (hbw2 _) (Nat.le_refl _) _⟩
                have hr2 : r = (true, 0, n0 * 16777216 + n1) := by
                  rw [hr]
                  simp [evalF, hn0, show n0 < 256 from by omega, hn1, show n1 < 16777216 from by omega]
                rw [hr2]
                simp [fourV, addrV]
                omega
              · have q1b : 16777216 ≤ n1 := by omega
                have hr2 : r = (true, 5, 0) := by rw [hr]; simp [evalF, hn0, show n0 < 256 from by omega, hn1, show ¬ n1 < 16777216 from by omega]
                subst hr2
                have hge1 : decide ((16777216 : Int) ≤ (n1 : Int)) = true := by rw [decide_eq_true_eq]; omega
                clear q1 q1b hr hn0 hn1
                go_wp2_with (go_at_call 129; refine (cm1 _).mono ?_; rintro e w3 ⟨rfl, rfl⟩)
                refine wp_loop_rounds 3 ?_
                rw [rounds_succ]
                go_wp2_with fail
                rw [rounds_succ]
                go_wp2_with fail
                rw [rounds_succ]
                go_upto_region 22 with fail
                go_wp2_with (refine wpList_store_same (o := ⟨none, .store 51 (.tmp 2) (.tmp 116), _, _, _, _⟩) rfl 51 (.tmp 2) _ rfl w.heap.size zeroA rfl rfl 51 (hrw2 _) (by kernel_rfl) (by decide +kernel) ?_)
                exact bodyPost_ret (results_row3 (fn := Tryz.f87) (p := 2) (q := 3) (r := 4) (ty := 51) rfl _ _ w.heap.size 51 zeroA (0, 0) _ rfl (hrw2 _) Tryz.underlying51 rfl (by kernel_rfl)) rfl ⟨rfl, hbw2 _⟩
          · have q0b : 256 ≤ n0 := by omega
            have hr2 : r = (true, 5, 0) := by rw [hr]; simp [evalF, hn0, show ¬ n0 < 256 from by omega]
            subst hr2
            have hge0 : decide ((256 : Int) ≤ (n0 : Int)) = true := by rw [decide_eq_true_eq]; omega
            clear q0 q0b hr hn0
            go_wp2_with (go_at_call 129; refine (cm0 _).mono ?_; rintro e w3 ⟨rfl, rfl⟩)
            refine wp_loop_rounds 1 ?_
            rw [rounds_succ]
            go_upto_region 22 with fail
            go_wp2_with (refine wpList_store_same (o := ⟨none, .store 51 (.tmp 2) (.tmp 116), _, _, _, _⟩) rfl 51 (.tmp 2) _ rfl w.heap.size zeroA rfl rfl 51 (hrw2 _) (by kernel_rfl) (by decide +kernel) ?_)
            exact bodyPost_ret (results_row3 (fn := Tryz.f87) (p := 2) (q := 3) (r := 4) (ty := 51) rfl _ _ w.heap.size 51 zeroA (0, 0) _ rfl (hrw2 _) Tryz.underlying51 rfl (by kernel_rfl)) rfl ⟨rfl, hbw2 _⟩
set_option maxRecDepth 100000 in
set_option maxHeartbeats 4000000 in
theorem rfour_C0 (s : List UInt8) (w : World) (x0 : List UInt8) (hx : ∀ p ∈ [x0, []], p.length ≤ 4000000000)
    (cs : Calls Tryz.prog 128 #[.string ⟨s.toArray⟩, .int .u8 46] (w.alloc (.cells zeroA 51)) fun e w' => ∃ g cap, e = .returned (.slice (some ⟨g, 0, none⟩) 2 cap) ∧ 2 ≤ cap ∧ RFW w w' [x0, []] g) (r : Bool × Nat × Nat)
    (hr : r = if likeL x0 = false then (false, 0, 0) else match evalF [x0] 4294967296 0 with | none => (true, 5, 0) | some n => (true, 0, n)) :
    Calls Tryz.prog 87 #[.string ⟨s.toArray⟩] w fun e w' => e = .returned (fourV r) ∧ Below w.heap.size w w' := by
  have hxl : x0.length ≤ 4000000000 := hx x0 (by simp)
  have cn := fun W => rnumber_any x0 W (by omega)
  have cd := fun W => rdigits_any x0 W (by omega)
  simp only [cntV] at cn
  have hhex := @like_hex x0
  have hdig := @like_dig x0
  have Hx := Lib.hid hx
  have HH := Lib.hid hhex
  have HD := Lib.hid hdig
  have HR := Lib.hid hr
  clear hx hhex hdig hr
  go_enter Tryz.func87, Tryz.ntmps87
  go_wp2_with fail
  go_at_call 128
  refine cs.mono ?_
  rintro e w2 ⟨g, cap, rfl, hcap, hW⟩
  obtain ⟨hb2, hrow, hlo, hhi, hcell⟩ := hW
  have c0 := hcell 0 (by simp)
  have c1 := hcell 1 (by simp)
  simp only [List.getElem_cons_zero, List.getElem_cons_succ] at c0 c1
  clear hcell cs
  go_upto_region 6 with (go_at_call 129; refine (cn _).mono ?_; rintro e w3 ⟨rfl, rfl⟩)
  go_cut [9] (fun h wx => w2 = wx ∧ ∃ b : Bool, h = .bool b ∧ Hid (likeL x0 = (digsL x0 || b)))
  case first =>
    cases p : hexPre x0 with
    | true =>
      obtain ⟨y1, y2⟩ := HH.out p
      obtain ⟨h2, z0, z1⟩ := hex_parts p
      have Y1 := Lib.hid y1
      have Y2 := Lib.hid y2
      clear p y1 y2 HH HD HR
      rcases z1 with z1 | z1
      all_goals
        go_wp2_with fail
        go_meet
        exact ⟨rfl, _, rfl, by show _ = _; rw [Y1.out, Y2.out]; rfl⟩
    | false =>
      have y1 := HD.out p
      have Y1 := Lib.hid y1
      have hn := hex_not p
      clear p y1 HH HD HR
      rcases hn with h2 | ⟨h2, z0⟩ | ⟨h2, z0, z1, z2⟩
      all_goals
        go_wp2_with fail
        go_meet
        exact ⟨rfl, _, rfl, by show _ = _; rw [Y1.out, Bool.or_false]⟩
  case rest =>
    obtain ⟨rfl, b, rfl, hI⟩ := hcut
    have hr := HR.out
    have hI := hI.out
    clear HR HH HD
    by_cases hno : digsL x0 = false ∧ b = false
    · obtain ⟨hd, hbf⟩ := hno
      rw [hd, hbf, Bool.or_false] at hI
      rw [if_pos hI] at hr
      subst hr
      rw [hd] at cd
      clear hI hd
      go_upto_region 8 with (go_at_call 130; refine (cd _).mono ?_; rintro e w3 ⟨rfl, rfl⟩)
      go_wp2_with (refine wpList_store_same (o := ⟨none, .store 51 (.tmp 2) (.tmp 75), _, _, _, _⟩) rfl 51 (.tmp 2) _ rfl w.heap.size zeroA rfl rfl 51 hrow (by kernel_rfl) (by decide +kernel) ?_)
      exact bodyPost_ret (results_row3 (fn := Tryz.f87) (p := 2) (q := 3) (r := 4) (ty := 51) rfl _ _ w.heap.size 51 zeroA (0, 0) _ rfl hrow Tryz.underlying51 rfl (by kernel_rfl)) rfl ⟨rfl, hb2⟩
    · have hlk : likeL x0 = true := by rw [hI]; cases h1 : digsL x0 <;> cases h2 : b <;> simp_all
      rw [if_neg (by rw [hlk]; simp)] at hr
      have hcase : digsL x0 = true ∨ (digsL x0 = false ∧ b = true) := by cases h1 : digsL x0 <;> cases h2 : b <;> simp_all
      clear hlk hI hno
      have hcell : ∀ (o : Obj) (j : Nat), (w2.alloc o).cell? ⟨g, j, none⟩ = w2.cell? ⟨g, j, none⟩ := fun o j => World.cell?_alloc_old _ _ _ (by show g ≠ _; omega)
      have hrw2 : ∀ (o : Obj), (w2.alloc o).heap[w.heap.size]? = some (.cells zeroA 51 (0, 0)) := fun o => (Below.heap_alloc w2 o _ (by omega)).trans hrow
      have hbw2 : ∀ (o : Obj), Below w.heap.size w (w2.alloc o) := fun o => hb2.alloc hb2.size o
      rcases hcase with hd | ⟨hd, hbt⟩
      all_goals
        rw [hd] at cd
        clear hd
        go_wp2_with (go_at_call 130; refine (cd _).mono ?_; rintro e w3 ⟨rfl, rfl⟩)
        refine wp_loop_rounds 2 ?_
        rw [rounds_succ]
        have cm0 := fun W => rnumber_any x0 W (by have := Hx.out x0 (by simp); omega)
        cases hn0 : numL x0 with
        | none =>
          have hr2 : r = (true, 5, 0) := by rw [hr]; simp [evalF, hn0]
          subst hr2
          rw [hn0] at cm0
          simp only [cntV] at cm0
          clear hr hn0
          go_wp2_with (go_at_call 129; refine (cm0 _).mono ?_; rintro e w3 ⟨rfl, rfl⟩)
          refine wp_loop_rounds 4 ?_
          rw [rounds_succ]
          go_wp2_with fail
          rw [rounds_succ]
          go_wp2_with fail
          rw [rounds_succ]
          go_wp2_with fail
          rw [rounds_succ]
          go_upto_region 22 with fail
          go_wp2_with (refine wpList_store_same (o := ⟨none, .store 51 (.tmp 2) (.tmp 116), _, _, _, _⟩) rfl 51 (.tmp 2) _ rfl w.heap.size zeroA rfl rfl 51 (hrw2 _) (by kernel_rfl) (by decide +kernel) ?_)
          exact bodyPost_ret (results_row3 (fn := Tryz.f87) (p := 2) (q := 3) (r := 4) (ty := 51) rfl _ _ w.heap.size 51 zeroA (0, 0) _ rfl (hrw2 _) Tryz.underlying51 rfl (by kernel_rfl)) rfl ⟨rfl, hbw2 _⟩
        | some n0 =>
          rw [hn0] at cm0
          simp only [cntV] at cm0
          by_cases q0 : n0 ≤ 4294967295
          · have hge0 : decide ((4294967296 : Int) ≤ (n0 : Int)) = false := by rw [decide_eq_false_iff_not]; omega
            have Q0 := Lib.hid q0
            clear q0
            go_wp2_with (go_at_call 129; refine (cm0 _).mono ?_; rintro e w3 ⟨rfl, rfl⟩)
            refine wp_loop_rounds 4 ?_
            rw [rounds_succ]
            go_wp2_with fail
            rw [rounds_succ]
            go_wp2_with fail
            rw [rounds_succ]
            go_wp2_with fail
            rw [rounds_succ]
            go_wp2_with fail
            have q0 := Q0.out
            refine wp_loop_rounds 5 ?_
            rw [rounds_succ]
            go_wp2_with fail
            rw [rounds_succ]
            go_wp2_with fail
            rw [rounds_succ]
            go_wp2_with fail
            rw [rounds_succ]
            go_wp2_with fail
            rw [rounds_succ]
            go_wp2_with fail
            rw [rounds_succ]
            go_upto_region 30 with fail
            go_step
            refine wpList_load_row (o := ⟨some _, .load 51 (.tmp 10), _, _, _, _⟩) rfl 51 (.tmp 10) rfl w2.heap.size rfl 51 _ (0, 0) _ (heap_alloc_new w2 _) Tryz.underlying51 rfl (by kernel_rfl) ?_
            refine wpList_store_row (o := ⟨none, .store 51 (.tmp 2) (.tmp 140), _, _, _, _⟩) rfl 51 (.tmp 2) _ rfl w.heap.size _ rfl rfl 51 zeroA (hrw2 _) (by kernel_rfl) rfl (by simp [Value.oneCell']) ?_
            go_wp2_with fail
            refine bodyPost_ret (results_row3 (fn := Tryz.f87) (p := 2) (q := 3) (r := 4) (ty := 51) rfl _ _ w.heap.size 51 _ (0, 0) _ rfl (setRow_heap _ _ _ _ _ _ (hrw2 _)) Tryz.underlying51 rfl (by kernel_rfl)) rfl ⟨?_, below_setRow (hbw2 _) (Nat.le_refl _) _⟩
            have hr2 : r = (true, 0, n0) := by
              rw [hr]
              simp [evalF, hn0, show n0 < 4294967296 from by omega]
            rw [hr2]
            simp [fourV, addrV]
            omega
          · have q0b : 4294967296 ≤ n0 := by omega
            have hr2 : r = (true, 5, 0) := by rw [hr]; simp [evalF, hn0, show ¬ n0 < 4294967296 from by omega]
            subst hr2
            have hge0 : decide ((4294967296 : Int) ≤ (n0 : Int)) = true := by rw [decide_eq_true_eq]; omega
            clear q0 q0b hr hn0
            go_wp2_with (go_at_call 129; refine (cm0 _).mono ?_; rintro e w3 ⟨rfl, rfl⟩)
            refine wp_loop_rounds 4 ?_
            rw [rounds_succ]
            go_wp2_with fail
            rw [rounds_succ]
            go_wp2_with fail
            rw [rounds_succ]
            go_wp2_with fail
            rw [rounds_succ]
            go_upto_region 22 with fail
            go_wp2_with (refine wpList_store_same (o := ⟨none, .store 51 (.tmp 2) (.tmp 116), _, _, _, _⟩) rfl 51 (.tmp 2) _ rfl w.heap.size zeroA rfl rfl 51 (hrw2 _) (by kernel_rfl) (by decide +kernel) ?_)
            exact bodyPost_ret (results_row3 (fn := Tryz.f87) (p := 2) (q := 3) (r := 4) (ty := 51) rfl _ _ w.heap.size 51 zeroA (0, 0) _ rfl (hrw2 _) Tryz.underlying51 rfl (by kernel_rfl)) rfl ⟨rfl, hbw2 _⟩
end Go.Proofs.YtaijdjmkmhpmpaaGreatDoor
