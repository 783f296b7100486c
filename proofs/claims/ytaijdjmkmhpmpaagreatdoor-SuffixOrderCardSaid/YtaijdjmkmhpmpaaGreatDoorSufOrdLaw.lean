/- The law SuffixOrder walked. -/
import Derived.Test.YtaijdjmkmhpmpaaGreatDoorSufAlive
import Derived.Test.YtaijdjmkmhpmpaaGreatDoorSufOrdMath
import Derived.Test.YtaijdjmkmhpmpaaGreatDoorGSu5
import Derived.Test.YtaijdjmkmhpmpaaGreatDoorGRP
import Derived.Deep.RegionLaw
import Derived.Deep.RegionWith
set_option linter.unusedVariables false
set_option linter.unusedSimpArgs false
namespace Go.Proofs.YtaijdjmkmhpmpaaGreatDoor
open Go.RowKit

/-- 'append(v, x, y)' at a step of a region that draws its order, behind the making of the argument's block. -/
theorem step_append_two {P : Program} {t e : TypeId} {z : Value} {bytes : Nat} (E : Elem1 P t e z bytes) {w : World} {ops : Array Oper} {o : Oper} {a : Act} {K : Act → World → Prop} {Q : Exit → Act → World → Prop} {F : Prop} (hgd : o.guard = none) (s x : Operand)
    (ho : o.op = .call { callee := .builtin .append, args := #[s, x], argTypes := #[t, t] })
    (base : Nat) (v : Value) (n : Nat) (xs : List Value) (hs : a.eval s = v) (hown : w.ownsRow base e 1 v n xs)
    (g0 : Nat) (c d : Value) (hx : a.eval x = .slice (some ⟨g0, 0, none⟩) 2 2) (hc : w.cell? ⟨g0, 0, none⟩ = some c) (hd : w.cell? ⟨g0, 1, none⟩ = some d) (h1 : c.oneCell' = true) (h2 : d.oneCell' = true)
    (h63 : n + 2 ≤ 140737488355328) (hbytes : (n + 2) * bytes ≤ 140737488355328) (hbase : base ≤ w.heap.size)
    (h : ∀ v' w', w'.ownsRow base e 1 v' (n + 2) (xs ++ [c, d]) → w.grownBy w' v.ownBlock → K (a.put o.dst v') w') :
    if Region.wanted o (yielded ops a.tmps) = true then Oper.wp P o a w K Q else F := by
  obtain ⟨i, hi, hz, hsize, hby⟩ := E.hi
  refine step_append_lies w hgd s x t ho base e i z 1 bytes E.ht hi hz hsize hby E.hz (by decide) v n xs hs hown ⟨g0, 0, none⟩ 2 2 [c, d] hx rfl ?_ ?_ (by omega) (by unfold maxLen; omega) hbytes hbase _ rfl ?_
  · intro j u hj
    match j, hj with
    | 0, hj => rw [Addr.add_lit]; simp at hj; subst hj; exact hc
    | 1, hj => rw [Addr.add_lit]; simp at hj; subst hj; exact hd
  · intro u hu
    simp at hu
    rcases hu with rfl | rfl
    · exact h1
    · exact h2
  · intro g cap w' h2 h3 _ _
    exact h _ w' h2 h3
/-- What is turned when the rules from k on are. -/
def turnK (L : List (List UInt8)) (k : Nat) : List (List UInt8) := (L.drop k).reverse.flatMap fun r => [r, r]
theorem turnK_full (L : List (List UInt8)) : turnK L L.length = [] := by simp [turnK]
theorem turnK_step {L : List (List UInt8)} {k : Nat} (h : k < L.length) : turnK L k = turnK L (k + 1) ++ [L[k], L[k]] := by
  unfold turnK
  rw [List.drop_eq_getElem_cons h, List.reverse_cons, List.flatMap_append]; rfl
theorem turnK_zero (L : List (List UInt8)) : turnK L 0 = turnL L := rfl
theorem turnK_len (L : List (List UInt8)) (k : Nat) : (turnK L k).length = 2 * (L.length - k) := by
  have : ∀ M : List (List UInt8), (M.flatMap fun r => [r, r]).length = 2 * M.length := fun M => by
    induction M with
    | nil => rfl
    | cons r M ih => rw [List.flatMap_cons, List.length_append, ih]; simp; omega
  unfold turnK
  rw [this, List.length_reverse, List.length_drop]
theorem strs_two (l : List (List UInt8)) (p : List UInt8) : strs (l ++ [p, p]) = strs l ++ [.string ⟨p.toArray⟩, .string ⟨p.toArray⟩] := by simp [strs]
theorem head_mark {c : UInt8} {r : List UInt8} : exceptB (c :: r) = decide (c.toNat = 33) := by
  unfold exceptB
  rw [Bool.eq_iff_iff]
  simp only [List.head?_cons, beq_iff_eq, decide_eq_true_eq, Option.some.injEq]
  exact ⟨fun h => h ▸ rfl, fun h => UInt8.toNat_inj.1 h⟩
set_option maxRecDepth 100000 in
set_option maxHeartbeats 2000000 in
theorem suforder_law (L : List (List UInt8)) (v : Value) (h : List UInt8) (w : World) (ht : Txt w v L) (hl : L.length ≤ 140737488351232) (hs : ∀ p ∈ L, p.length ≤ 140737488351232) (hh : h.length ≤ 140737488351232) (hE : EnvH w) :
    Calls Tryz.prog 5 #[v, .string ⟨h.toArray⟩] w fun e w' => e = .returned (.bool true) ∧ Below w.heap.size w w' := by
  have hbw := Below.refl w.heap.size w
  have ca := lift_hS w hE (fun W hEW => salive_any W hEW)
  have cg := fun W (hW : Below w.heap.size w W) => great_any L v h W (ht.below hW (Nat.le_refl _)) hl hs hh
  cases hg : greatB L h with
  | true =>
    rw [hg] at cg
    clear ht
    go_enter Tryz.func5, Tryz.ntmps5
    go_wp2_with (first | (go_at_call 17; refine (ca _ (by assumption)).mono ?_; rintro e w1 ⟨rfl, hb1⟩) | (go_at_call 10; refine (cg _ (by assumption)).mono ?_; rintro e w2 ⟨rfl, rfl⟩))
    go_ret
    exact ⟨rfl, by assumption⟩
  | false =>
    rw [hg] at cg
    obtain ⟨h1, _, h3, h4⟩ := great_no hg
    have cs : ∀ W, Below w.heap.size w W → Calls Tryz.prog 12 #[v, .string ⟨h.toArray⟩] W fun e W' => e = .returned (sufV (suffixL L h)) ∧ Below W.heap.size W W' := fun W hW =>
      suffix_any L h v W (hE.below hW) (ht.below hW (Nat.le_refl _)) (by omega) (fun p hp => by have := h3 p hp; omega) (by omega)
    have co : ∀ W, Below w.heap.size w W → Calls Tryz.prog 15 #[v, .string ⟨h.toArray⟩] W fun e W' => e = .returned (sufV (ownL L h)) ∧ Below W.heap.size W W' := fun W hW =>
      own_any L h v W (hE.below hW) (ht.below hW (Nat.le_refl _)) (by omega) (fun p hp => by have := h3 p hp; omega) (by omega)
    by_cases h5 : 500 < L.length
    · have h5i : (500 : Int) < (L.length : Int) := by omega
      obtain ⟨ad, c, rfl⟩ := ht.form
      clear ht cs co
      go_enter Tryz.func5, Tryz.ntmps5
      go_wp2_with (first | (go_at_call 17; refine (ca _ (by assumption)).mono ?_; rintro e w1 ⟨rfl, hb1⟩) | (go_at_call 10; refine (cg _ (by assumption)).mono ?_; rintro e w2 ⟨rfl, rfl⟩))
      go_ret
      exact ⟨rfl, by assumption⟩
    · have h5i : ¬ (500 : Int) < (L.length : Int) := by omega
      have cs2 : (∀ r ∈ L, exceptB r = false) → ∀ (v2 : Value) W, Below w.heap.size w W → Txt W v2 (turnK L 0) → Calls Tryz.prog 12 #[v2, .string ⟨h.toArray⟩] W fun e W' => e = .returned (sufV (suffixL L h)) ∧ Below W.heap.size W W' := fun hx v2 W hW hT => by
        have := suffix_any (turnL L) h v2 W (hE.below hW) hT (by rw [turn_len]; omega) (fun p hp => by have := h3 p (turn_mem.1 hp); omega) (by omega)
        rwa [(turn_same (by omega) hx).1] at this
      have co2 : (∀ r ∈ L, exceptB r = false) → ∀ (v2 : Value) W, Below w.heap.size w W → Txt W v2 (turnK L 0) → Calls Tryz.prog 15 #[v2, .string ⟨h.toArray⟩] W fun e W' => e = .returned (sufV (ownL L h)) ∧ Below W.heap.size W W' := fun hx v2 W hW hT => by
        have := own_any (turnL L) h v2 W (hE.below hW) hT (by rw [turn_len]; omega) (fun p hp => by have := h3 p (turn_mem.1 hp); omega) (by omega)
        rwa [(turn_same (by omega) hx).2] at this
      generalize suffixL L h = S at *
      generalize ownL L h = O at *
      obtain ⟨S1, S2⟩ := S
      obtain ⟨O1, O2⟩ := O
      unfold sufV at cs co cs2 co2
      simp only at cs co cs2 co2
      have wr0 : IntKind.i64.wrap ((L.length : Int) - 1) = (L.length : Int) - 1 := IntWalk.i64_in _ (by omega)
      have hcell : ∃ ad c, v = .slice ad L.length c ∧ ∀ W, Below w.heap.size w W → ∀ k (hk : k < L.length), ∃ a, ad = some a ∧ W.cell? (a.add k) = some (.string ⟨(L[k]).toArray⟩) := by
        rcases ht with ⟨rfl, rfl⟩ | ⟨a, c, rfl, hc, hab, hcell⟩
        · exact ⟨none, 0, rfl, fun W _ k hk => absurd hk (by simp)⟩
        · exact ⟨some a, c, rfl, fun W hW k hk => ⟨a, rfl, (hW.cell (p := a.add k) (by rw [Go.ChangeShapes.block_add]; exact hab (by omega))).trans (hcell k hk)⟩⟩
      obtain ⟨ad, c, rfl, HC0⟩ := hcell
      have HC := Lib.hid HC0
      clear ht HC0
      go_enter Tryz.func5, Tryz.ntmps5
      go_wp2_with (first | (go_at_call 17; refine (ca _ (by assumption)).mono ?_; rintro e w1 ⟨rfl, hb1⟩) | (go_at_call 10; refine (cg _ (by assumption)).mono ?_; rintro e w2 ⟨rfl, rfl⟩))
      clear ca cg
      go_loopw [5, 6] (fun t i wr => ∃ (k : Nat) (z : Int), k ≤ L.length ∧ z + 1 = (k : Int) ∧ i = .int .i64 z ∧ Hid (wr.ownsRow w.heap.size 9 1 t (2 * (L.length - k)) (strs (turnK L k))) ∧ Hid (∀ r ∈ L.drop k, exceptB r = false) ∧ Below w.heap.size w wr) (fun _ i _ => (intOf i + 1).toNat)
      case atStart => exact ⟨L.length, (L.length : Int) - 1, Nat.le_refl _, by omega, rfl, by rw [turnK_full, Nat.sub_self]; exact World.ownsRow_nil _ _ _ _, Lib.hid (by simp), by assumption⟩
      case round =>
        obtain ⟨k, z, hk, hz, rfl, HO, HX, hbr⟩ := hrel
        by_cases hk0 : k = 0
        · subst hk0
          obtain rfl : z = -1 := by omega
          have hx := HX.out
          rw [List.drop_zero] at hx
          have hT := Txt.own HO.out (by rw [turnK_len])
          obtain ⟨ad2, c2, rfl⟩ := hT.form
          have d1 := fun W hW => cs W hW
          have d2 := fun W hW (hB : Below wr.heap.size wr W) => cs2 hx _ W hW (hT.below hB (Nat.le_refl _))
          have d3 := fun W hW => co W hW
          have d4 := fun W hW (hB : Below wr.heap.size wr W) => co2 hx _ W hW (hT.below hB (Nat.le_refl _))
          clear HO HX HC hT hx cs co cs2 co2
          go_wp2_with fail
          go_at_call 12
          refine (d1 _ hbr).mono ?_
          rintro e w3 ⟨rfl, hb3⟩
          have hbr3 := hbr.trans (hb3.mono hbr.size)
          go_wp2_with fail
          go_at_call 12
          refine (d2 _ hbr3 hb3).mono ?_
          rintro e w4 ⟨rfl, hb4⟩
          have hbr4 := hbr3.trans (hb4.mono hbr3.size)
          replace hb4 := hb3.trans (hb4.mono hb3.size)
          go_wp2_with fail
          go_at_call 15
          refine (d3 _ hbr4).mono ?_
          rintro e w5 ⟨rfl, hb5⟩
          have hbr5 := hbr4.trans (hb5.mono hbr4.size)
          replace hb5 := hb4.trans (hb5.mono hb4.size)
          go_wp2_with fail
          go_at_call 15
          refine (d4 _ hbr5 hb5).mono ?_
          rintro e w6 ⟨rfl, hb6⟩
          go_wp2_with fail
          go_ret
          exact ⟨rfl, hbr5.trans (hb6.mono hbr5.size)⟩
        · obtain ⟨m, rfl⟩ : ∃ m, k = m + 1 := ⟨k - 1, by omega⟩
          obtain rfl : z = (m : Int) := by omega
          have hm : m < L.length := by omega
          obtain ⟨a, rfl, hck⟩ := HC.out _ hbr m hm
          have hstep := turnK_step hm
          have hown := HO.out
          have hlen : 2 * (L.length - (m + 1)) + 2 = 2 * (L.length - m) := by omega
          have hst2 : strs (turnK L m) = strs (turnK L (m + 1)) ++ [.string ⟨(L[m]).toArray⟩, .string ⟨(L[m]).toArray⟩] := by rw [hstep, strs_two]
          have HX2 : Hid (exceptB L[m] = false → ∀ r ∈ L.drop m, exceptB r = false) := fun hx r hr => by
            rw [List.drop_eq_getElem_cons hm] at hr
            rcases List.mem_cons.1 hr with rfl | hr
            · exact hx
            · exact HX.out r hr
          have HS := Lib.hid hst2
          have wr1 : IntKind.i64.wrap ((m : Int) - 1) = (m : Int) - 1 := IntWalk.i64_in _ (by omega)
          clear hstep hst2 HO HX
          generalize strs (turnK L (m + 1)) = T1 at *
          generalize 2 * (L.length - (m + 1)) = n1 at *
          generalize hX : L[m] = X at *
          have hn1 : n1 + 2 ≤ 140737488351232 := by omega
          by_cases hx33 : exceptB X = true
          · cases X with
            | nil => cases hx33
            | cons x X =>
              rw [head_mark, decide_eq_true_eq] at hx33
              have hx33i : (x.toNat : Int) = 33 := by omega
              clear HX2 HS hown
              go_wp2_with fail
              go_ret
              exact ⟨rfl, by assumption⟩
          · have HX3 := Lib.hid (HX2.out (by simpa using hx33))
            clear HX2
            have hbs := hbr.size
            have hmi : 0 ≤ (m : Int) ∧ (m : Int) < (L.length : Int) := by omega
            have hhd : ∀ c r, X = c :: r → ¬ (c.toNat : Int) = 33 := fun c r e => by
              subst e
              rw [head_mark, decide_eq_true_eq] at hx33
              omega
            cases X with
            | nil =>
              clear hhd hx33
              go_wp2_with fail
              go_region_law (refine step_append_two e_str (by rfl) (.tmp 48) (.tmp 57) (by rfl) w.heap.size u5 n1 T1 (by rfl) (by first | exact hown.alloc _ | exact (hown.alloc _).drew | exact hown.drew.alloc _) wr.heap.size _ _ (by rfl) (World.cell?_alloc_at _ _ _ 0 rfl) (World.cell?_alloc_at _ _ _ 1 rfl) rfl rfl (by omega) (by omega) (by simp; omega) ?_; intro v' w2 hown2 hgr)
              all_goals
                have hgr2 : wr.grownBy w2 u5.ownBlock := grown_trans2 (grown_drew (World.grownBy_alloc wr _ _)) hgr
                have hbr2 := hbr.grown hgr2 hbs (fun g' hg' => (hown.lt g' hg').1)
                have HW2 : Hid (w2.ownsRow w.heap.size 9 1 v' (2 * (L.length - m)) (strs (turnK L m))) := by
                  show World.ownsRow _ _ _ _ _ _ _
                  rw [HS.out, ← hlen]; exact hown2
                clear hown2 hgr hgr2 hown HS hck
                go_wp2_with fail
                go_roundw
                case rel => exact ⟨m, (m : Int) - 1, by omega, by omega, by first | rfl | go_num, HW2, HX3, hbr2⟩
                case measure => first | (simp [intOf]; done) | (simp [intOf]; omega)
            | cons x X =>
              have hx33i := hhd x X rfl
              clear hhd hx33
              go_wp2_with fail
              go_region_law (refine step_append_two e_str (by rfl) (.tmp 48) (.tmp 57) (by rfl) w.heap.size u5 n1 T1 (by rfl) (by first | exact hown.alloc _ | exact (hown.alloc _).drew | exact hown.drew.alloc _) wr.heap.size _ _ (by rfl) (World.cell?_alloc_at _ _ _ 0 rfl) (World.cell?_alloc_at _ _ _ 1 rfl) rfl rfl (by omega) (by omega) (by simp; omega) ?_; intro v' w2 hown2 hgr)
              all_goals
                have hgr2 : wr.grownBy w2 u5.ownBlock := grown_trans2 (grown_drew (World.grownBy_alloc wr _ _)) hgr
                have hbr2 := hbr.grown hgr2 hbs (fun g' hg' => (hown.lt g' hg').1)
                have HW2 : Hid (w2.ownsRow w.heap.size 9 1 v' (2 * (L.length - m)) (strs (turnK L m))) := by
                  show World.ownsRow _ _ _ _ _ _ _
                  rw [HS.out, ← hlen]; exact hown2
                clear hown2 hgr hgr2 hown HS hck
                go_wp2_with fail
                go_roundw
                case rel => exact ⟨m, (m : Int) - 1, by omega, by omega, by first | rfl | go_num, HW2, HX3, hbr2⟩
                case measure => first | (simp [intOf]; done) | (simp [intOf]; omega)
end Go.Proofs.YtaijdjmkmhpmpaaGreatDoor
