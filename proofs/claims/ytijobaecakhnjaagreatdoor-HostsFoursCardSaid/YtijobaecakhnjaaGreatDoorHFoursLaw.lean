/- The law HostsFours walked. -/
import Derived.Test.YtijobaecakhnjaaGreatDoorHAlive
import Derived.Test.YtijobaecakhnjaaGreatDoorPost
import Derived.Test.YtijobaecakhnjaaGreatDoorOpen
import Derived.Test.YtijobaecakhnjaaGreatDoorGText
set_option linter.unusedVariables false
set_option linter.unusedSimpArgs false
namespace Go.Proofs.YtijobaecakhnjaaGreatDoor
open Go.RowKit
theorem br_join (b : List UInt8) : (ByteArray.mk #[91]) ++ (ByteArray.mk b.toArray) = ByteArray.mk (91 :: b).toArray := ba_join [91] b
theorem br_behind (a : List UInt8) : (ByteArray.mk a.toArray) ++ (ByteArray.mk #[93]) = ByteArray.mk (a ++ [93]).toArray := ba_join a [93]
attribute [local go_sem] br_join br_behind ba_append

/-- Four bytes in brackets are no host. -/
theorem four_inside {a b c d : Nat} (ha : a < 256) (hb : b < 256) (hc : c < 256) (hd : d < 256) : hostL (91 :: text4 [a, b, c, d] ++ [93]) = none := by
  have hdig : ∀ v : Fin 256, ∀ x ∈ dec8 v.val, x ≠ 58 := by decide +kernel
  have h58 : (58 : UInt8) ∉ text4 [a, b, c, d] := fun hm => by
    refine join_all (P := fun c => c ≠ 58) (by decide) ?_ 58 hm rfl
    intro u hu
    obtain ⟨k, hk, rfl⟩ := List.mem_map.1 hu
    have : k < 256 := by simp at hk; omega
    exact hdig ⟨k, this⟩
  have h46 : (46 : UInt8) ∈ text4 [a, b, c, d] := by
    rw [text4_cons, joinL_cons (by simp)]
    simp
  unfold hostL
  rw [if_pos (by rfl)]
  unfold inL
  have e1 : (91 :: text4 [a, b, c, d] ++ [93]).tail = text4 [a, b, c, d] ++ [93] := rfl
  rw [e1, if_pos (by simp), List.dropLast_concat, six_four h46 h58]
theorem four_all {a b c d : Nat} (ha : a < 256) (hb : b < 256) (hc : c < 256) (hd : d < 256) : hostL (text4 [a, b, c, d]) = some (text4 [a, b, c, d]) ∧ machineL (text4 [a, b, c, d]) = true ∧ (text4 [a, b, c, d]).length ≤ 15 := by
  obtain ⟨h1, h2, _⟩ := text4_four ha hb hc hd
  have e : bytes4 (((a * 256 + b) * 256 + c) * 256 + d) = [a, b, c, d] := by
    unfold bytes4
    simp only [List.cons.injEq, and_true]
    omega
  have hn : ((a * 256 + b) * 256 + c) * 256 + d < 4294967296 := by omega
  have hh := host_text4 hn
  rw [e] at hh
  refine ⟨hh, ?_, h2⟩
  unfold machineL
  rw [h1]
  simp
theorem wpList_load_row_at {P : Program} {ops : Array Oper} {rest : List Oper} {o : Oper} {a : Act} {w : World} {Q : Exit → Act → World → Prop} (hw : Region.wanted o (yielded ops a.tmps) = true) (ty : TypeId) (x : Operand) (ho : o.op = .load ty x)
    (g : Nat) (hx : a.eval x = .pointer (some ⟨g, 0, none⟩)) (t : TypeId) (cs : Array Value) (fr : Nat × Nat) (d : TypeDesc) (hg : w.heap[g]? = some (.cells cs t fr))
    (hu : P.underlying ty = some d) (hd : (match d with | .struct _ | .array _ _ => true | _ => false) = true) (hi : (P.info? ty).map (·.size) = some cs.size)
    (h : wpList P ops Q rest (a.put o.dst (.agg cs)) w) : wpList P ops Q (o :: rest) a w :=
  wpList_step fun K hK => by
    rw [if_pos hw]
    exact wp_load_row ty x ho g hx t cs fr d hg hu hd hi (hK _ _ h)
abbrev ad4 (x0 x1 x2 x3 : UInt8) : List UInt8 := [x0, x1, x2, x3, 0, 0, 0, 0, 0, 0, 0, 0, 0, 0, 0, 0]

set_option maxRecDepth 100000 in
set_option maxHeartbeats 8000000 in
theorem hfours_law (x0 x1 x2 x3 : UInt8) (s : List UInt8) (w : World) (hm : s.length ≤ 140737488351232) (hE : EnvH w) :
    Calls Tryz.prog 9 #[.agg #[.int .u8 (x0.toNat : Int), .int .u8 (x1.toNat : Int), .int .u8 (x2.toNat : Int), .int .u8 (x3.toNat : Int)], .string ⟨s.toArray⟩] w fun e w' => e = .returned (.bool true) ∧ Below w.heap.size w w' := by
  have hB := Blk.new w 51 #[.int .u8 (x0.toNat : Int), .int .u8 (x1.toNat : Int), .int .u8 (x2.toNat : Int), .int .u8 (x3.toNat : Int)]
  have hbw := (Below.refl w.heap.size w).alloc (Nat.le_refl _) (.cells #[.int .u8 (x0.toNat : Int), .int .u8 (x1.toNat : Int), .int .u8 (x2.toNat : Int), .int .u8 (x3.toNat : Int)] 51)
  have hsz : (w.alloc (.cells #[.int .u8 (x0.toNat : Int), .int .u8 (x1.toNat : Int), .int .u8 (x2.toNat : Int), .int .u8 (x3.toNat : Int)] 51)).heap.size = w.heap.size + 1 := World.size_alloc _ _
  by_cases h0 : 1000 < s.length
  · have ca := lift_h w hE (fun W hEW => halive_any W hEW)
    go_enter Tryz.func9, Tryz.ntmps9
    go_wp2_with (go_at_call 20; refine (ca _ (by assumption)).mono ?_; rintro e w1 ⟨rfl, hb1⟩)
    go_ret
    exact ⟨rfl, by assumption⟩
  · have hE0 := hE.below hbw
    go_enter Tryz.func9, Tryz.ntmps9
    go_wp2_with fail
    generalize (w.alloc (.cells #[.int .u8 (x0.toNat : Int), .int .u8 (x1.toNat : Int), .int .u8 (x2.toNat : Int), .int .u8 (x3.toNat : Int)] 51)) = w0 at *
    have hbw0 := Below.refl w0.heap.size w0
    have ca := lift_h w0 hE0 (fun W hEW => halive_any W hEW)
    go_at_call 20
    refine (ca _ hbw0).mono ?_
    rintro e w1 ⟨rfl, hb1⟩
    have hB1 := hB.below hb1 (by omega)
    have c0 := hB1.cell 0
    have c1 := hB1.cell 1
    have c2 := hB1.cell 2
    have c3 := hB1.cell 3
    simp only [List.getElem?_toArray, List.getElem?_cons_zero, List.getElem?_cons_succ] at c0 c1 c2 c3
    have hE1 := hE0.below hb1
    have hb1w : Below w.heap.size w w1 := hbw.trans (hb1.mono hbw.size)
    obtain ⟨n1, n2, n3, n4⟩ : x0.toNat < 256 ∧ x1.toNat < 256 ∧ x2.toNat < 256 ∧ x3.toNat < 256 := ⟨x0.toNat_lt, x1.toNat_lt, x2.toNat_lt, x3.toNat_lt⟩
    obtain ⟨f1, f2, f3⟩ := four_all n1 n2 n3 n4
    have f4 := four_inside n1 n2 n3 n4
    have hBl : (ad4 x0 x1 x2 x3).length = 16 := rfl
    have hi := adC_info false hBl
    have hz := zeroA_size false hBl
    have h1 := adC_one false (ad4 x0 x1 x2 x3)
    have ct : ∀ W, Pow10 W → Calls Tryz.prog 27 #[.agg (adC false (ad4 x0 x1 x2 x3))] W fun e w' => e = .returned (.string ⟨(text4 [x0.toNat, x1.toNat, x2.toNat, x3.toNat]).toArray⟩) ∧ Below W.heap.size W w' := fun W hp => text_four (ad4 x0 x1 x2 x3) hBl W hp
    have hB2 : adC false (ad4 x0 x1 x2 x3) = #[.bool false, .int .u8 (x0.toNat : Int), .int .u8 (x1.toNat : Int), .int .u8 (x2.toNat : Int), .int .u8 (x3.toNat : Int), .int .u8 0, .int .u8 0, .int .u8 0, .int .u8 0, .int .u8 0, .int .u8 0, .int .u8 0, .int .u8 0, .int .u8 0, .int .u8 0, .int .u8 0, .int .u8 0] := rfl
    rw [hB2] at ct hi hz h1
    clear hB hb1 hbw hbw0 ca hB1 hsz
    generalize text4 [x0.toNat, x1.toNat, x2.toNat, x3.toNat] = T at *
    have hs1 : ¬ 9223372036854775807 < 1 + T.length := by omega
    have hs2 : ¬ 9223372036854775807 < (91 :: T).length + 1 := by simp; omega
    have hb2 : Below w.heap.size w (w1.alloc (.cells (#[.bool false, .int .u8 (x0.toNat : Int), .int .u8 (x1.toNat : Int), .int .u8 (x2.toNat : Int), .int .u8 (x3.toNat : Int), .int .u8 0, .int .u8 0, .int .u8 0, .int .u8 0, .int .u8 0, .int .u8 0, .int .u8 0, .int .u8 0, .int .u8 0, .int .u8 0, .int .u8 0, .int .u8 0] : Array Value) 47)) := hb1w.alloc hb1w.size _
    have ct2 := ct _ (hE.below hb2).pow
    go_wp2_with fail
    go_at_call 27
    refine ct2.mono ?_
    rintro e w3 ⟨rfl, hb3'⟩
    have hb3 := hb2.trans (hb3'.mono hb2.size)
    clear hb2 hb3' ct2 c0 c1 c2 c3 hi hz h1 ct hB2
    have cp := lift_h w hE (fun W hEW => hparse_any (91 :: (T ++ [93])) W hEW (by simp; omega))
    have f4' : hostL (91 :: (T ++ [93])) = none := f4
    rw [f4'] at cp
    simp only [optV] at cp
    have cf := lift_h w hE (fun W hEW => four_any s W hEW.t.env (by omega))
    have ci := his_yes f1 (by omega) w hE
    have cm := lift_h w hE (fun W hEW => machine_any T W hEW.t.env (by omega))
    rw [f2] at cm
    have fh : ∀ n, s.length ≤ 63 → fourL s = (true, 0, n) → hostL s = some (text4 (bytes4 n)) := fun n h1 h2 => four_host h1 h2
    generalize fourL s = q at *
    obtain ⟨lk, er, n⟩ := q
    rw [fourV_mk, addrV_adC] at cf
    simp only at cf
    have ct : ∀ W, Pow10 W → Calls Tryz.prog 27 #[.agg (adC false (b16 n))] W fun e w' => e = .returned (.string ⟨(text4 (bytes4 n)).toArray⟩) ∧ Below W.heap.size W w' := fun W hp => by
      have := text_four (b16 n) (b16_len n) W hp
      rwa [b16_four] at this
    have hi := adC_info false (b16_len n)
    have hz := zeroA_size false (b16_len n)
    have h1 := adC_one false (b16 n)
    have f4s : hostL s = some (text4 (bytes4 n)) → s.length ≤ 63 → ∀ W, Below w.heap.size w W → Calls Tryz.prog 21 #[.string ⟨s.toArray⟩, .string ⟨(text4 (bytes4 n)).toArray⟩] W fun e W' => e = .returned (.bool true) ∧ Below w.heap.size w W' := fun h h63 => his_yes h (by omega) w hE
    have fh2 : s.length ≤ 63 → lk = true → er = 0 → hostL s = some (text4 (bytes4 n)) := fun h1 h2 h3 => fh n h1 (by rw [h2, h3])
    clear fh
    generalize b16 n = B at *
    generalize text4 (bytes4 n) = N at *
    clear f1 f2 f4 f4'
    by_cases hc : s.length ≤ 63 ∧ lk = true ∧ er = 0
    · obtain ⟨h63, rfl, rfl⟩ := hc
      have cis := f4s (fh2 h63 rfl rfl) h63
      clear f4s fh2
      go_wp2_with fail
      go_at_call 18
      refine (cp _ (by assumption)).mono ?_
      rintro e w4 ⟨rfl, hb4⟩
      go_wp2_with fail
      go_at_call 26
      refine (cf _ (by assumption)).mono ?_
      rintro e w5 ⟨rfl, hb5⟩
      have hh : ((w5.alloc (.cells zeroA 47)).setRow w5.heap.size (adC false B)).heap[w5.heap.size]? = some (.cells (adC false B) 47 (0, 0)) := setRow_heap _ _ _ _ _ _ (heap_alloc_new w5 _)
      have hb6 : Below w.heap.size w ((w5.alloc (.cells zeroA 47)).setRow w5.heap.size (adC false B)) := below_row (hb5.alloc hb5.size _) hb5.size _
      have ct2 := ct _ (hE.pow.below hb6)
      go_wp2_with (first | (refine wpList_store_row (o := ⟨none, .store 47 (.tmp 9) (.tmp 42), _, _, _, _⟩) rfl 47 (.tmp 9) _ rfl w5.heap.size (adC false B) rfl rfl 47 zeroA (heap_alloc_new w5 _) hi hz h1 ?_) | (refine wpList_load_row_at (o := ⟨some 57, .load 47 (.tmp 9), _, _, _, _⟩) rfl 47 (.tmp 9) rfl w5.heap.size rfl 47 (adC false B) (0, 0) _ hh Tryz.underlying47 rfl hi ?_))
      go_at_call 27
      refine ct2.mono ?_
      rintro e w7 ⟨rfl, hb7'⟩
      have hb7 := hb6.trans (hb7'.mono hb6.size)
      go_wp2_with fail
      go_at_call 21
      refine (cis _ (by assumption)).mono ?_
      rintro e w8 ⟨rfl, hb8⟩
      go_wp2_with fail
      go_at_call 21
      refine (ci _ (by assumption)).mono ?_
      rintro e w9 ⟨rfl, hb9⟩
      go_wp2_with fail
      go_at_call 14
      refine (cm _ (by assumption)).mono ?_
      rintro e w10 ⟨rfl, hb10⟩
      go_wp2_with fail
      go_ret
      exact ⟨rfl, by assumption⟩
    · clear f4s fh2 ct
      by_cases h63 : s.length ≤ 63 <;> by_cases her : er = 0 <;> cases lk <;> first | (exfalso; exact hc ⟨by assumption, rfl, by assumption⟩) | skip
      all_goals
        clear hc
        first | subst her | (have heri : ¬ (er : Int) = 0 := by omega)
        go_wp2_with fail
        go_at_call 18
        refine (cp _ (by assumption)).mono ?_
        rintro e w4 ⟨rfl, hb4⟩
        go_wp2_with fail
        go_at_call 26
        refine (cf _ (by assumption)).mono ?_
        rintro e w5 ⟨rfl, hb5⟩
        have hb6 : Below w.heap.size w ((w5.alloc (.cells zeroA 47)).setRow w5.heap.size (adC false B)) := below_row (hb5.alloc hb5.size _) hb5.size _
        go_wp2_with (refine wpList_store_row (o := ⟨none, .store 47 (.tmp 9) (.tmp 42), _, _, _, _⟩) rfl 47 (.tmp 9) _ rfl w5.heap.size (adC false B) rfl rfl 47 zeroA (heap_alloc_new w5 _) hi hz h1 ?_)
        go_at_call 21
        refine (ci _ (by assumption)).mono ?_
        rintro e w9 ⟨rfl, hb9⟩
        go_wp2_with fail
        go_at_call 14
        refine (cm _ (by assumption)).mono ?_
        rintro e w10 ⟨rfl, hb10⟩
        go_wp2_with fail
        go_ret
        exact ⟨rfl, by assumption⟩
end Go.Proofs.YtijobaecakhnjaaGreatDoor
