/- The walks of footmanlaw01.TwinTexts and LeftTexts. -/
import Derived.Test.YtaijdjmkmhpmpaaDoorTextArg
import Derived.Test.YtaijdjmkmhpmpaaDoorPartsD
import Derived.Laws.MakeOwn
set_option linter.unusedVariables false
set_option linter.unusedSimpArgs false
namespace Go.Proofs.YtaijdjmkmhpmpaaDoor
open Go.RowKit

def spareS : List UInt8 := [115, 112, 97, 114, 101]
/-- A list of texts with one more behind it, in its spare room. -/
def Twin (w : World) (B : Nat) (v : Value) (L : List (List UInt8)) : Prop :=
  ∃ g c, v = .slice (some ⟨g, 0, none⟩) L.length c ∧ L.length < c ∧ B ≤ g ∧ g < w.heap.size ∧ (∀ (k : Nat) (hk : k < L.length), w.cell? ⟨g, k, none⟩ = some (.string ⟨(L[k]).toArray⟩)) ∧ w.cell? ⟨g, L.length, none⟩ = some (.string ⟨spareS.toArray⟩)
theorem Twin.txt {w : World} {B : Nat} {v : Value} {L : List (List UInt8)} (h : Twin w B v L) : Txt w v L := by
  obtain ⟨g, c, h1, h2, _, h3, h4, _⟩ := h
  exact .inr ⟨⟨g, 0, none⟩, c, h1, by omega, fun _ => h3, fun k hk => by rw [Addr.add_lit, Nat.zero_add]; exact h4 k hk⟩
theorem Twin.below {w W : World} {B : Nat} {v : Value} {L : List (List UInt8)} (h : Twin w B v L) (hb : Below w.heap.size w W) : Twin W B v L := by
  obtain ⟨g, c, h1, h2, h0, h3, h4, h5⟩ := h
  exact ⟨g, c, h1, h2, h0, by have := hb.size; omega, fun k hk => (hb.cell (p := ⟨g, k, none⟩) h3).trans (h4 k hk), (hb.cell (p := ⟨g, L.length, none⟩) h3).trans h5⟩

theorem make_strs (w : World) (n : Nat) (hn : n ≤ 1000000) : ∃ w', (Instr.makeSlice 22 (.int .i64 0) (.int .i64 ((n : Int) + 1))).run Tryd.prog w = .ok (.slice (some ⟨w.heap.size, 0, none⟩) 0 (n + 1)) w' ∧
    w'.ownsRow w.heap.size 9 1 (.slice (some ⟨w.heap.size, 0, none⟩) 0 (n + 1)) 0 (strs []) ∧ Below w.heap.size w w' := by
  obtain ⟨i, hi, hz, hsize, hby⟩ := e_str.hi
  obtain ⟨w', h1, h2, h3⟩ := run_make_own (P := Tryd.prog) w w.heap.size 22 9 i (.string ⟨#[]⟩) 1 Tryd.underlying22 hi hz hsize .i64 .i64 (n + 1) (by rw [hby]; omega) (by unfold maxLen; omega) (Nat.le_refl _)
  exact ⟨w', h1, h2, (Below.refl _ _).grown h3 (Nat.le_refl _) (fun k hk => by cases hk)⟩
theorem strs_snoc (l : List (List UInt8)) (p : List UInt8) : strs (l ++ [p]) = strs l ++ [.string ⟨p.toArray⟩] := by simp [strs]
theorem twin_end {w : World} {B n : Nat} {v : Value} {L : List (List UInt8)} (h : w.ownsRow B 9 1 v n (strs (L ++ [spareS]))) (hn : n = L.length + 1) : ∃ g c, v = .slice (some ⟨g, 0, none⟩) (L.length + 1) c ∧ L.length < c ∧ Twin w B (.slice (some ⟨g, 0, none⟩) L.length c) L := by
  subst hn
  rcases own_open h with ⟨_, h1, _⟩ | ⟨g, c, hv, hb, hg, hc, _, hcell⟩
  · omega
  · refine ⟨g, c, hv, by omega, g, c, rfl, by omega, hb, hg, fun k hk => ?_, ?_⟩
    · refine hcell k _ ?_
      rw [strs_get (by simp; omega), List.getElem_append_left hk]
    · refine hcell _ _ ?_
      rw [strs_get (by simp), List.getElem_append_right (Nat.le_refl _)]
      simp

set_option maxRecDepth 100000 in
set_option maxHeartbeats 2000000 in
theorem twin_any (L : List (List UInt8)) (v : Value) (w : World) (ht : Txt w v L) (hl : L.length ≤ 1000000) :
    Calls Tryd.prog 5 #[v] w fun e w' => ∃ t, e = .returned t ∧ Twin w' w.heap.size t L ∧ Below w.heap.size w w' := by
  obtain ⟨w1, hmk, hown1, hb1⟩ := make_strs w L.length hl
  rcases ht with ⟨rfl, rfl⟩ | ⟨a, c, rfl, hc, hab, hcell⟩
  · have hmk2 : (Instr.makeSlice 22 (.int .i64 0) (.int .i64 1)).run Tryd.prog w = .ok (.slice (some ⟨w.heap.size, 0, none⟩) 0 1) w1 := hmk
    replace hown1 : w1.ownsRow w.heap.size 9 1 (.slice (some ⟨w.heap.size, 0, none⟩) 0 1) 0 (strs []) := hown1
    clear hmk
    go_enter Tryd.func5, Tryd.ntmps5
    go_wp2_with fail
    go_loopw [3, 4] (fun t i wr => t = .slice (some ⟨w.heap.size, 0, none⟩) 0 1 ∧ i = .int .i64 0 ∧ wr = w1) (fun _ _ _ => 0)
    case atStart => exact ⟨rfl, rfl, rfl⟩
    case round =>
      obtain ⟨rfl, rfl, rfl⟩ := hrel
      have hown := hown1
      have hbr := hb1
      have hsn := strs_snoc [] spareS
      have HSN := Lib.hid hsn
      generalize hS : strs [] = S at *
      clear hsn
      go_wp2_with (at_builtin; refine wpList_append_vals e_str _ rfl _ _ rfl w.heap.size _ _ _ rfl hown _ _ _ rfl rfl (fun u hu => by simp only [List.mem_cons, List.not_mem_nil, or_false] at hu; rcases hu with rfl; rfl) (by first | (simp; done) | (simp; omega)) (by first | (simp; done) | (simp; omega)) hbr.size ?_)
      intro v' w2 hown2 hgr _
      have hown3 : w2.ownsRow w.heap.size 9 1 v' 1 (strs ([] ++ [spareS])) := by rw [HSN.out]; exact hown2
      have hb2 := hbr.grown hgr hbr.size (fun g' hg' => (hown.lt g' hg').1)
      obtain ⟨g, c', rfl, hlc, htw⟩ := twin_end (L := []) hown3 rfl
      clear hown2 hown3 hown hgr HSN
      go_wp2_with fail
      go_ret
      exact ⟨_, rfl, htw, hb2⟩
  · have HC := Lib.hid fun W (hW : Below w.heap.size w W) (k : Nat) (hk : k < L.length) => (hW.cell (p := a.add k) (by rw [Go.ChangeShapes.block_add]; exact hab (by omega))).trans (hcell k hk)
    clear hcell
    go_enter Tryd.func5, Tryd.ntmps5
    go_wp2_with fail
    go_loopw [3, 4] (fun t i wr => ∃ k : Nat, k ≤ L.length ∧ i = .int .i64 k ∧ Hid (wr.ownsRow w.heap.size 9 1 t k (strs (L.take k))) ∧ Below w.heap.size w wr) (fun _ i _ => L.length - (intOf i).toNat)
    case atStart => exact ⟨0, Nat.zero_le _, rfl, hown1, hb1⟩
    case round =>
      obtain ⟨k, hk, rfl, HO, hbr⟩ := hrel
      have hown := HO.out
      by_cases hlt : k < L.length
      · have hck := HC.out _ hbr k hlt
        have htk := List.take_succ_eq_append_getElem hlt
        have hsn := strs_snoc (L.take k) L[k]
        rw [← htk] at hsn
        have HSN := Lib.hid hsn
        generalize L[k] = X at *
        generalize strs (L.take k) = S at *
        clear hsn htk HO
        go_wp2_with (at_builtin; refine wpList_append_vals e_str _ rfl _ _ rfl w.heap.size _ _ _ rfl hown _ _ _ rfl rfl (fun u hu => by simp only [List.mem_cons, List.not_mem_nil, or_false] at hu; rcases hu with rfl; rfl) (by first | (simp; done) | (simp; omega)) (by first | (simp; done) | (simp; omega)) hbr.size ?_)
        intro v' w2 hown2 hgr _
        go_wp2_with fail
        go_roundw
        case rel => exact ⟨k + 1, by omega, by go_num, by rw [HSN.out]; exact hown2, hbr.grown hgr hbr.size (fun g' hg' => (hown.lt g' hg').1)⟩
        case measure => simp [intOf]; omega
      · obtain rfl : k = L.length := by omega
        rw [List.take_length] at hown
        have hsn := strs_snoc L spareS
        have HSN := Lib.hid hsn
        generalize hS : strs L = S at *
        clear hsn HO
        go_wp2_with (at_builtin; refine wpList_append_vals e_str _ rfl _ _ rfl w.heap.size _ _ _ rfl hown _ _ _ rfl rfl (fun u hu => by simp only [List.mem_cons, List.not_mem_nil, or_false] at hu; rcases hu with rfl; rfl) (by first | (simp; done) | (simp; omega)) (by first | (simp; done) | (simp; omega)) hbr.size ?_)
        intro v' w2 hown2 hgr _
        have hown3 : w2.ownsRow w.heap.size 9 1 v' (L.length + 1) (strs (L ++ [spareS])) := by rw [HSN.out]; exact hown2
        have hb2 := hbr.grown hgr hbr.size (fun g' hg' => (hown.lt g' hg').1)
        obtain ⟨g, c', rfl, hlc, htw⟩ := twin_end hown3 rfl
        clear hown2 hown3 hown hgr HSN
        go_wp2_with fail
        go_ret
        exact ⟨_, rfl, htw, hb2⟩
end Go.Proofs.YtaijdjmkmhpmpaaDoor
