/- The walks of footmanlaw01.TwinTexts and LeftTexts. -/
import Derived.Test.YtaijdjmkmhpmpaaGreatDoorGSu1
import Derived.Test.YtaijdjmkmhpmpaaGreatDoorGRP
import Derived.Laws.MakeOwn
import Derived.Deep.QuietTactic
import Derived.Test.YtaijdjmkmhpmpaaGreatDoorRows
import Derived.Below
import Derived.ChangeSame
set_option linter.unusedVariables false
set_option linter.unusedSimpArgs false
namespace Go.Proofs.YtaijdjmkmhpmpaaGreatDoor
open Go.RowKit

def spareS : List UInt8 := [115, 112, 97, 114, 101]
/-- A list of texts with one more behind it, in its spare room. -/
def Twin (w : World) (B : Nat) (v : Value) (L : List (List UInt8)) : Prop :=
  ∃ g c, v = .slice (some ⟨g, 0, none⟩) L.length c ∧ L.length < c ∧ B ≤ g ∧ g < w.heap.size ∧ (∀ (k : Nat) (hk : k < L.length), w.cell? ⟨g, k, none⟩ = some (.string ⟨(L[k]).toArray⟩)) ∧ w.cell? ⟨g, L.length, none⟩ = some (.string ⟨spareS.toArray⟩)
theorem Twin.txt {w : World} {B : Nat} {v : Value} {L : List (List UInt8)} (h : Twin w B v L) : Txt w v L := by
  obtain ⟨g, c, h1, h2, _, h3, h4, _⟩ := h
  exact .inr ⟨⟨g, 0, none⟩, c, h1, by omega, fun _ => h3, fun k hk => by rw [Addr.add_lit, Nat.zero_add]; exact h4 k hk⟩
theorem Twin.below {w W : World} {B : Nat} {v : Value} {L : List (List UInt8)} (h : Twin w B v L) (hb : Below w.heap.size w W) : Twin W B v L := by
  obtain ⟨g, c, h1, h2, h0, h3, h4, h5⟩ := h
  exact ⟨g, c, h1, h2, h0, by have := hb.size; omega, fun k hk => (hb.cell (p := ⟨g, k, none⟩) h3).trans (h4 k hk), (hb.cell (p := ⟨g, L.length, none⟩) h3).trans h5⟩

theorem make_strs (w : World) (n : Nat) (hn : n ≤ 1000000) : ∃ w', (Instr.makeSlice 22 (.int .i64 0) (.int .i64 ((n : Int) + 1))).run Tryz.prog w = .ok (.slice (some ⟨w.heap.size, 0, none⟩) 0 (n + 1)) w' ∧
    w'.ownsRow w.heap.size 9 1 (.slice (some ⟨w.heap.size, 0, none⟩) 0 (n + 1)) 0 (strs []) ∧ Below w.heap.size w w' := by
  obtain ⟨i, hi, hz, hsize, hby⟩ := e_str.hi
  obtain ⟨w', h1, h2, h3⟩ := run_make_own (P := Tryz.prog) w w.heap.size 22 9 i (.string ⟨#[]⟩) 1 Tryz.underlying22 hi hz hsize .i64 .i64 (n + 1) (by rw [hby]; omega) (by unfold maxLen; omega) (Nat.le_refl _)
  exact ⟨w', h1, h2, (Below.refl _ _).grown h3 (Nat.le_refl _) (fun k hk => by cases hk)⟩
theorem strs_snoc (l : List (List UInt8)) (p : List UInt8) : strs (l ++ [p]) = strs l ++ [.string ⟨p.toArray⟩] := by simp [strs]
theorem twin_end {w : World} {B n : Nat} {v : Value} {L : List (List UInt8)} (h : w.ownsRow B 9 1 v n (strs (L ++ [spareS]))) (hn : n = L.length + 1) : ∃ g c, v = .slice (some ⟨g, 0, none⟩) (L.length + 1) c ∧ L.length < c ∧ Twin w B (.slice (some ⟨g, 0, none⟩) L.length c) L := by
  subst hn
  rcases own_open h with ⟨_, h1, _⟩ | ⟨g, c, hv, hb, hg, hc, _, hcell⟩
  · omega
  · refine ⟨g, c, hv, by omega, g, c, rfl, by omega, hb, hg, fun k hk => ?_, ?_⟩
    · refine hcell k _ ?_
      rw [strs_get (by simp; omega), List.getElem_append_left hk]
    · refine hcell _ _ ?_
      rw [strs_get (by simp), List.getElem_append_right (Nat.le_refl _)]
      simp

set_option maxRecDepth 100000 in
set_option maxHeartbeats 2000000 in
theorem twin_any (L : List (List UInt8)) (v : Value) (w : World) (ht : Txt w v L) (hl : L.length ≤ 1000000) :
    Calls Tryz.prog 11 #[v] w fun e w' => ∃ t, e = .returned t ∧ Twin w' w.heap.size t L ∧ Below w.heap.size w w' := by
  obtain ⟨w1, hmk, hown1, hb1⟩ := make_strs w L.length hl
  rcases ht with ⟨rfl, rfl⟩ | ⟨a, c, rfl, hc, hab, hcell⟩
  · have hmk2 : (Instr.makeSlice 22 (.int .i64 0) (.int .i64 1)).run Tryz.prog w = .ok (.slice (some ⟨w.heap.size, 0, none⟩) 0 1) w1 := hmk
    replace hown1 : w1.ownsRow w.heap.size 9 1 (.slice (some ⟨w.heap.size, 0, none⟩) 0 1) 0 (strs []) := hown1
    clear hmk
    go_enter Tryz.func11, Tryz.ntmps11
    go_wp2_with fail
    go_loopw [3, 4] (fun t i wr => t = .slice (some ⟨w.heap.size, 0, none⟩) 0 1 ∧ i = .int .i64 0 ∧ wr = w1) (fun _ _ _ => 0)
    case atStart => exact ⟨rfl, rfl, rfl⟩
    case round =>
      obtain ⟨rfl, rfl, rfl⟩ := hrel
      have hown := hown1
      have hbr := hb1
      have hsn := strs_snoc [] spareS
      have HSN := Lib.hid hsn
      generalize hS : strs [] = S at *
      clear hsn
      go_wp2_with (at_builtin; refine wpList_append_vals e_str _ rfl _ _ rfl w.heap.size _ _ _ rfl hown _ _ _ rfl rfl (fun u hu => by simp only [List.mem_cons, List.not_mem_nil, or_false] at hu; rcases hu with rfl; rfl) (by first | (simp; done) | (simp; omega)) (by first | (simp; done) | (simp; omega)) hbr.size ?_)
      intro v' w2 hown2 hgr _
      have hown3 : w2.ownsRow w.heap.size 9 1 v' 1 (strs ([] ++ [spareS])) := by rw [HSN.out]; exact hown2
      have hb2 := hbr.grown hgr hbr.size (fun g' hg' => (hown.lt g' hg').1)
      obtain ⟨g, c', rfl, hlc, htw⟩ := twin_end (L := []) hown3 rfl
      clear hown2 hown3 hown hgr HSN
      go_wp2_with fail
      go_ret
      exact ⟨_, rfl, htw, hb2⟩
  · have HC := Lib.hid fun W (hW : Below w.heap.size w W) (k : Nat) (hk : k < L.length) => (hW.cell (p := a.add k) (by rw [Go.ChangeShapes.block_add]; exact hab (by omega))).trans (hcell k hk)
    clear hcell
    go_enter Tryz.func11, Tryz.ntmps11
    go_wp2_with fail
    go_loopw [3, 4] (fun t i wr => ∃ k : Nat, k ≤ L.length ∧ i = .int .i64 k ∧ Hid (wr.ownsRow w.heap.size 9 1 t k (strs (L.take k))) ∧ Below w.heap.size w wr) (fun _ i _ => L.length - (intOf i).toNat)
    case atStart => exact ⟨0, Nat.zero_le _, rfl, hown1, hb1⟩
    case round =>
      obtain ⟨k, hk, rfl, HO, hbr⟩ := hrel
      have hown := HO.out
      by_cases hlt : k < L.length
      · have hck := HC.out _ hbr k hlt
        have htk := List.take_succ_eq_append_getElem hlt
        have hsn := strs_snoc (L.take k) L[k]
        rw [← htk] at hsn
        have HSN := Lib.hid hsn
        generalize L[k] = X at *
        generalize strs (L.take k) = S at *
        clear hsn htk HO
        go_wp2_with (at_builtin; refine wpList_append_vals e_str _ rfl _ _ rfl w.heap.size _ _ _ rfl hown _ _ _ rfl rfl (fun u hu => by simp only [List.mem_cons, List.not_mem_nil, or_false] at hu; rcases hu with rfl; rfl) (by first | (simp; done) | (simp; omega)) (by first | (simp; done) | (simp; omega)) hbr.size ?_)
        intro v' w2 hown2 hgr _
        go_wp2_with fail
        go_roundw
        case rel => exact ⟨k + 1, by omega, by go_num, by rw [HSN.out]; exact hown2, hbr.grown hgr hbr.size (fun g' hg' => (hown.lt g' hg').1)⟩
        case measure => simp [intOf]; omega
      · obtain rfl : k = L.length := by omega
        rw [List.take_length] at hown
        have hsn := strs_snoc L spareS
        have HSN := Lib.hid hsn
        generalize hS : strs L = S at *
        clear hsn HO
        go_wp2_with (at_builtin; refine wpList_append_vals e_str _ rfl _ _ rfl w.heap.size _ _ _ rfl hown _ _ _ rfl rfl (fun u hu => by simp only [List.mem_cons, List.not_mem_nil, or_false] at hu; rcases hu with rfl; rfl) (by first | (simp; done) | (simp; omega)) (by first | (simp; done) | (simp; omega)) hbr.size ?_)
        intro v' w2 hown2 hgr _
        have hown3 : w2.ownsRow w.heap.size 9 1 v' (L.length + 1) (strs (L ++ [spareS])) := by rw [HSN.out]; exact hown2
        have hb2 := hbr.grown hgr hbr.size (fun g' hg' => (hown.lt g' hg').1)
        obtain ⟨g, c', rfl, hlc, htw⟩ := twin_end hown3 rfl
        clear hown2 hown3 hown hgr HSN
        go_wp2_with fail
        go_ret
        exact ⟨_, rfl, htw, hb2⟩
end Go.Proofs.YtaijdjmkmhpmpaaGreatDoor
namespace Go.Proofs.YtaijdjmkmhpmpaaGreatDoor
open Go.RowKit

theorem below_drawnN {B : Nat} {a w : World} (h : Below B a w) (k : Nat) : Below B a (w.drewN k) := ⟨h.os, h.tape, h.output, h.size, h.block⟩
set_option maxRecDepth 100000 in
set_option maxHeartbeats 2000000 in
theorem left_any (L : List (List UInt8)) (t v : Value) (w : World) (B : Nat) (htw : Twin w B t L) (ht : Txt w v L) (hl : L.length ≤ 1000000) :
    Calls Tryz.prog 14 #[t, v] w fun e w' => e = .returned (.bool true) ∧ Below w.heap.size w w' := by
  obtain ⟨g, c, rfl, hc, _, hg, hcell, hsp⟩ := htw
  have hsp2 : w.cell? ⟨g, L.length, none⟩ = some (.string ⟨#[115, 112, 97, 114, 101]⟩) := hsp
  have hv : v = .slice none 0 0 ∧ L = [] ∨ ∃ a c2, v = .slice (some a) L.length c2 ∧ ∀ (k : Nat) (hk : k < L.length), w.cell? (a.add k) = some (.string ⟨(L[k]).toArray⟩) := by
    rcases ht with h | ⟨a, c2, h1, _, _, h4⟩
    · exact .inl h
    · exact .inr ⟨a, c2, h1, h4⟩
  clear ht hsp
  have hci : ¬ (c : Int) ≤ (L.length : Int) := by omega
  rcases hv with ⟨rfl, rfl⟩ | ⟨a, c2, rfl, hcell2⟩
  · have hsp3 : w.cell? ⟨g, 0, none⟩ = some (.string ⟨#[115, 112, 97, 114, 101]⟩) := hsp2
    have hci2 : ¬ (c : Int) ≤ 0 := hci
    have hc2 : 0 < c := hc
    clear hcell hsp2
    go_enter Tryz.func14, Tryz.ntmps14
    go_wp2_with fail
    go_loop [5] (fun i => i = .int .i64 0) (fun _ => 0)
    case atStart => exact rfl
    case round =>
      obtain rfl := hrel
      go_wp2_with fail
      go_ret
      exact ⟨rfl, Below.refl _ _⟩
  · have HC := Lib.hid hcell
    have HC2 := Lib.hid hcell2
    clear hcell hcell2
    go_enter Tryz.func14, Tryz.ntmps14
    go_wp2_with fail
    go_loopw [5] (fun i wr => ∃ k q : Nat, k ≤ L.length ∧ i = .int .i64 k ∧ wr = w.drewN q) (fun i _ => L.length - (intOf i).toNat)
    case atStart => exact ⟨0, 0, Nat.zero_le _, rfl, rfl⟩
    case round =>
      obtain ⟨k, q, hk, rfl, rfl⟩ := hrel
      by_cases hlt : k < L.length
      · have hc1 := HC.out k hlt
        have hc2 := HC2.out k hlt
        generalize L[k] = X at *
        go_wp2_with fail
        go_quiet (fail)
        go_wp2_with fail
        go_roundw
        case rel => exact ⟨k + 1, _, by omega, by go_num, rfl⟩
        case measure => simp [intOf]; omega
      · obtain rfl : k = L.length := by omega
        go_wp2_with fail
        go_ret
        exact ⟨rfl, below_drawnN (Below.refl _ _) _⟩
end Go.Proofs.YtaijdjmkmhpmpaaGreatDoor
namespace Go.Proofs.YtaijdjmkmhpmpaaGreatDoor
open Go.RowKit Go.WideShapes Go.ChangeShapes
section
variable {H : Type} {enc : TypeId × Value → H} {P : Program}
theorem post_of_below {f : Func} {s : ChangeSpec} {apart fresh handsOn again : Bool} {W W' : World} {args : Array Value} {v : Value} {ds gs : List (DataW H)} {before pa pv : List MemPlace}
    (hW : DataW.Whole enc P f.params.toList s.vars apart W args.toList ds gs before)
    (hres : ∀ (b : Nat) (sp : Nat → Bool) (hd : Bool), DataW.TrodAll enc P W' b sp hd f.resultTypes.toList (v.resultList f.resultTypes.size) (s.fn H (ds ++ gs)).results [])
    (hargs : ∀ sp : Nat → Bool, (∀ p ∈ before, sp p.block = true) → DataW.TrodAll enc P W' 0 sp true f.params.toList args.toList (s.fn H (ds ++ gs)).args pa)
    (hvars : ∀ sp : Nat → Bool, (∀ p ∈ before, sp p.block = true) → DataW.TrodVars enc P W' sp s.vars (s.fn H (ds ++ gs)).vars pv)
    (hps : before = pa ++ pv) (hb : Below W.heap.size W W')
    (hok : ∀ (j : Nat) (t : TypeId) (r : Value), f.resultTypes[j]? = some t → (v.resultList f.resultTypes.size)[j]? = some r → Value.okWide P W' .any 0 t r) :
    s.post enc P f apart fresh handsOn again W args v W' := by
  have hlt : ∀ p ∈ before, p.block < W.heap.size := fun p hp => hW.lt p hp
  have hold : ∀ p ∈ before, (fun b => decide (b < W.heap.size)) p.block = true := fun p hp => by simpa using hlt p hp
  refine ⟨ds, gs, before, [], pa, pv, hW, hres _ _ _, hargs _ hold, hvars _ hold, World.keptBut_mono (fun p hp => ⟨hp, ?_⟩) (hb.frame (· ∈ before)), fun _ => ?_⟩
  · rw [hps, List.mem_append] at hp
    exact Or.inr hp
  · obtain ⟨_, _, _, _, _, hz, hn⟩ := hW
    refine ⟨hok, _, _, ([] ++ pa) ++ pv, ⟨[] ++ pa, pv, trodAll_append (hargs _ (fun _ _ => rfl)) (hres _ _ _), hvars _ (fun _ _ => rfl), rfl, ?_, ?_⟩, ?_⟩
    · intro b off hp
      have hin : MemPlace.cell b off ∈ before := by rw [hps]; simpa using hp
      rw [hb.frozen (hlt _ hin)]
      exact hz b off hin
    · intro ha
      have := hn ha
      rw [hps] at this
      simpa using this
    · intro p hp _
      rw [hps]
      simpa using hp
end
end Go.Proofs.YtaijdjmkmhpmpaaGreatDoor
namespace Go.Proofs.YtaijdjmkmhpmpaaGreatDoor
open Go.RowKit

/-- More than is gone through. -/
def greatB (L : List (List UInt8)) (h : List UInt8) : Bool := decide (2000 < L.length) || (decide (50000 < textsN L) || decide (1000 < h.length))
set_option maxRecDepth 100000 in
theorem great_any (L : List (List UInt8)) (v : Value) (h : List UInt8) (w : World) (ht : Txt w v L) (hl : L.length ≤ 140737488351232) (hs : ∀ p ∈ L, p.length ≤ 140737488351232) (hh : h.length ≤ 140737488351232) :
    Calls Tryz.prog 10 #[v, .string ⟨h.toArray⟩] w fun e w' => e = .returned (.bool (greatB L h)) ∧ w' = w := by
  have hm : greatB L h = (decide (2000 < L.length) || (decide (50000 < textsN L) || decide (1000 < h.length))) := rfl
  have ct := texts_size_any L v w ht hl hs
  have hv : v = .slice none 0 0 ∧ L.length = 0 ∨ ∃ a c, v = .slice (some a) L.length c := by
    rcases ht with ⟨h1, h2⟩ | ⟨a, c, h1, _⟩
    · exact .inl ⟨h1, by rw [h2]; rfl⟩
    · exact .inr ⟨a, c, h1⟩
  clear ht
  generalize textsN L = N at *
  have e1 : (2000 : Int) < (L.length : Int) ↔ 2000 < L.length := by omega
  have e2 : (50000 : Int) < (N : Int) ↔ 50000 < N := by omega
  have e3 : (1000 : Int) < (h.length : Int) ↔ 1000 < h.length := by omega
  by_cases h1 : 2000 < L.length
  · rw [decide_eq_true h1] at hm
    have HM := Lib.hid hm
    have h1i := e1.2 h1
    clear hm e1 e2 e3 ct
    rcases hv with ⟨rfl, h0⟩ | ⟨a, c, rfl⟩
    · omega
    · go_enter Tryz.func10, Tryz.ntmps10
      go_wp2_with fail
      go_ret
      exact ⟨ret_bool (by rw [HM.out]; rfl), rfl⟩
  · rw [decide_eq_false h1] at hm
    have h1i : ¬ (2000 : Int) < (L.length : Int) := by omega
    by_cases h2 : 50000 < N <;> by_cases h3 : 1000 < h.length
    all_goals
      have h2i := e2
      have h3i := e3
      simp only [h2, h3, iff_true, iff_false] at h2i h3i
      simp only [h2, h3, decide_true, decide_false] at hm
      have HM := Lib.hid hm
      clear hm e1 e2 e3
      rcases hv with ⟨rfl, h0⟩ | ⟨a, c, rfl⟩
      all_goals
        go_enter Tryz.func10, Tryz.ntmps10
        go_wp2_with fail
        go_at_call 22
        refine ct.mono ?_
        rintro e w1 ⟨rfl, rfl⟩
        go_wp2_with fail
        go_ret
        exact ⟨ret_bool (by rw [HM.out]; simp [*]), rfl⟩
theorem great_no {L : List (List UInt8)} {h : List UInt8} (hg : greatB L h = false) : L.length ≤ 2000 ∧ sumT L ≤ 50000 ∧ (∀ p ∈ L, p.length ≤ 50000) ∧ h.length ≤ 1000 := by
  unfold greatB at hg
  simp only [Bool.or_eq_false_iff, decide_eq_false_iff_not] at hg
  obtain ⟨h1, h2, h3⟩ := hg
  have hs := textsN_sum (L := L) (by omega)
  exact ⟨by omega, by omega, fun p hp => by have := sumT_mem hp; omega, by omega⟩
end Go.Proofs.YtaijdjmkmhpmpaaGreatDoor
