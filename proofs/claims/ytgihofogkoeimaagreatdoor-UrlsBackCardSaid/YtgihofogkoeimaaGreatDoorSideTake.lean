/- The walk of addrs.side's take. -/
import Derived.Test.YtgihofogkoeimaaGreatDoorGSide
import Derived.Test.YtgihofogkoeimaaGreatDoorGCnt
set_option linter.unusedVariables false
set_option linter.unusedSimpArgs false
namespace Go.Proofs.YtgihofogkoeimaaGreatDoor
open Go.RowKit
theorem piece_any (W0 : World) (base b : Nat) (last : Bool) (L s : List UInt8) (w : World) (hE : Env W0) (hS : Side W0 base b last L w) (hL : L.length ≤ 1000000000) (hs : s.length ≤ 900000000) :
  Calls Tryz.prog 99 #[.pointer (some ⟨b, 0, none⟩), .string ⟨s.toArray⟩] w (SidePost W0 base b last L (pieceN s) w) := by
 have cc := fun W (hW : Below W0.heap.size W0 W) => count_16 s W (hE.below hW) (by omega)
 unfold pieceN
 cases hc : cntL 16 s with
 | none =>
  rw [hc] at cc
  refine (piece_no W0 b s w 0 false (.inl rfl) hS.low cc).mono ?_
  rintro e w' ⟨rfl, hb⟩
  exact ⟨false, _, rfl, hS.below hb, But.below hb hS.hw, Keep.below hb, rfl⟩
 | some n =>
  rw [hc] at cc
  by_cases h : s = [] ∨ 4 < s.length
  ·refine (piece_no W0 b s w n true (.inr h) hS.low cc).mono ?_
   rintro e w' ⟨rfl, hb⟩
   exact ⟨false, _, rfl, hS.below hb, But.below hb hS.hw, Keep.below hb, by simp only [if_pos h]⟩
  ·refine (piece_ok W0 base b last L s w n (cnt_16_4 hc (by omega)) (fun e => h (.inl e)) (by omega) hS hL cc).mono ?_
   rintro e w' ⟨rfl, h1, h2, h3⟩
   exact ⟨true, _, rfl, h1, h2, h3, by simp only [if_neg h]; exact ⟨trivial, trivial⟩⟩
theorem piecesN_step {fin : Bool} {P : List (List UInt8)} {done r : List UInt8} {k : Nat} (hk : k < P.length) (H : piecesN fin P = match piecesN fin (P.drop k) with | none => none | some t => some (done ++ t)) (h : pieceN P[k] = some r) :
  piecesN fin P = match piecesN fin (P.drop (k + 1)) with | none => none | some t => some ((done ++ r) ++ t) := by
 rw [H, List.drop_eq_getElem_cons hk, piecesN, h]
 cases piecesN fin (P.drop (k + 1)) with
 | none => rfl
 | some t => simp
theorem piecesN_stop {fin : Bool} {P : List (List UInt8)} {done : List UInt8} {k : Nat} (hk : k < P.length) (H : piecesN fin P = match piecesN fin (P.drop k) with | none => none | some t => some (done ++ t)) (h : pieceN P[k] = none) (h2 : k + 1 < P.length ∨ (46 : UInt8) ∉ P[k]) : piecesN fin P = none := by
 rw [H, List.drop_eq_getElem_cons hk, piecesN, h]
 have : (if fin = true ∧ P.drop (k + 1) = [] then fourB P[k] else none) = none := by
  rcases h2 with h2 | h2
  ·rw [if_neg]
   rintro ⟨_, h3⟩
   have := List.drop_eq_nil_iff.1 h3
   omega
  ·rw [four_point h2]; split <;> rfl
 simp only [this]
theorem piecesN_last {fin : Bool} {P : List (List UInt8)} {done : List UInt8} {k : Nat} (hk : k < P.length) (H : piecesN fin P = match piecesN fin (P.drop k) with | none => none | some t => some (done ++ t)) (hl : k + 1 = P.length) (h2 : (46 : UInt8) ∈ P[k]) :
  piecesN fin P = match sfourO fin P[k] with | none => none | some t => some (done ++ t) := by
 rw [H, List.drop_eq_getElem_cons hk, piecesN, piece_point h2, List.drop_of_length_le (by omega)]
 unfold sfourO
 cases fin <;> simp
theorem idx46 (x : List UInt8) : Lib.indexByte x 46 = -1 ↔ (46 : UInt8) ∉ x := by
 constructor
 ·intro h hm
  obtain ⟨k, hk, hk2⟩ := List.getElem_of_mem hm
  exact Lib.indexByte_none h k (by rw [List.getElem?_eq_getElem hk, hk2])
 ·intro hm
  apply Classical.byContradiction
  intro h
  have hge := Lib.indexByte_ge x 46
  obtain ⟨o, ho⟩ : ∃ o : Nat, Lib.indexByte x 46 = o := ⟨(Lib.indexByte x 46).toNat, by omega⟩
  obtain ⟨h1, _⟩ := Lib.indexByte_some ho
  obtain ⟨hlt, hc⟩ := List.getElem?_eq_some_iff.1 h1
  exact hm (hc ▸ List.getElem_mem hlt)
theorem contains46 (x : List UInt8) : Lib.contains x [46] = decide ((46 : UInt8) ∈ x) := by
 have h := idx46 x
 have h2 := Lib.indexByte_ge x 46
 unfold Lib.contains
 rw [Lib.index_one]
 by_cases hm : (46 : UInt8) ∈ x
 ·have : ¬ Lib.indexByte x 46 = -1 := fun e => h.1 e hm
  simp [hm]
  omega
 ·rw [h.2 hm]
  simp [hm]
set_option maxRecDepth 100000 in
set_option maxHeartbeats 2000000 in
theorem take_any (W0 : World) (base b : Nat) (last : Bool) (s : List UInt8) (w : World) (hE : Env W0) (hp : Pow10 W0) (hS : Side W0 base b last [] w) (hs : s.length ≤ 200000000) :
  Calls Tryz.prog 69 #[.pointer (some ⟨b, 0, none⟩), .string ⟨s.toArray⟩] w (SidePost W0 base b last [] (sideN last s) w) := by
 by_cases h0 : s = []
 ·subst h0
  have hfin : SidePost W0 base b last [] (sideN last []) w (.returned (.bool true)) w := ⟨true, _, rfl, hS, But.refl _ _ _, Keep.refl _, rfl, rfl⟩
  generalize sideN last [] = WN at *
  go_enter Tryz.func69, Tryz.ntmps69
  go_wp2_with fail
  go_ret
  exact hfin
 ·have h0b := beq_ne h0
  have h0e := isEmpty_ne h0
  have csp := split_any s 58 w (hE.below hS.low).shaped (by omega)
  obtain ⟨hpx, hpl⟩ := partsL_le 58 s
  have hw : sideN last s = piecesN last (partsL 58 s) := by unfold sideN; rw [if_neg h0]
  have HWN := Lib.hid hw
  clear hw
  generalize sideN last s = WN at *
  generalize partsL 58 s = P at *
  have hstart : SFour W0 base b last [] w w.heap.size P (4 * 0) [] (w.alloc (.cells (strs P).toArray 9)) := ⟨hS.below (below_alloc w _), But.below (below_alloc w _) hS.hw, Keep.below (below_alloc w _), Blk.new _ _ _, by simp⟩
  go_enter Tryz.func69, Tryz.ntmps69
  go_wp2_with fail
  go_at_call 72
  refine csp.mono ?_
  rintro e w1 ⟨rfl, rfl⟩
  generalize w.alloc (.cells (strs P).toArray 9) = w1 at *
  generalize hg : w.heap.size = g at *
  clear hg h0
  go_wp2_with fail
  go_loopw [15] (fun i wr => ∃ (k : Nat) (r : List UInt8), k ≤ P.length ∧ i = .int .i64 k ∧ Hid (piecesN last P = match piecesN last (P.drop k) with | none => none | some t => some (r ++ t)) ∧ Hid (SFour W0 base b last [] w g P (4 * k) r wr)) (fun i _ => P.length - (intOf i).toNat)
  case atStart => exact ⟨0, [], Nat.zero_le _, rfl, by show _ = _; rw [List.drop_zero]; cases piecesN last P <;> rfl, hstart⟩
  case round =>
   obtain ⟨V, rfl⟩ : ∃ V, V = wr := ⟨wr, rfl⟩
   obtain ⟨k, r, hk, rfl, H, HM⟩ := hrel
   clear hstart
   have hlow := HM.out.side.low
   by_cases hlt : k < P.length
   ·have hc := HM.out.row.cell k
    rw [List.getElem?_toArray, strs_get hlt] at hc
    have hxl := hpx _ (List.getElem_mem hlt)
    have hS1 := HM.out.side
    rw [List.nil_append] at hS1
    have hst := fun r' h => piecesN_step (r := r') hlt H.out h
    have hno := piecesN_stop hlt H.out
    have hla := piecesN_last hlt H.out
    have hrl : r.length ≤ 1000000000 := by have := HM.out.len; omega
    have cpi := fun W (hW : Side W0 base b last r W) => piece_any W0 base b last r P[k] W hE hW hrl (by omega)
    have cfo := fun W (hW : Side W0 base b last r W) => sfour_any W0 base b last r P[k] W hE hp hW hrl (by omega)
    have cct := fun W (hW : Below W0.heap.size W0 W) => Tryz.strings_Contains_shaped ⟨(P[k]).toArray⟩ ⟨#[46]⟩ W (hE.below hW).shaped (by show (P[k]).length < _; omega)
    generalize P[k] = x at *
    have hgo : ∀ (want : Option (List UInt8)) (e : Ending) (w' : World), SidePost W0 base b last r want V e w' → ∃ (ok : Bool) (r' : List UInt8), e = .returned (.bool ok) ∧ Side W0 base b last r' w' ∧ But base b w w' ∧ Keep w w' ∧ Blk w' g 9 (strs P).toArray ∧ match want with | none => ok = false | some t => ok = true ∧ r' = r ++ t := fun want e w' ⟨ok, r', h1, h2, h3, h4, h5⟩ =>
     ⟨ok, r', h1, h2, HM.out.but.trans h3, HM.out.keep.trans h4, h4 g _ _ (by decide) (by decide) HM.out.row, h5⟩
    have hrk := HM.out.len
    clear HM
    by_cases hlast : k + 1 < P.length
    ·have hki : ((k : Int) == (P.length : Int) - 1) = false := beq_eq_false_iff_ne.2 (by omega)
     have hkp : ¬ (k : Int) = (P.length : Int) - 1 := by omega
     go_wp2_with fail
     refine (cpi V hS1).mono ?_
     intro e w2 hpost
     obtain ⟨ok, r', rfl, hS2, hbut2, hkp2, hrow2, hwant⟩ := hgo _ e w2 hpost
     cases hpn : pieceN x with
     | none =>
      rw [hpn] at hwant
      have hW0 : Hid (WN = none) := by show _ = _; rw [HWN.out, hno hpn (.inl hlast)]
      have hfin : SidePost W0 base b last [] WN w (.returned (.bool false)) w2 := ⟨false, _, rfl, hS2, hbut2, hkp2, by rw [hW0.out]⟩
      simp only at hwant
      subst hwant
      clear hst hno hla cpi cfo cct hgo hpost H hS2 hbut2 hkp2 hrow2 hS1
      go_wp2_with fail
      go_ret
      exact hfin
     | some t =>
      rw [hpn] at hwant
      simp only at hwant
      obtain ⟨rfl, rfl⟩ := hwant
      have HN := Lib.hid (hst t hpn)
      have htl := pieceN_len hpn
      have HM2 : Hid (SFour W0 base b last [] w g P (4 * (k + 1)) (r ++ t) w2) := ⟨hS2, hbut2, hkp2, hrow2, by rw [List.length_append]; omega⟩
      clear hst hno hla cpi cfo cct hgo hpost H hS2 hbut2 hkp2 hrow2 hS1 hpn
      go_wp2_with fail
      go_roundw
      case rel => exact ⟨k + 1, r ++ t, by omega, by go_num, HN, HM2⟩
      case measure => simp [intOf]; omega
    ·have hki : ((k : Int) == (P.length : Int) - 1) = true := beq_iff_eq.2 (by omega)
     have hke : k + 1 = P.length := by omega
     have ck := cct V hlow
     have c46 := contains46 x
     rw [show (ByteArray.mk x.toArray).data.toList = x from rfl, show (ByteArray.mk #[46]).data.toList = [46] from rfl] at ck
     rw [c46] at ck
     by_cases hm : (46 : UInt8) ∈ x
     ·rw [decide_eq_true hm] at ck
      have hl2 := hla hke hm
      clear hla hst hno c46 cct cpi
      go_wp2_with fail
      go_at_call 100
      refine ck.mono ?_
      rintro e w9 ⟨rfl, rfl⟩
      go_wp2_with fail
      refine (cfo w9 hS1).mono ?_
      intro e w2 hpost
      obtain ⟨ok, r', rfl, hS2, hbut2, hkp2, hrow2, hwant⟩ := hgo _ e w2 hpost
      cases hpn : sfourO last x with
      | none =>
       rw [hpn] at hwant hl2
       simp only at hwant hl2
       subst hwant
       have hfin : SidePost W0 base b last [] WN w (.returned (.bool false)) w2 := ⟨false, _, rfl, hS2, hbut2, hkp2, by rw [HWN.out, hl2]⟩
       clear cfo hgo hpost H hS2 hbut2 hkp2 hrow2 hS1 hl2 hpn hm
       go_wp2_with fail
       go_ret
       exact hfin
      | some t =>
       rw [hpn] at hwant hl2
       simp only at hwant hl2
       obtain ⟨rfl, rfl⟩ := hwant
       have HN : Hid (piecesN last P = match piecesN last (P.drop (k + 1)) with | none => none | some t' => some ((r ++ t) ++ t')) := by
        show _ = _
        rw [hl2, List.drop_of_length_le (by omega)]; simp [piecesN]
       have htl : t.length = 4 := by
        unfold sfourO at hpn
        cases last with
        | true => exact fourB_len (by simpa using hpn)
        | false => simp at hpn
       have HM2 : Hid (SFour W0 base b last [] w g P (4 * (k + 1)) (r ++ t) w2) := ⟨hS2, hbut2, hkp2, hrow2, by rw [List.length_append]; omega⟩
       have HK := Lib.hid hke
       clear cfo hgo hpost H hS2 hbut2 hkp2 hrow2 hS1 hpn hl2 hm hke
       go_wp2_with fail
       go_roundw
       case rel => exact ⟨k + 1, r ++ t, by omega, by go_num, HN, HM2⟩
       case measure => simp [intOf]; omega
     ·rw [decide_eq_false hm] at ck
      have hno2 := fun h => hno h (.inr hm)
      clear hla hno c46 cct cfo
      go_wp2_with fail
      go_at_call 100
      refine ck.mono ?_
      rintro e w9 ⟨rfl, rfl⟩
      go_wp2_with fail
      refine (cpi w9 hS1).mono ?_
      intro e w2 hpost
      obtain ⟨ok, r', rfl, hS2, hbut2, hkp2, hrow2, hwant⟩ := hgo _ e w2 hpost
      cases hpn : pieceN x with
      | none =>
       rw [hpn] at hwant
       simp only at hwant
       subst hwant
       have hfin : SidePost W0 base b last [] WN w (.returned (.bool false)) w2 := ⟨false, _, rfl, hS2, hbut2, hkp2, by rw [HWN.out, hno2 hpn]⟩
       clear cpi hgo hpost H hS2 hbut2 hkp2 hrow2 hS1 hst hno2 hpn hm
       go_wp2_with fail
       go_ret
       exact hfin
      | some t =>
       rw [hpn] at hwant
       simp only at hwant
       obtain ⟨rfl, rfl⟩ := hwant
       have HN := Lib.hid (hst t hpn)
       have htl := pieceN_len hpn
       have HM2 : Hid (SFour W0 base b last [] w g P (4 * (k + 1)) (r ++ t) w2) := ⟨hS2, hbut2, hkp2, hrow2, by rw [List.length_append]; omega⟩
       have HK := Lib.hid hke
       clear hst hno2 cpi hgo hpost H hS2 hbut2 hkp2 hrow2 hS1 hpn hm hke
       go_wp2_with fail
       go_roundw
       case rel => exact ⟨k + 1, r ++ t, by omega, by go_num, HN, HM2⟩
       case measure => simp [intOf]; omega
   ·obtain rfl : k = P.length := by omega
    have hH := H.out
    rw [List.drop_length] at hH
    simp only [piecesN, List.append_nil] at hH
    have hfin : SidePost W0 base b last [] WN w (.returned (.bool true)) V := ⟨true, _, rfl, HM.out.side, HM.out.but, HM.out.keep, by rw [HWN.out, hH]; exact ⟨rfl, rfl⟩⟩
    clear hH H HM
    go_wp2_with fail
    go_ret
    exact hfin
end Go.Proofs.YtgihofogkoeimaaGreatDoor
