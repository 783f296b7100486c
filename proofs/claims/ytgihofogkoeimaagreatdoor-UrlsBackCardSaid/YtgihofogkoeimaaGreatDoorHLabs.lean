/- The walk of hosts.labels. -/
import Derived.Test.YtgihofogkoeimaaGreatDoorGLab
import Derived.Test.YtgihofogkoeimaaGreatDoorPct
import Derived.Test.YtgihofogkoeimaaGreatDoorLabel
import Derived.Test.YtgihofogkoeimaaGreatDoorGShow
import Derived.Test.YtgihofogkoeimaaGreatDoorFourWalk
import Derived.Test.YtgihofogkoeimaaGreatDoorGJoin
set_option linter.unusedVariables false
set_option linter.unusedSimpArgs false
namespace Go.Proofs.YtgihofogkoeimaaGreatDoor
open Go.RowKit
structure EnvT (w : World) : Prop where
 env : Env w
 tabs : Lib.Utf8Tabs (validRen.g 3) (validRen.g 4) w
theorem EnvT.below {w w' : World} (h : EnvT w) (hb : Below w.heap.size w w') : EnvT w' := ⟨h.env.below hb, Utf8Tabs_below h.tabs hb⟩
theorem labelsM_snoc {Q done : List (List UInt8)} {k : Nat} (hk : k < Q.length) (H : labelsM Q = match labelsM (Q.drop k) with | none => none | some r => some (done ++ r)) (h0 : (labelL Q[k]).2 = 0) :
  labelsM Q = match labelsM (Q.drop (k + 1)) with | none => none | some r => some ((done ++ [(labelL Q[k]).1]) ++ r) := by
 rw [H, List.drop_eq_getElem_cons hk, labelsM_cons, if_neg (by omega)]
 cases labelsM (Q.drop (k + 1)) with
 | none => rfl
 | some r => simp
theorem labelsM_stop {Q done : List (List UInt8)} {k : Nat} (hk : k < Q.length) (H : labelsM Q = match labelsM (Q.drop k) with | none => none | some r => some (done ++ r)) (h0 : (labelL Q[k]).2 ≠ 0) : labelsM Q = none := by
 rw [H, List.drop_eq_getElem_cons hk, labelsM_cons, if_pos h0]
theorem labelL_le {s : List UInt8} : (labelL s).1.length ≤ 63 := by
 by_cases h : (labelL s).2 = 0
 ·obtain ⟨_, _, h⟩ := labelL_zero h
  rcases h with ⟨_, _, h, hl⟩ | ⟨_, _, _, _, _, h, hl⟩ | ⟨_, _, h, hl⟩
  ·rw [h]; exact hl
  ·rw [h]; simpa [lowerL] using hl
  ·rw [h]; simpa [lowerL] using hl
 ·rw [labelL_err h]; simp
theorem strs_turn {done rest : List (List UInt8)} {q y : List UInt8} : (strs (done ++ q :: rest)).toArray.setIfInBounds done.length (.string ⟨y.toArray⟩) = (strs (done ++ [y] ++ rest)).toArray := by
 rw [List.setIfInBounds_toArray]
 congr 1
 simp [strs]
structure LabsMem (w0 : World) (g : Nat) (P Q done : List (List UInt8)) (k : Nat) (wr : World) : Prop where
 row : Blk wr g 9 (strs (done ++ P.drop k)).toArray
 len : done.length = k
 few : ∀ p ∈ done, p.length ≤ 63
 low : Below w0.heap.size w0 wr
 hg : w0.heap.size ≤ g
theorem LabsMem.at_ {w0 wr : World} {g k : Nat} {P Q done : List (List UInt8)} (h : LabsMem w0 g P Q done k wr) (HP : Q = P.take Q.length) (hk : k < Q.length) : wr.cell? ⟨g, k, none⟩ = some (.string ⟨(Q[k]).toArray⟩) := by
 have hkP : k < P.length := by
  have : Q.length ≤ P.length := by rw [HP, List.length_take]; omega
  omega
 have e : Q[k] = P[k] := by
  have : Q[k]? = P[k]? := by rw [HP, List.getElem?_take, if_pos (by omega)]
  rw [List.getElem?_eq_getElem hk, List.getElem?_eq_getElem hkP] at this
  exact Option.some.inj this
 rw [h.row.cell k, List.getElem?_toArray, strs_get (by rw [List.length_append, List.length_drop, h.len]; omega), e]
 congr 3
 rw [List.getElem_append_right (by have := h.len; omega)]
 simp [h.len]
theorem LabsMem.step {w0 wr W : World} {g k : Nat} {P Q done : List (List UInt8)} {y : List UInt8} (h : LabsMem w0 g P Q done k wr) (HP : Q = P.take Q.length) (hk : k < Q.length) (hy : y.length ≤ 63) (hb : Below wr.heap.size wr W) : LabsMem w0 g P Q (done ++ [y]) (k + 1) (W.setCell ⟨g, k, none⟩ (.string ⟨y.toArray⟩)) := by
 have hkP : k < P.length := by
  have : Q.length ≤ P.length := by rw [HP, List.length_take]; omega
  omega
 refine ⟨?_, by simp [h.len], fun p hp => ?_, (h.low.trans (hb.mono h.low.size)).setCell (p := ⟨g, k, none⟩) h.hg _, h.hg⟩
 ·have h1 := (h.row.below hb h.row.lt).set_ k (.string ⟨y.toArray⟩)
  rw [List.drop_eq_getElem_cons hkP] at h1
  have h2 := @strs_turn done (P.drop (k + 1)) P[k] y
  rw [h.len] at h2
  rwa [h2] at h1
 ·rcases List.mem_append.1 hp with hp | hp
  ·exact h.few p hp
  ·simp at hp; subst hp; exact hy
theorem LabsMem.texts {w0 wr : World} {g k : Nat} {P Q done : List (List UInt8)} (h : LabsMem w0 g P Q done k wr) : Texts wr g 0 done := fun j hj => by
 rw [Nat.zero_add, h.row.cell j, List.getElem?_toArray, strs_get (by rw [List.length_append]; omega), List.getElem_append_left hj]
set_option maxRecDepth 100000 in
set_option maxHeartbeats 4000000 in
theorem hlabs_any (s : List UInt8) (w : World) (hE : EnvT w) (hs : s.length ≤ 4100) :
  Calls Tryz.prog 44 #[.string ⟨s.toArray⟩] w fun e w' => e = .returned (optV (nameL s)) ∧ Below w.heap.size w w' := by
 have hnm : nameL s = match labelsM (cutLast (partsL 46 (pctL s))) with | none => none | some l => some (joinL 46 l) := rfl
 have cp := pct_any s w hE.env (by omega)
 have hle := pctL_le s
 have HNM := Lib.hid hnm
 clear hnm
 generalize pctL s = D at *
 have csp := fun W (hW : Below w.heap.size w W) => split_any D 46 W (hE.env.below hW).shaped (by omega)
 have clab := fun (x : List UInt8) (hx : x.length ≤ 4100) W (hW : Below w.heap.size w W) => label_any x W hx (hE.below hW).tabs
 obtain ⟨hpx, hpl⟩ := partsL_le 46 D
 have hne := partsL_ne 46 D
 generalize partsL 46 D = P at *
 obtain ⟨n, hn⟩ : ∃ n, P.length = n + 1 := ⟨P.length - 1, by have := List.length_pos_iff.2 hne; omega⟩
 have hlast := getLast_is hn
 rw [hn] at hpl
 simp only [hn] at csp
 go_enter Tryz.func44, Tryz.ntmps44
 go_wp2_with fail
 go_at_call 73
 refine cp.mono ?_
 rintro e w1 ⟨rfl, hb1⟩
 go_wp2_with fail
 go_at_call 72
 refine (csp w1 hb1).mono ?_
 rintro e w2 ⟨rfl, rfl⟩
 have hB := Blk.new w1 9 (strs P).toArray
 have hb2 := hb1.alloc hb1.size (.cells (strs P).toArray 9)
 have hg := hb1.size
 generalize w1.alloc (.cells (strs P).toArray 9) = w2 at *
 generalize w1.heap.size = g at *
 have cn : w2.cell? ⟨g, n, none⟩ = some (.string ⟨(P[n]'(by omega)).toArray⟩) := by
  rw [hB.cell n, List.getElem?_toArray, strs_get (by omega)]
 have key : ∃ Q : List (List UInt8), Q = cutLast P ∧ Q = P.take Q.length ∧ ((Q.length = n + 1 ∧ (n = 0 ∨ P[n]'(by omega) ≠ [])) ∨ (Q.length = n ∧ 0 < n ∧ P[n]'(by omega) = [])) := by
  refine ⟨_, rfl, ?_⟩
  unfold cutLast
  by_cases h1 : 1 < P.length ∧ P.getLastD [] = []
  ·rw [if_pos h1]
   refine ⟨by rw [List.dropLast_eq_take, List.length_take, Nat.min_eq_left (by omega)], .inr ⟨by simp [hn], by omega, by rw [← hlast]; exact h1.2⟩⟩
  ·rw [if_neg h1]
   refine ⟨by rw [List.take_length], .inl ⟨hn, ?_⟩⟩
   by_cases h0 : n = 0
   ·exact .inl h0
   ·exact .inr fun h => h1 ⟨by omega, by rw [hlast]; exact h⟩
 obtain ⟨Q, hQ, hQP, hcase⟩ := key
 rw [← hQ] at HNM
 generalize hxl : P[n]'(by omega) = xl at cn hcase
 clear hxl
 clear hQ hlast csp cp hb1 w1
 have hstart : LabsMem w g P Q [] 0 w2 := ⟨by simpa using hB, rfl, by simp, hb2, hg⟩
 have hqx : ∀ p ∈ Q, p.length ≤ 4100 := fun p hp => by
  rw [hQP] at hp
  have := hpx p (List.mem_of_mem_take hp); omega
 have HP : Hid (P.length = n + 1 ∧ Q = P.take Q.length) := ⟨hn, hQP⟩
 clear hn hQP hne hB hb2 hpx
 have hcase3 : (n = 0 ∧ Q.length = 1) ∨ (0 < n ∧ Q.length = n + 1 ∧ xl ≠ []) ∨ (0 < n ∧ Q.length = n ∧ xl = []) := by
  rcases hcase with ⟨hq, h0 | h0⟩ | ⟨hq, h0, h1⟩
  ·exact .inl ⟨h0, by omega⟩
  ·by_cases hn0 : n = 0
   ·exact .inl ⟨hn0, by omega⟩
   ·exact .inr (.inl ⟨by omega, hq, h0⟩)
  ·exact .inr (.inr ⟨h0, hq, h1⟩)
 clear hcase
 have hgw : g < w2.heap.size := hstart.row.lt
 rcases hcase3 with ⟨rfl, hq⟩ | ⟨hn0, hq, hx⟩ | ⟨hn0, hq, rfl⟩
 ·have hq1 : Q.length ≤ 1 := by omega
  have hq2 : 1 ≤ Q.length := by omega
  clear hq
  go_wp2_with fail
  go_loopw [31] (fun i wr => ∃ (k : Nat) (done : List (List UInt8)), k ≤ Q.length ∧ i = .int .i64 k ∧ Hid (labelsM Q = match labelsM (Q.drop k) with | none => none | some r => some (done ++ r)) ∧ Hid (LabsMem w g P Q done k wr)) (fun i _ => Q.length - (intOf i).toNat)
  case atStart => exact ⟨0, [], Nat.zero_le _, rfl, by show _ = _; rw [List.drop_zero]; cases labelsM Q <;> rfl, hstart⟩
  case round =>
   obtain ⟨V, rfl⟩ : ∃ V, V = wr := ⟨wr, rfl⟩
   obtain ⟨k, done, hk, rfl, H, HM⟩ := hrel
   clear hstart hgw
   by_cases hlt : k < Q.length
   ·have hc := HM.out.at_ HP.out.2 hlt
    have cl := clab Q[k] (hqx _ (List.getElem_mem hlt)) V HM.out.low
    by_cases he : (labelL Q[k]).2 = 0
    ·have HN := Lib.hid (labelsM_snoc hlt H.out he)
     have hy : (labelL Q[k]).1.length ≤ 63 := labelL_le
     have hst := fun W hb => HM.out.step (W := W) HP.out.2 hlt hy hb
     have hr : labelL Q[k] = ((labelL Q[k]).1, 0) := by rw [← he]
     rw [hr] at cl
     simp only [encV] at cl
     clear hr he
     generalize (labelL Q[k]).1 = y at *
     generalize Q[k] = x at *
     go_wp2_with fail
     go_at_call 74
     refine cl.mono ?_
     rintro e w3 ⟨rfl, hb3⟩
     have HS := Lib.hid (hst w3 hb3)
     have hB3 := HM.out.row.below hb3 HM.out.row.lt
     have hfz := hB3.frozen k
     have hl3 := hB3.lt
     have hcc : ∃ u, w3.cell? ⟨g, k, none⟩ = some u := ⟨_, (hb3.cell (p := ⟨g, k, none⟩) HM.out.row.lt).trans hc⟩
     obtain ⟨u, hu⟩ := hcc
     clear hst hB3 cl hc
     go_wp2_with fail
     go_roundw
     case rel => exact ⟨k + 1, done ++ [y], by omega, by go_num, HN, HS⟩
     case measure => simp [intOf]; omega
    ·have HN := Lib.hid (labelsM_stop hlt H.out he)
     rw [labelL_err he] at cl
     simp only [encV] at cl
     clear he
     generalize Q[k] = x at *
     have hlow := HM.out.low
     go_wp2_with fail
     go_at_call 74
     refine cl.mono ?_
     rintro e w3 ⟨rfl, hb3⟩
     go_wp2_with fail
     go_ret2
     exact ⟨by rw [HNM.out, HN.out]; rfl, hlow.trans (hb3.mono hlow.size)⟩
   ·obtain rfl : k = Q.length := by omega
    have hH := H.out
    rw [List.drop_length] at hH
    simp only [labelsM, List.append_nil] at hH
    have HN : Hid (nameL s = some (joinL 46 done)) := by show _ = _; rw [HNM.out, hH]
    have hjl := joinL_le 46 HM.out.few
    have hdl := HM.out.len
    have hdl1 : done.length ≤ 8200 := by omega
    have HD := Lib.hid hdl
    clear hH H hdl
    have cj := join_at g 0 (0 + 1) (0 + 1) done 46 V (by have := HD.out; omega) HM.out.texts HM.out.row.lt (by omega) (by omega) (by omega)
    go_wp2_with fail
    go_at_call 70
    refine cj.mono ?_
    rintro e w3 ⟨rfl, hb3⟩
    go_wp2_with fail
    go_ret2
    exact ⟨by rw [HN.out]; rfl, HM.out.low.trans (hb3.mono HM.out.low.size)⟩
 ·have hxb := beq_ne hx
  have hxe := isEmpty_ne hx
  have hq1 : Q.length ≤ n + 1 := by omega
  have hq2 : n + 1 ≤ Q.length := by omega
  clear hq hx
  go_wp2_with fail
  go_loopw [31] (fun i wr => ∃ (k : Nat) (done : List (List UInt8)), k ≤ Q.length ∧ i = .int .i64 k ∧ Hid (labelsM Q = match labelsM (Q.drop k) with | none => none | some r => some (done ++ r)) ∧ Hid (LabsMem w g P Q done k wr)) (fun i _ => Q.length - (intOf i).toNat)
  case atStart => exact ⟨0, [], Nat.zero_le _, rfl, by show _ = _; rw [List.drop_zero]; cases labelsM Q <;> rfl, hstart⟩
  case round =>
   obtain ⟨V, rfl⟩ : ∃ V, V = wr := ⟨wr, rfl⟩
   obtain ⟨k, done, hk, rfl, H, HM⟩ := hrel
   clear hstart hgw
   by_cases hlt : k < Q.length
   ·have hc := HM.out.at_ HP.out.2 hlt
    have cl := clab Q[k] (hqx _ (List.getElem_mem hlt)) V HM.out.low
    by_cases he : (labelL Q[k]).2 = 0
    ·have HN := Lib.hid (labelsM_snoc hlt H.out he)
     have hy : (labelL Q[k]).1.length ≤ 63 := labelL_le
     have hst := fun W hb => HM.out.step (W := W) HP.out.2 hlt hy hb
     have hr : labelL Q[k] = ((labelL Q[k]).1, 0) := by rw [← he]
     rw [hr] at cl
     simp only [encV] at cl
     clear hr he
     generalize (labelL Q[k]).1 = y at *
     generalize Q[k] = x at *
     go_wp2_with fail
     go_at_call 74
     refine cl.mono ?_
     rintro e w3 ⟨rfl, hb3⟩
     have HS := Lib.hid (hst w3 hb3)
     have hB3 := HM.out.row.below hb3 HM.out.row.lt
     have hfz := hB3.frozen k
     have hl3 := hB3.lt
     have hcc : ∃ u, w3.cell? ⟨g, k, none⟩ = some u := ⟨_, (hb3.cell (p := ⟨g, k, none⟩) HM.out.row.lt).trans hc⟩
     obtain ⟨u, hu⟩ := hcc
     clear hst hB3 cl hc
     go_wp2_with fail
     go_roundw
     case rel => exact ⟨k + 1, done ++ [y], by omega, by go_num, HN, HS⟩
     case measure => simp [intOf]; omega
    ·have HN := Lib.hid (labelsM_stop hlt H.out he)
     rw [labelL_err he] at cl
     simp only [encV] at cl
     clear he
     generalize Q[k] = x at *
     have hlow := HM.out.low
     go_wp2_with fail
     go_at_call 74
     refine cl.mono ?_
     rintro e w3 ⟨rfl, hb3⟩
     go_wp2_with fail
     go_ret2
     exact ⟨by rw [HNM.out, HN.out]; rfl, hlow.trans (hb3.mono hlow.size)⟩
   ·obtain rfl : k = Q.length := by omega
    have hH := H.out
    rw [List.drop_length] at hH
    simp only [labelsM, List.append_nil] at hH
    have HN : Hid (nameL s = some (joinL 46 done)) := by show _ = _; rw [HNM.out, hH]
    have hjl := joinL_le 46 HM.out.few
    have hdl := HM.out.len
    have hdl1 : done.length ≤ 8200 := by omega
    have HD := Lib.hid hdl
    clear hH H hdl
    have cj := join_at g 0 (n + 1) (n + 1) done 46 V (by have := HD.out; omega) HM.out.texts HM.out.row.lt (by omega) (by omega) (by omega)
    go_wp2_with fail
    go_at_call 70
    refine cj.mono ?_
    rintro e w3 ⟨rfl, hb3⟩
    go_wp2_with fail
    go_ret2
    exact ⟨by rw [HN.out]; rfl, HM.out.low.trans (hb3.mono HM.out.low.size)⟩
 ·have hq1 : Q.length ≤ n := by omega
  have hq2 : n ≤ Q.length := by omega
  clear hq
  go_wp2_with fail
  go_loopw [31] (fun i wr => ∃ (k : Nat) (done : List (List UInt8)), k ≤ Q.length ∧ i = .int .i64 k ∧ Hid (labelsM Q = match labelsM (Q.drop k) with | none => none | some r => some (done ++ r)) ∧ Hid (LabsMem w g P Q done k wr)) (fun i _ => Q.length - (intOf i).toNat)
  case atStart => exact ⟨0, [], Nat.zero_le _, rfl, by show _ = _; rw [List.drop_zero]; cases labelsM Q <;> rfl, hstart⟩
  case round =>
   obtain ⟨V, rfl⟩ : ∃ V, V = wr := ⟨wr, rfl⟩
   obtain ⟨k, done, hk, rfl, H, HM⟩ := hrel
   clear hstart hgw
   by_cases hlt : k < Q.length
   ·have hc := HM.out.at_ HP.out.2 hlt
    have cl := clab Q[k] (hqx _ (List.getElem_mem hlt)) V HM.out.low
    by_cases he : (labelL Q[k]).2 = 0
    ·have HN := Lib.hid (labelsM_snoc hlt H.out he)
     have hy : (labelL Q[k]).1.length ≤ 63 := labelL_le
     have hst := fun W hb => HM.out.step (W := W) HP.out.2 hlt hy hb
     have hr : labelL Q[k] = ((labelL Q[k]).1, 0) := by rw [← he]
     rw [hr] at cl
     simp only [encV] at cl
     clear hr he
     generalize (labelL Q[k]).1 = y at *
     generalize Q[k] = x at *
     go_wp2_with fail
     go_at_call 74
     refine cl.mono ?_
     rintro e w3 ⟨rfl, hb3⟩
     have HS := Lib.hid (hst w3 hb3)
     have hB3 := HM.out.row.below hb3 HM.out.row.lt
     have hfz := hB3.frozen k
     have hl3 := hB3.lt
     have hcc : ∃ u, w3.cell? ⟨g, k, none⟩ = some u := ⟨_, (hb3.cell (p := ⟨g, k, none⟩) HM.out.row.lt).trans hc⟩
     obtain ⟨u, hu⟩ := hcc
     clear hst hB3 cl hc
     go_wp2_with fail
     go_roundw
     case rel => exact ⟨k + 1, done ++ [y], by omega, by go_num, HN, HS⟩
     case measure => simp [intOf]; omega
    ·have HN := Lib.hid (labelsM_stop hlt H.out he)
     rw [labelL_err he] at cl
     simp only [encV] at cl
     clear he
     generalize Q[k] = x at *
     have hlow := HM.out.low
     go_wp2_with fail
     go_at_call 74
     refine cl.mono ?_
     rintro e w3 ⟨rfl, hb3⟩
     go_wp2_with fail
     go_ret2
     exact ⟨by rw [HNM.out, HN.out]; rfl, hlow.trans (hb3.mono hlow.size)⟩
   ·obtain rfl : k = Q.length := by omega
    have hH := H.out
    rw [List.drop_length] at hH
    simp only [labelsM, List.append_nil] at hH
    have HN : Hid (nameL s = some (joinL 46 done)) := by show _ = _; rw [HNM.out, hH]
    have hjl := joinL_le 46 HM.out.few
    have hdl := HM.out.len
    have hdl1 : done.length ≤ 8200 := by omega
    have HD := Lib.hid hdl
    clear hH H hdl
    have cj := join_at g 0 (n + 1) n done 46 V (by have := HD.out; omega) HM.out.texts HM.out.row.lt (by omega) (by omega) (by omega)
    go_wp2_with fail
    go_at_call 70
    refine cj.mono ?_
    rintro e w3 ⟨rfl, hb3⟩
    go_wp2_with fail
    go_ret2
    exact ⟨by rw [HN.out]; rfl, HM.out.low.trans (hb3.mono HM.out.low.size)⟩
end Go.Proofs.YtgihofogkoeimaaGreatDoor
