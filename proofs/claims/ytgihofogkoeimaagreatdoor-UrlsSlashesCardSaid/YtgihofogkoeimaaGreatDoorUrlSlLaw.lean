/- The law UrlsSlashes walked. -/
import Derived.Test.YtgihofogkoeimaaGreatDoorUrlHereLaw
import Derived.Test.YtgihofogkoeimaaGreatDoorUrlIdle
import Derived.Deep.DeepCutAuto
import Derived.Deep.CutBlock
set_option linter.unusedVariables false
set_option linter.unusedSimpArgs false
namespace Go.Proofs.YtgihofogkoeimaaGreatDoor
open Go.RowKit
def slQ (s : List UInt8) (k : Nat) : List UInt8 := (s.take k).map (fun c => if c = 47 then 92 else c) ++ s.drop k
theorem slQ_len {s : List UInt8} {k : Nat} (h : k ≤ s.length) : (slQ s k).length = s.length := by simp [slQ]; omega
theorem slQ_get {s : List UInt8} {k : Nat} (h : k < s.length) : (slQ s k).getD k 0 = s.getD k 0 := by
 have hl : ((s.take k).map (fun c => if c = 47 then (92 : UInt8) else c)).length = k := by simp; omega
 unfold slQ
 rw [List.getD_eq_getElem?_getD, List.getElem?_append_right (by omega), hl, Nat.sub_self, List.getElem?_drop, Nat.add_zero, List.getD_eq_getElem?_getD]
theorem slQ_set {s : List UInt8} {k : Nat} (h : k < s.length) (h1 : s.getD k 0 = 47) : (slQ s k).set k 92 = slQ s (k + 1) := by
 have hl : ((s.take k).map (fun c => if c = 47 then (92 : UInt8) else c)).length = k := by simp; omega
 unfold slQ
 rw [List.set_append_right _ _ (by omega), hl, Nat.sub_self, List.drop_eq_getElem_cons h, List.set_cons_zero, List.take_succ_eq_append_getElem h, List.map_append]
 have : s[k] = 47 := by simpa [List.getD, h] using h1
 simp [this]
theorem slQ_next {s : List UInt8} {k : Nat} (h : k < s.length) (h1 : s.getD k 0 ≠ 47) : slQ s k = slQ s (k + 1) := by
 unfold slQ
 rw [List.drop_eq_getElem_cons h, List.take_succ_eq_append_getElem h, List.map_append]
 have : s[k] ≠ 47 := by simpa [List.getD, h] using h1
 simp [this]
theorem slQ_stop : ∀ {s : List UInt8} {k : Nat}, (∀ j (h : j < k) (hk : k ≤ s.length), qmB (s[j]'(by omega)) = false) → k ≤ s.length → (k = s.length ∨ ∃ h : k < s.length, qmB s[k] = true) → slQ s k = slashQ s
 | [], k, _, hk, _ => by
  obtain rfl : k = 0 := by simpa using hk
  rfl
 | c :: s, 0, _, _, he => by
  rcases he with he | ⟨h, hq⟩
  ·simp at he
  ·have hq' : qmB c = true := hq
   simp [slQ, slashQ, hq']
 | c :: s, k + 1, hj, hk, he => by
  have h0 : qmB c = false := hj 0 (by omega) hk
  have ih := slQ_stop (s := s) (k := k) (fun j h hk' => hj (j + 1) (by omega) hk) (by simpa using hk) (by
   rcases he with he | ⟨h, hq⟩
   ·exact .inl (by simpa using he)
   ·exact .inr ⟨by simpa using h, hq⟩)
  rw [slashQ, if_neg (by rw [h0]; simp), ← ih]
  simp [slQ]
theorem ByteRow.lt {W : World} {g : Nat} {l : List UInt8} (h : ByteRow W g l) : g < W.heap.size := let ⟨_, _, h1, _⟩ := h; (Array.getElem?_eq_some_iff.1 h1).1
theorem ByteRow.on {W W' : World} {g : Nat} {l : List UInt8} (h : ByteRow W g l) (hb : Below W.heap.size W W') : ByteRow W' g l := let ⟨cur, fz, h1, h2, h3⟩ := h; ⟨cur, fz, (hb.block g (Array.getElem?_eq_some_iff.1 h1).1).trans h1, h2, h3⟩
set_option maxRecDepth 100000 in
set_option maxHeartbeats 8000000 in
theorem slashes_w (s : List UInt8) (w : World) (hm : s.length ≤ 140737488351232) (hE : EnvH w) :
  Calls Tryz.prog 7 #[.string ⟨s.toArray⟩] w fun e w' => e = .returned (.bool true) ∧ Below w.heap.size w w' := by
 have hb0 := Below.refl w.heap.size w
 have cv := lift_k w hE (fun W hW => alive_u W hW)
 by_cases h0 : 1000 < s.length
 ·have hi : (1000 : Int) < (s.length : Int) := by omega
  go_enter Tryz.func7, Tryz.ntmps7
  go_wp2_with fail
  go_at_call 27
  refine (cv _ hb0).mono ?_
  rintro e w1 ⟨rfl, hb1⟩
  go_wp2_with fail
  go_at_call 27
  refine (cv _ hb1).mono ?_
  rintro e w2 ⟨rfl, hb2⟩
  go_wp2_with fail
  go_ret
  exact ⟨rfl, below_next hb1 hb2⟩
 ·have hi : ¬ (1000 : Int) < (s.length : Int) := by omega
  have hpe : parseU (slashQ s) zeroU false = parseU s zeroU false := slashes_law s
  have ht := @slQ_stop s
  have hnx := @slQ_next s
  have hst := @slQ_set s
  have hgt := @slQ_get s
  have hln := @slQ_len s
  have cp : ∀ W, Below w.heap.size w W → Calls Tryz.prog 25 #[.string ⟨s.toArray⟩, urlV zeroU, .bool false] W fun e W' => e = .returned (pairU (parseU s zeroU false)) ∧ Below W.heap.size W W' := lift_k w hE (fun W hW => parse_u s zeroU false W hW (by omega) (by simp [sizeU, zeroU]) (by simp [zeroU]))
  have cq : ∀ W, Below w.heap.size w W → Calls Tryz.prog 25 #[.string ⟨(slashQ s).toArray⟩, urlV zeroU, .bool false] W fun e W' => e = .returned (pairU (parseU s zeroU false)) ∧ Below W.heap.size W W' := lift_k w hE (fun W hW => by have := parse_u (slashQ s) zeroU false W hW (by rw [slashQ_len]; omega) (by simp [sizeU, zeroU]) (by simp [zeroU]); rwa [hpe] at this)
  clear hE h0
  go_enter Tryz.func7, Tryz.ntmps7
  go_wp2_with fail
  go_at_call 27
  refine (cv _ hb0).mono ?_
  rintro e w1 ⟨rfl, hb1⟩
  obtain ⟨cap, W1, hcv, hbr, hcap, hrow⟩ := conv_row w1 s
  have hcapH := Lib.hid hcap
  clear cv
  have hbW := below_next hb1 hbr
  have hB1 : w.heap.size ≤ w1.heap.size := hb1.size
  generalize hBB : w1.heap.size = B at *
  have HQ0 : Hid (∀ j (h : j < 0) (hk : 0 ≤ s.length), qmB (s[j]'(by omega)) = false) := fun j h => absurd h (Nat.not_lt_zero j)
  have hr0 : ByteRow W1 B (slQ s 0) := by simpa [slQ] using hrow
  go_upto_block 0 with fail
  go_cut [4] from 19 to 46 (fun a4 wx => ByteRow wx B (slashQ s) ∧ Below w.heap.size w wx)
  case first =>
   clear hrow hcv cp cq
   go_wp2_with fail
   go_loopw [4] (fun iv wr => ∃ k : Nat, iv = .int .i64 (k : Int) ∧ k ≤ s.length ∧ ByteRow wr B (slQ s k) ∧ Below w.heap.size w wr ∧ Hid (∀ j (h : j < k) (hk : k ≤ s.length), qmB (s[j]'(by omega)) = false)) (fun iv _ => s.length - (intOf iv).toNat)
   case atStart => exact ⟨0, rfl, Nat.zero_le _, hr0, hbW, HQ0⟩
   case round =>
    obtain ⟨k, rfl, hk, hr, hbl, HQ⟩ := hrel
    have hlen := hln hk
    by_cases hlt : k < s.length
    ·have hki : (k : Int) < (s.length : Int) := by omega
     have hcell := hr.cell (k := k) (by omega)
     have hfz := hr.frozen (k := k) (by omega)
     rw [hgt hlt] at hcell
     have hset := hr.set (k := k) (by omega) 92
     have h47 := hst hlt
     have hnn := hnx hlt
     have hstop : qmB s[k] = true → slQ s k = slashQ s := fun h => ht (fun j hj hk => HQ.out j hj hk) hk (.inr ⟨hlt, h⟩)
     have hgo : qmB s[k] = false → ∀ j (h : j < k + 1) (hk' : k + 1 ≤ s.length), qmB (s[j]'(by omega)) = false := fun h j hj _ => by
      rcases Nat.lt_succ_iff_lt_or_eq.1 hj with hj | rfl
      ·exact HQ.out j hj hk
      ·exact h
     have hgd : s.getD k 0 = s[k] := by rw [List.getD_eq_getElem?_getD, List.getElem?_eq_getElem hlt]; rfl
     rw [hgd] at hcell h47 hnn
     clear HQ ht hnx hst hgt hln hgd
     generalize s[k] = c at *
     by_cases h63 : c = 63
     ·subst h63
      have HS := Lib.hid (hstop rfl)
      clear hstop hgo h47 hnn hset
      go_wp2_with fail
      go_meet
      case rel => exact ⟨by rw [← HS.out]; exact hr, hbl⟩
     ·have z63 : ((c.toNat : Int) != 63) = true := bne_iff_ne.2 (fun e => h63 (UInt8.toNat_inj.1 (by show c.toNat = 63; omega)))
      by_cases h35 : c = 35
      ·subst h35
       have HS := Lib.hid (hstop rfl)
       clear hstop hgo h47 hnn hset
       go_wp2_with fail
       go_meet
       case rel => exact ⟨by rw [← HS.out]; exact hr, hbl⟩
      ·have z35 : ((c.toNat : Int) != 35) = true := bne_iff_ne.2 (fun e => h35 (UInt8.toNat_inj.1 (by show c.toNat = 35; omega)))
       have HG := Lib.hid (hgo (by unfold qmB; rw [beq_eq_false_iff_ne.2 h63, beq_eq_false_iff_ne.2 h35]; rfl))
       by_cases h4 : c = 47
       ·subst h4
        rw [h47 rfl] at hset
        have HS := Lib.hid hset
        clear hstop hgo h47 hnn hset z63 z35 h63 h35
        go_wp2_with fail
        exact ⟨⟨k + 1, by go_num, by omega, HS.out, hbl.setCell (p := ⟨B, k, none⟩) hB1 _, HG⟩, by simp [intOf]; omega⟩
       ·have z47 : ((c.toNat : Int) == 47) = false := beq_eq_false_iff_ne.2 (fun e => h4 (UInt8.toNat_inj.1 (by show c.toNat = 47; omega)))
        have hr2 : ByteRow wr B (slQ s (k + 1)) := by rw [← hnn h4]; exact hr
        clear hstop hgo h47 hnn hset h63 h35 h4
        go_wp2_with fail
        exact ⟨⟨k + 1, by go_num, by omega, hr2, hbl, HG⟩, by simp [intOf]; omega⟩
    ·have hki : ¬ (k : Int) < (s.length : Int) := by omega
     have HS := Lib.hid (ht (fun j hj hk => HQ.out j hj hk) hk (.inl (by omega)))
     clear HQ ht hnx hst hgt hln
     go_wp2_with fail
     go_meet
     case rel => exact ⟨by rw [← HS.out]; exact hr, hbl⟩
  case rest =>
   obtain ⟨hr, hbl⟩ := hcut
   have hql := slashQ_len s
   have HR := Lib.hid hr
   have HB := Lib.hid hbl
   clear hrow hcv hr0 HQ0 ht hnx hst hgt hln hr hbl hbW hbr hb1
   cases hp : parseU s zeroU false with
   | error n =>
    rw [hp] at cp cq
    simp only [pairU, urlV] at cp cq
    clear hp
    go_wp2_with fail
    go_at_call 25
    refine (cp _ HB.out).mono ?_
    rintro e w4 ⟨rfl, hb4⟩
    have hr4 := (HR.out.on hb4).on (below_alloc w4 (.cells (cellsU zeroU).toArray 23))
    have U4 := UrlAt.news w4 zeroU
    have HB4 := Lib.hid (below_news (below_next HB.out hb4) zeroU)
    have hbk4 := back_row (cap := cap) (show ByteRow (w4.alloc (.cells #[.string ⟨zeroU.scheme.toArray⟩, .string ⟨zeroU.user.toArray⟩, .string ⟨zeroU.pass.toArray⟩, .string ⟨zeroU.host.toArray⟩, .int .i64 zeroU.port, .string ⟨zeroU.path.toArray⟩, .string ⟨zeroU.query.toArray⟩, .bool zeroU.hasQ, .string ⟨zeroU.mark.toArray⟩, .bool zeroU.hasM] 23)) B (slashQ s) from hr4)
    rw [hql] at hbk4
    clear cp hb4
    go_wp2_with fail
    go_at_call 25
    refine (cq _ HB4.out).mono ?_
    rintro e w5 ⟨rfl, hb5⟩
    have U5 := U4.on hb5
    have hl5 : w4.heap.size < w5.heap.size := U5.lt
    have HB5 := Lib.hid (below_news (below_next HB4.out hb5) zeroU)
    have p0 : w5.cell? ⟨w4.heap.size, 0, none⟩ = some _ := U5.cell 0
    have p1 : w5.cell? ⟨w4.heap.size, 1, none⟩ = some _ := U5.cell 1
    have p2 : w5.cell? ⟨w4.heap.size, 2, none⟩ = some _ := U5.cell 2
    have p3 : w5.cell? ⟨w4.heap.size, 3, none⟩ = some _ := U5.cell 3
    have p4 : w5.cell? ⟨w4.heap.size, 4, none⟩ = some _ := U5.cell 4
    have p5 : w5.cell? ⟨w4.heap.size, 5, none⟩ = some _ := U5.cell 5
    have p6 : w5.cell? ⟨w4.heap.size, 6, none⟩ = some _ := U5.cell 6
    have p7 : w5.cell? ⟨w4.heap.size, 7, none⟩ = some _ := U5.cell 7
    have p8 : w5.cell? ⟨w4.heap.size, 8, none⟩ = some _ := U5.cell 8
    have p9 : w5.cell? ⟨w4.heap.size, 9, none⟩ = some _ := U5.cell 9
    clear cq hb5 U4 U5 hr4 hbk4 HB4 HB HR
    go_wp2_with fail
    go_ret
    exact ⟨rfl, HB5.out⟩
   | ok u =>
    rw [hp] at cp cq
    simp only [pairU, urlV] at cp cq
    clear hp
    go_wp2_with fail
    go_at_call 25
    refine (cp _ HB.out).mono ?_
    rintro e w4 ⟨rfl, hb4⟩
    have hr4 := (HR.out.on hb4).on (below_alloc w4 (.cells (cellsU u).toArray 23))
    have U4 := UrlAt.news w4 u
    have HB4 := Lib.hid (below_news (below_next HB.out hb4) u)
    have hbk4 := back_row (cap := cap) (show ByteRow (w4.alloc (.cells #[.string ⟨u.scheme.toArray⟩, .string ⟨u.user.toArray⟩, .string ⟨u.pass.toArray⟩, .string ⟨u.host.toArray⟩, .int .i64 u.port, .string ⟨u.path.toArray⟩, .string ⟨u.query.toArray⟩, .bool u.hasQ, .string ⟨u.mark.toArray⟩, .bool u.hasM] 23)) B (slashQ s) from hr4)
    rw [hql] at hbk4
    clear cp hb4
    go_wp2_with fail
    go_at_call 25
    refine (cq _ HB4.out).mono ?_
    rintro e w5 ⟨rfl, hb5⟩
    have U5 := U4.on hb5
    have hl5 : w4.heap.size < w5.heap.size := U5.lt
    have HB5 := Lib.hid (below_news (below_next HB4.out hb5) u)
    have p0 : w5.cell? ⟨w4.heap.size, 0, none⟩ = some _ := U5.cell 0
    have p1 : w5.cell? ⟨w4.heap.size, 1, none⟩ = some _ := U5.cell 1
    have p2 : w5.cell? ⟨w4.heap.size, 2, none⟩ = some _ := U5.cell 2
    have p3 : w5.cell? ⟨w4.heap.size, 3, none⟩ = some _ := U5.cell 3
    have p4 : w5.cell? ⟨w4.heap.size, 4, none⟩ = some _ := U5.cell 4
    have p5 : w5.cell? ⟨w4.heap.size, 5, none⟩ = some _ := U5.cell 5
    have p6 : w5.cell? ⟨w4.heap.size, 6, none⟩ = some _ := U5.cell 6
    have p7 : w5.cell? ⟨w4.heap.size, 7, none⟩ = some _ := U5.cell 7
    have p8 : w5.cell? ⟨w4.heap.size, 8, none⟩ = some _ := U5.cell 8
    have p9 : w5.cell? ⟨w4.heap.size, 9, none⟩ = some _ := U5.cell 9
    clear cq hb5 U4 U5 hr4 hbk4 HB4 HB HR
    go_wp2_with fail
    go_ret
    exact ⟨rfl, HB5.out⟩
end Go.Proofs.YtgihofogkoeimaaGreatDoor
