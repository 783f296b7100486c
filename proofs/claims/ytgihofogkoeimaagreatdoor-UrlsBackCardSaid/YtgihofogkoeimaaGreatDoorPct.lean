/- The walk of percent.Decode. -/
import Derived.Test.YtgihofogkoeimaaGreatDoorGMath
import Derived.Test.YtgihofogkoeimaaGreatDoorGFmt
import Derived.Test.YtgihofogkoeimaaGreatDoorGInt
import Derived.Test.YtgihofogkoeimaaGreatDoorGJoin
set_option linter.unusedVariables false
set_option linter.unusedSimpArgs false
namespace Go.Proofs.YtgihofogkoeimaaGreatDoor
open Go.RowKit
structure PctMem (w0 : World) (B : Nat) (out : List UInt8) (wr : World) : Prop where
 bld : Lib.IsBuilderF 53 5 B B (Lib.byteCells out) wr
 low : Below w0.heap.size w0 wr
 hB : w0.heap.size ≤ B
 sz : B < wr.heap.size
section
variable {w0 wr W : World} {B : Nat} {out : List UInt8}
theorem PctMem.below (h : PctMem w0 B out wr) (hb : Below wr.heap.size wr W) : PctMem w0 B out W :=
 ⟨builder_below h.bld hb, h.low.trans (hb.mono h.low.size), h.hB, Nat.lt_of_lt_of_le h.sz hb.size⟩
theorem PctMem.drewN (h : PctMem w0 B out wr) (n : Nat) : PctMem w0 B out (wr.drewN n) := ⟨h.bld, ⟨h.low.os, h.low.tape, h.low.output, h.low.size, h.low.block⟩, h.hB, h.sz⟩
theorem PctMem.more (h : PctMem w0 B out wr) {l : List UInt8} (hb : Lib.BuilderAtF 53 5 B B (.pointer (some ⟨B, 0, none⟩)) (Lib.byteCells out ++ Lib.byteCells l) W) (hl : Below B wr W) : PctMem w0 B (out ++ l) W :=
 ⟨.inr (by rw [Lib.byteCells_append]; exact hb), h.low.trans (hl.mono h.hB), h.hB, Nat.lt_of_lt_of_le h.sz hl.size⟩
end
def strSz : Value → Nat
 | .string s => s.size
 | _ => 0
theorem cut37 (s : List UInt8) (w : World) (hE : Env w) (hs : s.length ≤ 4000000000) :
  Calls Tryz.prog 68 #[.string ⟨s.toArray⟩, .string ⟨#[37]⟩] w fun e w' => e = .returned (.tuple #[.string ⟨(Lib.cut s [37]).1.toArray⟩, .string ⟨(Lib.cut s [37]).2.1.toArray⟩, .bool (Lib.cut s [37]).2.2]) ∧ ∃ n, w' = w.drewN n :=
 (Tryz.strings_Cut_shaped ⟨s.toArray⟩ ⟨#[37]⟩ w hE.shaped (by show s.length < _; omega)).mono fun e w' h => ⟨by simpa using h.1, h.2⟩
theorem pct_start (w : World) : PctMem w w.heap.size [] (w.alloc (.cells #[.pointer none, .slice none 0 0] 53)) :=
 ⟨Lib.IsBuilderF.of (Lib.fresh_isBuilder _ _ w), (Below.refl _ w).alloc (Nat.le_refl _) _, Nat.le_refl _, by rw [World.size_alloc]; omega⟩
section
variable (s0 : List UInt8) (w : World)
def PctAt (v : Value) (wr : World) : Prop := ∃ l out : List UInt8, v = .string ⟨l.toArray⟩ ∧ Hid (pctL s0 = out ++ pctL l) ∧ out.length + l.length ≤ s0.length ∧ PctMem w w.heap.size out wr
end
set_option maxRecDepth 100000 in
set_option maxHeartbeats 4000000 in
theorem pct_any (s0 : List UInt8) (w : World) (hE : Env w) (hs : s0.length ≤ 4000000000) :
  Calls Tryz.prog 73 #[.string ⟨s0.toArray⟩] w fun e w' => e = .returned (.string ⟨(pctL s0).toArray⟩) ∧ Below w.heap.size w w' := by
 go_enter Tryz.func73, Tryz.ntmps73
 go_wp2_with fail
 go_loopw [0] (fun v wr => PctAt s0 w v wr) (fun v _ => strSz v)
 case atStart => exact ⟨s0, [], rfl, by show _ = _; simp, by simp, pct_start w⟩
 case round =>
  obtain ⟨V, rfl⟩ : ∃ V, V = wr := ⟨wr, rfl⟩
  obtain ⟨l, out, rfl, H, hlen, hm⟩ := hrel
  have hEV := hE.below hm.low
  have cc := cut37 l V hEV (by omega)
  rcases cut_one l 37 with ⟨hn, hc⟩ | ⟨a, b, rfl, hn, hc⟩
  ·rw [hc] at cc
   have HE : Hid (pctL s0 = out ++ l) := by show _ = _; rw [H.out, pctL_plain hn]
   clear hc hn H
   go_wp2_with fail
   go_at_call 68
   refine cc.mono ?_
   rintro e w1 ⟨rfl, n, rfl⟩
   have hm1 := hm.drewN n
   clear hm cc hEV
   generalize V.drewN n = w1 at *
   go_wp2_with fail
   go_at_call 30
   refine (writeString_k w.heap.size w.heap.size _ l w1 hm1.bld (by rw [Lib.byteCells_length]; omega) hm1.low.size).mono ?_
   rintro e w2 ⟨rfl, hb2, hl2, _⟩
   have hm2 := hm1.more hb2 hl2
   clear hb2 hl2 hm1
   go_wp2_with fail
   go_at_call 33
   refine (Tryz.Builder_String_any_k w.heap.size w.heap.size (out ++ l) w2 hm2.bld (Nat.le_of_lt hm2.sz)).mono ?_
   rintro e w3 ⟨rfl, h1, b1, k1⟩
   go_wp2_with fail
   go_ret
   exact ⟨by rw [HE.out]; rfl, hm2.low.trans b1⟩
  ·rw [hc] at cc
   simp only [List.length_append, List.length_cons] at hlen
   have HE : Hid (pctL s0 = (out ++ a) ++ pctL (37 :: b)) := by show _ = _; rw [H.out, pctL_cut hn, List.append_assoc]
   clear hc hn H
   have hq : ∃ q : Option Nat, hx2 b = q := ⟨_, rfl⟩
   have cw : ∀ (W W2 : World) (c : UInt8), PctMem w w.heap.size (out ++ a) W → Calls Tryz.prog 31 #[.pointer (some ⟨w.heap.size, 0, none⟩), .int .u8 (c.toNat : Int)] W fun e W' => e = .returned .nilIface ∧ PctMem w w.heap.size (out ++ a ++ [c]) W' := fun W W2 c hW =>
    (writeByte_k w.heap.size w.heap.size _ _ W hW.bld (by rw [Lib.byteCells_length, List.length_append]; omega) hW.low.size).mono fun e W' ⟨he, hb, hl, _⟩ => ⟨he, hW.more (l := [c]) hb hl⟩
   go_wp2_with fail
   go_at_call 68
   refine cc.mono ?_
   rintro e w1 ⟨rfl, n, rfl⟩
   have hm1 := hm.drewN n
   clear hm cc hEV
   generalize V.drewN n = w1 at *
   go_wp2_with fail
   go_at_call 30
   refine (writeString_k w.heap.size w.heap.size _ a w1 hm1.bld (by rw [Lib.byteCells_length]; omega) hm1.low.size).mono ?_
   rintro e w2 ⟨rfl, hb2, hl2, _⟩
   have hm2 := hm1.more hb2 hl2
   clear hb2 hl2 hm1
   by_cases h2 : b.length < 2
   ·have HN : Hid (pctL s0 = (out ++ a ++ [37]) ++ pctL b) := by
     show _ = _
     rw [HE.out, pctL_none (hx2_short h2)]; simp
    clear HE hq
    go_wp2_with (go_at_call 31; refine (cw _ w 37 hm2).mono ?_; rintro e w3 ⟨rfl, hm3⟩)
    go_roundw
    case rel => exact ⟨b, _, rfl, HN, by simp; omega, hm3⟩
    case measure => simp [strSz, size_mk]; omega
   ·obtain ⟨x, y, r, rfl⟩ : ∃ x y r, b = x :: y :: r := by
     match b, h2 with
     | [], h2 => simp at h2
     | [x], h2 => simp at h2
     | x :: y :: r, _ => exact ⟨x, y, r, rfl⟩
    simp only [List.length_cons] at hlen
    clear h2 hq
    have hmiss : hx2 (x :: y :: r) = none → Hid (pctL s0 = (out ++ a ++ [37]) ++ pctL (x :: y :: r)) := fun h => by
     show _ = _
     rw [HE.out, pctL_none h]; simp
    have hhit : ∀ v, hx2 (x :: y :: r) = some v → Hid (pctL s0 = (out ++ a ++ [UInt8.ofNat v]) ++ pctL r) := fun v h => by
     show _ = _
     rw [HE.out, pctL_hit h]; simp
    have hph := parse_hx2 x y r
    have hsg : (x.toNat = 43 ∨ x.toNat = 45) → hx2 (x :: y :: r) = none := fun h => hx2_sign h
    have cpo := fun v (h : parseB 16 255 0 [x, y] = .ok v) W => pu16b_ok [x, y] (by simp) (by simp) v h W
    have cpb := fun (h : ∀ v, parseB 16 255 0 [x, y] ≠ .ok v) W (hW : Env W) => pu16b_bad [x, y] (by simp) (by simp) h W hW
    have hE2 := hE.below hm2.low
    have hx8 := x.toNat_lt
    clear HE
    by_cases h43 : x.toNat = 43
    ·have HN := hmiss (hsg (.inl h43))
     have h43i : (x.toNat : Int) = 43 := by omega
     clear hmiss hhit hph hsg cpo cpb h43
     go_wp2_with (go_at_call 31; refine (cw _ w 37 hm2).mono ?_; rintro e w3 ⟨rfl, hm3⟩)
     go_roundw
     case rel => exact ⟨x :: y :: r, _, rfl, HN, by simp; omega, hm3⟩
     case measure => simp [strSz, size_mk]; omega
    ·by_cases h45 : x.toNat = 45
     ·have HN := hmiss (hsg (.inr h45))
      have h45i : (x.toNat : Int) = 45 := by omega
      clear hmiss hhit hph hsg cpo cpb h45 h43
      go_wp2_with (go_at_call 31; refine (cw _ w 37 hm2).mono ?_; rintro e w3 ⟨rfl, hm3⟩)
      go_roundw
      case rel => exact ⟨x :: y :: r, _, rfl, HN, by simp; omega, hm3⟩
      case measure => simp [strSz, size_mk]; omega
     ·have h43b : ((x.toNat : Int) != 43) = true := bne_iff_ne.2 (by omega)
      have h45b : ((x.toNat : Int) != 45) = true := bne_iff_ne.2 (by omega)
      have h43p : ¬ (x.toNat : Int) = 43 := by omega
      have h45p : ¬ (x.toNat : Int) = 45 := by omega
      cases hp : parseB 16 255 0 [x, y] with
      | ok v =>
       rw [hp] at hph
       have HN := hhit v hph
       have hv := hx2_lt hph
       have cp := cpo v hp
       have hvb : ((UInt8.ofNat v).toNat : Int) = (v : Int) := by rw [UInt8.toNat_ofNat', Nat.mod_eq_of_lt (by omega)]
       clear hmiss hhit hph hsg cpo cpb hp h43 h45
       go_wp2_with fail
       go_at_call 104
       refine (cp w2).mono ?_
       rintro e w3 ⟨rfl, hb3⟩
       have hm3 := hm2.below hb3
       have cwv := cw w3 w (UInt8.ofNat v) hm3
       rw [hvb] at cwv
       clear hvb cp
       go_wp2_with (go_at_call 31; refine cwv.mono ?_; rintro e w4 ⟨rfl, hm4⟩)
       go_roundw
       case rel => exact ⟨r, _, rfl, HN, by simp; omega, hm4⟩
       case measure => simp [strSz, size_mk]; omega
      | _ =>
       rw [hp] at hph
       have HN := hmiss hph
       have cp := cpb (by intro v h; rw [hp] at h; cases h) w2 hE2
       clear hmiss hhit hph hsg cpo cpb hp h43 h45
       go_wp2_with fail
       go_at_call 104
       refine cp.mono ?_
       rintro e w3 ⟨n, T, q, hn, rfl, hb3⟩
       have hm3 := hm2.below hb3
       go_wp2_with (go_at_call 31; refine (cw _ w 37 hm3).mono ?_; rintro e w4 ⟨rfl, hm4⟩)
       go_roundw
       case rel => exact ⟨x :: y :: r, _, rfl, HN, by simp; omega, hm4⟩
       case measure => simp [strSz, size_mk]; omega
end Go.Proofs.YtgihofogkoeimaaGreatDoor
