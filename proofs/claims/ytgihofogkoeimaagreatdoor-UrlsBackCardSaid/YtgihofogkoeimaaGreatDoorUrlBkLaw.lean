/- The law UrlsBack walked. -/
import Derived.Test.YtgihofogkoeimaaGreatDoorUrlHereLaw
import Derived.Test.YtgihofogkoeimaaGreatDoorOpenU
import Derived.Lib.QuietBelow
import Derived.Deep.DeepCutAuto
import Derived.Deep.CutBlock
import Derived.Deep.RegionWith
import Derived.Deep.QuietTactic
import Derived.BigQuiet
set_option linter.unusedVariables false
set_option linter.unusedSimpArgs false
namespace Go.Proofs.YtgihofogkoeimaaGreatDoor
open Go.RowKit
open Go.Sort
set_option maxRecDepth 100000 in
set_option maxHeartbeats 4000000 in
theorem size_u (u : UrlL) (w : World) (h : SizedU u) : Calls Tryz.prog 13 #[urlV u] w fun e w' => e = .returned (.int .i64 (sizeU u : Int)) ∧ Below w.heap.size w w' := by
 obtain ⟨w1, hw1⟩ : ∃ w1, w.alloc (.cells #[.string ⟨u.scheme.toArray⟩, .string ⟨u.user.toArray⟩, .string ⟨u.pass.toArray⟩, .string ⟨u.host.toArray⟩, .int .i64 u.port, .string ⟨u.path.toArray⟩, .string ⟨u.query.toArray⟩, .bool u.hasQ, .string ⟨u.mark.toArray⟩, .bool u.hasM] 23) = w1 := ⟨_, rfl⟩
 have hb1 : Below w.heap.size w w1 := by rw [← hw1]; exact below_alloc w _
 have hU1 : UrlAt w.heap.size u w1 := by rw [← hw1]; exact heap_alloc_new w _
 have p0 : w1.cell? ⟨w.heap.size, 0, none⟩ = some _ := hU1.cell 0
 have p1 : w1.cell? ⟨w.heap.size, 1, none⟩ = some _ := hU1.cell 1
 have p2 : w1.cell? ⟨w.heap.size, 2, none⟩ = some _ := hU1.cell 2
 have p3 : w1.cell? ⟨w.heap.size, 3, none⟩ = some _ := hU1.cell 3
 have p4 : w1.cell? ⟨w.heap.size, 4, none⟩ = some _ := hU1.cell 4
 have p5 : w1.cell? ⟨w.heap.size, 5, none⟩ = some _ := hU1.cell 5
 have p6 : w1.cell? ⟨w.heap.size, 6, none⟩ = some _ := hU1.cell 6
 have p7 : w1.cell? ⟨w.heap.size, 7, none⟩ = some _ := hU1.cell 7
 have p8 : w1.cell? ⟨w.heap.size, 8, none⟩ = some _ := hU1.cell 8
 have p9 : w1.cell? ⟨w.heap.size, 9, none⟩ = some _ := hU1.cell 9
 obtain ⟨h1, h2, h3, h4, h5, h6, h7, _, _⟩ := h
 have hz : Hid ((sizeU u : Int) = (u.scheme.length : Int) + u.user.length + u.pass.length + u.host.length + u.path.length + u.query.length + u.mark.length) := by
  show _ = _
  unfold sizeU; omega
 unfold urlV
 go_enter Tryz.func13, Tryz.ntmps13
 go_wp2_with fail
 go_ret
 exact ⟨by rw [hz.out]; rfl, hb1⟩
theorem quiet_callU {f : FuncId} {args : Array Value} {v : Value} {w1 : World} (h : ∀ W, Go.RowKit.Below w1.heap.size w1 W → Calls Tryz.prog f args W fun e W' => e = .returned v ∧ Go.RowKit.Below W.heap.size W W') (d : Nat) (os : Array Obj) :
  Calls Tryz.prog f args (grow (redrawn w1 d) os) fun e w'' => e = .returned v ∧ ∃ p : Regrown, w'' = grow (redrawn w1 p.d) p.os := Calls.regrown_of (h _ (below_regrown w1 d os))
theorem good_looks {u : UrlL} (h : GoodU u) : (u.scheme = [104, 116, 116, 112] ∨ u.scheme = [104, 116, 116, 112, 115]) ∧ (0 : Int) < (u.path.length : Int) ∧ (∀ hh, u.path[0]'hh = 47) ∧ (-1 : Int) ≤ u.port ∧ u.port ≤ 65535 ∧ ∃ b : Bool, (portN u != 0) = b ∧ (u.port != 0) = b := by
 obtain ⟨l, h1, h2, _⟩ := h.path
 have hp : ∃ r, u.path = 47 :: r := by
  rw [h2]
  cases l with
  | nil => exact absurd rfl h1
  | cons p l => exact ⟨p ++ backL 47 l, by simp [backL]⟩
 obtain ⟨r, hr⟩ := hp
 have hq := portU_le h.port (s := [])
 refine ⟨h.sch, by rw [hr, List.length_cons]; omega, fun hh => by simp [hr], hq.1, hq.2, _, rfl, ?_⟩
 have ho := ownP_ne h.sch
 unfold portN
 by_cases h0 : 0 ≤ u.port
 ·rw [if_pos h0]
 ·rw [if_neg h0, bne_iff_ne.2 (show u.port ≠ 0 by omega), bne_iff_ne.2 (show (ownP u.scheme : Int) ≠ 0 by omega)]
theorem parse_has {s : List UInt8} {base u : UrlL} {has : Bool} (h : parseU s base has = .ok u) : ¬ (has = true ∧ checkU base = false) := fun hc => by
 unfold parseU at h
 split at h
 ·cases h
 ·first | cases h | (rw [if_pos hc] at h; cases h)
set_option maxRecDepth 100000 in
set_option maxHeartbeats 16000000 in
theorem back_w (s : List UInt8) (base : UrlL) (has : Bool) (w : World) (hm : s.length ≤ 140737488351232) (hS : SizedU base) (hE : EnvH w) :
  Calls Tryz.prog 10 #[.string ⟨s.toArray⟩, urlV base, .bool has] w fun e w' => e = .returned (.bool true) ∧ Below w.heap.size w w' := by
 obtain ⟨wa, hwa⟩ : ∃ W, w.alloc (.cells #[.string ⟨base.scheme.toArray⟩, .string ⟨base.user.toArray⟩, .string ⟨base.pass.toArray⟩, .string ⟨base.host.toArray⟩, .int .i64 base.port, .string ⟨base.path.toArray⟩, .string ⟨base.query.toArray⟩, .bool base.hasQ, .string ⟨base.mark.toArray⟩, .bool base.hasM] 23) = W := ⟨_, rfl⟩
 have hba : Below w.heap.size w wa := by rw [← hwa]; exact below_alloc w _
 have hUa : UrlAt w.heap.size base wa := by rw [← hwa]; exact heap_alloc_new w _
 have cv := lift_k w hE (fun W hW => alive_u W hW)
 have cz := lift_k w hE (fun W _ => size_u base W hS)
 have hport := hS.high
 by_cases h0 : 1000 < s.length
 ·have hi : (1000 : Int) < (s.length : Int) := by omega
  unfold urlV
  go_enter Tryz.func10, Tryz.ntmps10
  go_wp2_with fail
  go_at_call 27
  refine (cv _ hba).mono ?_
  rintro e w1 ⟨rfl, hb1⟩
  go_wp2_with fail
  go_at_call 27
  refine (cv _ (below_next hba hb1)).mono ?_
  rintro e w2 ⟨rfl, hb2⟩
  go_wp2_with fail
  go_ret
  exact ⟨rfl, below_next (below_next hba hb1) hb2⟩
 ·have hi : ¬ (1000 : Int) < (s.length : Int) := by omega
  by_cases hz : 5000 < sizeU base
  ·have hzi : (5000 : Int) < (sizeU base : Int) := by omega
   generalize sizeU base = Z at *
   unfold urlV at cz ⊢
   go_enter Tryz.func10, Tryz.ntmps10
   go_wp2_with fail
   go_at_call 27
   refine (cv _ hba).mono ?_
   rintro e w1 ⟨rfl, hb1⟩
   have hU1 := hUa.on hb1
   have p0 : w1.cell? ⟨w.heap.size, 0, none⟩ = some _ := hU1.cell 0
   have p1 : w1.cell? ⟨w.heap.size, 1, none⟩ = some _ := hU1.cell 1
   have p2 : w1.cell? ⟨w.heap.size, 2, none⟩ = some _ := hU1.cell 2
   have p3 : w1.cell? ⟨w.heap.size, 3, none⟩ = some _ := hU1.cell 3
   have p4 : w1.cell? ⟨w.heap.size, 4, none⟩ = some _ := hU1.cell 4
   have p5 : w1.cell? ⟨w.heap.size, 5, none⟩ = some _ := hU1.cell 5
   have p6 : w1.cell? ⟨w.heap.size, 6, none⟩ = some _ := hU1.cell 6
   have p7 : w1.cell? ⟨w.heap.size, 7, none⟩ = some _ := hU1.cell 7
   have p8 : w1.cell? ⟨w.heap.size, 8, none⟩ = some _ := hU1.cell 8
   have p9 : w1.cell? ⟨w.heap.size, 9, none⟩ = some _ := hU1.cell 9
   go_wp2_with fail
   go_at_call 13
   refine (cz _ (below_next hba hb1)).mono ?_
   rintro e w2 ⟨rfl, hb2⟩
   go_wp2_with fail
   go_at_call 27
   refine (cv _ (below_next (below_next hba hb1) hb2)).mono ?_
   rintro e w3 ⟨rfl, hb3⟩
   go_wp2_with fail
   go_ret
   exact ⟨rfl, below_next (below_next (below_next hba hb1) hb2) hb3⟩
  ·have hzi : ¬ (5000 : Int) < (sizeU base : Int) := by omega
   have cp := lift_k w hE (fun W hW => parse_u s base has W hW hm (by omega) hport)
   have HE := Lib.hid hE
   cases hp : parseU s base has with
   | error n =>
    have hn := err_test (parse_err hp).1
    have hn2 : ((n : Int) != 0) = true := by rw [bne, hn]; rfl
    rw [hp] at cp
    simp only [pairU] at cp
    generalize sizeU base = Z at *
    unfold urlV at cz cp ⊢
    clear hE hp
    go_enter Tryz.func10, Tryz.ntmps10
    go_wp2_with fail
    go_at_call 27
    refine (cv _ hba).mono ?_
    rintro e w1 ⟨rfl, hb1⟩
    have hU1 := hUa.on hb1
    have p0 : w1.cell? ⟨w.heap.size, 0, none⟩ = some _ := hU1.cell 0
    have p1 : w1.cell? ⟨w.heap.size, 1, none⟩ = some _ := hU1.cell 1
    have p2 : w1.cell? ⟨w.heap.size, 2, none⟩ = some _ := hU1.cell 2
    have p3 : w1.cell? ⟨w.heap.size, 3, none⟩ = some _ := hU1.cell 3
    have p4 : w1.cell? ⟨w.heap.size, 4, none⟩ = some _ := hU1.cell 4
    have p5 : w1.cell? ⟨w.heap.size, 5, none⟩ = some _ := hU1.cell 5
    have p6 : w1.cell? ⟨w.heap.size, 6, none⟩ = some _ := hU1.cell 6
    have p7 : w1.cell? ⟨w.heap.size, 7, none⟩ = some _ := hU1.cell 7
    have p8 : w1.cell? ⟨w.heap.size, 8, none⟩ = some _ := hU1.cell 8
    have p9 : w1.cell? ⟨w.heap.size, 9, none⟩ = some _ := hU1.cell 9
    go_wp2_with fail
    go_at_call 13
    refine (cz _ (below_next hba hb1)).mono ?_
    rintro e w2 ⟨rfl, hb2⟩
    have hU2 := hU1.on hb2
    clear p0 p1 p2 p3 p4 p5 p6 p7 p8 p9
    have p0 : w2.cell? ⟨w.heap.size, 0, none⟩ = some _ := hU2.cell 0
    have p1 : w2.cell? ⟨w.heap.size, 1, none⟩ = some _ := hU2.cell 1
    have p2 : w2.cell? ⟨w.heap.size, 2, none⟩ = some _ := hU2.cell 2
    have p3 : w2.cell? ⟨w.heap.size, 3, none⟩ = some _ := hU2.cell 3
    have p4 : w2.cell? ⟨w.heap.size, 4, none⟩ = some _ := hU2.cell 4
    have p5 : w2.cell? ⟨w.heap.size, 5, none⟩ = some _ := hU2.cell 5
    have p6 : w2.cell? ⟨w.heap.size, 6, none⟩ = some _ := hU2.cell 6
    have p7 : w2.cell? ⟨w.heap.size, 7, none⟩ = some _ := hU2.cell 7
    have p8 : w2.cell? ⟨w.heap.size, 8, none⟩ = some _ := hU2.cell 8
    have p9 : w2.cell? ⟨w.heap.size, 9, none⟩ = some _ := hU2.cell 9
    go_wp2_with fail
    go_at_call 25
    refine (cp _ (below_next (below_next hba hb1) hb2)).mono ?_
    rintro e w3 ⟨rfl, hb3⟩
    have HB3 := Lib.hid (below_news (below_next (below_next (below_next hba hb1) hb2) hb3) zeroU)
    clear cp cv cz hb1 hb2 hb3 hba
    go_wp2_with fail
    go_ret
    exact ⟨rfl, HB3.out⟩
   | ok u =>
    have hg := good_parse hp
    obtain ⟨z1, z2⟩ := good_ok hg
    have hpb := parse_back hg (parse_has hp)
    have htl : (textU u).length ≤ 4096 := hg.len
    have ct := lift_k w hE (fun W hW => text_u u W hW z1 z2)
    have cq := lift_k w hE (fun W hW => parse_u (textU u) base has W hW (by omega) (by omega) hport)
    have cc := lift_k w hE (fun W hW => check_u u W hW z1 z2)
    have cr := lift_k w hE (fun W _ => portn_u u W)
    have ch := lift_k w hE (fun W hW => hparse_any u.host W hW (by have := hg.hlen; omega))
    rw [hg.host.again] at ch
    rw [check_iff.2 hg] at cc
    rw [hpb] at cq
    rw [hp] at cp
    have HG := Lib.hid hg
    simp only [pairU] at cp cq
    simp only [optV] at ch
    generalize sizeU base = Z at *
    generalize textU u = T at *
    unfold urlV at cz cp cq ct cc cr ⊢
    clear hE hp hpb hg z1 z2
    go_enter Tryz.func10, Tryz.ntmps10
    go_wp2_with fail
    go_at_call 27
    refine (cv _ hba).mono ?_
    rintro e w1 ⟨rfl, hb1⟩
    have hU1 := hUa.on hb1
    have p0 : w1.cell? ⟨w.heap.size, 0, none⟩ = some _ := hU1.cell 0
    have p1 : w1.cell? ⟨w.heap.size, 1, none⟩ = some _ := hU1.cell 1
    have p2 : w1.cell? ⟨w.heap.size, 2, none⟩ = some _ := hU1.cell 2
    have p3 : w1.cell? ⟨w.heap.size, 3, none⟩ = some _ := hU1.cell 3
    have p4 : w1.cell? ⟨w.heap.size, 4, none⟩ = some _ := hU1.cell 4
    have p5 : w1.cell? ⟨w.heap.size, 5, none⟩ = some _ := hU1.cell 5
    have p6 : w1.cell? ⟨w.heap.size, 6, none⟩ = some _ := hU1.cell 6
    have p7 : w1.cell? ⟨w.heap.size, 7, none⟩ = some _ := hU1.cell 7
    have p8 : w1.cell? ⟨w.heap.size, 8, none⟩ = some _ := hU1.cell 8
    have p9 : w1.cell? ⟨w.heap.size, 9, none⟩ = some _ := hU1.cell 9
    go_wp2_with fail
    go_at_call 13
    refine (cz _ (below_next hba hb1)).mono ?_
    rintro e w2 ⟨rfl, hb2⟩
    have hU2 := hU1.on hb2
    clear p0 p1 p2 p3 p4 p5 p6 p7 p8 p9
    have p0 : w2.cell? ⟨w.heap.size, 0, none⟩ = some _ := hU2.cell 0
    have p1 : w2.cell? ⟨w.heap.size, 1, none⟩ = some _ := hU2.cell 1
    have p2 : w2.cell? ⟨w.heap.size, 2, none⟩ = some _ := hU2.cell 2
    have p3 : w2.cell? ⟨w.heap.size, 3, none⟩ = some _ := hU2.cell 3
    have p4 : w2.cell? ⟨w.heap.size, 4, none⟩ = some _ := hU2.cell 4
    have p5 : w2.cell? ⟨w.heap.size, 5, none⟩ = some _ := hU2.cell 5
    have p6 : w2.cell? ⟨w.heap.size, 6, none⟩ = some _ := hU2.cell 6
    have p7 : w2.cell? ⟨w.heap.size, 7, none⟩ = some _ := hU2.cell 7
    have p8 : w2.cell? ⟨w.heap.size, 8, none⟩ = some _ := hU2.cell 8
    have p9 : w2.cell? ⟨w.heap.size, 9, none⟩ = some _ := hU2.cell 9
    go_wp2_with fail
    go_at_call 25
    refine (cp _ (below_next (below_next hba hb1) hb2)).mono ?_
    rintro e w3 ⟨rfl, hb3⟩
    have hU3 := (hU2.on hb3).pass (u := u)
    have hV3 := UrlAt.news w3 u
    have hB3 := below_news (below_next (below_next (below_next hba hb1) hb2) hb3) u
    have hlt3 : w.heap.size < w3.heap.size := (hU2.on hb3).lt
    have hU33 := hU2.on hb3
    clear p0 p1 p2 p3 p4 p5 p6 p7 p8 p9 cp cz cv hU1 hU2 hUa hwa hb1 hb2 hb3
    have p0 : w3.cell? ⟨w.heap.size, 0, none⟩ = some _ := hU33.cell 0
    have p1 : w3.cell? ⟨w.heap.size, 1, none⟩ = some _ := hU33.cell 1
    have p2 : w3.cell? ⟨w.heap.size, 2, none⟩ = some _ := hU33.cell 2
    have p3 : w3.cell? ⟨w.heap.size, 3, none⟩ = some _ := hU33.cell 3
    have p4 : w3.cell? ⟨w.heap.size, 4, none⟩ = some _ := hU33.cell 4
    have p5 : w3.cell? ⟨w.heap.size, 5, none⟩ = some _ := hU33.cell 5
    have p6 : w3.cell? ⟨w.heap.size, 6, none⟩ = some _ := hU33.cell 6
    have p7 : w3.cell? ⟨w.heap.size, 7, none⟩ = some _ := hU33.cell 7
    have p8 : w3.cell? ⟨w.heap.size, 8, none⟩ = some _ := hU33.cell 8
    have p9 : w3.cell? ⟨w.heap.size, 9, none⟩ = some _ := hU33.cell 9
    go_upto_region 6 with fail
    go_cut [9, 10] from 38 to 45 (fun a9 a10 wx => ∃ B, a9 = .pointer (some ⟨B, 0, none⟩) ∧ a10 = .int .i64 0 ∧ UrlAt B u wx ∧ UrlAt w3.heap.size u wx ∧ Below w.heap.size w wx)
    case first =>
     have hB3d : Below w.heap.size w (w3.alloc (.cells #[.string ⟨u.scheme.toArray⟩, .string ⟨u.user.toArray⟩, .string ⟨u.pass.toArray⟩, .string ⟨u.host.toArray⟩, .int .i64 u.port, .string ⟨u.path.toArray⟩, .string ⟨u.query.toArray⟩, .bool u.hasQ, .string ⟨u.mark.toArray⟩, .bool u.hasM] 23)).drew := Below.drew hB3
     have hB3e : Below w.heap.size w ((w3.alloc (.cells #[.string ⟨u.scheme.toArray⟩, .string ⟨u.user.toArray⟩, .string ⟨u.pass.toArray⟩, .string ⟨u.host.toArray⟩, .int .i64 u.port, .string ⟨u.path.toArray⟩, .string ⟨u.query.toArray⟩, .bool u.hasQ, .string ⟨u.mark.toArray⟩, .bool u.hasM] 23)).alloc (.cells #[.string ⟨#[]⟩, .string ⟨#[]⟩, .string ⟨#[]⟩, .string ⟨#[]⟩, .int .i64 0, .string ⟨#[]⟩, .string ⟨#[]⟩, .bool false, .string ⟨#[]⟩, .bool false] 23)).drew := Below.drew (Below.alloc hB3 (Below.size hB3) _)
     have hlz : (w3.alloc (.cells #[.string ⟨u.scheme.toArray⟩, .string ⟨u.user.toArray⟩, .string ⟨u.pass.toArray⟩, .string ⟨u.host.toArray⟩, .int .i64 u.port, .string ⟨u.path.toArray⟩, .string ⟨u.query.toArray⟩, .bool u.hasQ, .string ⟨u.mark.toArray⟩, .bool u.hasM] 23)).heap.size = w3.heap.size + 1 := World.size_alloc _ _
     have key1 : ∀ w4, Below (w3.alloc (.cells #[.string ⟨u.scheme.toArray⟩, .string ⟨u.user.toArray⟩, .string ⟨u.pass.toArray⟩, .string ⟨u.host.toArray⟩, .int .i64 u.port, .string ⟨u.path.toArray⟩, .string ⟨u.query.toArray⟩, .bool u.hasQ, .string ⟨u.mark.toArray⟩, .bool u.hasM] 23)).drew.heap.size (w3.alloc (.cells #[.string ⟨u.scheme.toArray⟩, .string ⟨u.user.toArray⟩, .string ⟨u.pass.toArray⟩, .string ⟨u.host.toArray⟩, .int .i64 u.port, .string ⟨u.path.toArray⟩, .string ⟨u.query.toArray⟩, .bool u.hasQ, .string ⟨u.mark.toArray⟩, .bool u.hasM] 23)).drew w4 → Below w.heap.size w w4 ∧ UrlAt w.heap.size base w4 ∧ UrlAt w3.heap.size u w4 := fun w4 h => ⟨below_next hB3d h, UrlAt.on (w := (w3.alloc (.cells #[.string ⟨u.scheme.toArray⟩, .string ⟨u.user.toArray⟩, .string ⟨u.pass.toArray⟩, .string ⟨u.host.toArray⟩, .int .i64 u.port, .string ⟨u.path.toArray⟩, .string ⟨u.query.toArray⟩, .bool u.hasQ, .string ⟨u.mark.toArray⟩, .bool u.hasM] 23)).drew) hU3 h, UrlAt.on (w := (w3.alloc (.cells #[.string ⟨u.scheme.toArray⟩, .string ⟨u.user.toArray⟩, .string ⟨u.pass.toArray⟩, .string ⟨u.host.toArray⟩, .int .i64 u.port, .string ⟨u.path.toArray⟩, .string ⟨u.query.toArray⟩, .bool u.hasQ, .string ⟨u.mark.toArray⟩, .bool u.hasM] 23)).drew) hV3 h⟩
     have key2 : ∀ w4, Below ((w3.alloc (.cells #[.string ⟨u.scheme.toArray⟩, .string ⟨u.user.toArray⟩, .string ⟨u.pass.toArray⟩, .string ⟨u.host.toArray⟩, .int .i64 u.port, .string ⟨u.path.toArray⟩, .string ⟨u.query.toArray⟩, .bool u.hasQ, .string ⟨u.mark.toArray⟩, .bool u.hasM] 23)).alloc (.cells #[.string ⟨#[]⟩, .string ⟨#[]⟩, .string ⟨#[]⟩, .string ⟨#[]⟩, .int .i64 0, .string ⟨#[]⟩, .string ⟨#[]⟩, .bool false, .string ⟨#[]⟩, .bool false] 23)).drew.heap.size ((w3.alloc (.cells #[.string ⟨u.scheme.toArray⟩, .string ⟨u.user.toArray⟩, .string ⟨u.pass.toArray⟩, .string ⟨u.host.toArray⟩, .int .i64 u.port, .string ⟨u.path.toArray⟩, .string ⟨u.query.toArray⟩, .bool u.hasQ, .string ⟨u.mark.toArray⟩, .bool u.hasM] 23)).alloc (.cells #[.string ⟨#[]⟩, .string ⟨#[]⟩, .string ⟨#[]⟩, .string ⟨#[]⟩, .int .i64 0, .string ⟨#[]⟩, .string ⟨#[]⟩, .bool false, .string ⟨#[]⟩, .bool false] 23)).drew w4 → Below w.heap.size w w4 ∧ UrlAt w.heap.size base w4 ∧ UrlAt w3.heap.size u w4 ∧ UrlAt (w3.heap.size + 1) zeroU w4 := fun w4 h => by
      refine ⟨below_next hB3e h, UrlAt.on (w := ((w3.alloc (.cells #[.string ⟨u.scheme.toArray⟩, .string ⟨u.user.toArray⟩, .string ⟨u.pass.toArray⟩, .string ⟨u.host.toArray⟩, .int .i64 u.port, .string ⟨u.path.toArray⟩, .string ⟨u.query.toArray⟩, .bool u.hasQ, .string ⟨u.mark.toArray⟩, .bool u.hasM] 23)).alloc (.cells #[.string ⟨#[]⟩, .string ⟨#[]⟩, .string ⟨#[]⟩, .string ⟨#[]⟩, .int .i64 0, .string ⟨#[]⟩, .string ⟨#[]⟩, .bool false, .string ⟨#[]⟩, .bool false] 23)).drew) (UrlAt.pass (u := zeroU) hU3) h, UrlAt.on (w := ((w3.alloc (.cells #[.string ⟨u.scheme.toArray⟩, .string ⟨u.user.toArray⟩, .string ⟨u.pass.toArray⟩, .string ⟨u.host.toArray⟩, .int .i64 u.port, .string ⟨u.path.toArray⟩, .string ⟨u.query.toArray⟩, .bool u.hasQ, .string ⟨u.mark.toArray⟩, .bool u.hasM] 23)).alloc (.cells #[.string ⟨#[]⟩, .string ⟨#[]⟩, .string ⟨#[]⟩, .string ⟨#[]⟩, .int .i64 0, .string ⟨#[]⟩, .string ⟨#[]⟩, .bool false, .string ⟨#[]⟩, .bool false] 23)).drew) (UrlAt.pass (u := zeroU) hV3) h, ?_⟩
      rw [← hlz]
      exact UrlAt.on (w := ((w3.alloc (.cells #[.string ⟨u.scheme.toArray⟩, .string ⟨u.user.toArray⟩, .string ⟨u.pass.toArray⟩, .string ⟨u.host.toArray⟩, .int .i64 u.port, .string ⟨u.path.toArray⟩, .string ⟨u.query.toArray⟩, .bool u.hasQ, .string ⟨u.mark.toArray⟩, .bool u.hasM] 23)).alloc (.cells #[.string ⟨#[]⟩, .string ⟨#[]⟩, .string ⟨#[]⟩, .string ⟨#[]⟩, .int .i64 0, .string ⟨#[]⟩, .string ⟨#[]⟩, .bool false, .string ⟨#[]⟩, .bool false] 23)).drew) (UrlAt.news (w3.alloc (.cells #[.string ⟨u.scheme.toArray⟩, .string ⟨u.user.toArray⟩, .string ⟨u.pass.toArray⟩, .string ⟨u.host.toArray⟩, .int .i64 u.port, .string ⟨u.path.toArray⟩, .string ⟨u.query.toArray⟩, .bool u.hasQ, .string ⟨u.mark.toArray⟩, .bool u.hasM] 23)) zeroU) h
     have hlt3b : w.heap.size < w3.heap.size + 1 := by omega
     have hlt3c : w.heap.size < w3.heap.size + 1 + 1 := by omega
     clear cc ch cr HG
     go_region_with (first | (go_at_call 14; first | (refine (ct _ hB3d).mono ?_; rintro e w4 ⟨rfl, hb4⟩; obtain ⟨hB4, hU4, hV4⟩ := key1 _ hb4; have hl4 : w.heap.size < w4.heap.size := hU4.lt; have hl4b : w3.heap.size < w4.heap.size := hV4.lt; have q0 := hU4.cell 0; have q1 := hU4.cell 1; have q2 := hU4.cell 2; have q3 := hU4.cell 3; have q4 := hU4.cell 4; have q5 := hU4.cell 5; have q6 := hU4.cell 6; have q7 := hU4.cell 7; have q8 := hU4.cell 8; have q9 := hU4.cell 9; simp [cellsU] at q0 q1 q2 q3 q4 q5 q6 q7 q8 q9) | (refine (ct _ hB3e).mono ?_; rintro e w4 ⟨rfl, hb4⟩; obtain ⟨hB4, hU4, hV4, hZ4⟩ := key2 _ hb4; have hl4 : w.heap.size < w4.heap.size := hU4.lt; have hl4b : w3.heap.size < w4.heap.size := hV4.lt; have q0 := hU4.cell 0; have q1 := hU4.cell 1; have q2 := hU4.cell 2; have q3 := hU4.cell 3; have q4 := hU4.cell 4; have q5 := hU4.cell 5; have q6 := hU4.cell 6; have q7 := hU4.cell 7; have q8 := hU4.cell 8; have q9 := hU4.cell 9; simp [cellsU] at q0 q1 q2 q3 q4 q5 q6 q7 q8 q9)) | (go_at_call 25; first | (refine (cq _ hB4).mono ?_; rintro e w5 ⟨rfl, hb5⟩; have hB5 := below_next hB4 hb5; have hV5 := hV4.on hb5; try (have hZ5 := hZ4.on hb5; have zc0 := hZ5.cell 0; have zc1 := hZ5.cell 1; have zc2 := hZ5.cell 2; have zc3 := hZ5.cell 3; have zc4 := hZ5.cell 4; have zc5 := hZ5.cell 5; have zc6 := hZ5.cell 6; have zc7 := hZ5.cell 7; have zc8 := hZ5.cell 8; have zc9 := hZ5.cell 9; simp [cellsU] at zc0 zc1 zc2 zc3 zc4 zc5 zc6 zc7 zc8 zc9; have zf0 := hZ5.free 0; have zf1 := hZ5.free 1; have zf2 := hZ5.free 2; have zf3 := hZ5.free 3; have zf4 := hZ5.free 4; have zf5 := hZ5.free 5; have zf6 := hZ5.free 6; have zf7 := hZ5.free 7; have zf8 := hZ5.free 8; have zf9 := hZ5.free 9)) | (refine (cq _ (hB4.alloc hB4.size _)).mono ?_; rintro e w5 ⟨rfl, hb5⟩; have hB5 := below_next (below_news hB4 zeroU) hb5; have hV5 := UrlAt.on (hV4.pass (u := zeroU)) hb5; have hZ5 : UrlAt w4.heap.size zeroU w5 := UrlAt.on (UrlAt.news w4 zeroU) hb5; have zc0 := hZ5.cell 0; have zc1 := hZ5.cell 1; have zc2 := hZ5.cell 2; have zc3 := hZ5.cell 3; have zc4 := hZ5.cell 4; have zc5 := hZ5.cell 5; have zc6 := hZ5.cell 6; have zc7 := hZ5.cell 7; have zc8 := hZ5.cell 8; have zc9 := hZ5.cell 9; simp [cellsU] at zc0 zc1 zc2 zc3 zc4 zc5 zc6 zc7 zc8 zc9; have zf0 := hZ5.free 0; have zf1 := hZ5.free 1; have zf2 := hZ5.free 2; have zf3 := hZ5.free 3; have zf4 := hZ5.free 4; have zf5 := hZ5.free 5; have zf6 := hZ5.free 6; have zf7 := hZ5.free 7; have zf8 := hZ5.free 8; have zf9 := hZ5.free 9)))
     all_goals
      clear q0 q1 q2 q3 q4 q5 q6 q7 q8 q9
      simp only [Exit.then]
      go_wp2_with fail
      go_meet
      case rel => first | exact ⟨_, rfl, rfl, hZ5.put u, (putU_other _ _ _ (by omega)).trans hV5, putU_below hB5 (by omega) u⟩ | exact ⟨_, rfl, rfl, UrlAt.news w5 u, hV5.pass, below_news hB5 u⟩
    case rest =>
     obtain ⟨B9, rfl, rfl, hU9, hV9, hB9⟩ := hcut
     clear p0 p1 p2 p3 p4 p5 p6 p7 p8 p9 hU3 hV3 hB3 hU33 hlt3 ct cq
     have x3' : wc.cell? ⟨w3.heap.size, 3, none⟩ = some (.string ⟨u.host.toArray⟩) := hV9.cell 3
     go_wp2_with fail
     go_at_call 29
     refine (ch _ hB9).mono ?_
     rintro e w6 ⟨rfl, hb6⟩
     have hV6 := hV9.on hb6
     have hU6 := hU9.on hb6
     have hB6 := below_next hB9 hb6
     clear x3' ch hb6 hV9 hU9 hB9
     obtain ⟨hsch, hpl, hp0, hq1, hq2, bb, hbb1, hbb2⟩ := good_looks HG.out
     have hdl : decide ((0 : Int) < (u.path.length : Int)) = true := decide_eq_true hpl
     have hpl2 : 0 < u.path.length := by omega
     have hpl3 : ¬ u.path = [] := fun e => by rw [e] at hpl2; cases hpl2
     have hd1 : decide ((-1 : Int) ≤ u.port) = true := decide_eq_true hq1
     have hd2 : decide (u.port ≤ 65535) = true := decide_eq_true hq2
     have kc : ∀ d os, _ := quiet_callU (w1 := w6) (fun W hW => cc W (below_next hB6 hW))
     have kr : ∀ d os, _ := quiet_callU (w1 := w6) (fun W hW => cr W (below_next hB6 hW))
     have x0 : ∀ d os, (grow (redrawn w6 d) os).cell? ⟨w3.heap.size, 0, none⟩ = some (.string ⟨u.scheme.toArray⟩) := fun d os => cell_regrown (hV6.cell 0) d os
     have y0 : ∀ d os, (grow (redrawn w6 d) os).cell? ⟨B9, 0, none⟩ = some (.string ⟨u.scheme.toArray⟩) := fun d os => cell_regrown (hU6.cell 0) d os
     have x1 : ∀ d os, (grow (redrawn w6 d) os).cell? ⟨w3.heap.size, 1, none⟩ = some (.string ⟨u.user.toArray⟩) := fun d os => cell_regrown (hV6.cell 1) d os
     have y1 : ∀ d os, (grow (redrawn w6 d) os).cell? ⟨B9, 1, none⟩ = some (.string ⟨u.user.toArray⟩) := fun d os => cell_regrown (hU6.cell 1) d os
     have x2 : ∀ d os, (grow (redrawn w6 d) os).cell? ⟨w3.heap.size, 2, none⟩ = some (.string ⟨u.pass.toArray⟩) := fun d os => cell_regrown (hV6.cell 2) d os
     have y2 : ∀ d os, (grow (redrawn w6 d) os).cell? ⟨B9, 2, none⟩ = some (.string ⟨u.pass.toArray⟩) := fun d os => cell_regrown (hU6.cell 2) d os
     have x3 : ∀ d os, (grow (redrawn w6 d) os).cell? ⟨w3.heap.size, 3, none⟩ = some (.string ⟨u.host.toArray⟩) := fun d os => cell_regrown (hV6.cell 3) d os
     have y3 : ∀ d os, (grow (redrawn w6 d) os).cell? ⟨B9, 3, none⟩ = some (.string ⟨u.host.toArray⟩) := fun d os => cell_regrown (hU6.cell 3) d os
     have x4 : ∀ d os, (grow (redrawn w6 d) os).cell? ⟨w3.heap.size, 4, none⟩ = some (.int .i64 u.port) := fun d os => cell_regrown (hV6.cell 4) d os
     have y4 : ∀ d os, (grow (redrawn w6 d) os).cell? ⟨B9, 4, none⟩ = some (.int .i64 u.port) := fun d os => cell_regrown (hU6.cell 4) d os
     have x5 : ∀ d os, (grow (redrawn w6 d) os).cell? ⟨w3.heap.size, 5, none⟩ = some (.string ⟨u.path.toArray⟩) := fun d os => cell_regrown (hV6.cell 5) d os
     have y5 : ∀ d os, (grow (redrawn w6 d) os).cell? ⟨B9, 5, none⟩ = some (.string ⟨u.path.toArray⟩) := fun d os => cell_regrown (hU6.cell 5) d os
     have x6 : ∀ d os, (grow (redrawn w6 d) os).cell? ⟨w3.heap.size, 6, none⟩ = some (.string ⟨u.query.toArray⟩) := fun d os => cell_regrown (hV6.cell 6) d os
     have y6 : ∀ d os, (grow (redrawn w6 d) os).cell? ⟨B9, 6, none⟩ = some (.string ⟨u.query.toArray⟩) := fun d os => cell_regrown (hU6.cell 6) d os
     have x7 : ∀ d os, (grow (redrawn w6 d) os).cell? ⟨w3.heap.size, 7, none⟩ = some (.bool u.hasQ) := fun d os => cell_regrown (hV6.cell 7) d os
     have y7 : ∀ d os, (grow (redrawn w6 d) os).cell? ⟨B9, 7, none⟩ = some (.bool u.hasQ) := fun d os => cell_regrown (hU6.cell 7) d os
     have x8 : ∀ d os, (grow (redrawn w6 d) os).cell? ⟨w3.heap.size, 8, none⟩ = some (.string ⟨u.mark.toArray⟩) := fun d os => cell_regrown (hV6.cell 8) d os
     have y8 : ∀ d os, (grow (redrawn w6 d) os).cell? ⟨B9, 8, none⟩ = some (.string ⟨u.mark.toArray⟩) := fun d os => cell_regrown (hU6.cell 8) d os
     have x9 : ∀ d os, (grow (redrawn w6 d) os).cell? ⟨w3.heap.size, 9, none⟩ = some (.bool u.hasM) := fun d os => cell_regrown (hV6.cell 9) d os
     have y9 : ∀ d os, (grow (redrawn w6 d) os).cell? ⟨B9, 9, none⟩ = some (.bool u.hasM) := fun d os => cell_regrown (hU6.cell 9) d os
     have HB6 := Lib.hid hB6
     clear cc cr hB6 hV6 hU6
     rcases hsch with hs1 | hs1
     ·have e1 : (u.scheme == [104, 116, 116, 112]) = true := beq_iff_eq.2 hs1
      clear hs1
      go_upto_region 8 with fail
      refine wp_region_quiet_below (by kernel_rfl) (by kernel_rfl) ?_
      repeat (quiet_step (first | exact kc _ _ | exact kr _ _))
      refine wpQuiet_nil ?_
      intro _ hw'
      obtain ⟨⟨dq, osq⟩, hw''⟩ := hw'
      subst hw''
      have hbr := below_regrown w6 dq osq
      clear kc kr x0 y0 x1 y1 x2 y2 x3 y3 x4 y4 x5 y5 x6 y6 x7 y7 x8 y8 x9 y9 e1
      generalize grow (redrawn w6 dq) osq = w7 at *
      go_wp2_with fail
      go_ret
      exact ⟨rfl, below_next HB6.out hbr⟩
     ·have e1 : (u.scheme == [104, 116, 116, 112]) = false := by rw [hs1]; rfl
      have e2 : (u.scheme == [104, 116, 116, 112, 115]) = true := beq_iff_eq.2 hs1
      clear hs1
      go_upto_region 8 with fail
      refine wp_region_quiet_below (by kernel_rfl) (by kernel_rfl) ?_
      repeat (quiet_step (first | exact kc _ _ | exact kr _ _))
      refine wpQuiet_nil ?_
      intro _ hw'
      obtain ⟨⟨dq, osq⟩, hw''⟩ := hw'
      subst hw''
      have hbr := below_regrown w6 dq osq
      clear kc kr x0 y0 x1 y1 x2 y2 x3 y3 x4 y4 x5 y5 x6 y6 x7 y7 x8 y8 x9 y9 e1
      generalize grow (redrawn w6 dq) osq = w7 at *
      go_wp2_with fail
      go_ret
      exact ⟨rfl, below_next HB6.out hbr⟩
end Go.Proofs.YtgihofogkoeimaaGreatDoor
