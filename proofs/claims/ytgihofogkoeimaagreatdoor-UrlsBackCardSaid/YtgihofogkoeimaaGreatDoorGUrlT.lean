/- The walks of urls.Target, Port, Key and Text. -/
import Derived.Test.YtgihofogkoeimaaGreatDoorGUrl1
import Derived.Test.YtgihofogkoeimaaGreatDoorPct
import Derived.Test.YtgihofogkoeimaaGreatDoorGFmt
import Derived.Test.YtgihofogkoeimaaGreatDoorGHF
set_option linter.unusedVariables false
set_option linter.unusedSimpArgs false
namespace Go.Proofs.YtgihofogkoeimaaGreatDoor
open Go.RowKit
theorem jo_quest (a : List UInt8) : (ByteArray.mk a.toArray) ++ (ByteArray.mk #[63]) = ByteArray.mk (a ++ [63]).toArray := ba_append a [63]
theorem jo_sl (a : List UInt8) : (ByteArray.mk a.toArray) ++ (ByteArray.mk #[58, 47, 47]) = ByteArray.mk (a ++ [58, 47, 47]).toArray := ba_append a [58, 47, 47]
theorem jo_col (b : List UInt8) : (ByteArray.mk #[58]) ++ (ByteArray.mk b.toArray) = ByteArray.mk (58 :: b).toArray := ba_append [58] b
theorem jo_hash (b : List UInt8) : (ByteArray.mk #[35]) ++ (ByteArray.mk b.toArray) = ByteArray.mk (35 :: b).toArray := ba_append [35] b
attribute [local go_sem] jo_quest jo_sl jo_col jo_hash ba_append
def sizeU (u : UrlL) : Nat := u.scheme.length + u.user.length + u.pass.length + u.host.length + u.path.length + u.query.length + u.mark.length
set_option maxRecDepth 100000 in
set_option maxHeartbeats 1000000 in
theorem target_u (u : UrlL) (w : World) (hs : sizeU u ≤ 4000000000) :
  Calls Tryz.prog 20 #[urlV u] w fun e w' => e = .returned (.string ⟨(targetU u).toArray⟩) ∧ Below w.heap.size w w' := by
 have hb := (Below.refl w.heap.size w).alloc (Nat.le_refl _) (.cells (cellsU u).toArray 23)
 have ht : targetU u = if u.hasQ = true then u.path ++ 63 :: u.query else u.path := rfl
 have h1 : ¬ 9223372036854775807 < u.path.length + 1 := by unfold sizeU at hs; omega
 have h2 : ¬ 9223372036854775807 < (u.path ++ [63]).length + u.query.length := by unfold sizeU at hs; simp; omega
 have h3 : ¬ 9223372036854775807 < u.path.length + 1 + u.query.length := by unfold sizeU at hs; omega
 have h4 : ¬ 9223372036854775807 < u.path.length + (u.query.length + 1) := by unfold sizeU at hs; omega
 unfold urlV
 cases hq : u.hasQ with
 | true =>
  rw [hq] at ht
  have HT := Lib.hid ht
  clear ht
  go_enter Tryz.func20, Tryz.ntmps20
  go_wp2_with fail
  go_ret
  exact ⟨by rw [HT.out]; simp, by rw [cellsU, hq] at hb; exact hb⟩
 | false =>
  rw [hq] at ht
  have HT := Lib.hid ht
  clear ht
  go_enter Tryz.func20, Tryz.ntmps20
  go_wp2_with fail
  go_ret
  exact ⟨by rw [HT.out]; rfl, by rw [cellsU, hq] at hb; exact hb⟩
set_option maxRecDepth 100000 in
set_option maxHeartbeats 1000000 in
theorem portn_u (u : UrlL) (w : World) :
  Calls Tryz.prog 18 #[urlV u] w fun e w' => e = .returned (.int .i64 (portN u)) ∧ Below w.heap.size w w' := by
 have hb := (Below.refl w.heap.size w).alloc (Nat.le_refl _) (.cells (cellsU u).toArray 23)
 have ht : portN u = if 0 ≤ u.port then u.port else (ownP u.scheme : Int) := rfl
 have HB := Lib.hid hb
 clear hb
 unfold urlV
 by_cases hp : 0 ≤ u.port
 ·rw [if_pos hp] at ht
  have HT := Lib.hid ht
  clear ht
  go_enter Tryz.func18, Tryz.ntmps18
  go_wp2_with fail
  go_ret
  exact ⟨by rw [HT.out]; rfl, HB.out⟩
 ·rw [if_neg hp] at ht
  have HT := Lib.hid ht
  have co := own_p u.scheme
  clear ht
  go_enter Tryz.func18, Tryz.ntmps18
  go_wp2_with (go_at_call 37; refine (co _).mono ?_; rintro e w2 ⟨rfl, rfl⟩)
  go_ret
  exact ⟨by rw [HT.out]; rfl, HB.out⟩
theorem text_cut (u : UrlL) : textU u = (((((u.scheme ++ [58, 47, 47] ++ u.user) ++ (if u.pass = [] then [] else 58 :: u.pass)) ++ (if u.user = [] ∧ u.pass = [] then [] else [64])) ++ u.host) ++ (if 0 ≤ u.port then 58 :: decP u.port.toNat else [])) ++ targetU u ++ (if u.hasM = true then 35 :: u.mark else []) := by
 unfold textU
 simp
theorem decP_len (n : Nat) : (decP n).length ≤ 21 := (digF_len 10 20 n).2
set_option maxRecDepth 100000 in
set_option maxHeartbeats 4000000 in
theorem text_u (u : UrlL) (w : World) (hE : EnvH w) (hs : sizeU u ≤ 1000000000) (hport : u.port ≤ 9223372036854775807) :
  Calls Tryz.prog 14 #[urlV u] w fun e w' => e = .returned (.string ⟨(textU u).toArray⟩) ∧ Below w.heap.size w w' := by
 obtain ⟨w1, hw1⟩ : ∃ w1, w.alloc (.cells #[.string ⟨u.scheme.toArray⟩, .string ⟨u.user.toArray⟩, .string ⟨u.pass.toArray⟩, .string ⟨u.host.toArray⟩, .int .i64 u.port, .string ⟨u.path.toArray⟩, .string ⟨u.query.toArray⟩, .bool u.hasQ, .string ⟨u.mark.toArray⟩, .bool u.hasM] 23) = w1 := ⟨_, rfl⟩
 have hb1 : Below w.heap.size w w1 := by rw [← hw1]; exact (Below.refl w.heap.size w).alloc (Nat.le_refl _) _
 have hcell : ∀ W, Below w1.heap.size w1 W → ∀ k, W.cell? ⟨w.heap.size, k, none⟩ = (cellsU u)[k]? := fun W hW k => by
  rw [hW.cell (p := ⟨w.heap.size, k, none⟩) (by rw [← hw1, World.size_alloc]; exact Nat.lt_succ_self _), ← hw1, World.cell?_alloc_at _ _ _ _ rfl]
  simp [cellsU]
 have hsz : w1.heap.size = w.heap.size + 1 := by rw [← hw1]; exact World.size_alloc _ _
 have hst := pct_start w1
 rw [hsz] at hst
 have hcut := text_cut u
 have htl : (targetU u).length ≤ u.path.length + u.query.length + 1 := by unfold targetU; split <;> (try simp only [List.length_append, List.length_cons]) <;> omega
 have hdl := decP_len u.port.toNat
 unfold sizeU at hs
 have q0 : ∀ W, Below w1.heap.size w1 W → W.cell? ⟨w.heap.size, 0, none⟩ = some (.string ⟨u.scheme.toArray⟩) := fun W hW => hcell W hW 0
 have q1 : ∀ W, Below w1.heap.size w1 W → W.cell? ⟨w.heap.size, 1, none⟩ = some (.string ⟨u.user.toArray⟩) := fun W hW => hcell W hW 1
 have q2 : ∀ W, Below w1.heap.size w1 W → W.cell? ⟨w.heap.size, 2, none⟩ = some (.string ⟨u.pass.toArray⟩) := fun W hW => hcell W hW 2
 have q3 : ∀ W, Below w1.heap.size w1 W → W.cell? ⟨w.heap.size, 3, none⟩ = some (.string ⟨u.host.toArray⟩) := fun W hW => hcell W hW 3
 have q4 : ∀ W, Below w1.heap.size w1 W → W.cell? ⟨w.heap.size, 4, none⟩ = some (.int .i64 u.port) := fun W hW => hcell W hW 4
 have q5 : ∀ W, Below w1.heap.size w1 W → W.cell? ⟨w.heap.size, 5, none⟩ = some (.string ⟨u.path.toArray⟩) := fun W hW => hcell W hW 5
 have q6 : ∀ W, Below w1.heap.size w1 W → W.cell? ⟨w.heap.size, 6, none⟩ = some (.string ⟨u.query.toArray⟩) := fun W hW => hcell W hW 6
 have q7 : ∀ W, Below w1.heap.size w1 W → W.cell? ⟨w.heap.size, 7, none⟩ = some (.bool u.hasQ) := fun W hW => hcell W hW 7
 have q8 : ∀ W, Below w1.heap.size w1 W → W.cell? ⟨w.heap.size, 8, none⟩ = some (.string ⟨u.mark.toArray⟩) := fun W hW => hcell W hW 8
 have q9 : ∀ W, Below w1.heap.size w1 W → W.cell? ⟨w.heap.size, 9, none⟩ = some (.bool u.hasM) := fun W hW => hcell W hW 9
 have cws : ∀ (out s : List UInt8) W, PctMem w1 (w.heap.size + 1) out W → out.length + s.length ≤ 10000000000 → Calls Tryz.prog 30 #[.pointer (some ⟨w.heap.size + 1, 0, none⟩), .string ⟨s.toArray⟩] W fun e W' => e = .returned (.tuple #[.int .i64 (s.length : Int), .nilIface]) ∧ PctMem w1 (w.heap.size + 1) (out ++ s) W' := fun out s W hW hl =>
  (writeString_k (w.heap.size + 1) (w.heap.size + 1) _ s W hW.bld (by rw [Lib.byteCells_length]; omega) (by have := hW.low.size; omega)).mono fun e W' ⟨he, hb, hl, _⟩ => ⟨he, hW.more hb hl⟩
 have cwb : ∀ (out : List UInt8) W, PctMem w1 (w.heap.size + 1) out W → out.length ≤ 10000000000 → Calls Tryz.prog 31 #[.pointer (some ⟨w.heap.size + 1, 0, none⟩), .int .u8 64] W fun e W' => e = .returned .nilIface ∧ PctMem w1 (w.heap.size + 1) (out ++ [64]) W' := fun out W hW hl =>
  (writeByte_k (w.heap.size + 1) (w.heap.size + 1) _ _ W hW.bld (by rw [Lib.byteCells_length]; omega) (by have := hW.low.size; omega)).mono fun e W' ⟨he, hb, hl, _⟩ => ⟨he, hW.more (l := [64]) hb hl⟩
 have ct : ∀ (out : List UInt8) W, PctMem w1 (w.heap.size + 1) out W → Calls Tryz.prog 20 #[urlV u] W fun e W' => e = .returned (.string ⟨(targetU u).toArray⟩) ∧ PctMem w1 (w.heap.size + 1) out W' := fun out W hW =>
  (target_u u W (by unfold sizeU; omega)).mono fun e W' ⟨he, hb⟩ => ⟨he, hW.below hb⟩
 have cs : ∀ (out : List UInt8) W, PctMem w1 (w.heap.size + 1) out W → Calls Tryz.prog 33 #[.pointer (some ⟨w.heap.size + 1, 0, none⟩)] W fun e W' => e = .returned (.string ⟨out.toArray⟩) ∧ Below (w.heap.size + 1) W W' := fun out W hW =>
  (Tryz.Builder_String_any_k (w.heap.size + 1) (w.heap.size + 1) out W hW.bld (Nat.le_of_lt hW.sz)).mono fun e W' ⟨he, _, hb, _⟩ => ⟨he, hb⟩
 have HC := Lib.hid hcut
 have HW := Lib.hid hw1
 have hl : ∀ {W : World} {o : List UInt8}, PctMem w1 (w.heap.size + 1) o W → Below w1.heap.size w1 W := fun h => h.low
 have ci := fun (n : Nat) (hn : n ≤ 9223372036854775807) W (hW : Below w1.heap.size w1 W) => itoa_any n hn W ((hE.below hb1).below hW).pow
 clear hcell hcut hw1
 unfold urlV at ct ⊢
 have hsum : ∀ n, n ≤ 4000000000 → ¬ 9223372036854775807 < n := fun n hn => by omega
 have z1 := hsum (u.scheme.length + 3) (by omega)
 have z2 := hsum ((u.scheme ++ [58, 47, 47]).length + u.user.length) (by simp; omega)
 have z3 := hsum (u.scheme.length + 3 + u.user.length) (by omega)
 have z4 := hsum (1 + u.pass.length) (by omega)
 have z5 := hsum (u.user.length + u.pass.length) (by omega)
 have z6 := hsum (1 + (dec8 u.port.toNat).length) (by unfold decP at hdl; unfold dec8; omega)
 have z7 := hsum (1 + u.mark.length) (by omega)
 clear hsum
 rcases (show (∃ n : Nat, u.port = (n : Int)) ∨ ¬ 0 ≤ u.port from by
  by_cases h : 0 ≤ u.port
  ·exact .inl ⟨u.port.toNat, by omega⟩
  ·exact .inr h) with ⟨n, hn⟩ | ho
 ·have hn0 : 0 ≤ u.port := by omega
  have hnn : u.port.toNat = n := by omega
  have hpn : n ≤ 9223372036854775807 := by omega
  rw [hnn] at z6 hdl
  have hdl2 : (dec8 n).length ≤ 21 := hdl
  cases hM : u.hasM with
  | true =>
   by_cases hp : u.pass = []
   ·by_cases hu : u.user = []
    ·have b1 : (!u.pass.isEmpty) = false := by rw [hp]; rfl
     have b2 : (!(u.user ++ u.pass).isEmpty) = false := by rw [hp, hu]; rfl
     have HT : Hid (textU u = (((((u.scheme ++ [58, 47, 47] ++ u.user) ++ ([])) ++ ([])) ++ u.host) ++ (58 :: dec8 n)) ++ targetU u ++ (35 :: u.mark)) := by
      show _ = _
      rw [HC.out, if_pos hp, if_pos (⟨hu, hp⟩ : u.user = [] ∧ u.pass = []), if_pos hn0, hM]; first | rfl | (simp [decP, dec8, hnn])
     clear HC hp hu hnn hn0
     rw [hM] at HW ct q9
     rw [hn] at HW ct q4
     go_enter Tryz.func14, Tryz.ntmps14
     rw [hn]
     go_wp2_with fail
     rw [HW.out]
     go_at_call 30
     refine (cws _ _ _ hst (by simp only [List.length_append, List.length_cons, List.length_nil]; omega)).mono ?_
     rintro e W ⟨rfl, hm⟩
     have k0 := q0 _ (hl hm); have k1 := q1 _ (hl hm); have k2 := q2 _ (hl hm); have k3 := q3 _ (hl hm); have k4 := q4 _ (hl hm); have k5 := q5 _ (hl hm); have k6 := q6 _ (hl hm); have k7 := q7 _ (hl hm); have k8 := q8 _ (hl hm); have k9 := q9 _ (hl hm)
     go_wp2_with (first | (go_at_call 30; refine (cws _ _ _ (by assumption) (by simp only [List.length_append, List.length_cons, List.length_nil]; omega)).mono ?_; rintro e W ⟨rfl, hm⟩; have k0 := q0 _ (hl hm); have k1 := q1 _ (hl hm); have k2 := q2 _ (hl hm); have k3 := q3 _ (hl hm); have k4 := q4 _ (hl hm); have k5 := q5 _ (hl hm); have k6 := q6 _ (hl hm); have k7 := q7 _ (hl hm); have k8 := q8 _ (hl hm); have k9 := q9 _ (hl hm)) | (go_at_call 31; refine (cwb _ _ (by assumption) (by simp only [List.length_append, List.length_cons, List.length_nil]; omega)).mono ?_; rintro e W ⟨rfl, hm⟩; have k0 := q0 _ (hl hm); have k1 := q1 _ (hl hm); have k2 := q2 _ (hl hm); have k3 := q3 _ (hl hm); have k4 := q4 _ (hl hm); have k5 := q5 _ (hl hm); have k6 := q6 _ (hl hm); have k7 := q7 _ (hl hm); have k8 := q8 _ (hl hm); have k9 := q9 _ (hl hm)) | (go_at_call 20; refine (ct _ _ (by assumption)).mono ?_; rintro e W ⟨rfl, hm⟩; have k0 := q0 _ (hl hm); have k1 := q1 _ (hl hm); have k2 := q2 _ (hl hm); have k3 := q3 _ (hl hm); have k4 := q4 _ (hl hm); have k5 := q5 _ (hl hm); have k6 := q6 _ (hl hm); have k7 := q7 _ (hl hm); have k8 := q8 _ (hl hm); have k9 := q9 _ (hl hm)) | (go_at_call 32; refine (ci _ hpn _ (hl hm)).mono ?_; rintro e W3 ⟨rfl, hb3⟩; replace hm := hm.below hb3; have k0 := q0 _ (hl hm); have k1 := q1 _ (hl hm); have k2 := q2 _ (hl hm); have k3 := q3 _ (hl hm); have k4 := q4 _ (hl hm); have k5 := q5 _ (hl hm); have k6 := q6 _ (hl hm); have k7 := q7 _ (hl hm); have k8 := q8 _ (hl hm); have k9 := q9 _ (hl hm)) | (go_at_call 33; refine (cs _ _ (by assumption)).mono ?_; rintro e W2 ⟨rfl, hb2⟩))
     go_ret
     exact ⟨by rw [HT.out]; first | rfl | simp, (hb1.trans ((hl hm).mono (by omega))).trans (hb2.mono (by omega))⟩
    ·have b1 : (!u.pass.isEmpty) = false := by rw [hp]; rfl
     have b2 : (!(u.user ++ u.pass).isEmpty) = true := by cases hx : u.user with | nil => exact absurd hx hu | cons _ _ => rfl
     have HT : Hid (textU u = (((((u.scheme ++ [58, 47, 47] ++ u.user) ++ ([])) ++ ([64])) ++ u.host) ++ (58 :: dec8 n)) ++ targetU u ++ (35 :: u.mark)) := by
      show _ = _
      rw [HC.out, if_pos hp, if_neg (fun e : u.user = [] ∧ u.pass = [] => hu e.1), if_pos hn0, hM]; first | rfl | (simp [decP, dec8, hnn])
     clear HC hp hu hnn hn0
     rw [hM] at HW ct q9
     rw [hn] at HW ct q4
     go_enter Tryz.func14, Tryz.ntmps14
     rw [hn]
     go_wp2_with fail
     rw [HW.out]
     go_at_call 30
     refine (cws _ _ _ hst (by simp only [List.length_append, List.length_cons, List.length_nil]; omega)).mono ?_
     rintro e W ⟨rfl, hm⟩
     have k0 := q0 _ (hl hm); have k1 := q1 _ (hl hm); have k2 := q2 _ (hl hm); have k3 := q3 _ (hl hm); have k4 := q4 _ (hl hm); have k5 := q5 _ (hl hm); have k6 := q6 _ (hl hm); have k7 := q7 _ (hl hm); have k8 := q8 _ (hl hm); have k9 := q9 _ (hl hm)
     go_wp2_with (first | (go_at_call 30; refine (cws _ _ _ (by assumption) (by simp only [List.length_append, List.length_cons, List.length_nil]; omega)).mono ?_; rintro e W ⟨rfl, hm⟩; have k0 := q0 _ (hl hm); have k1 := q1 _ (hl hm); have k2 := q2 _ (hl hm); have k3 := q3 _ (hl hm); have k4 := q4 _ (hl hm); have k5 := q5 _ (hl hm); have k6 := q6 _ (hl hm); have k7 := q7 _ (hl hm); have k8 := q8 _ (hl hm); have k9 := q9 _ (hl hm)) | (go_at_call 31; refine (cwb _ _ (by assumption) (by simp only [List.length_append, List.length_cons, List.length_nil]; omega)).mono ?_; rintro e W ⟨rfl, hm⟩; have k0 := q0 _ (hl hm); have k1 := q1 _ (hl hm); have k2 := q2 _ (hl hm); have k3 := q3 _ (hl hm); have k4 := q4 _ (hl hm); have k5 := q5 _ (hl hm); have k6 := q6 _ (hl hm); have k7 := q7 _ (hl hm); have k8 := q8 _ (hl hm); have k9 := q9 _ (hl hm)) | (go_at_call 20; refine (ct _ _ (by assumption)).mono ?_; rintro e W ⟨rfl, hm⟩; have k0 := q0 _ (hl hm); have k1 := q1 _ (hl hm); have k2 := q2 _ (hl hm); have k3 := q3 _ (hl hm); have k4 := q4 _ (hl hm); have k5 := q5 _ (hl hm); have k6 := q6 _ (hl hm); have k7 := q7 _ (hl hm); have k8 := q8 _ (hl hm); have k9 := q9 _ (hl hm)) | (go_at_call 32; refine (ci _ hpn _ (hl hm)).mono ?_; rintro e W3 ⟨rfl, hb3⟩; replace hm := hm.below hb3; have k0 := q0 _ (hl hm); have k1 := q1 _ (hl hm); have k2 := q2 _ (hl hm); have k3 := q3 _ (hl hm); have k4 := q4 _ (hl hm); have k5 := q5 _ (hl hm); have k6 := q6 _ (hl hm); have k7 := q7 _ (hl hm); have k8 := q8 _ (hl hm); have k9 := q9 _ (hl hm)) | (go_at_call 33; refine (cs _ _ (by assumption)).mono ?_; rintro e W2 ⟨rfl, hb2⟩))
     go_ret
     exact ⟨by rw [HT.out]; first | rfl | simp, (hb1.trans ((hl hm).mono (by omega))).trans (hb2.mono (by omega))⟩
   ·have b1 : (!u.pass.isEmpty) = true := by cases hx : u.pass with | nil => exact absurd hx hp | cons _ _ => rfl
    have b2 : (!(u.user ++ u.pass).isEmpty) = true := by cases hx : u.pass with | nil => exact absurd hx hp | cons _ _ => simp
    have HT : Hid (textU u = (((((u.scheme ++ [58, 47, 47] ++ u.user) ++ (58 :: u.pass)) ++ ([64])) ++ u.host) ++ (58 :: dec8 n)) ++ targetU u ++ (35 :: u.mark)) := by
     show _ = _
     rw [HC.out, if_neg hp, if_neg (fun e : u.user = [] ∧ u.pass = [] => hp e.2), if_pos hn0, hM]; first | rfl | (simp [decP, dec8, hnn])
    clear HC hp hnn hn0
    rw [hM] at HW ct q9
    rw [hn] at HW ct q4
    go_enter Tryz.func14, Tryz.ntmps14
    rw [hn]
    go_wp2_with fail
    rw [HW.out]
    go_at_call 30
    refine (cws _ _ _ hst (by simp only [List.length_append, List.length_cons, List.length_nil]; omega)).mono ?_
    rintro e W ⟨rfl, hm⟩
    have k0 := q0 _ (hl hm); have k1 := q1 _ (hl hm); have k2 := q2 _ (hl hm); have k3 := q3 _ (hl hm); have k4 := q4 _ (hl hm); have k5 := q5 _ (hl hm); have k6 := q6 _ (hl hm); have k7 := q7 _ (hl hm); have k8 := q8 _ (hl hm); have k9 := q9 _ (hl hm)
    go_wp2_with (first | (go_at_call 30; refine (cws _ _ _ (by assumption) (by simp only [List.length_append, List.length_cons, List.length_nil]; omega)).mono ?_; rintro e W ⟨rfl, hm⟩; have k0 := q0 _ (hl hm); have k1 := q1 _ (hl hm); have k2 := q2 _ (hl hm); have k3 := q3 _ (hl hm); have k4 := q4 _ (hl hm); have k5 := q5 _ (hl hm); have k6 := q6 _ (hl hm); have k7 := q7 _ (hl hm); have k8 := q8 _ (hl hm); have k9 := q9 _ (hl hm)) | (go_at_call 31; refine (cwb _ _ (by assumption) (by simp only [List.length_append, List.length_cons, List.length_nil]; omega)).mono ?_; rintro e W ⟨rfl, hm⟩; have k0 := q0 _ (hl hm); have k1 := q1 _ (hl hm); have k2 := q2 _ (hl hm); have k3 := q3 _ (hl hm); have k4 := q4 _ (hl hm); have k5 := q5 _ (hl hm); have k6 := q6 _ (hl hm); have k7 := q7 _ (hl hm); have k8 := q8 _ (hl hm); have k9 := q9 _ (hl hm)) | (go_at_call 20; refine (ct _ _ (by assumption)).mono ?_; rintro e W ⟨rfl, hm⟩; have k0 := q0 _ (hl hm); have k1 := q1 _ (hl hm); have k2 := q2 _ (hl hm); have k3 := q3 _ (hl hm); have k4 := q4 _ (hl hm); have k5 := q5 _ (hl hm); have k6 := q6 _ (hl hm); have k7 := q7 _ (hl hm); have k8 := q8 _ (hl hm); have k9 := q9 _ (hl hm)) | (go_at_call 32; refine (ci _ hpn _ (hl hm)).mono ?_; rintro e W3 ⟨rfl, hb3⟩; replace hm := hm.below hb3; have k0 := q0 _ (hl hm); have k1 := q1 _ (hl hm); have k2 := q2 _ (hl hm); have k3 := q3 _ (hl hm); have k4 := q4 _ (hl hm); have k5 := q5 _ (hl hm); have k6 := q6 _ (hl hm); have k7 := q7 _ (hl hm); have k8 := q8 _ (hl hm); have k9 := q9 _ (hl hm)) | (go_at_call 33; refine (cs _ _ (by assumption)).mono ?_; rintro e W2 ⟨rfl, hb2⟩))
    go_ret
    exact ⟨by rw [HT.out]; first | rfl | simp, (hb1.trans ((hl hm).mono (by omega))).trans (hb2.mono (by omega))⟩
  | false =>
   by_cases hp : u.pass = []
   ·by_cases hu : u.user = []
    ·have b1 : (!u.pass.isEmpty) = false := by rw [hp]; rfl
     have b2 : (!(u.user ++ u.pass).isEmpty) = false := by rw [hp, hu]; rfl
     have HT : Hid (textU u = (((((u.scheme ++ [58, 47, 47] ++ u.user) ++ ([])) ++ ([])) ++ u.host) ++ (58 :: dec8 n)) ++ targetU u ++ ([])) := by
      show _ = _
      rw [HC.out, if_pos hp, if_pos (⟨hu, hp⟩ : u.user = [] ∧ u.pass = []), if_pos hn0, hM]; first | rfl | (simp [decP, dec8, hnn])
     clear HC hp hu hnn hn0
     rw [hM] at HW ct q9
     rw [hn] at HW ct q4
     go_enter Tryz.func14, Tryz.ntmps14
     rw [hn]
     go_wp2_with fail
     rw [HW.out]
     go_at_call 30
     refine (cws _ _ _ hst (by simp only [List.length_append, List.length_cons, List.length_nil]; omega)).mono ?_
     rintro e W ⟨rfl, hm⟩
     have k0 := q0 _ (hl hm); have k1 := q1 _ (hl hm); have k2 := q2 _ (hl hm); have k3 := q3 _ (hl hm); have k4 := q4 _ (hl hm); have k5 := q5 _ (hl hm); have k6 := q6 _ (hl hm); have k7 := q7 _ (hl hm); have k8 := q8 _ (hl hm); have k9 := q9 _ (hl hm)
     go_wp2_with (first | (go_at_call 30; refine (cws _ _ _ (by assumption) (by simp only [List.length_append, List.length_cons, List.length_nil]; omega)).mono ?_; rintro e W ⟨rfl, hm⟩; have k0 := q0 _ (hl hm); have k1 := q1 _ (hl hm); have k2 := q2 _ (hl hm); have k3 := q3 _ (hl hm); have k4 := q4 _ (hl hm); have k5 := q5 _ (hl hm); have k6 := q6 _ (hl hm); have k7 := q7 _ (hl hm); have k8 := q8 _ (hl hm); have k9 := q9 _ (hl hm)) | (go_at_call 31; refine (cwb _ _ (by assumption) (by simp only [List.length_append, List.length_cons, List.length_nil]; omega)).mono ?_; rintro e W ⟨rfl, hm⟩; have k0 := q0 _ (hl hm); have k1 := q1 _ (hl hm); have k2 := q2 _ (hl hm); have k3 := q3 _ (hl hm); have k4 := q4 _ (hl hm); have k5 := q5 _ (hl hm); have k6 := q6 _ (hl hm); have k7 := q7 _ (hl hm); have k8 := q8 _ (hl hm); have k9 := q9 _ (hl hm)) | (go_at_call 20; refine (ct _ _ (by assumption)).mono ?_; rintro e W ⟨rfl, hm⟩; have k0 := q0 _ (hl hm); have k1 := q1 _ (hl hm); have k2 := q2 _ (hl hm); have k3 := q3 _ (hl hm); have k4 := q4 _ (hl hm); have k5 := q5 _ (hl hm); have k6 := q6 _ (hl hm); have k7 := q7 _ (hl hm); have k8 := q8 _ (hl hm); have k9 := q9 _ (hl hm)) | (go_at_call 32; refine (ci _ hpn _ (hl hm)).mono ?_; rintro e W3 ⟨rfl, hb3⟩; replace hm := hm.below hb3; have k0 := q0 _ (hl hm); have k1 := q1 _ (hl hm); have k2 := q2 _ (hl hm); have k3 := q3 _ (hl hm); have k4 := q4 _ (hl hm); have k5 := q5 _ (hl hm); have k6 := q6 _ (hl hm); have k7 := q7 _ (hl hm); have k8 := q8 _ (hl hm); have k9 := q9 _ (hl hm)) | (go_at_call 33; refine (cs _ _ (by assumption)).mono ?_; rintro e W2 ⟨rfl, hb2⟩))
     go_ret
     exact ⟨by rw [HT.out]; first | rfl | simp, (hb1.trans ((hl hm).mono (by omega))).trans (hb2.mono (by omega))⟩
    ·have b1 : (!u.pass.isEmpty) = false := by rw [hp]; rfl
     have b2 : (!(u.user ++ u.pass).isEmpty) = true := by cases hx : u.user with | nil => exact absurd hx hu | cons _ _ => rfl
     have HT : Hid (textU u = (((((u.scheme ++ [58, 47, 47] ++ u.user) ++ ([])) ++ ([64])) ++ u.host) ++ (58 :: dec8 n)) ++ targetU u ++ ([])) := by
      show _ = _
      rw [HC.out, if_pos hp, if_neg (fun e : u.user = [] ∧ u.pass = [] => hu e.1), if_pos hn0, hM]; first | rfl | (simp [decP, dec8, hnn])
     clear HC hp hu hnn hn0
     rw [hM] at HW ct q9
     rw [hn] at HW ct q4
     go_enter Tryz.func14, Tryz.ntmps14
     rw [hn]
     go_wp2_with fail
     rw [HW.out]
     go_at_call 30
     refine (cws _ _ _ hst (by simp only [List.length_append, List.length_cons, List.length_nil]; omega)).mono ?_
     rintro e W ⟨rfl, hm⟩
     have k0 := q0 _ (hl hm); have k1 := q1 _ (hl hm); have k2 := q2 _ (hl hm); have k3 := q3 _ (hl hm); have k4 := q4 _ (hl hm); have k5 := q5 _ (hl hm); have k6 := q6 _ (hl hm); have k7 := q7 _ (hl hm); have k8 := q8 _ (hl hm); have k9 := q9 _ (hl hm)
     go_wp2_with (first | (go_at_call 30; refine (cws _ _ _ (by assumption) (by simp only [List.length_append, List.length_cons, List.length_nil]; omega)).mono ?_; rintro e W ⟨rfl, hm⟩; have k0 := q0 _ (hl hm); have k1 := q1 _ (hl hm); have k2 := q2 _ (hl hm); have k3 := q3 _ (hl hm); have k4 := q4 _ (hl hm); have k5 := q5 _ (hl hm); have k6 := q6 _ (hl hm); have k7 := q7 _ (hl hm); have k8 := q8 _ (hl hm); have k9 := q9 _ (hl hm)) | (go_at_call 31; refine (cwb _ _ (by assumption) (by simp only [List.length_append, List.length_cons, List.length_nil]; omega)).mono ?_; rintro e W ⟨rfl, hm⟩; have k0 := q0 _ (hl hm); have k1 := q1 _ (hl hm); have k2 := q2 _ (hl hm); have k3 := q3 _ (hl hm); have k4 := q4 _ (hl hm); have k5 := q5 _ (hl hm); have k6 := q6 _ (hl hm); have k7 := q7 _ (hl hm); have k8 := q8 _ (hl hm); have k9 := q9 _ (hl hm)) | (go_at_call 20; refine (ct _ _ (by assumption)).mono ?_; rintro e W ⟨rfl, hm⟩; have k0 := q0 _ (hl hm); have k1 := q1 _ (hl hm); have k2 := q2 _ (hl hm); have k3 := q3 _ (hl hm); have k4 := q4 _ (hl hm); have k5 := q5 _ (hl hm); have k6 := q6 _ (hl hm); have k7 := q7 _ (hl hm); have k8 := q8 _ (hl hm); have k9 := q9 _ (hl hm)) | (go_at_call 32; refine (ci _ hpn _ (hl hm)).mono ?_; rintro e W3 ⟨rfl, hb3⟩; replace hm := hm.below hb3; have k0 := q0 _ (hl hm); have k1 := q1 _ (hl hm); have k2 := q2 _ (hl hm); have k3 := q3 _ (hl hm); have k4 := q4 _ (hl hm); have k5 := q5 _ (hl hm); have k6 := q6 _ (hl hm); have k7 := q7 _ (hl hm); have k8 := q8 _ (hl hm); have k9 := q9 _ (hl hm)) | (go_at_call 33; refine (cs _ _ (by assumption)).mono ?_; rintro e W2 ⟨rfl, hb2⟩))
     go_ret
     exact ⟨by rw [HT.out]; first | rfl | simp, (hb1.trans ((hl hm).mono (by omega))).trans (hb2.mono (by omega))⟩
   ·have b1 : (!u.pass.isEmpty) = true := by cases hx : u.pass with | nil => exact absurd hx hp | cons _ _ => rfl
    have b2 : (!(u.user ++ u.pass).isEmpty) = true := by cases hx : u.pass with | nil => exact absurd hx hp | cons _ _ => simp
    have HT : Hid (textU u = (((((u.scheme ++ [58, 47, 47] ++ u.user) ++ (58 :: u.pass)) ++ ([64])) ++ u.host) ++ (58 :: dec8 n)) ++ targetU u ++ ([])) := by
     show _ = _
     rw [HC.out, if_neg hp, if_neg (fun e : u.user = [] ∧ u.pass = [] => hp e.2), if_pos hn0, hM]; first | rfl | (simp [decP, dec8, hnn])
    clear HC hp hnn hn0
    rw [hM] at HW ct q9
    rw [hn] at HW ct q4
    go_enter Tryz.func14, Tryz.ntmps14
    rw [hn]
    go_wp2_with fail
    rw [HW.out]
    go_at_call 30
    refine (cws _ _ _ hst (by simp only [List.length_append, List.length_cons, List.length_nil]; omega)).mono ?_
    rintro e W ⟨rfl, hm⟩
    have k0 := q0 _ (hl hm); have k1 := q1 _ (hl hm); have k2 := q2 _ (hl hm); have k3 := q3 _ (hl hm); have k4 := q4 _ (hl hm); have k5 := q5 _ (hl hm); have k6 := q6 _ (hl hm); have k7 := q7 _ (hl hm); have k8 := q8 _ (hl hm); have k9 := q9 _ (hl hm)
    go_wp2_with (first | (go_at_call 30; refine (cws _ _ _ (by assumption) (by simp only [List.length_append, List.length_cons, List.length_nil]; omega)).mono ?_; rintro e W ⟨rfl, hm⟩; have k0 := q0 _ (hl hm); have k1 := q1 _ (hl hm); have k2 := q2 _ (hl hm); have k3 := q3 _ (hl hm); have k4 := q4 _ (hl hm); have k5 := q5 _ (hl hm); have k6 := q6 _ (hl hm); have k7 := q7 _ (hl hm); have k8 := q8 _ (hl hm); have k9 := q9 _ (hl hm)) | (go_at_call 31; refine (cwb _ _ (by assumption) (by simp only [List.length_append, List.length_cons, List.length_nil]; omega)).mono ?_; rintro e W ⟨rfl, hm⟩; have k0 := q0 _ (hl hm); have k1 := q1 _ (hl hm); have k2 := q2 _ (hl hm); have k3 := q3 _ (hl hm); have k4 := q4 _ (hl hm); have k5 := q5 _ (hl hm); have k6 := q6 _ (hl hm); have k7 := q7 _ (hl hm); have k8 := q8 _ (hl hm); have k9 := q9 _ (hl hm)) | (go_at_call 20; refine (ct _ _ (by assumption)).mono ?_; rintro e W ⟨rfl, hm⟩; have k0 := q0 _ (hl hm); have k1 := q1 _ (hl hm); have k2 := q2 _ (hl hm); have k3 := q3 _ (hl hm); have k4 := q4 _ (hl hm); have k5 := q5 _ (hl hm); have k6 := q6 _ (hl hm); have k7 := q7 _ (hl hm); have k8 := q8 _ (hl hm); have k9 := q9 _ (hl hm)) | (go_at_call 32; refine (ci _ hpn _ (hl hm)).mono ?_; rintro e W3 ⟨rfl, hb3⟩; replace hm := hm.below hb3; have k0 := q0 _ (hl hm); have k1 := q1 _ (hl hm); have k2 := q2 _ (hl hm); have k3 := q3 _ (hl hm); have k4 := q4 _ (hl hm); have k5 := q5 _ (hl hm); have k6 := q6 _ (hl hm); have k7 := q7 _ (hl hm); have k8 := q8 _ (hl hm); have k9 := q9 _ (hl hm)) | (go_at_call 33; refine (cs _ _ (by assumption)).mono ?_; rintro e W2 ⟨rfl, hb2⟩))
    go_ret
    exact ⟨by rw [HT.out]; first | rfl | simp, (hb1.trans ((hl hm).mono (by omega))).trans (hb2.mono (by omega))⟩
 ·cases hM : u.hasM with
  | true =>
   by_cases hp : u.pass = []
   ·by_cases hu : u.user = []
    ·have b1 : (!u.pass.isEmpty) = false := by rw [hp]; rfl
     have b2 : (!(u.user ++ u.pass).isEmpty) = false := by rw [hp, hu]; rfl
     have HT : Hid (textU u = (((((u.scheme ++ [58, 47, 47] ++ u.user) ++ ([])) ++ ([])) ++ u.host) ++ ([])) ++ targetU u ++ (35 :: u.mark)) := by
      show _ = _
      rw [HC.out, if_pos hp, if_pos (⟨hu, hp⟩ : u.user = [] ∧ u.pass = []), if_neg ho, hM]; first | rfl | simp
     clear HC hp hu
     rw [hM] at HW ct q9
     go_enter Tryz.func14, Tryz.ntmps14
     go_wp2_with fail
     rw [HW.out]
     go_at_call 30
     refine (cws _ _ _ hst (by simp only [List.length_append, List.length_cons, List.length_nil]; omega)).mono ?_
     rintro e W ⟨rfl, hm⟩
     have k0 := q0 _ (hl hm); have k1 := q1 _ (hl hm); have k2 := q2 _ (hl hm); have k3 := q3 _ (hl hm); have k4 := q4 _ (hl hm); have k5 := q5 _ (hl hm); have k6 := q6 _ (hl hm); have k7 := q7 _ (hl hm); have k8 := q8 _ (hl hm); have k9 := q9 _ (hl hm)
     go_wp2_with (first | (go_at_call 30; refine (cws _ _ _ (by assumption) (by simp only [List.length_append, List.length_cons, List.length_nil]; omega)).mono ?_; rintro e W ⟨rfl, hm⟩; have k0 := q0 _ (hl hm); have k1 := q1 _ (hl hm); have k2 := q2 _ (hl hm); have k3 := q3 _ (hl hm); have k4 := q4 _ (hl hm); have k5 := q5 _ (hl hm); have k6 := q6 _ (hl hm); have k7 := q7 _ (hl hm); have k8 := q8 _ (hl hm); have k9 := q9 _ (hl hm)) | (go_at_call 31; refine (cwb _ _ (by assumption) (by simp only [List.length_append, List.length_cons, List.length_nil]; omega)).mono ?_; rintro e W ⟨rfl, hm⟩; have k0 := q0 _ (hl hm); have k1 := q1 _ (hl hm); have k2 := q2 _ (hl hm); have k3 := q3 _ (hl hm); have k4 := q4 _ (hl hm); have k5 := q5 _ (hl hm); have k6 := q6 _ (hl hm); have k7 := q7 _ (hl hm); have k8 := q8 _ (hl hm); have k9 := q9 _ (hl hm)) | (go_at_call 20; refine (ct _ _ (by assumption)).mono ?_; rintro e W ⟨rfl, hm⟩; have k0 := q0 _ (hl hm); have k1 := q1 _ (hl hm); have k2 := q2 _ (hl hm); have k3 := q3 _ (hl hm); have k4 := q4 _ (hl hm); have k5 := q5 _ (hl hm); have k6 := q6 _ (hl hm); have k7 := q7 _ (hl hm); have k8 := q8 _ (hl hm); have k9 := q9 _ (hl hm)) | (go_at_call 33; refine (cs _ _ (by assumption)).mono ?_; rintro e W2 ⟨rfl, hb2⟩))
     go_ret
     exact ⟨by rw [HT.out]; first | rfl | simp, (hb1.trans ((hl hm).mono (by omega))).trans (hb2.mono (by omega))⟩
    ·have b1 : (!u.pass.isEmpty) = false := by rw [hp]; rfl
     have b2 : (!(u.user ++ u.pass).isEmpty) = true := by cases hx : u.user with | nil => exact absurd hx hu | cons _ _ => rfl
     have HT : Hid (textU u = (((((u.scheme ++ [58, 47, 47] ++ u.user) ++ ([])) ++ ([64])) ++ u.host) ++ ([])) ++ targetU u ++ (35 :: u.mark)) := by
      show _ = _
      rw [HC.out, if_pos hp, if_neg (fun e : u.user = [] ∧ u.pass = [] => hu e.1), if_neg ho, hM]; first | rfl | simp
     clear HC hp hu
     rw [hM] at HW ct q9
     go_enter Tryz.func14, Tryz.ntmps14
     go_wp2_with fail
     rw [HW.out]
     go_at_call 30
     refine (cws _ _ _ hst (by simp only [List.length_append, List.length_cons, List.length_nil]; omega)).mono ?_
     rintro e W ⟨rfl, hm⟩
     have k0 := q0 _ (hl hm); have k1 := q1 _ (hl hm); have k2 := q2 _ (hl hm); have k3 := q3 _ (hl hm); have k4 := q4 _ (hl hm); have k5 := q5 _ (hl hm); have k6 := q6 _ (hl hm); have k7 := q7 _ (hl hm); have k8 := q8 _ (hl hm); have k9 := q9 _ (hl hm)
     go_wp2_with (first | (go_at_call 30; refine (cws _ _ _ (by assumption) (by simp only [List.length_append, List.length_cons, List.length_nil]; omega)).mono ?_; rintro e W ⟨rfl, hm⟩; have k0 := q0 _ (hl hm); have k1 := q1 _ (hl hm); have k2 := q2 _ (hl hm); have k3 := q3 _ (hl hm); have k4 := q4 _ (hl hm); have k5 := q5 _ (hl hm); have k6 := q6 _ (hl hm); have k7 := q7 _ (hl hm); have k8 := q8 _ (hl hm); have k9 := q9 _ (hl hm)) | (go_at_call 31; refine (cwb _ _ (by assumption) (by simp only [List.length_append, List.length_cons, List.length_nil]; omega)).mono ?_; rintro e W ⟨rfl, hm⟩; have k0 := q0 _ (hl hm); have k1 := q1 _ (hl hm); have k2 := q2 _ (hl hm); have k3 := q3 _ (hl hm); have k4 := q4 _ (hl hm); have k5 := q5 _ (hl hm); have k6 := q6 _ (hl hm); have k7 := q7 _ (hl hm); have k8 := q8 _ (hl hm); have k9 := q9 _ (hl hm)) | (go_at_call 20; refine (ct _ _ (by assumption)).mono ?_; rintro e W ⟨rfl, hm⟩; have k0 := q0 _ (hl hm); have k1 := q1 _ (hl hm); have k2 := q2 _ (hl hm); have k3 := q3 _ (hl hm); have k4 := q4 _ (hl hm); have k5 := q5 _ (hl hm); have k6 := q6 _ (hl hm); have k7 := q7 _ (hl hm); have k8 := q8 _ (hl hm); have k9 := q9 _ (hl hm)) | (go_at_call 33; refine (cs _ _ (by assumption)).mono ?_; rintro e W2 ⟨rfl, hb2⟩))
     go_ret
     exact ⟨by rw [HT.out]; first | rfl | simp, (hb1.trans ((hl hm).mono (by omega))).trans (hb2.mono (by omega))⟩
   ·have b1 : (!u.pass.isEmpty) = true := by cases hx : u.pass with | nil => exact absurd hx hp | cons _ _ => rfl
    have b2 : (!(u.user ++ u.pass).isEmpty) = true := by cases hx : u.pass with | nil => exact absurd hx hp | cons _ _ => simp
    have HT : Hid (textU u = (((((u.scheme ++ [58, 47, 47] ++ u.user) ++ (58 :: u.pass)) ++ ([64])) ++ u.host) ++ ([])) ++ targetU u ++ (35 :: u.mark)) := by
     show _ = _
     rw [HC.out, if_neg hp, if_neg (fun e : u.user = [] ∧ u.pass = [] => hp e.2), if_neg ho, hM]; first | rfl | simp
    clear HC hp
    rw [hM] at HW ct q9
    go_enter Tryz.func14, Tryz.ntmps14
    go_wp2_with fail
    rw [HW.out]
    go_at_call 30
    refine (cws _ _ _ hst (by simp only [List.length_append, List.length_cons, List.length_nil]; omega)).mono ?_
    rintro e W ⟨rfl, hm⟩
    have k0 := q0 _ (hl hm); have k1 := q1 _ (hl hm); have k2 := q2 _ (hl hm); have k3 := q3 _ (hl hm); have k4 := q4 _ (hl hm); have k5 := q5 _ (hl hm); have k6 := q6 _ (hl hm); have k7 := q7 _ (hl hm); have k8 := q8 _ (hl hm); have k9 := q9 _ (hl hm)
    go_wp2_with (first | (go_at_call 30; refine (cws _ _ _ (by assumption) (by simp only [List.length_append, List.length_cons, List.length_nil]; omega)).mono ?_; rintro e W ⟨rfl, hm⟩; have k0 := q0 _ (hl hm); have k1 := q1 _ (hl hm); have k2 := q2 _ (hl hm); have k3 := q3 _ (hl hm); have k4 := q4 _ (hl hm); have k5 := q5 _ (hl hm); have k6 := q6 _ (hl hm); have k7 := q7 _ (hl hm); have k8 := q8 _ (hl hm); have k9 := q9 _ (hl hm)) | (go_at_call 31; refine (cwb _ _ (by assumption) (by simp only [List.length_append, List.length_cons, List.length_nil]; omega)).mono ?_; rintro e W ⟨rfl, hm⟩; have k0 := q0 _ (hl hm); have k1 := q1 _ (hl hm); have k2 := q2 _ (hl hm); have k3 := q3 _ (hl hm); have k4 := q4 _ (hl hm); have k5 := q5 _ (hl hm); have k6 := q6 _ (hl hm); have k7 := q7 _ (hl hm); have k8 := q8 _ (hl hm); have k9 := q9 _ (hl hm)) | (go_at_call 20; refine (ct _ _ (by assumption)).mono ?_; rintro e W ⟨rfl, hm⟩; have k0 := q0 _ (hl hm); have k1 := q1 _ (hl hm); have k2 := q2 _ (hl hm); have k3 := q3 _ (hl hm); have k4 := q4 _ (hl hm); have k5 := q5 _ (hl hm); have k6 := q6 _ (hl hm); have k7 := q7 _ (hl hm); have k8 := q8 _ (hl hm); have k9 := q9 _ (hl hm)) | (go_at_call 33; refine (cs _ _ (by assumption)).mono ?_; rintro e W2 ⟨rfl, hb2⟩))
    go_ret
    exact ⟨by rw [HT.out]; first | rfl | simp, (hb1.trans ((hl hm).mono (by omega))).trans (hb2.mono (by omega))⟩
  | false =>
   by_cases hp : u.pass = []
   ·by_cases hu : u.user = []
    ·have b1 : (!u.pass.isEmpty) = false := by rw [hp]; rfl
     have b2 : (!(u.user ++ u.pass).isEmpty) = false := by rw [hp, hu]; rfl
     have HT : Hid (textU u = (((((u.scheme ++ [58, 47, 47] ++ u.user) ++ ([])) ++ ([])) ++ u.host) ++ ([])) ++ targetU u ++ ([])) := by
      show _ = _
      rw [HC.out, if_pos hp, if_pos (⟨hu, hp⟩ : u.user = [] ∧ u.pass = []), if_neg ho, hM]; first | rfl | simp
     clear HC hp hu
     rw [hM] at HW ct q9
     go_enter Tryz.func14, Tryz.ntmps14
     go_wp2_with fail
     rw [HW.out]
     go_at_call 30
     refine (cws _ _ _ hst (by simp only [List.length_append, List.length_cons, List.length_nil]; omega)).mono ?_
     rintro e W ⟨rfl, hm⟩
     have k0 := q0 _ (hl hm); have k1 := q1 _ (hl hm); have k2 := q2 _ (hl hm); have k3 := q3 _ (hl hm); have k4 := q4 _ (hl hm); have k5 := q5 _ (hl hm); have k6 := q6 _ (hl hm); have k7 := q7 _ (hl hm); have k8 := q8 _ (hl hm); have k9 := q9 _ (hl hm)
     go_wp2_with (first | (go_at_call 30; refine (cws _ _ _ (by assumption) (by simp only [List.length_append, List.length_cons, List.length_nil]; omega)).mono ?_; rintro e W ⟨rfl, hm⟩; have k0 := q0 _ (hl hm); have k1 := q1 _ (hl hm); have k2 := q2 _ (hl hm); have k3 := q3 _ (hl hm); have k4 := q4 _ (hl hm); have k5 := q5 _ (hl hm); have k6 := q6 _ (hl hm); have k7 := q7 _ (hl hm); have k8 := q8 _ (hl hm); have k9 := q9 _ (hl hm)) | (go_at_call 31; refine (cwb _ _ (by assumption) (by simp only [List.length_append, List.length_cons, List.length_nil]; omega)).mono ?_; rintro e W ⟨rfl, hm⟩; have k0 := q0 _ (hl hm); have k1 := q1 _ (hl hm); have k2 := q2 _ (hl hm); have k3 := q3 _ (hl hm); have k4 := q4 _ (hl hm); have k5 := q5 _ (hl hm); have k6 := q6 _ (hl hm); have k7 := q7 _ (hl hm); have k8 := q8 _ (hl hm); have k9 := q9 _ (hl hm)) | (go_at_call 20; refine (ct _ _ (by assumption)).mono ?_; rintro e W ⟨rfl, hm⟩; have k0 := q0 _ (hl hm); have k1 := q1 _ (hl hm); have k2 := q2 _ (hl hm); have k3 := q3 _ (hl hm); have k4 := q4 _ (hl hm); have k5 := q5 _ (hl hm); have k6 := q6 _ (hl hm); have k7 := q7 _ (hl hm); have k8 := q8 _ (hl hm); have k9 := q9 _ (hl hm)) | (go_at_call 33; refine (cs _ _ (by assumption)).mono ?_; rintro e W2 ⟨rfl, hb2⟩))
     go_ret
     exact ⟨by rw [HT.out]; first | rfl | simp, (hb1.trans ((hl hm).mono (by omega))).trans (hb2.mono (by omega))⟩
    ·have b1 : (!u.pass.isEmpty) = false := by rw [hp]; rfl
     have b2 : (!(u.user ++ u.pass).isEmpty) = true := by cases hx : u.user with | nil => exact absurd hx hu | cons _ _ => rfl
     have HT : Hid (textU u = (((((u.scheme ++ [58, 47, 47] ++ u.user) ++ ([])) ++ ([64])) ++ u.host) ++ ([])) ++ targetU u ++ ([])) := by
      show _ = _
      rw [HC.out, if_pos hp, if_neg (fun e : u.user = [] ∧ u.pass = [] => hu e.1), if_neg ho, hM]; first | rfl | simp
     clear HC hp hu
     rw [hM] at HW ct q9
     go_enter Tryz.func14, Tryz.ntmps14
     go_wp2_with fail
     rw [HW.out]
     go_at_call 30
     refine (cws _ _ _ hst (by simp only [List.length_append, List.length_cons, List.length_nil]; omega)).mono ?_
     rintro e W ⟨rfl, hm⟩
     have k0 := q0 _ (hl hm); have k1 := q1 _ (hl hm); have k2 := q2 _ (hl hm); have k3 := q3 _ (hl hm); have k4 := q4 _ (hl hm); have k5 := q5 _ (hl hm); have k6 := q6 _ (hl hm); have k7 := q7 _ (hl hm); have k8 := q8 _ (hl hm); have k9 := q9 _ (hl hm)
     go_wp2_with (first | (go_at_call 30; refine (cws _ _ _ (by assumption) (by simp only [List.length_append, List.length_cons, List.length_nil]; omega)).mono ?_; rintro e W ⟨rfl, hm⟩; have k0 := q0 _ (hl hm); have k1 := q1 _ (hl hm); have k2 := q2 _ (hl hm); have k3 := q3 _ (hl hm); have k4 := q4 _ (hl hm); have k5 := q5 _ (hl hm); have k6 := q6 _ (hl hm); have k7 := q7 _ (hl hm); have k8 := q8 _ (hl hm); have k9 := q9 _ (hl hm)) | (go_at_call 31; refine (cwb _ _ (by assumption) (by simp only [List.length_append, List.length_cons, List.length_nil]; omega)).mono ?_; rintro e W ⟨rfl, hm⟩; have k0 := q0 _ (hl hm); have k1 := q1 _ (hl hm); have k2 := q2 _ (hl hm); have k3 := q3 _ (hl hm); have k4 := q4 _ (hl hm); have k5 := q5 _ (hl hm); have k6 := q6 _ (hl hm); have k7 := q7 _ (hl hm); have k8 := q8 _ (hl hm); have k9 := q9 _ (hl hm)) | (go_at_call 20; refine (ct _ _ (by assumption)).mono ?_; rintro e W ⟨rfl, hm⟩; have k0 := q0 _ (hl hm); have k1 := q1 _ (hl hm); have k2 := q2 _ (hl hm); have k3 := q3 _ (hl hm); have k4 := q4 _ (hl hm); have k5 := q5 _ (hl hm); have k6 := q6 _ (hl hm); have k7 := q7 _ (hl hm); have k8 := q8 _ (hl hm); have k9 := q9 _ (hl hm)) | (go_at_call 33; refine (cs _ _ (by assumption)).mono ?_; rintro e W2 ⟨rfl, hb2⟩))
     go_ret
     exact ⟨by rw [HT.out]; first | rfl | simp, (hb1.trans ((hl hm).mono (by omega))).trans (hb2.mono (by omega))⟩
   ·have b1 : (!u.pass.isEmpty) = true := by cases hx : u.pass with | nil => exact absurd hx hp | cons _ _ => rfl
    have b2 : (!(u.user ++ u.pass).isEmpty) = true := by cases hx : u.pass with | nil => exact absurd hx hp | cons _ _ => simp
    have HT : Hid (textU u = (((((u.scheme ++ [58, 47, 47] ++ u.user) ++ (58 :: u.pass)) ++ ([64])) ++ u.host) ++ ([])) ++ targetU u ++ ([])) := by
     show _ = _
     rw [HC.out, if_neg hp, if_neg (fun e : u.user = [] ∧ u.pass = [] => hp e.2), if_neg ho, hM]; first | rfl | simp
    clear HC hp
    rw [hM] at HW ct q9
    go_enter Tryz.func14, Tryz.ntmps14
    go_wp2_with fail
    rw [HW.out]
    go_at_call 30
    refine (cws _ _ _ hst (by simp only [List.length_append, List.length_cons, List.length_nil]; omega)).mono ?_
    rintro e W ⟨rfl, hm⟩
    have k0 := q0 _ (hl hm); have k1 := q1 _ (hl hm); have k2 := q2 _ (hl hm); have k3 := q3 _ (hl hm); have k4 := q4 _ (hl hm); have k5 := q5 _ (hl hm); have k6 := q6 _ (hl hm); have k7 := q7 _ (hl hm); have k8 := q8 _ (hl hm); have k9 := q9 _ (hl hm)
    go_wp2_with (first | (go_at_call 30; refine (cws _ _ _ (by assumption) (by simp only [List.length_append, List.length_cons, List.length_nil]; omega)).mono ?_; rintro e W ⟨rfl, hm⟩; have k0 := q0 _ (hl hm); have k1 := q1 _ (hl hm); have k2 := q2 _ (hl hm); have k3 := q3 _ (hl hm); have k4 := q4 _ (hl hm); have k5 := q5 _ (hl hm); have k6 := q6 _ (hl hm); have k7 := q7 _ (hl hm); have k8 := q8 _ (hl hm); have k9 := q9 _ (hl hm)) | (go_at_call 31; refine (cwb _ _ (by assumption) (by simp only [List.length_append, List.length_cons, List.length_nil]; omega)).mono ?_; rintro e W ⟨rfl, hm⟩; have k0 := q0 _ (hl hm); have k1 := q1 _ (hl hm); have k2 := q2 _ (hl hm); have k3 := q3 _ (hl hm); have k4 := q4 _ (hl hm); have k5 := q5 _ (hl hm); have k6 := q6 _ (hl hm); have k7 := q7 _ (hl hm); have k8 := q8 _ (hl hm); have k9 := q9 _ (hl hm)) | (go_at_call 20; refine (ct _ _ (by assumption)).mono ?_; rintro e W ⟨rfl, hm⟩; have k0 := q0 _ (hl hm); have k1 := q1 _ (hl hm); have k2 := q2 _ (hl hm); have k3 := q3 _ (hl hm); have k4 := q4 _ (hl hm); have k5 := q5 _ (hl hm); have k6 := q6 _ (hl hm); have k7 := q7 _ (hl hm); have k8 := q8 _ (hl hm); have k9 := q9 _ (hl hm)) | (go_at_call 33; refine (cs _ _ (by assumption)).mono ?_; rintro e W2 ⟨rfl, hb2⟩))
    go_ret
    exact ⟨by rw [HT.out]; first | rfl | simp, (hb1.trans ((hl hm).mono (by omega))).trans (hb2.mono (by omega))⟩
end Go.Proofs.YtgihofogkoeimaaGreatDoor
namespace Go.Proofs.YtgihofogkoeimaaGreatDoor
open Go.RowKit
theorem idle_u (c : UInt8) (w : World) : Calls Tryz.prog 50 #[.int .i32 (c.toNat : Int)] w fun r w' => r = .returned (.bool (idleB c)) ∧ w = w' := by
 have hm : idleB c = decide (c.toNat ≤ 32) := rfl
 by_cases h : c.toNat ≤ 32
 ·rw [decide_eq_true h] at hm
  have hi : (c.toNat : Int) ≤ 32 := by omega
  have HM := Lib.hid hm
  clear hm h
  go_enter Tryz.func50, Tryz.ntmps50
  go_wp2_with fail
  go_ret
  exact ⟨by rw [HM.out]; rfl, rfl⟩
 ·rw [decide_eq_false h] at hm
  have hi : ¬ (c.toNat : Int) ≤ 32 := by omega
  have HM := Lib.hid hm
  clear hm h
  go_enter Tryz.func50, Tryz.ntmps50
  go_wp2_with fail
  go_ret
  exact ⟨by rw [HM.out]; rfl, rfl⟩
end Go.Proofs.YtgihofogkoeimaaGreatDoor
