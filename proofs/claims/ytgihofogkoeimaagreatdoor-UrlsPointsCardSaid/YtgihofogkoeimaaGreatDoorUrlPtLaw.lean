/- The law UrlsPoints walked. -/
import Derived.Test.YtgihofogkoeimaaGreatDoorUrlHereLaw
set_option linter.unusedVariables false
set_option linter.unusedSimpArgs false
namespace Go.Proofs.YtgihofogkoeimaaGreatDoor
open Go.RowKit
theorem jq1 (b : List UInt8) : (ByteArray.mk #[46, 47]) ++ (ByteArray.mk b.toArray) = ByteArray.mk (46 :: 47 :: b).toArray := ba_append [46, 47] b
theorem jq2 (b : List UInt8) : (ByteArray.mk #[120, 47, 46, 46, 47]) ++ (ByteArray.mk b.toArray) = ByteArray.mk (120 :: 47 :: 46 :: 46 :: 47 :: b).toArray := ba_append [120, 47, 46, 46, 47] b
theorem jq3 (b : List UInt8) : (ByteArray.mk #[37, 50, 69, 37, 50, 101, 47, 46, 46, 47]) ++ (ByteArray.mk b.toArray) = ByteArray.mk (37 :: 50 :: 69 :: 37 :: 50 :: 101 :: 47 :: 46 :: 46 :: 47 :: b).toArray := ba_append [37, 50, 69, 37, 50, 101, 47, 46, 46, 47] b
theorem jq5 (b : List UInt8) : (ByteArray.mk #[47]) ++ (ByteArray.mk b.toArray) = ByteArray.mk (47 :: b).toArray := ba_append [47] b
theorem jq4 (a : List UInt8) : (ByteArray.mk a.toArray) ++ (ByteArray.mk #[47, 46, 37, 50, 101, 47]) = ByteArray.mk (a ++ [47, 46, 37, 50, 101, 47]).toArray := ba_append a [47, 46, 37, 50, 101, 47]
theorem jq6 (a : List UInt8) : (ByteArray.mk a.toArray) ++ (ByteArray.mk #[47, 121, 47, 46, 46]) = ByteArray.mk (a ++ [47, 121, 47, 46, 46]).toArray := ba_append a [47, 121, 47, 46, 46]
theorem jq7 (a : List UInt8) : (ByteArray.mk a.toArray) ++ (ByteArray.mk #[47]) = ByteArray.mk (a ++ [47]).toArray := ba_append a [47]
theorem partC_no {c : UInt8} (h : ¬ ((97 ≤ c.toNat ∧ c.toNat ≤ 122) ∨ c = 45)) : (c.toNat < 97 ∨ 122 < c.toNat) ∧ c ≠ 45 := ⟨by omega, fun e => h (.inr e)⟩
theorem partC_of {c : UInt8} (h : (97 ≤ c.toNat ∧ c.toNat ≤ 122) ∨ c = 45) : partC c = true := by
 unfold partC
 rcases h with ⟨h1, h2⟩ | h
 ·rw [decide_eq_true h1, decide_eq_true h2]; rfl
 ·rw [h]; rfl
attribute [local go_sem] jq1 jq2 jq3 jq4 jq5 jq6 jq7 ba_append
set_option maxRecDepth 100000 in
set_option maxHeartbeats 16000000 in
theorem points_w (s p : List UInt8) (w : World) (hm : s.length ≤ 140737488351232) (hm2 : p.length ≤ 140737488351232) (hE : EnvH w) :
  Calls Tryz.prog 9 #[.string ⟨s.toArray⟩, .string ⟨p.toArray⟩] w fun e w' => e = .returned (.bool true) ∧ Below w.heap.size w w' := by
 have hb0 := Below.refl w.heap.size w
 have cv := lift_k w hE (fun W hW => alive_u W hW)
 by_cases h0 : 1000 < s.length ∨ 300 < p.length
 ·have early : ∀ (a b : Bool), True := fun _ _ => trivial
  rcases (show 1000 < s.length ∨ (¬ 1000 < s.length ∧ 300 < p.length) by omega) with h1 | ⟨h1, h2⟩
  ·have hi : (1000 : Int) < (s.length : Int) := by omega
   go_enter Tryz.func9, Tryz.ntmps9
   go_wp2_with fail
   go_at_call 27
   refine (cv _ hb0).mono ?_
   rintro e w1 ⟨rfl, hb1⟩
   go_wp2_with fail
   go_at_call 27
   refine (cv _ hb1).mono ?_
   rintro e w2 ⟨rfl, hb2⟩
   go_wp2_with fail
   go_ret
   exact ⟨rfl, below_next hb1 hb2⟩
  ·have hi : ¬ (1000 : Int) < (s.length : Int) := by omega
   have hi2 : (300 : Int) < (p.length : Int) := by omega
   go_enter Tryz.func9, Tryz.ntmps9
   go_wp2_with fail
   go_at_call 27
   refine (cv _ hb0).mono ?_
   rintro e w1 ⟨rfl, hb1⟩
   go_wp2_with fail
   go_at_call 27
   refine (cv _ hb1).mono ?_
   rintro e w2 ⟨rfl, hb2⟩
   go_wp2_with fail
   go_ret
   exact ⟨rfl, below_next hb1 hb2⟩
 ·have hs1 : s.length ≤ 1000 := by omega
  have hp1 : p.length ≤ 300 := by omega
  have hi : ¬ (1000 : Int) < (s.length : Int) := by omega
  have hi2 : ¬ (300 : Int) < (p.length : Int) := by omega
  have ca := lift_k w hE (fun W hW => alone_u s W hW hm)
  obtain ⟨b, hb⟩ : ∃ b, (aloneP (parseU s zeroU false)).1 = b := ⟨_, rfl⟩
  obtain ⟨k, hk⟩ : ∃ k, (aloneP (parseU s zeroU false)).2 = k := ⟨_, rfl⟩
  rw [hb, hk] at ca
  have HL : Hid (k = true → parseU s zeroU false = .ok b) := by
   intro e
   cases hp : parseU s zeroU false with
   | error n => rw [hp] at hk; rw [← hk] at e; cases e
   | ok u => rw [hp] at hb; rw [← hb]; rfl
  have HE := Lib.hid hE
  clear hb hk h0
  unfold urlV at ca
  go_enter Tryz.func9, Tryz.ntmps9
  go_wp2_with fail
  go_at_call 27
  refine (cv _ hb0).mono ?_
  rintro e w1 ⟨rfl, hb1⟩
  go_wp2_with fail
  go_at_call 28
  refine (ca _ hb1).mono ?_
  rintro e w2 ⟨rfl, hb2a⟩
  have hb2 := below_next hb1 hb2a
  have HBa := Lib.hid (below_news hb2 b)
  have HBp := Lib.hid (below_news hb2 { b with path := [47] })
  clear ca cv hb2a hE hb1
  go_wp2_with fail
  go_loop [7, 8] (fun i c => ∃ j : Nat, j ≤ p.length ∧ i = .int .i64 j ∧ Hid (∀ q (h : q < j) (hj : j ≤ p.length), partC (p[q]'(by omega)) = true)) (fun i _ => p.length - (intOf i).toNat)
  case atStart => exact ⟨0, Nat.zero_le _, rfl, fun q h => absurd h (Nat.not_lt_zero q)⟩
  case round =>
   obtain ⟨j, hj, rfl, HQ⟩ := hrel
   by_cases hlt : j < p.length
   ·have hji : (j : Int) < (p.length : Int) := by omega
    have hgo : partC (p[j]) = true → ∀ q (h : q < j + 1) (hj' : j + 1 ≤ p.length), partC (p[q]'(by omega)) = true := fun h q hq _ => by
     rcases Nat.lt_succ_iff_lt_or_eq.1 hq with hq | rfl
     ·exact HQ.out q hq hj
     ·exact h
    generalize hx : p[j] = c at *
    clear HQ
    by_cases hc : (97 ≤ c.toNat ∧ c.toNat ≤ 122) ∨ c = 45
    ·have HG := Lib.hid (hgo (partC_of hc))
     clear hgo
     rcases hc with ⟨h1, h2⟩ | rfl
     ·have e1 : ¬ (c.toNat : Int) < 97 := by omega
      have e2 : ¬ (122 : Int) < (c.toNat : Int) := by omega
      go_wp2_with fail
      go_round
      case rel => exact ⟨j + 1, by omega, by go_num, HG⟩
      case measure => simp [intOf]; omega
     ·go_wp2_with fail
      go_round
      case rel => exact ⟨j + 1, by omega, by go_num, HG⟩
      case measure => simp [intOf]; omega
    ·obtain ⟨h1, h2⟩ := partC_no hc
     have e3 : ((c.toNat : Int) != 45) = true := bne_iff_ne.2 (fun e => h2 (UInt8.toNat_inj.1 (by show c.toNat = 45; omega)))
     clear hgo hc h2
     rcases h1 with h1 | h1
     ·have e1 : (c.toNat : Int) < 97 := by omega
      go_wp2_with fail
      go_ret
      exact ⟨rfl, HBa.out⟩
     ·have e1 : ¬ (c.toNat : Int) < 97 := by omega
      have e2 : (122 : Int) < (c.toNat : Int) := by omega
      go_wp2_with fail
      go_ret
      exact ⟨rfl, HBa.out⟩
   ·have hji : ¬ (j : Int) < (p.length : Int) := by omega
    have HC : Hid (∀ c ∈ p, partC c = true) := by
     intro c hc
     obtain ⟨q, hq, rfl⟩ := List.mem_iff_getElem.1 hc
     exact HQ.out q (by omega) hj
    clear HQ
    cases k with
    | false =>
     go_wp2_with fail
     go_ret
     exact ⟨rfl, HBa.out⟩
    | true =>
     by_cases h0 : p = []
     ·subst h0
      go_wp2_with fail
      go_ret
      exact ⟨rfl, HBa.out⟩
     ·have hpe : (p == []) = false := beq_eq_false_iff_ne.2 h0
      have hpl := HL.out rfl
      obtain ⟨l1, l2, l3, l4⟩ := points_law hs1 hpl h0 HC.out hp1
      have hg := good_parse hpl
      have hz : sizeU { b with path := [47] } ≤ 1000000000 ∧ ({ b with path := [47] } : UrlL).port ≤ 9223372036854775807 := by
       have h1 := hg.sizes
       have h2 := (portU_le hg.port (s := [])).2
       exact ⟨by unfold sizeU; simp only [List.length_singleton]; omega, by show b.port ≤ _; omega⟩
      have c1 := lift_k w HE.out (fun W hW => parse_u ([46, 47] ++ p) { b with path := [47] } true W hW (by simp; omega) hz.1 hz.2)
      have c2 := lift_k w HE.out (fun W hW => parse_u ([120, 47, 46, 46, 47] ++ p) { b with path := [47] } true W hW (by simp; omega) hz.1 hz.2)
      have c3 := lift_k w HE.out (fun W hW => parse_u ([37, 50, 69, 37, 50, 101, 47, 46, 46, 47] ++ p ++ [47, 46, 37, 50, 101, 47] ++ p) { b with path := [47] } true W hW (by simp; omega) hz.1 hz.2)
      have c4 := lift_k w HE.out (fun W hW => parse_u (p ++ [47, 121, 47, 46, 46]) { b with path := [47] } true W hW (by simp; omega) hz.1 hz.2)
      rw [l1] at c1
      rw [l2] at c2
      rw [l3] at c3
      rw [l4] at c4
      simp only [pairU, urlV] at c1 c2 c3 c4
      simp only [List.cons_append, List.nil_append, List.append_assoc] at c1 c2 c3 c4
      have g1 : ¬ 9223372036854775807 < 2 + p.length := by omega
      have g2 : ¬ 9223372036854775807 < 5 + p.length := by omega
      have g3 : ¬ 9223372036854775807 < 10 + p.length := by omega
      have g4 : ¬ 9223372036854775807 < p.length + 5 := by omega
      have g5 : ¬ 9223372036854775807 < 1 + p.length := by omega
      clear hpl l1 l2 l3 l4 hg hz h0 HC HL
      have U2 := UrlAt.news w2 { b with path := [47] }
      go_wp2_with fail
      go_at_call 25
      refine (c1 _ HBp.out).mono ?_
      rintro e w3 ⟨rfl, hb3⟩
      have Ua3 := U2.on hb3
      have hlU3 : w2.heap.size < w3.heap.size := Ua3.lt
      have U3 := Ua3.pass (u := { b with path := 47 :: p, query := [], hasQ := false, mark := [], hasM := false })
      have V3 : UrlAt w3.heap.size { b with path := 47 :: p, query := [], hasQ := false, mark := [], hasM := false } _ := UrlAt.news w3 _
      have HB3 := Lib.hid (below_news (below_next HBp.out hb3) { b with path := 47 :: p, query := [], hasQ := false, mark := [], hasM := false })
      clear c1 hb3 HBp
      have p0 : w3.cell? ⟨w2.heap.size, 0, none⟩ = some _ := Ua3.cell 0
      have p1 : w3.cell? ⟨w2.heap.size, 1, none⟩ = some _ := Ua3.cell 1
      have p2 : w3.cell? ⟨w2.heap.size, 2, none⟩ = some _ := Ua3.cell 2
      have p3 : w3.cell? ⟨w2.heap.size, 3, none⟩ = some _ := Ua3.cell 3
      have p4 : w3.cell? ⟨w2.heap.size, 4, none⟩ = some _ := Ua3.cell 4
      have p5 : w3.cell? ⟨w2.heap.size, 5, none⟩ = some _ := Ua3.cell 5
      have p6 : w3.cell? ⟨w2.heap.size, 6, none⟩ = some _ := Ua3.cell 6
      have p7 : w3.cell? ⟨w2.heap.size, 7, none⟩ = some _ := Ua3.cell 7
      have p8 : w3.cell? ⟨w2.heap.size, 8, none⟩ = some _ := Ua3.cell 8
      have p9 : w3.cell? ⟨w2.heap.size, 9, none⟩ = some _ := Ua3.cell 9
      go_wp2_with fail
      go_at_call 25
      refine (c2 _ HB3.out).mono ?_
      rintro e w4 ⟨rfl, hb4⟩
      have Ua4 := U3.on hb4
      have hlU4 : w2.heap.size < w4.heap.size := Ua4.lt
      have Va4 := V3.on hb4
      have hlV4 : w3.heap.size < w4.heap.size := Va4.lt
      have U4 := Ua4.pass (u := { b with path := 47 :: p, query := [], hasQ := false, mark := [], hasM := false })
      have V4 := Va4.pass (u := { b with path := 47 :: p, query := [], hasQ := false, mark := [], hasM := false })
      have X4 : UrlAt w4.heap.size { b with path := 47 :: p, query := [], hasQ := false, mark := [], hasM := false } _ := UrlAt.news w4 _
      have HB4 := Lib.hid (below_news (below_next HB3.out hb4) { b with path := 47 :: p, query := [], hasQ := false, mark := [], hasM := false })
      clear c2 hb4 HB3 p0 p1 p2 p3 p4 p5 p6 p7 p8 p9
      have p0 : w4.cell? ⟨w2.heap.size, 0, none⟩ = some _ := Ua4.cell 0
      have p1 : w4.cell? ⟨w2.heap.size, 1, none⟩ = some _ := Ua4.cell 1
      have p2 : w4.cell? ⟨w2.heap.size, 2, none⟩ = some _ := Ua4.cell 2
      have p3 : w4.cell? ⟨w2.heap.size, 3, none⟩ = some _ := Ua4.cell 3
      have p4 : w4.cell? ⟨w2.heap.size, 4, none⟩ = some _ := Ua4.cell 4
      have p5 : w4.cell? ⟨w2.heap.size, 5, none⟩ = some _ := Ua4.cell 5
      have p6 : w4.cell? ⟨w2.heap.size, 6, none⟩ = some _ := Ua4.cell 6
      have p7 : w4.cell? ⟨w2.heap.size, 7, none⟩ = some _ := Ua4.cell 7
      have p8 : w4.cell? ⟨w2.heap.size, 8, none⟩ = some _ := Ua4.cell 8
      have p9 : w4.cell? ⟨w2.heap.size, 9, none⟩ = some _ := Ua4.cell 9
      go_wp2_with fail
      go_at_call 25
      refine (c3 _ HB4.out).mono ?_
      rintro e w5 ⟨rfl, hb5⟩
      have Ua5 := U4.on hb5
      have hlU5 : w2.heap.size < w5.heap.size := Ua5.lt
      have Va5 := V4.on hb5
      have hlV5 : w3.heap.size < w5.heap.size := Va5.lt
      have Xa5 := X4.on hb5
      have hlX5 : w4.heap.size < w5.heap.size := Xa5.lt
      have U5 := Ua5.pass (u := { b with path := 47 :: p, query := [], hasQ := false, mark := [], hasM := false })
      have V5 := Va5.pass (u := { b with path := 47 :: p, query := [], hasQ := false, mark := [], hasM := false })
      have X5 := Xa5.pass (u := { b with path := 47 :: p, query := [], hasQ := false, mark := [], hasM := false })
      have Y5 : UrlAt w5.heap.size { b with path := 47 :: p, query := [], hasQ := false, mark := [], hasM := false } _ := UrlAt.news w5 _
      have HB5 := Lib.hid (below_news (below_next HB4.out hb5) { b with path := 47 :: p, query := [], hasQ := false, mark := [], hasM := false })
      clear c3 hb5 HB4 p0 p1 p2 p3 p4 p5 p6 p7 p8 p9
      have p0 : w5.cell? ⟨w2.heap.size, 0, none⟩ = some _ := Ua5.cell 0
      have p1 : w5.cell? ⟨w2.heap.size, 1, none⟩ = some _ := Ua5.cell 1
      have p2 : w5.cell? ⟨w2.heap.size, 2, none⟩ = some _ := Ua5.cell 2
      have p3 : w5.cell? ⟨w2.heap.size, 3, none⟩ = some _ := Ua5.cell 3
      have p4 : w5.cell? ⟨w2.heap.size, 4, none⟩ = some _ := Ua5.cell 4
      have p5 : w5.cell? ⟨w2.heap.size, 5, none⟩ = some _ := Ua5.cell 5
      have p6 : w5.cell? ⟨w2.heap.size, 6, none⟩ = some _ := Ua5.cell 6
      have p7 : w5.cell? ⟨w2.heap.size, 7, none⟩ = some _ := Ua5.cell 7
      have p8 : w5.cell? ⟨w2.heap.size, 8, none⟩ = some _ := Ua5.cell 8
      have p9 : w5.cell? ⟨w2.heap.size, 9, none⟩ = some _ := Ua5.cell 9
      go_wp2_with fail
      go_at_call 25
      refine (c4 _ HB5.out).mono ?_
      rintro e w6 ⟨rfl, hb6⟩
      have Ua6 := U5.on hb6
      have hlU6 : w2.heap.size < w6.heap.size := Ua6.lt
      have Va6 := V5.on hb6
      have hlV6 : w3.heap.size < w6.heap.size := Va6.lt
      have Xa6 := X5.on hb6
      have hlX6 : w4.heap.size < w6.heap.size := Xa6.lt
      have Ya6 := Y5.on hb6
      have hlY6 : w5.heap.size < w6.heap.size := Ya6.lt
      have U6 := Ua6.pass (u := { b with path := 47 :: p ++ [47], query := [], hasQ := false, mark := [], hasM := false })
      have V6 := Va6.pass (u := { b with path := 47 :: p ++ [47], query := [], hasQ := false, mark := [], hasM := false })
      have X6 := Xa6.pass (u := { b with path := 47 :: p ++ [47], query := [], hasQ := false, mark := [], hasM := false })
      have Y6 := Ya6.pass (u := { b with path := 47 :: p ++ [47], query := [], hasQ := false, mark := [], hasM := false })
      have Z6 : UrlAt w6.heap.size { b with path := 47 :: p ++ [47], query := [], hasQ := false, mark := [], hasM := false } _ := UrlAt.news w6 _
      have HB6 := Lib.hid (below_news (below_next HB5.out hb6) { b with path := 47 :: p ++ [47], query := [], hasQ := false, mark := [], hasM := false })
      clear c4 hb6 HB5 p0 p1 p2 p3 p4 p5 p6 p7 p8 p9
      have p0 : w6.cell? ⟨w2.heap.size, 0, none⟩ = some _ := Ua6.cell 0
      have p1 : w6.cell? ⟨w2.heap.size, 1, none⟩ = some _ := Ua6.cell 1
      have p2 : w6.cell? ⟨w2.heap.size, 2, none⟩ = some _ := Ua6.cell 2
      have p3 : w6.cell? ⟨w2.heap.size, 3, none⟩ = some _ := Ua6.cell 3
      have p4 : w6.cell? ⟨w2.heap.size, 4, none⟩ = some _ := Ua6.cell 4
      have p5 : w6.cell? ⟨w2.heap.size, 5, none⟩ = some _ := Ua6.cell 5
      have p6 : w6.cell? ⟨w2.heap.size, 6, none⟩ = some _ := Ua6.cell 6
      have p7 : w6.cell? ⟨w2.heap.size, 7, none⟩ = some _ := Ua6.cell 7
      have p8 : w6.cell? ⟨w2.heap.size, 8, none⟩ = some _ := Ua6.cell 8
      have p9 : w6.cell? ⟨w2.heap.size, 9, none⟩ = some _ := Ua6.cell 9
      have qV3 : w6.cell? ⟨w3.heap.size, 3, none⟩ = some _ := Va6.cell 3
      have qV4 : w6.cell? ⟨w3.heap.size, 4, none⟩ = some _ := Va6.cell 4
      have qV5 : w6.cell? ⟨w3.heap.size, 5, none⟩ = some _ := Va6.cell 5
      have qX3 : w6.cell? ⟨w4.heap.size, 3, none⟩ = some _ := Xa6.cell 3
      have qX4 : w6.cell? ⟨w4.heap.size, 4, none⟩ = some _ := Xa6.cell 4
      have qX5 : w6.cell? ⟨w4.heap.size, 5, none⟩ = some _ := Xa6.cell 5
      have qY3 : w6.cell? ⟨w5.heap.size, 3, none⟩ = some _ := Ya6.cell 3
      have qY4 : w6.cell? ⟨w5.heap.size, 4, none⟩ = some _ := Ya6.cell 4
      have qY5 : w6.cell? ⟨w5.heap.size, 5, none⟩ = some _ := Ya6.cell 5
      clear Ua3 Ua4 Ua5 Ua6 Va4 Va5 Va6 Xa5 Xa6 Ya6
      have HB7 := HB6.out
      go_wp2_with fail
      go_ret
      exact ⟨rfl, HB7⟩
end Go.Proofs.YtgihofogkoeimaaGreatDoor
