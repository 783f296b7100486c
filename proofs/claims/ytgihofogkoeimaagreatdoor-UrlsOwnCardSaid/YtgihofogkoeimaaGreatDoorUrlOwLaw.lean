/- The law UrlsOwn walked. -/
import Derived.Test.YtgihofogkoeimaaGreatDoorUrlHereLaw
import Derived.Test.YtgihofogkoeimaaGreatDoorUrlIdle
import Derived.Test.YtgihofogkoeimaaGreatDoorUrlKeyW
import Derived.Lib.QuietBelow
import Derived.Deep.DeepCutAuto
import Derived.Deep.CutBlock
import Derived.Deep.QuietTactic
import Derived.BigQuiet
import Derived.LoopN
set_option linter.unusedVariables false
set_option linter.unusedSimpArgs false
namespace Go.Proofs.YtgihofogkoeimaaGreatDoor
open Go.RowKit
open Go.Sort
theorem quiet_callU {f : FuncId} {args : Array Value} {v : Value} {w1 : World} (h : ∀ W, Go.RowKit.Below w1.heap.size w1 W → Calls Tryz.prog f args W fun e W' => e = .returned v ∧ Go.RowKit.Below W.heap.size W W') (d : Nat) (os : Array Obj) :
  Calls Tryz.prog f args (grow (redrawn w1 d) os) fun e w'' => e = .returned v ∧ ∃ p : Regrown, w'' = grow (redrawn w1 p.d) p.os := Calls.regrown_of (h _ (below_regrown w1 d os))
theorem UrlAt.over {B : Nat} {v : UrlL} {w : World} (h : UrlAt B v w) (o : Obj) : UrlAt B v (w.alloc o) := ((below_alloc w o).block _ h.lt).trans h
theorem below_over {w W : World} (h : Below w.heap.size w W) (o : Obj) : Below w.heap.size w (W.alloc o) := h.alloc h.size _
theorem numV_from : ∀ (s : List UInt8) (a : Nat), s.foldl (fun n c => 10 * n + (c.toNat - 48)) a = a * 10 ^ s.length + numV s
 | [], a => by simp [numV]
 | c :: s, a => by
  unfold numV
  rw [List.foldl_cons, List.foldl_cons, numV_from s, numV_from s (10 * 0 + (c.toNat - 48)), List.length_cons, Nat.pow_succ]
  generalize 10 ^ s.length = T
  generalize numV s = V
  generalize c.toNat - 48 = d
  have : (10 * a + d) * T = a * (T * 10) + (10 * 0 + d) * T := by rw [Nat.add_mul, Nat.mul_zero, Nat.zero_add, Nat.mul_comm 10 a, Nat.mul_assoc, Nat.mul_comm 10 T]
  omega
theorem numV_cons (c : UInt8) (s : List UInt8) : numV (c :: s) = (c.toNat - 48) * 10 ^ s.length + numV s := by
 have := numV_from s (10 * 0 + (c.toNat - 48))
 unfold numV at this ⊢
 rw [List.foldl_cons, this]
 simp
def DigOf (p k : Nat) (t : List UInt8) : Prop := t.all numCB = true ∧ k * 10 ^ t.length + numV t = p ∧ t.length ≤ 5
theorem DigOf.start (p : Nat) : DigOf p p [] := ⟨rfl, by simp [numV], by simp⟩
def ownD (r : Nat) : UInt8 := UInt8.ofNat (48 + r)
theorem digB_dec : ∀ k : Fin 10, (ownD k.val).toNat = 48 + k.val ∧ numCB (ownD k.val) = true := by decide +kernel
theorem DigOf.next {p k : Nat} {t : List UInt8} (h : DigOf p k t) (hp : p < 100000) (hk : 0 < k ∨ t = []) : DigOf p (k / 10) (ownD (k % 10) :: t) := by
 obtain ⟨h1, h2, h3⟩ := h
 obtain ⟨d1, d2⟩ := digB_dec ⟨k % 10, Nat.mod_lt _ (by omega)⟩
 simp only at d1 d2
 refine ⟨by rw [List.all_cons, d2, h1]; rfl, ?_, ?_⟩
 ·rw [numV_cons, d1, List.length_cons, Nat.pow_succ]
  have hk10 : k = k / 10 * 10 + k % 10 := by omega
  have : k * 10 ^ t.length = k / 10 * (10 ^ t.length * 10) + k % 10 * 10 ^ t.length := by
   conv => lhs; rw [hk10, Nat.add_mul, Nat.mul_assoc, Nat.mul_comm 10]
  rw [show 48 + k % 10 - 48 = k % 10 by omega]
  omega
 ·rw [List.length_cons]
  rcases hk with hk | hk
  ·have : ¬ t.length = 5 := fun e => by
    rw [e] at h2
    have : 100000 ≤ k * 10 ^ 5 := by omega
    omega
   omega
  ·rw [hk]; simp
set_option maxRecDepth 100000 in
theorem ownS_cut (W : World) : ∀ (r : Nat), r < 10 → (Instr.slice 9 (.string ⟨#[48, 49, 50, 51, 52, 53, 54, 55, 56, 57]⟩) (some (.int .i64 (r : Int))) (some (.int .i64 ((r : Int) + 1))) none).run Tryz.prog W = .ok (.string ⟨#[ownD r]⟩) W
 | 0, _ => rfl
 | 1, _ => rfl
 | 2, _ => rfl
 | 3, _ => rfl
 | 4, _ => rfl
 | 5, _ => rfl
 | 6, _ => rfl
 | 7, _ => rfl
 | 8, _ => rfl
 | 9, _ => rfl
 | n + 10, h => absurd h (by omega)
theorem js1 (c : UInt8) (b : List UInt8) : (ByteArray.mk #[c]) ++ (ByteArray.mk b.toArray) = ByteArray.mk (c :: b).toArray := ba_append [c] b
attribute [local go_sem] js1 ba_append
def ownQ (sch : List UInt8) (p : Nat) : Int := if p = ownP sch then -1 else (p : Int)
def ownU (sch host : List UInt8) (p : Nat) : UrlL := { zeroU with scheme := sch, host := host, port := ownQ sch p, path := [47] }
theorem own_port {sch host : List UInt8} {p : Nat} : portN (ownU sch host p) = (p : Int) := by
 unfold portN ownU ownQ
 simp only
 by_cases h : p = ownP sch
 ·rw [if_pos h, if_neg (by omega), h]
 ·rw [if_neg h, if_pos (by omega)]
def lenOf (v : Value) : Nat := match v with | .string b => b.size | _ => 0
theorem lenOf_mk (t : List UInt8) : lenOf (.string ⟨t.toArray⟩) = t.length := rfl
set_option maxRecDepth 100000 in
set_option maxHeartbeats 16000000 in
theorem own_w (s : List UInt8) (n : Int) (w : World) (hm : s.length ≤ 140737488351232) (hn0 : 0 ≤ n) (hn1 : n ≤ 4294967295) (hE : EnvH w) :
  Calls Tryz.prog 11 #[.string ⟨s.toArray⟩, .int .u32 n] w fun e w' => e = .returned (.bool true) ∧ Below w.heap.size w w' := by
 have hb0 := Below.refl w.heap.size w
 have cv := lift_k w hE (fun W hW => alive_u W hW)
 by_cases h0 : 1000 < s.length
 ·have hi : (1000 : Int) < (s.length : Int) := by omega
  go_enter Tryz.func11, Tryz.ntmps11
  go_wp2_with fail
  go_at_call 27
  refine (cv _ hb0).mono ?_
  rintro e w1 ⟨rfl, hb1⟩
  go_wp2_with fail
  go_at_call 27
  refine (cv _ hb1).mono ?_
  rintro e w2 ⟨rfl, hb2⟩
  go_wp2_with fail
  go_ret
  exact ⟨rfl, below_next hb1 hb2⟩
 ·have hi : ¬ (1000 : Int) < (s.length : Int) := by omega
  have ca := lift_k w hE (fun W hW => alone_u s W hW hm)
  cases hp : parseU s zeroU false with
  | error q =>
   rw [hp] at ca
   simp only [aloneP, urlV] at ca
   clear hE h0
   go_enter Tryz.func11, Tryz.ntmps11
   go_wp2_with fail
   go_at_call 27
   refine (cv _ hb0).mono ?_
   rintro e w1 ⟨rfl, hb1⟩
   go_wp2_with fail
   go_at_call 28
   refine (ca _ hb1).mono ?_
   rintro e w2 ⟨rfl, hb2a⟩
   have hb2 := below_next hb1 hb2a
   clear ca cv
   go_wp2_with fail
   go_ret
   exact ⟨rfl, hb2.alloc hb2.size _⟩
  | ok u =>
   rw [hp] at ca
   have hg := good_parse hp
   obtain ⟨N, rfl⟩ : ∃ N : Nat, n = (N : Int) := ⟨n.toNat, by omega⟩
   have hrem : (N : Int).tmod 70000 = ((N % 70000 : Nat) : Int) := by rw [Int.tmod_eq_emod_of_nonneg (by omega)]; rfl
   have hp7 : N % 70000 < 70000 := Nat.mod_lt _ (by omega)
   simp only [aloneP, urlV] at ca
   have HG := Lib.hid hg
   have HE := Lib.hid hE
   have HD0 := Lib.hid (DigOf.start (N % 70000))
   generalize N % 70000 = p at *
   clear hE h0 hp hg
   go_enter Tryz.func11, Tryz.ntmps11
   go_wp2_with fail
   go_at_call 27
   refine (cv _ hb0).mono ?_
   rintro e w1 ⟨rfl, hb1⟩
   go_wp2_with fail
   go_at_call 28
   refine (ca _ hb1).mono ?_
   rintro e w2 ⟨rfl, hb2a⟩
   have hb2 := below_next hb1 hb2a
   clear ca cv hb1 hb2a
   go_wp2_with fail
   go_loop [8, 9] (fun a8 a9 => ∃ (k : Nat) (t : List UInt8), k ≤ p ∧ a8 = .string ⟨t.toArray⟩ ∧ a9 = .int .i64 (k : Int) ∧ t.length ≤ 5 ∧ Hid (DigOf p k t)) (fun a8 _ => 6 - lenOf a8)
   case atStart => exact ⟨p, [], Nat.le_refl _, rfl, rfl, by simp, HD0.out⟩
   case round =>
    obtain ⟨k, t, hk, rfl, rfl, htl, HQ⟩ := hrel
    have hstep : ∀ (_ : 0 < k ∨ t = []), DigOf p (k / 10) (ownD (k % 10) :: t) := HQ.out.next (by omega)
    have hk10 : k % 10 < 10 := Nat.mod_lt _ (by omega)
    have hcut := fun W => ownS_cut W (k % 10) hk10
    have wr : (k : Int).tmod 10 = ((k % 10 : Nat) : Int) := by rw [Int.tmod_eq_emod_of_nonneg (by omega)]; rfl
    have wq : (k : Int).tdiv 10 = ((k / 10 : Nat) : Int) := by rw [Int.tdiv_eq_ediv_of_nonneg (by omega)]; rfl
    have wq2 : IntKind.i64.wrap ((k : Int) / 10) = ((k / 10 : Nat) : Int) := by rw [show (k : Int) / 10 = ((k / 10 : Nat) : Int) from rfl]; exact IntWalk.i64_in _ (by omega)
    have wq3 : (k : Int) / 10 = ((k / 10 : Nat) : Int) := rfl
    have wr1 : IntKind.i64.wrap (((k % 10 : Nat) : Int) + 1) = ((k % 10 : Nat) : Int) + 1 := IntWalk.i64_in _ (by omega)
    have s1 : ¬ 9223372036854775807 < 1 + t.length := by omega
    have hkd : k / 10 ≤ p := by omega
    by_cases hgo : 0 < k ∨ t = []
    ·have hs := hstep hgo
     have hl5 := hs.2.2
     simp only [List.length_cons] at hl5
     have HS := Lib.hid hs
     clear hstep hs HQ
     generalize hq : k / 10 = q at *
     generalize hr : k % 10 = r at *
     by_cases hk0 : 0 < k
     ·have hki : (0 : Int) < (k : Int) := by omega
      clear hgo hr hq
      go_wp2_with fail
      go_round
      case rel => exact ⟨q, _, hkd, rfl, rfl, by simp; omega, HS.out⟩
      case measure => simp [lenOf_mk]; omega
     ·have ht : t = [] := by rcases hgo with h | h; exact absurd h hk0; exact h
      have hki : ¬ (0 : Int) < (k : Int) := by omega
      subst ht
      clear hgo hr hq
      go_wp2_with fail
      go_round
      case rel => exact ⟨q, _, hkd, rfl, rfl, by simp, HS.out⟩
      case measure => simp [lenOf_mk]
    ·have hk0 : k = 0 := by omega
     have htn : (t == []) = false := beq_eq_false_iff_ne.2 fun e => hgo (.inr e)
     have hki : ¬ (0 : Int) < (k : Int) := by omega
     have hnum : numV t = p ∧ t.all numCB = true := by
      obtain ⟨h1, h2, _⟩ := HQ.out
      rw [hk0] at h2
      exact ⟨by omega, h1⟩
     have HN := Lib.hid hnum
     clear hstep hcut wr wq wq2 wq3 wr1 s1 hkd hgo HQ hnum hk10
     have hHG := HG.out
     have hhl := hHG.hlen.1
     have htl5 : t.length ≤ 5 := htl
     have p1 := own_law hHG (sch := httpB) (d := t) (.inl rfl) HN.out.2 (by omega)
     have p2 := own_law hHG (sch := httpsB) (d := t) (.inr rfl) HN.out.2 (by omega)
     rw [HN.out.1] at p1 p2
     have c1 := lift_k w HE.out (fun W hW => parse_u (httpB ++ [58, 47, 47] ++ u.host ++ [58, 48, 48] ++ t ++ [47]) zeroU false W hW (by simp [httpB]; omega) (by simp [sizeU, zeroU]) (by simp [zeroU]))
     have c2 := lift_k w HE.out (fun W hW => parse_u (httpsB ++ [58, 47, 47] ++ u.host ++ [58, 48, 48] ++ t ++ [47]) zeroU false W hW (by simp [httpsB]; omega) (by simp [sizeU, zeroU]) (by simp [zeroU]))
     rw [p1] at c1
     rw [p2] at c2
     clear p1 p2 HN HD0 hHG
     simp only [httpB, httpsB, List.cons_append, List.nil_append, List.append_assoc] at c1 c2
     by_cases hbig : 65535 < p
     ·rw [if_pos hbig] at c1 c2
      have hbi : (65535 : Int) < (p : Int) := by omega
      simp only [pairU, urlV] at c1 c2
      have hU := UrlAt.news w2 u
      have hbU := below_news hb2 u
      have hU3 := (hU.over (.cells #[.string ⟨#[104, 116, 116, 112]⟩, .string ⟨#[104, 116, 116, 112, 115]⟩] 9)).over (.cells #[.int .i64 80, .int .i64 443] 3)
      have hb3 := below_over (below_over hbU (.cells #[.string ⟨#[104, 116, 116, 112]⟩, .string ⟨#[104, 116, 116, 112, 115]⟩] 9)) (.cells #[.int .i64 80, .int .i64 443] 3)
      clear hU hbU hb2
      go_wp2_with fail
      refine wp_loop_rounds 3 ?_
      rw [rounds_succ]
      go_wp2_with fail
      go_at_call 25
      refine (c1 _ hb3).mono ?_
      rintro e w4 ⟨rfl, hb4⟩
      have hU4 := hU3.on hb4
      have hl4 : w2.heap.size < w4.heap.size := hU4.lt
      have hl4b : w2.heap.size < w4.heap.size + 1 := by omega
      have hl4c : w2.heap.size < w4.heap.size + 1 + 1 := by omega
      have p3 : w4.cell? ⟨w2.heap.size, 3, none⟩ = some (.string ⟨u.host.toArray⟩) := hU4.cell 3
      have hb5 := below_news (below_next hb3 hb4) zeroU
      have hb6 := below_over (below_over hb5 (.cells #[.string ⟨#[104, 116, 116, 112]⟩, .string ⟨#[104, 116, 116, 112, 115]⟩] 9)) (.cells #[.int .i64 80, .int .i64 443] 3)
      clear c1 hU3 hb3 hb4
      go_wp2_with fail
      rw [rounds_succ]
      go_wp2_with fail
      go_at_call 25
      refine (c2 _ hb6).mono ?_
      rintro e w7 ⟨rfl, hb7⟩
      have hb8 := below_news (below_next hb6 hb7) zeroU
      clear c2 hb5 hb6 hb7 hU4 p3
      go_wp2_with fail
      rw [rounds_succ]
      go_wp2_with fail
      go_ret
      exact ⟨rfl, hb8⟩
     ·rw [if_neg hbig] at c1 c2
      have hbi : ¬ (65535 : Int) < (p : Int) := by omega
      have c1' : ∀ W, Below w.heap.size w W → Calls Tryz.prog 25 #[.string ⟨(104 :: 116 :: 116 :: 112 :: 58 :: 47 :: 47 :: (u.host ++ 58 :: 48 :: 48 :: (t ++ [47]))).toArray⟩, urlV zeroU, .bool false] W fun e W' => e = .returned (.tuple #[urlV (ownU httpB u.host p), .int .i64 0]) ∧ Below W.heap.size W W' := c1
      have c2' : ∀ W, Below w.heap.size w W → Calls Tryz.prog 25 #[.string ⟨(104 :: 116 :: 116 :: 112 :: 115 :: 58 :: 47 :: 47 :: (u.host ++ 58 :: 48 :: 48 :: (t ++ [47]))).toArray⟩, urlV zeroU, .bool false] W fun e W' => e = .returned (.tuple #[urlV (ownU httpsB u.host p), .int .i64 0]) ∧ Below W.heap.size W W' := c2
      clear c1 c2
      have hU := UrlAt.news w2 u
      have hbU := below_news hb2 u
      have hU3 := (hU.over (.cells #[.string ⟨#[104, 116, 116, 112]⟩, .string ⟨#[104, 116, 116, 112, 115]⟩] 9)).over (.cells #[.int .i64 80, .int .i64 443] 3)
      have hb3 := below_over (below_over hbU (.cells #[.string ⟨#[104, 116, 116, 112]⟩, .string ⟨#[104, 116, 116, 112, 115]⟩] 9)) (.cells #[.int .i64 80, .int .i64 443] 3)
      have hq1 : (ownU httpB u.host p).port = ownQ httpB p := rfl
      have kp1 := fun W => portn_u (ownU httpB u.host p) W
      have kk1 := fun W => key_u (ownU httpB u.host p) W
      have kp2 := fun W => portn_u (ownU httpsB u.host p) W
      have kk2 := fun W => key_u (ownU httpsB u.host p) W
      rw [own_port] at kp1 kp2
      have hv1 : keyV (ownU httpB u.host p) = .agg #[.bool false, .string ⟨u.host.toArray⟩, .int .i64 (p : Int)] := by unfold keyV; rw [own_port]; rfl
      have hv2 : keyV (ownU httpsB u.host p) = .agg #[.bool true, .string ⟨u.host.toArray⟩, .int .i64 (p : Int)] := by unfold keyV; rw [own_port]; rfl
      rw [hv1] at kk1
      rw [hv2] at kk2
      simp only [urlV, ownU, httpB, httpsB, zeroU] at c1' c2' kp1 kk1 kp2 kk2
      clear hU hbU hb2 hv1 hv2 hq1
      have hw1 : Hid (ownQ [104, 116, 116, 112] p = if p = 80 then -1 else (p : Int)) := rfl
      have hw2 : Hid (ownQ [104, 116, 116, 112, 115] p = if p = 443 then -1 else (p : Int)) := rfl
      generalize ownQ [104, 116, 116, 112] p = Q1 at *
      generalize ownQ [104, 116, 116, 112, 115] p = Q2 at *
      go_wp2_with fail
      refine wp_loop_rounds 3 ?_
      rw [rounds_succ]
      go_wp2_with fail
      go_at_call 25
      refine (c1' _ hb3).mono ?_
      rintro e w4 ⟨rfl, hbw4⟩
      have hU1 := hU3.on hbw4
      have hbv1 := below_next hb3 hbw4
      clear c1' hbw4 hU3 hb3
      go_upto_if 84 with fail
      go_cut [15] from 82 to 84 (fun a15 wx => a15 = .int .i64 Q1 ∧ UrlAt w2.heap.size u wx ∧ wx.heap[w4.heap.size]? = some (.cells #[.string ⟨#[104, 116, 116, 112]⟩, .string ⟨#[]⟩, .string ⟨#[]⟩, .string ⟨u.host.toArray⟩, .int .i64 Q1, .string ⟨#[47]⟩, .string ⟨#[]⟩, .bool false, .string ⟨#[]⟩, .bool false] 23 (0, 0)) ∧ Go.RowKit.Below w.heap.size w wx)
      case first =>
       by_cases hp8 : p = 80
       ·have hQ := hw1.out
        rw [if_pos hp8] at hQ
        subst hQ
        have hpe : ((p : Int) == 80) = true := beq_iff_eq.2 (by omega)
        clear kp1 kk1 kp2 kk2 hw1 hw2
        go_wp2_with fail
        go_meet
        case rel => exact ⟨rfl, hU1.over _, heap_alloc_new w4 _, hbv1.alloc hbv1.size _⟩
       ·have hQ := hw1.out
        rw [if_neg hp8] at hQ
        subst hQ
        have hpe : ((p : Int) == 80) = false := beq_eq_false_iff_ne.2 (by omega)
        clear kp1 kk1 kp2 kk2 hw1 hw2
        go_wp2_with fail
        go_meet
        case rel => exact ⟨rfl, hU1.over _, heap_alloc_new w4 _, hbv1.alloc hbv1.size _⟩
      case rest =>
      obtain ⟨rfl, hUV1, hVV1, hbV1⟩ := hcut
      go_upto_region 24 with fail
      have kp : ∀ d os, _ := quiet_callU (w1 := wc) (fun W' _ => kp1 W')
      have kk : ∀ d os, _ := quiet_callU (w1 := wc) (fun W' _ => kk1 W')
      have y3 : ∀ d os, (grow (redrawn wc d) os).cell? ⟨w2.heap.size, 3, none⟩ = some (.string ⟨u.host.toArray⟩) := fun d os => cell_regrown (hUV1.cell 3) d os
      have x0 : ∀ d os, (grow (redrawn wc d) os).cell? ⟨w4.heap.size, 0, none⟩ = some (.string ⟨#[104, 116, 116, 112]⟩) := fun d os => cell_regrown (by rw [Lib.cell_of_heap hVV1]; rfl) d os
      have x1 : ∀ d os, (grow (redrawn wc d) os).cell? ⟨w4.heap.size, 1, none⟩ = some (.string ⟨#[]⟩) := fun d os => cell_regrown (by rw [Lib.cell_of_heap hVV1]; rfl) d os
      have x2 : ∀ d os, (grow (redrawn wc d) os).cell? ⟨w4.heap.size, 2, none⟩ = some (.string ⟨#[]⟩) := fun d os => cell_regrown (by rw [Lib.cell_of_heap hVV1]; rfl) d os
      have x3 : ∀ d os, (grow (redrawn wc d) os).cell? ⟨w4.heap.size, 3, none⟩ = some (.string ⟨u.host.toArray⟩) := fun d os => cell_regrown (by rw [Lib.cell_of_heap hVV1]; rfl) d os
      have x4 : ∀ d os, (grow (redrawn wc d) os).cell? ⟨w4.heap.size, 4, none⟩ = some (.int .i64 Q1) := fun d os => cell_regrown (by rw [Lib.cell_of_heap hVV1]; rfl) d os
      have x5 : ∀ d os, (grow (redrawn wc d) os).cell? ⟨w4.heap.size, 5, none⟩ = some (.string ⟨#[47]⟩) := fun d os => cell_regrown (by rw [Lib.cell_of_heap hVV1]; rfl) d os
      have x6 : ∀ d os, (grow (redrawn wc d) os).cell? ⟨w4.heap.size, 6, none⟩ = some (.string ⟨#[]⟩) := fun d os => cell_regrown (by rw [Lib.cell_of_heap hVV1]; rfl) d os
      have x7 : ∀ d os, (grow (redrawn wc d) os).cell? ⟨w4.heap.size, 7, none⟩ = some (.bool false) := fun d os => cell_regrown (by rw [Lib.cell_of_heap hVV1]; rfl) d os
      have x8 : ∀ d os, (grow (redrawn wc d) os).cell? ⟨w4.heap.size, 8, none⟩ = some (.string ⟨#[]⟩) := fun d os => cell_regrown (by rw [Lib.cell_of_heap hVV1]; rfl) d os
      have x9 : ∀ d os, (grow (redrawn wc d) os).cell? ⟨w4.heap.size, 9, none⟩ = some (.bool false) := fun d os => cell_regrown (by rw [Lib.cell_of_heap hVV1]; rfl) d os
      clear hU1 hbv1
      refine wp_region_quiet_below (by kernel_rfl) (by kernel_rfl) ?_
      repeat (quiet_step (first | exact kp _ _ | exact kk _ _))
      refine wpQuiet_nil ?_
      intro _ hw'
      obtain ⟨⟨dq, osq⟩, hw''⟩ := hw'
      subst hw''
      have hbr := below_regrown wc dq osq
      have hUz := hUV1.on hbr
      have hbz := below_next hbV1 hbr
      clear kp kk y3 x0 x1 x2 x3 x4 x5 x6 x7 x8 x9 hUV1 hVV1 hbV1 hbr
      generalize grow (redrawn wc dq) osq = w5 at *
      have hU3 := (hUz.over (.cells #[.string ⟨#[104, 116, 116, 112]⟩, .string ⟨#[104, 116, 116, 112, 115]⟩] 9)).over (.cells #[.int .i64 80, .int .i64 443] 3)
      have hb3 := below_over (below_over hbz (.cells #[.string ⟨#[104, 116, 116, 112]⟩, .string ⟨#[104, 116, 116, 112, 115]⟩] 9)) (.cells #[.int .i64 80, .int .i64 443] 3)
      have hl5 : w2.heap.size < w5.heap.size := hUz.lt
      have hl5b : w2.heap.size < w5.heap.size + 1 := by omega
      have p3 : w5.cell? ⟨w2.heap.size, 3, none⟩ = some (.string ⟨u.host.toArray⟩) := hUz.cell 3
      clear hUz hbz
      go_wp2_with fail
      rw [rounds_succ]
      go_wp2_with fail
      go_at_call 25
      refine (c2' _ hb3).mono ?_
      rintro e w6 ⟨rfl, hbw6⟩
      have hU2 := hU3.on hbw6
      have hbv2 := below_next hb3 hbw6
      clear c2' hbw6 hU3 hb3
      go_upto_if 84 with fail
      go_cut [15] from 82 to 84 (fun a15 wx => a15 = .int .i64 Q2 ∧ UrlAt w2.heap.size u wx ∧ wx.heap[w6.heap.size]? = some (.cells #[.string ⟨#[104, 116, 116, 112, 115]⟩, .string ⟨#[]⟩, .string ⟨#[]⟩, .string ⟨u.host.toArray⟩, .int .i64 Q2, .string ⟨#[47]⟩, .string ⟨#[]⟩, .bool false, .string ⟨#[]⟩, .bool false] 23 (0, 0)) ∧ Go.RowKit.Below w.heap.size w wx)
      case first =>
       by_cases hp8 : p = 443
       ·have hQ := hw2.out
        rw [if_pos hp8] at hQ
        subst hQ
        have hpe : ((p : Int) == 443) = true := beq_iff_eq.2 (by omega)
        clear kp1 kk1 kp2 kk2 hw1 hw2
        go_wp2_with fail
        go_meet
        case rel => exact ⟨rfl, hU2.over _, heap_alloc_new w6 _, hbv2.alloc hbv2.size _⟩
       ·have hQ := hw2.out
        rw [if_neg hp8] at hQ
        subst hQ
        have hpe : ((p : Int) == 443) = false := beq_eq_false_iff_ne.2 (by omega)
        clear kp1 kk1 kp2 kk2 hw1 hw2
        go_wp2_with fail
        go_meet
        case rel => exact ⟨rfl, hU2.over _, heap_alloc_new w6 _, hbv2.alloc hbv2.size _⟩
      case rest =>
      obtain ⟨rfl, hUV2, hVV2, hbV2⟩ := hcut
      go_upto_region 24 with fail
      have kp : ∀ d os, _ := quiet_callU (w1 := wc) (fun W' _ => kp2 W')
      have kk : ∀ d os, _ := quiet_callU (w1 := wc) (fun W' _ => kk2 W')
      have y3 : ∀ d os, (grow (redrawn wc d) os).cell? ⟨w2.heap.size, 3, none⟩ = some (.string ⟨u.host.toArray⟩) := fun d os => cell_regrown (hUV2.cell 3) d os
      have x0 : ∀ d os, (grow (redrawn wc d) os).cell? ⟨w6.heap.size, 0, none⟩ = some (.string ⟨#[104, 116, 116, 112, 115]⟩) := fun d os => cell_regrown (by rw [Lib.cell_of_heap hVV2]; rfl) d os
      have x1 : ∀ d os, (grow (redrawn wc d) os).cell? ⟨w6.heap.size, 1, none⟩ = some (.string ⟨#[]⟩) := fun d os => cell_regrown (by rw [Lib.cell_of_heap hVV2]; rfl) d os
      have x2 : ∀ d os, (grow (redrawn wc d) os).cell? ⟨w6.heap.size, 2, none⟩ = some (.string ⟨#[]⟩) := fun d os => cell_regrown (by rw [Lib.cell_of_heap hVV2]; rfl) d os
      have x3 : ∀ d os, (grow (redrawn wc d) os).cell? ⟨w6.heap.size, 3, none⟩ = some (.string ⟨u.host.toArray⟩) := fun d os => cell_regrown (by rw [Lib.cell_of_heap hVV2]; rfl) d os
      have x4 : ∀ d os, (grow (redrawn wc d) os).cell? ⟨w6.heap.size, 4, none⟩ = some (.int .i64 Q2) := fun d os => cell_regrown (by rw [Lib.cell_of_heap hVV2]; rfl) d os
      have x5 : ∀ d os, (grow (redrawn wc d) os).cell? ⟨w6.heap.size, 5, none⟩ = some (.string ⟨#[47]⟩) := fun d os => cell_regrown (by rw [Lib.cell_of_heap hVV2]; rfl) d os
      have x6 : ∀ d os, (grow (redrawn wc d) os).cell? ⟨w6.heap.size, 6, none⟩ = some (.string ⟨#[]⟩) := fun d os => cell_regrown (by rw [Lib.cell_of_heap hVV2]; rfl) d os
      have x7 : ∀ d os, (grow (redrawn wc d) os).cell? ⟨w6.heap.size, 7, none⟩ = some (.bool false) := fun d os => cell_regrown (by rw [Lib.cell_of_heap hVV2]; rfl) d os
      have x8 : ∀ d os, (grow (redrawn wc d) os).cell? ⟨w6.heap.size, 8, none⟩ = some (.string ⟨#[]⟩) := fun d os => cell_regrown (by rw [Lib.cell_of_heap hVV2]; rfl) d os
      have x9 : ∀ d os, (grow (redrawn wc d) os).cell? ⟨w6.heap.size, 9, none⟩ = some (.bool false) := fun d os => cell_regrown (by rw [Lib.cell_of_heap hVV2]; rfl) d os
      clear hU2 hbv2
      refine wp_region_quiet_below (by kernel_rfl) (by kernel_rfl) ?_
      repeat (quiet_step (first | exact kp _ _ | exact kk _ _))
      refine wpQuiet_nil ?_
      intro _ hw'
      obtain ⟨⟨dq, osq⟩, hw''⟩ := hw'
      subst hw''
      have hbr := below_regrown wc dq osq
      have hUz := hUV2.on hbr
      have hbz := below_next hbV2 hbr
      clear kp kk y3 x0 x1 x2 x3 x4 x5 x6 x7 x8 x9 hUV2 hVV2 hbV2 hbr
      generalize grow (redrawn wc dq) osq = w7 at *
      clear hUz
      go_wp2_with fail
      rw [rounds_succ]
      go_wp2_with fail
      go_ret
      exact ⟨rfl, hbz⟩
end Go.Proofs.YtgihofogkoeimaaGreatDoor
