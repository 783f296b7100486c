/- The digits of a number: the iterator that puny.bias.tell hands back, and its plain law. -/
import Derived.Test.YtafieajameapiaaDoorRangeS
import Derived.Test.YtafieajameapiaaDoorPunyWalkA
import Derived.Test.YtafieajameapiaaDoorBuilder
import Derived.RangeFuncLeaves
import Derived.RangeFuncCalls
import Derived.WalkKit
import Derived.OwnWalkIn
import Derived.TacticsInMore
import Derived.LoopNIn
import Derived.LoopIn
set_option linter.unusedVariables false
set_option linter.unusedSimpArgs false
namespace Go.Proofs.YtafieajameapiaaDoor
open Go.RowKit

/-- The byte of a digit. -/
def digB (d : Nat) : Nat := if d < 26 then 97 + d else 22 + d
theorem digB_get : ∀ d : Fin 36, ([97, 98, 99, 100, 101, 102, 103, 104, 105, 106, 107, 108, 109, 110, 111, 112, 113, 114, 115, 116, 117, 118, 119, 120, 121, 122, 48, 49, 50, 51, 52, 53, 54, 55, 56, 57] : List UInt8)[d.val]? = some (UInt8.ofNat (digB d.val)) := by decide
theorem digs_get (d : Nat) (h : d < 36) : ([97, 98, 99, 100, 101, 102, 103, 104, 105, 106, 107, 108, 109, 110, 111, 112, 113, 114, 115, 116, 117, 118, 119, 120, 121, 122, 48, 49, 50, 51, 52, 53, 54, 55, 56, 57] : List UInt8)[d]'h = UInt8.ofNat (digB d) := (List.getElem?_eq_some_iff.1 (digB_get ⟨d, h⟩)).2
/-- The digits of n from place k on. -/
def toldF : Nat → Nat → Nat → Nat → List UInt8
  | 0, n, b, k => [UInt8.ofNat (digB n)]
  | f + 1, n, b, k => if n < bnd b k then [UInt8.ofNat (digB n)] else UInt8.ofNat (digB (bnd b k + (n - bnd b k) % (36 - bnd b k))) :: toldF f ((n - bnd b k) / (36 - bnd b k)) b (k + 36)
theorem told_div {n b k : Nat} (h : bnd b k ≤ n) : (n - bnd b k) / (36 - bnd b k) < n := by
  have := bnd_bd b k
  have h1 : (n - bnd b k) / (36 - bnd b k) ≤ n - bnd b k := Nat.div_le_self _ _
  omega
theorem toldF_any : ∀ (f g n b k : Nat), n ≤ f → n ≤ g → toldF f n b k = toldF g n b k
  | 0, 0, _, _, _, _, _ => rfl
  | 0, g + 1, n, b, k, h, _ => by
    have := bnd_bd b k
    have : n = 0 := by omega
    subst this; unfold toldF; rw [if_pos (by omega)]
  | f + 1, 0, n, b, k, _, h => by
    have := bnd_bd b k
    have : n = 0 := by omega
    subst this; unfold toldF; rw [if_pos (by omega)]
  | f + 1, g + 1, n, b, k, h1, h2 => by
    unfold toldF
    split
    · rfl
    · rw [toldF_any f g _ _ _ (by have := @told_div n b k (by omega); omega) (by have := @told_div n b k (by omega); omega)]
def toldL (n b k : Nat) : List UInt8 := toldF n n b k
theorem told_last {n b k : Nat} (h : n < bnd b k) : toldL n b k = [UInt8.ofNat (digB n)] := by
  unfold toldL
  cases n with
  | zero => rfl
  | succ n => unfold toldF; rw [if_pos h]
theorem told_more {n b k : Nat} (h : bnd b k ≤ n) : toldL n b k = UInt8.ofNat (digB (bnd b k + (n - bnd b k) % (36 - bnd b k))) :: toldL ((n - bnd b k) / (36 - bnd b k)) b (k + 36) := by
  have := bnd_bd b k
  have hd := @told_div n b k h
  unfold toldL
  rw [show toldF n n b k = toldF (n - 1 + 1) n b k from by rw [Nat.sub_add_cancel (by omega)]]
  conv => lhs; unfold toldF
  rw [if_neg (by omega), toldF_any _ _ _ _ _ (by omega) (Nat.le_refl _)]

/-- The two boxes are kept. -/
def KeepBox (Bb Bn : Nat) (A B : World) : Prop := B.heap[Bb]? = A.heap[Bb]? ∧ B.heap[Bn]? = A.heap[Bn]?
theorem tell_any (b n : Nat) (w : World) :
    Calls Tryd.prog 24 #[.int .i64 b, .int .i64 n] w fun e w' => e = .returned (.func (.func 47) #[] #[.pointer (some ⟨w.heap.size, 0, none⟩), .pointer (some ⟨w.heap.size + 1, 0, none⟩)]) ∧
      w' = (w.alloc (.cells #[.int .i64 b] 38)).alloc (.cells #[.int .i64 n] 3) := by
  go_enter Tryd.func24, Tryd.ntmps24
  go_wp2
  go_ret
  refine ⟨?_, rfl⟩
  simp

/-- What a box holds, as a number. -/
def boxNat (W : World) (B : Nat) : Nat := match W.cell? ⟨B, 0, none⟩ with | some (.int _ c) => c.toNat | _ => 0
theorem boxNat_eq {W : World} {B : Nat} {t : TypeId} {k : IntKind} {n : Nat} (h : Boxed W B t (.int k n)) : boxNat W B = n := by
  unfold boxNat; rw [h.cell]; simp
theorem Boxed_eq {A B : World} {b : Nat} {t : TypeId} {v : Value} (h : Boxed A b t v) (e : B.heap[b]? = A.heap[b]?) : Boxed B b t v := e.trans h
theorem Boxed_other {A : World} {b c : Nat} {t : TypeId} {v v' : Value} (h : Boxed A b t v) (e : b ≠ c) : Boxed (A.setCell ⟨c, 0, none⟩ v') b t v := (Below.heap_setCell _ _ _ _ (by exact e)).trans h

set_option maxRecDepth 100000 in
set_option maxHeartbeats 1000000 in
theorem tell1_in (n : Nat) (hn : 1 ≤ n) (l Bb Bn : Nat) (b m : Nat) (hne : Bb ≠ Bn) (hb : b ≤ 1000000) (hm : m ≤ 8589934592) (J : List UInt8 → World → Prop) (T : List UInt8) (hT : T = toldL m b 36)
    (hJs : ∀ s A v, J s A → J s (A.setCell ⟨Bn, 0, none⟩ v))
    (hY : ∀ pre x rest W, J pre W → T = pre ++ x :: rest → YieldAt Fence.wide (n - 1) Tryd.prog l #[.int .u8 (x.toNat : Int)] W fun e W' => e = .returned (.bool true) ∧ J (pre ++ [x]) W' ∧ KeepBox Bb Bn W W')
    (W : World) (hBb : Boxed W Bb 38 (.int .i64 b)) (hBn : Boxed W Bn 3 (.int .i64 m)) (h0 : J [] W) :
    CallsIn Fence.wide n Tryd.prog 47 #[.func (.yield l) #[] #[], .pointer (some ⟨Bb, 0, none⟩), .pointer (some ⟨Bn, 0, none⟩)] W fun e W' => (∃ v, e = .returned v) ∧ J T W' := by
  refine callsIn_of_wp Tryd.func47 rfl trivial ?_ rfl
  simp only [Tryd.ntmps47, List.size_toArray, List.length_cons, List.length_nil, Nat.reduceAdd, Nat.reduceSub, Array.replicate_succ, Array.replicate_zero, List.push_toArray, List.append_toArray, List.nil_append, List.cons_append]
  gi_wp2
  gi_loopw [4] (fun p wr => ∃ (pre rest : List UInt8) (k m' : Nat), p = .int .i64 k ∧ T = pre ++ toldL m' b k ∧ k ≤ 36 * (8589934592 - m') + 36 ∧ m' ≤ 8589934592 ∧ Boxed wr Bb 38 (.int .i64 b) ∧ Boxed wr Bn 3 (.int .i64 m') ∧ J pre wr)
    (fun p wr => boxNat wr Bn)
  case atStart =>
    exact ⟨[], [], 36, m, rfl, by simpa using hT, by omega, hm, hBb, hBn, h0⟩
  case round =>
    obtain ⟨pre, rest, k, m', rfl, hT', hk, hm', hBb', hBn', hJ'⟩ := hrel
    have c1 := hBb'.cell
    have c2 := hBn'.cell
    have hbd := bnd_bd b k
    have fb : Fence.wide.fn 48 := trivial
    by_cases hlast : m' < bnd b k
    · have hl36 : m' < 36 := by omega
      rw [told_last hlast] at hT'
      obtain ⟨fn, tmps, assign, body, hy, hR⟩ := hY pre (([97, 98, 99, 100, 101, 102, 103, 104, 105, 106, 107, 108, 109, 110, 111, 112, 113, 114, 115, 116, 117, 118, 119, 120, 121, 122, 48, 49, 50, 51, 52, 53, 54, 55, 56, 57] : List UInt8)[m']'hl36) [] wr hJ' (by rw [hT', digs_get])
      gi_wp2_with (gi_at_call 48; refine (callsIn_wide.2 (bound_any b k _ (by omega) (by omega))).mono ?_; rintro e w' ⟨rfl, rfl⟩)
      refine hR.mono ?_
      rintro e W3 ⟨rfl, hJ3, hk3⟩
      gi_wp2
      refine bodyPost_ret (results_none rfl _ _ _) rfl ?_
      exact ⟨⟨_, rfl⟩, by rw [hT', ← digs_get m' hl36]; exact hJ3⟩
    · obtain ⟨t, ht⟩ : ∃ t, bnd b k = t := ⟨_, rfl⟩
      have ht1 : 1 ≤ t := by omega
      have ht2 : t ≤ 26 := by omega
      have htm : t ≤ m' := by omega
      rw [told_more (by omega), ht] at hT'
      have hr0 : (0 : Int) ≤ ((m' : Int) - (t : Int)) % (36 - (t : Int)) := Int.emod_nonneg _ (by omega)
      have hr1 : ((m' : Int) - (t : Int)) % (36 - (t : Int)) < 36 - (t : Int) := Int.emod_lt_of_pos _ (by omega)
      have hr2 : ((m' : Int) - (t : Int)) % (36 - (t : Int)) = (((m' - t) % (36 - t) : Nat) : Int) := by
        rw [Int.natCast_emod, Int.natCast_sub (by omega), Int.natCast_sub (by omega)]; rfl
      have hq2 : ((m' : Int) - (t : Int)) / (36 - (t : Int)) = (((m' - t) / (36 - t) : Nat) : Int) := by
        rw [Int.natCast_ediv, Int.natCast_sub (by omega), Int.natCast_sub (by omega)]; rfl
      have hq3 : (m' - t) / (36 - t) ≤ m' - t := Nat.div_le_self _ _
      have hbt : ∀ w, Calls Tryd.prog 48 #[.int .i64 b, .int .i64 k] w fun e w' => e = .returned (.int .i64 (t : Int)) ∧ w = w' := fun w => by rw [← ht]; exact bound_any b k w (by omega) (by omega)
      have hd36 : t + (m' - t) % (36 - t) < 36 := by have := Nat.mod_lt (m' - t) (show 0 < 36 - t by omega); omega
      obtain ⟨fn, tmps, assign, body, hy, hR⟩ := hY pre (([97, 98, 99, 100, 101, 102, 103, 104, 105, 106, 107, 108, 109, 110, 111, 112, 113, 114, 115, 116, 117, 118, 119, 120, 121, 122, 48, 49, 50, 51, 52, 53, 54, 55, 56, 57] : List UInt8)[t + (m' - t) % (36 - t)]'hd36) _ wr hJ' (by rw [digs_get]; exact hT')
      have hqi := Lib.hid hq2
      have hri := Lib.hid hr2
      clear hq2 hr2
      gi_wp2_with (gi_at_call 48; refine (callsIn_wide.2 (hbt _)).mono ?_; rintro e w' ⟨rfl, rfl⟩)
      refine hR.mono ?_
      rintro e W3 ⟨rfl, hJ3, hk3⟩
      have b1 := Boxed_eq hBb' hk3.1
      have b2 := Boxed_eq hBn' hk3.2
      have c3 := b1.cell
      have c4 := b2.cell
      have f4 := b2.frozen
      have q0 : (0 : Int) ≤ ((m' : Int) - (t : Int)) / (36 - (t : Int)) := Int.ediv_nonneg (by omega) (by omega)
      have hq : ((m' : Int) - (t : Int)) / (36 - (t : Int)) = (((m' - t) / (36 - t) : Nat) : Int) := hqi
      have q1 : ((m' : Int) - (t : Int)) / (36 - (t : Int)) ≤ (m' : Int) := by rw [hq]; omega
      clear hq
      gi_wp2
      have hq : ((m' : Int) - (t : Int)) / (36 - (t : Int)) = (((m' - t) / (36 - t) : Nat) : Int) := hqi
      rw [hq]
      refine ⟨⟨pre ++ [UInt8.ofNat (digB (t + (m' - t) % (36 - t)))], [], k + 36, (m' - t) / (36 - t), by simp, by rw [hT']; simp, by omega, by omega, Boxed_other b1 hne, b2.set _, hJs _ _ _ ?_⟩, ?_⟩
      · rw [← digs_get _ hd36]; exact hJ3
      · rw [boxNat_eq (b2.set _), boxNat_eq hBn']; omega

/-- The iterator's contract, in the words of the range law. -/
theorem tell_seq (n : Nat) (hn : 1 ≤ n) (b m Bb Bn : Nat) (hne : Bb ≠ Bn) (hb : b ≤ 1000000) (hm : m ≤ 8589934592) (w : World) (hBb : Boxed w Bb 38 (.int .i64 b)) (hBn : Boxed w Bn 3 (.int .i64 m)) :
    SeqS Fence.wide n Tryd.prog 47 #[.pointer (some ⟨Bb, 0, none⟩), .pointer (some ⟨Bn, 0, none⟩)] (fun x : UInt8 => #[.int .u8 (x.toNat : Int)]) (fun c => c = Bn) (KeepBox Bb Bn) (toldL m b 36) w :=
  fun l J W hW _ hs hY h0 => tell1_in n hn l Bb Bn b m hne hb hm J _ rfl (fun s A v => hs Bn v s A rfl) hY W ((hW.block _ hBb.lt).trans hBb) ((hW.block _ hBn.lt).trans hBn) h0
end Go.Proofs.YtafieajameapiaaDoor
