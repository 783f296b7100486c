/- The trie of the replacer of points: adding. -/
import Derived.Test.YtgihofogkoeimaaGreatDoorGRep
import Derived.Test.YtgihofogkoeimaaGreatDoorGUrl1
set_option linter.unusedVariables false
set_option linter.unusedSimpArgs false
namespace Go.Proofs.YtgihofogkoeimaaGreatDoor
open Go.RowKit
def NodeAt (N : Nat) (val : List UInt8) (prio : Int) (pre : List UInt8) (next : Option Addr) (tab : Value) (w : World) : Prop :=
 w.heap[N]? = some (.cells #[.string ⟨val.toArray⟩, .int .i64 prio, .string ⟨pre.toArray⟩, .pointer next, tab] 230 (0, 0))
theorem NodeAt.lt {N val prio pre next tab} {w : World} (h : NodeAt N val prio pre next tab w) : N < w.heap.size := (Array.getElem?_eq_some_iff.1 h).1
theorem NodeAt.cell {N val prio pre next tab} {w : World} (h : NodeAt N val prio pre next tab w) (k : Nat) : w.cell? ⟨N, k, none⟩ = (#[.string ⟨val.toArray⟩, .int .i64 prio, .string ⟨pre.toArray⟩, .pointer next, tab])[k]? := by
 rw [Lib.cell_of_heap h]
theorem NodeAt.free {N val prio pre next tab} {w : World} (h : NodeAt N val prio pre next tab w) (k : Nat) : w.frozen? ⟨N, k, none⟩ = false := Lib.frozen_of_heap h k
theorem NodeAt.of {N val prio pre next tab} {w w' : World} (h : NodeAt N val prio pre next tab w) (e : w'.heap[N]? = w.heap[N]?) : NodeAt N val prio pre next tab w' := e.trans h
theorem NodeAt.set {N val prio pre next tab} {val' : List UInt8} {prio' : Int} {pre' : List UInt8} {next' : Option Addr} {tab' : Value} {w : World} (h : NodeAt N val prio pre next tab w) (k : Nat) (v : Value)
  (e : (#[.string ⟨val.toArray⟩, .int .i64 prio, .string ⟨pre.toArray⟩, .pointer next, tab] : Array Value).setIfInBounds k v = #[.string ⟨val'.toArray⟩, .int .i64 prio', .string ⟨pre'.toArray⟩, .pointer next', tab']) : NodeAt N val' prio' pre' next' tab' (w.setCell ⟨N, k, none⟩ v) := by
 unfold NodeAt
 rw [hset_in h, e]
abbrev nilT : Value := .slice none 0 0
theorem kept_set {N : Nat} {w : World} (k : Nat) (v : Value) (lo : Nat) : KeptX lo N w (w.setCell ⟨N, k, none⟩ v) :=
 ⟨(Below.refl N w).setCell (p := ⟨N, k, none⟩) (Nat.le_refl _) v, fun i _ hi => Below.heap_setCell _ _ _ _ (by intro e; exact hi e)⟩
set_option maxRecDepth 100000 in
set_option maxHeartbeats 1600000 in
theorem add_leaf (t : Nat) (val : List UInt8) (prio : Int) (r : Value) (w : World) (h : NodeAt t [] 0 [] none nilT w) :
  Calls Tryz.prog 224 #[.pointer (some ⟨t, 0, none⟩), .string ⟨#[]⟩, .string ⟨val.toArray⟩, .int .i64 prio, r] w fun e w' => e = .returned (.tuple #[]) ∧ (NodeAt t val prio [] none nilT w' ∧ KeptX w.heap.size t w w') := by
 have k0 : w.cell? ⟨t, 0, none⟩ = some (.string ⟨#[]⟩) := h.cell 0
 have k1 : w.cell? ⟨t, 1, none⟩ = some (.int .i64 0) := h.cell 1
 have f0 := h.free 0
 have f1 := h.free 1
 have h1 := h.set (val' := val) (prio' := 0) (pre' := []) (next' := none) (tab' := nilT) 0 (.string ⟨val.toArray⟩) rfl
 have h2 := h1.set (val' := val) (prio' := prio) (pre' := []) (next' := none) (tab' := nilT) 1 (.int .i64 prio) rfl
 have hk := (kept_set (N := t) (w := w) 0 (.string ⟨val.toArray⟩) w.heap.size).trans (kept_set 1 (.int .i64 prio) w.heap.size)
 clear h h1
 go_enter Tryz.func224, Tryz.ntmps224
 go_wp2_with fail
 first | go_end0 | refine bodyPost_ret (results_none rfl _ _ _) rfl ?_
 exact ⟨rfl, h2, hk⟩
set_option maxRecDepth 100000 in
set_option maxHeartbeats 1600000 in
theorem add_new (t : Nat) (key val : List UInt8) (prio : Int) (r : Value) (w : World) (hkey : key ≠ []) (h : NodeAt t [] 0 [] none nilT w) :
  Calls Tryz.prog 224 #[.pointer (some ⟨t, 0, none⟩), .string ⟨key.toArray⟩, .string ⟨val.toArray⟩, .int .i64 prio, r] w fun e w' => e = .returned (.tuple #[]) ∧
   (NodeAt t [] 0 key (some ⟨w.heap.size, 0, none⟩) nilT w' ∧ NodeAt w.heap.size val prio [] none nilT w' ∧ KeptX w.heap.size t w w') := by
 have q1 : (key == []) = false := beq_eq_false_iff_ne.2 hkey
 have k2 : w.cell? ⟨t, 2, none⟩ = some (.string ⟨#[]⟩) := h.cell 2
 have k3 : w.cell? ⟨t, 3, none⟩ = some (.pointer none) := h.cell 3
 have k4 : w.cell? ⟨t, 4, none⟩ = some nilT := h.cell 4
 have f2 := h.free 2
 have f3 := h.free 3
 have hlt := h.lt
 have h1 := h.set (val' := []) (prio' := 0) (pre' := key) (next' := none) (tab' := nilT) 2 (.string ⟨key.toArray⟩) rfl
 have h2 := h1.set (val' := []) (prio' := 0) (pre' := key) (next' := some ⟨w.heap.size, 0, none⟩) (tab' := nilT) 3 (.pointer (some ⟨w.heap.size, 0, none⟩)) rfl
 have hk := (kept_set (N := t) (w := w) 2 (.string ⟨key.toArray⟩) w.heap.size).trans (kept_set 3 (.pointer (some ⟨w.heap.size, 0, none⟩)) w.heap.size)
 have hs1 : (((w.setCell ⟨t, 2, none⟩ (.string ⟨key.toArray⟩)).setCell ⟨t, 3, none⟩ (.pointer (some ⟨w.heap.size, 0, none⟩))).heap.size) = w.heap.size := by rw [World.size_setCell, World.size_setCell]
 go_enter Tryz.func224, Tryz.ntmps224
 go_wp2_with fail
 generalize ((w.setCell ⟨t, 2, none⟩ (.string ⟨key.toArray⟩)).setCell ⟨t, 3, none⟩ (.pointer (some ⟨w.heap.size, 0, none⟩))) = w1 at *
 have hn : NodeAt w.heap.size [] 0 [] none nilT (w1.alloc (.cells #[.string ⟨#[]⟩, .int .i64 0, .string ⟨#[]⟩, .pointer none, .slice none 0 0] 230)) := by
  have := heap_alloc_new w1 (.cells #[.string ⟨#[]⟩, .int .i64 0, .string ⟨#[]⟩, .pointer none, .slice none 0 0] 230)
  rw [hs1] at this
  exact this
 go_at_call 224
 refine (add_leaf w.heap.size val prio r _ hn).mono ?_
 rintro e w2 ⟨rfl, h3, hk3⟩
 have hz2 : (w1.alloc (.cells #[.string ⟨#[]⟩, .int .i64 0, .string ⟨#[]⟩, .pointer none, .slice none 0 0] 230)).heap.size = w.heap.size + 1 := by rw [World.size_alloc, hs1]
 have h4 : NodeAt t [] 0 key (some ⟨w.heap.size, 0, none⟩) nilT w2 := (h2.of (Lib.alloc_old w1 _ t (by omega))).of (hk3.2 t (by omega) (by omega))
 have hK : KeptX w.heap.size t w w2 := by
  refine ⟨(hk.1.alloc (by omega) _).trans (hk3.1.mono (by omega)), fun i hi hit => (hk3.2 i (by omega) (by omega)).trans ((Lib.alloc_old w1 _ i (by omega)).trans (hk.2 i hi hit))⟩
 clear h h1 h2 hk hn hk3
 go_wp2_with fail
 first | go_end0 | refine bodyPost_ret (results_none rfl _ _ _) rfl ?_
 exact ⟨rfl, h4, h3, hK⟩
end Go.Proofs.YtgihofogkoeimaaGreatDoor
namespace Go.Proofs.YtgihofogkoeimaaGreatDoor
open Go.RowKit
theorem e_node : Elem1 Tryz.prog 228 227 (.pointer none) 8 := ⟨Tryz.underlying228, info_parts (by kernel_rfl), rfl⟩
theorem make_table (w : World) (g : Nat) (hg : w.heap.size = g) : (Instr.makeSlice 228 (.int .i64 4) (.int .i64 4)).run Tryz.prog w = .ok (.slice (some ⟨g, 0, none⟩) 4 4) (w.alloc (.cells #[.pointer none, .pointer none, .pointer none, .pointer none] 227)) := by
 obtain ⟨i, hi, hz, hsize, hby⟩ := e_node.hi
 have := run_makeSlice (P := Tryz.prog) w 228 227 i (.pointer none) Tryz.underlying228 hi hz .i64 .i64 4 4 (by omega) (by omega) (by rw [hsize]; decide) (by rw [hby]; decide) (by omega)
 rw [hsize, hg, show (Value.pointer none).cells = #[Value.pointer none] from rfl, made_one] at this
 exact this
structure GenM (G : Nat) (w : World) : Prop where
 size : w.cell? ⟨G, 5, none⟩ = some (.int .i64 4)
 pct : w.cell? ⟨G, 43, none⟩ = some (.int .u8 0)
 two : w.cell? ⟨G, 56, none⟩ = some (.int .u8 1)
 great : w.cell? ⟨G, 75, none⟩ = some (.int .u8 2)
 small : w.cell? ⟨G, 107, none⟩ = some (.int .u8 3)
theorem GenM.lt {G} {w : World} (h : GenM G w) : G < w.heap.size := by
 refine Classical.byContradiction fun hn => ?_
 have := h.size
 simp [World.cell?, Array.getElem?_eq_none (show w.heap.size ≤ G by omega)] at this
theorem GenM.of {G} {w w' : World} (h : GenM G w) (e : w'.heap[G]? = w.heap[G]?) : GenM G w' := by
 have c : ∀ k, w'.cell? ⟨G, k, none⟩ = w.cell? ⟨G, k, none⟩ := fun k => by simp only [World.cell?, e]
 exact ⟨(c _).trans h.1, (c _).trans h.2, (c _).trans h.3, (c _).trans h.4, (c _).trans h.5⟩
def TableAt (T : Nat) (a b c d : Option Addr) (w : World) : Prop := w.heap[T]? = some (.cells #[.pointer a, .pointer b, .pointer c, .pointer d] 227 (0, 0))
theorem TableAt.lt {T a b c d} {w : World} (h : TableAt T a b c d w) : T < w.heap.size := (Array.getElem?_eq_some_iff.1 h).1
theorem TableAt.cell {T a b c d} {w : World} (h : TableAt T a b c d w) (k : Nat) : w.cell? ⟨T, k, none⟩ = (#[Value.pointer a, .pointer b, .pointer c, .pointer d])[k]? := by
 rw [Lib.cell_of_heap h]
theorem TableAt.free {T a b c d} {w : World} (h : TableAt T a b c d w) (k : Nat) : w.frozen? ⟨T, k, none⟩ = false := Lib.frozen_of_heap h k
theorem TableAt.of {T a b c d} {w w' : World} (h : TableAt T a b c d w) (e : w'.heap[T]? = w.heap[T]?) : TableAt T a b c d w' := e.trans h
theorem TableAt.set {T a b c d a' b' c' d'} {w : World} (h : TableAt T a b c d w) (k : Nat) (v : Value) (e : (#[Value.pointer a, .pointer b, .pointer c, .pointer d]).setIfInBounds k v = #[Value.pointer a', .pointer b', .pointer c', .pointer d']) : TableAt T a' b' c' d' (w.setCell ⟨T, k, none⟩ v) := by
 unfold TableAt
 rw [hset_in h, e]
set_option maxRecDepth 100000 in
set_option maxHeartbeats 4000000 in
theorem add_split (t G N : Nat) (val : List UInt8) (prio : Int) (w : World) (h : NodeAt t [] 0 [101] (some ⟨N, 0, none⟩) nilT w) (hG : GenM G w) (hne : G ≠ t) :
  Calls Tryz.prog 224 #[.pointer (some ⟨t, 0, none⟩), .string ⟨#[69]⟩, .string ⟨val.toArray⟩, .int .i64 prio, .pointer (some ⟨G, 0, none⟩)] w fun e w' => e = .returned (.tuple #[]) ∧
   (NodeAt t [] 0 [] none (.slice (some ⟨w.heap.size + 1, 0, none⟩) 4 4) w' ∧ TableAt (w.heap.size + 1) none none (some ⟨w.heap.size, 0, none⟩) (some ⟨N, 0, none⟩) w' ∧ NodeAt w.heap.size val prio [] none nilT w' ∧ KeptX w.heap.size t w w') := by
 have k2 : w.cell? ⟨t, 2, none⟩ = some (.string ⟨#[101]⟩) := h.cell 2
 have k3 : w.cell? ⟨t, 3, none⟩ = some (.pointer (some ⟨N, 0, none⟩)) := h.cell 3
 have k4 : w.cell? ⟨t, 4, none⟩ = some nilT := h.cell 4
 have f2 := h.free 2
 have f3 := h.free 3
 have f4 := h.free 4
 have g5 := hG.size
 have g69 := hG.great
 have g101 := hG.small
 go_enter Tryz.func224, Tryz.ntmps224
 go_wp2_with fail
 refine wp_loop_rounds 1 ?_
 rw [rounds_succ]
 go_wp2_with fail
 go_region
 all_goals
  go_upto_region 17 with fail
  obtain ⟨V1, hV1⟩ : ∃ V, (w.alloc (.cells #[.string ⟨#[]⟩, .int .i64 0, .string ⟨#[]⟩, .pointer none, .slice none 0 0] 230)).drew = V := ⟨_, rfl⟩
  rw [hV1]
  have a1 : ∀ i, i < w.heap.size → V1.heap[i]? = w.heap[i]? := fun i hi => by rw [← hV1]; exact Lib.alloc_old w _ i hi
  have s1 : V1.heap.size = w.heap.size + 1 := by rw [← hV1]; exact World.size_alloc _ _
  have n1 : NodeAt w.heap.size [] 0 [] none nilT V1 := by rw [← hV1]; exact heap_alloc_new w _
  have b1 : Below w.heap.size w V1 := by rw [← hV1]; exact (below_alloc w _).drew
  have t1 := h.of (a1 t h.lt)
  have m1 := hG.of (a1 G hG.lt)
  have z5 := m1.size
  obtain ⟨V2, hV2⟩ : ∃ V, V1.alloc (.cells #[.pointer none, .pointer none, .pointer none, .pointer none] 227) = V := ⟨_, rfl⟩
  have hmk := make_table V1 (w.heap.size + 1) s1
  rw [hV2] at hmk
  have a2 : ∀ i, i < V1.heap.size → V2.heap[i]? = V1.heap[i]? := fun i hi => by rw [← hV2]; exact Lib.alloc_old V1 _ i hi
  have s2 : V2.heap.size = w.heap.size + 2 := by rw [← hV2, World.size_alloc, s1]
  have T2 : TableAt (w.heap.size + 1) none none none none V2 := by rw [← hV2, ← s1]; exact heap_alloc_new V1 _
  have b2 : Below w.heap.size w V2 := by rw [← hV2]; exact b1.alloc (by omega) _
  have t2 := t1.of (a2 t t1.lt)
  have m2 := m1.of (a2 G m1.lt)
  have n2 := n1.of (a2 _ n1.lt)
  have x4 : V2.cell? ⟨t, 4, none⟩ = some nilT := t2.cell 4
  have y4 := t2.free 4
  have T3 := t2.set (val' := []) (prio' := 0) (pre' := [101]) (next' := some ⟨N, 0, none⟩) (tab' := .slice (some ⟨w.heap.size + 1, 0, none⟩) 4 4) 4 (.slice (some ⟨w.heap.size + 1, 0, none⟩) 4 4) rfl
  have hlt := h.lt
  have hGl := hG.lt
  clear hV1 hV2 k2 k3 k4 f2 f3 f4 g5 g69 g101
  go_upto_region 18 with fail
  obtain ⟨V3, hV3⟩ : ∃ V, V2.setCell ⟨t, 4, none⟩ (.slice (some ⟨w.heap.size + 1, 0, none⟩) 4 4) = V := ⟨_, rfl⟩
  rw [hV3] at T3 ⊢
  have a3 : ∀ i, i ≠ t → V3.heap[i]? = V2.heap[i]? := fun i hi => by rw [← hV3]; exact Below.heap_setCell _ _ _ _ (by exact hi)
  have s3 : V3.heap.size = w.heap.size + 2 := by rw [← hV3, World.size_setCell, s2]
  have B3 : TableAt (w.heap.size + 1) none none none none V3 := T2.of (a3 _ (by omega))
  have m3 := m2.of (a3 G hne)
  have n3 := n2.of (a3 _ (by omega))
  have b3 : Below t w V3 := by rw [← hV3]; exact (b2.mono (Nat.le_of_lt hlt)).setCell (p := ⟨t, 4, none⟩) (Nat.le_refl _) _
  have K3 : ∀ i, i < w.heap.size → i ≠ t → V3.heap[i]? = w.heap[i]? := fun i hi hit => (a3 i hit).trans ((a2 i (by omega)).trans (a1 i hi))
  have c2 : V3.cell? ⟨t, 2, none⟩ = some (.string ⟨#[101]⟩) := T3.cell 2
  have c4 : V3.cell? ⟨t, 4, none⟩ = some (.slice (some ⟨w.heap.size + 1, 0, none⟩) 4 4) := T3.cell 4
  have d3 : V3.cell? ⟨w.heap.size + 1, 3, none⟩ = some (.pointer none) := B3.cell 3
  have e3 := B3.free 3
  have g3 := m3.small
  have B4 := B3.set (a' := none) (b' := none) (c' := none) (d' := some ⟨N, 0, none⟩) 3 (.pointer (some ⟨N, 0, none⟩)) rfl
  clear hV3 x4 y4 z5 hmk T2 t2 m2 n2 t1 m1 n1 b1 b2 a1 a2 s1 s2
  go_region
  all_goals
   go_upto_region 19 with fail
   obtain ⟨V4, hV4⟩ : ∃ V, (V3.setCell ⟨w.heap.size + 1, 3, none⟩ (.pointer (some ⟨N, 0, none⟩))).drew = V := ⟨_, rfl⟩
   rw [hV4]
   have a4 : ∀ i, i ≠ w.heap.size + 1 → V4.heap[i]? = V3.heap[i]? := fun i hi => by rw [← hV4]; exact Below.heap_setCell _ _ _ _ (by exact hi)
   have s4 : V4.heap.size = w.heap.size + 2 := by rw [← hV4]; show (V3.setCell _ _).heap.size = _; rw [World.size_setCell, s3]
   have B5 : TableAt (w.heap.size + 1) none none none (some ⟨N, 0, none⟩) V4 := by rw [← hV4]; exact B4
   have T4 := T3.of (a4 t (by omega))
   have m4 := m3.of (a4 G (by omega))
   have n4 := n3.of (a4 _ (by omega))
   have b4 : Below t w V4 := by rw [← hV4]; exact (b3.setCell (p := ⟨w.heap.size + 1, 3, none⟩) (by show t ≤ w.heap.size + 1; omega) _).drew
   have K4 : ∀ i, i < w.heap.size → i ≠ t → V4.heap[i]? = w.heap[i]? := fun i hi hit => (a4 i (by omega)).trans (K3 i hi hit)
   have r4 : V4.cell? ⟨t, 4, none⟩ = some (.slice (some ⟨w.heap.size + 1, 0, none⟩) 4 4) := T4.cell 4
   have r2 : V4.cell? ⟨w.heap.size + 1, 2, none⟩ = some (.pointer none) := B5.cell 2
   have q2 := B5.free 2
   have g4 := m4.great
   have B6 := B5.set (a' := none) (b' := none) (c' := some ⟨w.heap.size, 0, none⟩) (d' := some ⟨N, 0, none⟩) 2 (.pointer (some ⟨w.heap.size, 0, none⟩)) rfl
   clear hV4 c2 c4 d3 e3 g3 B4 B3 T3 m3 n3 b3 K3 a3 s3
   go_region
   all_goals
    go_upto_region 20 with fail
    obtain ⟨V5, hV5⟩ : ∃ V, (V4.setCell ⟨w.heap.size + 1, 2, none⟩ (.pointer (some ⟨w.heap.size, 0, none⟩))).drew = V := ⟨_, rfl⟩
    rw [hV5]
    have a5 : ∀ i, i ≠ w.heap.size + 1 → V5.heap[i]? = V4.heap[i]? := fun i hi => by rw [← hV5]; exact Below.heap_setCell _ _ _ _ (by exact hi)
    have s5 : V5.heap.size = w.heap.size + 2 := by rw [← hV5]; show (V4.setCell _ _).heap.size = _; rw [World.size_setCell, s4]
    have B7 : TableAt (w.heap.size + 1) none none (some ⟨w.heap.size, 0, none⟩) (some ⟨N, 0, none⟩) V5 := by rw [← hV5]; exact B6
    have T5 := T4.of (a5 t (by omega))
    have n5 := n4.of (a5 _ (by omega))
    have b5 : Below t w V5 := by rw [← hV5]; exact (b4.setCell (p := ⟨w.heap.size + 1, 2, none⟩) (by show t ≤ w.heap.size + 1; omega) _).drew
    have K5 : ∀ i, i < w.heap.size → i ≠ t → V5.heap[i]? = w.heap[i]? := fun i hi hit => (a5 i (by omega)).trans (K4 i hi hit)
    have p2 : V5.cell? ⟨t, 2, none⟩ = some (.string ⟨#[101]⟩) := T5.cell 2
    have p3 : V5.cell? ⟨t, 3, none⟩ = some (.pointer (some ⟨N, 0, none⟩)) := T5.cell 3
    have o2 := T5.free 2
    have o3 := T5.free 3
    have T6 := T5.set (val' := []) (prio' := 0) (pre' := []) (next' := some ⟨N, 0, none⟩) (tab' := .slice (some ⟨w.heap.size + 1, 0, none⟩) 4 4) 2 (.string ⟨#[]⟩) rfl
    have T7 := T6.set (val' := []) (prio' := 0) (pre' := []) (next' := none) (tab' := .slice (some ⟨w.heap.size + 1, 0, none⟩) 4 4) 3 (.pointer none) rfl
    have a7 : ∀ i, i ≠ t → ((V5.setCell ⟨t, 2, none⟩ (.string ⟨#[]⟩)).setCell ⟨t, 3, none⟩ (.pointer none)).heap[i]? = V5.heap[i]? := fun i hi => (Below.heap_setCell _ _ _ _ (by exact hi)).trans (Below.heap_setCell _ _ _ _ (by exact hi))
    have s7 : ((V5.setCell ⟨t, 2, none⟩ (.string ⟨#[]⟩)).setCell ⟨t, 3, none⟩ (.pointer none)).heap.size = w.heap.size + 2 := by rw [World.size_setCell, World.size_setCell, s5]
    have b7 : Below t w ((V5.setCell ⟨t, 2, none⟩ (.string ⟨#[]⟩)).setCell ⟨t, 3, none⟩ (.pointer none)) := (b5.setCell (p := ⟨t, 2, none⟩) (Nat.le_refl _) _).setCell (p := ⟨t, 3, none⟩) (Nat.le_refl _) _
    clear hV5 r4 r2 q2 g4 B6 B5 T4 m4 n4 b4 K4 a4 s4 T5 T6 a5
    go_upto_region 22 with fail
    go_wp2_with fail
    generalize (V5.setCell ⟨t, 2, none⟩ (.string ⟨#[]⟩)).setCell ⟨t, 3, none⟩ (.pointer none) = V6 at *
    have n7 := n5.of (a7 _ (by omega))
    go_at_call 224
    refine (add_leaf w.heap.size val prio (.pointer (some ⟨G, 0, none⟩)) V6 n7).mono ?_
    rintro e V7 ⟨rfl, n8, K8⟩
    have T8 := T7.of (K8.2 t (by omega) (by omega))
    have B8 := (B7.of (a7 _ (by omega))).of (K8.2 _ (by omega) (by omega))
    have hK : KeptX w.heap.size t w V7 := ⟨b7.trans (K8.1.mono (by omega)), fun i hi hit => (K8.2 i (by omega) (by omega)).trans ((a7 i hit).trans (K5 i hi hit))⟩
    clear p2 p3 o2 o3 n5 n7 T7 B7 K8 K5 a7 b7 b5 s5 s7 h hG
    go_wp2_with fail
    first | go_end0 | refine bodyPost_ret (results_none rfl _ _ _) rfl ?_
    exact ⟨rfl, T8, B8, n8, hK⟩
set_option maxRecDepth 100000 in
set_option maxHeartbeats 4000000 in
theorem add_mid (t G N : Nat) (val : List UInt8) (prio : Int) (w : World) (h : NodeAt t [] 0 [50, 101] (some ⟨N, 0, none⟩) nilT w) (hG : GenM G w) (hne : G ≠ t) :
  Calls Tryz.prog 224 #[.pointer (some ⟨t, 0, none⟩), .string ⟨#[50, 69]⟩, .string ⟨val.toArray⟩, .int .i64 prio, .pointer (some ⟨G, 0, none⟩)] w fun e w' => e = .returned (.tuple #[]) ∧
   (NodeAt t [] 0 [50] (some ⟨w.heap.size, 0, none⟩) nilT w' ∧ NodeAt w.heap.size [] 0 [] none (.slice (some ⟨w.heap.size + 2, 0, none⟩) 4 4) w' ∧ TableAt (w.heap.size + 2) none none (some ⟨w.heap.size + 1, 0, none⟩) (some ⟨N, 0, none⟩) w' ∧ NodeAt (w.heap.size + 1) val prio [] none nilT w' ∧ KeptX w.heap.size t w w') := by
 have k2 : w.cell? ⟨t, 2, none⟩ = some (.string ⟨#[50, 101]⟩) := h.cell 2
 have k3 : w.cell? ⟨t, 3, none⟩ = some (.pointer (some ⟨N, 0, none⟩)) := h.cell 3
 have k4 : w.cell? ⟨t, 4, none⟩ = some nilT := h.cell 4
 have f2 := h.free 2
 have f3 := h.free 3
 have f4 := h.free 4
 go_enter Tryz.func224, Tryz.ntmps224
 go_wp2_with fail
 refine wp_loop_rounds 2 ?_
 rw [rounds_succ]
 go_wp2_with fail
 go_region
 all_goals
  go_wp2_with fail
  rw [rounds_succ]
  go_wp2_with fail
  go_region
  all_goals
   go_wp2_with fail
   go_region
   all_goals
    go_upto_region 24 with fail
    obtain ⟨V1, hV1⟩ : ∃ V, (w.alloc (.cells #[.string ⟨#[]⟩, .int .i64 0, .string ⟨#[101]⟩, .pointer (some ⟨N, 0, none⟩), .slice none 0 0] 230)).drew.drew.drew = V := ⟨_, rfl⟩
    rw [hV1]
    have a1 : ∀ i, i < w.heap.size → V1.heap[i]? = w.heap[i]? := fun i hi => by rw [← hV1]; exact Lib.alloc_old w _ i hi
    have s1 : V1.heap.size = w.heap.size + 1 := by rw [← hV1]; exact World.size_alloc _ _
    have n1 : NodeAt w.heap.size [] 0 [101] (some ⟨N, 0, none⟩) nilT V1 := by rw [← hV1]; exact heap_alloc_new w _
    have b1 : Below w.heap.size w V1 := by rw [← hV1]; exact (below_alloc w _).drew.drew.drew
    have hlt := h.lt
    have hGl := hG.lt
    have t1 := h.of (a1 t hlt)
    have m1 := hG.of (a1 G hGl)
    have p2 : V1.cell? ⟨t, 2, none⟩ = some (.string ⟨#[50, 101]⟩) := t1.cell 2
    have p3 : V1.cell? ⟨t, 3, none⟩ = some (.pointer (some ⟨N, 0, none⟩)) := t1.cell 3
    have o2 := t1.free 2
    have o3 := t1.free 3
    have T6 := t1.set (val' := []) (prio' := 0) (pre' := [50]) (next' := some ⟨N, 0, none⟩) (tab' := nilT) 2 (.string ⟨#[50]⟩) rfl
    have T7 := T6.set (val' := []) (prio' := 0) (pre' := [50]) (next' := some ⟨w.heap.size, 0, none⟩) (tab' := nilT) 3 (.pointer (some ⟨w.heap.size, 0, none⟩)) rfl
    have a7 : ∀ i, i ≠ t → ((V1.setCell ⟨t, 2, none⟩ (.string ⟨#[50]⟩)).setCell ⟨t, 3, none⟩ (.pointer (some ⟨w.heap.size, 0, none⟩))).heap[i]? = V1.heap[i]? := fun i hi => (Below.heap_setCell _ _ _ _ (by exact hi)).trans (Below.heap_setCell _ _ _ _ (by exact hi))
    have s7 : ((V1.setCell ⟨t, 2, none⟩ (.string ⟨#[50]⟩)).setCell ⟨t, 3, none⟩ (.pointer (some ⟨w.heap.size, 0, none⟩))).heap.size = w.heap.size + 1 := by rw [World.size_setCell, World.size_setCell, s1]
    have b7 : Below t w ((V1.setCell ⟨t, 2, none⟩ (.string ⟨#[50]⟩)).setCell ⟨t, 3, none⟩ (.pointer (some ⟨w.heap.size, 0, none⟩))) := ((b1.mono (Nat.le_of_lt hlt)).setCell (p := ⟨t, 2, none⟩) (Nat.le_refl _) _).setCell (p := ⟨t, 3, none⟩) (Nat.le_refl _) _
    clear hV1 T6 k2 k3 k4 f2 f3 f4
    go_upto_region 26 with fail
    generalize (V1.setCell ⟨t, 2, none⟩ (.string ⟨#[50]⟩)).setCell ⟨t, 3, none⟩ (.pointer (some ⟨w.heap.size, 0, none⟩)) = V6 at *
    have n7 := n1.of (a7 _ (by omega))
    have m7 := m1.of (a7 G hne)
    clear p2 p3 o2 o3
    go_wp2_with fail
    go_at_call 224
    refine (add_split w.heap.size G N val prio V6 n7 m7 (by omega)).mono ?_
    rintro e V7 ⟨rfl, c1, c2, c3, K8⟩
    rw [s7] at c1 c2 c3
    have T8 := T7.of (K8.2 t (by omega) (by omega))
    have hK : KeptX w.heap.size t w V7 := ⟨b7.trans (K8.1.mono (by omega)), fun i hi hit => (K8.2 i (by omega) (by omega)).trans ((a7 i hit).trans (a1 i hi))⟩
    clear n1 n7 T7 K8 a7 a1 b7 b1 s1 s7 h hG t1 m1 m7
    go_wp2_with fail
    first | go_end0 | refine bodyPost_ret (results_none rfl _ _ _) rfl ?_
    exact ⟨rfl, T8, c1, c2, c3, hK⟩
end Go.Proofs.YtgihofogkoeimaaGreatDoor
namespace Go.Proofs.YtgihofogkoeimaaGreatDoor
open Go.RowKit
structure RootAt (G T : Nat) (w : World) : Prop where
 pre : w.cell? ⟨G, 2, none⟩ = some (.string ⟨#[]⟩)
 tab : w.cell? ⟨G, 4, none⟩ = some (.slice (some ⟨T, 0, none⟩) 4 4)
theorem RootAt.of {G T} {w w' : World} (h : RootAt G T w) (e : w'.heap[G]? = w.heap[G]?) : RootAt G T w' := by
 have c : ∀ k, w'.cell? ⟨G, k, none⟩ = w.cell? ⟨G, k, none⟩ := fun k => by simp only [World.cell?, e]
 exact ⟨(c _).trans h.1, (c _).trans h.2⟩
theorem neq_tab (a : Option Addr) (l c : Nat) (w : World) : (binOp .neq 228 (.slice a l c) (.slice none 0 0)).run Tryz.prog w = .ok (.bool (!a.isNone)) w := run_neq_slice_nil w 228 227 a l c Tryz.underlying228
set_option maxRecDepth 100000 in
set_option maxHeartbeats 4000000 in
theorem add_root1 (G T : Nat) (val : List UInt8) (prio : Int) (w : World) (hR : RootAt G T w) (hG : GenM G w) (hT : TableAt T none none none none w) (hne : G ≠ T) :
  Calls Tryz.prog 224 #[.pointer (some ⟨G, 0, none⟩), .string ⟨#[37, 50, 101]⟩, .string ⟨val.toArray⟩, .int .i64 prio, .pointer (some ⟨G, 0, none⟩)] w fun e w' => e = .returned (.tuple #[]) ∧
   (TableAt T (some ⟨w.heap.size, 0, none⟩) none none none w' ∧ NodeAt w.heap.size [] 0 [50, 101] (some ⟨w.heap.size + 1, 0, none⟩) nilT w' ∧ NodeAt (w.heap.size + 1) val prio [] none nilT w' ∧ KeptX w.heap.size T w w') := by
 have k2 := hR.pre
 have k4 := hR.tab
 have g37 := hG.pct
 have hneq := neq_tab
 have T0 : w.cell? ⟨T, 0, none⟩ = some (.pointer none) := hT.cell 0
 have U0 := hT.free 0
 have hTl := hT.lt
 have hGl := hG.lt
 have hwd : w.drew.heap = w.heap := rfl
 have B1 := hT.set (a' := some ⟨w.heap.size, 0, none⟩) (b' := none) (c' := none) (d' := none) 0 (.pointer (some ⟨w.heap.size, 0, none⟩)) rfl
 go_enter Tryz.func224, Tryz.ntmps224
 go_wp2_with fail
 go_region
 all_goals
  go_upto_region 31 with fail
  obtain ⟨V1, hV1⟩ : ∃ V, ((w.setCell ⟨T, 0, none⟩ (.pointer (some ⟨w.heap.size, 0, none⟩))).alloc (.cells #[.string ⟨#[]⟩, .int .i64 0, .string ⟨#[]⟩, .pointer none, .slice none 0 0] 230)).drew = V := ⟨_, rfl⟩
  rw [hV1]
  have z1 : (w.setCell ⟨T, 0, none⟩ (.pointer (some ⟨w.heap.size, 0, none⟩))).heap.size = w.heap.size := World.size_setCell ..
  have a1 : ∀ i, i < w.heap.size → i ≠ T → V1.heap[i]? = w.heap[i]? := fun i hi hit => by rw [← hV1]; exact (Lib.alloc_old _ _ i (by rw [z1]; exact hi)).trans (Below.heap_setCell _ _ _ _ (by exact hit))
  have s1 : V1.heap.size = w.heap.size + 1 := by rw [← hV1]; show (World.alloc _ _).heap.size = _; rw [World.size_alloc, z1]
  have n1 : NodeAt w.heap.size [] 0 [] none nilT V1 := by
   have := heap_alloc_new (w.setCell ⟨T, 0, none⟩ (.pointer (some ⟨w.heap.size, 0, none⟩))) (.cells #[.string ⟨#[]⟩, .int .i64 0, .string ⟨#[]⟩, .pointer none, .slice none 0 0] 230)
   rw [z1] at this
   rw [← hV1]
   exact this
  have B2 : TableAt T (some ⟨w.heap.size, 0, none⟩) none none none V1 := by rw [← hV1]; exact B1.of (Lib.alloc_old _ _ T (by rw [z1]; exact hTl))
  have b1 : Below T w V1 := by rw [← hV1]; exact (((Below.refl T w).setCell (p := ⟨T, 0, none⟩) (Nat.le_refl _) _).alloc (by rw [z1]; omega) _).drew
  have R1 := hR.of (a1 G hGl hne)
  have r4 := R1.tab
  have c0 : V1.cell? ⟨T, 0, none⟩ = some (.pointer (some ⟨w.heap.size, 0, none⟩)) := B2.cell 0
  have ca := add_new w.heap.size [50, 101] val prio (.pointer (some ⟨G, 0, none⟩)) V1.drew (by simp) n1
  have hd : V1.drew.heap.size = w.heap.size + 1 := s1
  clear hV1 B1 k2 k4 g37 T0 U0 hwd n1 z1
  go_region_with (go_at_call 224; refine ca.mono ?_; rintro e V2 ⟨rfl, N1, N2, K2⟩)
  all_goals
   rw [hd] at N1 N2 K2
   have B3 := B2.of (K2.2 T (by omega) (by omega))
   have hK : KeptX w.heap.size T w V2 := ⟨b1.trans ((Below.refl T V1).drew.trans (K2.1.mono (by omega))), fun i hi hit => (K2.2 i (by omega) (by omega)).trans (a1 i hi hit)⟩
   clear ca K2 B2 b1 a1 c0 r4 R1 hR hG hT
   go_wp2_with fail
   first | go_end0 | refine bodyPost_ret (results_none rfl _ _ _) rfl ?_
   exact ⟨rfl, B3, N1, N2, hK⟩
set_option maxRecDepth 100000 in
set_option maxHeartbeats 4000000 in
theorem add_root2 (G T M N : Nat) (val : List UInt8) (prio : Int) (w : World) (hR : RootAt G T w) (hG : GenM G w) (hT : TableAt T (some ⟨M, 0, none⟩) none none none w) (hM : NodeAt M [] 0 [50, 101] (some ⟨N, 0, none⟩) nilT w) (hne : G ≠ M) :
  Calls Tryz.prog 224 #[.pointer (some ⟨G, 0, none⟩), .string ⟨#[37, 50, 69]⟩, .string ⟨val.toArray⟩, .int .i64 prio, .pointer (some ⟨G, 0, none⟩)] w fun e w' => e = .returned (.tuple #[]) ∧
   (NodeAt M [] 0 [50] (some ⟨w.heap.size, 0, none⟩) nilT w' ∧ NodeAt w.heap.size [] 0 [] none (.slice (some ⟨w.heap.size + 2, 0, none⟩) 4 4) w' ∧ TableAt (w.heap.size + 2) none none (some ⟨w.heap.size + 1, 0, none⟩) (some ⟨N, 0, none⟩) w' ∧ NodeAt (w.heap.size + 1) val prio [] none nilT w' ∧ KeptX w.heap.size M w w') := by
 have k2 := hR.pre
 have k4 := hR.tab
 have g37 := hG.pct
 have hneq := neq_tab
 have T0 : w.cell? ⟨T, 0, none⟩ = some (.pointer (some ⟨M, 0, none⟩)) := hT.cell 0
 have ca := add_mid M G N val prio w.drew.drew hM (hG.of rfl) hne
 have hd : w.drew.drew.heap.size = w.heap.size := rfl
 go_enter Tryz.func224, Tryz.ntmps224
 go_wp2_with fail
 go_region
 all_goals
  go_wp2_with fail
  go_region_with (go_at_call 224; refine ca.mono ?_; rintro e V2 ⟨rfl, N1, N2, N3, N4, K2⟩)
  all_goals
   rw [hd] at N1 N2 N3 N4 K2
   have hK : KeptX w.heap.size M w V2 := ⟨(Below.refl M w).drew.drew.trans K2.1, K2.2⟩
   clear ca K2 hR hG hT hM
   go_wp2_with fail
   first | go_end0 | refine bodyPost_ret (results_none rfl _ _ _) rfl ?_
   exact ⟨rfl, N1, N2, N3, N4, hK⟩
end Go.Proofs.YtgihofogkoeimaaGreatDoor
