/- slices.Insert of one rune into a slice that the call owns, in the words of 'ownsRow'. -/
import Derived.Test.YtafieajameapiaaDoorInsert
set_option linter.unusedVariables false
set_option linter.unusedSimpArgs false
namespace Go.Proofs.YtafieajameapiaaDoor
open Go.RowKit Go.Lib

/-- An array with a list laid over it from a place on. -/
def putL : Array Value → Nat → List Value → Array Value
  | c, _, [] => c
  | c, o, v :: r => putL (c.setIfInBounds o v) (o + 1) r
theorem size_putL : ∀ (vs : List Value) (c : Array Value) (o : Nat), (putL c o vs).size = c.size
  | [], _, _ => rfl
  | v :: r, c, o => by rw [putL, size_putL r]; simp
theorem toList_putL : ∀ (vs : List Value) (c : Array Value) (o : Nat), o + vs.length ≤ c.size → (putL c o vs).toList = c.toList.take o ++ vs ++ c.toList.drop (o + vs.length)
  | [], c, o, h => by simp [putL]
  | v :: r, c, o, h => by
    simp only [List.length_cons] at h
    rw [putL, toList_putL r _ _ (by simp; omega)]
    have h1 : (c.setIfInBounds o v).toList.take (o + 1) = c.toList.take o ++ [v] := by
      rw [Array.toList_setIfInBounds, List.take_succ_eq_append_getElem (by simp; omega)]
      simp [List.take_set_of_le]
    have h2 : (c.setIfInBounds o v).toList.drop (o + 1 + r.length) = c.toList.drop (o + (v :: r).length) := by
      rw [Array.toList_setIfInBounds, List.drop_set_of_lt (by omega)]
      congr 1; simp; omega
    rw [h1, h2]
    simp
theorem heap_setCell_in {w : World} {g : Nat} {cur : Array Value} {t : TypeId} {fr : Nat × Nat} (hg : w.heap[g]? = some (.cells cur t fr)) (o : Nat) (v : Value) : (w.setCell ⟨g, o, none⟩ v).heap[g]? = some (.cells (cur.setIfInBounds o v) t fr) := by
  simp only [World.setCell, Array.getElem?_modify, if_true, hg]
  rfl
theorem heap_setCells_in {g : Nat} {t : TypeId} {fr : Nat × Nat} : ∀ (vs : List Value) (w : World) (cur : Array Value) (o : Nat), w.heap[g]? = some (.cells cur t fr) → (w.setCells g o vs).heap[g]? = some (.cells (putL cur o vs) t fr)
  | [], _, _, _, h => h
  | v :: r, w, cur, o, h => heap_setCells_in r _ _ _ (heap_setCell_in h o v)
theorem grown_setCell (w : World) (g o : Nat) (v : Value) : w.grownBy (w.setCell ⟨g, o, none⟩ v) (some g) :=
  ⟨rfl, rfl, rfl, by simp [World.setCell], fun k _ hne => Below.heap_setCell _ _ _ _ (fun e => hne (by rw [e]))⟩
theorem grown_setCells (g : Nat) : ∀ (vs : List Value) (w : World) (o : Nat), w.grownBy (w.setCells g o vs) (some g)
  | [], w, _ => grown_refl w _
  | v :: r, w, o => grown_trans2 (grown_setCell w g o v) (grown_setCells g r _ _)
theorem below_setCells_new {B g : Nat} {a : World} (hg : B ≤ g) : ∀ (vs : List Value) (w : World) (o : Nat), Below B a w → Below B a (w.setCells g o vs)
  | [], _, _, h => h
  | v :: r, w, o, h => below_setCells_new hg r _ _ (h.setCell hg v)

theorem grown_of_below {a w : World} {row : Option Nat} (hb : Below a.heap.size a w) : a.grownBy w row := ⟨hb.os, hb.tape, hb.output, hb.size, fun k hk _ => hb.block k hk⟩
theorem ins_shift {α : Type} {c xs : List α} {x : α} {i n : Nat} (h : c.take n = xs) (hn : xs.length = n) (hi : i ≤ n) (hc : n + 1 ≤ c.length) :
    (((c.take (i + 1) ++ xs.drop i ++ c.drop (i + 1 + (xs.drop i).length)).take i) ++ [x] ++ ((c.take (i + 1) ++ xs.drop i ++ c.drop (i + 1 + (xs.drop i).length)).drop (i + [x].length))).take (n + 1) = xs.take i ++ [x] ++ xs.drop i := by
  have l1 : (c.take (i + 1)).length = i + 1 := by rw [List.length_take]; omega
  have e1 : (c.take (i + 1) ++ xs.drop i ++ c.drop (i + 1 + (xs.drop i).length)).take i = xs.take i := by
    rw [List.append_assoc, List.take_append_of_le_length (by omega), List.take_take, ← h, List.take_take]
    congr 1; omega
  have e2 : (c.take (i + 1) ++ xs.drop i ++ c.drop (i + 1 + (xs.drop i).length)).drop (i + [x].length) = xs.drop i ++ c.drop (i + 1 + (xs.drop i).length) := by
    rw [List.append_assoc]; exact List.drop_left' l1
  rw [e1, e2, ← List.append_assoc]
  refine List.take_left' ?_
  simp; omega
theorem ins_grow {α : Type} {c xs : List α} {x : α} {i n : Nat} (h : c.take i = xs.take i) (hn : xs.length = n) (hi : i ≤ n) (hc : n + 1 ≤ c.length) :
    (((c.take i ++ [x] ++ c.drop (i + [x].length)).take (i + 1)) ++ xs.drop i ++ ((c.take i ++ [x] ++ c.drop (i + [x].length)).drop (i + 1 + (xs.drop i).length))).take (n + 1) = xs.take i ++ [x] ++ xs.drop i := by
  have l1 : (c.take i ++ [x]).length = i + 1 := by simp; omega
  have e1 : (c.take i ++ [x] ++ c.drop (i + [x].length)).take (i + 1) = xs.take i ++ [x] := by rw [List.take_left' l1, h]
  rw [e1]
  refine List.take_left' ?_
  simp; omega

theorem insert_any (base : Nat) (v x : Value) (xs : List Value) (i : Nat) (w0 : World) (hown : w0.ownsRow base 21 1 v xs.length xs) (hi : i ≤ xs.length) (hn : xs.length ≤ 1000000) (hx : x.oneCell' = true) (hxs : ∀ u ∈ xs, u.oneCell' = true) (hb : base ≤ w0.heap.size) :
    Calls Tryd.prog 40 #[v, .int .i64 i, .slice (some ⟨w0.heap.size, 0, none⟩) 1 1] (w0.alloc (.cells #[x] 21)) fun e w' =>
      ∃ v', e = .returned v' ∧ w'.ownsRow base 21 1 v' (xs.length + 1) (xs.take i ++ [x] ++ xs.drop i) ∧ w0.grownBy w' v.ownBlock := by
  have hvs : ∀ j u, [x][j]? = some u → (w0.alloc (.cells #[x] 21)).cell? ⟨w0.heap.size, 0 + j, none⟩ = some u := by
    intro j u hj
    rw [Nat.zero_add, World.cell?_alloc_at _ _ _ j rfl]
    simpa using hj
  have h1v : ∀ u ∈ [x], u.oneCell' = true := by simpa using hx
  have hlen : (xs.take i ++ [x] ++ xs.drop i).length = (xs.length + 1) * 1 := by simp; omega
  rcases hown.2 with ⟨rfl, h0⟩ | ⟨g, cap, cur, rfl, hg0, hg, hcap, hmax, hsz, htake⟩
  · have hxs0 : xs = [] := List.length_eq_zero_iff.1 h0
    subst hxs0
    have : i = 0 := by simpa using hi
    subst this
    refine (insert_end_grow none 0 0 w0.heap.size 0 1 1 [] [x] _ (by omega) (by omega) (by omega) (by omega) rfl rfl (fun _ => rfl) (fun _ h => by cases h) hvs h1v).mono ?_
    rintro e w' ⟨rfl, rfl⟩
    refine ⟨_, rfl, ⟨hlen, .inr ⟨_, _, _, rfl, ?_, heap_alloc_new _ _, ?_, ?_, ?_, ?_⟩⟩, ?_⟩
    · simp; omega
    · exact grownCap_ge _ _ _ _
    · exact grownCap_le_maxLen _ _ _ _ (by unfold maxLen; omega)
    · have := grownCap_ge (w0.alloc (.cells #[x] 21)) (0 + 1) 0 21
      simp [Builtin.zeroCells, Value.cells] at this ⊢
      omega
    · simp
    · exact grown_alloc (grown_drew (World.grownBy_alloc _ _ _)) _
  · have hne : g ≠ w0.heap.size := by have := (Array.getElem?_eq_some_iff.1 hg).1; omega
    have hgl : g < w0.heap.size := (Array.getElem?_eq_some_iff.1 hg).1
    have hgn : (w0.alloc (.cells #[x] 21)).heap[g]? = some (.cells cur 21 (0, 0)) := (heap_alloc_old w0 _ hgl).trans hg
    simp only [Nat.mul_one] at htake hsz
    unfold maxLen at hmax
    have hcell : ∀ j (hj : j < cap), (w0.alloc (.cells #[x] 21)).cell? ⟨g, 0 + j, none⟩ = some (cur[j]'(by omega)) := by
      intro j hj
      rw [Nat.zero_add, cell_of_row _ g j cur 21 (0, 0) hgn]
      simp [hsz, hj]
    have hcs : ∀ j u, xs[j]? = some u → (w0.alloc (.cells #[x] 21)).cell? ⟨g, 0 + j, none⟩ = some u := by
      intro j u hj
      rw [Nat.zero_add]
      rw [cell_of_row _ g j cur 21 (0, 0) hgn]
      rw [← htake, List.getElem?_take] at hj
      split at hj
      · simpa using hj
      · cases hj
    have hsome : ∀ j, j < cap → ((w0.alloc (.cells #[x] 21)).cell? ⟨g, 0 + j, none⟩).isSome = true := fun j hj => by rw [hcell j hj]; rfl
    have hfz : ∀ j, (w0.alloc (.cells #[x] 21)).frozen? ⟨g, j, none⟩ = false := by
      intro j
      unfold World.frozen?
      rw [hgn]
      simp
    by_cases hroom : xs.length + 1 ≤ cap
    · by_cases hend : i = xs.length
      · subst hend
        refine (insert_end_room g 0 xs.length cap w0.heap.size 0 1 1 [x] _ (by omega) hroom (by omega) rfl (fun j hj => by rw [Nat.zero_add] at *; have := hsome (xs.length + j) (by omega); rwa [Nat.zero_add] at this) (fun j hj => hfz _) hvs h1v).mono ?_
        rintro e w' ⟨rfl, rfl⟩
        refine ⟨_, rfl, ⟨hlen, .inr ⟨_, _, _, rfl, hg0, heap_setCells_in _ _ _ _ hgn, hroom, by unfold maxLen; omega, ?_, ?_⟩⟩, ?_⟩
        · rw [size_putL]; omega
        · rw [Nat.zero_add, toList_putL _ _ _ (by simp; omega), htake, List.take_length, List.drop_length]
          rw [Nat.mul_one, List.take_append_of_le_length (by simp), List.take_of_length_le (by simp)]
          simp
        · exact grown_trans2 (World.grownBy_alloc _ _ _) (grown_setCells _ _ _ _)
      · have hcell0 : ∀ (W : World) (cs : Array Value) (b : Nat), W.heap[b]? = some (.cells cs 21 (0, 0)) → W.shape? b = some (21, cs.size) := by
          intro W cs b h
          unfold World.shape?
          rw [h]
        refine (insert_shift g 0 xs.length cap i w0.heap.size 0 1 1 xs [x] _ (by omega) (by omega) hroom (by omega) (Ne.symm hne) rfl rfl hcs (fun j hj => hsome j (by omega)) (fun j _ => hfz _) hvs hxs h1v 21 21 1 cap
          (hcell0 _ #[x] _ (heap_alloc_new w0 _)) (by rw [hcell0 _ cur _ hgn, hsz]) (by omega) ?_ ?_).mono ?_
        · unfold World.frozen?
          rw [show (w0.alloc (.cells #[x] 21)).heap[w0.heap.size]? = some (.cells #[x] 21 (0, 0)) from heap_alloc_new w0 _]
          simp
        · unfold World.frozen?
          rw [show (w0.alloc (.cells #[x] 21)).heap[w0.heap.size]? = some (.cells #[x] 21 (0, 0)) from heap_alloc_new w0 _]
          simp
        rintro e w' ⟨rfl, rfl⟩
        refine ⟨_, rfl, ⟨hlen, .inr ⟨_, _, _, rfl, hg0, heap_setCells_in _ _ _ _ (heap_setCells_in _ _ _ _ hgn), hroom, by unfold maxLen; omega, ?_, ?_⟩⟩, ?_⟩
        · rw [size_putL, size_putL]; omega
        · rw [Nat.zero_add, Nat.zero_add, toList_putL _ _ _ (by rw [size_putL]; simp; omega), toList_putL _ _ _ (by simp; omega)]
          rw [Nat.mul_one]
          exact ins_shift htake rfl hi (by simp; omega)
        · exact grown_trans2 (grown_drew (World.grownBy_alloc _ _ _)) (grown_trans2 (grown_setCells _ _ _ _) (grown_setCells _ _ _ _))
    · have hcapn : cap = xs.length := by omega
      subst hcapn
      by_cases hend : i = xs.length
      · subst hend
        refine (insert_end_grow (some ⟨g, 0, none⟩) xs.length xs.length w0.heap.size 0 1 1 xs [x] _ (by omega) (by omega) (by omega) (by omega) rfl rfl (fun h => by cases h) (fun a ha j u hj => by cases ha; rw [Addr.add_lit]; exact hcs j u hj) hvs h1v).mono ?_
        rintro e w' ⟨rfl, rfl⟩
        refine ⟨_, rfl, ⟨hlen, .inr ⟨_, _, _, rfl, ?_, heap_alloc_new _ _, ?_, ?_, ?_, ?_⟩⟩, ?_⟩
        · simp; omega
        · exact grownCap_ge _ _ _ _
        · exact grownCap_le_maxLen _ _ _ _ (by unfold maxLen; omega)
        · have := grownCap_ge (w0.alloc (.cells #[x] 21)) (xs.length + 1) xs.length 21
          simp [Builtin.zeroCells, Value.cells] at this ⊢
          omega
        · simp only [List.take_length, List.drop_length, List.append_nil, Array.toList_append, List.toList_toArray]
          exact List.take_left' (by simp)
        · exact grown_alloc (grown_drew (World.grownBy_alloc _ _ _)) _
      · refine (insert_grow g 0 xs.length xs.length i w0.heap.size 0 1 1 xs [x] _ (by omega) (by omega) (by omega) (by omega) (by omega) rfl rfl hcs hvs hxs h1v).mono ?_
        rintro e w' ⟨rfl, rfl⟩
        refine ⟨_, rfl, ⟨hlen, .inr ⟨_, _, _, rfl, ?_, heap_setCells_in _ _ _ _ (heap_setCells_in _ _ _ _ (heap_alloc_new _ _)), ?_, ?_, ?_, ?_⟩⟩, ?_⟩
        · simp; omega
        · exact grownCap_ge _ _ _ _
        · exact grownCap_le_maxLen _ _ _ _ (by unfold maxLen; omega)
        · have := grownCap_ge (w0.alloc (.cells #[x] 21)) (xs.length + 1) xs.length 21
          rw [size_putL, size_putL]
          simp [Builtin.zeroCells, Value.cells] at this ⊢
          omega
        · rw [toList_putL _ _ _ (by rw [size_putL]; simp [Builtin.zeroCells, Value.cells]; omega), toList_putL _ _ _ (by simp [Builtin.zeroCells, Value.cells]; omega), Nat.mul_one]
          refine ins_grow ?_ rfl hi ?_
          · simp only [Array.toList_append, List.toList_toArray, List.append_assoc]
            exact List.take_left' (by simp; omega)
          · simp [Builtin.zeroCells, Value.cells]; omega
        · refine grown_of_below ?_
          refine below_setCells_new (by simp) _ _ _ (Below.drew (below_setCells_new (by simp) _ _ _ (Below.drew (Below.alloc (below_alloc _ _) (by simp) _))))
end Go.Proofs.YtafieajameapiaaDoor
