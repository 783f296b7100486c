/- The conversions []byte(s), []rune(s): a world that is a variable, and what is known of it. -/
import Derived.Test.YtafieajameapiaaDoorOwn
import Derived.Laws.RangeString
set_option linter.unusedVariables false
set_option linter.unusedSimpArgs false
namespace Go.Proofs.YtafieajameapiaaDoor
open Go.RowKit

theorem conv_bytes (W : World) (l : List UInt8) (h : l.length ≤ 140737488351232) : ∃ (cap : Nat) (W1 : World),
    (convert 9 29 (.string ⟨l.toArray⟩)).run Tryd.prog W = .ok (.slice (some ⟨W.heap.size, 0, none⟩) l.length cap) W1 ∧
    Below W.heap.size W W1 ∧ W.heap.size < W1.heap.size ∧ l.length ≤ cap ∧ ∀ k (hk : k < l.length), W1.cell? ⟨W.heap.size, k, none⟩ = some (.int .u8 (l[k].toNat : Int)) := by
  refine ⟨_, _, run_bytes_of_string W 9 29 5 ⟨l.toArray⟩ Tryd.underlying9 Tryd.underlying29 Tryd.underlying5, ?_, ?_, ?_, ?_⟩
  · exact Below.alloc (Below.drew (Below.refl _ _)) (Nat.le_refl _) _
  · simp
  · exact grownCap_ge _ _ _ _
  · intro k hk
    refine (World.cell?_alloc_mark W.drew _ _ _ _).trans ?_
    rw [bytesRow_at _ _ _ (by simpa using hk)]
    simp
/-- The runes of plain letters. -/
theorem runesFrom_plain (l : List UInt8) (hp : ∀ c ∈ l, c.toNat < 128) : ∀ (f i : Nat) (acc : Array Value), l.length - i ≤ f → Conv.runesFrom ⟨l.toArray⟩ f i acc = acc ++ ((l.drop i).map fun c => Value.int .i32 (c.toNat : Int)).toArray
  | 0, i, acc, h => by
    rw [List.drop_eq_nil_of_le (by omega)]
    simp [Conv.runesFrom]
  | f + 1, i, acc, h => by
    unfold Conv.runesFrom
    by_cases hi : i < l.length
    · rw [if_pos (show i < (ByteArray.mk l.toArray).size from hi)]
      have hd := decode_ascii ⟨l.toArray⟩ i hi (by rw [idx_mk]; exact hp _ (List.getElem_mem hi))
      rw [idx_mk] at hd
      simp only [hd]
      rw [runesFrom_plain l hp f (i + 1) _ (by omega), List.drop_eq_getElem_cons hi]
      apply Array.ext'
      simp only [Array.toList_append, Array.toList_push, List.toList_toArray, List.map_cons, List.append_assoc, List.singleton_append]
      rfl
    · rw [if_neg (show ¬ i < (ByteArray.mk l.toArray).size from hi), List.drop_eq_nil_of_le (by omega)]
      simp

theorem conv_runes_plain (W : World) (base : Nat) (l : List UInt8) (h : l.length ≤ 65536) (hp : ∀ c ∈ l, c.toNat < 128) (hb : base ≤ W.heap.size) : ∃ (v : Value) (W1 : World),
    (convert 9 51 (.string ⟨l.toArray⟩)).run Tryd.prog W = .ok v W1 ∧
    Below W.heap.size W W1 ∧ W1.ownsRow base 21 1 v l.length (l.map fun c => .int .i32 (c.toNat : Int)) := by
  have hr : Conv.runesFrom ⟨l.toArray⟩ (ByteArray.mk l.toArray).size 0 #[] = (l.map fun c => Value.int .i32 (c.toNat : Int)).toArray := by
    rw [runesFrom_plain l hp _ _ _ (by show l.length - 0 ≤ l.length; omega)]
    simp
  have hsz : (Conv.runesFrom ⟨l.toArray⟩ (ByteArray.mk l.toArray).size 0 #[]).size = l.length := by rw [hr]; simp
  refine ⟨_, _, run_runes_of_string W 9 51 21 ⟨l.toArray⟩ Tryd.underlying9 Tryd.underlying51 Tryd.underlying21 (by rw [hsz]; omega), ?_, ?_⟩
  · exact Below.alloc (Below.drew (Below.refl _ _)) (Nat.le_refl _) _
  · have hge := grownCap_ge W l.length 0 21
    refine ⟨by simp, .inr ⟨W.heap.size, _, _, by rw [hsz], hb, heap_alloc_new W.drew _, ?_, ?_, ?_, ?_⟩⟩
    · exact hge
    · exact grownCap_le_maxLen _ _ _ _ (by unfold maxLen; omega)
    · rw [Array.size_append, hsz]; simp; omega
    · rw [hr, Array.toList_append, Nat.mul_one]
      exact List.take_left' (by simp)
end Go.Proofs.YtafieajameapiaaDoor
