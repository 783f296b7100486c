/- Whether all bytes of a text are plain: puny.plain, the reference's plain and Few. -/
import Derived.Test.YtafieajameapiaaDoorRunes
import Derived.Test.YtafieajameapiaaDoorConv
import Derived.Lib.OthersKept
set_option linter.unusedVariables false
set_option linter.unusedSimpArgs false
namespace Go.Proofs.YtafieajameapiaaDoor
open Go.RowKit

/-- All bytes are below 128. -/
def plainL (s : List UInt8) : Bool := s.all fun c => decide (c.toNat < 128)
theorem plainL_take {s : List UInt8} {i : Nat} (h : i < s.length) (hp : ∀ c ∈ s.take i, c.toNat < 128) (hc : (s[i]'h).toNat < 128) : ∀ c ∈ s.take (i + 1), c.toNat < 128 := by
  intro c hc'
  rw [List.take_succ_eq_append_getElem h, List.mem_append, List.mem_singleton] at hc'
  rcases hc' with h' | rfl
  · exact hp c h'
  · exact hc
theorem plainL_false {s : List UInt8} {i : Nat} (h : i < s.length) (hc : ¬ (s[i]'h).toNat < 128) : plainL s = false := by
  unfold plainL
  rw [← Bool.not_eq_true, List.all_eq_true]
  intro hall
  have := hall _ (List.getElem_mem h)
  simp at this; omega
theorem plainL_true {s : List UInt8} (hp : ∀ c ∈ s, c.toNat < 128) : plainL s = true := by
  unfold plainL
  rw [List.all_eq_true]
  intro c hc
  simpa using hp c hc

set_option maxRecDepth 100000 in
theorem rplain_any (s : List UInt8) (w : World) (hs : s.length ≤ 140737488351232) :
    Calls Tryd.prog 33 #[.string ⟨s.toArray⟩] w fun e w' => e = .returned (.bool (plainL s)) ∧ w = w' := by
  go_enter Tryd.func33, Tryd.ntmps33
  go_wp2_with fail
  go_loop [3] (fun iv => ∃ i : Nat, iv = .int .i64 (i : Int) ∧ i ≤ s.length ∧ Hid (∀ c ∈ s.take i, c.toNat < 128)) (fun iv => s.length - (intOf iv).toNat)
  case atStart => exact ⟨0, rfl, Nat.zero_le _, fun c hc => by simp at hc⟩
  case round =>
    obtain ⟨i, rfl, hil, hp⟩ := hrel
    by_cases hlt : i < s.length
    · by_cases hc : (s[i]'hlt).toNat < 128
      · have hp2 : Hid (∀ c ∈ s.take (i + 1), c.toNat < 128) := plainL_take hlt hp.out hc
        go_wp2_with fail
        exact ⟨⟨i + 1, by go_num, by omega, hp2⟩, by simp [intOf]; omega⟩
      · have hf := Lib.hid (plainL_false hlt hc)
        go_wp2_with fail
        go_ret
        exact ⟨ret_bool hf.out.symm, rfl⟩
    · obtain rfl : i = s.length := by omega
      have hf := Lib.hid (plainL_true (by have := hp.out; rwa [List.take_length] at this))
      go_wp2_with fail
      go_ret
      exact ⟨ret_bool hf.out.symm, rfl⟩

set_option maxRecDepth 100000 in
theorem plain_any (s : List UInt8) (w : World) (hs : s.length ≤ 140737488351232) :
    Calls Tryd.prog 31 #[.string ⟨s.toArray⟩] w fun e w' => e = .returned (.bool (plainL s)) ∧ Below w.heap.size w w' := by
  go_enter Tryd.func31, Tryd.ntmps31
  go_wp2_with fail
  go_loopw [] (fun wr => ∃ i : Nat, i ≤ s.length ∧ Hid (∀ c ∈ s.take i, c.toNat < 128) ∧ wr.heap[w.heap.size]? = some (.stringIter ⟨s.toArray⟩ i) ∧ Below w.heap.size w wr) (fun wr => s.length - wr.iterPos w.heap.size)
  case atStart => exact ⟨0, Nat.zero_le _, fun c hc => by simp at hc, World.iter_heap w _ 0, (Below.refl _ w).alloc (Nat.le_refl _) _⟩
  case round =>
    obtain ⟨i, hil, hp, hit, hbl⟩ := hrel
    by_cases hlt : i < s.length
    · have hnx : ∀ ty, (Instr.next (.pointer (some ⟨w.heap.size, 0, none⟩)) true ty).run Tryd.prog wr = _ := fun ty => Lib.run_next_any_at wr w.heap.size ⟨s.toArray⟩ i ty hit hlt
      by_cases hc : (s[i]'hlt).toNat < 128
      · have hp2 : Hid (∀ c ∈ s.take (i + 1), c.toNat < 128) := plainL_take hlt hp.out hc
        have hd := decode_ascii ⟨s.toArray⟩ i hlt hc
        rw [idx_mk] at hd
        rw [hd] at hnx
        have hit2 := Lib.iterAt_heap wr w.heap.size ⟨s.toArray⟩ i (i + 1) hit
        clear hd
        go_wp2_with fail
        go_roundw
        case rel => exact ⟨i + 1, by omega, hp2, hit2, Lib.below_iterAt hbl (Nat.le_refl _) _ _⟩
        case measure => simp only [World.iterPos, hit2, hit]; omega
      · have hf := Lib.hid (plainL_false hlt hc)
        have hd := (decode_high ⟨s.toArray⟩ i hlt (by rw [idx_mk]; omega)).1
        generalize Utf8.decode ⟨s.toArray⟩ i = d at *
        obtain ⟨x, z⟩ := d
        simp only at hnx hd
        go_wp2_with fail
        go_ret
        exact ⟨ret_bool hf.out.symm, Lib.below_iterAt hbl (Nat.le_refl _) _ _⟩
    · obtain rfl : i = s.length := by omega
      have hnx : ∀ ty, (Instr.next (.pointer (some ⟨w.heap.size, 0, none⟩)) true ty).run Tryd.prog wr = _ := fun ty => Lib.run_next_end_at wr w.heap.size ⟨s.toArray⟩ s.length ty hit hlt
      have hf := Lib.hid (plainL_true (by have := hp.out; rwa [List.take_length] at this))
      go_wp2_with fail
      go_ret
      exact ⟨ret_bool hf.out.symm, hbl⟩

/-- Does a text begin as few letters do? -/
def fewL (s : List UInt8) : Bool := s.take 4 == [120, 110, 45, 45]
theorem few_any (s : List UInt8) (w : World) (hs : s.length ≤ 140737488351232) :
    Calls Tryd.prog 34 #[.string ⟨s.toArray⟩] w fun e w' => e = .returned (.bool (fewL s)) ∧ w = w' := by
  by_cases h4 : 4 ≤ s.length
  · go_enter Tryd.func34, Tryd.ntmps34
    go_wp2_with fail
    go_ret
    exact ⟨rfl, rfl⟩
  · have hf : Hid (fewL s = false) := by
      show _ = _
      unfold fewL
      rw [beq_eq_false_iff_ne]
      intro e
      have := congrArg List.length e
      simp at this; omega
    go_enter Tryd.func34, Tryd.ntmps34
    go_wp2_with fail
    go_ret
    exact ⟨ret_bool hf.out.symm, rfl⟩
end Go.Proofs.YtafieajameapiaaDoor
