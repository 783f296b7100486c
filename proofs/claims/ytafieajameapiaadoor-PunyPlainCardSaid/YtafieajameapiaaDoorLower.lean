/- ascii.Lower and the reference's: both lay great letters small. -/
import Derived.Test.YtafieajameapiaaDoorConv
import Derived.Test.YtafieajameapiaaDoorInsertAny
import Derived.Test.YtafieajameapiaaDoorPunyWalkA
set_option linter.unusedVariables false
set_option linter.unusedSimpArgs false
namespace Go.Proofs.YtafieajameapiaaDoor
open Go.RowKit

/-- A letter as a small one. -/
def lowN (c : Nat) : Nat := if 65 ≤ c ∧ c ≤ 90 then c + 32 else c
def lowB (c : UInt8) : UInt8 := UInt8.ofNat (lowN c.toNat)
def lowerL (s : List UInt8) : List UInt8 := s.map lowB
theorem lowN_lt {c : Nat} (h : c < 256) : lowN c < 256 := by unfold lowN; split <;> omega
theorem lowB_nat (c : UInt8) : (lowB c).toNat = lowN c.toNat := by
  unfold lowB
  have := lowN_lt c.toNat_lt
  simp; omega

/-- Block g holds the bytes l, from its first cell on; none is frozen. -/
def ByteRow (W : World) (g : Nat) (l : List UInt8) : Prop := ∃ cur fz, W.heap[g]? = some (.cells cur 5 fz) ∧ l.length ≤ fz.1 ∧ ∀ k, k < l.length → cur[k]? = some (.int .u8 ((l.getD k 0).toNat : Int))
theorem ByteRow.cell {W : World} {g : Nat} {l : List UInt8} (h : ByteRow W g l) {k : Nat} (hk : k < l.length) : W.cell? ⟨g, k, none⟩ = some (.int .u8 ((l.getD k 0).toNat : Int)) := by
  obtain ⟨cur, fz, hg, _, hc⟩ := h
  simp only [World.cell?, hg]
  simpa using hc k hk
theorem ByteRow.frozen {W : World} {g : Nat} {l : List UInt8} (h : ByteRow W g l) {k : Nat} (hk : k < l.length) : W.frozen? ⟨g, k, none⟩ = false := by
  obtain ⟨cur, fz, hg, hf, hc⟩ := h
  simp only [World.frozen?, hg]
  simp; omega
theorem ByteRow.set {W : World} {g : Nat} {l : List UInt8} (h : ByteRow W g l) {k : Nat} (hk : k < l.length) (c : UInt8) : ByteRow (W.setCell ⟨g, k, none⟩ (.int .u8 (c.toNat : Int))) g (l.set k c) := by
  obtain ⟨cur, fz, hg, hf, hc⟩ := h
  refine ⟨_, fz, heap_setCell_in hg k _, by simpa using hf, fun j hj => ?_⟩
  simp only [List.length_set] at hj
  have hks : k < cur.size := by have := hc k hk; exact (Array.getElem?_eq_some_iff.1 this).1
  by_cases e : j = k
  · subst e
    simp [hks, hk]
  · rw [Array.getElem?_setIfInBounds_ne (fun h => e h.symm), hc j hj]
    simp [List.getElem?_set_ne (fun h => e h.symm)]
theorem conv_row (W : World) (l : List UInt8) : ∃ (cap : Nat) (W1 : World),
    (convert 9 29 (.string ⟨l.toArray⟩)).run Tryd.prog W = .ok (.slice (some ⟨W.heap.size, 0, none⟩) l.length cap) W1 ∧
    Below W.heap.size W W1 ∧ l.length ≤ cap ∧ ByteRow W1 W.heap.size l := by
  refine ⟨_, _, run_bytes_of_string W 9 29 5 ⟨l.toArray⟩ Tryd.underlying9 Tryd.underlying29 Tryd.underlying5, ?_, ?_, ?_⟩
  · exact Below.alloc (Below.drew (Below.refl _ _)) (Nat.le_refl _) _
  · exact grownCap_ge _ _ _ _
  · refine ⟨_, _, Array.getElem?_push_size (xs := W.heap), ?_, fun k hk => ?_⟩
    · show l.length ≤ (bytesRow _ _).size
      rcases Nat.eq_zero_or_pos l.length with h0 | h0
      · omega
      · have := bytesRow_at ⟨l.toArray⟩ (grownCap W (ByteArray.mk l.toArray).size 0 5) (l.length - 1) (by simp; omega)
        have := (Array.getElem?_eq_some_iff.1 this).1
        omega
    · rw [bytesRow_at _ _ _ (by simpa using hk)]
      simp [hk]
theorem back_row {W : World} {g cap : Nat} {l : List UInt8} (h : ByteRow W g l) : (convert 29 9 (.slice (some ⟨g, 0, none⟩) l.length cap)).run Tryd.prog W = .ok (.string ⟨l.toArray⟩) W := by
  refine run_convert_bytes_back W 29 9 5 ⟨g, 0, none⟩ cap l Tryd.underlying29 Tryd.underlying5 Tryd.underlying9 fun j hj => ?_
  rw [Addr.add_lit, Nat.zero_add, h.cell hj]
  simp [hj]

theorem low1_any (c : UInt8) (w : World) :
    Calls Tryd.prog 42 #[.int .u8 (c.toNat : Int)] w fun e w' => e = .returned (.int .u8 ((lowB c).toNat : Int)) ∧ w = w' := by
  have hc := c.toNat_lt
  rw [lowB_nat]
  by_cases h : 65 ≤ c.toNat ∧ c.toNat ≤ 90
  · have hbt := digit_bits ⟨c.toNat, hc⟩ h
    simp only at hbt
    obtain ⟨h1, h2⟩ := h
    have hl : lowN c.toNat = c.toNat + 32 := by unfold lowN; rw [if_pos ⟨h1, h2⟩]
    rw [hl]
    go_enter Tryd.func42, Tryd.ntmps42
    go_wp2_with fail
    all_goals (go_ret; exact ⟨rfl, rfl⟩)
  · have hl : lowN c.toNat = c.toNat := by unfold lowN; rw [if_neg h]
    rw [hl]
    rcases (show c.toNat < 65 ∨ 90 < c.toNat by omega) with h1 | h1
    all_goals
      go_enter Tryd.func42, Tryd.ntmps42
      go_wp2_with fail
      go_ret
      exact ⟨rfl, rfl⟩

theorem lower_take {s : List UInt8} {i : Nat} (h : i < s.length) : (lowerL (s.take i) ++ s.drop i).set i (lowB (s.getD i 0)) = lowerL (s.take (i + 1)) ++ s.drop (i + 1) := by
  have hl : (lowerL (s.take i)).length = i := by simp [lowerL]; omega
  rw [List.set_append_right _ _ (by omega), hl, Nat.sub_self, List.drop_eq_getElem_cons h, List.set_cons_zero, List.take_succ_eq_append_getElem h, lowerL, lowerL, List.map_append]
  simp [h]
theorem lower_get {s : List UInt8} {i : Nat} (h : i < s.length) : (lowerL (s.take i) ++ s.drop i).getD i 0 = s.getD i 0 := by
  have hl : (lowerL (s.take i)).length = i := by simp [lowerL]; omega
  simp [List.getD, List.getElem?_append_right, hl, h]
theorem lower_len {s : List UInt8} {i : Nat} (h : i ≤ s.length) : (lowerL (s.take i) ++ s.drop i).length = s.length := by simp [lowerL]; omega

set_option maxRecDepth 100000 in
set_option maxHeartbeats 1000000 in
theorem lower_any (s : List UInt8) (w : World) (hs : s.length ≤ 140737488351232) :
    Calls Tryd.prog 18 #[.string ⟨s.toArray⟩] w fun e w' => e = .returned (.string ⟨(lowerL s).toArray⟩) ∧ Below w.heap.size w w' := by
  obtain ⟨cap, W1, hcv, hb1, hcap, hrow⟩ := conv_row w s
  have hcapH := Lib.hid hcap
  have key : Calls Tryd.prog 41 #[.string ⟨s.toArray⟩, .func (.func 42) #[] #[]] w fun e w' => e = .returned (.string ⟨(lowerL s).toArray⟩) ∧ Below w.heap.size w w' := by
    go_enter Tryd.func41, Tryd.ntmps41
    go_wp2_with fail
    go_loopw [12] (fun iv wr => ∃ i : Nat, iv = .int .i64 (i : Int) ∧ i ≤ s.length ∧ ByteRow wr w.heap.size (lowerL (s.take i) ++ s.drop i) ∧ Below w.heap.size w wr) (fun iv _ => s.length - (intOf iv).toNat)
    case atStart => exact ⟨0, rfl, Nat.zero_le _, by simpa [lowerL] using hrow, hb1⟩
    case round =>
      obtain ⟨i, rfl, hil, hr, hbl⟩ := hrel
      have hlen := lower_len hil
      by_cases hlt : i < s.length
      · have hcell := hr.cell (k := i) (by omega)
        have hfz := hr.frozen (k := i) (by omega)
        rw [lower_get hlt] at hcell
        have hset := hr.set (k := i) (by omega) (lowB (s.getD i 0))
        rw [lower_take hlt] at hset
        have hsetH := Lib.hid hset
        clear hset hcv
        generalize s.getD i 0 = c at *
        go_wp2_with (go_at_call 42; refine (low1_any c _).mono ?_; rintro e w' ⟨rfl, rfl⟩)
        exact ⟨⟨i + 1, by go_num, by omega, hsetH, hbl.setCell (p := ⟨w.heap.size, i, none⟩) (Nat.le_refl _) _⟩, by simp [intOf]; omega⟩
      · obtain rfl : i = s.length := by omega
        rw [List.take_length, List.drop_length, List.append_nil] at hr
        have hbk := back_row (cap := cap) hr
        rw [show (lowerL s).length = s.length by simp [lowerL]] at hbk
        clear hcv hlen
        go_wp2_with fail
        go_ret
        exact ⟨rfl, hbl⟩
  go_enter Tryd.func18, Tryd.ntmps18
  clear hcv
  go_wp2_with (go_at_call 41; refine key.mono ?_; rintro e w' ⟨rfl, hb⟩)
  go_ret
  exact ⟨rfl, hb⟩

theorem lower_next {s : List UInt8} {i : Nat} (h : i < s.length) (h2 : ¬ (65 ≤ (s.getD i 0).toNat ∧ (s.getD i 0).toNat ≤ 90)) : lowerL (s.take (i + 1)) ++ s.drop (i + 1) = lowerL (s.take i) ++ s.drop i := by
  have hb : lowB (s.getD i 0) = s.getD i 0 := by
    apply UInt8.toNat_inj.1
    rw [lowB_nat, lowN, if_neg h2]
  rw [← lower_take h, hb]
  have hl : (lowerL (s.take i)).length = i := by simp [lowerL]; omega
  rw [List.set_append_right _ _ (by omega), hl, Nat.sub_self, List.drop_eq_getElem_cons h, List.set_cons_zero]
  simp [h]

set_option maxRecDepth 100000 in
set_option maxHeartbeats 1000000 in
theorem rlower_any (s : List UInt8) (w : World) (hs : s.length ≤ 140737488351232) :
    Calls Tryd.prog 32 #[.string ⟨s.toArray⟩] w fun e w' => e = .returned (.string ⟨(lowerL s).toArray⟩) ∧ Below w.heap.size w w' := by
  obtain ⟨cap, W1, hcv, hb1, hcap, hrow⟩ := conv_row w s
  go_enter Tryd.func32, Tryd.ntmps32
  go_wp2_with fail
  go_loopw [4] (fun iv wr => ∃ i : Nat, iv = .int .i64 (i : Int) ∧ i ≤ s.length ∧ ByteRow wr w.heap.size (lowerL (s.take i) ++ s.drop i) ∧ Below w.heap.size w wr) (fun iv _ => s.length - (intOf iv).toNat)
  case atStart => exact ⟨0, rfl, Nat.zero_le _, by simpa [lowerL] using hrow, hb1⟩
  case round =>
    obtain ⟨i, rfl, hil, hr, hbl⟩ := hrel
    have hlen := lower_len hil
    by_cases hlt : i < s.length
    · have hcell := hr.cell (k := i) (by omega)
      have hfz := hr.frozen (k := i) (by omega)
      rw [lower_get hlt] at hcell
      have hset := hr.set (k := i) (by omega) (lowB (s.getD i 0))
      rw [lower_take hlt, lowB_nat] at hset
      have hsetH := Lib.hid hset
      have hnx := Lib.hid (lower_next hlt)
      clear hset hcv
      generalize s.getD i 0 = c at *
      have hc := c.toNat_lt
      by_cases h : 65 ≤ c.toNat ∧ c.toNat ≤ 90
      · have hl : Hid (lowN c.toNat = c.toNat + 32) := by show _ = _; unfold lowN; rw [if_pos h]
        obtain ⟨h1, h2⟩ := h
        have hset2 : Hid (ByteRow (wr.setCell ⟨w.heap.size, i, none⟩ (.int .u8 ((c.toNat : Int) + 32))) w.heap.size (lowerL (s.take (i + 1)) ++ s.drop (i + 1))) := by
          have := hsetH.out
          rw [hl.out, Int.natCast_add] at this
          exact this
        clear hsetH hnx
        go_wp2_with fail
        exact ⟨⟨i + 1, by go_num, by omega, hset2, hbl.setCell (p := ⟨w.heap.size, i, none⟩) (Nat.le_refl _) _⟩, by simp [intOf]; omega⟩
      · have hr2 : ByteRow wr w.heap.size (lowerL (s.take (i + 1)) ++ s.drop (i + 1)) := by rw [hnx.out h]; exact hr
        clear hsetH hnx
        rcases (show c.toNat < 65 ∨ 90 < c.toNat by omega) with h1 | h1
        all_goals
          clear h
          go_wp2_with fail
          exact ⟨⟨i + 1, by go_num, by omega, hr2, hbl⟩, by simp [intOf]; omega⟩
    · obtain rfl : i = s.length := by omega
      rw [List.take_length, List.drop_length, List.append_nil] at hr
      have hbk := back_row (cap := cap) hr
      rw [show (lowerL s).length = s.length by simp [lowerL]] at hbk
      clear hcv hlen
      go_wp2_with fail
      go_ret
      exact ⟨rfl, hbl⟩
end Go.Proofs.YtafieajameapiaaDoor
