/- Texts that a slice holds, wherever it lies; footmanlaw01.TextsSize walked. -/
import Derived.Test.YtaijdjmkmhpmpaaDoorTextRow
import Derived.ChangeSlices
set_option linter.unusedVariables false
set_option linter.unusedSimpArgs false
namespace Go.Proofs.YtaijdjmkmhpmpaaDoor
open Go.RowKit

/-- A slice that reads so. -/
def Txt (w : World) (v : Value) (L : List (List UInt8)) : Prop :=
  (v = .slice none 0 0 ∧ L = []) ∨ ∃ (a : Addr) (c : Nat), v = .slice (some a) L.length c ∧ L.length ≤ c ∧ (0 < L.length → a.block < w.heap.size) ∧ ∀ (k : Nat) (hk : k < L.length), w.cell? (a.add k) = some (.string ⟨(L[k]).toArray⟩)
theorem Txt.below {w W : World} {v : Value} {L : List (List UInt8)} (h : Txt w v L) {B : Nat} (hb : Below B w W) (hB : w.heap.size ≤ B) : Txt W v L := by
  rcases h with h | ⟨a, c, h1, h2, h3, h4⟩
  · exact .inl h
  · exact .inr ⟨a, c, h1, h2, fun h0 => by have := hb.size; have := h3 h0; omega, fun k hk => (hb.cell (p := a.add k) (by rw [Go.ChangeShapes.block_add]; have := h3 (by omega); omega)).trans (h4 k hk)⟩
theorem Txt.own {w : World} {base e : Nat} {v : Value} {n : Nat} {L : List (List UInt8)} (h : w.ownsRow base e 1 v n (strs L)) (hn : n = L.length) : Txt w v L := by
  subst hn
  rcases own_open h with ⟨h1, _, h3⟩ | ⟨g, c, h1, h2, h3, h4, _, h5⟩
  · refine .inl ⟨h1, ?_⟩
    unfold strs at h3
    simpa using h3
  · exact .inr ⟨⟨g, 0, none⟩, c, h1, h4, fun _ => h3, fun k hk => by
      rw [Addr.add_lit, Nat.zero_add]
      exact h5 k _ (strs_get hk)⟩
theorem txt_cell {w : World} {g o n c : Nat} {L : List (List UInt8)} (h : Txt w (.slice (some ⟨g, o, none⟩) n c) L) (h0 : 0 < L.length) : n = L.length ∧ L.length ≤ c ∧ g < w.heap.size ∧ ∀ W, Below w.heap.size w W → ∀ (k : Nat) (hk : k < L.length), W.cell? ⟨g, o + k, none⟩ = some (.string ⟨(L[k]).toArray⟩) := by
  rcases h with ⟨h1, _⟩ | ⟨a, c', h1, h2, h3, h4⟩
  · cases h1
  · injection h1 with e1 e2 e3
    injection e1 with e1
    subst e1
    refine ⟨e2, by omega, h3 h0, fun W hW k hk => ?_⟩
    have := (hW.cell (p := (⟨g, o, none⟩ : Addr).add k) (by rw [Go.ChangeShapes.block_add]; exact h3 h0)).trans (h4 k hk)
    rwa [Addr.add_lit] at this
theorem txt_tail {w : World} {g n c : Nat} {p : List UInt8} {L : List (List UInt8)} (h : Txt w (.slice (some ⟨g, 0, none⟩) n c) (p :: L)) : Txt w (.slice (some ⟨g, 1, none⟩) L.length (c - 1)) L := by
  obtain ⟨h1, h2, h3, h4⟩ := txt_cell h (by simp)
  refine .inr ⟨⟨g, 1, none⟩, c - 1, rfl, by simp at h2; omega, fun _ => h3, fun k hk => ?_⟩
  rw [Addr.add_lit]
  have := h4 w (Below.refl _ _) (k + 1) (by simpa using hk)
  rw [Nat.zero_add] at this
  rw [Nat.add_comm 1 k]
  exact this
theorem txt_conc {w : World} {base e : Nat} {v : Value} {n : Nat} {L : List (List UInt8)} (h : w.ownsRow base e 1 v n (strs L)) (hn : n = L.length) (h0 : L ≠ []) : ∃ g c, v = .slice (some ⟨g, 0, none⟩) L.length c ∧ Txt w (.slice (some ⟨g, 0, none⟩) L.length c) L := by
  have ht := Txt.own h hn
  subst hn
  rcases own_open h with ⟨_, h1, _⟩ | ⟨g, c, h1, _⟩
  · exact absurd (List.length_eq_zero_iff.1 h1) h0
  · exact ⟨g, c, h1, h1 ▸ ht⟩
/-- How long texts are together. -/
def sumT : List (List UInt8) → Nat
  | [] => 0
  | p :: l => p.length + sumT l
/-- The number that TextsSize goes to, up to its limit. -/
def sizeF : Nat → List (List UInt8) → Nat
  | n, [] => n
  | n, x :: l => if n ≤ 1048576 then sizeF (n + x.length) l else n
def textsN (L : List (List UInt8)) : Nat := sizeF L.length L
theorem sizeF_ge : ∀ (l : List (List UInt8)) (n : Nat), n ≤ sizeF n l
  | [], n => Nat.le_refl _
  | x :: l, n => by
    unfold sizeF
    split
    · have := sizeF_ge l (n + x.length); omega
    · exact Nat.le_refl _
theorem sizeF_sum : ∀ (l : List (List UInt8)) (n : Nat), sizeF n l ≤ 1048576 → sizeF n l = n + sumT l
  | [], n, _ => by simp [sizeF, sumT]
  | x :: l, n, h => by
    have hg := sizeF_ge (x :: l) n
    have hn : n ≤ 1048576 := by omega
    unfold sizeF at h ⊢
    rw [if_pos hn] at h ⊢
    rw [sizeF_sum l _ h]
    simp [sumT]; omega
theorem textsN_sum {L : List (List UInt8)} (h : textsN L ≤ 1048576) : textsN L = L.length + sumT L := sizeF_sum L _ h
theorem sumT_mem : ∀ {L : List (List UInt8)} {p : List UInt8}, p ∈ L → p.length ≤ sumT L
  | [], p, h => by simp at h
  | x :: l, p, h => by
    rcases List.mem_cons.1 h with rfl | h
    · simp [sumT]
    · have := sumT_mem h; simp [sumT]; omega
theorem sizeF_drop {L : List (List UInt8)} {k n : Nat} (hk : k < L.length) : sizeF n (L.drop k) = if n ≤ 1048576 then sizeF (n + (L[k]).length) (L.drop (k + 1)) else n := by
  rw [List.drop_eq_getElem_cons hk, sizeF]

set_option maxRecDepth 100000 in
set_option maxHeartbeats 2000000 in
theorem texts_size_any (L : List (List UInt8)) (v : Value) (w : World) (h : Txt w v L) (hl : L.length ≤ 140737488351232) (hs : ∀ p ∈ L, p.length ≤ 140737488351232) :
    Calls Tryd.prog 9 #[v] w fun e w' => e = .returned (.int .i64 (textsN L : Int)) ∧ w' = w := by
  have hm : textsN L = sizeF L.length (L.drop 0) := rfl
  have HM := Lib.hid hm
  rcases h with ⟨rfl, rfl⟩ | ⟨a, c, rfl, hc, hab, hcell⟩
  · clear hm
    go_enter Tryd.func9, Tryd.ntmps9
    go_wp2_with fail
    go_loop [3, 4] (fun n i => n = .int .i64 0 ∧ i = .int .i64 0) (fun _ _ => 0)
    case atStart => exact ⟨rfl, rfl⟩
    case round =>
      obtain ⟨rfl, rfl⟩ := hrel
      go_wp2_with fail
      go_ret
      exact ⟨rfl, rfl⟩
  · have HC := Lib.hid hcell
    have HS := Lib.hid hs
    clear hcell hm hs
    go_enter Tryd.func9, Tryd.ntmps9
    go_wp2_with fail
    go_loop [3, 4] (fun n i => ∃ k m : Nat, k ≤ L.length ∧ i = .int .i64 k ∧ n = .int .i64 m ∧ m ≤ 281474976710656 ∧ Hid (textsN L = sizeF m (L.drop k))) (fun _ i => L.length - (intOf i).toNat)
    case atStart => exact ⟨0, L.length, Nat.zero_le _, rfl, rfl, by omega, HM⟩
    case round =>
      obtain ⟨k, m, hk, rfl, rfl, hm8, HK⟩ := hrel
      by_cases hlt : k < L.length
      · have hck := HC.out k hlt
        have hsk := HS.out _ (List.getElem_mem hlt)
        have hstep := sizeF_drop (n := m) hlt
        by_cases h8 : m ≤ 1048576
        · have HN : Hid (textsN L = sizeF (m + (L[k]).length) (L.drop (k + 1))) := by
            show _ = _
            rw [HK.out, hstep, if_pos h8]
          clear hstep
          generalize L[k] = X at *
          go_wp2_with fail
          go_round
          case rel => exact ⟨k + 1, m + X.length, by omega, by go_num, by go_num, by omega, HN⟩
          case measure => simp [intOf]; omega
        · have HN : Hid (textsN L = m) := by
            show _ = _
            rw [HK.out, hstep, if_neg h8]
          clear hstep hck hsk
          go_wp2_with fail
          go_ret
          exact ⟨ret_int (by rw [HN.out]), rfl⟩
      · obtain rfl : k = L.length := by omega
        have HN : Hid (textsN L = m) := by
          show _ = _
          rw [HK.out, List.drop_length]
          rfl
        go_wp2_with fail
        go_ret
        exact ⟨ret_int (by rw [HN.out]), rfl⟩
end Go.Proofs.YtaijdjmkmhpmpaaDoor
