/- Rules of names that anybody may register, plain. -/
import Derived.Test.YtaijdjmkmhpmpaaGreatDoorGMath
import Derived.Test.YtaijdjmkmhpmpaaGreatDoorGFmt
import Derived.ChangeSlices
set_option linter.unusedVariables false
set_option linter.unusedSimpArgs false
namespace Go.Proofs.YtaijdjmkmhpmpaaGreatDoor

/-- Does a rule begin with an exclamation mark? -/
def exceptB (s : List UInt8) : Bool := s.head? == some 33
/-- A rule without its mark. -/
def bareL (s : List UInt8) : List UInt8 := if exceptB s then s.tail else s
/-- A rule's parts. -/
def sufP (s : List UInt8) : List (List UInt8) := partsL 46 (bareL s)
/-- A sign of a part. -/
def labB (c : UInt8) : Bool := (decide (97 ≤ c.toNat) && decide (c.toNat ≤ 122)) || ((decide (48 ≤ c.toNat) && decide (c.toNat ≤ 57)) || decide (c.toNat = 45))
theorem labB_iff {c : UInt8} : labB c = true ↔ (97 ≤ c.toNat ∧ c.toNat ≤ 122) ∨ (48 ≤ c.toNat ∧ c.toNat ≤ 57) ∨ c.toNat = 45 := by simp [labB]
def oddB (x : List UInt8) : Bool := x.isEmpty || (decide (63 < x.length) || !x.all labB)
def starB (s : List UInt8) : Bool := !exceptB s && (decide (1 < (sufP s).length) && (sufP s).head? == some [42])
def restP (s : List UInt8) : List (List UInt8) := if starB s then (sufP s).tail else sufP s
def restN (s : List UInt8) : Nat := (bareL s).length - (if starB s then 2 else 0)
/-- May a text be a rule? -/
def mayL (s : List UInt8) : Bool := !(exceptB s && decide ((sufP s).length < 2)) && (decide (restN s ≤ 253) && !(restP s).any oddB)
def checkL (l : List (List UInt8)) : Bool := decide (l.length ≤ 1024) && !l.any fun s => !mayL s

theorem sufP_ne (s : List UInt8) : sufP s ≠ [] := partsL_ne 46 _
theorem bareL_le (s : List UInt8) : (bareL s).length ≤ s.length := by unfold bareL; split <;> simp
theorem sufP_le (s : List UInt8) : (∀ p ∈ sufP s, p.length ≤ s.length) ∧ (sufP s).length ≤ s.length + 1 := by
  have h := partsL_le 46 (bareL s)
  have := bareL_le s
  exact ⟨fun p hp => by have := h.1 p hp; omega, by unfold sufP; omega⟩
theorem restP_le (s : List UInt8) : (restP s).length ≤ (sufP s).length ∧ ∀ p ∈ restP s, p ∈ sufP s := by
  unfold restP
  split
  · exact ⟨by simp, fun p hp => List.mem_of_mem_tail hp⟩
  · exact ⟨Nat.le_refl _, fun p hp => hp⟩
theorem bareL_len (s : List UInt8) : (bareL s).length = s.length - (if exceptB s then 1 else 0) := by
  unfold bareL
  split
  · simp
  · simp
theorem exceptB_pos {s : List UInt8} (h : exceptB s = true) : 1 ≤ s.length := by
  cases s with
  | nil => simp [exceptB] at h
  | cons c s => simp
/-- With a star ahead: what stands behind it. -/
theorem star_bare {s : List UInt8} (h : starB s = true) : exceptB s = false ∧ 1 < (sufP s).length ∧ ∃ l, sufP s = [42] :: l ∧ l ≠ [] ∧ s = 42 :: 46 :: joinL 46 l := by
  unfold starB at h
  simp only [Bool.and_eq_true, Bool.not_eq_true', decide_eq_true_eq, beq_iff_eq] at h
  obtain ⟨h1, h2, h3⟩ := h
  refine ⟨h1, h2, ?_⟩
  obtain ⟨p, l, e⟩ := List.exists_cons_of_ne_nil (sufP_ne s)
  rw [e] at h3 h2
  have h3 : p = [42] := by simpa using h3
  subst h3
  have hl : l ≠ [] := fun e => by rw [e] at h2; simp at h2
  refine ⟨l, e, hl, ?_⟩
  have hj := join_parts 46 (bareL s)
  have hb : bareL s = s := by unfold bareL; rw [if_neg (by rw [h1]; simp)]
  unfold sufP at e
  rw [e, joinL_cons hl, hb] at hj
  rw [← hj]
  rfl
end Go.Proofs.YtaijdjmkmhpmpaaGreatDoor
namespace Go.Proofs.YtaijdjmkmhpmpaaGreatDoor

/-- Do parts fit a rule's, one by one? -/
def eqF : List (List UInt8) → List (List UInt8) → Bool
  | [], [] => true
  | h :: H, p :: P => (p == [42] || h == p) && eqF H P
  | _, _ => false
def fitsL (P host : List (List UInt8)) : Bool := decide (P.length ≤ host.length) && eqF (host.drop (host.length - P.length)) P
/-- How many parts a host's suffix has. -/
def manyF : Nat → List (List UInt8) → List (List UInt8) → Nat
  | n, [], _ => n
  | n, r :: rs, host => if fitsL (sufP r) host then (if exceptB r then (sufP r).length - 1 else manyF (max n (sufP r).length) rs host) else manyF n rs host
def manyL (rules host : List (List UInt8)) : Nat := manyF 1 rules host
def lastL (l : List (List UInt8)) (n : Nat) : List UInt8 := joinL 46 (l.drop (l.length - n))

theorem eqF_iff : ∀ {H P : List (List UInt8)}, H.length = P.length → (eqF H P = true ↔ ∀ (i : Nat) (h : i < H.length) (h2 : i < P.length), P[i] = [42] ∨ H[i] = P[i])
  | [], [], _ => by simp [eqF]
  | [], p :: P, h => by simp at h
  | h :: H, [], hh => by simp at hh
  | h :: H, p :: P, hh => by
    have ih := @eqF_iff H P (by simpa using hh)
    rw [eqF, Bool.and_eq_true, ih, Bool.or_eq_true, beq_iff_eq, beq_iff_eq]
    constructor
    · rintro ⟨h1, h2⟩ i hi hi2
      cases i with
      | zero => exact h1
      | succ i => exact h2 i (by simpa using hi) (by simpa using hi2)
    · intro hall
      exact ⟨hall 0 (by simp) (by simp), fun i hi hi2 => hall (i + 1) (by simpa using hi) (by simpa using hi2)⟩
theorem fits_le {P host : List (List UInt8)} (h : fitsL P host = true) : P.length ≤ host.length := by
  unfold fitsL at h
  simp only [Bool.and_eq_true, decide_eq_true_eq] at h
  exact h.1
theorem manyF_le {host : List (List UInt8)} : ∀ {rules : List (List UInt8)} {n : Nat}, n ≤ host.length → manyF n rules host ≤ host.length
  | [], n, h => h
  | r :: rs, n, h => by
    unfold manyF
    split
    · rename_i hf
      have := fits_le hf
      split
      · omega
      · exact manyF_le (by omega)
    · exact manyF_le h
/-- Rules that may be: an exclamation mark stands ahead of two parts at least. -/
theorem may_except {s : List UInt8} (h : mayL s = true) (hx : exceptB s = true) : 2 ≤ (sufP s).length := by
  unfold mayL at h
  simp only [hx, Bool.true_and, Bool.and_eq_true, Bool.not_eq_true', decide_eq_false_iff_not] at h
  omega
theorem check_may {l : List (List UInt8)} (h : checkL l = true) : l.length ≤ 1024 ∧ ∀ s ∈ l, mayL s = true := by
  unfold checkL at h
  simp only [Bool.and_eq_true, decide_eq_true_eq, Bool.not_eq_true', List.any_eq_false] at h
  exact ⟨h.1, fun s hs => by simpa using h.2 s hs⟩
theorem manyF_ge {host : List (List UInt8)} : ∀ {rules : List (List UInt8)} {n : Nat}, 1 ≤ n → (∀ s ∈ rules, mayL s = true) → 1 ≤ manyF n rules host
  | [], n, h, _ => h
  | r :: rs, n, h, hm => by
    unfold manyF
    split
    · split
      · rename_i hx
        have := may_except (hm r List.mem_cons_self) hx
        omega
      · exact manyF_ge (by omega) (fun s hs => hm s (List.mem_cons_of_mem _ hs))
    · exact manyF_ge h (fun s hs => hm s (List.mem_cons_of_mem _ hs))
theorem manyF_drop {rules host : List (List UInt8)} {k n : Nat} (hk : k < rules.length) : manyF n (rules.drop k) host = if fitsL (sufP rules[k]) host then (if exceptB rules[k] then (sufP rules[k]).length - 1 else manyF (max n (sufP rules[k]).length) (rules.drop (k + 1)) host) else manyF n (rules.drop (k + 1)) host := by
  rw [List.drop_eq_getElem_cons hk, manyF]
end Go.Proofs.YtaijdjmkmhpmpaaGreatDoor
namespace Go.Proofs.YtaijdjmkmhpmpaaGreatDoor
open Go.RowKit

theorem txt_own {w : World} {base e n c : Nat} {ad : Option Addr} {L : List (List UInt8)} (h : w.ownsRow base e 1 (.slice ad n c) n (strs L)) (hn : n = L.length) (h0 : 0 < L.length) :
    ∃ g, ad = some ⟨g, 0, none⟩ ∧ base ≤ g ∧ g < w.heap.size ∧ n ≤ c ∧ ∀ W, Below w.heap.size w W → ∀ (k : Nat) (hk : k < L.length), W.cell? ⟨g, k, none⟩ = some (.string ⟨(L[k]).toArray⟩) := by
  rcases own_open h with ⟨_, h1, _⟩ | ⟨g, cp, hv, hb, hg, hc, _, hcell⟩
  · omega
  · injection hv with e1 e2 e3
    subst e1
    exact ⟨g, rfl, hb, hg, by omega, fun W hW k hk => (hW.cell (p := ⟨g, k, none⟩) hg).trans (hcell k _ (strs_get hk))⟩
end Go.Proofs.YtaijdjmkmhpmpaaGreatDoor
namespace Go.Proofs.YtaijdjmkmhpmpaaGreatDoor
open Go.RowKit

/-- A slice that reads so. -/
def Txt (w : World) (v : Value) (L : List (List UInt8)) : Prop :=
  (v = .slice none 0 0 ∧ L = []) ∨ ∃ (a : Addr) (c : Nat), v = .slice (some a) L.length c ∧ L.length ≤ c ∧ (0 < L.length → a.block < w.heap.size) ∧ ∀ (k : Nat) (hk : k < L.length), w.cell? (a.add k) = some (.string ⟨(L[k]).toArray⟩)
theorem Txt.below {w W : World} {v : Value} {L : List (List UInt8)} (h : Txt w v L) {B : Nat} (hb : Below B w W) (hB : w.heap.size ≤ B) : Txt W v L := by
  rcases h with h | ⟨a, c, h1, h2, h3, h4⟩
  · exact .inl h
  · exact .inr ⟨a, c, h1, h2, fun h0 => by have := hb.size; have := h3 h0; omega, fun k hk => (hb.cell (p := a.add k) (by rw [Go.ChangeShapes.block_add]; have := h3 (by omega); omega)).trans (h4 k hk)⟩
theorem Txt.own {w : World} {base e : Nat} {v : Value} {n : Nat} {L : List (List UInt8)} (h : w.ownsRow base e 1 v n (strs L)) (hn : n = L.length) : Txt w v L := by
  subst hn
  rcases own_open h with ⟨h1, _, h3⟩ | ⟨g, c, h1, h2, h3, h4, _, h5⟩
  · refine .inl ⟨h1, ?_⟩
    unfold strs at h3
    simpa using h3
  · exact .inr ⟨⟨g, 0, none⟩, c, h1, h4, fun _ => h3, fun k hk => by
      rw [Addr.add_lit, Nat.zero_add]
      exact h5 k _ (strs_get hk)⟩
theorem txt_cell {w : World} {g o n c : Nat} {L : List (List UInt8)} (h : Txt w (.slice (some ⟨g, o, none⟩) n c) L) (h0 : 0 < L.length) : n = L.length ∧ L.length ≤ c ∧ g < w.heap.size ∧ ∀ W, Below w.heap.size w W → ∀ (k : Nat) (hk : k < L.length), W.cell? ⟨g, o + k, none⟩ = some (.string ⟨(L[k]).toArray⟩) := by
  rcases h with ⟨h1, _⟩ | ⟨a, c', h1, h2, h3, h4⟩
  · cases h1
  · injection h1 with e1 e2 e3
    injection e1 with e1
    subst e1
    refine ⟨e2, by omega, h3 h0, fun W hW k hk => ?_⟩
    have := (hW.cell (p := (⟨g, o, none⟩ : Addr).add k) (by rw [Go.ChangeShapes.block_add]; exact h3 h0)).trans (h4 k hk)
    rwa [Addr.add_lit] at this
theorem txt_tail {w : World} {g n c : Nat} {p : List UInt8} {L : List (List UInt8)} (h : Txt w (.slice (some ⟨g, 0, none⟩) n c) (p :: L)) : Txt w (.slice (some ⟨g, 1, none⟩) L.length (c - 1)) L := by
  obtain ⟨h1, h2, h3, h4⟩ := txt_cell h (by simp)
  refine .inr ⟨⟨g, 1, none⟩, c - 1, rfl, by simp at h2; omega, fun _ => h3, fun k hk => ?_⟩
  rw [Addr.add_lit]
  have := h4 w (Below.refl _ _) (k + 1) (by simpa using hk)
  rw [Nat.zero_add] at this
  rw [Nat.add_comm 1 k]
  exact this
theorem txt_conc {w : World} {base e : Nat} {v : Value} {n : Nat} {L : List (List UInt8)} (h : w.ownsRow base e 1 v n (strs L)) (hn : n = L.length) (h0 : L ≠ []) : ∃ g c, v = .slice (some ⟨g, 0, none⟩) L.length c ∧ Txt w (.slice (some ⟨g, 0, none⟩) L.length c) L := by
  have ht := Txt.own h hn
  subst hn
  rcases own_open h with ⟨_, h1, _⟩ | ⟨g, c, h1, _⟩
  · exact absurd (List.length_eq_zero_iff.1 h1) h0
  · exact ⟨g, c, h1, h1 ▸ ht⟩
/-- How long texts are together. -/
def sumT : List (List UInt8) → Nat
  | [] => 0
  | p :: l => p.length + sumT l
/-- The number that TextsSize goes to, up to its limit. -/
def sizeF : Nat → List (List UInt8) → Nat
  | n, [] => n
  | n, x :: l => if n ≤ 1048576 then sizeF (n + x.length) l else n
def textsN (L : List (List UInt8)) : Nat := sizeF L.length L
theorem sizeF_ge : ∀ (l : List (List UInt8)) (n : Nat), n ≤ sizeF n l
  | [], n => Nat.le_refl _
  | x :: l, n => by
    unfold sizeF
    split
    · have := sizeF_ge l (n + x.length); omega
    · exact Nat.le_refl _
theorem sizeF_sum : ∀ (l : List (List UInt8)) (n : Nat), sizeF n l ≤ 1048576 → sizeF n l = n + sumT l
  | [], n, _ => by simp [sizeF, sumT]
  | x :: l, n, h => by
    have hg := sizeF_ge (x :: l) n
    have hn : n ≤ 1048576 := by omega
    unfold sizeF at h ⊢
    rw [if_pos hn] at h ⊢
    rw [sizeF_sum l _ h]
    simp [sumT]; omega
theorem textsN_sum {L : List (List UInt8)} (h : textsN L ≤ 1048576) : textsN L = L.length + sumT L := sizeF_sum L _ h
theorem sumT_mem : ∀ {L : List (List UInt8)} {p : List UInt8}, p ∈ L → p.length ≤ sumT L
  | [], p, h => by simp at h
  | x :: l, p, h => by
    rcases List.mem_cons.1 h with rfl | h
    · simp [sumT]
    · have := sumT_mem h; simp [sumT]; omega
theorem sizeF_drop {L : List (List UInt8)} {k n : Nat} (hk : k < L.length) : sizeF n (L.drop k) = if n ≤ 1048576 then sizeF (n + (L[k]).length) (L.drop (k + 1)) else n := by
  rw [List.drop_eq_getElem_cons hk, sizeF]

set_option maxRecDepth 100000 in
set_option maxHeartbeats 2000000 in
theorem texts_size_any (L : List (List UInt8)) (v : Value) (w : World) (h : Txt w v L) (hl : L.length ≤ 140737488351232) (hs : ∀ p ∈ L, p.length ≤ 140737488351232) :
    Calls Tryz.prog 22 #[v] w fun e w' => e = .returned (.int .i64 (textsN L : Int)) ∧ w' = w := by
  have hm : textsN L = sizeF L.length (L.drop 0) := rfl
  have HM := Lib.hid hm
  rcases h with ⟨rfl, rfl⟩ | ⟨a, c, rfl, hc, hab, hcell⟩
  · clear hm
    go_enter Tryz.func22, Tryz.ntmps22
    go_wp2_with fail
    go_loop [3, 4] (fun n i => n = .int .i64 0 ∧ i = .int .i64 0) (fun _ _ => 0)
    case atStart => exact ⟨rfl, rfl⟩
    case round =>
      obtain ⟨rfl, rfl⟩ := hrel
      go_wp2_with fail
      go_ret
      exact ⟨rfl, rfl⟩
  · have HC := Lib.hid hcell
    have HS := Lib.hid hs
    clear hcell hm hs
    go_enter Tryz.func22, Tryz.ntmps22
    go_wp2_with fail
    go_loop [3, 4] (fun n i => ∃ k m : Nat, k ≤ L.length ∧ i = .int .i64 k ∧ n = .int .i64 m ∧ m ≤ 281474976710656 ∧ Hid (textsN L = sizeF m (L.drop k))) (fun _ i => L.length - (intOf i).toNat)
    case atStart => exact ⟨0, L.length, Nat.zero_le _, rfl, rfl, by omega, HM⟩
    case round =>
      obtain ⟨k, m, hk, rfl, rfl, hm8, HK⟩ := hrel
      by_cases hlt : k < L.length
      · have hck := HC.out k hlt
        have hsk := HS.out _ (List.getElem_mem hlt)
        have hstep := sizeF_drop (n := m) hlt
        by_cases h8 : m ≤ 1048576
        · have HN : Hid (textsN L = sizeF (m + (L[k]).length) (L.drop (k + 1))) := by
            show _ = _
            rw [HK.out, hstep, if_pos h8]
          clear hstep
          generalize L[k] = X at *
          go_wp2_with fail
          go_round
          case rel => exact ⟨k + 1, m + X.length, by omega, by go_num, by go_num, by omega, HN⟩
          case measure => simp [intOf]; omega
        · have HN : Hid (textsN L = m) := by
            show _ = _
            rw [HK.out, hstep, if_neg h8]
          clear hstep hck hsk
          go_wp2_with fail
          go_ret
          exact ⟨ret_int (by rw [HN.out]), rfl⟩
      · obtain rfl : k = L.length := by omega
        have HN : Hid (textsN L = m) := by
          show _ = _
          rw [HK.out, List.drop_length]
          rfl
        go_wp2_with fail
        go_ret
        exact ⟨ret_int (by rw [HN.out]), rfl⟩
end Go.Proofs.YtaijdjmkmhpmpaaGreatDoor
