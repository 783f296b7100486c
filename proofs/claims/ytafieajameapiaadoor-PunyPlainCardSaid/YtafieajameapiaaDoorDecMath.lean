/- Plain mathematics of what few letters say. No program in sight. -/
import Derived.Test.YtafieajameapiaaDoorPunyMath
import Derived.Test.YtafieajameapiaaDoorBytesRef
set_option linter.unusedVariables false
set_option linter.unusedSimpArgs false
namespace Go.Proofs.YtafieajameapiaaDoor

/-- May a number be no sign? -/
def badSign (n : Nat) : Prop := 1114111 < n ∨ (55296 ≤ n ∧ n ≤ 57343)
instance (n : Nat) : Decidable (badSign n) := by unfold badSign; exact inferInstance

def decF : Nat → List UInt8 → Nat → Nat → Nat → Bool → List Nat → Option (List Nat)
  | 0, _, _, _, _, _, _ => none
  | f + 1, s, b, sign, place, first, l =>
    if s = [] then some l
    else match readL b s 36 1 place with
      | none => none
      | some (n, rest) =>
        if badSign (sign + n / (l.length + 1)) then none
        else decF f rest (nextL (n - place) (l.length + 1) first) (sign + n / (l.length + 1)) (n % (l.length + 1) + 1) false
          (l.take (n % (l.length + 1)) ++ [sign + n / (l.length + 1)] ++ l.drop (n % (l.length + 1)))
theorem decF_any : ∀ (f g : Nat) (s : List UInt8) (b sign place : Nat) (first : Bool) (l : List Nat), s.length < f → s.length < g → decF f s b sign place first l = decF g s b sign place first l
  | 0, _, _, _, _, _, _, _, h, _ => by omega
  | _ + 1, 0, _, _, _, _, _, _, _, h => by omega
  | f + 1, g + 1, s, b, sign, place, first, l, h1, h2 => by
    unfold decF
    split
    · rfl
    · split
      · rfl
      · rename_i n rest hr
        have := (readL_some b s 36 1 place n rest hr).2.2.1
        split
        · rfl
        · exact decF_any f g _ _ _ _ _ _ (by omega) (by omega)
def decL (s : List UInt8) (b sign place : Nat) (first : Bool) (l : List Nat) : Option (List Nat) := decF (s.length + 1) s b sign place first l
theorem decL_nil {b sign place : Nat} {first : Bool} {l : List Nat} : decL [] b sign place first l = some l := by simp [decL, decF]
theorem decL_none {s : List UInt8} {b sign place : Nat} {first : Bool} {l : List Nat} (hs : s ≠ []) (h : readL b s 36 1 place = none) : decL s b sign place first l = none := by
  unfold decL decF
  rw [if_neg hs, h]
theorem decL_bad {s rest : List UInt8} {b sign place n : Nat} {first : Bool} {l : List Nat} (hs : s ≠ []) (h : readL b s 36 1 place = some (n, rest)) (hb : badSign (sign + n / (l.length + 1))) : decL s b sign place first l = none := by
  unfold decL decF
  rw [if_neg hs, h]
  simp only [hb, if_true]
theorem decL_go {s rest : List UInt8} {b sign place n : Nat} {first : Bool} {l : List Nat} (hs : s ≠ []) (h : readL b s 36 1 place = some (n, rest)) (hb : ¬ badSign (sign + n / (l.length + 1))) :
    decL s b sign place first l = decL rest (nextL (n - place) (l.length + 1) first) (sign + n / (l.length + 1)) (n % (l.length + 1) + 1) false
      (l.take (n % (l.length + 1)) ++ [sign + n / (l.length + 1)] ++ l.drop (n % (l.length + 1))) := by
  have hl := (readL_some b s 36 1 place n rest h).2.2.1
  conv => lhs; unfold decL decF
  rw [if_neg hs, h]
  simp only [hb, if_false]
  unfold decL
  exact decF_any _ _ _ _ _ _ _ _ hl (by omega)

/-- The signs that few letters say. -/
def decTop (s : List UInt8) : Option (List Nat) :=
  if 0 < lastAt s 45 s.length then decL (s.drop ((lastAt s 45 s.length).toNat + 1)) 72 128 0 true ((s.take (lastAt s 45 s.length).toNat).map fun c => c.toNat)
  else decL s 72 128 0 true []
/-- The text that few letters say, and an error's number. -/
def decode (s : List UInt8) : List UInt8 × Nat :=
  if 65536 < s.length then ([], 3)
  else if ∃ c ∈ s, 128 ≤ c.toNat then ([], 4)
  else match decTop s with
    | none => ([], 4)
    | some l => (bytesL l, 0)
def resV (r : List UInt8 × Nat) : Value := .tuple #[.string ⟨r.1.toArray⟩, .int .i64 r.2]
theorem decode_long {s : List UInt8} (h : 65536 < s.length) : decode s = ([], 3) := by unfold decode; rw [if_pos h]
theorem decode_wide {s : List UInt8} (h : s.length ≤ 65536) (h2 : ∃ c ∈ s, 128 ≤ c.toNat) : decode s = ([], 4) := by unfold decode; rw [if_neg (by omega), if_pos h2]
theorem decode_plain {s : List UInt8} (h : s.length ≤ 65536) (h2 : ∀ c ∈ s, c.toNat < 128) : decode s = match decTop s with | none => ([], 4) | some l => (bytesL l, 0) := by
  unfold decode
  rw [if_neg (by omega), if_neg (by rintro ⟨c, hc, h3⟩; have := h2 c hc; omega)]

/-- The last place of a hyphen among the first k bytes, or 0. -/
def cutZ (s : List UInt8) (k : Nat) : Int := max 0 (lastAt s 45 k)
theorem cutZ_bd (s : List UInt8) (k : Nat) : 0 ≤ cutZ s k ∧ cutZ s k ≤ k := by
  have := lastAt_lt s 45 k
  unfold cutZ
  omega
theorem cutZ_hit (s : List UInt8) (k : Nat) (h : k < s.length) (hc : ((s[k].toNat : Int) == 45) = true) : cutZ s (k + 1) = k := by
  have e : s.getD k 0 = s[k] := by simp [h]
  simp only [beq_iff_eq] at hc
  unfold cutZ lastAt
  rw [e, if_pos (by omega)]
  omega
theorem cutZ_miss (s : List UInt8) (k : Nat) (h : k < s.length) (hc : ((s[k].toNat : Int) == 45) = false) : cutZ s (k + 1) = cutZ s k := by
  have e : s.getD k 0 = s[k] := by simp [h]
  simp only [beq_eq_false_iff_ne] at hc
  unfold cutZ
  conv => lhs; unfold lastAt
  rw [e, if_neg (by omega)]

/-! ### What the model's own encoding of a rune is -/
theorem encode_encN {x : Nat} (h : ¬ badSign x) : Utf8.encode (x : Int) = ⟨(encN x).toArray⟩ := by
  unfold badSign at h
  have hv : Utf8.valid (x : Int) = true := by rw [validRune_eq, validRune]; simp; omega
  unfold Utf8.encode encN
  simp only [hv, if_true, Int.toNat_natCast]
  by_cases c1 : x < 128
  · rw [if_pos c1, if_pos c1]
  · rw [if_neg c1, if_neg c1]
    by_cases c2 : x < 2048
    · rw [if_pos c2, if_pos c2]
    · rw [if_neg c2, if_neg c2]
      by_cases c3 : x < 65536
      · rw [if_pos c3, if_pos c3]
      · rw [if_neg c3, if_neg c3]
theorem runesBytes_bytesL (l : List Nat) (h : ∀ x ∈ l, ¬ badSign x) : runesBytes (l.map fun (x : Nat) => (x : Int)) = ⟨(bytesL l).toArray⟩ := by
  have key : ∀ (l : List Nat) (a : List UInt8), (∀ x ∈ l, ¬ badSign x) → (l.map fun (x : Nat) => (x : Int)).foldl (fun r n => r ++ Utf8.encode n) ⟨a.toArray⟩ = ⟨(a ++ bytesL l).toArray⟩ := by
    intro l
    induction l with
    | nil => intro a _; simp [bytesL]
    | cons x l ih =>
      intro a hh
      simp only [List.map_cons, List.foldl_cons]
      rw [encode_encN (hh x (by simp))]
      have e : (⟨a.toArray⟩ : ByteArray) ++ ⟨(encN x).toArray⟩ = ⟨(a ++ encN x).toArray⟩ := by
        apply ByteArray.ext
        simp
      rw [e, ih (a ++ encN x) (fun y hy => hh y (by simp [hy]))]
      simp [bytesL]
  have := key l [] h
  rw [List.nil_append] at this
  exact this
abbrev i32s (l : List Nat) : List Value := l.map fun (c : Nat) => .int .i32 (c : Int)
/-- 'string(v)' of runes that are signs. -/
theorem runes_own {w : World} {base : Nat} {v : Value} {l : List Nat} (hown : w.ownsRow base 21 1 v l.length (i32s l)) (hbad : ∀ x ∈ l, ¬ badSign x) :
    (convert 51 9 v).run Tryd.prog w = .ok (.string ⟨(bytesL l).toArray⟩) w := by
  rw [← runesBytes_bytesL l hbad]
  refine convert_runes_own (base := base) Tryd.underlying51 Tryd.underlying21 Tryd.underlying9 ?_
  rw [List.length_map, List.map_map]
  exact hown
end Go.Proofs.YtafieajameapiaaDoor
