/- What the walks lean on in each world, and strconv.ParseUint at bases 8, 10, 16. -/
import Derived.Test.YtijobaecakhnjaaGreatDoorIntParse
import Derived.Test.YtijobaecakhnjaaGreatDoorWords
import Derived.Lib.IfaceEq
import Derived.Lib.AtoiErrMem
set_option linter.unusedVariables false
set_option linter.unusedSimpArgs false
namespace Go.Proofs.YtijobaecakhnjaaGreatDoor
open Go.RowKit

/-- The variables of the library that are read. -/
structure Env (w : World) : Prop where
  shaped : w.ShapedOpen Tryz.prog
  errS : ∃ t p, w.cell? ⟨4, 0, none⟩ = some (.iface t p)
  errR : ∃ t p, w.cell? ⟨5, 0, none⟩ = some (.iface t p)
theorem cell_lt {w : World} {a : Addr} {v : Value} (h : w.cell? a = some v) : a.block < w.heap.size := Lib.lt_of_cell h
theorem Env.below {w w' : World} (h : Env w) (hb : Below w.heap.size w w') : Env w' := by
  obtain ⟨t, p, h1⟩ := h.errS
  obtain ⟨t2, p2, h2⟩ := h.errR
  exact ⟨shaped_below h.shaped hb, ⟨t, p, (hb.cell (cell_lt h1)).trans h1⟩, ⟨t2, p2, (hb.cell (cell_lt h2)).trans h2⟩⟩
/-- A contract that needs the variables, lifted. -/
theorem lift_env {f : FuncId} {args : Array Value} {v : Value} {w : World} (hE : Env w) (h : ∀ W, Env W → Calls Tryz.prog f args W fun e W' => e = .returned v ∧ Below W.heap.size W W') : ∀ W, Below w.heap.size w W → Calls Tryz.prog f args W fun e W' => e = .returned v ∧ Below w.heap.size w W' := fun W hW =>
  (h W (hE.below hW)).mono fun e W' ⟨he, hb⟩ => ⟨he, hW.trans (hb.mono hW.size)⟩

theorem below_bytes (w : World) (t : List UInt8) : Below w.heap.size w (Lib.bytesWorld w 5 ⟨t.toArray⟩) := by
  exact Lib.bytesWorld_below _ _ _

set_option maxRecDepth 100000 in
theorem pu16_ok (t : List UInt8) (hne : t ≠ []) (hmax : t.length ≤ 140737488351232) (v : Nat) (h : parseB 16 18446744073709551615 0 t = .ok v) (w : World) :
    Calls Tryz.prog 146 #[.string ⟨t.toArray⟩, .int .i64 16, .int .i64 64] w fun e w' => e = .returned (.tuple #[.int .u64 (v : Int), .nilIface]) ∧ Below w.heap.size w w' := by
  have ci := iparse_16 t hne hmax w
  rw [h] at ci
  simp only [uintT] at ci
  have hb := below_bytes w t
  clear h hne
  go_enter Tryz.func146, Tryz.ntmps146
  go_wp2_with (go_at_call 180; refine ci.mono ?_; rintro e w1 ⟨rfl, rfl⟩)
  go_ret2
  exact ⟨rfl, hb⟩
set_option maxRecDepth 100000 in
theorem pu16_bad (t : List UInt8) (hne : t ≠ []) (hmax : t.length ≤ 140737488351232) (h : ∀ v, parseB 16 18446744073709551615 0 t ≠ .ok v) (w : World) (hE : Env w) :
    Calls Tryz.prog 146 #[.string ⟨t.toArray⟩, .int .i64 16, .int .i64 64] w fun e w' => ∃ (n : Int) (T : TypeId) (q : Value), 0 ≤ n ∧ e = .returned (.tuple #[.int .u64 n, .iface T q]) ∧ Below w.heap.size w w' := by
  have ci := iparse_16 t hne hmax w
  have hb := below_bytes w t
  have hE1 := hE.below hb
  obtain ⟨ts, ps, hS⟩ := hE1.errS
  obtain ⟨tr, pr, hR⟩ := hE1.errR
  generalize Lib.bytesWorld w 5 ⟨t.toArray⟩ = w1 at *
  cases hp : parseB 16 18446744073709551615 0 t with
  | ok v => exact absurd hp (h v)
  | «syntax» =>
    rw [hp] at ci
    simp only [uintT] at ci
    have ce := fun (fn : ByteArray) (b bi : Int) => Tryz.strconv_toError_syntax fn ⟨t.toArray⟩ b bi _ w1 (by show t.length ≤ _; omega) hS (.inr ⟨ts, ps, rfl⟩)
    clear h hne hp hS hR
    go_enter Tryz.func146, Tryz.ntmps146
    go_wp2_with (first | (go_at_call 180; refine ci.mono ?_; rintro e w2 ⟨rfl, rfl⟩) | (go_at_call 181; refine (ce _ _ _).mono ?_; rintro e w2 ⟨N, rfl, _, _, hb2⟩))
    go_ret2
    exact ⟨_, _, _, by omega, rfl, hb.trans (hb2.mono hb.size)⟩
  | range =>
    rw [hp] at ci
    simp only [uintT] at ci
    have ce := fun (fn : ByteArray) (b bi : Int) => Tryz.strconv_toError_range fn ⟨t.toArray⟩ b bi _ w1 (by show t.length ≤ _; omega) hR (.inr ⟨tr, pr, rfl⟩)
    clear h hne hp hS hR
    go_enter Tryz.func146, Tryz.ntmps146
    go_wp2_with (first | (go_at_call 180; refine ci.mono ?_; rintro e w2 ⟨rfl, rfl⟩) | (go_at_call 181; refine (ce _ _ _).mono ?_; rintro e w2 ⟨N, rfl, _, _, hb2⟩))
    go_ret2
    exact ⟨_, _, _, by omega, rfl, hb.trans (hb2.mono hb.size)⟩

set_option maxRecDepth 100000 in
theorem pu8_ok (t : List UInt8) (hne : t ≠ []) (hmax : t.length ≤ 140737488351232) (v : Nat) (h : parseB 8 18446744073709551615 0 t = .ok v) (w : World) :
    Calls Tryz.prog 146 #[.string ⟨t.toArray⟩, .int .i64 8, .int .i64 64] w fun e w' => e = .returned (.tuple #[.int .u64 (v : Int), .nilIface]) ∧ Below w.heap.size w w' := by
  have ci := iparse_8 t hne hmax w
  rw [h] at ci
  simp only [uintT] at ci
  have hb := below_bytes w t
  clear h hne
  go_enter Tryz.func146, Tryz.ntmps146
  go_wp2_with (go_at_call 180; refine ci.mono ?_; rintro e w1 ⟨rfl, rfl⟩)
  go_ret2
  exact ⟨rfl, hb⟩
set_option maxRecDepth 100000 in
theorem pu8_bad (t : List UInt8) (hne : t ≠ []) (hmax : t.length ≤ 140737488351232) (h : ∀ v, parseB 8 18446744073709551615 0 t ≠ .ok v) (w : World) (hE : Env w) :
    Calls Tryz.prog 146 #[.string ⟨t.toArray⟩, .int .i64 8, .int .i64 64] w fun e w' => ∃ (n : Int) (T : TypeId) (q : Value), 0 ≤ n ∧ e = .returned (.tuple #[.int .u64 n, .iface T q]) ∧ Below w.heap.size w w' := by
  have ci := iparse_8 t hne hmax w
  have hb := below_bytes w t
  have hE1 := hE.below hb
  obtain ⟨ts, ps, hS⟩ := hE1.errS
  obtain ⟨tr, pr, hR⟩ := hE1.errR
  generalize Lib.bytesWorld w 5 ⟨t.toArray⟩ = w1 at *
  cases hp : parseB 8 18446744073709551615 0 t with
  | ok v => exact absurd hp (h v)
  | «syntax» =>
    rw [hp] at ci
    simp only [uintT] at ci
    have ce := fun (fn : ByteArray) (b bi : Int) => Tryz.strconv_toError_syntax fn ⟨t.toArray⟩ b bi _ w1 (by show t.length ≤ _; omega) hS (.inr ⟨ts, ps, rfl⟩)
    clear h hne hp hS hR
    go_enter Tryz.func146, Tryz.ntmps146
    go_wp2_with (first | (go_at_call 180; refine ci.mono ?_; rintro e w2 ⟨rfl, rfl⟩) | (go_at_call 181; refine (ce _ _ _).mono ?_; rintro e w2 ⟨N, rfl, _, _, hb2⟩))
    go_ret2
    exact ⟨_, _, _, by omega, rfl, hb.trans (hb2.mono hb.size)⟩
  | range =>
    rw [hp] at ci
    simp only [uintT] at ci
    have ce := fun (fn : ByteArray) (b bi : Int) => Tryz.strconv_toError_range fn ⟨t.toArray⟩ b bi _ w1 (by show t.length ≤ _; omega) hR (.inr ⟨tr, pr, rfl⟩)
    clear h hne hp hS hR
    go_enter Tryz.func146, Tryz.ntmps146
    go_wp2_with (first | (go_at_call 180; refine ci.mono ?_; rintro e w2 ⟨rfl, rfl⟩) | (go_at_call 181; refine (ce _ _ _).mono ?_; rintro e w2 ⟨N, rfl, _, _, hb2⟩))
    go_ret2
    exact ⟨_, _, _, by omega, rfl, hb.trans (hb2.mono hb.size)⟩

set_option maxRecDepth 100000 in
theorem pu16b_ok (t : List UInt8) (hne : t ≠ []) (hmax : t.length ≤ 140737488351232) (v : Nat) (h : parseB 16 255 0 t = .ok v) (w : World) :
    Calls Tryz.prog 146 #[.string ⟨t.toArray⟩, .int .i64 16, .int .i64 8] w fun e w' => e = .returned (.tuple #[.int .u64 (v : Int), .nilIface]) ∧ Below w.heap.size w w' := by
  have ci := iparse_16b t hne hmax w
  rw [h] at ci
  simp only [uintT] at ci
  have hb := below_bytes w t
  clear h hne
  go_enter Tryz.func146, Tryz.ntmps146
  go_wp2_with (go_at_call 180; refine ci.mono ?_; rintro e w1 ⟨rfl, rfl⟩)
  go_ret2
  exact ⟨rfl, hb⟩
set_option maxRecDepth 100000 in
theorem pu16b_bad (t : List UInt8) (hne : t ≠ []) (hmax : t.length ≤ 140737488351232) (h : ∀ v, parseB 16 255 0 t ≠ .ok v) (w : World) (hE : Env w) :
    Calls Tryz.prog 146 #[.string ⟨t.toArray⟩, .int .i64 16, .int .i64 8] w fun e w' => ∃ (n : Int) (T : TypeId) (q : Value), 0 ≤ n ∧ e = .returned (.tuple #[.int .u64 n, .iface T q]) ∧ Below w.heap.size w w' := by
  have ci := iparse_16b t hne hmax w
  have hb := below_bytes w t
  have hE1 := hE.below hb
  obtain ⟨ts, ps, hS⟩ := hE1.errS
  obtain ⟨tr, pr, hR⟩ := hE1.errR
  generalize Lib.bytesWorld w 5 ⟨t.toArray⟩ = w1 at *
  cases hp : parseB 16 255 0 t with
  | ok v => exact absurd hp (h v)
  | «syntax» =>
    rw [hp] at ci
    simp only [uintT] at ci
    have ce := fun (fn : ByteArray) (b bi : Int) => Tryz.strconv_toError_syntax fn ⟨t.toArray⟩ b bi _ w1 (by show t.length ≤ _; omega) hS (.inr ⟨ts, ps, rfl⟩)
    clear h hne hp hS hR
    go_enter Tryz.func146, Tryz.ntmps146
    go_wp2_with (first | (go_at_call 180; refine ci.mono ?_; rintro e w2 ⟨rfl, rfl⟩) | (go_at_call 181; refine (ce _ _ _).mono ?_; rintro e w2 ⟨N, rfl, _, _, hb2⟩))
    go_ret2
    exact ⟨_, _, _, by omega, rfl, hb.trans (hb2.mono hb.size)⟩
  | range =>
    rw [hp] at ci
    simp only [uintT] at ci
    have ce := fun (fn : ByteArray) (b bi : Int) => Tryz.strconv_toError_range fn ⟨t.toArray⟩ b bi _ w1 (by show t.length ≤ _; omega) hR (.inr ⟨tr, pr, rfl⟩)
    clear h hne hp hS hR
    go_enter Tryz.func146, Tryz.ntmps146
    go_wp2_with (first | (go_at_call 180; refine ci.mono ?_; rintro e w2 ⟨rfl, rfl⟩) | (go_at_call 181; refine (ce _ _ _).mono ?_; rintro e w2 ⟨N, rfl, _, _, hb2⟩))
    go_ret2
    exact ⟨_, _, _, by omega, rfl, hb.trans (hb2.mono hb.size)⟩

theorem parseUintM_eq {max : Nat} (hm : max ≤ 18446744073709551615) : ∀ (s : List UInt8) (acc : Nat), Lib.parseUintM max acc s = parseB 10 max acc s := by
  intro s
  induction s with
  | nil => intro acc; rfl
  | cons c s ih =>
    intro acc
    have hx : hexI c.toNat = if 48 ≤ c.toNat ∧ c.toNat ≤ 57 then (c.toNat : Int) - 48 else if 97 ≤ c.toNat ∧ c.toNat ≤ 102 then (c.toNat : Int) - 87 else if 65 ≤ c.toNat ∧ c.toNat ≤ 70 then (c.toNat : Int) - 55 else -1 := rfl
    unfold Lib.parseUintM
    by_cases h : 48 ≤ c.toNat ∧ c.toNat ≤ 57
    · rw [if_pos h] at hx ⊢
      by_cases h1 : 1844674407370955162 ≤ acc
      · rw [if_pos h1, parseB_rng (by omega) (by omega) (by omega)]
      · rw [if_neg h1]
        by_cases h2 : max < acc * 10 + (c.toNat - 48)
        · rw [if_pos h2, parseB_rng (by omega) (by omega) (by omega)]
        · rw [if_neg h2, parseB_go (by omega) (by omega) (by omega), ih, show (hexI c.toNat).toNat = c.toNat - 48 by omega]
    · rw [if_neg h] at hx ⊢
      rw [parseB_syn]
      by_cases h1 : 97 ≤ c.toNat ∧ c.toNat ≤ 102
      · rw [if_pos h1] at hx; omega
      · rw [if_neg h1] at hx
        by_cases h2 : 65 ≤ c.toNat ∧ c.toNat ≤ 70
        · rw [if_pos h2] at hx; omega
        · rw [if_neg h2] at hx; omega
theorem parseUintB_eq {B : Nat} (hB : 2 ^ B - 1 ≤ 18446744073709551615) {s : List UInt8} (h : s ≠ []) : Lib.parseUintB B s = parseB 10 (2 ^ B - 1) 0 s := by
  unfold Lib.parseUintB
  rw [if_neg h, parseUintM_eq hB]
theorem pu10_ok (t : List UInt8) (hne : t ≠ []) (hmax : t.length ≤ 140737488351232) (v : Nat) (h : parseB 10 18446744073709551615 0 t = .ok v) (w : World) :
    Calls Tryz.prog 146 #[.string ⟨t.toArray⟩, .int .i64 10, .int .i64 64] w fun e w' => e = .returned (.tuple #[.int .u64 (v : Int), .nilIface]) ∧ Below w.heap.size w w' := by
  refine (Tryz.strconv_ParseUint_10_at64_ok ⟨t.toArray⟩ (by show t.length ≤ _; omega) v ((parseUintB_eq (B := 64) (by decide) hne).trans h) w).mono ?_
  rintro e w' ⟨he, rfl | rfl⟩
  · exact ⟨he, Below.refl _ _⟩
  · exact ⟨he, below_bytes w t⟩
theorem pu10_bad (t : List UInt8) (hne : t ≠ []) (hmax : t.length ≤ 140737488351232) (h : ∀ v, parseB 10 18446744073709551615 0 t ≠ .ok v) (w : World) (hE : Env w) :
    Calls Tryz.prog 146 #[.string ⟨t.toArray⟩, .int .i64 10, .int .i64 64] w fun e w' => ∃ (n : Int) (T : TypeId) (q : Value), 0 ≤ n ∧ e = .returned (.tuple #[.int .u64 n, .iface T q]) ∧ Below w.heap.size w w' := by
  have he := parseUintB_eq (B := 64) (by decide) hne
  obtain ⟨ts, ps, hS⟩ := hE.errS
  obtain ⟨tr, pr, hR⟩ := hE.errR
  cases hp : parseB 10 18446744073709551615 0 t with
  | ok v => exact absurd hp (h v)
  | «syntax» =>
    refine (Tryz.strconv_ParseUint_10_at64_syntax ⟨t.toArray⟩ (by show t.length ≤ _; omega) (he.trans hp) _ w hS (.inr ⟨ts, ps, rfl⟩)).mono ?_
    rintro e w2 ⟨N, rfl, _, _, hb⟩
    exact ⟨_, _, _, by omega, rfl, hb⟩
  | range =>
    refine (Tryz.strconv_ParseUint_10_at64_range ⟨t.toArray⟩ (by show t.length ≤ _; omega) (he.trans hp) _ w hR (.inr ⟨tr, pr, rfl⟩)).mono ?_
    rintro e w2 ⟨N, rfl, _, _, hb⟩
    exact ⟨_, _, _, by omega, rfl, hb⟩
theorem pu10b_ok (t : List UInt8) (hne : t ≠ []) (hmax : t.length ≤ 140737488351232) (v : Nat) (h : parseB 10 255 0 t = .ok v) (w : World) :
    Calls Tryz.prog 146 #[.string ⟨t.toArray⟩, .int .i64 10, .int .i64 8] w fun e w' => e = .returned (.tuple #[.int .u64 (v : Int), .nilIface]) ∧ Below w.heap.size w w' := by
  refine (Tryz.strconv_ParseUint_10_at8_ok ⟨t.toArray⟩ (by show t.length ≤ _; omega) v ((parseUintB_eq (B := 8) (by decide) hne).trans h) w).mono ?_
  rintro e w' ⟨he, rfl | rfl⟩
  · exact ⟨he, Below.refl _ _⟩
  · exact ⟨he, below_bytes w t⟩
theorem pu10b_bad (t : List UInt8) (hne : t ≠ []) (hmax : t.length ≤ 140737488351232) (h : ∀ v, parseB 10 255 0 t ≠ .ok v) (w : World) (hE : Env w) :
    Calls Tryz.prog 146 #[.string ⟨t.toArray⟩, .int .i64 10, .int .i64 8] w fun e w' => ∃ (n : Int) (T : TypeId) (q : Value), 0 ≤ n ∧ e = .returned (.tuple #[.int .u64 n, .iface T q]) ∧ Below w.heap.size w w' := by
  have he := parseUintB_eq (B := 8) (by decide) hne
  obtain ⟨ts, ps, hS⟩ := hE.errS
  obtain ⟨tr, pr, hR⟩ := hE.errR
  cases hp : parseB 10 255 0 t with
  | ok v => exact absurd hp (h v)
  | «syntax» =>
    refine (Tryz.strconv_ParseUint_10_at8_syntax ⟨t.toArray⟩ (by show t.length ≤ _; omega) (he.trans hp) _ w hS (.inr ⟨ts, ps, rfl⟩)).mono ?_
    rintro e w2 ⟨N, rfl, _, _, hb⟩
    exact ⟨_, _, _, by omega, rfl, hb⟩
  | range =>
    refine (Tryz.strconv_ParseUint_10_at8_range ⟨t.toArray⟩ (by show t.length ≤ _; omega) (he.trans hp) _ w hR (.inr ⟨tr, pr, rfl⟩)).mono ?_
    rintro e w2 ⟨N, rfl, _, _, hb⟩
    exact ⟨_, _, _, by omega, rfl, hb⟩
end Go.Proofs.YtijobaecakhnjaaGreatDoor
