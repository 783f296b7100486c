/- The walk of the reference's Bytes: the text of signs, in UTF-8. -/
import Derived.Test.YtafieajameapiaaDoorOwn
import Derived.Deep.Light
set_option linter.unusedVariables false
set_option linter.unusedSimpArgs false
namespace Go.Proofs.YtafieajameapiaaDoor
open Go.RowKit

/-- The bytes of one sign. -/
def encN (x : Nat) : List UInt8 :=
  if x < 128 then [UInt8.ofNat x]
  else if x < 2048 then [UInt8.ofNat (192 + x / 64), UInt8.ofNat (128 + x % 64)]
  else if x < 65536 then [UInt8.ofNat (224 + x / 4096), UInt8.ofNat (128 + x / 64 % 64), UInt8.ofNat (128 + x % 64)]
  else [UInt8.ofNat (240 + x / 262144), UInt8.ofNat (128 + x / 4096 % 64), UInt8.ofNat (128 + x / 64 % 64), UInt8.ofNat (128 + x % 64)]
def bytesL (l : List Nat) : List UInt8 := l.flatMap encN
theorem encN_len (x : Nat) : 1 ≤ (encN x).length ∧ (encN x).length ≤ 4 := by unfold encN; repeat' split
                                                                             all_goals simp
theorem bytesL_len (l : List Nat) : (bytesL l).length ≤ 4 * l.length := by
  unfold bytesL
  induction l with
  | nil => simp
  | cons x l ih => have := encN_len x; simp only [List.flatMap_cons, List.length_append, List.length_cons]; omega
theorem bytesL_take (l : List Nat) (k : Nat) (h : k < l.length) : bytesL (l.take (k + 1)) = bytesL (l.take k) ++ encN l[k] := by
  unfold bytesL
  rw [List.take_succ_eq_append_getElem h, List.flatMap_append]
  simp

theorem e_int : Elem1 Tryd.prog 32 3 (.int .i64 0) 8 := ⟨Tryd.underlying32, info_parts (by kernel_rfl), rfl⟩
theorem e_u8 : Elem1 Tryd.prog 29 5 (.int .u8 0) 1 := ⟨Tryd.underlying29, info_parts (by kernel_rfl), rfl⟩

abbrev u8s (l : List UInt8) : List Value := l.map fun c => .int .u8 c.toNat
abbrev i64s (l : List Nat) : List Value := l.map fun (c : Nat) => .int .i64 (c : Int)

theorem own_next {w' : World} {base e : Nat} {v' : Value} {A B C : List UInt8} {news : List Value} {m : Nat} (h : w'.ownsRow base e 1 v' (A.length + m) (u8s A ++ news)) (hC : C = A ++ B) (hm : m = B.length) (hnews : news = u8s B) : w'.ownsRow base e 1 v' C.length (u8s C) := by
  subst hC hm hnews
  rw [List.length_append, u8s, List.map_append]
  exact h
theorem u8_of {n : Nat} (h : n < 256) : (UInt8.ofNat n).toNat = n := by simp; omega
theorem u8v {z : Int} {n : Nat} (h : z = n) (hn : n < 256) : Value.int .u8 z = .int .u8 ((UInt8.ofNat n).toNat : Int) := by rw [u8_of hn, h]
theorem cell1 {k : IntKind} {z : Int} : (Value.int k z).oneCell' = true := rfl

set_option maxRecDepth 100000 in
theorem bytes_any (base : Nat) (v : Value) (l : List Nat) (w : World) (hown : w.ownsRow base 3 1 v l.length (i64s l)) (hb : base ≤ w.heap.size) (hl : l.length ≤ 1000000) (hx : ∀ x ∈ l, x ≤ 1114111) :
    Calls Tryd.prog 52 #[v] w fun e w' => e = .returned (.string ⟨(bytesL l).toArray⟩) ∧ Below w.heap.size w w' := by
  obtain ⟨c, hv, hc⟩ : ∃ (c : Option Addr × Nat), v = .slice c.1 l.length c.2 ∧ ∀ k, k < l.length → ∃ g, c.1 = some ⟨g, 0, none⟩ ∧ g < w.heap.size ∧ w.cell? ⟨g, k, none⟩ = some (.int .i64 (l.getD k 0 : Nat)) := by
    rcases own_open hown with ⟨rfl, h0, _⟩ | ⟨g, cap, rfl, _, hg, _, _, hcell⟩
    · exact ⟨(none, 0), by rw [h0], fun k hk => by omega⟩
    · exact ⟨(some ⟨g, 0, none⟩, cap), rfl, fun k hk => ⟨g, rfl, hg, hcell k _ (by simp [hk])⟩⟩
  obtain ⟨a0, cap⟩ := c
  simp only at hv hc
  clear hown
  subst hv
  have Hx := Lib.hid hx
  have Hc := Lib.hid hc
  clear hx hc
  go_enter Tryd.func52, Tryd.ntmps52
  go_wp2
  go_loopw [3, 4] (fun b i wr => ∃ k : Nat, k ≤ l.length ∧ i = .int .i64 k ∧ wr.ownsRow w.heap.size 5 1 b (bytesL (l.take k)).length (u8s (bytesL (l.take k))) ∧ Below w.heap.size w wr) (fun _ i _ => l.length - (intOf i).toNat)
  case atStart => exact ⟨0, Nat.zero_le _, rfl, World.ownsRow_nil _ _ _ _, Below.refl _ _⟩
  case round =>
    obtain ⟨k, hk, rfl, hown, hbl⟩ := hrel
    by_cases hlt : k < l.length
    · obtain ⟨g, rfl, hg, hcell0⟩ := Hc.out k hlt
      have hcell : wr.cell? ⟨g, k, none⟩ = some (.int .i64 (l.getD k 0 : Nat)) := (hbl.cell (p := ⟨g, k, none⟩) hg).trans hcell0
      clear hcell0
      have hxk : l.getD k 0 ≤ 1114111 := Hx.out _ (by simp [hlt])
      have ht := bytesL_take l k hlt
      rw [show l[k] = l.getD k 0 from by simp [hlt]] at ht
      have hln := bytesL_len (l.take k)
      have hln2 : (l.take k).length ≤ k := List.length_take_le _ _
      have hsz := hbl.size
      generalize l.getD k 0 = x at *
      have HT := Lib.hid ht
      clear ht
      by_cases c1 : x < 128
      · have he : encN x = [UInt8.ofNat x] := by unfold encN; rw [if_pos c1]
        have HE := Lib.hid he
        clear he
        go_wp2_with (at_builtin; refine wpList_append_vals e_u8 _ rfl _ _ rfl w.heap.size _ _ _ rfl hown _ _ _ rfl rfl ?c1 ?c2 ?c3 ?c4 ?_)
        case c1 => intro u hu; simp only [List.mem_cons, List.not_mem_nil, or_false] at hu; rcases hu with rfl
                   all_goals rfl
        case c2 => simp; omega
        case c3 => simp; omega
        case c4 => exact hsz
        intro v' w2 hown2 hgr _
        go_wp2
        go_roundw
        case rel => exact ⟨k + 1, by omega, by go_num, own_next hown2 HT.out (by rw [HE.out]; rfl) (by rw [HE.out]; simp only [u8s, List.map_cons, List.map_nil, List.cons.injEq, and_true]; exact u8v (by omega) (by omega)), hbl.grown hgr hsz (fun g' hg' => (hown.lt g' hg').1)⟩
        case measure => simp [intOf]; omega
      by_cases c2 : x < 2048
      · have he : encN x = [UInt8.ofNat (192 + x / 64), UInt8.ofNat (128 + x % 64)] := by unfold encN; rw [if_neg c1, if_pos c2]
        have HE := Lib.hid he
        clear he
        go_wp2_with (at_builtin; refine wpList_append_vals e_u8 _ rfl _ _ rfl w.heap.size _ _ _ rfl hown _ _ _ rfl rfl ?c1 ?c2 ?c3 ?c4 ?_)
        case c1 => intro u hu; simp only [List.mem_cons, List.not_mem_nil, or_false] at hu; rcases hu with rfl | rfl
                   all_goals rfl
        case c2 => simp; omega
        case c3 => simp; omega
        case c4 => exact hsz
        intro v' w2 hown2 hgr _
        go_wp2
        go_roundw
        case rel => exact ⟨k + 1, by omega, by go_num, own_next hown2 HT.out (by rw [HE.out]; rfl) (by rw [HE.out]; simp only [u8s, List.map_cons, List.map_nil, List.cons.injEq, and_true]; refine ⟨?_, ?_⟩ <;> exact u8v (by omega) (by omega)), hbl.grown hgr hsz (fun g' hg' => (hown.lt g' hg').1)⟩
        case measure => simp [intOf]; omega
      by_cases c3 : x < 65536
      · have he : encN x = [UInt8.ofNat (224 + x / 4096), UInt8.ofNat (128 + x / 64 % 64), UInt8.ofNat (128 + x % 64)] := by unfold encN; rw [if_neg c1, if_neg c2, if_pos c3]
        have HE := Lib.hid he
        have b1 : decide ((x : Int) < 128) = false := by simp; omega
        have b2 : decide ((x : Int) < 2048) = false := by simp; omega
        have b3 : decide ((x : Int) < 65536) = true := by simp; omega
        have hlo : 2048 ≤ (x : Int) := by omega
        have hhi : (x : Int) ≤ 65535 := by omega
        clear he c1 c2 c3 hxk
        iterate 14 go_step
        go_wp2_with (at_builtin; refine wpList_append_vals e_u8 _ rfl _ _ rfl w.heap.size _ _ _ rfl hown _ _ _ rfl rfl ?c1 ?c2 ?c3 ?c4 ?_)
        case c1 => intro u hu; simp only [List.mem_cons, List.not_mem_nil, or_false] at hu; rcases hu with rfl | rfl | rfl
                   all_goals rfl
        case c2 => simp; omega
        case c3 => simp; omega
        case c4 => exact hsz
        intro v' w2 hown2 hgr _
        go_wp2
        go_roundw
        case rel => exact ⟨k + 1, by omega, by go_num, own_next hown2 HT.out (by rw [HE.out]; rfl) (by rw [HE.out]; simp only [u8s, List.map_cons, List.map_nil, List.cons.injEq, and_true]; refine ⟨?_, ?_, ?_⟩ <;> exact u8v (by omega) (by omega)), hbl.grown hgr hsz (fun g' hg' => (hown.lt g' hg').1)⟩
        case measure => simp [intOf]; omega
      · have he : encN x = [UInt8.ofNat (240 + x / 262144), UInt8.ofNat (128 + x / 4096 % 64), UInt8.ofNat (128 + x / 64 % 64), UInt8.ofNat (128 + x % 64)] := by unfold encN; rw [if_neg c1, if_neg c2, if_neg c3]
        have HE := Lib.hid he
        have b1 : decide ((x : Int) < 128) = false := by simp; omega
        have b2 : decide ((x : Int) < 2048) = false := by simp; omega
        have b3 : decide ((x : Int) < 65536) = false := by simp; omega
        have hlo : 65536 ≤ (x : Int) := by omega
        have hhi : (x : Int) ≤ 1114111 := by omega
        clear he c1 c2 c3 hxk
        iterate 14 go_step
        go_wp2_with (at_builtin; refine wpList_append_vals e_u8 _ rfl _ _ rfl w.heap.size _ _ _ rfl hown _ _ _ rfl rfl ?c1 ?c2 ?c3 ?c4 ?_)
        case c1 => intro u hu; simp only [List.mem_cons, List.not_mem_nil, or_false] at hu; rcases hu with rfl | rfl | rfl | rfl
                   all_goals rfl
        case c2 => simp; omega
        case c3 => simp; omega
        case c4 => exact hsz
        intro v' w2 hown2 hgr _
        go_wp2
        go_roundw
        case rel => exact ⟨k + 1, by omega, by go_num, own_next hown2 HT.out (by rw [HE.out]; rfl) (by rw [HE.out]; simp only [u8s, List.map_cons, List.map_nil, List.cons.injEq, and_true]; refine ⟨?_, ?_, ?_, ?_⟩ <;> exact u8v (by omega) (by omega)), hbl.grown hgr hsz (fun g' hg' => (hown.lt g' hg').1)⟩
        case measure => simp [intOf]; omega
    · obtain rfl : k = l.length := by omega
      rw [List.take_length] at hown
      have hcv := convert_bytes_own (P := Tryd.prog) (src := 29) (dst := 9) (e := 5) Tryd.underlying29 Tryd.underlying5 Tryd.underlying9 hown
      go_wp2
      go_ret
      exact ⟨rfl, hbl⟩
end Go.Proofs.YtafieajameapiaaDoor
