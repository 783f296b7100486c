/- The walks of hosts.Machine, hosts.Below and the reference's. -/
import Derived.Test.YtgihofogkoeimaaGreatDoorFourWalk
import Derived.Test.YtgihofogkoeimaaGreatDoorGText
import Derived.Test.YtgihofogkoeimaaGreatDoorHLabs
import Derived.Test.YtgihofogkoeimaaGreatDoorGMath
import Derived.Test.YtgihofogkoeimaaGreatDoorShelf
set_option linter.unusedVariables false
set_option linter.unusedSimpArgs false
namespace Go.Proofs.YtgihofogkoeimaaGreatDoor
open Go.RowKit
def brL (s : List UInt8) : Bool := Lib.hasPrefix s [91]
def machineL (s : List UInt8) : Bool := brL s || ((fourL s).1 && decide ((fourL s).2.1 = 0))
theorem brL_cons (c : UInt8) (s : List UInt8) : brL (c :: s) = decide (c.toNat = 91) := by
 unfold brL Lib.hasPrefix
 rw [Bool.eq_iff_iff]
 simp only [List.isPrefixOf, Bool.and_true, decide_eq_true_eq, beq_iff_eq]
 constructor
 ·intro h; rw [← h]; rfl
 ·intro h; exact (UInt8.toNat_inj.1 (by rw [h]; rfl))
theorem fourV_mk (r : Bool × Nat × Nat) : fourV r = .tuple #[addrV r.2.2, .bool r.1, .int .i64 (r.2.1 : Int)] := rfl
theorem below_row {B g : Nat} {a w : World} (h : Below B a w) (hg : B ≤ g) (cs : Array Value) : Below B a (w.setRow g cs) := by
 refine h.trans ⟨rfl, rfl, rfl, ?_, fun k hk => setRow_other w g k cs (by omega)⟩
 simp [World.setRow]
end Go.Proofs.YtgihofogkoeimaaGreatDoor
namespace Go.Proofs.YtgihofogkoeimaaGreatDoor
open Go.RowKit
def labelsL (s : List UInt8) : List (List UInt8) := if s = [] then [] else if machineL s then [s] else partsL 46 s
end Go.Proofs.YtgihofogkoeimaaGreatDoor
namespace Go.Proofs.YtgihofogkoeimaaGreatDoor
open Go.RowKit
structure EnvH (w : World) : Prop where
 t : EnvT w
 pow : Pow10 w
 deb : Deb16 w
theorem EnvH.below {w w' : World} (h : EnvH w) (hb : Below w.heap.size w w') : EnvH w' := ⟨h.t.below hb, h.pow.below hb, h.deb.below hb⟩
def b16 (n : Nat) : List UInt8 := [UInt8.ofNat (n / 16777216), UInt8.ofNat (n / 65536), UInt8.ofNat (n / 256), UInt8.ofNat n, 0, 0, 0, 0, 0, 0, 0, 0, 0, 0, 0, 0]
theorem addrV_adC (n : Nat) : addrV n = .agg (adC false (b16 n)) := by
 simp [addrV, adC, b16, byts, UInt8.toNat_ofNat']
theorem b16_len (n : Nat) : (b16 n).length = 16 := rfl
theorem b16_four (n : Nat) : ((b16 n).take 4).map (·.toNat) = bytes4 n := by simp [b16, bytes4, UInt8.toNat_ofNat']
theorem adC_one (six : Bool) (b : List UInt8) : (adC six b).all (·.oneCell') = true := by
 simp [adC, byts, Value.oneCell']
theorem addr_size : (Tryz.prog.info? 67).map (·.size) = some 17 := by kernel_rfl
theorem adC_info (six : Bool) {b : List UInt8} (hb : b.length = 16) : (Tryz.prog.info? 67).map (·.size) = some (adC six b).size := by rw [adC_size, hb]; exact addr_size
theorem zeroA_size (six : Bool) {b : List UInt8} (hb : b.length = 16) : zeroA.size = (adC six b).size := by rw [adC_size, hb]; rfl
def four_V (s : List UInt8) : Value := .tuple #[.string ⟨((fourT s).getD s).toArray⟩, .int .i64 ((fourL s).2.1 : Int)]
theorem fourT_ne {s : List UInt8} (h : (fourL s).2.1 ≠ 0) : fourT s = none := by unfold fourT; rw [if_pos h]
theorem fourT_yes {s : List UInt8} (h : (fourL s).2.1 = 0) (h1 : (fourL s).1 = true) : fourT s = some (text4 (bytes4 (fourL s).2.2)) := by unfold fourT; rw [if_neg (by omega), if_pos h1]
theorem fourT_no {s : List UInt8} (h : (fourL s).2.1 = 0) (h1 : (fourL s).1 = false) : fourT s = some s := by unfold fourT; rw [if_neg (by omega), if_neg (by simp [h1])]
set_option maxRecDepth 100000 in
set_option maxHeartbeats 2000000 in
theorem hfour_any (s : List UInt8) (w : World) (hE : EnvH w) (hs : s.length ≤ 3999999999) :
  Calls Tryz.prog 46 #[.string ⟨s.toArray⟩] w fun e w' => e = .returned (four_V s) ∧ Below w.heap.size w w' := by
 have cf := four_any s w hE.t.env hs
 have e1 : (fourL s).2.1 ≠ 0 → fourT s = none := fourT_ne
 have e2 := fun h h1 => fourT_yes (s := s) h h1
 have e3 := fun h h1 => fourT_no (s := s) h h1
 have ev : four_V s = .tuple #[.string ⟨((fourT s).getD s).toArray⟩, .int .i64 ((fourL s).2.1 : Int)] := rfl
 generalize fourL s = r at *
 obtain ⟨lk, er, n⟩ := r
 rw [fourV_mk, addrV_adC] at cf
 simp only at cf e1 e2 e3 ev
 have hB := b16_len n
 have ct := fun W (hp : Pow10 W) => text_four (b16 n) hB W hp
 rw [b16_four] at ct
 have hi := adC_info false hB
 have hz := zeroA_size false hB
 have h1 := adC_one false (b16 n)
 generalize hBB : b16 n = B at *
 clear hBB
 by_cases he : er = 0
 ·subst he
  cases lk with
  | true =>
   have HT := Lib.hid (e2 rfl rfl)
   have HV := Lib.hid ev
   clear e1 e2 e3 ev
   generalize text4 (bytes4 n) = T at *
   go_enter Tryz.func46, Tryz.ntmps46
   go_wp2_with fail
   go_at_call 76
   refine cf.mono ?_
   rintro e w1 ⟨rfl, hb1⟩
   have hh : ((w1.alloc (.cells zeroA 67)).setRow w1.heap.size (adC false B)).heap[w1.heap.size]? = some (.cells (adC false B) 67 (0, 0)) := setRow_heap _ _ _ _ _ _ (heap_alloc_new w1 _)
   have hb2 : Below w.heap.size w ((w1.alloc (.cells zeroA 67)).setRow w1.heap.size (adC false B)) := below_row (hb1.alloc hb1.size _) hb1.size _
   have ct2 := ct _ (hE.pow.below hb2)
   go_wp2_with (first | (refine wpList_store_row (o := ⟨none, .store 67 (.tmp 4) (.tmp 10), _, _, _, _⟩) rfl 67 (.tmp 4) _ rfl w1.heap.size (adC false B) rfl rfl 67 zeroA (heap_alloc_new w1 _) hi hz h1 ?_) | (refine wpList_load_row (o := ⟨some 18, .load 67 (.tmp 4), _, _, _, _⟩) rfl 67 (.tmp 4) rfl w1.heap.size rfl 67 (adC false B) (0, 0) _ hh Tryz.underlying67 rfl hi ?_) | (go_at_call 43; refine ct2.mono ?_; rintro e w3 ⟨rfl, hb3⟩))
   go_ret2
   exact ⟨by rw [HV.out, HT.out]; rfl, hb2.trans (hb3.mono hb2.size)⟩
  | false =>
   have HT := Lib.hid (e3 rfl rfl)
   have HV := Lib.hid ev
   clear e1 e2 e3 ev ct
   go_enter Tryz.func46, Tryz.ntmps46
   go_wp2_with fail
   go_at_call 76
   refine cf.mono ?_
   rintro e w1 ⟨rfl, hb1⟩
   have hb2 : Below w.heap.size w ((w1.alloc (.cells zeroA 67)).setRow w1.heap.size (adC false B)) := below_row (hb1.alloc hb1.size _) hb1.size _
   go_wp2_with (refine wpList_store_row (o := ⟨none, .store 67 (.tmp 4) (.tmp 10), _, _, _, _⟩) rfl 67 (.tmp 4) _ rfl w1.heap.size (adC false B) rfl rfl 67 zeroA (heap_alloc_new w1 _) hi hz h1 ?_)
   go_ret2
   exact ⟨by rw [HV.out, HT.out]; rfl, hb2⟩
 ·have HT := Lib.hid (e1 he)
  have HV := Lib.hid ev
  have hei : ((er : Int) == 0) = false := beq_eq_false_iff_ne.2 (by omega)
  have hep : ¬ (er : Int) = 0 := by omega
  clear e1 e2 e3 ev ct
  cases lk
  all_goals
   go_enter Tryz.func46, Tryz.ntmps46
   go_wp2_with fail
   go_at_call 76
   refine cf.mono ?_
   rintro e w1 ⟨rfl, hb1⟩
   have hb2 : Below w.heap.size w ((w1.alloc (.cells zeroA 67)).setRow w1.heap.size (adC false B)) := below_row (hb1.alloc hb1.size _) hb1.size _
   go_wp2_with (refine wpList_store_row (o := ⟨none, .store 67 (.tmp 4) (.tmp 10), _, _, _, _⟩) rfl 67 (.tmp 4) _ rfl w1.heap.size (adC false B) rfl rfl 67 zeroA (heap_alloc_new w1 _) hi hz h1 ?_)
   go_ret2
   exact ⟨by rw [HV.out, HT.out]; rfl, hb2⟩
end Go.Proofs.YtgihofogkoeimaaGreatDoor
namespace Go.Proofs.YtgihofogkoeimaaGreatDoor
open Go.RowKit
theorem foul_idx (c : UInt8) : decide (0 ≤ Lib.indexByte foulS c) = foulS.contains c := by
 have h : ∀ l : List UInt8, decide (0 ≤ Lib.indexByte l c) = l.contains c := by
  intro l
  induction l with
  | nil => rfl
  | cons b l ih =>
   unfold Lib.indexByte
   by_cases hb : b = c
   ·subst hb; simp
   ·rw [if_neg (by simpa using hb)]
    have hge := Lib.indexByte_ge l c
    have e : (b :: l).contains c = l.contains c := by
     rw [List.contains_cons]
     have : (c == b) = false := by rw [beq_eq_false_iff_ne]; exact fun e => hb e.symm
     rw [this, Bool.false_or]
    rw [e, ← ih]
    split
    ·rename_i h; simp at h; rw [h]
    ·rename_i h; simp at h; rw [decide_eq_decide]; omega
 exact h foulS
theorem any_take_no {s : List UInt8} {k : Nat} (h : k < s.length) (ha : (s.take k).any foulB = false) (hc : foulB s[k] = false) : (s.take (k + 1)).any foulB = false := by
 rw [List.take_succ_eq_append_getElem h, List.any_append, ha]; simp [hc]
theorem any_yes {s : List UInt8} {k : Nat} (h : k < s.length) (hc : foulB s[k] = true) : s.any foulB = true := List.any_eq_true.2 ⟨_, List.getElem_mem h, hc⟩
theorem foul_no {c : UInt8} (h1 : ¬ c.toNat ≤ 32) (h2 : ¬ c.toNat = 127) (h3 : foulS.contains c = false) : foulB c = false := by
 unfold foulB; rw [decide_eq_false h1, decide_eq_false h2, h3]; rfl
def cleanO (s : List UInt8) : Option (List UInt8) := if cleanL s then some s else none
theorem clean_no {s : List UInt8} {k : Nat} (h : k < s.length) (hf : foulB s[k] = true) : cleanO s = none := by
 unfold cleanO cleanL; rw [any_yes h hf]; rfl
theorem clean_end {s : List UInt8} (h : (s.take s.length).any foulB = false) : cleanO s = if s.length ≤ 253 then some s else none := by
 rw [List.take_length] at h
 unfold cleanO cleanL; rw [h]; simp
set_option maxRecDepth 100000 in
set_option maxHeartbeats 1000000 in
theorem clean_any (s : List UInt8) (w : World) (hs : s.length ≤ 140737488351232) :
  Calls Tryz.prog 45 #[.string ⟨s.toArray⟩] w fun e w' => e = .returned (optV (cleanO s)) ∧ w = w' := by
 go_enter Tryz.func45, Tryz.ntmps45
 go_wp2_with fail
 go_loop [7] (fun i => ∃ k : Nat, k ≤ s.length ∧ i = .int .i64 k ∧ Hid ((s.take k).any foulB = false)) (fun i => s.length - (intOf i).toNat)
 case atStart => exact ⟨0, Nat.zero_le _, rfl, by show _ = _; simp⟩
 case round =>
  obtain ⟨k, hk, rfl, H⟩ := hrel
  by_cases hlt : k < s.length
  ·have hy := fun h => Lib.hid (clean_no (s := s) hlt h)
   have hn := fun h => Lib.hid (any_take_no hlt H.out h)
   have hf : foulB s[k] = (decide (s[k].toNat ≤ 32) || (decide (s[k].toNat = 127) || foulS.contains s[k])) := rfl
   have hi := foul_idx s[k]
   have hlt8 := s[k].toNat_lt
   generalize hc : s[k] = c at *
   have ci : ∀ W, Calls Tryz.prog 75 #[.string ⟨#[35, 37, 47, 58, 60, 62, 63, 64, 91, 92, 93, 94, 124]⟩, .int .u8 (c.toNat : Int)] W fun e w' => e = .returned (.int .i64 (Lib.indexByte foulS c)) ∧ W = w' := fun W =>
    (Tryz.strings_IndexByte ⟨foulS.toArray⟩ (c.toNat : Int) W).mono fun e w' h => ⟨by rw [h.1]; simp, h.2.symm⟩
   have hge := Lib.indexByte_ge foulS c
   generalize Lib.indexByte foulS c = q at *
   by_cases h1 : c.toNat ≤ 32
   ·have HY := hy (by rw [hf, decide_eq_true h1]; rfl)
    have h1i : (c.toNat : Int) ≤ 32 := by omega
    clear hy hn hf hi ci h1
    go_wp2_with fail
    go_ret2
    exact ⟨by rw [HY.out]; rfl, rfl⟩
   ·by_cases h2 : c.toNat = 127
    ·have HY := hy (by rw [hf, decide_eq_true h2]; simp)
     have h1i : ¬ (c.toNat : Int) ≤ 32 := by omega
     have h2i : ((c.toNat : Int) == 127) = true := beq_iff_eq.2 (by omega)
     have h2p : (c.toNat : Int) = 127 := by omega
     clear hy hn hf hi ci h1 h2
     go_wp2_with fail
     go_ret2
     exact ⟨by rw [HY.out]; rfl, rfl⟩
    ·have h1i : ¬ (c.toNat : Int) ≤ 32 := by omega
     have h2i : ((c.toNat : Int) == 127) = false := beq_eq_false_iff_ne.2 (by omega)
     have h2p : ¬ (c.toNat : Int) = 127 := by omega
     cases h3 : foulS.contains c with
     | true =>
      have HY := hy (by rw [hf, h3]; simp)
      rw [h3] at hi
      have hq : 0 ≤ q := by simpa using hi
      clear hy hn hf hi h1 h2 h3
      go_wp2_with (go_at_call 75; refine (ci _).mono ?_; rintro e w1 ⟨rfl, rfl⟩)
      go_ret2
      exact ⟨by rw [HY.out]; rfl, rfl⟩
     | false =>
      have HN := hn (foul_no h1 h2 h3)
      rw [h3] at hi
      have hq : ¬ 0 ≤ q := by simpa using hi
      clear hy hn hf hi h1 h2 h3
      go_wp2_with (go_at_call 75; refine (ci _).mono ?_; rintro e w1 ⟨rfl, rfl⟩)
      go_round
      case rel => exact ⟨k + 1, by omega, by go_num, HN⟩
      case measure => simp [intOf]; omega
  ·obtain rfl : k = s.length := by omega
   have HE := Lib.hid (clean_end H.out)
   clear H
   by_cases h4 : s.length ≤ 253
   ·have HE4 : Hid (cleanO s = some s) := by show _ = _; rw [HE.out, if_pos h4]
    clear HE
    go_wp2_with fail
    go_ret2
    exact ⟨by rw [HE4.out]; rfl, rfl⟩
   ·have HE4 : Hid (cleanO s = none) := by show _ = _; rw [HE.out, if_neg h4]
    clear HE
    go_wp2_with fail
    go_ret2
    exact ⟨by rw [HE4.out]; rfl, rfl⟩
end Go.Proofs.YtgihofogkoeimaaGreatDoor
