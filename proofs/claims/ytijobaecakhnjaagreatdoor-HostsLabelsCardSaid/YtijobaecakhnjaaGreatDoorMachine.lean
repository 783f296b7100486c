/- The walks of hosts.Machine, hosts.Below and the reference's. -/
import Derived.Test.YtijobaecakhnjaaGreatDoorFourWalk
set_option linter.unusedVariables false
set_option linter.unusedSimpArgs false
namespace Go.Proofs.YtijobaecakhnjaaGreatDoor
open Go.RowKit

/-- Is a host an address of a machine? -/
def brL (s : List UInt8) : Bool := Lib.hasPrefix s [91]
def machineL (s : List UInt8) : Bool := brL s || ((fourL s).1 && decide ((fourL s).2.1 = 0))
theorem brL_cons (c : UInt8) (s : List UInt8) : brL (c :: s) = decide (c.toNat = 91) := by
  unfold brL Lib.hasPrefix
  rw [Bool.eq_iff_iff]
  simp only [List.isPrefixOf, Bool.and_true, decide_eq_true_eq, beq_iff_eq]
  constructor
  · intro h; rw [← h]; rfl
  · intro h; exact (UInt8.toNat_inj.1 (by rw [h]; rfl))
theorem fourV_mk (r : Bool × Nat × Nat) : fourV r = .tuple #[addrV r.2.2, .bool r.1, .int .i64 (r.2.1 : Int)] := rfl
theorem addrV_agg (n : Nat) : ∃ cs, addrV n = .agg cs := ⟨_, rfl⟩

theorem below_row {B g : Nat} {a w : World} (h : Below B a w) (hg : B ≤ g) (cs : Array Value) : Below B a (w.setRow g cs) := by
  refine h.trans ⟨rfl, rfl, rfl, ?_, fun k hk => setRow_other w g k cs (by omega)⟩
  simp [World.setRow]
set_option maxRecDepth 100000 in
set_option maxHeartbeats 1000000 in
theorem machine_any (s : List UInt8) (w : World) (hE : Env w) (hs : s.length ≤ 3999999999) :
    Calls Tryz.prog 14 #[.string ⟨s.toArray⟩] w fun e w' => e = .returned (.bool (machineL s)) ∧ Below w.heap.size w w' := by
  have hbw := Below.refl w.heap.size w
  have cf := lift_env hE (fun W hEW => four_any s W hEW hs)
  have cp := lift_same w (fun W => (Tryz.strings_HasPrefix ⟨s.toArray⟩ ⟨#[91]⟩ W).mono (R' := fun e W' => e = .returned (.bool (brL s)) ∧ W = W') fun e W' ⟨he, hw⟩ => ⟨he, hw.symm⟩)
  have hm : machineL s = (brL s || ((fourL s).1 && decide ((fourL s).2.1 = 0))) := rfl
  generalize fourL s = r at *
  obtain ⟨lk, er, n⟩ := r
  rw [fourV_mk] at cf
  simp only at hm
  cases hb : brL s
  all_goals
    rw [hb] at cp hm
    cases hlk : lk
    all_goals
      rw [hlk] at cf hm
      by_cases he : er = 0
      all_goals
        have HM := Lib.hid hm
        clear hm hb hlk
        first
          | subst he
          | (have he1 : ¬ (er : Int) = 0 := by omega
             have he2 : ((er : Int) == 0) = false := by rw [beq_eq_false_iff_ne]; exact he1)
        go_enter Tryz.func14, Tryz.ntmps14
        go_wp2_with fail
        go_at_call 26
        refine (cf _ (by assumption)).mono ?_
        rintro e w1 ⟨rfl, hb1⟩
        have hb2 : ∀ o cs, Below w.heap.size w ((w1.alloc o).setRow w1.heap.size cs) := fun o cs => below_row (hb1.alloc hb1.size o) hb1.size cs
        go_wp2_with (first | (go_at_call 30; refine (cp _ (hb2 _ _)).mono ?_; rintro e w2 ⟨rfl, hb3⟩) | (refine wpList_store_row (o := ⟨none, .store 47 (.tmp 3) (.tmp 9), _, _, _, _⟩) rfl 47 (.tmp 3) _ rfl w1.heap.size _ rfl rfl 47 zeroA (heap_alloc_new w1 _) (by kernel_rfl) rfl (by simp [Value.oneCell']) ?_))
        go_ret
        exact ⟨ret_bool (by rw [HM.out]; simp [*]), by assumption⟩
end Go.Proofs.YtijobaecakhnjaaGreatDoor
