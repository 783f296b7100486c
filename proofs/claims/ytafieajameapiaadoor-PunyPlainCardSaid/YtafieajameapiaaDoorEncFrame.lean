/- The frames of puny.Encode's two loops, written out by program. -/
import Derived.Test.YtafieajameapiaaDoorEncMem
set_option linter.unusedVariables false
set_option linter.unusedSimpArgs false
namespace Go.Proofs.YtafieajameapiaaDoor
open Go.RowKit

theorem lit101 (A : Array Value) (h : A.size = 101) : A = [A.getD 0 undef, A.getD 1 undef, A.getD 2 undef, A.getD 3 undef, A.getD 4 undef, A.getD 5 undef, A.getD 6 undef, A.getD 7 undef, A.getD 8 undef, A.getD 9 undef, A.getD 10 undef, A.getD 11 undef, A.getD 12 undef, A.getD 13 undef, A.getD 14 undef, A.getD 15 undef, A.getD 16 undef, A.getD 17 undef, A.getD 18 undef, A.getD 19 undef, A.getD 20 undef, A.getD 21 undef, A.getD 22 undef, A.getD 23 undef, A.getD 24 undef, A.getD 25 undef, A.getD 26 undef, A.getD 27 undef, A.getD 28 undef, A.getD 29 undef, A.getD 30 undef, A.getD 31 undef, A.getD 32 undef, A.getD 33 undef, A.getD 34 undef, A.getD 35 undef, A.getD 36 undef, A.getD 37 undef, A.getD 38 undef, A.getD 39 undef, A.getD 40 undef, A.getD 41 undef, A.getD 42 undef, A.getD 43 undef, A.getD 44 undef, A.getD 45 undef, A.getD 46 undef, A.getD 47 undef, A.getD 48 undef, A.getD 49 undef, A.getD 50 undef, A.getD 51 undef, A.getD 52 undef, A.getD 53 undef, A.getD 54 undef, A.getD 55 undef, A.getD 56 undef, A.getD 57 undef, A.getD 58 undef, A.getD 59 undef, A.getD 60 undef, A.getD 61 undef, A.getD 62 undef, A.getD 63 undef, A.getD 64 undef, A.getD 65 undef, A.getD 66 undef, A.getD 67 undef, A.getD 68 undef, A.getD 69 undef, A.getD 70 undef, A.getD 71 undef, A.getD 72 undef, A.getD 73 undef, A.getD 74 undef, A.getD 75 undef, A.getD 76 undef, A.getD 77 undef, A.getD 78 undef, A.getD 79 undef, A.getD 80 undef, A.getD 81 undef, A.getD 82 undef, A.getD 83 undef, A.getD 84 undef, A.getD 85 undef, A.getD 86 undef, A.getD 87 undef, A.getD 88 undef, A.getD 89 undef, A.getD 90 undef, A.getD 91 undef, A.getD 92 undef, A.getD 93 undef, A.getD 94 undef, A.getD 95 undef, A.getD 96 undef, A.getD 97 undef, A.getD 98 undef, A.getD 99 undef, A.getD 100 undef].toArray := by
  obtain ⟨l⟩ := A
  have h' : l.length = 101 := h
  have e : l = (List.range 101).map (fun i => (Array.mk l).getD i undef) := by
    apply List.ext_getElem
    · simp [h']
    · intro i h1 h2
      simp [Array.getD, h1]
  exact congrArg Array.mk e

structure OuterI (s : List UInt8) (R : List Nat) (w1 : World) (ad : Option Addr) (cp : Nat) (row : Option (Nat × Array Value)) (gk : Nat) (a : Act) (wx : World) : Prop where
  size : a.tmps.size = 101
  h0 : a.tmps.getD 0 undef = .string ⟨s.toArray⟩
  h4 : a.tmps.getD 4 undef = .pointer (some ⟨w1.heap.size, 0, none⟩)
  h8 : a.tmps.getD 8 undef = .int .i64 ((plainB R).length : Int)
  h49 : a.tmps.getD 49 undef = .slice ad (msI R).length cp
  h50 : a.tmps.getD 50 undef = .int .i64 ((msN R).length : Int)
  rel : ∃ (mpre mrest : List Nat) (x : Nat × ES), (Hid (msN R = mpre ++ mrest) ∧ Hid (runS R (plainB R).length mpre (start R) = x) ∧ OutOk R (plainB R).length x mrest ∧ gk = mrest.length ∧ Mem w1.heap.size w1 row a.defers x.2.out wx) ∧ a.tmps.getD 9 undef = .int .i64 (x.2.b : Int) ∧ a.tmps.getD 10 undef = .int .i64 (x.2.n : Int) ∧ a.tmps.getD 11 undef = .int .i64 (x.2.many : Int) ∧ a.tmps.getD 12 undef = .int .i64 (x.1 : Int) ∧ a.tmps.getD 51 undef = .int .i64 (mpre.length : Int)
theorem OuterI.opened (s : List UInt8) (R : List Nat) (w1 : World) (ad : Option Addr) (cp : Nat) (row : Option (Nat × Array Value)) {gk : Nat} {a : Act} {wx : World} (h : OuterI s R w1 ad cp row gk a wx) : ∃ (u : Nat → Value) (ds : List Deferred) (mpre mrest : List Nat) (x : Nat × ES), (Hid (msN R = mpre ++ mrest) ∧ Hid (runS R (plainB R).length mpre (start R) = x) ∧ OutOk R (plainB R).length x mrest ∧ gk = mrest.length ∧ Mem w1.heap.size w1 row ds x.2.out wx) ∧ a = { tmps := [.string ⟨s.toArray⟩, u 1, u 2, u 3, .pointer (some ⟨w1.heap.size, 0, none⟩), u 5, u 6, u 7, .int .i64 ((plainB R).length : Int), .int .i64 (x.2.b : Int), .int .i64 (x.2.n : Int), .int .i64 (x.2.many : Int), .int .i64 (x.1 : Int), u 13, u 14, u 15, u 16, u 17, u 18, u 19, u 20, u 21, u 22, u 23, u 24, u 25, u 26, u 27, u 28, u 29, u 30, u 31, u 32, u 33, u 34, u 35, u 36, u 37, u 38, u 39, u 40, u 41, u 42, u 43, u 44, u 45, u 46, u 47, u 48, .slice ad (msI R).length cp, .int .i64 ((msN R).length : Int), .int .i64 (mpre.length : Int), u 52, u 53, u 54, u 55, u 56, u 57, u 58, u 59, u 60, u 61, u 62, u 63, u 64, u 65, u 66, u 67, u 68, u 69, u 70, u 71, u 72, u 73, u 74, u 75, u 76, u 77, u 78, u 79, u 80, u 81, u 82, u 83, u 84, u 85, u 86, u 87, u 88, u 89, u 90, u 91, u 92, u 93, u 94, u 95, u 96, u 97, u 98, u 99, u 100].toArray, defers := ds } := by
  obtain ⟨mpre, mrest, x, hrel, v9, v10, v11, v12, v51⟩ := h.rel
  refine ⟨fun i => a.tmps.getD i undef, a.defers, mpre, mrest, x, hrel, ?_⟩
  have e := lit101 a.tmps h.size
  rw [h.h0, h.h4, h.h8, h.h49, h.h50, v9, v10, v11, v12, v51] at e
  obtain ⟨t, d⟩ := a
  exact congrArg (fun t => Act.mk t d) e

structure InnerI (s : List UInt8) (R : List Nat) (w1 : World) (ad : Option Addr) (cp : Nat) (row : Option (Nat × Array Value)) (mpre : List Nat) (x : Nat × ES) (m kk : Nat) (gk : Nat) (a : Act) (wx : World) : Prop where
  size : a.tmps.size = 101
  h0 : a.tmps.getD 0 undef = .string ⟨s.toArray⟩
  h4 : a.tmps.getD 4 undef = .pointer (some ⟨w1.heap.size, 0, none⟩)
  h8 : a.tmps.getD 8 undef = .int .i64 ((plainB R).length : Int)
  h49 : a.tmps.getD 49 undef = .slice ad (msI R).length cp
  h50 : a.tmps.getD 50 undef = .int .i64 ((msN R).length : Int)
  h12 : a.tmps.getD 12 undef = .int .i64 (x.1 : Int)
  h14 : a.tmps.getD 14 undef = .int .i64 (m : Int)
  h51 : a.tmps.getD 51 undef = .int .i64 (mpre.length : Int)
  h64 : a.tmps.getD 64 undef = .pointer (some ⟨kk, 0, none⟩)
  rel : ∃ (pos : Nat) (pre : List Nat) (st : ES), (Thru s pre pos ∧ Hid (passS m (plainB R).length pre ⟨x.2.b, x.2.n + (m - x.1) * (x.2.many + 1), x.2.many, x.2.out⟩ = st) ∧ Mem w1.heap.size w1 row a.defers st.out wx ∧ wx.heap[kk]? = some (.stringIter ⟨s.toArray⟩ pos) ∧ gk = s.length - pos) ∧ a.tmps.getD 9 undef = .int .i64 (st.b : Int) ∧ a.tmps.getD 10 undef = .int .i64 (st.n : Int) ∧ a.tmps.getD 11 undef = .int .i64 (st.many : Int)
theorem InnerI.opened (s : List UInt8) (R : List Nat) (w1 : World) (ad : Option Addr) (cp : Nat) (row : Option (Nat × Array Value)) (mpre : List Nat) (x : Nat × ES) (m kk : Nat) {gk : Nat} {a : Act} {wx : World} (h : InnerI s R w1 ad cp row mpre x m kk gk a wx) : ∃ (u : Nat → Value) (ds : List Deferred) (pos : Nat) (pre : List Nat) (st : ES), (Thru s pre pos ∧ Hid (passS m (plainB R).length pre ⟨x.2.b, x.2.n + (m - x.1) * (x.2.many + 1), x.2.many, x.2.out⟩ = st) ∧ Mem w1.heap.size w1 row ds st.out wx ∧ wx.heap[kk]? = some (.stringIter ⟨s.toArray⟩ pos) ∧ gk = s.length - pos) ∧ a = { tmps := [.string ⟨s.toArray⟩, u 1, u 2, u 3, .pointer (some ⟨w1.heap.size, 0, none⟩), u 5, u 6, u 7, .int .i64 ((plainB R).length : Int), .int .i64 (st.b : Int), .int .i64 (st.n : Int), .int .i64 (st.many : Int), .int .i64 (x.1 : Int), u 13, .int .i64 (m : Int), u 15, u 16, u 17, u 18, u 19, u 20, u 21, u 22, u 23, u 24, u 25, u 26, u 27, u 28, u 29, u 30, u 31, u 32, u 33, u 34, u 35, u 36, u 37, u 38, u 39, u 40, u 41, u 42, u 43, u 44, u 45, u 46, u 47, u 48, .slice ad (msI R).length cp, .int .i64 ((msN R).length : Int), .int .i64 (mpre.length : Int), u 52, u 53, u 54, u 55, u 56, u 57, u 58, u 59, u 60, u 61, u 62, u 63, .pointer (some ⟨kk, 0, none⟩), u 65, u 66, u 67, u 68, u 69, u 70, u 71, u 72, u 73, u 74, u 75, u 76, u 77, u 78, u 79, u 80, u 81, u 82, u 83, u 84, u 85, u 86, u 87, u 88, u 89, u 90, u 91, u 92, u 93, u 94, u 95, u 96, u 97, u 98, u 99, u 100].toArray, defers := ds } := by
  obtain ⟨pos, pre, st, hrel, v9, v10, v11⟩ := h.rel
  refine ⟨fun i => a.tmps.getD i undef, a.defers, pos, pre, st, hrel, ?_⟩
  have e := lit101 a.tmps h.size
  rw [h.h0, h.h4, h.h8, h.h49, h.h50, h.h12, h.h14, h.h51, h.h64, v9, v10, v11] at e
  obtain ⟨t, d⟩ := a
  exact congrArg (fun t => Act.mk t d) e

end Go.Proofs.YtafieajameapiaaDoor
