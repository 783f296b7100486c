/- The walks of a Book's methods over lists that it has none of (written by mkbook.py). -/
import Derived.Test.YtijobaecakhnjaaGreatDoorBlk
set_option linter.unusedVariables false
set_option linter.unusedSimpArgs false
namespace Go.Proofs.YtijobaecakhnjaaGreatDoor
open Go.RowKit

theorem fill_Byte (gk : Nat) (w : World) (cs : Array Value) (h : Blk w gk 36 cs) (hc : cs[1]? = some nilS) :
    Calls Tryz.prog 33 #[.pointer (some ⟨gk, 0, none⟩)] w fun e w' => e = .returned (.tuple #[]) ∧ w = w' := by
  have c := (h.cell 1).trans hc
  clear h hc
  go_enter Tryz.func33, Tryz.ntmps33
  go_wp2_with fail
  go_loop [2] (fun i => i = .int .i64 0) (fun _ => 0)
  case atStart => rfl
  case round =>
    obtain rfl := hrel
    go_wp2_with fail
    go_end0
    exact ⟨rfl, rfl⟩
theorem grow_Byte (gk : Nat) (w : World) (cs : Array Value) (h : Blk w gk 36 cs) (hc : cs[1]? = some nilS) :
    Calls Tryz.prog 41 #[.pointer (some ⟨gk, 0, none⟩)] w fun e w' => e = .returned (.tuple #[]) ∧ w = w' := by
  have c := (h.cell 1).trans hc
  clear h hc
  go_enter Tryz.func41, Tryz.ntmps41
  go_wp2_with fail
  go_loop [2] (fun i => i = .int .i64 0) (fun _ => 0)
  case atStart => rfl
  case round =>
    obtain rfl := hrel
    go_wp2_with fail
    go_end0
    exact ⟨rfl, rfl⟩
theorem look_Byte (gk : Nat) (w : World) (cs : Array Value) (h : Blk w gk 36 cs) (hc : cs[1]? = some nilS) :
    Calls Tryz.prog 49 #[.pointer (some ⟨gk, 0, none⟩)] w fun e w' => e = .returned (.bool true) ∧ w = w' := by
  have c := (h.cell 1).trans hc
  clear h hc
  go_enter Tryz.func49, Tryz.ntmps49
  go_wp2_with fail
  go_loop [3] (fun i => i = .int .i64 0) (fun _ => 0)
  case atStart => rfl
  case round =>
    obtain rfl := hrel
    go_wp2_with fail
    go_ret
    exact ⟨rfl, rfl⟩
theorem fill_Int (gk : Nat) (w : World) (cs : Array Value) (h : Blk w gk 36 cs) (hc : cs[2]? = some nilS) :
    Calls Tryz.prog 34 #[.pointer (some ⟨gk, 0, none⟩)] w fun e w' => e = .returned (.tuple #[]) ∧ w = w' := by
  have c := (h.cell 2).trans hc
  clear h hc
  go_enter Tryz.func34, Tryz.ntmps34
  go_wp2_with fail
  go_loop [2] (fun i => i = .int .i64 0) (fun _ => 0)
  case atStart => rfl
  case round =>
    obtain rfl := hrel
    go_wp2_with fail
    go_end0
    exact ⟨rfl, rfl⟩
theorem grow_Int (gk : Nat) (w : World) (cs : Array Value) (h : Blk w gk 36 cs) (hc : cs[2]? = some nilS) :
    Calls Tryz.prog 42 #[.pointer (some ⟨gk, 0, none⟩)] w fun e w' => e = .returned (.tuple #[]) ∧ w = w' := by
  have c := (h.cell 2).trans hc
  clear h hc
  go_enter Tryz.func42, Tryz.ntmps42
  go_wp2_with fail
  go_loop [2] (fun i => i = .int .i64 0) (fun _ => 0)
  case atStart => rfl
  case round =>
    obtain rfl := hrel
    go_wp2_with fail
    go_end0
    exact ⟨rfl, rfl⟩
theorem look_Int (gk : Nat) (w : World) (cs : Array Value) (h : Blk w gk 36 cs) (hc : cs[2]? = some nilS) :
    Calls Tryz.prog 50 #[.pointer (some ⟨gk, 0, none⟩)] w fun e w' => e = .returned (.bool true) ∧ w = w' := by
  have c := (h.cell 2).trans hc
  clear h hc
  go_enter Tryz.func50, Tryz.ntmps50
  go_wp2_with fail
  go_loop [3] (fun i => i = .int .i64 0) (fun _ => 0)
  case atStart => rfl
  case round =>
    obtain rfl := hrel
    go_wp2_with fail
    go_ret
    exact ⟨rfl, rfl⟩
theorem fill_Field (gk : Nat) (w : World) (cs : Array Value) (h : Blk w gk 36 cs) (hc : cs[4]? = some nilS) :
    Calls Tryz.prog 36 #[.pointer (some ⟨gk, 0, none⟩)] w fun e w' => e = .returned (.tuple #[]) ∧ w = w' := by
  have c := (h.cell 4).trans hc
  clear h hc
  go_enter Tryz.func36, Tryz.ntmps36
  go_wp2_with fail
  go_loop [2] (fun i => i = .int .i64 0) (fun _ => 0)
  case atStart => rfl
  case round =>
    obtain rfl := hrel
    go_wp2_with fail
    go_end0
    exact ⟨rfl, rfl⟩
theorem grow_Field (gk : Nat) (w : World) (cs : Array Value) (h : Blk w gk 36 cs) (hc : cs[4]? = some nilS) :
    Calls Tryz.prog 44 #[.pointer (some ⟨gk, 0, none⟩)] w fun e w' => e = .returned (.tuple #[]) ∧ w = w' := by
  have c := (h.cell 4).trans hc
  clear h hc
  go_enter Tryz.func44, Tryz.ntmps44
  go_wp2_with fail
  go_loop [2] (fun i => i = .int .i64 0) (fun _ => 0)
  case atStart => rfl
  case round =>
    obtain rfl := hrel
    go_wp2_with fail
    go_end0
    exact ⟨rfl, rfl⟩
theorem look_Field (gk : Nat) (w : World) (cs : Array Value) (h : Blk w gk 36 cs) (hc : cs[4]? = some nilS) :
    Calls Tryz.prog 52 #[.pointer (some ⟨gk, 0, none⟩)] w fun e w' => e = .returned (.bool true) ∧ w = w' := by
  have c := (h.cell 4).trans hc
  clear h hc
  go_enter Tryz.func52, Tryz.ntmps52
  go_wp2_with fail
  go_loop [3] (fun i => i = .int .i64 0) (fun _ => 0)
  case atStart => rfl
  case round =>
    obtain rfl := hrel
    go_wp2_with fail
    go_ret
    exact ⟨rfl, rfl⟩
theorem fill_Cookie (gk : Nat) (w : World) (cs : Array Value) (h : Blk w gk 36 cs) (hc : cs[5]? = some nilS) :
    Calls Tryz.prog 37 #[.pointer (some ⟨gk, 0, none⟩)] w fun e w' => e = .returned (.tuple #[]) ∧ w = w' := by
  have c := (h.cell 5).trans hc
  clear h hc
  go_enter Tryz.func37, Tryz.ntmps37
  go_wp2_with fail
  go_loop [2] (fun i => i = .int .i64 0) (fun _ => 0)
  case atStart => rfl
  case round =>
    obtain rfl := hrel
    go_wp2_with fail
    go_end0
    exact ⟨rfl, rfl⟩
theorem grow_Cookie (gk : Nat) (w : World) (cs : Array Value) (h : Blk w gk 36 cs) (hc : cs[5]? = some nilS) :
    Calls Tryz.prog 45 #[.pointer (some ⟨gk, 0, none⟩)] w fun e w' => e = .returned (.tuple #[]) ∧ w = w' := by
  have c := (h.cell 5).trans hc
  clear h hc
  go_enter Tryz.func45, Tryz.ntmps45
  go_wp2_with fail
  go_loop [2] (fun i => i = .int .i64 0) (fun _ => 0)
  case atStart => rfl
  case round =>
    obtain rfl := hrel
    go_wp2_with fail
    go_end0
    exact ⟨rfl, rfl⟩
theorem look_Cookie (gk : Nat) (w : World) (cs : Array Value) (h : Blk w gk 36 cs) (hc : cs[5]? = some nilS) :
    Calls Tryz.prog 53 #[.pointer (some ⟨gk, 0, none⟩)] w fun e w' => e = .returned (.bool true) ∧ w = w' := by
  have c := (h.cell 5).trans hc
  clear h hc
  go_enter Tryz.func53, Tryz.ntmps53
  go_wp2_with fail
  go_loop [3] (fun i => i = .int .i64 0) (fun _ => 0)
  case atStart => rfl
  case round =>
    obtain rfl := hrel
    go_wp2_with fail
    go_ret
    exact ⟨rfl, rfl⟩
theorem fill_Sealed (gk : Nat) (w : World) (cs : Array Value) (h : Blk w gk 36 cs) (hc : cs[6]? = some nilS) :
    Calls Tryz.prog 38 #[.pointer (some ⟨gk, 0, none⟩)] w fun e w' => e = .returned (.tuple #[]) ∧ w = w' := by
  have c := (h.cell 6).trans hc
  clear h hc
  go_enter Tryz.func38, Tryz.ntmps38
  go_wp2_with fail
  go_loop [2] (fun i => i = .int .i64 0) (fun _ => 0)
  case atStart => rfl
  case round =>
    obtain rfl := hrel
    go_wp2_with fail
    go_end0
    exact ⟨rfl, rfl⟩
theorem grow_Sealed (gk : Nat) (w : World) (cs : Array Value) (h : Blk w gk 36 cs) (hc : cs[6]? = some nilS) :
    Calls Tryz.prog 46 #[.pointer (some ⟨gk, 0, none⟩)] w fun e w' => e = .returned (.tuple #[]) ∧ w = w' := by
  have c := (h.cell 6).trans hc
  clear h hc
  go_enter Tryz.func46, Tryz.ntmps46
  go_wp2_with fail
  go_loop [2] (fun i => i = .int .i64 0) (fun _ => 0)
  case atStart => rfl
  case round =>
    obtain rfl := hrel
    go_wp2_with fail
    go_end0
    exact ⟨rfl, rfl⟩
theorem look_Sealed (gk : Nat) (w : World) (cs : Array Value) (h : Blk w gk 36 cs) (hc : cs[6]? = some nilS) :
    Calls Tryz.prog 54 #[.pointer (some ⟨gk, 0, none⟩)] w fun e w' => e = .returned (.bool true) ∧ w = w' := by
  have c := (h.cell 6).trans hc
  clear h hc
  go_enter Tryz.func54, Tryz.ntmps54
  go_wp2_with fail
  go_loop [3] (fun i => i = .int .i64 0) (fun _ => 0)
  case atStart => rfl
  case round =>
    obtain rfl := hrel
    go_wp2_with fail
    go_ret
    exact ⟨rfl, rfl⟩
theorem fill_Change (gk : Nat) (w : World) (cs : Array Value) (h : Blk w gk 36 cs) (hc : cs[7]? = some nilS) :
    Calls Tryz.prog 39 #[.pointer (some ⟨gk, 0, none⟩)] w fun e w' => e = .returned (.tuple #[]) ∧ w = w' := by
  have c := (h.cell 7).trans hc
  clear h hc
  go_enter Tryz.func39, Tryz.ntmps39
  go_wp2_with fail
  go_loop [2] (fun i => i = .int .i64 0) (fun _ => 0)
  case atStart => rfl
  case round =>
    obtain rfl := hrel
    go_wp2_with fail
    go_end0
    exact ⟨rfl, rfl⟩
theorem grow_Change (gk : Nat) (w : World) (cs : Array Value) (h : Blk w gk 36 cs) (hc : cs[7]? = some nilS) :
    Calls Tryz.prog 47 #[.pointer (some ⟨gk, 0, none⟩)] w fun e w' => e = .returned (.tuple #[]) ∧ w = w' := by
  have c := (h.cell 7).trans hc
  clear h hc
  go_enter Tryz.func47, Tryz.ntmps47
  go_wp2_with fail
  go_loop [2] (fun i => i = .int .i64 0) (fun _ => 0)
  case atStart => rfl
  case round =>
    obtain rfl := hrel
    go_wp2_with fail
    go_end0
    exact ⟨rfl, rfl⟩
theorem look_Change (gk : Nat) (w : World) (cs : Array Value) (h : Blk w gk 36 cs) (hc : cs[7]? = some nilS) :
    Calls Tryz.prog 55 #[.pointer (some ⟨gk, 0, none⟩)] w fun e w' => e = .returned (.bool true) ∧ w = w' := by
  have c := (h.cell 7).trans hc
  clear h hc
  go_enter Tryz.func55, Tryz.ntmps55
  go_wp2_with fail
  go_loop [3] (fun i => i = .int .i64 0) (fun _ => 0)
  case atStart => rfl
  case round =>
    obtain rfl := hrel
    go_wp2_with fail
    go_ret
    exact ⟨rfl, rfl⟩
theorem fill_Message (gk : Nat) (w : World) (cs : Array Value) (h : Blk w gk 36 cs) (hc : cs[8]? = some nilS) :
    Calls Tryz.prog 40 #[.pointer (some ⟨gk, 0, none⟩)] w fun e w' => e = .returned (.tuple #[]) ∧ w = w' := by
  have c := (h.cell 8).trans hc
  clear h hc
  go_enter Tryz.func40, Tryz.ntmps40
  go_wp2_with fail
  go_loop [2] (fun i => i = .int .i64 0) (fun _ => 0)
  case atStart => rfl
  case round =>
    obtain rfl := hrel
    go_wp2_with fail
    go_end0
    exact ⟨rfl, rfl⟩
theorem grow_Message (gk : Nat) (w : World) (cs : Array Value) (h : Blk w gk 36 cs) (hc : cs[8]? = some nilS) :
    Calls Tryz.prog 48 #[.pointer (some ⟨gk, 0, none⟩)] w fun e w' => e = .returned (.tuple #[]) ∧ w = w' := by
  have c := (h.cell 8).trans hc
  clear h hc
  go_enter Tryz.func48, Tryz.ntmps48
  go_wp2_with fail
  go_loop [2] (fun i => i = .int .i64 0) (fun _ => 0)
  case atStart => rfl
  case round =>
    obtain rfl := hrel
    go_wp2_with fail
    go_end0
    exact ⟨rfl, rfl⟩
theorem look_Message (gk : Nat) (w : World) (cs : Array Value) (h : Blk w gk 36 cs) (hc : cs[8]? = some nilS) :
    Calls Tryz.prog 56 #[.pointer (some ⟨gk, 0, none⟩)] w fun e w' => e = .returned (.bool true) ∧ w = w' := by
  have c := (h.cell 8).trans hc
  clear h hc
  go_enter Tryz.func56, Tryz.ntmps56
  go_wp2_with fail
  go_loop [3] (fun i => i = .int .i64 0) (fun _ => 0)
  case atStart => rfl
  case round =>
    obtain rfl := hrel
    go_wp2_with fail
    go_ret
    exact ⟨rfl, rfl⟩
end Go.Proofs.YtijobaecakhnjaaGreatDoor
