/-
  DERIVED. GIVEN WITH THE SEED: THE CARDS: each row of YtlhcfmcbpljbiaaGreatDoorRows.lean that lists a variable, with what it lists TIED to the program's text (the seventh form; the later family's looks); each row that meets fmt, with fmt's text TOLD by the authors' own Lean function (tested against real Go, not proved from fmt's source: count such statements apart). THE CARD IS WHAT COUNTS. Prove the row's statement (the work); the ties are given (YtlhcfmcbpljbiaaGreatDoorTie.lean); close each card by the builder's one call (the guide's Derived/Test/ToyasCard.lean, 'card_holds'). Laid BY PROGRAM, IN A SANDBOX (cutbox-door.mjs). By AI agents, Wed Nov 11 2026. No macro, syntax, notation, axiom, sorry.
-/
import Derived.Test.YtlhcfmcbpljbiaaGreatDoorRows
import GoSem.ClaimSeven
namespace Go.Proofs.YtlhcfmcbpljbiaaGreatDoor
namespace Rows

/-- THE TIED CARD OF 'footmanlaw09.SitesSame'. -/
def sitesSameCard : Claim7 := { stood := { row := sitesSameRow, standIns := [], harness := (true, "807f50fa157ac1b8750673cf183bad38f7258e9196ca6901fc642b5a756e78e9"), looks := true }, kinds := [], alts := [], laidByText := true, laidKinds := [.data, .data, .data, .data, .sentinel, .sentinel, .pinned], laidTests := true, laidLooks := .later }
def SitesSameCardSaid : Prop := Claim7.holds Tryz.pinned (.plain (OpenSpec.ofChange sitesSameSpec)) sitesSameCard

/-- THE TIED CARD OF 'footmanlaw14.ContextNear'. -/
def contextNearCard : Claim7 := { stood := { row := contextNearRow, standIns := [], harness := (true, "807f50fa157ac1b8750673cf183bad38f7258e9196ca6901fc642b5a756e78e9"), looks := true }, kinds := [], alts := [], laidByText := true, laidKinds := [.data, .data, .data, .data, .sentinel, .sentinel, .pinned], laidTests := true, laidLooks := .later }
def ContextNearCardSaid : Prop := Claim7.holds Tryz.pinned (.plain (OpenSpec.ofChange contextNearSpec)) contextNearCard

/-- THE TIED CARD OF 'footmanlaw14.ContextMore'. -/
def contextMoreCard : Claim7 := { stood := { row := contextMoreRow, standIns := [], harness := (true, "807f50fa157ac1b8750673cf183bad38f7258e9196ca6901fc642b5a756e78e9"), looks := true }, kinds := [], alts := [], laidByText := true, laidKinds := [.data, .data, .data, .data, .sentinel, .sentinel, .pinned], laidTests := true, laidLooks := .later }
def ContextMoreCardSaid : Prop := Claim7.holds Tryz.pinned (.plain (OpenSpec.ofChange contextMoreSpec)) contextMoreCard

/-- THE TIED CARD OF 'footmanlaw16.UpgradeRaises'. -/
def upgradeRaisesCard : Claim7 := { stood := { row := upgradeRaisesRow, standIns := [], harness := (true, "807f50fa157ac1b8750673cf183bad38f7258e9196ca6901fc642b5a756e78e9"), looks := true }, kinds := [], alts := [], laidByText := true, laidKinds := [.data, .data, .data, .data, .sentinel, .sentinel, .pinned], laidTests := true, laidLooks := .later }
def UpgradeRaisesCardSaid : Prop := Claim7.holds Tryz.pinned (.plain (OpenSpec.ofChange upgradeRaisesSpec)) upgradeRaisesCard

/-- THE TIED CARD OF 'footmanlaw19.ConnsBound'. -/
def connsBoundCard : Claim7 := { stood := { row := connsBoundRow, standIns := [], harness := (true, "807f50fa157ac1b8750673cf183bad38f7258e9196ca6901fc642b5a756e78e9"), looks := true }, kinds := [], alts := [], laidByText := true, laidKinds := [.data, .data, .data, .data, .sentinel, .sentinel, .pinned], laidTests := true, laidLooks := .later }
def ConnsBoundCardSaid : Prop := Claim7.holds Tryz.pinned (.plain (OpenSpec.ofChange connsBoundSpec)) connsBoundCard

/-- THE TIED CARD OF 'footmanlaw19.ConnsOld'. -/
def connsOldCard : Claim7 := { stood := { row := connsOldRow, standIns := [], harness := (true, "807f50fa157ac1b8750673cf183bad38f7258e9196ca6901fc642b5a756e78e9"), looks := true }, kinds := [], alts := [], laidByText := true, laidKinds := [.data, .data, .data, .data, .sentinel, .sentinel, .pinned], laidTests := true, laidLooks := .later }
def ConnsOldCardSaid : Prop := Claim7.holds Tryz.pinned (.plain (OpenSpec.ofChange connsOldSpec)) connsOldCard

/-- THE SECOND FORM's CARD OF 'footmanlaw09.SitesSame'. -/
def sitesSameUptoCard : Claim7 := { stood := { row := sitesSameUptoRow, standIns := [], harness := (true, "807f50fa157ac1b8750673cf183bad38f7258e9196ca6901fc642b5a756e78e9"), looks := true }, kinds := [], alts := [], laidByText := true, laidKinds := [.data, .data, .data, .data, .sentinel, .sentinel, .pinned], laidTests := true, laidLooks := .later }
def SitesSameUptoCardSaid : Prop := Claim7.holds Tryz.pinned (.plain (OpenSpec.upto sitesSameSpec)) sitesSameUptoCard

/-- THE SECOND FORM's CARD OF 'footmanlaw14.ContextNear'. -/
def contextNearUptoCard : Claim7 := { stood := { row := contextNearUptoRow, standIns := [], harness := (true, "807f50fa157ac1b8750673cf183bad38f7258e9196ca6901fc642b5a756e78e9"), looks := true }, kinds := [], alts := [], laidByText := true, laidKinds := [.data, .data, .data, .data, .sentinel, .sentinel, .pinned], laidTests := true, laidLooks := .later }
def ContextNearUptoCardSaid : Prop := Claim7.holds Tryz.pinned (.plain (OpenSpec.upto contextNearSpec)) contextNearUptoCard

/-- THE SECOND FORM's CARD OF 'footmanlaw14.ContextMore'. -/
def contextMoreUptoCard : Claim7 := { stood := { row := contextMoreUptoRow, standIns := [], harness := (true, "807f50fa157ac1b8750673cf183bad38f7258e9196ca6901fc642b5a756e78e9"), looks := true }, kinds := [], alts := [], laidByText := true, laidKinds := [.data, .data, .data, .data, .sentinel, .sentinel, .pinned], laidTests := true, laidLooks := .later }
def ContextMoreUptoCardSaid : Prop := Claim7.holds Tryz.pinned (.plain (OpenSpec.upto contextMoreSpec)) contextMoreUptoCard

/-- THE SECOND FORM's CARD OF 'footmanlaw16.UpgradeRaises'. -/
def upgradeRaisesUptoCard : Claim7 := { stood := { row := upgradeRaisesUptoRow, standIns := [], harness := (true, "807f50fa157ac1b8750673cf183bad38f7258e9196ca6901fc642b5a756e78e9"), looks := true }, kinds := [], alts := [], laidByText := true, laidKinds := [.data, .data, .data, .data, .sentinel, .sentinel, .pinned], laidTests := true, laidLooks := .later }
def UpgradeRaisesUptoCardSaid : Prop := Claim7.holds Tryz.pinned (.plain (OpenSpec.upto upgradeRaisesSpec)) upgradeRaisesUptoCard

/-- THE SECOND FORM's CARD OF 'footmanlaw19.ConnsBound'. -/
def connsBoundUptoCard : Claim7 := { stood := { row := connsBoundUptoRow, standIns := [], harness := (true, "807f50fa157ac1b8750673cf183bad38f7258e9196ca6901fc642b5a756e78e9"), looks := true }, kinds := [], alts := [], laidByText := true, laidKinds := [.data, .data, .data, .data, .sentinel, .sentinel, .pinned], laidTests := true, laidLooks := .later }
def ConnsBoundUptoCardSaid : Prop := Claim7.holds Tryz.pinned (.plain (OpenSpec.upto connsBoundSpec)) connsBoundUptoCard

/-- THE SECOND FORM's CARD OF 'footmanlaw19.ConnsOld'. -/
def connsOldUptoCard : Claim7 := { stood := { row := connsOldUptoRow, standIns := [], harness := (true, "807f50fa157ac1b8750673cf183bad38f7258e9196ca6901fc642b5a756e78e9"), looks := true }, kinds := [], alts := [], laidByText := true, laidKinds := [.data, .data, .data, .data, .sentinel, .sentinel, .pinned], laidTests := true, laidLooks := .later }
def ConnsOldUptoCardSaid : Prop := Claim7.holds Tryz.pinned (.plain (OpenSpec.upto connsOldSpec)) connsOldUptoCard
end Rows
end Go.Proofs.YtlhcfmcbpljbiaaGreatDoor
