/-
  DERIVED. GIVEN WITH THE SEED: THE CARDS: each row of YtpkoodnbkffpoaaGreatDoorRows.lean that lists a variable, with what it lists TIED to the program's text (the seventh form; the later family's looks); each row that meets fmt, with fmt's text TOLD by the authors' own Lean function (tested against real Go, not proved from fmt's source: count such statements apart). THE CARD IS WHAT COUNTS. Prove the row's statement (the work); the ties are given (YtpkoodnbkffpoaaGreatDoorTie.lean); close each card by the builder's one call (the guide's Derived/Test/ToyasCard.lean, 'card_holds'). Laid BY PROGRAM, IN A SANDBOX (cutbox-door.mjs). By AI agents, Wed Nov 11 2026. No macro, syntax, notation, axiom, sorry.
-/
import Derived.Test.YtpkoodnbkffpoaaGreatDoorRows
import GoSem.ClaimSeven
namespace Go.Proofs.YtpkoodnbkffpoaaGreatDoor
namespace Rows

/-- THE TIED CARD OF 'footmanlaw19.ConnsBound'. -/
def connsBoundCard : Claim7 := { stood := { row := connsBoundRow, standIns := [], harness := (true, "ae85b91320dab508078222bf72c37a34fc0add0e8ff01d552917642846139e13"), looks := true }, kinds := [], alts := [], laidByText := true, laidKinds := [.data, .data, .data, .data, .sentinel, .sentinel, .pinned], laidTests := true, laidLooks := .later }
def ConnsBoundCardSaid : Prop := Claim7.holds Tryz.pinned (.plain (OpenSpec.ofChange connsBoundSpec)) connsBoundCard

/-- THE TIED CARD OF 'footmanlaw19.ConnsOld'. -/
def connsOldCard : Claim7 := { stood := { row := connsOldRow, standIns := [], harness := (true, "ae85b91320dab508078222bf72c37a34fc0add0e8ff01d552917642846139e13"), looks := true }, kinds := [], alts := [], laidByText := true, laidKinds := [.data, .data, .data, .data, .sentinel, .sentinel, .pinned], laidTests := true, laidLooks := .later }
def ConnsOldCardSaid : Prop := Claim7.holds Tryz.pinned (.plain (OpenSpec.ofChange connsOldSpec)) connsOldCard

/-- THE TIED CARD OF 'footmanlaw16.UpgradeHolds'. -/
def upgradeHoldsCard : Claim7 := { stood := { row := upgradeHoldsRow, standIns := [], harness := (true, "ae85b91320dab508078222bf72c37a34fc0add0e8ff01d552917642846139e13"), looks := true }, kinds := [], alts := [], laidByText := true, laidKinds := [.data, .data, .data, .data, .sentinel, .sentinel, .pinned], laidTests := true, laidLooks := .later }
def UpgradeHoldsCardSaid : Prop := Claim7.holds Tryz.pinned (.plain (OpenSpec.ofChange upgradeHoldsSpec)) upgradeHoldsCard

/-- THE TIED CARD OF 'footmanlaw16.UpgradeOpens'. -/
def upgradeOpensCard : Claim7 := { stood := { row := upgradeOpensRow, standIns := [], harness := (true, "ae85b91320dab508078222bf72c37a34fc0add0e8ff01d552917642846139e13"), looks := true }, kinds := [], alts := [], laidByText := true, laidKinds := [.data, .data, .data, .data, .sentinel, .sentinel, .pinned], laidTests := true, laidLooks := .later }
def UpgradeOpensCardSaid : Prop := Claim7.holds Tryz.pinned (.plain (OpenSpec.ofChange upgradeOpensSpec)) upgradeOpensCard

/-- THE SECOND FORM's CARD OF 'footmanlaw19.ConnsBound'. -/
def connsBoundUptoCard : Claim7 := { stood := { row := connsBoundUptoRow, standIns := [], harness := (true, "ae85b91320dab508078222bf72c37a34fc0add0e8ff01d552917642846139e13"), looks := true }, kinds := [], alts := [], laidByText := true, laidKinds := [.data, .data, .data, .data, .sentinel, .sentinel, .pinned], laidTests := true, laidLooks := .later }
def ConnsBoundUptoCardSaid : Prop := Claim7.holds Tryz.pinned (.plain (OpenSpec.upto connsBoundSpec)) connsBoundUptoCard

/-- THE SECOND FORM's CARD OF 'footmanlaw19.ConnsOld'. -/
def connsOldUptoCard : Claim7 := { stood := { row := connsOldUptoRow, standIns := [], harness := (true, "ae85b91320dab508078222bf72c37a34fc0add0e8ff01d552917642846139e13"), looks := true }, kinds := [], alts := [], laidByText := true, laidKinds := [.data, .data, .data, .data, .sentinel, .sentinel, .pinned], laidTests := true, laidLooks := .later }
def ConnsOldUptoCardSaid : Prop := Claim7.holds Tryz.pinned (.plain (OpenSpec.upto connsOldSpec)) connsOldUptoCard

/-- THE SECOND FORM's CARD OF 'footmanlaw16.UpgradeHolds'. -/
def upgradeHoldsUptoCard : Claim7 := { stood := { row := upgradeHoldsUptoRow, standIns := [], harness := (true, "ae85b91320dab508078222bf72c37a34fc0add0e8ff01d552917642846139e13"), looks := true }, kinds := [], alts := [], laidByText := true, laidKinds := [.data, .data, .data, .data, .sentinel, .sentinel, .pinned], laidTests := true, laidLooks := .later }
def UpgradeHoldsUptoCardSaid : Prop := Claim7.holds Tryz.pinned (.plain (OpenSpec.upto upgradeHoldsSpec)) upgradeHoldsUptoCard

/-- THE SECOND FORM's CARD OF 'footmanlaw16.UpgradeOpens'. -/
def upgradeOpensUptoCard : Claim7 := { stood := { row := upgradeOpensUptoRow, standIns := [], harness := (true, "ae85b91320dab508078222bf72c37a34fc0add0e8ff01d552917642846139e13"), looks := true }, kinds := [], alts := [], laidByText := true, laidKinds := [.data, .data, .data, .data, .sentinel, .sentinel, .pinned], laidTests := true, laidLooks := .later }
def UpgradeOpensUptoCardSaid : Prop := Claim7.holds Tryz.pinned (.plain (OpenSpec.upto upgradeOpensSpec)) upgradeOpensUptoCard
end Rows
end Go.Proofs.YtpkoodnbkffpoaaGreatDoor
