/-
  DERIVED. GIVEN WITH THE SEED: THE CARDS: each row of YtjkipdoebkhkaaaGreatDoorRows.lean that lists a variable, with what it lists TIED to the program's text (the seventh form; the later family's looks); each row that meets fmt, with fmt's text TOLD by the authors' own Lean function (tested against real Go, not proved from fmt's source: count such statements apart). THE CARD IS WHAT COUNTS. Prove the row's statement (the work); the ties are given (YtjkipdoebkhkaaaGreatDoorTie.lean); close each card by the builder's one call (the guide's Derived/Test/ToyasCard.lean, 'card_holds'). Laid BY PROGRAM, IN A SANDBOX (cutbox-door.mjs). By AI agents, Wed Nov 11 2026. No macro, syntax, notation, axiom, sorry.
-/
import Derived.Test.YtjkipdoebkhkaaaGreatDoorRows
import GoSem.ClaimSeven
namespace Go.Proofs.YtjkipdoebkhkaaaGreatDoor
namespace Rows

/-- THE TIED CARD OF 'footmanlaw16.UpgradeHolds'. -/
def upgradeHoldsCard : Claim7 := { stood := { row := upgradeHoldsRow, standIns := [], harness := (true, "e3914016961c6e5f177099fd45684bde33654939a3a7b98f86475ff2618558d5"), looks := true }, kinds := [], alts := [], laidByText := true, laidKinds := [.data, .data, .data, .data, .sentinel, .sentinel, .pinned], laidTests := true, laidLooks := .later }
def UpgradeHoldsCardSaid : Prop := Claim7.holds Tryz.pinned (.plain (OpenSpec.ofChange upgradeHoldsSpec)) upgradeHoldsCard

/-- THE TIED CARD OF 'footmanlaw16.UpgradeOpens'. -/
def upgradeOpensCard : Claim7 := { stood := { row := upgradeOpensRow, standIns := [], harness := (true, "e3914016961c6e5f177099fd45684bde33654939a3a7b98f86475ff2618558d5"), looks := true }, kinds := [], alts := [], laidByText := true, laidKinds := [.data, .data, .data, .data, .sentinel, .sentinel, .pinned], laidTests := true, laidLooks := .later }
def UpgradeOpensCardSaid : Prop := Claim7.holds Tryz.pinned (.plain (OpenSpec.ofChange upgradeOpensSpec)) upgradeOpensCard

/-- THE TIED CARD OF 'footmanlaw15.JarBounds'. -/
def jarBoundsCard : Claim7 := { stood := { row := jarBoundsRow, standIns := [], harness := (true, "e3914016961c6e5f177099fd45684bde33654939a3a7b98f86475ff2618558d5"), looks := true }, kinds := [], alts := [], laidByText := true, laidKinds := [.data, .data, .data, .data, .sentinel, .sentinel, .pinned], laidTests := true, laidLooks := .later }
def JarBoundsCardSaid : Prop := Claim7.holds Tryz.pinned (.plain (OpenSpec.ofChange jarBoundsSpec)) jarBoundsCard

/-- THE TIED CARD OF 'footmanlaw15.JarTwice'. -/
def jarTwiceCard : Claim7 := { stood := { row := jarTwiceRow, standIns := [], harness := (true, "e3914016961c6e5f177099fd45684bde33654939a3a7b98f86475ff2618558d5"), looks := true }, kinds := [], alts := [], laidByText := true, laidKinds := [.data, .data, .data, .data, .sentinel, .sentinel, .pinned], laidTests := true, laidLooks := .later }
def JarTwiceCardSaid : Prop := Claim7.holds Tryz.pinned (.plain (OpenSpec.ofChange jarTwiceSpec)) jarTwiceCard

/-- THE TIED CARD OF 'footmanlaw15.JarOver'. -/
def jarOverCard : Claim7 := { stood := { row := jarOverRow, standIns := [], harness := (true, "e3914016961c6e5f177099fd45684bde33654939a3a7b98f86475ff2618558d5"), looks := true }, kinds := [], alts := [], laidByText := true, laidKinds := [.data, .data, .data, .data, .sentinel, .sentinel, .pinned], laidTests := true, laidLooks := .later }
def JarOverCardSaid : Prop := Claim7.holds Tryz.pinned (.plain (OpenSpec.ofChange jarOverSpec)) jarOverCard

/-- THE SECOND FORM's CARD OF 'footmanlaw16.UpgradeHolds'. -/
def upgradeHoldsUptoCard : Claim7 := { stood := { row := upgradeHoldsUptoRow, standIns := [], harness := (true, "e3914016961c6e5f177099fd45684bde33654939a3a7b98f86475ff2618558d5"), looks := true }, kinds := [], alts := [], laidByText := true, laidKinds := [.data, .data, .data, .data, .sentinel, .sentinel, .pinned], laidTests := true, laidLooks := .later }
def UpgradeHoldsUptoCardSaid : Prop := Claim7.holds Tryz.pinned (.plain (OpenSpec.upto upgradeHoldsSpec)) upgradeHoldsUptoCard

/-- THE SECOND FORM's CARD OF 'footmanlaw16.UpgradeOpens'. -/
def upgradeOpensUptoCard : Claim7 := { stood := { row := upgradeOpensUptoRow, standIns := [], harness := (true, "e3914016961c6e5f177099fd45684bde33654939a3a7b98f86475ff2618558d5"), looks := true }, kinds := [], alts := [], laidByText := true, laidKinds := [.data, .data, .data, .data, .sentinel, .sentinel, .pinned], laidTests := true, laidLooks := .later }
def UpgradeOpensUptoCardSaid : Prop := Claim7.holds Tryz.pinned (.plain (OpenSpec.upto upgradeOpensSpec)) upgradeOpensUptoCard

/-- THE SECOND FORM's CARD OF 'footmanlaw15.JarBounds'. -/
def jarBoundsUptoCard : Claim7 := { stood := { row := jarBoundsUptoRow, standIns := [], harness := (true, "e3914016961c6e5f177099fd45684bde33654939a3a7b98f86475ff2618558d5"), looks := true }, kinds := [], alts := [], laidByText := true, laidKinds := [.data, .data, .data, .data, .sentinel, .sentinel, .pinned], laidTests := true, laidLooks := .later }
def JarBoundsUptoCardSaid : Prop := Claim7.holds Tryz.pinned (.plain (OpenSpec.upto jarBoundsSpec)) jarBoundsUptoCard

/-- THE SECOND FORM's CARD OF 'footmanlaw15.JarTwice'. -/
def jarTwiceUptoCard : Claim7 := { stood := { row := jarTwiceUptoRow, standIns := [], harness := (true, "e3914016961c6e5f177099fd45684bde33654939a3a7b98f86475ff2618558d5"), looks := true }, kinds := [], alts := [], laidByText := true, laidKinds := [.data, .data, .data, .data, .sentinel, .sentinel, .pinned], laidTests := true, laidLooks := .later }
def JarTwiceUptoCardSaid : Prop := Claim7.holds Tryz.pinned (.plain (OpenSpec.upto jarTwiceSpec)) jarTwiceUptoCard

/-- THE SECOND FORM's CARD OF 'footmanlaw15.JarOver'. -/
def jarOverUptoCard : Claim7 := { stood := { row := jarOverUptoRow, standIns := [], harness := (true, "e3914016961c6e5f177099fd45684bde33654939a3a7b98f86475ff2618558d5"), looks := true }, kinds := [], alts := [], laidByText := true, laidKinds := [.data, .data, .data, .data, .sentinel, .sentinel, .pinned], laidTests := true, laidLooks := .later }
def JarOverUptoCardSaid : Prop := Claim7.holds Tryz.pinned (.plain (OpenSpec.upto jarOverSpec)) jarOverUptoCard
end Rows
end Go.Proofs.YtjkipdoebkhkaaaGreatDoor
