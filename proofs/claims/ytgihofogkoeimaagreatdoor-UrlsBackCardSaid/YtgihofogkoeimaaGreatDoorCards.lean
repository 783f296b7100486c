/-
  DERIVED. GIVEN WITH THE SEED: THE CARDS: each row of YtgihofogkoeimaaGreatDoorRows.lean that lists a variable, with what it lists TIED to the program's text (the seventh form; the later family's looks); each row that meets fmt, with fmt's text TOLD by the authors' own Lean function (tested against real Go, not proved from fmt's source: count such statements apart). THE CARD IS WHAT COUNTS. Prove the row's statement (the work); the ties are given (YtgihofogkoeimaaGreatDoorTie.lean); close each card by the builder's one call (the guide's Derived/Test/ToyasCard.lean, 'card_holds'). Laid BY PROGRAM, IN A SANDBOX (cutbox-door.mjs). By AI agents, Wed Nov 11 2026. No macro, syntax, notation, axiom, sorry.
-/
import Derived.Test.YtgihofogkoeimaaGreatDoorRows
import GoSem.ClaimSeven
namespace Go.Proofs.YtgihofogkoeimaaGreatDoor
namespace Rows

/-- THE TIED CARD OF 'footmanlaw06.UrlsTells'. -/
def urlsTellsCard : Claim7 := { stood := { row := urlsTellsRow, standIns := [], harness := (true, "594a1b5ac2533e7ec0b972e47b76c83c59e6d75b8b8644e24a5da10daa5a5a0b"), looks := true }, kinds := [], alts := [], laidByText := true, laidKinds := [.data, .data, .data, .data, .sentinel, .sentinel, .pinned], laidTests := true, laidLooks := .later }
def UrlsTellsCardSaid : Prop := Claim7.holds Tryz.pinned (.plain (OpenSpec.ofChange urlsTellsSpec)) urlsTellsCard

/-- THE TIED CARD OF 'footmanlaw06.UrlsParses'. -/
def urlsParsesCard : Claim7 := { stood := { row := urlsParsesRow, standIns := [], harness := (true, "594a1b5ac2533e7ec0b972e47b76c83c59e6d75b8b8644e24a5da10daa5a5a0b"), looks := true }, kinds := [], alts := [], laidByText := true, laidKinds := [.data, .data, .data, .data, .sentinel, .sentinel, .pinned], laidTests := true, laidLooks := .later }
def UrlsParsesCardSaid : Prop := Claim7.holds Tryz.pinned (.plain (OpenSpec.ofChange urlsParsesSpec)) urlsParsesCard

/-- THE TIED CARD OF 'footmanlaw06.UrlsSees'. -/
def urlsSeesCard : Claim7 := { stood := { row := urlsSeesRow, standIns := [], harness := (true, "594a1b5ac2533e7ec0b972e47b76c83c59e6d75b8b8644e24a5da10daa5a5a0b"), looks := true }, kinds := [], alts := [], laidByText := true, laidKinds := [.data, .data, .data, .data, .sentinel, .sentinel, .pinned], laidTests := true, laidLooks := .later }
def UrlsSeesCardSaid : Prop := Claim7.holds Tryz.pinned (.plain (OpenSpec.ofChange urlsSeesSpec)) urlsSeesCard

/-- THE TIED CARD OF 'footmanlaw06.UrlsHere'. -/
def urlsHereCard : Claim7 := { stood := { row := urlsHereRow, standIns := [], harness := (true, "594a1b5ac2533e7ec0b972e47b76c83c59e6d75b8b8644e24a5da10daa5a5a0b"), looks := true }, kinds := [], alts := [], laidByText := true, laidKinds := [.data, .data, .data, .data, .sentinel, .sentinel, .pinned], laidTests := true, laidLooks := .later }
def UrlsHereCardSaid : Prop := Claim7.holds Tryz.pinned (.plain (OpenSpec.ofChange urlsHereSpec)) urlsHereCard

/-- THE TIED CARD OF 'footmanlaw06.UrlsSlashes'. -/
def urlsSlashesCard : Claim7 := { stood := { row := urlsSlashesRow, standIns := [], harness := (true, "594a1b5ac2533e7ec0b972e47b76c83c59e6d75b8b8644e24a5da10daa5a5a0b"), looks := true }, kinds := [], alts := [], laidByText := true, laidKinds := [.data, .data, .data, .data, .sentinel, .sentinel, .pinned], laidTests := true, laidLooks := .later }
def UrlsSlashesCardSaid : Prop := Claim7.holds Tryz.pinned (.plain (OpenSpec.ofChange urlsSlashesSpec)) urlsSlashesCard

/-- THE TIED CARD OF 'footmanlaw06.UrlsIdle'. -/
def urlsIdleCard : Claim7 := { stood := { row := urlsIdleRow, standIns := [], harness := (true, "594a1b5ac2533e7ec0b972e47b76c83c59e6d75b8b8644e24a5da10daa5a5a0b"), looks := true }, kinds := [], alts := [], laidByText := true, laidKinds := [.data, .data, .data, .data, .sentinel, .sentinel, .pinned], laidTests := true, laidLooks := .later }
def UrlsIdleCardSaid : Prop := Claim7.holds Tryz.pinned (.plain (OpenSpec.ofChange urlsIdleSpec)) urlsIdleCard

/-- THE TIED CARD OF 'footmanlaw06.UrlsPoints'. -/
def urlsPointsCard : Claim7 := { stood := { row := urlsPointsRow, standIns := [], harness := (true, "594a1b5ac2533e7ec0b972e47b76c83c59e6d75b8b8644e24a5da10daa5a5a0b"), looks := true }, kinds := [], alts := [], laidByText := true, laidKinds := [.data, .data, .data, .data, .sentinel, .sentinel, .pinned], laidTests := true, laidLooks := .later }
def UrlsPointsCardSaid : Prop := Claim7.holds Tryz.pinned (.plain (OpenSpec.ofChange urlsPointsSpec)) urlsPointsCard

/-- THE TIED CARD OF 'footmanlaw06.UrlsBack'. -/
def urlsBackCard : Claim7 := { stood := { row := urlsBackRow, standIns := [], harness := (true, "594a1b5ac2533e7ec0b972e47b76c83c59e6d75b8b8644e24a5da10daa5a5a0b"), looks := true }, kinds := [], alts := [], laidByText := true, laidKinds := [.data, .data, .data, .data, .sentinel, .sentinel, .pinned], laidTests := true, laidLooks := .later }
def UrlsBackCardSaid : Prop := Claim7.holds Tryz.pinned (.plain (OpenSpec.ofChange urlsBackSpec)) urlsBackCard

/-- THE TIED CARD OF 'footmanlaw06.UrlsOwn'. -/
def urlsOwnCard : Claim7 := { stood := { row := urlsOwnRow, standIns := [], harness := (true, "594a1b5ac2533e7ec0b972e47b76c83c59e6d75b8b8644e24a5da10daa5a5a0b"), looks := true }, kinds := [], alts := [], laidByText := true, laidKinds := [.data, .data, .data, .data, .sentinel, .sentinel, .pinned], laidTests := true, laidLooks := .later }
def UrlsOwnCardSaid : Prop := Claim7.holds Tryz.pinned (.plain (OpenSpec.ofChange urlsOwnSpec)) urlsOwnCard

/-- THE SECOND FORM's CARD OF 'footmanlaw06.UrlsTells'. -/
def urlsTellsUptoCard : Claim7 := { stood := { row := urlsTellsUptoRow, standIns := [], harness := (true, "594a1b5ac2533e7ec0b972e47b76c83c59e6d75b8b8644e24a5da10daa5a5a0b"), looks := true }, kinds := [], alts := [], laidByText := true, laidKinds := [.data, .data, .data, .data, .sentinel, .sentinel, .pinned], laidTests := true, laidLooks := .later }
def UrlsTellsUptoCardSaid : Prop := Claim7.holds Tryz.pinned (.plain (OpenSpec.upto urlsTellsSpec)) urlsTellsUptoCard

/-- THE SECOND FORM's CARD OF 'footmanlaw06.UrlsParses'. -/
def urlsParsesUptoCard : Claim7 := { stood := { row := urlsParsesUptoRow, standIns := [], harness := (true, "594a1b5ac2533e7ec0b972e47b76c83c59e6d75b8b8644e24a5da10daa5a5a0b"), looks := true }, kinds := [], alts := [], laidByText := true, laidKinds := [.data, .data, .data, .data, .sentinel, .sentinel, .pinned], laidTests := true, laidLooks := .later }
def UrlsParsesUptoCardSaid : Prop := Claim7.holds Tryz.pinned (.plain (OpenSpec.upto urlsParsesSpec)) urlsParsesUptoCard

/-- THE SECOND FORM's CARD OF 'footmanlaw06.UrlsSees'. -/
def urlsSeesUptoCard : Claim7 := { stood := { row := urlsSeesUptoRow, standIns := [], harness := (true, "594a1b5ac2533e7ec0b972e47b76c83c59e6d75b8b8644e24a5da10daa5a5a0b"), looks := true }, kinds := [], alts := [], laidByText := true, laidKinds := [.data, .data, .data, .data, .sentinel, .sentinel, .pinned], laidTests := true, laidLooks := .later }
def UrlsSeesUptoCardSaid : Prop := Claim7.holds Tryz.pinned (.plain (OpenSpec.upto urlsSeesSpec)) urlsSeesUptoCard

/-- THE SECOND FORM's CARD OF 'footmanlaw06.UrlsHere'. -/
def urlsHereUptoCard : Claim7 := { stood := { row := urlsHereUptoRow, standIns := [], harness := (true, "594a1b5ac2533e7ec0b972e47b76c83c59e6d75b8b8644e24a5da10daa5a5a0b"), looks := true }, kinds := [], alts := [], laidByText := true, laidKinds := [.data, .data, .data, .data, .sentinel, .sentinel, .pinned], laidTests := true, laidLooks := .later }
def UrlsHereUptoCardSaid : Prop := Claim7.holds Tryz.pinned (.plain (OpenSpec.upto urlsHereSpec)) urlsHereUptoCard

/-- THE SECOND FORM's CARD OF 'footmanlaw06.UrlsSlashes'. -/
def urlsSlashesUptoCard : Claim7 := { stood := { row := urlsSlashesUptoRow, standIns := [], harness := (true, "594a1b5ac2533e7ec0b972e47b76c83c59e6d75b8b8644e24a5da10daa5a5a0b"), looks := true }, kinds := [], alts := [], laidByText := true, laidKinds := [.data, .data, .data, .data, .sentinel, .sentinel, .pinned], laidTests := true, laidLooks := .later }
def UrlsSlashesUptoCardSaid : Prop := Claim7.holds Tryz.pinned (.plain (OpenSpec.upto urlsSlashesSpec)) urlsSlashesUptoCard

/-- THE SECOND FORM's CARD OF 'footmanlaw06.UrlsIdle'. -/
def urlsIdleUptoCard : Claim7 := { stood := { row := urlsIdleUptoRow, standIns := [], harness := (true, "594a1b5ac2533e7ec0b972e47b76c83c59e6d75b8b8644e24a5da10daa5a5a0b"), looks := true }, kinds := [], alts := [], laidByText := true, laidKinds := [.data, .data, .data, .data, .sentinel, .sentinel, .pinned], laidTests := true, laidLooks := .later }
def UrlsIdleUptoCardSaid : Prop := Claim7.holds Tryz.pinned (.plain (OpenSpec.upto urlsIdleSpec)) urlsIdleUptoCard

/-- THE SECOND FORM's CARD OF 'footmanlaw06.UrlsPoints'. -/
def urlsPointsUptoCard : Claim7 := { stood := { row := urlsPointsUptoRow, standIns := [], harness := (true, "594a1b5ac2533e7ec0b972e47b76c83c59e6d75b8b8644e24a5da10daa5a5a0b"), looks := true }, kinds := [], alts := [], laidByText := true, laidKinds := [.data, .data, .data, .data, .sentinel, .sentinel, .pinned], laidTests := true, laidLooks := .later }
def UrlsPointsUptoCardSaid : Prop := Claim7.holds Tryz.pinned (.plain (OpenSpec.upto urlsPointsSpec)) urlsPointsUptoCard

/-- THE SECOND FORM's CARD OF 'footmanlaw06.UrlsBack'. -/
def urlsBackUptoCard : Claim7 := { stood := { row := urlsBackUptoRow, standIns := [], harness := (true, "594a1b5ac2533e7ec0b972e47b76c83c59e6d75b8b8644e24a5da10daa5a5a0b"), looks := true }, kinds := [], alts := [], laidByText := true, laidKinds := [.data, .data, .data, .data, .sentinel, .sentinel, .pinned], laidTests := true, laidLooks := .later }
def UrlsBackUptoCardSaid : Prop := Claim7.holds Tryz.pinned (.plain (OpenSpec.upto urlsBackSpec)) urlsBackUptoCard

/-- THE SECOND FORM's CARD OF 'footmanlaw06.UrlsOwn'. -/
def urlsOwnUptoCard : Claim7 := { stood := { row := urlsOwnUptoRow, standIns := [], harness := (true, "594a1b5ac2533e7ec0b972e47b76c83c59e6d75b8b8644e24a5da10daa5a5a0b"), looks := true }, kinds := [], alts := [], laidByText := true, laidKinds := [.data, .data, .data, .data, .sentinel, .sentinel, .pinned], laidTests := true, laidLooks := .later }
def UrlsOwnUptoCardSaid : Prop := Claim7.holds Tryz.pinned (.plain (OpenSpec.upto urlsOwnSpec)) urlsOwnUptoCard
end Rows
end Go.Proofs.YtgihofogkoeimaaGreatDoor
