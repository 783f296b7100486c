/-
  DERIVED. GIVEN WITH THE SEED: THE CARDS: each row of YthlnkoblpmjahaaGreatDoorRows.lean that lists a variable, with what it lists TIED to the program's text (the seventh form; the later family's looks); each row that meets fmt, with fmt's text TOLD by the authors' own Lean function (tested against real Go, not proved from fmt's source: count such statements apart). THE CARD IS WHAT COUNTS. Prove the row's statement (the work); the ties are given (YthlnkoblpmjahaaGreatDoorTie.lean); close each card by the builder's one call (the guide's Derived/Test/ToyasCard.lean, 'card_holds'). Laid BY PROGRAM, IN A SANDBOX (cutbox-door.mjs). By AI agents, Wed Nov 11 2026. No macro, syntax, notation, axiom, sorry.
-/
import Derived.Test.YthlnkoblpmjahaaGreatDoorRows
import GoSem.ClaimSeven
namespace Go.Proofs.YthlnkoblpmjahaaGreatDoor
namespace Rows

/-- THE TIED CARD OF 'footmanlaw06.UrlsTells'. -/
def urlsTellsCard : Claim7 := { stood := { row := urlsTellsRow, standIns := [], harness := (true, "46dc5404fb544efe0e37836c7e7eb5e4d03cf2ddd5c52bf354be653c70d23da8"), looks := true }, kinds := [], alts := [], laidByText := true, laidKinds := [.data, .data, .data, .data, .sentinel, .sentinel, .pinned], laidTests := true, laidLooks := .later }
def UrlsTellsCardSaid : Prop := Claim7.holds Tryz.pinned (.plain (OpenSpec.ofChange urlsTellsSpec)) urlsTellsCard

/-- THE TIED CARD OF 'footmanlaw06.UrlsParses'. -/
def urlsParsesCard : Claim7 := { stood := { row := urlsParsesRow, standIns := [], harness := (true, "46dc5404fb544efe0e37836c7e7eb5e4d03cf2ddd5c52bf354be653c70d23da8"), looks := true }, kinds := [], alts := [], laidByText := true, laidKinds := [.data, .data, .data, .data, .sentinel, .sentinel, .pinned], laidTests := true, laidLooks := .later }
def UrlsParsesCardSaid : Prop := Claim7.holds Tryz.pinned (.plain (OpenSpec.ofChange urlsParsesSpec)) urlsParsesCard

/-- THE TIED CARD OF 'footmanlaw06.UrlsSees'. -/
def urlsSeesCard : Claim7 := { stood := { row := urlsSeesRow, standIns := [], harness := (true, "46dc5404fb544efe0e37836c7e7eb5e4d03cf2ddd5c52bf354be653c70d23da8"), looks := true }, kinds := [], alts := [], laidByText := true, laidKinds := [.data, .data, .data, .data, .sentinel, .sentinel, .pinned], laidTests := true, laidLooks := .later }
def UrlsSeesCardSaid : Prop := Claim7.holds Tryz.pinned (.plain (OpenSpec.ofChange urlsSeesSpec)) urlsSeesCard

/-- THE TIED CARD OF 'footmanlaw09.SitesSame'. -/
def sitesSameCard : Claim7 := { stood := { row := sitesSameRow, standIns := [], harness := (true, "46dc5404fb544efe0e37836c7e7eb5e4d03cf2ddd5c52bf354be653c70d23da8"), looks := true }, kinds := [], alts := [], laidByText := true, laidKinds := [.data, .data, .data, .data, .sentinel, .sentinel, .pinned], laidTests := true, laidLooks := .later }
def SitesSameCardSaid : Prop := Claim7.holds Tryz.pinned (.plain (OpenSpec.ofChange sitesSameSpec)) sitesSameCard

/-- THE TIED CARD OF 'footmanlaw09.SitesUsual'. -/
def sitesUsualCard : Claim7 := { stood := { row := sitesUsualRow, standIns := [], harness := (true, "46dc5404fb544efe0e37836c7e7eb5e4d03cf2ddd5c52bf354be653c70d23da8"), looks := true }, kinds := [], alts := [], laidByText := true, laidKinds := [.data, .data, .data, .data, .sentinel, .sentinel, .pinned], laidTests := true, laidLooks := .later }
def SitesUsualCardSaid : Prop := Claim7.holds Tryz.pinned (.plain (OpenSpec.ofChange sitesUsualSpec)) sitesUsualCard

/-- THE TIED CARD OF 'footmanlaw09.SitesThree'. -/
def sitesThreeCard : Claim7 := { stood := { row := sitesThreeRow, standIns := [], harness := (true, "46dc5404fb544efe0e37836c7e7eb5e4d03cf2ddd5c52bf354be653c70d23da8"), looks := true }, kinds := [], alts := [], laidByText := true, laidKinds := [.data, .data, .data, .data, .sentinel, .sentinel, .pinned], laidTests := true, laidLooks := .later }
def SitesThreeCardSaid : Prop := Claim7.holds Tryz.pinned (.plain (OpenSpec.ofChange sitesThreeSpec)) sitesThreeCard

/-- THE TIED CARD OF 'footmanlaw09.SitesBehind'. -/
def sitesBehindCard : Claim7 := { stood := { row := sitesBehindRow, standIns := [], harness := (true, "46dc5404fb544efe0e37836c7e7eb5e4d03cf2ddd5c52bf354be653c70d23da8"), looks := true }, kinds := [], alts := [], laidByText := true, laidKinds := [.data, .data, .data, .data, .sentinel, .sentinel, .pinned], laidTests := true, laidLooks := .later }
def SitesBehindCardSaid : Prop := Claim7.holds Tryz.pinned (.plain (OpenSpec.ofChange sitesBehindSpec)) sitesBehindCard

/-- THE TIED CARD OF 'footmanlaw09.SitesBoth'. -/
def sitesBothCard : Claim7 := { stood := { row := sitesBothRow, standIns := [], harness := (true, "46dc5404fb544efe0e37836c7e7eb5e4d03cf2ddd5c52bf354be653c70d23da8"), looks := true }, kinds := [], alts := [], laidByText := true, laidKinds := [.data, .data, .data, .data, .sentinel, .sentinel, .pinned], laidTests := true, laidLooks := .later }
def SitesBothCardSaid : Prop := Claim7.holds Tryz.pinned (.plain (OpenSpec.ofChange sitesBothSpec)) sitesBothCard

/-- THE TIED CARD OF 'footmanlaw09.SitesOrigin'. -/
def sitesOriginCard : Claim7 := { stood := { row := sitesOriginRow, standIns := [], harness := (true, "46dc5404fb544efe0e37836c7e7eb5e4d03cf2ddd5c52bf354be653c70d23da8"), looks := true }, kinds := [], alts := [], laidByText := true, laidKinds := [.data, .data, .data, .data, .sentinel, .sentinel, .pinned], laidTests := true, laidLooks := .later }
def SitesOriginCardSaid : Prop := Claim7.holds Tryz.pinned (.plain (OpenSpec.ofChange sitesOriginSpec)) sitesOriginCard

/-- THE SECOND FORM's CARD OF 'footmanlaw06.UrlsTells'. -/
def urlsTellsUptoCard : Claim7 := { stood := { row := urlsTellsUptoRow, standIns := [], harness := (true, "46dc5404fb544efe0e37836c7e7eb5e4d03cf2ddd5c52bf354be653c70d23da8"), looks := true }, kinds := [], alts := [], laidByText := true, laidKinds := [.data, .data, .data, .data, .sentinel, .sentinel, .pinned], laidTests := true, laidLooks := .later }
def UrlsTellsUptoCardSaid : Prop := Claim7.holds Tryz.pinned (.plain (OpenSpec.upto urlsTellsSpec)) urlsTellsUptoCard

/-- THE SECOND FORM's CARD OF 'footmanlaw06.UrlsParses'. -/
def urlsParsesUptoCard : Claim7 := { stood := { row := urlsParsesUptoRow, standIns := [], harness := (true, "46dc5404fb544efe0e37836c7e7eb5e4d03cf2ddd5c52bf354be653c70d23da8"), looks := true }, kinds := [], alts := [], laidByText := true, laidKinds := [.data, .data, .data, .data, .sentinel, .sentinel, .pinned], laidTests := true, laidLooks := .later }
def UrlsParsesUptoCardSaid : Prop := Claim7.holds Tryz.pinned (.plain (OpenSpec.upto urlsParsesSpec)) urlsParsesUptoCard

/-- THE SECOND FORM's CARD OF 'footmanlaw06.UrlsSees'. -/
def urlsSeesUptoCard : Claim7 := { stood := { row := urlsSeesUptoRow, standIns := [], harness := (true, "46dc5404fb544efe0e37836c7e7eb5e4d03cf2ddd5c52bf354be653c70d23da8"), looks := true }, kinds := [], alts := [], laidByText := true, laidKinds := [.data, .data, .data, .data, .sentinel, .sentinel, .pinned], laidTests := true, laidLooks := .later }
def UrlsSeesUptoCardSaid : Prop := Claim7.holds Tryz.pinned (.plain (OpenSpec.upto urlsSeesSpec)) urlsSeesUptoCard

/-- THE SECOND FORM's CARD OF 'footmanlaw09.SitesSame'. -/
def sitesSameUptoCard : Claim7 := { stood := { row := sitesSameUptoRow, standIns := [], harness := (true, "46dc5404fb544efe0e37836c7e7eb5e4d03cf2ddd5c52bf354be653c70d23da8"), looks := true }, kinds := [], alts := [], laidByText := true, laidKinds := [.data, .data, .data, .data, .sentinel, .sentinel, .pinned], laidTests := true, laidLooks := .later }
def SitesSameUptoCardSaid : Prop := Claim7.holds Tryz.pinned (.plain (OpenSpec.upto sitesSameSpec)) sitesSameUptoCard

/-- THE SECOND FORM's CARD OF 'footmanlaw09.SitesUsual'. -/
def sitesUsualUptoCard : Claim7 := { stood := { row := sitesUsualUptoRow, standIns := [], harness := (true, "46dc5404fb544efe0e37836c7e7eb5e4d03cf2ddd5c52bf354be653c70d23da8"), looks := true }, kinds := [], alts := [], laidByText := true, laidKinds := [.data, .data, .data, .data, .sentinel, .sentinel, .pinned], laidTests := true, laidLooks := .later }
def SitesUsualUptoCardSaid : Prop := Claim7.holds Tryz.pinned (.plain (OpenSpec.upto sitesUsualSpec)) sitesUsualUptoCard

/-- THE SECOND FORM's CARD OF 'footmanlaw09.SitesThree'. -/
def sitesThreeUptoCard : Claim7 := { stood := { row := sitesThreeUptoRow, standIns := [], harness := (true, "46dc5404fb544efe0e37836c7e7eb5e4d03cf2ddd5c52bf354be653c70d23da8"), looks := true }, kinds := [], alts := [], laidByText := true, laidKinds := [.data, .data, .data, .data, .sentinel, .sentinel, .pinned], laidTests := true, laidLooks := .later }
def SitesThreeUptoCardSaid : Prop := Claim7.holds Tryz.pinned (.plain (OpenSpec.upto sitesThreeSpec)) sitesThreeUptoCard

/-- THE SECOND FORM's CARD OF 'footmanlaw09.SitesBehind'. -/
def sitesBehindUptoCard : Claim7 := { stood := { row := sitesBehindUptoRow, standIns := [], harness := (true, "46dc5404fb544efe0e37836c7e7eb5e4d03cf2ddd5c52bf354be653c70d23da8"), looks := true }, kinds := [], alts := [], laidByText := true, laidKinds := [.data, .data, .data, .data, .sentinel, .sentinel, .pinned], laidTests := true, laidLooks := .later }
def SitesBehindUptoCardSaid : Prop := Claim7.holds Tryz.pinned (.plain (OpenSpec.upto sitesBehindSpec)) sitesBehindUptoCard

/-- THE SECOND FORM's CARD OF 'footmanlaw09.SitesBoth'. -/
def sitesBothUptoCard : Claim7 := { stood := { row := sitesBothUptoRow, standIns := [], harness := (true, "46dc5404fb544efe0e37836c7e7eb5e4d03cf2ddd5c52bf354be653c70d23da8"), looks := true }, kinds := [], alts := [], laidByText := true, laidKinds := [.data, .data, .data, .data, .sentinel, .sentinel, .pinned], laidTests := true, laidLooks := .later }
def SitesBothUptoCardSaid : Prop := Claim7.holds Tryz.pinned (.plain (OpenSpec.upto sitesBothSpec)) sitesBothUptoCard

/-- THE SECOND FORM's CARD OF 'footmanlaw09.SitesOrigin'. -/
def sitesOriginUptoCard : Claim7 := { stood := { row := sitesOriginUptoRow, standIns := [], harness := (true, "46dc5404fb544efe0e37836c7e7eb5e4d03cf2ddd5c52bf354be653c70d23da8"), looks := true }, kinds := [], alts := [], laidByText := true, laidKinds := [.data, .data, .data, .data, .sentinel, .sentinel, .pinned], laidTests := true, laidLooks := .later }
def SitesOriginUptoCardSaid : Prop := Claim7.holds Tryz.pinned (.plain (OpenSpec.upto sitesOriginSpec)) sitesOriginUptoCard
end Rows
end Go.Proofs.YthlnkoblpmjahaaGreatDoor
