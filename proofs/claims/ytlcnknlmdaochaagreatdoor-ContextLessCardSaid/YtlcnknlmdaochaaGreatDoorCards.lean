/-
  DERIVED. GIVEN WITH THE SEED: THE CARDS: each row of YtlcnknlmdaochaaGreatDoorRows.lean that lists a variable, with what it lists TIED to the program's text (the seventh form; the later family's looks); each row that meets fmt, with fmt's text TOLD by the authors' own Lean function (tested against real Go, not proved from fmt's source: count such statements apart). THE CARD IS WHAT COUNTS. Prove the row's statement (the work); the ties are given (YtlcnknlmdaochaaGreatDoorTie.lean); close each card by the builder's one call (the guide's Derived/Test/ToyasCard.lean, 'card_holds'). Laid BY PROGRAM, IN A SANDBOX (cutbox-door.mjs). By AI agents, Wed Nov 11 2026. No macro, syntax, notation, axiom, sorry.
-/
import Derived.Test.YtlcnknlmdaochaaGreatDoorRows
import GoSem.ClaimSeven
namespace Go.Proofs.YtlcnknlmdaochaaGreatDoor
namespace Rows

/-- THE TIED CARD OF 'footmanlaw06.UrlsTells'. -/
def urlsTellsCard : Claim7 := { stood := { row := urlsTellsRow, standIns := [], harness := (true, "1ad405f6ecf771eacf11c39b17f90687fe667eb320ae1f973d0047b11ceb9ae2"), looks := true }, kinds := [], alts := [], laidByText := true, laidKinds := [.data, .data, .data, .data, .sentinel, .sentinel, .pinned], laidTests := true, laidLooks := .later }
def UrlsTellsCardSaid : Prop := Claim7.holds Tryz.pinned (.plain (OpenSpec.ofChange urlsTellsSpec)) urlsTellsCard

/-- THE TIED CARD OF 'footmanlaw06.UrlsSees'. -/
def urlsSeesCard : Claim7 := { stood := { row := urlsSeesRow, standIns := [], harness := (true, "1ad405f6ecf771eacf11c39b17f90687fe667eb320ae1f973d0047b11ceb9ae2"), looks := true }, kinds := [], alts := [], laidByText := true, laidKinds := [.data, .data, .data, .data, .sentinel, .sentinel, .pinned], laidTests := true, laidLooks := .later }
def UrlsSeesCardSaid : Prop := Claim7.holds Tryz.pinned (.plain (OpenSpec.ofChange urlsSeesSpec)) urlsSeesCard

/-- THE TIED CARD OF 'footmanlaw09.SitesSame'. -/
def sitesSameCard : Claim7 := { stood := { row := sitesSameRow, standIns := [], harness := (true, "1ad405f6ecf771eacf11c39b17f90687fe667eb320ae1f973d0047b11ceb9ae2"), looks := true }, kinds := [], alts := [], laidByText := true, laidKinds := [.data, .data, .data, .data, .sentinel, .sentinel, .pinned], laidTests := true, laidLooks := .later }
def SitesSameCardSaid : Prop := Claim7.holds Tryz.pinned (.plain (OpenSpec.ofChange sitesSameSpec)) sitesSameCard

/-- THE TIED CARD OF 'footmanlaw09.SitesUsual'. -/
def sitesUsualCard : Claim7 := { stood := { row := sitesUsualRow, standIns := [], harness := (true, "1ad405f6ecf771eacf11c39b17f90687fe667eb320ae1f973d0047b11ceb9ae2"), looks := true }, kinds := [], alts := [], laidByText := true, laidKinds := [.data, .data, .data, .data, .sentinel, .sentinel, .pinned], laidTests := true, laidLooks := .later }
def SitesUsualCardSaid : Prop := Claim7.holds Tryz.pinned (.plain (OpenSpec.ofChange sitesUsualSpec)) sitesUsualCard

/-- THE TIED CARD OF 'footmanlaw09.SitesThree'. -/
def sitesThreeCard : Claim7 := { stood := { row := sitesThreeRow, standIns := [], harness := (true, "1ad405f6ecf771eacf11c39b17f90687fe667eb320ae1f973d0047b11ceb9ae2"), looks := true }, kinds := [], alts := [], laidByText := true, laidKinds := [.data, .data, .data, .data, .sentinel, .sentinel, .pinned], laidTests := true, laidLooks := .later }
def SitesThreeCardSaid : Prop := Claim7.holds Tryz.pinned (.plain (OpenSpec.ofChange sitesThreeSpec)) sitesThreeCard

/-- THE TIED CARD OF 'footmanlaw09.SitesBehind'. -/
def sitesBehindCard : Claim7 := { stood := { row := sitesBehindRow, standIns := [], harness := (true, "1ad405f6ecf771eacf11c39b17f90687fe667eb320ae1f973d0047b11ceb9ae2"), looks := true }, kinds := [], alts := [], laidByText := true, laidKinds := [.data, .data, .data, .data, .sentinel, .sentinel, .pinned], laidTests := true, laidLooks := .later }
def SitesBehindCardSaid : Prop := Claim7.holds Tryz.pinned (.plain (OpenSpec.ofChange sitesBehindSpec)) sitesBehindCard

/-- THE TIED CARD OF 'footmanlaw09.SitesBoth'. -/
def sitesBothCard : Claim7 := { stood := { row := sitesBothRow, standIns := [], harness := (true, "1ad405f6ecf771eacf11c39b17f90687fe667eb320ae1f973d0047b11ceb9ae2"), looks := true }, kinds := [], alts := [], laidByText := true, laidKinds := [.data, .data, .data, .data, .sentinel, .sentinel, .pinned], laidTests := true, laidLooks := .later }
def SitesBothCardSaid : Prop := Claim7.holds Tryz.pinned (.plain (OpenSpec.ofChange sitesBothSpec)) sitesBothCard

/-- THE TIED CARD OF 'footmanlaw09.SitesOrigin'. -/
def sitesOriginCard : Claim7 := { stood := { row := sitesOriginRow, standIns := [], harness := (true, "1ad405f6ecf771eacf11c39b17f90687fe667eb320ae1f973d0047b11ceb9ae2"), looks := true }, kinds := [], alts := [], laidByText := true, laidKinds := [.data, .data, .data, .data, .sentinel, .sentinel, .pinned], laidTests := true, laidLooks := .later }
def SitesOriginCardSaid : Prop := Claim7.holds Tryz.pinned (.plain (OpenSpec.ofChange sitesOriginSpec)) sitesOriginCard

/-- THE TIED CARD OF 'footmanlaw14.ContextGoes'. -/
def contextGoesCard : Claim7 := { stood := { row := contextGoesRow, standIns := [], harness := (true, "1ad405f6ecf771eacf11c39b17f90687fe667eb320ae1f973d0047b11ceb9ae2"), looks := true }, kinds := [], alts := [], laidByText := true, laidKinds := [.data, .data, .data, .data, .sentinel, .sentinel, .pinned], laidTests := true, laidLooks := .later }
def ContextGoesCardSaid : Prop := Claim7.holds Tryz.pinned (.plain (OpenSpec.ofChange contextGoesSpec)) contextGoesCard

/-- THE TIED CARD OF 'footmanlaw14.ContextLess'. -/
def contextLessCard : Claim7 := { stood := { row := contextLessRow, standIns := [], harness := (true, "1ad405f6ecf771eacf11c39b17f90687fe667eb320ae1f973d0047b11ceb9ae2"), looks := true }, kinds := [], alts := [], laidByText := true, laidKinds := [.data, .data, .data, .data, .sentinel, .sentinel, .pinned], laidTests := true, laidLooks := .later }
def ContextLessCardSaid : Prop := Claim7.holds Tryz.pinned (.plain (OpenSpec.ofChange contextLessSpec)) contextLessCard

/-- THE TIED CARD OF 'footmanlaw19.ConnsBound'. -/
def connsBoundCard : Claim7 := { stood := { row := connsBoundRow, standIns := [], harness := (true, "1ad405f6ecf771eacf11c39b17f90687fe667eb320ae1f973d0047b11ceb9ae2"), looks := true }, kinds := [], alts := [], laidByText := true, laidKinds := [.data, .data, .data, .data, .sentinel, .sentinel, .pinned], laidTests := true, laidLooks := .later }
def ConnsBoundCardSaid : Prop := Claim7.holds Tryz.pinned (.plain (OpenSpec.ofChange connsBoundSpec)) connsBoundCard

/-- THE TIED CARD OF 'footmanlaw19.ConnsOld'. -/
def connsOldCard : Claim7 := { stood := { row := connsOldRow, standIns := [], harness := (true, "1ad405f6ecf771eacf11c39b17f90687fe667eb320ae1f973d0047b11ceb9ae2"), looks := true }, kinds := [], alts := [], laidByText := true, laidKinds := [.data, .data, .data, .data, .sentinel, .sentinel, .pinned], laidTests := true, laidLooks := .later }
def ConnsOldCardSaid : Prop := Claim7.holds Tryz.pinned (.plain (OpenSpec.ofChange connsOldSpec)) connsOldCard

/-- THE SECOND FORM's CARD OF 'footmanlaw06.UrlsTells'. -/
def urlsTellsUptoCard : Claim7 := { stood := { row := urlsTellsUptoRow, standIns := [], harness := (true, "1ad405f6ecf771eacf11c39b17f90687fe667eb320ae1f973d0047b11ceb9ae2"), looks := true }, kinds := [], alts := [], laidByText := true, laidKinds := [.data, .data, .data, .data, .sentinel, .sentinel, .pinned], laidTests := true, laidLooks := .later }
def UrlsTellsUptoCardSaid : Prop := Claim7.holds Tryz.pinned (.plain (OpenSpec.upto urlsTellsSpec)) urlsTellsUptoCard

/-- THE SECOND FORM's CARD OF 'footmanlaw06.UrlsSees'. -/
def urlsSeesUptoCard : Claim7 := { stood := { row := urlsSeesUptoRow, standIns := [], harness := (true, "1ad405f6ecf771eacf11c39b17f90687fe667eb320ae1f973d0047b11ceb9ae2"), looks := true }, kinds := [], alts := [], laidByText := true, laidKinds := [.data, .data, .data, .data, .sentinel, .sentinel, .pinned], laidTests := true, laidLooks := .later }
def UrlsSeesUptoCardSaid : Prop := Claim7.holds Tryz.pinned (.plain (OpenSpec.upto urlsSeesSpec)) urlsSeesUptoCard

/-- THE SECOND FORM's CARD OF 'footmanlaw09.SitesSame'. -/
def sitesSameUptoCard : Claim7 := { stood := { row := sitesSameUptoRow, standIns := [], harness := (true, "1ad405f6ecf771eacf11c39b17f90687fe667eb320ae1f973d0047b11ceb9ae2"), looks := true }, kinds := [], alts := [], laidByText := true, laidKinds := [.data, .data, .data, .data, .sentinel, .sentinel, .pinned], laidTests := true, laidLooks := .later }
def SitesSameUptoCardSaid : Prop := Claim7.holds Tryz.pinned (.plain (OpenSpec.upto sitesSameSpec)) sitesSameUptoCard

/-- THE SECOND FORM's CARD OF 'footmanlaw09.SitesUsual'. -/
def sitesUsualUptoCard : Claim7 := { stood := { row := sitesUsualUptoRow, standIns := [], harness := (true, "1ad405f6ecf771eacf11c39b17f90687fe667eb320ae1f973d0047b11ceb9ae2"), looks := true }, kinds := [], alts := [], laidByText := true, laidKinds := [.data, .data, .data, .data, .sentinel, .sentinel, .pinned], laidTests := true, laidLooks := .later }
def SitesUsualUptoCardSaid : Prop := Claim7.holds Tryz.pinned (.plain (OpenSpec.upto sitesUsualSpec)) sitesUsualUptoCard

/-- THE SECOND FORM's CARD OF 'footmanlaw09.SitesThree'. -/
def sitesThreeUptoCard : Claim7 := { stood := { row := sitesThreeUptoRow, standIns := [], harness := (true, "1ad405f6ecf771eacf11c39b17f90687fe667eb320ae1f973d0047b11ceb9ae2"), looks := true }, kinds := [], alts := [], laidByText := true, laidKinds := [.data, .data, .data, .data, .sentinel, .sentinel, .pinned], laidTests := true, laidLooks := .later }
def SitesThreeUptoCardSaid : Prop := Claim7.holds Tryz.pinned (.plain (OpenSpec.upto sitesThreeSpec)) sitesThreeUptoCard

/-- THE SECOND FORM's CARD OF 'footmanlaw09.SitesBehind'. -/
def sitesBehindUptoCard : Claim7 := { stood := { row := sitesBehindUptoRow, standIns := [], harness := (true, "1ad405f6ecf771eacf11c39b17f90687fe667eb320ae1f973d0047b11ceb9ae2"), looks := true }, kinds := [], alts := [], laidByText := true, laidKinds := [.data, .data, .data, .data, .sentinel, .sentinel, .pinned], laidTests := true, laidLooks := .later }
def SitesBehindUptoCardSaid : Prop := Claim7.holds Tryz.pinned (.plain (OpenSpec.upto sitesBehindSpec)) sitesBehindUptoCard

/-- THE SECOND FORM's CARD OF 'footmanlaw09.SitesBoth'. -/
def sitesBothUptoCard : Claim7 := { stood := { row := sitesBothUptoRow, standIns := [], harness := (true, "1ad405f6ecf771eacf11c39b17f90687fe667eb320ae1f973d0047b11ceb9ae2"), looks := true }, kinds := [], alts := [], laidByText := true, laidKinds := [.data, .data, .data, .data, .sentinel, .sentinel, .pinned], laidTests := true, laidLooks := .later }
def SitesBothUptoCardSaid : Prop := Claim7.holds Tryz.pinned (.plain (OpenSpec.upto sitesBothSpec)) sitesBothUptoCard

/-- THE SECOND FORM's CARD OF 'footmanlaw09.SitesOrigin'. -/
def sitesOriginUptoCard : Claim7 := { stood := { row := sitesOriginUptoRow, standIns := [], harness := (true, "1ad405f6ecf771eacf11c39b17f90687fe667eb320ae1f973d0047b11ceb9ae2"), looks := true }, kinds := [], alts := [], laidByText := true, laidKinds := [.data, .data, .data, .data, .sentinel, .sentinel, .pinned], laidTests := true, laidLooks := .later }
def SitesOriginUptoCardSaid : Prop := Claim7.holds Tryz.pinned (.plain (OpenSpec.upto sitesOriginSpec)) sitesOriginUptoCard

/-- THE SECOND FORM's CARD OF 'footmanlaw14.ContextGoes'. -/
def contextGoesUptoCard : Claim7 := { stood := { row := contextGoesUptoRow, standIns := [], harness := (true, "1ad405f6ecf771eacf11c39b17f90687fe667eb320ae1f973d0047b11ceb9ae2"), looks := true }, kinds := [], alts := [], laidByText := true, laidKinds := [.data, .data, .data, .data, .sentinel, .sentinel, .pinned], laidTests := true, laidLooks := .later }
def ContextGoesUptoCardSaid : Prop := Claim7.holds Tryz.pinned (.plain (OpenSpec.upto contextGoesSpec)) contextGoesUptoCard

/-- THE SECOND FORM's CARD OF 'footmanlaw14.ContextLess'. -/
def contextLessUptoCard : Claim7 := { stood := { row := contextLessUptoRow, standIns := [], harness := (true, "1ad405f6ecf771eacf11c39b17f90687fe667eb320ae1f973d0047b11ceb9ae2"), looks := true }, kinds := [], alts := [], laidByText := true, laidKinds := [.data, .data, .data, .data, .sentinel, .sentinel, .pinned], laidTests := true, laidLooks := .later }
def ContextLessUptoCardSaid : Prop := Claim7.holds Tryz.pinned (.plain (OpenSpec.upto contextLessSpec)) contextLessUptoCard

/-- THE SECOND FORM's CARD OF 'footmanlaw19.ConnsBound'. -/
def connsBoundUptoCard : Claim7 := { stood := { row := connsBoundUptoRow, standIns := [], harness := (true, "1ad405f6ecf771eacf11c39b17f90687fe667eb320ae1f973d0047b11ceb9ae2"), looks := true }, kinds := [], alts := [], laidByText := true, laidKinds := [.data, .data, .data, .data, .sentinel, .sentinel, .pinned], laidTests := true, laidLooks := .later }
def ConnsBoundUptoCardSaid : Prop := Claim7.holds Tryz.pinned (.plain (OpenSpec.upto connsBoundSpec)) connsBoundUptoCard

/-- THE SECOND FORM's CARD OF 'footmanlaw19.ConnsOld'. -/
def connsOldUptoCard : Claim7 := { stood := { row := connsOldUptoRow, standIns := [], harness := (true, "1ad405f6ecf771eacf11c39b17f90687fe667eb320ae1f973d0047b11ceb9ae2"), looks := true }, kinds := [], alts := [], laidByText := true, laidKinds := [.data, .data, .data, .data, .sentinel, .sentinel, .pinned], laidTests := true, laidLooks := .later }
def ConnsOldUptoCardSaid : Prop := Claim7.holds Tryz.pinned (.plain (OpenSpec.upto connsOldSpec)) connsOldUptoCard
end Rows
end Go.Proofs.YtlcnknlmdaochaaGreatDoor
