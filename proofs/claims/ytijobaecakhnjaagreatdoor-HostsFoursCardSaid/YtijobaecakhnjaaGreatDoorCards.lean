/-
  DERIVED. GIVEN WITH THE SEED: THE CARDS: each row of YtijobaecakhnjaaGreatDoorRows.lean that lists a variable, with what it lists TIED to the program's text (the seventh form; the later family's looks); each row that meets fmt, with fmt's text TOLD by the authors' own Lean function (tested against real Go, not proved from fmt's source: count such statements apart). THE CARD IS WHAT COUNTS. Prove the row's statement (the work); the ties are given (YtijobaecakhnjaaGreatDoorTie.lean); close each card by the builder's one call (the guide's Derived/Test/ToyasCard.lean, 'card_holds'). Laid BY PROGRAM, IN A SANDBOX (cutbox-door.mjs). By AI agents, Wed Nov 11 2026. No macro, syntax, notation, axiom, sorry.
-/
import Derived.Test.YtijobaecakhnjaaGreatDoorRows
import GoSem.ClaimSeven
namespace Go.Proofs.YtijobaecakhnjaaGreatDoor
namespace Rows

/-- THE TIED CARD OF 'footmanlaw05.HostsLabels'. -/
def hostsLabelsCard : Claim7 := { stood := { row := hostsLabelsRow, standIns := [], harness := (true, "4592a39fbd09de710ec78592435a8c61e412f1b3c2773ad21193dc0974a5a764"), looks := true }, kinds := [], alts := [], laidByText := true, laidKinds := [.data, .data, .data, .data, .sentinel, .sentinel, .pinned], laidTests := true, laidLooks := .later }
def HostsLabelsCardSaid : Prop := Claim7.holds Tryz.pinned (.plain (OpenSpec.ofChange hostsLabelsSpec)) hostsLabelsCard

/-- THE TIED CARD OF 'footmanlaw05.HostsParses'. -/
def hostsParsesCard : Claim7 := { stood := { row := hostsParsesRow, standIns := [], harness := (true, "4592a39fbd09de710ec78592435a8c61e412f1b3c2773ad21193dc0974a5a764"), looks := true }, kinds := [], alts := [], laidByText := true, laidKinds := [.data, .data, .data, .data, .sentinel, .sentinel, .pinned], laidTests := true, laidLooks := .later }
def HostsParsesCardSaid : Prop := Claim7.holds Tryz.pinned (.plain (OpenSpec.ofChange hostsParsesSpec)) hostsParsesCard

/-- THE TIED CARD OF 'footmanlaw05.HostsAgain'. -/
def hostsAgainCard : Claim7 := { stood := { row := hostsAgainRow, standIns := [], harness := (true, "4592a39fbd09de710ec78592435a8c61e412f1b3c2773ad21193dc0974a5a764"), looks := true }, kinds := [], alts := [], laidByText := true, laidKinds := [.data, .data, .data, .data, .sentinel, .sentinel, .pinned], laidTests := true, laidLooks := .later }
def HostsAgainCardSaid : Prop := Claim7.holds Tryz.pinned (.plain (OpenSpec.ofChange hostsAgainSpec)) hostsAgainCard

/-- THE TIED CARD OF 'footmanlaw05.HostsSigns'. -/
def hostsSignsCard : Claim7 := { stood := { row := hostsSignsRow, standIns := [], harness := (true, "4592a39fbd09de710ec78592435a8c61e412f1b3c2773ad21193dc0974a5a764"), looks := true }, kinds := [], alts := [], laidByText := true, laidKinds := [.data, .data, .data, .data, .sentinel, .sentinel, .pinned], laidTests := true, laidLooks := .later }
def HostsSignsCardSaid : Prop := Claim7.holds Tryz.pinned (.plain (OpenSpec.ofChange hostsSignsSpec)) hostsSignsCard

/-- THE TIED CARD OF 'footmanlaw05.HostsUp'. -/
def hostsUpCard : Claim7 := { stood := { row := hostsUpRow, standIns := [], harness := (true, "4592a39fbd09de710ec78592435a8c61e412f1b3c2773ad21193dc0974a5a764"), looks := true }, kinds := [], alts := [], laidByText := true, laidKinds := [.data, .data, .data, .data, .sentinel, .sentinel, .pinned], laidTests := true, laidLooks := .later }
def HostsUpCardSaid : Prop := Claim7.holds Tryz.pinned (.plain (OpenSpec.ofChange hostsUpSpec)) hostsUpCard

/-- THE TIED CARD OF 'footmanlaw05.HostsPoints'. -/
def hostsPointsCard : Claim7 := { stood := { row := hostsPointsRow, standIns := [], harness := (true, "4592a39fbd09de710ec78592435a8c61e412f1b3c2773ad21193dc0974a5a764"), looks := true }, kinds := [], alts := [], laidByText := true, laidKinds := [.data, .data, .data, .data, .sentinel, .sentinel, .pinned], laidTests := true, laidLooks := .later }
def HostsPointsCardSaid : Prop := Claim7.holds Tryz.pinned (.plain (OpenSpec.ofChange hostsPointsSpec)) hostsPointsCard

/-- THE TIED CARD OF 'footmanlaw05.HostsFours'. -/
def hostsFoursCard : Claim7 := { stood := { row := hostsFoursRow, standIns := [], harness := (true, "4592a39fbd09de710ec78592435a8c61e412f1b3c2773ad21193dc0974a5a764"), looks := true }, kinds := [], alts := [], laidByText := true, laidKinds := [.data, .data, .data, .data, .sentinel, .sentinel, .pinned], laidTests := true, laidLooks := .later }
def HostsFoursCardSaid : Prop := Claim7.holds Tryz.pinned (.plain (OpenSpec.ofChange hostsFoursSpec)) hostsFoursCard

/-- THE SECOND FORM's CARD OF 'footmanlaw05.HostsLabels'. -/
def hostsLabelsUptoCard : Claim7 := { stood := { row := hostsLabelsUptoRow, standIns := [], harness := (true, "4592a39fbd09de710ec78592435a8c61e412f1b3c2773ad21193dc0974a5a764"), looks := true }, kinds := [], alts := [], laidByText := true, laidKinds := [.data, .data, .data, .data, .sentinel, .sentinel, .pinned], laidTests := true, laidLooks := .later }
def HostsLabelsUptoCardSaid : Prop := Claim7.holds Tryz.pinned (.plain (OpenSpec.upto hostsLabelsSpec)) hostsLabelsUptoCard

/-- THE SECOND FORM's CARD OF 'footmanlaw05.HostsParses'. -/
def hostsParsesUptoCard : Claim7 := { stood := { row := hostsParsesUptoRow, standIns := [], harness := (true, "4592a39fbd09de710ec78592435a8c61e412f1b3c2773ad21193dc0974a5a764"), looks := true }, kinds := [], alts := [], laidByText := true, laidKinds := [.data, .data, .data, .data, .sentinel, .sentinel, .pinned], laidTests := true, laidLooks := .later }
def HostsParsesUptoCardSaid : Prop := Claim7.holds Tryz.pinned (.plain (OpenSpec.upto hostsParsesSpec)) hostsParsesUptoCard

/-- THE SECOND FORM's CARD OF 'footmanlaw05.HostsAgain'. -/
def hostsAgainUptoCard : Claim7 := { stood := { row := hostsAgainUptoRow, standIns := [], harness := (true, "4592a39fbd09de710ec78592435a8c61e412f1b3c2773ad21193dc0974a5a764"), looks := true }, kinds := [], alts := [], laidByText := true, laidKinds := [.data, .data, .data, .data, .sentinel, .sentinel, .pinned], laidTests := true, laidLooks := .later }
def HostsAgainUptoCardSaid : Prop := Claim7.holds Tryz.pinned (.plain (OpenSpec.upto hostsAgainSpec)) hostsAgainUptoCard

/-- THE SECOND FORM's CARD OF 'footmanlaw05.HostsSigns'. -/
def hostsSignsUptoCard : Claim7 := { stood := { row := hostsSignsUptoRow, standIns := [], harness := (true, "4592a39fbd09de710ec78592435a8c61e412f1b3c2773ad21193dc0974a5a764"), looks := true }, kinds := [], alts := [], laidByText := true, laidKinds := [.data, .data, .data, .data, .sentinel, .sentinel, .pinned], laidTests := true, laidLooks := .later }
def HostsSignsUptoCardSaid : Prop := Claim7.holds Tryz.pinned (.plain (OpenSpec.upto hostsSignsSpec)) hostsSignsUptoCard

/-- THE SECOND FORM's CARD OF 'footmanlaw05.HostsUp'. -/
def hostsUpUptoCard : Claim7 := { stood := { row := hostsUpUptoRow, standIns := [], harness := (true, "4592a39fbd09de710ec78592435a8c61e412f1b3c2773ad21193dc0974a5a764"), looks := true }, kinds := [], alts := [], laidByText := true, laidKinds := [.data, .data, .data, .data, .sentinel, .sentinel, .pinned], laidTests := true, laidLooks := .later }
def HostsUpUptoCardSaid : Prop := Claim7.holds Tryz.pinned (.plain (OpenSpec.upto hostsUpSpec)) hostsUpUptoCard

/-- THE SECOND FORM's CARD OF 'footmanlaw05.HostsPoints'. -/
def hostsPointsUptoCard : Claim7 := { stood := { row := hostsPointsUptoRow, standIns := [], harness := (true, "4592a39fbd09de710ec78592435a8c61e412f1b3c2773ad21193dc0974a5a764"), looks := true }, kinds := [], alts := [], laidByText := true, laidKinds := [.data, .data, .data, .data, .sentinel, .sentinel, .pinned], laidTests := true, laidLooks := .later }
def HostsPointsUptoCardSaid : Prop := Claim7.holds Tryz.pinned (.plain (OpenSpec.upto hostsPointsSpec)) hostsPointsUptoCard

/-- THE SECOND FORM's CARD OF 'footmanlaw05.HostsFours'. -/
def hostsFoursUptoCard : Claim7 := { stood := { row := hostsFoursUptoRow, standIns := [], harness := (true, "4592a39fbd09de710ec78592435a8c61e412f1b3c2773ad21193dc0974a5a764"), looks := true }, kinds := [], alts := [], laidByText := true, laidKinds := [.data, .data, .data, .data, .sentinel, .sentinel, .pinned], laidTests := true, laidLooks := .later }
def HostsFoursUptoCardSaid : Prop := Claim7.holds Tryz.pinned (.plain (OpenSpec.upto hostsFoursSpec)) hostsFoursUptoCard
end Rows
end Go.Proofs.YtijobaecakhnjaaGreatDoor
