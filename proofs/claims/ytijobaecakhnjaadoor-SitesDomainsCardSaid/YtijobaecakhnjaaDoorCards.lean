/-
  DERIVED. GIVEN WITH THE SEED: THE CARDS: each row of YtijobaecakhnjaaDoorRows.lean that lists a variable, with what it lists TIED to the program's text (the seventh form; the later family's looks); each row that meets fmt, with fmt's text TOLD by the authors' own Lean function (tested against real Go, not proved from fmt's source: count such statements apart). THE CARD IS WHAT COUNTS. Prove the row's statement (the work); the ties are given (YtijobaecakhnjaaDoorTie.lean); close each card by the builder's one call (the guide's Derived/Test/ToyasCard.lean, 'card_holds'). Laid BY PROGRAM, IN A SANDBOX (cutbox-door.mjs). By AI agents, Wed Nov 11 2026. No macro, syntax, notation, axiom, sorry.
-/
import Derived.Test.YtijobaecakhnjaaDoorRows
import GoSem.ClaimSeven
namespace Go.Proofs.YtijobaecakhnjaaDoor
namespace Rows

/-- THE TIED CARD OF 'footmanlaw05.HostsBelows'. -/
def hostsBelowsCard : Claim7 := { stood := { row := hostsBelowsRow, standIns := [], harness := (true, "5b7f3000d3d6984dc1d9efe64538bd3318517ee7fcb784e0dc21d627252a2c42"), looks := true }, kinds := [], alts := [], laidByText := true, laidKinds := [.data, .data, .data, .data, .sentinel, .sentinel, .pinned], laidTests := true, laidLooks := .later }
def HostsBelowsCardSaid : Prop := Claim7.holds Tryd.pinned (.plain (OpenSpec.ofChange hostsBelowsSpec)) hostsBelowsCard

/-- THE TIED CARD OF 'footmanlaw09.SitesDomains'. -/
def sitesDomainsCard : Claim7 := { stood := { row := sitesDomainsRow, standIns := [], harness := (true, "5b7f3000d3d6984dc1d9efe64538bd3318517ee7fcb784e0dc21d627252a2c42"), looks := true }, kinds := [], alts := [], laidByText := true, laidKinds := [.data, .data, .data, .data, .sentinel, .sentinel, .pinned], laidTests := true, laidLooks := .later }
def SitesDomainsCardSaid : Prop := Claim7.holds Tryd.pinned (.plain (OpenSpec.ofChange sitesDomainsSpec)) sitesDomainsCard

/-- THE SECOND FORM's CARD OF 'footmanlaw05.HostsBelows'. -/
def hostsBelowsUptoCard : Claim7 := { stood := { row := hostsBelowsUptoRow, standIns := [], harness := (true, "5b7f3000d3d6984dc1d9efe64538bd3318517ee7fcb784e0dc21d627252a2c42"), looks := true }, kinds := [], alts := [], laidByText := true, laidKinds := [.data, .data, .data, .data, .sentinel, .sentinel, .pinned], laidTests := true, laidLooks := .later }
def HostsBelowsUptoCardSaid : Prop := Claim7.holds Tryd.pinned (.plain (OpenSpec.upto hostsBelowsSpec)) hostsBelowsUptoCard

/-- THE SECOND FORM's CARD OF 'footmanlaw09.SitesDomains'. -/
def sitesDomainsUptoCard : Claim7 := { stood := { row := sitesDomainsUptoRow, standIns := [], harness := (true, "5b7f3000d3d6984dc1d9efe64538bd3318517ee7fcb784e0dc21d627252a2c42"), looks := true }, kinds := [], alts := [], laidByText := true, laidKinds := [.data, .data, .data, .data, .sentinel, .sentinel, .pinned], laidTests := true, laidLooks := .later }
def SitesDomainsUptoCardSaid : Prop := Claim7.holds Tryd.pinned (.plain (OpenSpec.upto sitesDomainsSpec)) sitesDomainsUptoCard
end Rows
end Go.Proofs.YtijobaecakhnjaaDoor
