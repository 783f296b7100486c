/-
  DERIVED. GIVEN WITH THE SEED: THE CARDS: each row of YtaijdjmkmhpmpaaDoorRows.lean that lists a variable, with what it lists TIED to the program's text (the seventh form; the later family's looks); each row that meets fmt, with fmt's text TOLD by the authors' own Lean function (tested against real Go, not proved from fmt's source: count such statements apart). THE CARD IS WHAT COUNTS. Prove the row's statement (the work); the ties are given (YtaijdjmkmhpmpaaDoorTie.lean); close each card by the builder's one call (the guide's Derived/Test/ToyasCard.lean, 'card_holds'). Laid BY PROGRAM, IN A SANDBOX (cutbox-door.mjs). By AI agents, Wed Nov 11 2026. No macro, syntax, notation, axiom, sorry.
-/
import Derived.Test.YtaijdjmkmhpmpaaDoorRows
import GoSem.ClaimSeven
namespace Go.Proofs.YtaijdjmkmhpmpaaDoor
namespace Rows

/-- THE TIED CARD OF 'footmanlaw08.SuffixChecks'. -/
def suffixChecksCard : Claim7 := { stood := { row := suffixChecksRow, standIns := [], harness := (true, "87d03797e626077d28ed63e00144fb2df187f732fe9ac6886685c2bf0e4e61e4"), looks := false }, kinds := [], alts := [], laidByText := true, laidKinds := [.data, .pinned], laidTests := true, laidLooks := .later }
def SuffixChecksCardSaid : Prop := Claim7.holds Tryd.pinned (.plain (OpenSpec.ofChange suffixChecksSpec)) suffixChecksCard

/-- THE SECOND FORM's CARD OF 'footmanlaw08.SuffixChecks'. -/
def suffixChecksUptoCard : Claim7 := { stood := { row := suffixChecksUptoRow, standIns := [], harness := (true, "87d03797e626077d28ed63e00144fb2df187f732fe9ac6886685c2bf0e4e61e4"), looks := false }, kinds := [], alts := [], laidByText := true, laidKinds := [.data, .pinned], laidTests := true, laidLooks := .later }
def SuffixChecksUptoCardSaid : Prop := Claim7.holds Tryd.pinned (.plain (OpenSpec.upto suffixChecksSpec)) suffixChecksUptoCard
end Rows
end Go.Proofs.YtaijdjmkmhpmpaaDoor
