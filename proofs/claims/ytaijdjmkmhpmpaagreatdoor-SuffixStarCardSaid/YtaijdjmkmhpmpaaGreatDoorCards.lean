/-
  DERIVED. GIVEN WITH THE SEED: THE CARDS: each row of YtaijdjmkmhpmpaaGreatDoorRows.lean that lists a variable, with what it lists TIED to the program's text (the seventh form; the later family's looks); each row that meets fmt, with fmt's text TOLD by the authors' own Lean function (tested against real Go, not proved from fmt's source: count such statements apart). THE CARD IS WHAT COUNTS. Prove the row's statement (the work); the ties are given (YtaijdjmkmhpmpaaGreatDoorTie.lean); close each card by the builder's one call (the guide's Derived/Test/ToyasCard.lean, 'card_holds'). Laid BY PROGRAM, IN A SANDBOX (cutbox-door.mjs). By AI agents, Wed Nov 11 2026. No macro, syntax, notation, axiom, sorry.
-/
import Derived.Test.YtaijdjmkmhpmpaaGreatDoorRows
import GoSem.ClaimSeven
namespace Go.Proofs.YtaijdjmkmhpmpaaGreatDoor
namespace Rows

/-- THE TIED CARD OF 'footmanlaw08.SuffixOf'. -/
def suffixOfCard : Claim7 := { stood := { row := suffixOfRow, standIns := [], harness := (true, "a34428c7a5f7673ca119778a3806f32360c6b52a4ad36a850d50c4ae87e2647b"), looks := true }, kinds := [], alts := [], laidByText := true, laidKinds := [.data, .data, .data, .data, .sentinel, .sentinel, .pinned], laidTests := true, laidLooks := .later }
def SuffixOfCardSaid : Prop := Claim7.holds Tryz.pinned (.plain (OpenSpec.ofChange suffixOfSpec)) suffixOfCard

/-- THE TIED CARD OF 'footmanlaw08.SuffixOwns'. -/
def suffixOwnsCard : Claim7 := { stood := { row := suffixOwnsRow, standIns := [], harness := (true, "a34428c7a5f7673ca119778a3806f32360c6b52a4ad36a850d50c4ae87e2647b"), looks := true }, kinds := [], alts := [], laidByText := true, laidKinds := [.data, .data, .data, .data, .sentinel, .sentinel, .pinned], laidTests := true, laidLooks := .later }
def SuffixOwnsCardSaid : Prop := Claim7.holds Tryz.pinned (.plain (OpenSpec.ofChange suffixOwnsSpec)) suffixOwnsCard

/-- THE TIED CARD OF 'footmanlaw08.SuffixOrder'. -/
def suffixOrderCard : Claim7 := { stood := { row := suffixOrderRow, standIns := [], harness := (true, "a34428c7a5f7673ca119778a3806f32360c6b52a4ad36a850d50c4ae87e2647b"), looks := true }, kinds := [], alts := [], laidByText := true, laidKinds := [.data, .data, .data, .data, .sentinel, .sentinel, .pinned], laidTests := true, laidLooks := .later }
def SuffixOrderCardSaid : Prop := Claim7.holds Tryz.pinned (.plain (OpenSpec.ofChange suffixOrderSpec)) suffixOrderCard

/-- THE TIED CARD OF 'footmanlaw08.SuffixNone'. -/
def suffixNoneCard : Claim7 := { stood := { row := suffixNoneRow, standIns := [], harness := (true, "a34428c7a5f7673ca119778a3806f32360c6b52a4ad36a850d50c4ae87e2647b"), looks := true }, kinds := [], alts := [], laidByText := true, laidKinds := [.data, .data, .data, .data, .sentinel, .sentinel, .pinned], laidTests := true, laidLooks := .later }
def SuffixNoneCardSaid : Prop := Claim7.holds Tryz.pinned (.plain (OpenSpec.ofChange suffixNoneSpec)) suffixNoneCard

/-- THE TIED CARD OF 'footmanlaw08.SuffixStar'. -/
def suffixStarCard : Claim7 := { stood := { row := suffixStarRow, standIns := [], harness := (true, "a34428c7a5f7673ca119778a3806f32360c6b52a4ad36a850d50c4ae87e2647b"), looks := true }, kinds := [], alts := [], laidByText := true, laidKinds := [.data, .data, .data, .data, .sentinel, .sentinel, .pinned], laidTests := true, laidLooks := .later }
def SuffixStarCardSaid : Prop := Claim7.holds Tryz.pinned (.plain (OpenSpec.ofChange suffixStarSpec)) suffixStarCard

/-- THE TIED CARD OF 'footmanlaw08.SuffixMay'. -/
def suffixMayCard : Claim7 := { stood := { row := suffixMayRow, standIns := [], harness := (true, "a34428c7a5f7673ca119778a3806f32360c6b52a4ad36a850d50c4ae87e2647b"), looks := true }, kinds := [], alts := [], laidByText := true, laidKinds := [.data, .data, .data, .data, .sentinel, .sentinel, .pinned], laidTests := true, laidLooks := .later }
def SuffixMayCardSaid : Prop := Claim7.holds Tryz.pinned (.plain (OpenSpec.ofChange suffixMaySpec)) suffixMayCard

/-- THE TIED CARD OF 'footmanlaw08.SuffixBelow'. -/
def suffixBelowCard : Claim7 := { stood := { row := suffixBelowRow, standIns := [], harness := (true, "a34428c7a5f7673ca119778a3806f32360c6b52a4ad36a850d50c4ae87e2647b"), looks := true }, kinds := [], alts := [], laidByText := true, laidKinds := [.data, .data, .data, .data, .sentinel, .sentinel, .pinned], laidTests := true, laidLooks := .later }
def SuffixBelowCardSaid : Prop := Claim7.holds Tryz.pinned (.plain (OpenSpec.ofChange suffixBelowSpec)) suffixBelowCard

/-- THE SECOND FORM's CARD OF 'footmanlaw08.SuffixOf'. -/
def suffixOfUptoCard : Claim7 := { stood := { row := suffixOfUptoRow, standIns := [], harness := (true, "a34428c7a5f7673ca119778a3806f32360c6b52a4ad36a850d50c4ae87e2647b"), looks := true }, kinds := [], alts := [], laidByText := true, laidKinds := [.data, .data, .data, .data, .sentinel, .sentinel, .pinned], laidTests := true, laidLooks := .later }
def SuffixOfUptoCardSaid : Prop := Claim7.holds Tryz.pinned (.plain (OpenSpec.upto suffixOfSpec)) suffixOfUptoCard

/-- THE SECOND FORM's CARD OF 'footmanlaw08.SuffixOwns'. -/
def suffixOwnsUptoCard : Claim7 := { stood := { row := suffixOwnsUptoRow, standIns := [], harness := (true, "a34428c7a5f7673ca119778a3806f32360c6b52a4ad36a850d50c4ae87e2647b"), looks := true }, kinds := [], alts := [], laidByText := true, laidKinds := [.data, .data, .data, .data, .sentinel, .sentinel, .pinned], laidTests := true, laidLooks := .later }
def SuffixOwnsUptoCardSaid : Prop := Claim7.holds Tryz.pinned (.plain (OpenSpec.upto suffixOwnsSpec)) suffixOwnsUptoCard

/-- THE SECOND FORM's CARD OF 'footmanlaw08.SuffixOrder'. -/
def suffixOrderUptoCard : Claim7 := { stood := { row := suffixOrderUptoRow, standIns := [], harness := (true, "a34428c7a5f7673ca119778a3806f32360c6b52a4ad36a850d50c4ae87e2647b"), looks := true }, kinds := [], alts := [], laidByText := true, laidKinds := [.data, .data, .data, .data, .sentinel, .sentinel, .pinned], laidTests := true, laidLooks := .later }
def SuffixOrderUptoCardSaid : Prop := Claim7.holds Tryz.pinned (.plain (OpenSpec.upto suffixOrderSpec)) suffixOrderUptoCard

/-- THE SECOND FORM's CARD OF 'footmanlaw08.SuffixNone'. -/
def suffixNoneUptoCard : Claim7 := { stood := { row := suffixNoneUptoRow, standIns := [], harness := (true, "a34428c7a5f7673ca119778a3806f32360c6b52a4ad36a850d50c4ae87e2647b"), looks := true }, kinds := [], alts := [], laidByText := true, laidKinds := [.data, .data, .data, .data, .sentinel, .sentinel, .pinned], laidTests := true, laidLooks := .later }
def SuffixNoneUptoCardSaid : Prop := Claim7.holds Tryz.pinned (.plain (OpenSpec.upto suffixNoneSpec)) suffixNoneUptoCard

/-- THE SECOND FORM's CARD OF 'footmanlaw08.SuffixStar'. -/
def suffixStarUptoCard : Claim7 := { stood := { row := suffixStarUptoRow, standIns := [], harness := (true, "a34428c7a5f7673ca119778a3806f32360c6b52a4ad36a850d50c4ae87e2647b"), looks := true }, kinds := [], alts := [], laidByText := true, laidKinds := [.data, .data, .data, .data, .sentinel, .sentinel, .pinned], laidTests := true, laidLooks := .later }
def SuffixStarUptoCardSaid : Prop := Claim7.holds Tryz.pinned (.plain (OpenSpec.upto suffixStarSpec)) suffixStarUptoCard

/-- THE SECOND FORM's CARD OF 'footmanlaw08.SuffixMay'. -/
def suffixMayUptoCard : Claim7 := { stood := { row := suffixMayUptoRow, standIns := [], harness := (true, "a34428c7a5f7673ca119778a3806f32360c6b52a4ad36a850d50c4ae87e2647b"), looks := true }, kinds := [], alts := [], laidByText := true, laidKinds := [.data, .data, .data, .data, .sentinel, .sentinel, .pinned], laidTests := true, laidLooks := .later }
def SuffixMayUptoCardSaid : Prop := Claim7.holds Tryz.pinned (.plain (OpenSpec.upto suffixMaySpec)) suffixMayUptoCard

/-- THE SECOND FORM's CARD OF 'footmanlaw08.SuffixBelow'. -/
def suffixBelowUptoCard : Claim7 := { stood := { row := suffixBelowUptoRow, standIns := [], harness := (true, "a34428c7a5f7673ca119778a3806f32360c6b52a4ad36a850d50c4ae87e2647b"), looks := true }, kinds := [], alts := [], laidByText := true, laidKinds := [.data, .data, .data, .data, .sentinel, .sentinel, .pinned], laidTests := true, laidLooks := .later }
def SuffixBelowUptoCardSaid : Prop := Claim7.holds Tryz.pinned (.plain (OpenSpec.upto suffixBelowSpec)) suffixBelowUptoCard
end Rows
end Go.Proofs.YtaijdjmkmhpmpaaGreatDoor
