/-
  DERIVED. GIVEN WITH THE SEED: THE CARDS: each row of YtafieajameapiaaDoorRows.lean that lists a variable, with what it lists TIED to the program's text (the seventh form; the later family's looks); each row that meets fmt, with fmt's text TOLD by the authors' own Lean function (tested against real Go, not proved from fmt's source: count such statements apart). THE CARD IS WHAT COUNTS. Prove the row's statement (the work); the ties are given (YtafieajameapiaaDoorTie.lean); close each card by the builder's one call (the guide's Derived/Test/ToyasCard.lean, 'card_holds'). Laid BY PROGRAM, IN A SANDBOX (cutbox-door.mjs). By AI agents, Wed Nov 11 2026. No macro, syntax, notation, axiom, sorry.
-/
import Derived.Test.YtafieajameapiaaDoorRows
import GoSem.ClaimSeven
namespace Go.Proofs.YtafieajameapiaaDoor
namespace Rows

/-- THE TIED CARD OF 'footmanlaw02.PunyEncodes'. -/
def punyEncodesCard : Claim7 := { stood := { row := punyEncodesRow, standIns := [], harness := (true, "a0f56c198b0f53fe0c84e065437f2e6441cfebe79b3b06fd415a007dc2d31bcd"), looks := false }, kinds := [], alts := [], laidByText := true, laidKinds := [.data, .pinned], laidTests := true, laidLooks := .later }
def PunyEncodesCardSaid : Prop := Claim7.holds Tryd.pinned (.plain (OpenSpec.ofChange punyEncodesSpec)) punyEncodesCard

/-- THE TIED CARD OF 'footmanlaw02.PunyLabels'. -/
def punyLabelsCard : Claim7 := { stood := { row := punyLabelsRow, standIns := [], harness := (true, "a0f56c198b0f53fe0c84e065437f2e6441cfebe79b3b06fd415a007dc2d31bcd"), looks := false }, kinds := [], alts := [], laidByText := true, laidKinds := [.data, .pinned], laidTests := true, laidLooks := .later }
def PunyLabelsCardSaid : Prop := Claim7.holds Tryd.pinned (.plain (OpenSpec.ofChange punyLabelsSpec)) punyLabelsCard

/-- THE TIED CARD OF 'footmanlaw02.PunyBack'. -/
def punyBackCard : Claim7 := { stood := { row := punyBackRow, standIns := [], harness := (true, "a0f56c198b0f53fe0c84e065437f2e6441cfebe79b3b06fd415a007dc2d31bcd"), looks := false }, kinds := [], alts := [], laidByText := true, laidKinds := [.data, .pinned], laidTests := true, laidLooks := .later }
def PunyBackCardSaid : Prop := Claim7.holds Tryd.pinned (.plain (OpenSpec.ofChange punyBackSpec)) punyBackCard

/-- THE TIED CARD OF 'footmanlaw02.PunyAgain'. -/
def punyAgainCard : Claim7 := { stood := { row := punyAgainRow, standIns := [], harness := (true, "a0f56c198b0f53fe0c84e065437f2e6441cfebe79b3b06fd415a007dc2d31bcd"), looks := false }, kinds := [], alts := [], laidByText := true, laidKinds := [.data, .pinned], laidTests := true, laidLooks := .later }
def PunyAgainCardSaid : Prop := Claim7.holds Tryd.pinned (.plain (OpenSpec.ofChange punyAgainSpec)) punyAgainCard

/-- THE TIED CARD OF 'footmanlaw02.PunyCase'. -/
def punyCaseCard : Claim7 := { stood := { row := punyCaseRow, standIns := [], harness := (true, "a0f56c198b0f53fe0c84e065437f2e6441cfebe79b3b06fd415a007dc2d31bcd"), looks := false }, kinds := [], alts := [], laidByText := true, laidKinds := [.data, .pinned], laidTests := true, laidLooks := .later }
def PunyCaseCardSaid : Prop := Claim7.holds Tryd.pinned (.plain (OpenSpec.ofChange punyCaseSpec)) punyCaseCard

/-- THE TIED CARD OF 'footmanlaw02.PunyAsked'. -/
def punyAskedCard : Claim7 := { stood := { row := punyAskedRow, standIns := [], harness := (true, "a0f56c198b0f53fe0c84e065437f2e6441cfebe79b3b06fd415a007dc2d31bcd"), looks := false }, kinds := [], alts := [], laidByText := true, laidKinds := [.data, .pinned], laidTests := true, laidLooks := .later }
def PunyAskedCardSaid : Prop := Claim7.holds Tryd.pinned (.plain (OpenSpec.ofChange punyAskedSpec)) punyAskedCard

/-- THE TIED CARD OF 'footmanlaw02.PunyPlain'. -/
def punyPlainCard : Claim7 := { stood := { row := punyPlainRow, standIns := [], harness := (true, "a0f56c198b0f53fe0c84e065437f2e6441cfebe79b3b06fd415a007dc2d31bcd"), looks := false }, kinds := [], alts := [], laidByText := true, laidKinds := [.data, .pinned], laidTests := true, laidLooks := .later }
def PunyPlainCardSaid : Prop := Claim7.holds Tryd.pinned (.plain (OpenSpec.ofChange punyPlainSpec)) punyPlainCard

/-- THE SECOND FORM's CARD OF 'footmanlaw02.PunyEncodes'. -/
def punyEncodesUptoCard : Claim7 := { stood := { row := punyEncodesUptoRow, standIns := [], harness := (true, "a0f56c198b0f53fe0c84e065437f2e6441cfebe79b3b06fd415a007dc2d31bcd"), looks := false }, kinds := [], alts := [], laidByText := true, laidKinds := [.data, .pinned], laidTests := true, laidLooks := .later }
def PunyEncodesUptoCardSaid : Prop := Claim7.holds Tryd.pinned (.plain (OpenSpec.upto punyEncodesSpec)) punyEncodesUptoCard

/-- THE SECOND FORM's CARD OF 'footmanlaw02.PunyLabels'. -/
def punyLabelsUptoCard : Claim7 := { stood := { row := punyLabelsUptoRow, standIns := [], harness := (true, "a0f56c198b0f53fe0c84e065437f2e6441cfebe79b3b06fd415a007dc2d31bcd"), looks := false }, kinds := [], alts := [], laidByText := true, laidKinds := [.data, .pinned], laidTests := true, laidLooks := .later }
def PunyLabelsUptoCardSaid : Prop := Claim7.holds Tryd.pinned (.plain (OpenSpec.upto punyLabelsSpec)) punyLabelsUptoCard

/-- THE SECOND FORM's CARD OF 'footmanlaw02.PunyBack'. -/
def punyBackUptoCard : Claim7 := { stood := { row := punyBackUptoRow, standIns := [], harness := (true, "a0f56c198b0f53fe0c84e065437f2e6441cfebe79b3b06fd415a007dc2d31bcd"), looks := false }, kinds := [], alts := [], laidByText := true, laidKinds := [.data, .pinned], laidTests := true, laidLooks := .later }
def PunyBackUptoCardSaid : Prop := Claim7.holds Tryd.pinned (.plain (OpenSpec.upto punyBackSpec)) punyBackUptoCard

/-- THE SECOND FORM's CARD OF 'footmanlaw02.PunyAgain'. -/
def punyAgainUptoCard : Claim7 := { stood := { row := punyAgainUptoRow, standIns := [], harness := (true, "a0f56c198b0f53fe0c84e065437f2e6441cfebe79b3b06fd415a007dc2d31bcd"), looks := false }, kinds := [], alts := [], laidByText := true, laidKinds := [.data, .pinned], laidTests := true, laidLooks := .later }
def PunyAgainUptoCardSaid : Prop := Claim7.holds Tryd.pinned (.plain (OpenSpec.upto punyAgainSpec)) punyAgainUptoCard

/-- THE SECOND FORM's CARD OF 'footmanlaw02.PunyCase'. -/
def punyCaseUptoCard : Claim7 := { stood := { row := punyCaseUptoRow, standIns := [], harness := (true, "a0f56c198b0f53fe0c84e065437f2e6441cfebe79b3b06fd415a007dc2d31bcd"), looks := false }, kinds := [], alts := [], laidByText := true, laidKinds := [.data, .pinned], laidTests := true, laidLooks := .later }
def PunyCaseUptoCardSaid : Prop := Claim7.holds Tryd.pinned (.plain (OpenSpec.upto punyCaseSpec)) punyCaseUptoCard

/-- THE SECOND FORM's CARD OF 'footmanlaw02.PunyAsked'. -/
def punyAskedUptoCard : Claim7 := { stood := { row := punyAskedUptoRow, standIns := [], harness := (true, "a0f56c198b0f53fe0c84e065437f2e6441cfebe79b3b06fd415a007dc2d31bcd"), looks := false }, kinds := [], alts := [], laidByText := true, laidKinds := [.data, .pinned], laidTests := true, laidLooks := .later }
def PunyAskedUptoCardSaid : Prop := Claim7.holds Tryd.pinned (.plain (OpenSpec.upto punyAskedSpec)) punyAskedUptoCard

/-- THE SECOND FORM's CARD OF 'footmanlaw02.PunyPlain'. -/
def punyPlainUptoCard : Claim7 := { stood := { row := punyPlainUptoRow, standIns := [], harness := (true, "a0f56c198b0f53fe0c84e065437f2e6441cfebe79b3b06fd415a007dc2d31bcd"), looks := false }, kinds := [], alts := [], laidByText := true, laidKinds := [.data, .pinned], laidTests := true, laidLooks := .later }
def PunyPlainUptoCardSaid : Prop := Claim7.holds Tryd.pinned (.plain (OpenSpec.upto punyPlainSpec)) punyPlainUptoCard
end Rows
end Go.Proofs.YtafieajameapiaaDoor
