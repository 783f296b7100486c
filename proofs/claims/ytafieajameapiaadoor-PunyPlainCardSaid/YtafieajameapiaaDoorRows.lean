/-
  NARROWER THAN 'FOR EVERY INPUT', by the rows' own cells (each row's printed sentence says how): PunyEncodes: laid · PunyLabels: laid · PunyBack: laid · PunyAgain: laid · PunyCase: laid · PunyAsked: laid · PunyPlain: laid.
  DERIVED. THE GIVEN ROWS OF THIS SEAT. 7 by the template 'for every input the law returns true; each argument reads behind the call as it read before'; 0 by the template 'total and deterministic' (their statements: YtafieajameapiaaDoorTotals.lean).
  GIVEN WITH THE SEED: the statements are not yours to turn. If you find one false, say at which input.
  Laid BY PROGRAM, IN A SANDBOX (cutbox-rows.mjs): the forced cells as the released guide's own fill.sh prints them over the translation a106369b9fac9ac4… (all of the seat's roots in one cut). By AI agents, Wed Nov 11 2026. No macro, syntax, notation, axiom, sorry.
-/
import Derived.Test.YtafieajameapiaaDoorChecked
import GoSem.PinnedTables
import GoSem.Claim
import GoSem.ClaimJoined
import GoSem.ClaimMapViews
import Derived.JoinedTies
import Derived.KernelRfl
namespace Go.Proofs.YtafieajameapiaaDoor
/- THE CELL 'sum', in the pinned program and in every row, IS THE sha256 OF THE DUMP (.gsa) THAT YtafieajameapiaaDoorProg.lean LOADS. Nothing in Lean hashes anything: it is a label: what it is worth is what the hold of that sum in a sandbox is worth. -/
noncomputable def Tryd.pinned : Pinned := { name := "ytafieajameapiaadoor", sum := "a106369b9fac9ac435ad89741b6eff014e8fd01d8f07db78cbfbb62968a43ab1", checked := Tryd.checked }
namespace Rows
def none {H : Type} : Left H := { results := [], args := [] }

/- WHAT THE LISTED PACKAGE-LEVEL VARIABLES READ AS WHEN THE CALL BEGINS. Each datum BY PROGRAM (the guide's laid-datum.mjs) off the statement by which the dump's own 'gosem.cut.vars' lays the variable. In a bare row this is a premise. The card (YtafieajameapiaaDoorCards.lean) ties it to the program's text. -/
def laid_unicode_utf8_acceptRanges {H : Type} : DataW H := .agg [.agg [.lit (.int .u8 128), .lit (.int .u8 191)], .agg [.lit (.int .u8 160), .lit (.int .u8 191)], .agg [.lit (.int .u8 128), .lit (.int .u8 159)], .agg [.lit (.int .u8 144), .lit (.int .u8 191)], .agg [.lit (.int .u8 128), .lit (.int .u8 143)], .agg [.lit (.int .u8 0), .lit (.int .u8 0)], .agg [.lit (.int .u8 0), .lit (.int .u8 0)], .agg [.lit (.int .u8 0), .lit (.int .u8 0)], .agg [.lit (.int .u8 0), .lit (.int .u8 0)], .agg [.lit (.int .u8 0), .lit (.int .u8 0)], .agg [.lit (.int .u8 0), .lit (.int .u8 0)], .agg [.lit (.int .u8 0), .lit (.int .u8 0)], .agg [.lit (.int .u8 0), .lit (.int .u8 0)], .agg [.lit (.int .u8 0), .lit (.int .u8 0)], .agg [.lit (.int .u8 0), .lit (.int .u8 0)], .agg [.lit (.int .u8 0), .lit (.int .u8 0)]]
/-- One of Go's own tables, pinned by name: the form's constant. -/
def laid_unicode_utf8_first : DataW Unit := Go.Pinned.utf8First

/-- 'footmanlaw02.PunyEncodes': WHATEVER THE INPUT: true; the input reads as it did. -/
def punyEncodesSpec : ChangeSpec := { name := "punyEncodes", fn := fun _ => fun
  | [d] => { results := [.lit (.bool true)], args := [d] }
  | _ => none }
def punyEncodesRow : OpenClaim := { program := "ytafieajameapiaadoor", sum := "a106369b9fac9ac435ad89741b6eff014e8fd01d8f07db78cbfbb62968a43ab1", func := "footman/footmanlaw02.PunyEncodes", spec := "punyEncodes", inPlace := ["internal/abi.NoEscape"], unfollowed := true, recurses := true, named := ["unicode/utf8.first", "unicode/utf8.acceptRanges"], apart := false, laid := [("unicode/utf8.acceptRanges", laid_unicode_utf8_acceptRanges), ("unicode/utf8.first", laid_unicode_utf8_first)] }
def PunyEncodesSaid : Prop := punyEncodesRow.holds Tryd.pinned (OpenSpec.ofChange punyEncodesSpec)

/-- ITS FALSE NEIGHBOUR: 'it returns false'. Refute it at one input. -/
def punyEncodesWrong : ChangeSpec := { name := "punyEncodes", fn := fun _ => fun
  | [d] => { results := [.lit (.bool false)], args := [d] }
  | _ => none }
def PunyEncodesWrongFalsely : Prop := punyEncodesRow.holds Tryd.pinned (OpenSpec.ofChange punyEncodesWrong)

/-- 'footmanlaw02.PunyLabels': WHATEVER THE INPUT: true; the input reads as it did. -/
def punyLabelsSpec : ChangeSpec := { name := "punyLabels", fn := fun _ => fun
  | [d] => { results := [.lit (.bool true)], args := [d] }
  | _ => none }
def punyLabelsRow : OpenClaim := { program := "ytafieajameapiaadoor", sum := "a106369b9fac9ac435ad89741b6eff014e8fd01d8f07db78cbfbb62968a43ab1", func := "footman/footmanlaw02.PunyLabels", spec := "punyLabels", inPlace := ["internal/bytealg.IndexByteString", "slices.overlaps[rune]", "internal/abi.NoEscape"], unfollowed := true, recurses := true, named := ["unicode/utf8.first", "unicode/utf8.acceptRanges"], apart := false, laid := [("unicode/utf8.acceptRanges", laid_unicode_utf8_acceptRanges), ("unicode/utf8.first", laid_unicode_utf8_first)] }
def PunyLabelsSaid : Prop := punyLabelsRow.holds Tryd.pinned (OpenSpec.ofChange punyLabelsSpec)

/-- ITS FALSE NEIGHBOUR: 'it returns false'. Refute it at one input. -/
def punyLabelsWrong : ChangeSpec := { name := "punyLabels", fn := fun _ => fun
  | [d] => { results := [.lit (.bool false)], args := [d] }
  | _ => none }
def PunyLabelsWrongFalsely : Prop := punyLabelsRow.holds Tryd.pinned (OpenSpec.ofChange punyLabelsWrong)

/-- 'footmanlaw02.PunyBack': WHATEVER THE INPUT: true; the input reads as it did. -/
def punyBackSpec : ChangeSpec := { name := "punyBack", fn := fun _ => fun
  | [d] => { results := [.lit (.bool true)], args := [d] }
  | _ => none }
def punyBackRow : OpenClaim := { program := "ytafieajameapiaadoor", sum := "a106369b9fac9ac435ad89741b6eff014e8fd01d8f07db78cbfbb62968a43ab1", func := "footman/footmanlaw02.PunyBack", spec := "punyBack", inPlace := ["internal/bytealg.IndexByteString", "slices.overlaps[rune]", "internal/abi.NoEscape"], unfollowed := true, recurses := true, named := ["unicode/utf8.first", "unicode/utf8.acceptRanges"], apart := false, laid := [("unicode/utf8.acceptRanges", laid_unicode_utf8_acceptRanges), ("unicode/utf8.first", laid_unicode_utf8_first)] }
def PunyBackSaid : Prop := punyBackRow.holds Tryd.pinned (OpenSpec.ofChange punyBackSpec)

/-- ITS FALSE NEIGHBOUR: 'it returns false'. Refute it at one input. -/
def punyBackWrong : ChangeSpec := { name := "punyBack", fn := fun _ => fun
  | [d] => { results := [.lit (.bool false)], args := [d] }
  | _ => none }
def PunyBackWrongFalsely : Prop := punyBackRow.holds Tryd.pinned (OpenSpec.ofChange punyBackWrong)

/-- 'footmanlaw02.PunyAgain': WHATEVER THE INPUT: true; the input reads as it did. -/
def punyAgainSpec : ChangeSpec := { name := "punyAgain", fn := fun _ => fun
  | [d] => { results := [.lit (.bool true)], args := [d] }
  | _ => none }
def punyAgainRow : OpenClaim := { program := "ytafieajameapiaadoor", sum := "a106369b9fac9ac435ad89741b6eff014e8fd01d8f07db78cbfbb62968a43ab1", func := "footman/footmanlaw02.PunyAgain", spec := "punyAgain", inPlace := ["internal/bytealg.IndexByteString", "slices.overlaps[rune]", "internal/abi.NoEscape"], unfollowed := true, recurses := true, named := ["unicode/utf8.first", "unicode/utf8.acceptRanges"], apart := false, laid := [("unicode/utf8.acceptRanges", laid_unicode_utf8_acceptRanges), ("unicode/utf8.first", laid_unicode_utf8_first)] }
def PunyAgainSaid : Prop := punyAgainRow.holds Tryd.pinned (OpenSpec.ofChange punyAgainSpec)

/-- ITS FALSE NEIGHBOUR: 'it returns false'. Refute it at one input. -/
def punyAgainWrong : ChangeSpec := { name := "punyAgain", fn := fun _ => fun
  | [d] => { results := [.lit (.bool false)], args := [d] }
  | _ => none }
def PunyAgainWrongFalsely : Prop := punyAgainRow.holds Tryd.pinned (OpenSpec.ofChange punyAgainWrong)

/-- 'footmanlaw02.PunyCase': WHATEVER THE INPUT: true; the input reads as it did. -/
def punyCaseSpec : ChangeSpec := { name := "punyCase", fn := fun _ => fun
  | [d] => { results := [.lit (.bool true)], args := [d] }
  | _ => none }
def punyCaseRow : OpenClaim := { program := "ytafieajameapiaadoor", sum := "a106369b9fac9ac435ad89741b6eff014e8fd01d8f07db78cbfbb62968a43ab1", func := "footman/footmanlaw02.PunyCase", spec := "punyCase", inPlace := ["internal/bytealg.IndexByteString", "slices.overlaps[rune]", "internal/abi.NoEscape"], unfollowed := true, recurses := true, named := ["unicode/utf8.first", "unicode/utf8.acceptRanges"], apart := false, laid := [("unicode/utf8.acceptRanges", laid_unicode_utf8_acceptRanges), ("unicode/utf8.first", laid_unicode_utf8_first)] }
def PunyCaseSaid : Prop := punyCaseRow.holds Tryd.pinned (OpenSpec.ofChange punyCaseSpec)

/-- ITS FALSE NEIGHBOUR: 'it returns false'. Refute it at one input. -/
def punyCaseWrong : ChangeSpec := { name := "punyCase", fn := fun _ => fun
  | [d] => { results := [.lit (.bool false)], args := [d] }
  | _ => none }
def PunyCaseWrongFalsely : Prop := punyCaseRow.holds Tryd.pinned (OpenSpec.ofChange punyCaseWrong)

/-- 'footmanlaw02.PunyAsked': WHATEVER THE INPUT: true; the input reads as it did. -/
def punyAskedSpec : ChangeSpec := { name := "punyAsked", fn := fun _ => fun
  | [d] => { results := [.lit (.bool true)], args := [d] }
  | _ => none }
def punyAskedRow : OpenClaim := { program := "ytafieajameapiaadoor", sum := "a106369b9fac9ac435ad89741b6eff014e8fd01d8f07db78cbfbb62968a43ab1", func := "footman/footmanlaw02.PunyAsked", spec := "punyAsked", inPlace := ["internal/bytealg.IndexByteString", "slices.overlaps[rune]", "internal/abi.NoEscape"], unfollowed := true, recurses := true, named := ["unicode/utf8.first", "unicode/utf8.acceptRanges"], apart := false, laid := [("unicode/utf8.acceptRanges", laid_unicode_utf8_acceptRanges), ("unicode/utf8.first", laid_unicode_utf8_first)] }
def PunyAskedSaid : Prop := punyAskedRow.holds Tryd.pinned (OpenSpec.ofChange punyAskedSpec)

/-- ITS FALSE NEIGHBOUR: 'it returns false'. Refute it at one input. -/
def punyAskedWrong : ChangeSpec := { name := "punyAsked", fn := fun _ => fun
  | [d] => { results := [.lit (.bool false)], args := [d] }
  | _ => none }
def PunyAskedWrongFalsely : Prop := punyAskedRow.holds Tryd.pinned (OpenSpec.ofChange punyAskedWrong)

/-- 'footmanlaw02.PunyPlain': WHATEVER THE INPUT: true; the input reads as it did. -/
def punyPlainSpec : ChangeSpec := { name := "punyPlain", fn := fun _ => fun
  | [d] => { results := [.lit (.bool true)], args := [d] }
  | _ => none }
def punyPlainRow : OpenClaim := { program := "ytafieajameapiaadoor", sum := "a106369b9fac9ac435ad89741b6eff014e8fd01d8f07db78cbfbb62968a43ab1", func := "footman/footmanlaw02.PunyPlain", spec := "punyPlain", inPlace := ["internal/bytealg.IndexByteString", "slices.overlaps[rune]", "internal/abi.NoEscape"], unfollowed := true, recurses := true, named := ["unicode/utf8.first", "unicode/utf8.acceptRanges"], apart := false, laid := [("unicode/utf8.acceptRanges", laid_unicode_utf8_acceptRanges), ("unicode/utf8.first", laid_unicode_utf8_first)] }
def PunyPlainSaid : Prop := punyPlainRow.holds Tryd.pinned (OpenSpec.ofChange punyPlainSpec)

/-- ITS FALSE NEIGHBOUR: 'it returns false'. Refute it at one input. -/
def punyPlainWrong : ChangeSpec := { name := "punyPlain", fn := fun _ => fun
  | [d] => { results := [.lit (.bool false)], args := [d] }
  | _ => none }
def PunyPlainWrongFalsely : Prop := punyPlainRow.holds Tryd.pinned (OpenSpec.ofChange punyPlainWrong)

/- THE SECOND FORM. 'bulk': how many values and letters a reading holds, each counted each time it is reached (what is shared counts as often as it is met; a slice's spare places count too). A statement '..UptoSaid' is the law's where the arguments, and the package variables that the reading takes, are together of bulk at most 1048576: NARROWER than '..Said'. Prove '..Said' where nothing that the law and all that it calls make is longer than what came in: it says more and counts as full. Else prove '..UptoSaid'. A law counts once. -/
mutual
def uptoBulk {H : Type} : DataW H → Nat
  | .lit (.string bytes) => bytes.length + 1
  | .lit _ => 1
  | .nil => 1
  | .ptr d => uptoBulk d + 1
  | .slice elems spare => uptoBulkAll elems + uptoBulkAll spare + 1
  | .agg parts => uptoBulkAll parts + 1
  | .iface _ d => uptoBulk d + 1
  | .map entries => uptoBulkEntries entries + 1
  | .held _ => 1
def uptoBulkAll {H : Type} : List (DataW H) → Nat
  | [] => 0
  | d :: r => uptoBulk d + uptoBulkAll r
def uptoBulkEntries {H : Type} : List (Lit × DataW H) → Nat
  | [] => 0
  | x :: r => uptoBulkEntry x + uptoBulkEntries r
def uptoBulkEntry {H : Type} : Lit × DataW H → Nat
  | (.string bytes, d) => bytes.length + uptoBulk d + 1
  | (_, d) => uptoBulk d + 1
 end
def uptoSmall : (H : Type) → List (DataW H) → Bool := fun _ ds => decide (uptoBulkAll ds ≤ 1048576)
def OpenSpec.upto (s : _root_.Go.ChangeSpec) : _root_.Go.OpenSpec := { _root_.Go.OpenSpec.ofChange s with cond := some uptoSmall }

/-- 'footmanlaw02.PunyEncodes', WHERE WHAT IT READS IS OF BULK AT MOST 1048576: true; the input reads as it did. -/
def punyEncodesUptoRow : OpenClaim := { program := "ytafieajameapiaadoor", sum := "a106369b9fac9ac435ad89741b6eff014e8fd01d8f07db78cbfbb62968a43ab1", func := "footman/footmanlaw02.PunyEncodes", spec := "punyEncodes", inPlace := ["internal/abi.NoEscape"], unfollowed := true, recurses := true, named := ["unicode/utf8.first", "unicode/utf8.acceptRanges"], apart := false, laid := [("unicode/utf8.acceptRanges", laid_unicode_utf8_acceptRanges), ("unicode/utf8.first", laid_unicode_utf8_first)], narrowed := true }
def PunyEncodesUptoSaid : Prop := punyEncodesUptoRow.holds Tryd.pinned (OpenSpec.upto punyEncodesSpec)

/-- 'footmanlaw02.PunyLabels', WHERE WHAT IT READS IS OF BULK AT MOST 1048576: true; the input reads as it did. -/
def punyLabelsUptoRow : OpenClaim := { program := "ytafieajameapiaadoor", sum := "a106369b9fac9ac435ad89741b6eff014e8fd01d8f07db78cbfbb62968a43ab1", func := "footman/footmanlaw02.PunyLabels", spec := "punyLabels", inPlace := ["internal/bytealg.IndexByteString", "slices.overlaps[rune]", "internal/abi.NoEscape"], unfollowed := true, recurses := true, named := ["unicode/utf8.first", "unicode/utf8.acceptRanges"], apart := false, laid := [("unicode/utf8.acceptRanges", laid_unicode_utf8_acceptRanges), ("unicode/utf8.first", laid_unicode_utf8_first)], narrowed := true }
def PunyLabelsUptoSaid : Prop := punyLabelsUptoRow.holds Tryd.pinned (OpenSpec.upto punyLabelsSpec)

/-- 'footmanlaw02.PunyBack', WHERE WHAT IT READS IS OF BULK AT MOST 1048576: true; the input reads as it did. -/
def punyBackUptoRow : OpenClaim := { program := "ytafieajameapiaadoor", sum := "a106369b9fac9ac435ad89741b6eff014e8fd01d8f07db78cbfbb62968a43ab1", func := "footman/footmanlaw02.PunyBack", spec := "punyBack", inPlace := ["internal/bytealg.IndexByteString", "slices.overlaps[rune]", "internal/abi.NoEscape"], unfollowed := true, recurses := true, named := ["unicode/utf8.first", "unicode/utf8.acceptRanges"], apart := false, laid := [("unicode/utf8.acceptRanges", laid_unicode_utf8_acceptRanges), ("unicode/utf8.first", laid_unicode_utf8_first)], narrowed := true }
def PunyBackUptoSaid : Prop := punyBackUptoRow.holds Tryd.pinned (OpenSpec.upto punyBackSpec)

/-- 'footmanlaw02.PunyAgain', WHERE WHAT IT READS IS OF BULK AT MOST 1048576: true; the input reads as it did. -/
def punyAgainUptoRow : OpenClaim := { program := "ytafieajameapiaadoor", sum := "a106369b9fac9ac435ad89741b6eff014e8fd01d8f07db78cbfbb62968a43ab1", func := "footman/footmanlaw02.PunyAgain", spec := "punyAgain", inPlace := ["internal/bytealg.IndexByteString", "slices.overlaps[rune]", "internal/abi.NoEscape"], unfollowed := true, recurses := true, named := ["unicode/utf8.first", "unicode/utf8.acceptRanges"], apart := false, laid := [("unicode/utf8.acceptRanges", laid_unicode_utf8_acceptRanges), ("unicode/utf8.first", laid_unicode_utf8_first)], narrowed := true }
def PunyAgainUptoSaid : Prop := punyAgainUptoRow.holds Tryd.pinned (OpenSpec.upto punyAgainSpec)

/-- 'footmanlaw02.PunyCase', WHERE WHAT IT READS IS OF BULK AT MOST 1048576: true; the input reads as it did. -/
def punyCaseUptoRow : OpenClaim := { program := "ytafieajameapiaadoor", sum := "a106369b9fac9ac435ad89741b6eff014e8fd01d8f07db78cbfbb62968a43ab1", func := "footman/footmanlaw02.PunyCase", spec := "punyCase", inPlace := ["internal/bytealg.IndexByteString", "slices.overlaps[rune]", "internal/abi.NoEscape"], unfollowed := true, recurses := true, named := ["unicode/utf8.first", "unicode/utf8.acceptRanges"], apart := false, laid := [("unicode/utf8.acceptRanges", laid_unicode_utf8_acceptRanges), ("unicode/utf8.first", laid_unicode_utf8_first)], narrowed := true }
def PunyCaseUptoSaid : Prop := punyCaseUptoRow.holds Tryd.pinned (OpenSpec.upto punyCaseSpec)

/-- 'footmanlaw02.PunyAsked', WHERE WHAT IT READS IS OF BULK AT MOST 1048576: true; the input reads as it did. -/
def punyAskedUptoRow : OpenClaim := { program := "ytafieajameapiaadoor", sum := "a106369b9fac9ac435ad89741b6eff014e8fd01d8f07db78cbfbb62968a43ab1", func := "footman/footmanlaw02.PunyAsked", spec := "punyAsked", inPlace := ["internal/bytealg.IndexByteString", "slices.overlaps[rune]", "internal/abi.NoEscape"], unfollowed := true, recurses := true, named := ["unicode/utf8.first", "unicode/utf8.acceptRanges"], apart := false, laid := [("unicode/utf8.acceptRanges", laid_unicode_utf8_acceptRanges), ("unicode/utf8.first", laid_unicode_utf8_first)], narrowed := true }
def PunyAskedUptoSaid : Prop := punyAskedUptoRow.holds Tryd.pinned (OpenSpec.upto punyAskedSpec)

/-- 'footmanlaw02.PunyPlain', WHERE WHAT IT READS IS OF BULK AT MOST 1048576: true; the input reads as it did. -/
def punyPlainUptoRow : OpenClaim := { program := "ytafieajameapiaadoor", sum := "a106369b9fac9ac435ad89741b6eff014e8fd01d8f07db78cbfbb62968a43ab1", func := "footman/footmanlaw02.PunyPlain", spec := "punyPlain", inPlace := ["internal/bytealg.IndexByteString", "slices.overlaps[rune]", "internal/abi.NoEscape"], unfollowed := true, recurses := true, named := ["unicode/utf8.first", "unicode/utf8.acceptRanges"], apart := false, laid := [("unicode/utf8.acceptRanges", laid_unicode_utf8_acceptRanges), ("unicode/utf8.first", laid_unicode_utf8_first)], narrowed := true }
def PunyPlainUptoSaid : Prop := punyPlainUptoRow.holds Tryd.pinned (OpenSpec.upto punyPlainSpec)

end Rows
end Go.Proofs.YtafieajameapiaaDoor
