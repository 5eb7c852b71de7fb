/-
  NARROWER THAN 'FOR EVERY INPUT', by the rows' own cells (each row's printed sentence says how): GlyphsLines: laid · GlyphsMatches: laid · GlyphsReadings: laid · GlyphsReads: laid · GlyphsRobust: laid · GlyphsCorrects: laid · GlyphsChecks: laid · GlyphsCopies: laid.
  DERIVED. THE GIVEN ROWS OF THIS SEAT. 8 by the template 'for every input the law returns true; each argument reads behind the call as it read before'; 0 by the template 'total and deterministic' (their statements: YtamkgbodifjlaaaGreatDoorTotals.lean).
  GIVEN WITH THE SEED: the statements are not yours to turn. If you find one false, say at which input.
  Laid BY PROGRAM, IN A SANDBOX (cutbox-rows.mjs): the forced cells as the released guide's own fill.sh prints them over the translation a87097403d2f5d01… (all of the seat's roots in one cut). By AI agents, Wed Nov 11 2026. No macro, syntax, notation, axiom, sorry.
-/
import Derived.Test.YtamkgbodifjlaaaGreatDoorChecked
import GoSem.PinnedTables
import GoSem.Claim
import GoSem.ClaimJoined
import GoSem.ClaimMapViews
import Derived.JoinedTies
import Derived.KernelRfl
namespace Go.Proofs.YtamkgbodifjlaaaGreatDoor
/- THE CELL 'sum', in the pinned program and in every row, IS THE sha256 OF THE DUMP (.gsa) THAT YtamkgbodifjlaaaGreatDoorProg.lean LOADS. Nothing in Lean hashes anything: it is a label: what it is worth is what the hold of that sum in a sandbox is worth. -/
noncomputable def Tryz.pinned : Pinned := { name := "ytamkgbodifjlaaagreatdoor", sum := "a87097403d2f5d010dab103799dc1799609834a60f0c68f5713143a985ec900c", checked := Tryz.checked }
namespace Rows
def none {H : Type} : Left H := { results := [], args := [] }

/- WHAT THE LISTED PACKAGE-LEVEL VARIABLES READ AS WHEN THE CALL BEGINS. Each datum BY PROGRAM (the guide's laid-datum.mjs) off the statement by which the dump's own 'gosem.cut.vars' lays the variable. In a bare row this is a premise. The card (YtamkgbodifjlaaaGreatDoorCards.lean) ties it to the program's text. -/
def laid_unicode_utf8_acceptRanges {H : Type} : DataW H := .agg [.agg [.lit (.int .u8 128), .lit (.int .u8 191)], .agg [.lit (.int .u8 160), .lit (.int .u8 191)], .agg [.lit (.int .u8 128), .lit (.int .u8 159)], .agg [.lit (.int .u8 144), .lit (.int .u8 191)], .agg [.lit (.int .u8 128), .lit (.int .u8 143)], .agg [.lit (.int .u8 0), .lit (.int .u8 0)], .agg [.lit (.int .u8 0), .lit (.int .u8 0)], .agg [.lit (.int .u8 0), .lit (.int .u8 0)], .agg [.lit (.int .u8 0), .lit (.int .u8 0)], .agg [.lit (.int .u8 0), .lit (.int .u8 0)], .agg [.lit (.int .u8 0), .lit (.int .u8 0)], .agg [.lit (.int .u8 0), .lit (.int .u8 0)], .agg [.lit (.int .u8 0), .lit (.int .u8 0)], .agg [.lit (.int .u8 0), .lit (.int .u8 0)], .agg [.lit (.int .u8 0), .lit (.int .u8 0)], .agg [.lit (.int .u8 0), .lit (.int .u8 0)]]
/-- One of Go's own tables, pinned by name: the form's constant. -/
def laid_unicode_utf8_first : DataW Unit := Go.Pinned.utf8First

/-- 'barscanlaw48.GlyphsLines': WHATEVER THE INPUT: true; the input reads as it did. -/
def glyphsLinesSpec : ChangeSpec := { name := "glyphsLines", fn := fun _ => fun
  | [d1, d2] => { results := [.lit (.bool true)], args := [d1, d2] }
  | _ => none }
def glyphsLinesRow : OpenClaim := { program := "ytamkgbodifjlaaagreatdoor", sum := "a87097403d2f5d010dab103799dc1799609834a60f0c68f5713143a985ec900c", func := "barscan/barscanlaw48.GlyphsLines", spec := "glyphsLines", inPlace := ["internal/bytealg.IndexByteString", "internal/bytealg.IndexString", "internal/abi.NoEscape", "internal/bytealg.MakeNoZero", "internal/bytealg.abigen_runtime_cmpstring"], unfollowed := true, recurses := true, named := ["unicode/utf8.first", "unicode/utf8.acceptRanges", "internal/bytealg.MaxLen"], apart := false, laid := [("unicode/utf8.acceptRanges", laid_unicode_utf8_acceptRanges), ("unicode/utf8.first", laid_unicode_utf8_first)] }
def GlyphsLinesSaid : Prop := glyphsLinesRow.holds Tryz.pinned (OpenSpec.ofChange glyphsLinesSpec)

/-- ITS FALSE NEIGHBOUR: 'it returns false'. Refute it at one input. -/
def glyphsLinesWrong : ChangeSpec := { name := "glyphsLines", fn := fun _ => fun
  | [d1, d2] => { results := [.lit (.bool false)], args := [d1, d2] }
  | _ => none }
def GlyphsLinesWrongFalsely : Prop := glyphsLinesRow.holds Tryz.pinned (OpenSpec.ofChange glyphsLinesWrong)

/-- 'barscanlaw48.GlyphsMatches': WHATEVER THE INPUT: true; the input reads as it did. -/
def glyphsMatchesSpec : ChangeSpec := { name := "glyphsMatches", fn := fun _ => fun
  | [d1, d2, d3] => { results := [.lit (.bool true)], args := [d1, d2, d3] }
  | _ => none }
def glyphsMatchesRow : OpenClaim := { program := "ytamkgbodifjlaaagreatdoor", sum := "a87097403d2f5d010dab103799dc1799609834a60f0c68f5713143a985ec900c", func := "barscan/barscanlaw48.GlyphsMatches", spec := "glyphsMatches", inPlace := ["internal/bytealg.IndexByteString", "internal/bytealg.IndexString", "internal/abi.NoEscape", "internal/bytealg.MakeNoZero", "internal/bytealg.abigen_runtime_cmpstring"], unfollowed := true, recurses := true, named := ["unicode/utf8.first", "unicode/utf8.acceptRanges", "internal/bytealg.MaxLen"], apart := false, laid := [("unicode/utf8.acceptRanges", laid_unicode_utf8_acceptRanges), ("unicode/utf8.first", laid_unicode_utf8_first)] }
def GlyphsMatchesSaid : Prop := glyphsMatchesRow.holds Tryz.pinned (OpenSpec.ofChange glyphsMatchesSpec)

/-- ITS FALSE NEIGHBOUR: 'it returns false'. Refute it at one input. -/
def glyphsMatchesWrong : ChangeSpec := { name := "glyphsMatches", fn := fun _ => fun
  | [d1, d2, d3] => { results := [.lit (.bool false)], args := [d1, d2, d3] }
  | _ => none }
def GlyphsMatchesWrongFalsely : Prop := glyphsMatchesRow.holds Tryz.pinned (OpenSpec.ofChange glyphsMatchesWrong)

/-- 'barscanlaw48.GlyphsReadings': WHATEVER THE INPUT: true; the input reads as it did. -/
def glyphsReadingsSpec : ChangeSpec := { name := "glyphsReadings", fn := fun _ => fun
  | [d1, d2, d3] => { results := [.lit (.bool true)], args := [d1, d2, d3] }
  | _ => none }
def glyphsReadingsRow : OpenClaim := { program := "ytamkgbodifjlaaagreatdoor", sum := "a87097403d2f5d010dab103799dc1799609834a60f0c68f5713143a985ec900c", func := "barscan/barscanlaw48.GlyphsReadings", spec := "glyphsReadings", inPlace := ["internal/bytealg.IndexByteString", "internal/bytealg.IndexString", "internal/abi.NoEscape", "internal/bytealg.MakeNoZero", "internal/bytealg.abigen_runtime_cmpstring"], unfollowed := true, recurses := true, named := ["unicode/utf8.first", "unicode/utf8.acceptRanges", "internal/bytealg.MaxLen"], apart := false, laid := [("unicode/utf8.acceptRanges", laid_unicode_utf8_acceptRanges), ("unicode/utf8.first", laid_unicode_utf8_first)] }
def GlyphsReadingsSaid : Prop := glyphsReadingsRow.holds Tryz.pinned (OpenSpec.ofChange glyphsReadingsSpec)

/-- ITS FALSE NEIGHBOUR: 'it returns false'. Refute it at one input. -/
def glyphsReadingsWrong : ChangeSpec := { name := "glyphsReadings", fn := fun _ => fun
  | [d1, d2, d3] => { results := [.lit (.bool false)], args := [d1, d2, d3] }
  | _ => none }
def GlyphsReadingsWrongFalsely : Prop := glyphsReadingsRow.holds Tryz.pinned (OpenSpec.ofChange glyphsReadingsWrong)

/-- 'barscanlaw48.GlyphsReads': WHATEVER THE INPUT: true; the input reads as it did. -/
def glyphsReadsSpec : ChangeSpec := { name := "glyphsReads", fn := fun _ => fun
  | [d1, d2] => { results := [.lit (.bool true)], args := [d1, d2] }
  | _ => none }
def glyphsReadsRow : OpenClaim := { program := "ytamkgbodifjlaaagreatdoor", sum := "a87097403d2f5d010dab103799dc1799609834a60f0c68f5713143a985ec900c", func := "barscan/barscanlaw48.GlyphsReads", spec := "glyphsReads", inPlace := ["internal/bytealg.IndexByteString", "internal/bytealg.IndexString", "internal/abi.NoEscape", "internal/bytealg.MakeNoZero", "internal/bytealg.abigen_runtime_cmpstring"], unfollowed := true, recurses := true, named := ["unicode/utf8.first", "unicode/utf8.acceptRanges", "internal/bytealg.MaxLen"], apart := false, laid := [("unicode/utf8.acceptRanges", laid_unicode_utf8_acceptRanges), ("unicode/utf8.first", laid_unicode_utf8_first)] }
def GlyphsReadsSaid : Prop := glyphsReadsRow.holds Tryz.pinned (OpenSpec.ofChange glyphsReadsSpec)

/-- ITS FALSE NEIGHBOUR: 'it returns false'. Refute it at one input. -/
def glyphsReadsWrong : ChangeSpec := { name := "glyphsReads", fn := fun _ => fun
  | [d1, d2] => { results := [.lit (.bool false)], args := [d1, d2] }
  | _ => none }
def GlyphsReadsWrongFalsely : Prop := glyphsReadsRow.holds Tryz.pinned (OpenSpec.ofChange glyphsReadsWrong)

/-- 'barscanlaw48.GlyphsRobust': WHATEVER THE INPUT: true; the input reads as it did. -/
def glyphsRobustSpec : ChangeSpec := { name := "glyphsRobust", fn := fun _ => fun
  | [d1, d2, d3] => { results := [.lit (.bool true)], args := [d1, d2, d3] }
  | _ => none }
def glyphsRobustRow : OpenClaim := { program := "ytamkgbodifjlaaagreatdoor", sum := "a87097403d2f5d010dab103799dc1799609834a60f0c68f5713143a985ec900c", func := "barscan/barscanlaw48.GlyphsRobust", spec := "glyphsRobust", inPlace := ["internal/bytealg.IndexByteString", "internal/bytealg.IndexString", "internal/abi.NoEscape", "internal/bytealg.MakeNoZero", "internal/bytealg.abigen_runtime_cmpstring"], unfollowed := true, recurses := true, named := ["unicode/utf8.first", "unicode/utf8.acceptRanges", "internal/bytealg.MaxLen"], apart := false, laid := [("unicode/utf8.acceptRanges", laid_unicode_utf8_acceptRanges), ("unicode/utf8.first", laid_unicode_utf8_first)] }
def GlyphsRobustSaid : Prop := glyphsRobustRow.holds Tryz.pinned (OpenSpec.ofChange glyphsRobustSpec)

/-- ITS FALSE NEIGHBOUR: 'it returns false'. Refute it at one input. -/
def glyphsRobustWrong : ChangeSpec := { name := "glyphsRobust", fn := fun _ => fun
  | [d1, d2, d3] => { results := [.lit (.bool false)], args := [d1, d2, d3] }
  | _ => none }
def GlyphsRobustWrongFalsely : Prop := glyphsRobustRow.holds Tryz.pinned (OpenSpec.ofChange glyphsRobustWrong)

/-- 'barscanlaw48.GlyphsCorrects': WHATEVER THE INPUT: true; the input reads as it did. -/
def glyphsCorrectsSpec : ChangeSpec := { name := "glyphsCorrects", fn := fun _ => fun
  | [d1, d2] => { results := [.lit (.bool true)], args := [d1, d2] }
  | _ => none }
def glyphsCorrectsRow : OpenClaim := { program := "ytamkgbodifjlaaagreatdoor", sum := "a87097403d2f5d010dab103799dc1799609834a60f0c68f5713143a985ec900c", func := "barscan/barscanlaw48.GlyphsCorrects", spec := "glyphsCorrects", inPlace := ["internal/bytealg.IndexByteString", "internal/bytealg.IndexString", "internal/abi.NoEscape", "internal/bytealg.MakeNoZero", "internal/bytealg.abigen_runtime_cmpstring"], unfollowed := true, recurses := true, named := ["unicode/utf8.first", "unicode/utf8.acceptRanges", "internal/bytealg.MaxLen"], apart := false, laid := [("unicode/utf8.acceptRanges", laid_unicode_utf8_acceptRanges), ("unicode/utf8.first", laid_unicode_utf8_first)] }
def GlyphsCorrectsSaid : Prop := glyphsCorrectsRow.holds Tryz.pinned (OpenSpec.ofChange glyphsCorrectsSpec)

/-- ITS FALSE NEIGHBOUR: 'it returns false'. Refute it at one input. -/
def glyphsCorrectsWrong : ChangeSpec := { name := "glyphsCorrects", fn := fun _ => fun
  | [d1, d2] => { results := [.lit (.bool false)], args := [d1, d2] }
  | _ => none }
def GlyphsCorrectsWrongFalsely : Prop := glyphsCorrectsRow.holds Tryz.pinned (OpenSpec.ofChange glyphsCorrectsWrong)

/-- 'barscanlaw48.GlyphsChecks': WHATEVER THE INPUT: true; the input reads as it did. -/
def glyphsChecksSpec : ChangeSpec := { name := "glyphsChecks", fn := fun _ => fun
  | [d1, d2, d3, d4, d5] => { results := [.lit (.bool true)], args := [d1, d2, d3, d4, d5] }
  | _ => none }
def glyphsChecksRow : OpenClaim := { program := "ytamkgbodifjlaaagreatdoor", sum := "a87097403d2f5d010dab103799dc1799609834a60f0c68f5713143a985ec900c", func := "barscan/barscanlaw48.GlyphsChecks", spec := "glyphsChecks", inPlace := ["internal/bytealg.IndexByteString", "internal/bytealg.IndexString", "internal/abi.NoEscape", "internal/bytealg.MakeNoZero", "internal/bytealg.abigen_runtime_cmpstring"], unfollowed := true, recurses := true, named := ["unicode/utf8.first", "unicode/utf8.acceptRanges", "internal/bytealg.MaxLen"], apart := false, laid := [("unicode/utf8.acceptRanges", laid_unicode_utf8_acceptRanges), ("unicode/utf8.first", laid_unicode_utf8_first)] }
def GlyphsChecksSaid : Prop := glyphsChecksRow.holds Tryz.pinned (OpenSpec.ofChange glyphsChecksSpec)

/-- ITS FALSE NEIGHBOUR: 'it returns false'. Refute it at one input. -/
def glyphsChecksWrong : ChangeSpec := { name := "glyphsChecks", fn := fun _ => fun
  | [d1, d2, d3, d4, d5] => { results := [.lit (.bool false)], args := [d1, d2, d3, d4, d5] }
  | _ => none }
def GlyphsChecksWrongFalsely : Prop := glyphsChecksRow.holds Tryz.pinned (OpenSpec.ofChange glyphsChecksWrong)

/-- 'barscanlaw48.GlyphsCopies': WHATEVER THE INPUT: true; the input reads as it did. -/
def glyphsCopiesSpec : ChangeSpec := { name := "glyphsCopies", fn := fun _ => fun
  | [d1, d2, d3] => { results := [.lit (.bool true)], args := [d1, d2, d3] }
  | _ => none }
def glyphsCopiesRow : OpenClaim := { program := "ytamkgbodifjlaaagreatdoor", sum := "a87097403d2f5d010dab103799dc1799609834a60f0c68f5713143a985ec900c", func := "barscan/barscanlaw48.GlyphsCopies", spec := "glyphsCopies", inPlace := ["internal/bytealg.IndexByteString", "internal/bytealg.IndexString", "internal/abi.NoEscape", "internal/bytealg.MakeNoZero", "internal/bytealg.abigen_runtime_cmpstring"], unfollowed := true, recurses := true, named := ["unicode/utf8.first", "unicode/utf8.acceptRanges", "internal/bytealg.MaxLen"], apart := false, laid := [("unicode/utf8.acceptRanges", laid_unicode_utf8_acceptRanges), ("unicode/utf8.first", laid_unicode_utf8_first)] }
def GlyphsCopiesSaid : Prop := glyphsCopiesRow.holds Tryz.pinned (OpenSpec.ofChange glyphsCopiesSpec)

/-- ITS FALSE NEIGHBOUR: 'it returns false'. Refute it at one input. -/
def glyphsCopiesWrong : ChangeSpec := { name := "glyphsCopies", fn := fun _ => fun
  | [d1, d2, d3] => { results := [.lit (.bool false)], args := [d1, d2, d3] }
  | _ => none }
def GlyphsCopiesWrongFalsely : Prop := glyphsCopiesRow.holds Tryz.pinned (OpenSpec.ofChange glyphsCopiesWrong)

/- THE SECOND FORM. 'bulk': how many values and letters a reading holds, each counted each time it is reached (what is shared counts as often as it is met; a slice's spare places count too). A statement '..UptoSaid' is the law's where the arguments, and the package variables that the reading takes, are together of bulk at most 1048576: NARROWER than '..Said'. Prove '..Said' where nothing that the law and all that it calls make is longer than what came in: it says more and counts as full. Else prove '..UptoSaid'. A law counts once. -/
mutual
def uptoBulk {H : Type} : DataW H → Nat
  | .lit (.string bytes) => bytes.length + 1
  | .lit _ => 1
  | .nil => 1
  | .ptr d => uptoBulk d + 1
  | .slice elems spare => uptoBulkAll elems + uptoBulkAll spare + 1
  | .agg parts => uptoBulkAll parts + 1
  | .iface _ d => uptoBulk d + 1
  | .map entries => uptoBulkEntries entries + 1
  | .held _ => 1
def uptoBulkAll {H : Type} : List (DataW H) → Nat
  | [] => 0
  | d :: r => uptoBulk d + uptoBulkAll r
def uptoBulkEntries {H : Type} : List (Lit × DataW H) → Nat
  | [] => 0
  | x :: r => uptoBulkEntry x + uptoBulkEntries r
def uptoBulkEntry {H : Type} : Lit × DataW H → Nat
  | (.string bytes, d) => bytes.length + uptoBulk d + 1
  | (_, d) => uptoBulk d + 1
 end
def uptoSmall : (H : Type) → List (DataW H) → Bool := fun _ ds => decide (uptoBulkAll ds ≤ 1048576)
def OpenSpec.upto (s : _root_.Go.ChangeSpec) : _root_.Go.OpenSpec := { _root_.Go.OpenSpec.ofChange s with cond := some uptoSmall }

/-- 'barscanlaw48.GlyphsLines', WHERE WHAT IT READS IS OF BULK AT MOST 1048576: true; the input reads as it did. -/
def glyphsLinesUptoRow : OpenClaim := { program := "ytamkgbodifjlaaagreatdoor", sum := "a87097403d2f5d010dab103799dc1799609834a60f0c68f5713143a985ec900c", func := "barscan/barscanlaw48.GlyphsLines", spec := "glyphsLines", inPlace := ["internal/bytealg.IndexByteString", "internal/bytealg.IndexString", "internal/abi.NoEscape", "internal/bytealg.MakeNoZero", "internal/bytealg.abigen_runtime_cmpstring"], unfollowed := true, recurses := true, named := ["unicode/utf8.first", "unicode/utf8.acceptRanges", "internal/bytealg.MaxLen"], apart := false, laid := [("unicode/utf8.acceptRanges", laid_unicode_utf8_acceptRanges), ("unicode/utf8.first", laid_unicode_utf8_first)], narrowed := true }
def GlyphsLinesUptoSaid : Prop := glyphsLinesUptoRow.holds Tryz.pinned (OpenSpec.upto glyphsLinesSpec)

/-- 'barscanlaw48.GlyphsMatches', WHERE WHAT IT READS IS OF BULK AT MOST 1048576: true; the input reads as it did. -/
def glyphsMatchesUptoRow : OpenClaim := { program := "ytamkgbodifjlaaagreatdoor", sum := "a87097403d2f5d010dab103799dc1799609834a60f0c68f5713143a985ec900c", func := "barscan/barscanlaw48.GlyphsMatches", spec := "glyphsMatches", inPlace := ["internal/bytealg.IndexByteString", "internal/bytealg.IndexString", "internal/abi.NoEscape", "internal/bytealg.MakeNoZero", "internal/bytealg.abigen_runtime_cmpstring"], unfollowed := true, recurses := true, named := ["unicode/utf8.first", "unicode/utf8.acceptRanges", "internal/bytealg.MaxLen"], apart := false, laid := [("unicode/utf8.acceptRanges", laid_unicode_utf8_acceptRanges), ("unicode/utf8.first", laid_unicode_utf8_first)], narrowed := true }
def GlyphsMatchesUptoSaid : Prop := glyphsMatchesUptoRow.holds Tryz.pinned (OpenSpec.upto glyphsMatchesSpec)

/-- 'barscanlaw48.GlyphsReadings', WHERE WHAT IT READS IS OF BULK AT MOST 1048576: true; the input reads as it did. -/
def glyphsReadingsUptoRow : OpenClaim := { program := "ytamkgbodifjlaaagreatdoor", sum := "a87097403d2f5d010dab103799dc1799609834a60f0c68f5713143a985ec900c", func := "barscan/barscanlaw48.GlyphsReadings", spec := "glyphsReadings", inPlace := ["internal/bytealg.IndexByteString", "internal/bytealg.IndexString", "internal/abi.NoEscape", "internal/bytealg.MakeNoZero", "internal/bytealg.abigen_runtime_cmpstring"], unfollowed := true, recurses := true, named := ["unicode/utf8.first", "unicode/utf8.acceptRanges", "internal/bytealg.MaxLen"], apart := false, laid := [("unicode/utf8.acceptRanges", laid_unicode_utf8_acceptRanges), ("unicode/utf8.first", laid_unicode_utf8_first)], narrowed := true }
def GlyphsReadingsUptoSaid : Prop := glyphsReadingsUptoRow.holds Tryz.pinned (OpenSpec.upto glyphsReadingsSpec)

/-- 'barscanlaw48.GlyphsReads', WHERE WHAT IT READS IS OF BULK AT MOST 1048576: true; the input reads as it did. -/
def glyphsReadsUptoRow : OpenClaim := { program := "ytamkgbodifjlaaagreatdoor", sum := "a87097403d2f5d010dab103799dc1799609834a60f0c68f5713143a985ec900c", func := "barscan/barscanlaw48.GlyphsReads", spec := "glyphsReads", inPlace := ["internal/bytealg.IndexByteString", "internal/bytealg.IndexString", "internal/abi.NoEscape", "internal/bytealg.MakeNoZero", "internal/bytealg.abigen_runtime_cmpstring"], unfollowed := true, recurses := true, named := ["unicode/utf8.first", "unicode/utf8.acceptRanges", "internal/bytealg.MaxLen"], apart := false, laid := [("unicode/utf8.acceptRanges", laid_unicode_utf8_acceptRanges), ("unicode/utf8.first", laid_unicode_utf8_first)], narrowed := true }
def GlyphsReadsUptoSaid : Prop := glyphsReadsUptoRow.holds Tryz.pinned (OpenSpec.upto glyphsReadsSpec)

/-- 'barscanlaw48.GlyphsRobust', WHERE WHAT IT READS IS OF BULK AT MOST 1048576: true; the input reads as it did. -/
def glyphsRobustUptoRow : OpenClaim := { program := "ytamkgbodifjlaaagreatdoor", sum := "a87097403d2f5d010dab103799dc1799609834a60f0c68f5713143a985ec900c", func := "barscan/barscanlaw48.GlyphsRobust", spec := "glyphsRobust", inPlace := ["internal/bytealg.IndexByteString", "internal/bytealg.IndexString", "internal/abi.NoEscape", "internal/bytealg.MakeNoZero", "internal/bytealg.abigen_runtime_cmpstring"], unfollowed := true, recurses := true, named := ["unicode/utf8.first", "unicode/utf8.acceptRanges", "internal/bytealg.MaxLen"], apart := false, laid := [("unicode/utf8.acceptRanges", laid_unicode_utf8_acceptRanges), ("unicode/utf8.first", laid_unicode_utf8_first)], narrowed := true }
def GlyphsRobustUptoSaid : Prop := glyphsRobustUptoRow.holds Tryz.pinned (OpenSpec.upto glyphsRobustSpec)

/-- 'barscanlaw48.GlyphsCorrects', WHERE WHAT IT READS IS OF BULK AT MOST 1048576: true; the input reads as it did. -/
def glyphsCorrectsUptoRow : OpenClaim := { program := "ytamkgbodifjlaaagreatdoor", sum := "a87097403d2f5d010dab103799dc1799609834a60f0c68f5713143a985ec900c", func := "barscan/barscanlaw48.GlyphsCorrects", spec := "glyphsCorrects", inPlace := ["internal/bytealg.IndexByteString", "internal/bytealg.IndexString", "internal/abi.NoEscape", "internal/bytealg.MakeNoZero", "internal/bytealg.abigen_runtime_cmpstring"], unfollowed := true, recurses := true, named := ["unicode/utf8.first", "unicode/utf8.acceptRanges", "internal/bytealg.MaxLen"], apart := false, laid := [("unicode/utf8.acceptRanges", laid_unicode_utf8_acceptRanges), ("unicode/utf8.first", laid_unicode_utf8_first)], narrowed := true }
def GlyphsCorrectsUptoSaid : Prop := glyphsCorrectsUptoRow.holds Tryz.pinned (OpenSpec.upto glyphsCorrectsSpec)

/-- 'barscanlaw48.GlyphsChecks', WHERE WHAT IT READS IS OF BULK AT MOST 1048576: true; the input reads as it did. -/
def glyphsChecksUptoRow : OpenClaim := { program := "ytamkgbodifjlaaagreatdoor", sum := "a87097403d2f5d010dab103799dc1799609834a60f0c68f5713143a985ec900c", func := "barscan/barscanlaw48.GlyphsChecks", spec := "glyphsChecks", inPlace := ["internal/bytealg.IndexByteString", "internal/bytealg.IndexString", "internal/abi.NoEscape", "internal/bytealg.MakeNoZero", "internal/bytealg.abigen_runtime_cmpstring"], unfollowed := true, recurses := true, named := ["unicode/utf8.first", "unicode/utf8.acceptRanges", "internal/bytealg.MaxLen"], apart := false, laid := [("unicode/utf8.acceptRanges", laid_unicode_utf8_acceptRanges), ("unicode/utf8.first", laid_unicode_utf8_first)], narrowed := true }
def GlyphsChecksUptoSaid : Prop := glyphsChecksUptoRow.holds Tryz.pinned (OpenSpec.upto glyphsChecksSpec)

/-- 'barscanlaw48.GlyphsCopies', WHERE WHAT IT READS IS OF BULK AT MOST 1048576: true; the input reads as it did. -/
def glyphsCopiesUptoRow : OpenClaim := { program := "ytamkgbodifjlaaagreatdoor", sum := "a87097403d2f5d010dab103799dc1799609834a60f0c68f5713143a985ec900c", func := "barscan/barscanlaw48.GlyphsCopies", spec := "glyphsCopies", inPlace := ["internal/bytealg.IndexByteString", "internal/bytealg.IndexString", "internal/abi.NoEscape", "internal/bytealg.MakeNoZero", "internal/bytealg.abigen_runtime_cmpstring"], unfollowed := true, recurses := true, named := ["unicode/utf8.first", "unicode/utf8.acceptRanges", "internal/bytealg.MaxLen"], apart := false, laid := [("unicode/utf8.acceptRanges", laid_unicode_utf8_acceptRanges), ("unicode/utf8.first", laid_unicode_utf8_first)], narrowed := true }
def GlyphsCopiesUptoSaid : Prop := glyphsCopiesUptoRow.holds Tryz.pinned (OpenSpec.upto glyphsCopiesSpec)

end Rows
end Go.Proofs.YtamkgbodifjlaaaGreatDoor
