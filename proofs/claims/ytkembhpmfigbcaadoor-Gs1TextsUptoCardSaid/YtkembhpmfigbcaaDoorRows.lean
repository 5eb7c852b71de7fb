/-
  NARROWER THAN 'FOR EVERY INPUT', by the rows' own cells (each row's printed sentence says how): Gs1Verifies: laid · Gs1Texts: laid · Gs1Reads: laid · Gs1RoundTrip: laid · Gs1Canonical: laid · Gs1Separators: laid · Gs1Detects: laid.
  DERIVED. THE GIVEN ROWS OF THIS SEAT. 7 by the template 'for every input the law returns true; each argument reads behind the call as it read before'; 0 by the template 'total and deterministic' (their statements: YtkembhpmfigbcaaDoorTotals.lean).
  GIVEN WITH THE SEED: the statements are not yours to turn. If you find one false, say at which input.
  Laid BY PROGRAM, IN A SANDBOX (cutbox-rows.mjs): the forced cells as the released guide's own fill.sh prints them over the translation 397bd046b4d20232… (all of the seat's roots in one cut). By AI agents, Wed Nov 11 2026. No macro, syntax, notation, axiom, sorry.
-/
import Derived.Test.YtkembhpmfigbcaaDoorChecked
import GoSem.Claim
import GoSem.ClaimJoined
import GoSem.ClaimMapViews
import Derived.JoinedTies
import Derived.KernelRfl
namespace Go.Proofs.YtkembhpmfigbcaaDoor
/- THE CELL 'sum', in the pinned program and in every row, IS THE sha256 OF THE DUMP (.gsa) THAT YtkembhpmfigbcaaDoorProg.lean LOADS. Nothing in Lean hashes anything: it is a label: what it is worth is what the hold of that sum in a sandbox is worth. -/
noncomputable def Tryd.pinned : Pinned := { name := "ytkembhpmfigbcaadoor", sum := "397bd046b4d20232f73609cfe33d67f534fc49be0129d1e72b56873c9abde0f8", checked := Tryd.checked }
namespace Rows
def none {H : Type} : Left H := { results := [], args := [] }

/- WHAT THE LISTED PACKAGE-LEVEL VARIABLES READ AS WHEN THE CALL BEGINS. Each datum BY PROGRAM (the guide's laid-datum.mjs) off the statement by which the dump's own 'gosem.cut.vars' lays the variable. In a bare row this is a premise. The card (YtkembhpmfigbcaaDoorCards.lean) ties it to the program's text. -/
def laid_unicode_White_Space {H : Type} : DataW H := .ptr (.agg [.slice [.agg [.lit (.int .u16 9), .lit (.int .u16 13), .lit (.int .u16 1)], .agg [.lit (.int .u16 32), .lit (.int .u16 133), .lit (.int .u16 101)], .agg [.lit (.int .u16 160), .lit (.int .u16 5760), .lit (.int .u16 5600)], .agg [.lit (.int .u16 8192), .lit (.int .u16 8202), .lit (.int .u16 1)], .agg [.lit (.int .u16 8232), .lit (.int .u16 8233), .lit (.int .u16 1)], .agg [.lit (.int .u16 8239), .lit (.int .u16 8287), .lit (.int .u16 48)], .agg [.lit (.int .u16 12288), .lit (.int .u16 12288), .lit (.int .u16 1)]] [], .nil, .lit (.int .i64 2)])
def laid_strings_asciiSpace {H : Type} : DataW H := .agg [.lit (.int .u8 0), .lit (.int .u8 0), .lit (.int .u8 0), .lit (.int .u8 0), .lit (.int .u8 0), .lit (.int .u8 0), .lit (.int .u8 0), .lit (.int .u8 0), .lit (.int .u8 0), .lit (.int .u8 1), .lit (.int .u8 1), .lit (.int .u8 1), .lit (.int .u8 1), .lit (.int .u8 1), .lit (.int .u8 0), .lit (.int .u8 0), .lit (.int .u8 0), .lit (.int .u8 0), .lit (.int .u8 0), .lit (.int .u8 0), .lit (.int .u8 0), .lit (.int .u8 0), .lit (.int .u8 0), .lit (.int .u8 0), .lit (.int .u8 0), .lit (.int .u8 0), .lit (.int .u8 0), .lit (.int .u8 0), .lit (.int .u8 0), .lit (.int .u8 0), .lit (.int .u8 0), .lit (.int .u8 0), .lit (.int .u8 1), .lit (.int .u8 0), .lit (.int .u8 0), .lit (.int .u8 0), .lit (.int .u8 0), .lit (.int .u8 0), .lit (.int .u8 0), .lit (.int .u8 0), .lit (.int .u8 0), .lit (.int .u8 0), .lit (.int .u8 0), .lit (.int .u8 0), .lit (.int .u8 0), .lit (.int .u8 0), .lit (.int .u8 0), .lit (.int .u8 0), .lit (.int .u8 0), .lit (.int .u8 0), .lit (.int .u8 0), .lit (.int .u8 0), .lit (.int .u8 0), .lit (.int .u8 0), .lit (.int .u8 0), .lit (.int .u8 0), .lit (.int .u8 0), .lit (.int .u8 0), .lit (.int .u8 0), .lit (.int .u8 0), .lit (.int .u8 0), .lit (.int .u8 0), .lit (.int .u8 0), .lit (.int .u8 0), .lit (.int .u8 0), .lit (.int .u8 0), .lit (.int .u8 0), .lit (.int .u8 0), .lit (.int .u8 0), .lit (.int .u8 0), .lit (.int .u8 0), .lit (.int .u8 0), .lit (.int .u8 0), .lit (.int .u8 0), .lit (.int .u8 0), .lit (.int .u8 0), .lit (.int .u8 0), .lit (.int .u8 0), .lit (.int .u8 0), .lit (.int .u8 0), .lit (.int .u8 0), .lit (.int .u8 0), .lit (.int .u8 0), .lit (.int .u8 0), .lit (.int .u8 0), .lit (.int .u8 0), .lit (.int .u8 0), .lit (.int .u8 0), .lit (.int .u8 0), .lit (.int .u8 0), .lit (.int .u8 0), .lit (.int .u8 0), .lit (.int .u8 0), .lit (.int .u8 0), .lit (.int .u8 0), .lit (.int .u8 0), .lit (.int .u8 0), .lit (.int .u8 0), .lit (.int .u8 0), .lit (.int .u8 0), .lit (.int .u8 0), .lit (.int .u8 0), .lit (.int .u8 0), .lit (.int .u8 0), .lit (.int .u8 0), .lit (.int .u8 0), .lit (.int .u8 0), .lit (.int .u8 0), .lit (.int .u8 0), .lit (.int .u8 0), .lit (.int .u8 0), .lit (.int .u8 0), .lit (.int .u8 0), .lit (.int .u8 0), .lit (.int .u8 0), .lit (.int .u8 0), .lit (.int .u8 0), .lit (.int .u8 0), .lit (.int .u8 0), .lit (.int .u8 0), .lit (.int .u8 0), .lit (.int .u8 0), .lit (.int .u8 0), .lit (.int .u8 0), .lit (.int .u8 0), .lit (.int .u8 0), .lit (.int .u8 0), .lit (.int .u8 0), .lit (.int .u8 0), .lit (.int .u8 0), .lit (.int .u8 0), .lit (.int .u8 0), .lit (.int .u8 0), .lit (.int .u8 0), .lit (.int .u8 0), .lit (.int .u8 0), .lit (.int .u8 0), .lit (.int .u8 0), .lit (.int .u8 0), .lit (.int .u8 0), .lit (.int .u8 0), .lit (.int .u8 0), .lit (.int .u8 0), .lit (.int .u8 0), .lit (.int .u8 0), .lit (.int .u8 0), .lit (.int .u8 0), .lit (.int .u8 0), .lit (.int .u8 0), .lit (.int .u8 0), .lit (.int .u8 0), .lit (.int .u8 0), .lit (.int .u8 0), .lit (.int .u8 0), .lit (.int .u8 0), .lit (.int .u8 0), .lit (.int .u8 0), .lit (.int .u8 0), .lit (.int .u8 0), .lit (.int .u8 0), .lit (.int .u8 0), .lit (.int .u8 0), .lit (.int .u8 0), .lit (.int .u8 0), .lit (.int .u8 0), .lit (.int .u8 0), .lit (.int .u8 0), .lit (.int .u8 0), .lit (.int .u8 0), .lit (.int .u8 0), .lit (.int .u8 0), .lit (.int .u8 0), .lit (.int .u8 0), .lit (.int .u8 0), .lit (.int .u8 0), .lit (.int .u8 0), .lit (.int .u8 0), .lit (.int .u8 0), .lit (.int .u8 0), .lit (.int .u8 0), .lit (.int .u8 0), .lit (.int .u8 0), .lit (.int .u8 0), .lit (.int .u8 0), .lit (.int .u8 0), .lit (.int .u8 0), .lit (.int .u8 0), .lit (.int .u8 0), .lit (.int .u8 0), .lit (.int .u8 0), .lit (.int .u8 0), .lit (.int .u8 0), .lit (.int .u8 0), .lit (.int .u8 0), .lit (.int .u8 0), .lit (.int .u8 0), .lit (.int .u8 0), .lit (.int .u8 0), .lit (.int .u8 0), .lit (.int .u8 0), .lit (.int .u8 0), .lit (.int .u8 0), .lit (.int .u8 0), .lit (.int .u8 0), .lit (.int .u8 0), .lit (.int .u8 0), .lit (.int .u8 0), .lit (.int .u8 0), .lit (.int .u8 0), .lit (.int .u8 0), .lit (.int .u8 0), .lit (.int .u8 0), .lit (.int .u8 0), .lit (.int .u8 0), .lit (.int .u8 0), .lit (.int .u8 0), .lit (.int .u8 0), .lit (.int .u8 0), .lit (.int .u8 0), .lit (.int .u8 0), .lit (.int .u8 0), .lit (.int .u8 0), .lit (.int .u8 0), .lit (.int .u8 0), .lit (.int .u8 0), .lit (.int .u8 0), .lit (.int .u8 0), .lit (.int .u8 0), .lit (.int .u8 0), .lit (.int .u8 0), .lit (.int .u8 0), .lit (.int .u8 0), .lit (.int .u8 0), .lit (.int .u8 0), .lit (.int .u8 0), .lit (.int .u8 0), .lit (.int .u8 0), .lit (.int .u8 0), .lit (.int .u8 0), .lit (.int .u8 0), .lit (.int .u8 0), .lit (.int .u8 0), .lit (.int .u8 0), .lit (.int .u8 0), .lit (.int .u8 0), .lit (.int .u8 0), .lit (.int .u8 0), .lit (.int .u8 0), .lit (.int .u8 0), .lit (.int .u8 0), .lit (.int .u8 0), .lit (.int .u8 0), .lit (.int .u8 0), .lit (.int .u8 0), .lit (.int .u8 0), .lit (.int .u8 0)]

/-- 'barscanlaw14.Gs1Verifies': WHATEVER THE INPUT: true; the input reads as it did. -/
def gs1VerifiesSpec : ChangeSpec := { name := "gs1Verifies", fn := fun _ => fun
  | [d1, d2] => { results := [.lit (.bool true)], args := [d1, d2] }
  | _ => none }
def gs1VerifiesRow : OpenClaim := { program := "ytkembhpmfigbcaadoor", sum := "397bd046b4d20232f73609cfe33d67f534fc49be0129d1e72b56873c9abde0f8", func := "barscan/barscanlaw14.Gs1Verifies", spec := "gs1Verifies", inPlace := ["internal/bytealg.IndexByteString", "internal/bytealg.IndexString", "internal/abi.NoEscape"], unfollowed := true, recurses := true, named := ["strings.asciiSpace", "unicode.White_Space", "internal/bytealg.MaxLen"], apart := false, laid := [("unicode.White_Space", laid_unicode_White_Space), ("strings.asciiSpace", laid_strings_asciiSpace)] }
def Gs1VerifiesSaid : Prop := gs1VerifiesRow.holds Tryd.pinned (OpenSpec.ofChange gs1VerifiesSpec)

/-- ITS FALSE NEIGHBOUR: 'it returns false'. Refute it at one input. -/
def gs1VerifiesWrong : ChangeSpec := { name := "gs1Verifies", fn := fun _ => fun
  | [d1, d2] => { results := [.lit (.bool false)], args := [d1, d2] }
  | _ => none }
def Gs1VerifiesWrongFalsely : Prop := gs1VerifiesRow.holds Tryd.pinned (OpenSpec.ofChange gs1VerifiesWrong)

/-- 'barscanlaw14.Gs1Texts': WHATEVER THE INPUT: true; the input reads as it did. -/
def gs1TextsSpec : ChangeSpec := { name := "gs1Texts", fn := fun _ => fun
  | [d1, d2] => { results := [.lit (.bool true)], args := [d1, d2] }
  | _ => none }
def gs1TextsRow : OpenClaim := { program := "ytkembhpmfigbcaadoor", sum := "397bd046b4d20232f73609cfe33d67f534fc49be0129d1e72b56873c9abde0f8", func := "barscan/barscanlaw14.Gs1Texts", spec := "gs1Texts", inPlace := ["internal/bytealg.IndexByteString", "internal/bytealg.IndexString", "internal/abi.NoEscape"], unfollowed := true, recurses := true, named := ["strings.asciiSpace", "unicode.White_Space", "internal/bytealg.MaxLen"], apart := false, laid := [("unicode.White_Space", laid_unicode_White_Space), ("strings.asciiSpace", laid_strings_asciiSpace)] }
def Gs1TextsSaid : Prop := gs1TextsRow.holds Tryd.pinned (OpenSpec.ofChange gs1TextsSpec)

/-- ITS FALSE NEIGHBOUR: 'it returns false'. Refute it at one input. -/
def gs1TextsWrong : ChangeSpec := { name := "gs1Texts", fn := fun _ => fun
  | [d1, d2] => { results := [.lit (.bool false)], args := [d1, d2] }
  | _ => none }
def Gs1TextsWrongFalsely : Prop := gs1TextsRow.holds Tryd.pinned (OpenSpec.ofChange gs1TextsWrong)

/-- 'barscanlaw14.Gs1Reads': WHATEVER THE INPUT: true; the input reads as it did. -/
def gs1ReadsSpec : ChangeSpec := { name := "gs1Reads", fn := fun _ => fun
  | [d] => { results := [.lit (.bool true)], args := [d] }
  | _ => none }
def gs1ReadsRow : OpenClaim := { program := "ytkembhpmfigbcaadoor", sum := "397bd046b4d20232f73609cfe33d67f534fc49be0129d1e72b56873c9abde0f8", func := "barscan/barscanlaw14.Gs1Reads", spec := "gs1Reads", inPlace := ["internal/bytealg.IndexByteString", "internal/bytealg.IndexString", "internal/abi.NoEscape"], unfollowed := true, recurses := true, named := ["strings.asciiSpace", "unicode.White_Space", "internal/bytealg.MaxLen"], apart := false, laid := [("unicode.White_Space", laid_unicode_White_Space), ("strings.asciiSpace", laid_strings_asciiSpace)] }
def Gs1ReadsSaid : Prop := gs1ReadsRow.holds Tryd.pinned (OpenSpec.ofChange gs1ReadsSpec)

/-- ITS FALSE NEIGHBOUR: 'it returns false'. Refute it at one input. -/
def gs1ReadsWrong : ChangeSpec := { name := "gs1Reads", fn := fun _ => fun
  | [d] => { results := [.lit (.bool false)], args := [d] }
  | _ => none }
def Gs1ReadsWrongFalsely : Prop := gs1ReadsRow.holds Tryd.pinned (OpenSpec.ofChange gs1ReadsWrong)

/-- 'barscanlaw14.Gs1RoundTrip': WHATEVER THE INPUT: true; the input reads as it did. -/
def gs1RoundTripSpec : ChangeSpec := { name := "gs1RoundTrip", fn := fun _ => fun
  | [d] => { results := [.lit (.bool true)], args := [d] }
  | _ => none }
def gs1RoundTripRow : OpenClaim := { program := "ytkembhpmfigbcaadoor", sum := "397bd046b4d20232f73609cfe33d67f534fc49be0129d1e72b56873c9abde0f8", func := "barscan/barscanlaw14.Gs1RoundTrip", spec := "gs1RoundTrip", inPlace := ["internal/bytealg.IndexByteString", "internal/abi.NoEscape", "internal/bytealg.IndexString"], unfollowed := true, recurses := true, named := ["strings.asciiSpace", "unicode.White_Space", "internal/bytealg.MaxLen"], apart := false, laid := [("unicode.White_Space", laid_unicode_White_Space), ("strings.asciiSpace", laid_strings_asciiSpace)] }
def Gs1RoundTripSaid : Prop := gs1RoundTripRow.holds Tryd.pinned (OpenSpec.ofChange gs1RoundTripSpec)

/-- ITS FALSE NEIGHBOUR: 'it returns false'. Refute it at one input. -/
def gs1RoundTripWrong : ChangeSpec := { name := "gs1RoundTrip", fn := fun _ => fun
  | [d] => { results := [.lit (.bool false)], args := [d] }
  | _ => none }
def Gs1RoundTripWrongFalsely : Prop := gs1RoundTripRow.holds Tryd.pinned (OpenSpec.ofChange gs1RoundTripWrong)

/-- 'barscanlaw14.Gs1Canonical': WHATEVER THE INPUT: true; the input reads as it did. -/
def gs1CanonicalSpec : ChangeSpec := { name := "gs1Canonical", fn := fun _ => fun
  | [d1, d2] => { results := [.lit (.bool true)], args := [d1, d2] }
  | _ => none }
def gs1CanonicalRow : OpenClaim := { program := "ytkembhpmfigbcaadoor", sum := "397bd046b4d20232f73609cfe33d67f534fc49be0129d1e72b56873c9abde0f8", func := "barscan/barscanlaw14.Gs1Canonical", spec := "gs1Canonical", inPlace := ["internal/bytealg.IndexByteString", "internal/bytealg.IndexString", "internal/abi.NoEscape"], unfollowed := true, recurses := true, named := ["strings.asciiSpace", "unicode.White_Space", "internal/bytealg.MaxLen"], apart := false, laid := [("unicode.White_Space", laid_unicode_White_Space), ("strings.asciiSpace", laid_strings_asciiSpace)] }
def Gs1CanonicalSaid : Prop := gs1CanonicalRow.holds Tryd.pinned (OpenSpec.ofChange gs1CanonicalSpec)

/-- ITS FALSE NEIGHBOUR: 'it returns false'. Refute it at one input. -/
def gs1CanonicalWrong : ChangeSpec := { name := "gs1Canonical", fn := fun _ => fun
  | [d1, d2] => { results := [.lit (.bool false)], args := [d1, d2] }
  | _ => none }
def Gs1CanonicalWrongFalsely : Prop := gs1CanonicalRow.holds Tryd.pinned (OpenSpec.ofChange gs1CanonicalWrong)

/-- 'barscanlaw14.Gs1Separators': WHATEVER THE INPUT: true; the input reads as it did. -/
def gs1SeparatorsSpec : ChangeSpec := { name := "gs1Separators", fn := fun _ => fun
  | [d] => { results := [.lit (.bool true)], args := [d] }
  | _ => none }
def gs1SeparatorsRow : OpenClaim := { program := "ytkembhpmfigbcaadoor", sum := "397bd046b4d20232f73609cfe33d67f534fc49be0129d1e72b56873c9abde0f8", func := "barscan/barscanlaw14.Gs1Separators", spec := "gs1Separators", inPlace := ["internal/bytealg.IndexByteString", "internal/bytealg.IndexString", "internal/abi.NoEscape"], unfollowed := true, recurses := true, named := ["strings.asciiSpace", "unicode.White_Space", "internal/bytealg.MaxLen"], apart := false, laid := [("unicode.White_Space", laid_unicode_White_Space), ("strings.asciiSpace", laid_strings_asciiSpace)] }
def Gs1SeparatorsSaid : Prop := gs1SeparatorsRow.holds Tryd.pinned (OpenSpec.ofChange gs1SeparatorsSpec)

/-- ITS FALSE NEIGHBOUR: 'it returns false'. Refute it at one input. -/
def gs1SeparatorsWrong : ChangeSpec := { name := "gs1Separators", fn := fun _ => fun
  | [d] => { results := [.lit (.bool false)], args := [d] }
  | _ => none }
def Gs1SeparatorsWrongFalsely : Prop := gs1SeparatorsRow.holds Tryd.pinned (OpenSpec.ofChange gs1SeparatorsWrong)

/-- 'barscanlaw14.Gs1Detects': WHATEVER THE INPUT: true; the input reads as it did. -/
def gs1DetectsSpec : ChangeSpec := { name := "gs1Detects", fn := fun _ => fun
  | [d1, d2, d3] => { results := [.lit (.bool true)], args := [d1, d2, d3] }
  | _ => none }
def gs1DetectsRow : OpenClaim := { program := "ytkembhpmfigbcaadoor", sum := "397bd046b4d20232f73609cfe33d67f534fc49be0129d1e72b56873c9abde0f8", func := "barscan/barscanlaw14.Gs1Detects", spec := "gs1Detects", inPlace := ["internal/bytealg.IndexByteString", "internal/bytealg.IndexString", "internal/abi.NoEscape"], unfollowed := true, recurses := true, named := ["strings.asciiSpace", "unicode.White_Space", "internal/bytealg.MaxLen"], apart := false, laid := [("unicode.White_Space", laid_unicode_White_Space), ("strings.asciiSpace", laid_strings_asciiSpace)] }
def Gs1DetectsSaid : Prop := gs1DetectsRow.holds Tryd.pinned (OpenSpec.ofChange gs1DetectsSpec)

/-- ITS FALSE NEIGHBOUR: 'it returns false'. Refute it at one input. -/
def gs1DetectsWrong : ChangeSpec := { name := "gs1Detects", fn := fun _ => fun
  | [d1, d2, d3] => { results := [.lit (.bool false)], args := [d1, d2, d3] }
  | _ => none }
def Gs1DetectsWrongFalsely : Prop := gs1DetectsRow.holds Tryd.pinned (OpenSpec.ofChange gs1DetectsWrong)

/- THE SECOND FORM. 'bulk': how many values and letters a reading holds, each counted each time it is reached (what is shared counts as often as it is met; a slice's spare places count too). A statement '..UptoSaid' is the law's where the arguments, and the package variables that the reading takes, are together of bulk at most 1048576: NARROWER than '..Said'. Prove '..Said' where nothing that the law and all that it calls make is longer than what came in: it says more and counts as full. Else prove '..UptoSaid'. A law counts once. -/
mutual
def uptoBulk {H : Type} : DataW H → Nat
  | .lit (.string bytes) => bytes.length + 1
  | .lit _ => 1
  | .nil => 1
  | .ptr d => uptoBulk d + 1
  | .slice elems spare => uptoBulkAll elems + uptoBulkAll spare + 1
  | .agg parts => uptoBulkAll parts + 1
  | .iface _ d => uptoBulk d + 1
  | .map entries => uptoBulkEntries entries + 1
  | .held _ => 1
def uptoBulkAll {H : Type} : List (DataW H) → Nat
  | [] => 0
  | d :: r => uptoBulk d + uptoBulkAll r
def uptoBulkEntries {H : Type} : List (Lit × DataW H) → Nat
  | [] => 0
  | x :: r => uptoBulkEntry x + uptoBulkEntries r
def uptoBulkEntry {H : Type} : Lit × DataW H → Nat
  | (.string bytes, d) => bytes.length + uptoBulk d + 1
  | (_, d) => uptoBulk d + 1
 end
def uptoSmall : (H : Type) → List (DataW H) → Bool := fun _ ds => decide (uptoBulkAll ds ≤ 1048576)
def OpenSpec.upto (s : _root_.Go.ChangeSpec) : _root_.Go.OpenSpec := { _root_.Go.OpenSpec.ofChange s with cond := some uptoSmall }

/-- 'barscanlaw14.Gs1Verifies', WHERE WHAT IT READS IS OF BULK AT MOST 1048576: true; the input reads as it did. -/
def gs1VerifiesUptoRow : OpenClaim := { program := "ytkembhpmfigbcaadoor", sum := "397bd046b4d20232f73609cfe33d67f534fc49be0129d1e72b56873c9abde0f8", func := "barscan/barscanlaw14.Gs1Verifies", spec := "gs1Verifies", inPlace := ["internal/bytealg.IndexByteString", "internal/bytealg.IndexString", "internal/abi.NoEscape"], unfollowed := true, recurses := true, named := ["strings.asciiSpace", "unicode.White_Space", "internal/bytealg.MaxLen"], apart := false, laid := [("unicode.White_Space", laid_unicode_White_Space), ("strings.asciiSpace", laid_strings_asciiSpace)], narrowed := true }
def Gs1VerifiesUptoSaid : Prop := gs1VerifiesUptoRow.holds Tryd.pinned (OpenSpec.upto gs1VerifiesSpec)

/-- 'barscanlaw14.Gs1Texts', WHERE WHAT IT READS IS OF BULK AT MOST 1048576: true; the input reads as it did. -/
def gs1TextsUptoRow : OpenClaim := { program := "ytkembhpmfigbcaadoor", sum := "397bd046b4d20232f73609cfe33d67f534fc49be0129d1e72b56873c9abde0f8", func := "barscan/barscanlaw14.Gs1Texts", spec := "gs1Texts", inPlace := ["internal/bytealg.IndexByteString", "internal/bytealg.IndexString", "internal/abi.NoEscape"], unfollowed := true, recurses := true, named := ["strings.asciiSpace", "unicode.White_Space", "internal/bytealg.MaxLen"], apart := false, laid := [("unicode.White_Space", laid_unicode_White_Space), ("strings.asciiSpace", laid_strings_asciiSpace)], narrowed := true }
def Gs1TextsUptoSaid : Prop := gs1TextsUptoRow.holds Tryd.pinned (OpenSpec.upto gs1TextsSpec)

/-- 'barscanlaw14.Gs1Reads', WHERE WHAT IT READS IS OF BULK AT MOST 1048576: true; the input reads as it did. -/
def gs1ReadsUptoRow : OpenClaim := { program := "ytkembhpmfigbcaadoor", sum := "397bd046b4d20232f73609cfe33d67f534fc49be0129d1e72b56873c9abde0f8", func := "barscan/barscanlaw14.Gs1Reads", spec := "gs1Reads", inPlace := ["internal/bytealg.IndexByteString", "internal/bytealg.IndexString", "internal/abi.NoEscape"], unfollowed := true, recurses := true, named := ["strings.asciiSpace", "unicode.White_Space", "internal/bytealg.MaxLen"], apart := false, laid := [("unicode.White_Space", laid_unicode_White_Space), ("strings.asciiSpace", laid_strings_asciiSpace)], narrowed := true }
def Gs1ReadsUptoSaid : Prop := gs1ReadsUptoRow.holds Tryd.pinned (OpenSpec.upto gs1ReadsSpec)

/-- 'barscanlaw14.Gs1RoundTrip', WHERE WHAT IT READS IS OF BULK AT MOST 1048576: true; the input reads as it did. -/
def gs1RoundTripUptoRow : OpenClaim := { program := "ytkembhpmfigbcaadoor", sum := "397bd046b4d20232f73609cfe33d67f534fc49be0129d1e72b56873c9abde0f8", func := "barscan/barscanlaw14.Gs1RoundTrip", spec := "gs1RoundTrip", inPlace := ["internal/bytealg.IndexByteString", "internal/abi.NoEscape", "internal/bytealg.IndexString"], unfollowed := true, recurses := true, named := ["strings.asciiSpace", "unicode.White_Space", "internal/bytealg.MaxLen"], apart := false, laid := [("unicode.White_Space", laid_unicode_White_Space), ("strings.asciiSpace", laid_strings_asciiSpace)], narrowed := true }
def Gs1RoundTripUptoSaid : Prop := gs1RoundTripUptoRow.holds Tryd.pinned (OpenSpec.upto gs1RoundTripSpec)

/-- 'barscanlaw14.Gs1Canonical', WHERE WHAT IT READS IS OF BULK AT MOST 1048576: true; the input reads as it did. -/
def gs1CanonicalUptoRow : OpenClaim := { program := "ytkembhpmfigbcaadoor", sum := "397bd046b4d20232f73609cfe33d67f534fc49be0129d1e72b56873c9abde0f8", func := "barscan/barscanlaw14.Gs1Canonical", spec := "gs1Canonical", inPlace := ["internal/bytealg.IndexByteString", "internal/bytealg.IndexString", "internal/abi.NoEscape"], unfollowed := true, recurses := true, named := ["strings.asciiSpace", "unicode.White_Space", "internal/bytealg.MaxLen"], apart := false, laid := [("unicode.White_Space", laid_unicode_White_Space), ("strings.asciiSpace", laid_strings_asciiSpace)], narrowed := true }
def Gs1CanonicalUptoSaid : Prop := gs1CanonicalUptoRow.holds Tryd.pinned (OpenSpec.upto gs1CanonicalSpec)

/-- 'barscanlaw14.Gs1Separators', WHERE WHAT IT READS IS OF BULK AT MOST 1048576: true; the input reads as it did. -/
def gs1SeparatorsUptoRow : OpenClaim := { program := "ytkembhpmfigbcaadoor", sum := "397bd046b4d20232f73609cfe33d67f534fc49be0129d1e72b56873c9abde0f8", func := "barscan/barscanlaw14.Gs1Separators", spec := "gs1Separators", inPlace := ["internal/bytealg.IndexByteString", "internal/bytealg.IndexString", "internal/abi.NoEscape"], unfollowed := true, recurses := true, named := ["strings.asciiSpace", "unicode.White_Space", "internal/bytealg.MaxLen"], apart := false, laid := [("unicode.White_Space", laid_unicode_White_Space), ("strings.asciiSpace", laid_strings_asciiSpace)], narrowed := true }
def Gs1SeparatorsUptoSaid : Prop := gs1SeparatorsUptoRow.holds Tryd.pinned (OpenSpec.upto gs1SeparatorsSpec)

/-- 'barscanlaw14.Gs1Detects', WHERE WHAT IT READS IS OF BULK AT MOST 1048576: true; the input reads as it did. -/
def gs1DetectsUptoRow : OpenClaim := { program := "ytkembhpmfigbcaadoor", sum := "397bd046b4d20232f73609cfe33d67f534fc49be0129d1e72b56873c9abde0f8", func := "barscan/barscanlaw14.Gs1Detects", spec := "gs1Detects", inPlace := ["internal/bytealg.IndexByteString", "internal/bytealg.IndexString", "internal/abi.NoEscape"], unfollowed := true, recurses := true, named := ["strings.asciiSpace", "unicode.White_Space", "internal/bytealg.MaxLen"], apart := false, laid := [("unicode.White_Space", laid_unicode_White_Space), ("strings.asciiSpace", laid_strings_asciiSpace)], narrowed := true }
def Gs1DetectsUptoSaid : Prop := gs1DetectsUptoRow.holds Tryd.pinned (OpenSpec.upto gs1DetectsSpec)

end Rows
end Go.Proofs.YtkembhpmfigbcaaDoor
