/-
  NARROWER THAN 'FOR EVERY INPUT', by the rows' own cells (each row's printed sentence says how): FormsChecks: laid · FormsLimits: laid · FormsValues: laid · FormsVerifies: laid · FormsExtracts: laid · FormsRepairs: laid · FormsRoundTrip: laid · FormsIssues: laid · FormsRestores: laid · FormsCalendar: laid · FormsLines: laid.
  DERIVED. THE GIVEN ROWS OF THIS SEAT. 11 by the template 'for every input the law returns true; each argument reads behind the call as it read before'; 0 by the template 'total and deterministic' (their statements: YtkpfehfcgpapiaaGreatDoorTotals.lean).
  GIVEN WITH THE SEED: the statements are not yours to turn. If you find one false, say at which input.
  Laid BY PROGRAM, IN A SANDBOX (cutbox-rows.mjs): the forced cells as the released guide's own fill.sh prints them over the translation 730c095489e6acf5… (all of the seat's roots in one cut). By AI agents, Wed Nov 11 2026. No macro, syntax, notation, axiom, sorry.
-/
import Derived.Test.YtkpfehfcgpapiaaGreatDoorChecked
import GoSem.PinnedTables
import GoSem.Claim
import GoSem.ClaimJoined
import GoSem.ClaimMapViews
import Derived.JoinedTies
import Derived.KernelRfl
namespace Go.Proofs.YtkpfehfcgpapiaaGreatDoor
/- THE CELL 'sum', in the pinned program and in every row, IS THE sha256 OF THE DUMP (.gsa) THAT YtkpfehfcgpapiaaGreatDoorProg.lean LOADS. Nothing in Lean hashes anything: it is a label: what it is worth is what the hold of that sum in a sandbox is worth. -/
noncomputable def Tryz.pinned : Pinned := { name := "ytkpfehfcgpapiaagreatdoor", sum := "730c095489e6acf5c86d809151c4889e9b6dd8adae1cd8fb7973a5925e8cbb53", checked := Tryz.checked }
namespace Rows
def none {H : Type} : Left H := { results := [], args := [] }

/- WHAT THE LISTED PACKAGE-LEVEL VARIABLES READ AS WHEN THE CALL BEGINS. Each datum BY PROGRAM (the guide's laid-datum.mjs) off the statement by which the dump's own 'gosem.cut.vars' lays the variable. In a bare row this is a premise. The card (YtkpfehfcgpapiaaGreatDoorCards.lean) ties it to the program's text. -/
def laid_math_bits_deBruijn32tab {H : Type} : DataW H := .agg [.lit (.int .u8 0), .lit (.int .u8 1), .lit (.int .u8 28), .lit (.int .u8 2), .lit (.int .u8 29), .lit (.int .u8 14), .lit (.int .u8 24), .lit (.int .u8 3), .lit (.int .u8 30), .lit (.int .u8 22), .lit (.int .u8 20), .lit (.int .u8 15), .lit (.int .u8 25), .lit (.int .u8 17), .lit (.int .u8 4), .lit (.int .u8 8), .lit (.int .u8 31), .lit (.int .u8 27), .lit (.int .u8 13), .lit (.int .u8 23), .lit (.int .u8 21), .lit (.int .u8 19), .lit (.int .u8 16), .lit (.int .u8 7), .lit (.int .u8 26), .lit (.int .u8 12), .lit (.int .u8 18), .lit (.int .u8 6), .lit (.int .u8 11), .lit (.int .u8 5), .lit (.int .u8 10), .lit (.int .u8 9)]
def laid_math_bits_deBruijn64tab {H : Type} : DataW H := .agg [.lit (.int .u8 0), .lit (.int .u8 1), .lit (.int .u8 56), .lit (.int .u8 2), .lit (.int .u8 57), .lit (.int .u8 49), .lit (.int .u8 28), .lit (.int .u8 3), .lit (.int .u8 61), .lit (.int .u8 58), .lit (.int .u8 42), .lit (.int .u8 50), .lit (.int .u8 38), .lit (.int .u8 29), .lit (.int .u8 17), .lit (.int .u8 4), .lit (.int .u8 62), .lit (.int .u8 47), .lit (.int .u8 59), .lit (.int .u8 36), .lit (.int .u8 45), .lit (.int .u8 43), .lit (.int .u8 51), .lit (.int .u8 22), .lit (.int .u8 53), .lit (.int .u8 39), .lit (.int .u8 33), .lit (.int .u8 30), .lit (.int .u8 24), .lit (.int .u8 18), .lit (.int .u8 12), .lit (.int .u8 5), .lit (.int .u8 63), .lit (.int .u8 55), .lit (.int .u8 48), .lit (.int .u8 27), .lit (.int .u8 60), .lit (.int .u8 41), .lit (.int .u8 37), .lit (.int .u8 16), .lit (.int .u8 46), .lit (.int .u8 35), .lit (.int .u8 44), .lit (.int .u8 21), .lit (.int .u8 52), .lit (.int .u8 32), .lit (.int .u8 23), .lit (.int .u8 11), .lit (.int .u8 54), .lit (.int .u8 26), .lit (.int .u8 40), .lit (.int .u8 15), .lit (.int .u8 34), .lit (.int .u8 20), .lit (.int .u8 31), .lit (.int .u8 10), .lit (.int .u8 25), .lit (.int .u8 14), .lit (.int .u8 19), .lit (.int .u8 9), .lit (.int .u8 13), .lit (.int .u8 8), .lit (.int .u8 7), .lit (.int .u8 6)]
def laid_internal_strconv_uint64pow10 {H : Type} : DataW H := .agg [.lit (.int .u64 1), .lit (.int .u64 10), .lit (.int .u64 100), .lit (.int .u64 1000), .lit (.int .u64 10000), .lit (.int .u64 100000), .lit (.int .u64 1000000), .lit (.int .u64 10000000), .lit (.int .u64 100000000), .lit (.int .u64 1000000000), .lit (.int .u64 10000000000), .lit (.int .u64 100000000000), .lit (.int .u64 1000000000000), .lit (.int .u64 10000000000000), .lit (.int .u64 100000000000000), .lit (.int .u64 1000000000000000), .lit (.int .u64 10000000000000000), .lit (.int .u64 100000000000000000), .lit (.int .u64 1000000000000000000), .lit (.int .u64 10000000000000000000)]
def laid_unicode_utf8_acceptRanges {H : Type} : DataW H := .agg [.agg [.lit (.int .u8 128), .lit (.int .u8 191)], .agg [.lit (.int .u8 160), .lit (.int .u8 191)], .agg [.lit (.int .u8 128), .lit (.int .u8 159)], .agg [.lit (.int .u8 144), .lit (.int .u8 191)], .agg [.lit (.int .u8 128), .lit (.int .u8 143)], .agg [.lit (.int .u8 0), .lit (.int .u8 0)], .agg [.lit (.int .u8 0), .lit (.int .u8 0)], .agg [.lit (.int .u8 0), .lit (.int .u8 0)], .agg [.lit (.int .u8 0), .lit (.int .u8 0)], .agg [.lit (.int .u8 0), .lit (.int .u8 0)], .agg [.lit (.int .u8 0), .lit (.int .u8 0)], .agg [.lit (.int .u8 0), .lit (.int .u8 0)], .agg [.lit (.int .u8 0), .lit (.int .u8 0)], .agg [.lit (.int .u8 0), .lit (.int .u8 0)], .agg [.lit (.int .u8 0), .lit (.int .u8 0)], .agg [.lit (.int .u8 0), .lit (.int .u8 0)]]
def laid_strconv_ErrRange {H : Type} : DataW H := .iface "*errors.errorString" (.ptr (.agg [.lit (.string [118, 97, 108, 117, 101, 32, 111, 117, 116, 32, 111, 102, 32, 114, 97, 110, 103, 101])]))
def laid_strconv_ErrSyntax {H : Type} : DataW H := .iface "*errors.errorString" (.ptr (.agg [.lit (.string [105, 110, 118, 97, 108, 105, 100, 32, 115, 121, 110, 116, 97, 120])]))
def laid_barscan_forms_errLine {H : Type} : DataW H := .iface "*errors.errorString" (.ptr (.agg [.lit (.string [116, 104, 101, 32, 108, 105, 110, 101, 32, 105, 115, 32, 110, 111, 116, 32, 97, 32, 112, 111, 115, 115, 105, 98, 108, 101, 32, 111, 110, 101])]))
def laid_barscan_forms_errRange {H : Type} : DataW H := .iface "*errors.errorString" (.ptr (.agg [.lit (.string [97, 32, 110, 117, 109, 98, 101, 114, 32, 105, 115, 32, 111, 117, 116, 115, 105, 100, 101, 32, 111, 102, 32, 105, 116, 115, 32, 114, 97, 110, 103, 101])]))
/-- One of Go's own tables, pinned by name: the form's constant. -/
def laid_unicode_utf8_first : DataW Unit := Go.Pinned.utf8First

/-- 'barscanlaw51.FormsChecks': WHATEVER THE INPUT: true; the input reads as it did. -/
def formsChecksSpec : ChangeSpec := { name := "formsChecks", fn := fun _ => fun
  | [d] => { results := [.lit (.bool true)], args := [d] }
  | _ => none }
def formsChecksRow : OpenClaim := { program := "ytkpfehfcgpapiaagreatdoor", sum := "730c095489e6acf5c86d809151c4889e9b6dd8adae1cd8fb7973a5925e8cbb53", func := "barscan/barscanlaw51.FormsChecks", spec := "formsChecks", inPlace := ["internal/bytealg.CountString", "internal/bytealg.IndexByteString", "internal/bytealg.IndexString", "internal/reflectlite.TypeOf", "internal/abi.NoEscape", "internal/bytealg.MakeNoZero"], unfollowed := true, recurses := true, named := ["barscan/forms.errRange", "barscan/forms.errLine", "unicode/utf8.first", "unicode/utf8.acceptRanges", "internal/bytealg.MaxLen", "strconv.ErrSyntax", "strconv.ErrRange", "internal/strconv.uint64pow10", "math/bits.deBruijn32tab", "math/bits.deBruijn64tab"], apart := false, laid := [("math/bits.deBruijn32tab", laid_math_bits_deBruijn32tab), ("math/bits.deBruijn64tab", laid_math_bits_deBruijn64tab), ("internal/strconv.uint64pow10", laid_internal_strconv_uint64pow10), ("unicode/utf8.acceptRanges", laid_unicode_utf8_acceptRanges), ("strconv.ErrRange", laid_strconv_ErrRange), ("strconv.ErrSyntax", laid_strconv_ErrSyntax), ("barscan/forms.errLine", laid_barscan_forms_errLine), ("barscan/forms.errRange", laid_barscan_forms_errRange), ("unicode/utf8.first", laid_unicode_utf8_first)] }
def FormsChecksSaid : Prop := formsChecksRow.holds Tryz.pinned (OpenSpec.ofChange formsChecksSpec)

/-- ITS FALSE NEIGHBOUR: 'it returns false'. Refute it at one input. -/
def formsChecksWrong : ChangeSpec := { name := "formsChecks", fn := fun _ => fun
  | [d] => { results := [.lit (.bool false)], args := [d] }
  | _ => none }
def FormsChecksWrongFalsely : Prop := formsChecksRow.holds Tryz.pinned (OpenSpec.ofChange formsChecksWrong)

/-- 'barscanlaw51.FormsLimits': WHATEVER THE INPUT: true; the input reads as it did. -/
def formsLimitsSpec : ChangeSpec := { name := "formsLimits", fn := fun _ => fun
  | [d1, d2] => { results := [.lit (.bool true)], args := [d1, d2] }
  | _ => none }
def formsLimitsRow : OpenClaim := { program := "ytkpfehfcgpapiaagreatdoor", sum := "730c095489e6acf5c86d809151c4889e9b6dd8adae1cd8fb7973a5925e8cbb53", func := "barscan/barscanlaw51.FormsLimits", spec := "formsLimits", inPlace := ["internal/bytealg.CountString", "internal/bytealg.IndexByteString", "internal/bytealg.IndexString", "internal/reflectlite.TypeOf", "internal/abi.NoEscape", "internal/bytealg.MakeNoZero"], unfollowed := true, recurses := true, named := ["barscan/forms.errRange", "barscan/forms.errLine", "unicode/utf8.first", "unicode/utf8.acceptRanges", "internal/bytealg.MaxLen", "strconv.ErrSyntax", "strconv.ErrRange", "internal/strconv.uint64pow10", "math/bits.deBruijn32tab", "math/bits.deBruijn64tab"], apart := false, laid := [("math/bits.deBruijn32tab", laid_math_bits_deBruijn32tab), ("math/bits.deBruijn64tab", laid_math_bits_deBruijn64tab), ("internal/strconv.uint64pow10", laid_internal_strconv_uint64pow10), ("unicode/utf8.acceptRanges", laid_unicode_utf8_acceptRanges), ("strconv.ErrRange", laid_strconv_ErrRange), ("strconv.ErrSyntax", laid_strconv_ErrSyntax), ("barscan/forms.errLine", laid_barscan_forms_errLine), ("barscan/forms.errRange", laid_barscan_forms_errRange), ("unicode/utf8.first", laid_unicode_utf8_first)] }
def FormsLimitsSaid : Prop := formsLimitsRow.holds Tryz.pinned (OpenSpec.ofChange formsLimitsSpec)

/-- ITS FALSE NEIGHBOUR: 'it returns false'. Refute it at one input. -/
def formsLimitsWrong : ChangeSpec := { name := "formsLimits", fn := fun _ => fun
  | [d1, d2] => { results := [.lit (.bool false)], args := [d1, d2] }
  | _ => none }
def FormsLimitsWrongFalsely : Prop := formsLimitsRow.holds Tryz.pinned (OpenSpec.ofChange formsLimitsWrong)

/-- 'barscanlaw51.FormsValues': WHATEVER THE INPUT: true; the input reads as it did. -/
def formsValuesSpec : ChangeSpec := { name := "formsValues", fn := fun _ => fun
  | [d1, d2] => { results := [.lit (.bool true)], args := [d1, d2] }
  | _ => none }
def formsValuesRow : OpenClaim := { program := "ytkpfehfcgpapiaagreatdoor", sum := "730c095489e6acf5c86d809151c4889e9b6dd8adae1cd8fb7973a5925e8cbb53", func := "barscan/barscanlaw51.FormsValues", spec := "formsValues", inPlace := ["internal/bytealg.CountString", "internal/bytealg.IndexByteString", "internal/bytealg.IndexString", "internal/reflectlite.TypeOf", "internal/abi.NoEscape", "internal/bytealg.MakeNoZero"], unfollowed := true, recurses := true, named := ["barscan/forms.errRange", "barscan/forms.errLine", "unicode/utf8.first", "unicode/utf8.acceptRanges", "internal/bytealg.MaxLen", "strconv.ErrSyntax", "strconv.ErrRange", "internal/strconv.uint64pow10", "math/bits.deBruijn32tab", "math/bits.deBruijn64tab"], apart := false, laid := [("math/bits.deBruijn32tab", laid_math_bits_deBruijn32tab), ("math/bits.deBruijn64tab", laid_math_bits_deBruijn64tab), ("internal/strconv.uint64pow10", laid_internal_strconv_uint64pow10), ("unicode/utf8.acceptRanges", laid_unicode_utf8_acceptRanges), ("strconv.ErrRange", laid_strconv_ErrRange), ("strconv.ErrSyntax", laid_strconv_ErrSyntax), ("barscan/forms.errLine", laid_barscan_forms_errLine), ("barscan/forms.errRange", laid_barscan_forms_errRange), ("unicode/utf8.first", laid_unicode_utf8_first)] }
def FormsValuesSaid : Prop := formsValuesRow.holds Tryz.pinned (OpenSpec.ofChange formsValuesSpec)

/-- ITS FALSE NEIGHBOUR: 'it returns false'. Refute it at one input. -/
def formsValuesWrong : ChangeSpec := { name := "formsValues", fn := fun _ => fun
  | [d1, d2] => { results := [.lit (.bool false)], args := [d1, d2] }
  | _ => none }
def FormsValuesWrongFalsely : Prop := formsValuesRow.holds Tryz.pinned (OpenSpec.ofChange formsValuesWrong)

/-- 'barscanlaw51.FormsVerifies': WHATEVER THE INPUT: true; the input reads as it did. -/
def formsVerifiesSpec : ChangeSpec := { name := "formsVerifies", fn := fun _ => fun
  | [d1, d2] => { results := [.lit (.bool true)], args := [d1, d2] }
  | _ => none }
def formsVerifiesRow : OpenClaim := { program := "ytkpfehfcgpapiaagreatdoor", sum := "730c095489e6acf5c86d809151c4889e9b6dd8adae1cd8fb7973a5925e8cbb53", func := "barscan/barscanlaw51.FormsVerifies", spec := "formsVerifies", inPlace := ["internal/bytealg.CountString", "internal/bytealg.IndexByteString", "internal/bytealg.IndexString", "internal/reflectlite.TypeOf", "internal/abi.NoEscape", "internal/bytealg.MakeNoZero"], unfollowed := true, recurses := true, named := ["barscan/forms.errRange", "barscan/forms.errLine", "unicode/utf8.first", "unicode/utf8.acceptRanges", "internal/bytealg.MaxLen", "strconv.ErrSyntax", "strconv.ErrRange", "internal/strconv.uint64pow10", "math/bits.deBruijn32tab", "math/bits.deBruijn64tab"], apart := false, laid := [("math/bits.deBruijn32tab", laid_math_bits_deBruijn32tab), ("math/bits.deBruijn64tab", laid_math_bits_deBruijn64tab), ("internal/strconv.uint64pow10", laid_internal_strconv_uint64pow10), ("unicode/utf8.acceptRanges", laid_unicode_utf8_acceptRanges), ("strconv.ErrRange", laid_strconv_ErrRange), ("strconv.ErrSyntax", laid_strconv_ErrSyntax), ("barscan/forms.errLine", laid_barscan_forms_errLine), ("barscan/forms.errRange", laid_barscan_forms_errRange), ("unicode/utf8.first", laid_unicode_utf8_first)] }
def FormsVerifiesSaid : Prop := formsVerifiesRow.holds Tryz.pinned (OpenSpec.ofChange formsVerifiesSpec)

/-- ITS FALSE NEIGHBOUR: 'it returns false'. Refute it at one input. -/
def formsVerifiesWrong : ChangeSpec := { name := "formsVerifies", fn := fun _ => fun
  | [d1, d2] => { results := [.lit (.bool false)], args := [d1, d2] }
  | _ => none }
def FormsVerifiesWrongFalsely : Prop := formsVerifiesRow.holds Tryz.pinned (OpenSpec.ofChange formsVerifiesWrong)

/-- 'barscanlaw51.FormsExtracts': WHATEVER THE INPUT: true; the input reads as it did. -/
def formsExtractsSpec : ChangeSpec := { name := "formsExtracts", fn := fun _ => fun
  | [d1, d2] => { results := [.lit (.bool true)], args := [d1, d2] }
  | _ => none }
def formsExtractsRow : OpenClaim := { program := "ytkpfehfcgpapiaagreatdoor", sum := "730c095489e6acf5c86d809151c4889e9b6dd8adae1cd8fb7973a5925e8cbb53", func := "barscan/barscanlaw51.FormsExtracts", spec := "formsExtracts", inPlace := ["internal/bytealg.CountString", "internal/bytealg.IndexByteString", "internal/bytealg.IndexString", "internal/reflectlite.TypeOf", "internal/abi.NoEscape", "internal/bytealg.MakeNoZero"], unfollowed := true, recurses := true, named := ["barscan/forms.errRange", "barscan/forms.errLine", "unicode/utf8.first", "unicode/utf8.acceptRanges", "internal/bytealg.MaxLen", "strconv.ErrSyntax", "strconv.ErrRange", "internal/strconv.uint64pow10", "math/bits.deBruijn32tab", "math/bits.deBruijn64tab"], apart := false, laid := [("math/bits.deBruijn32tab", laid_math_bits_deBruijn32tab), ("math/bits.deBruijn64tab", laid_math_bits_deBruijn64tab), ("internal/strconv.uint64pow10", laid_internal_strconv_uint64pow10), ("unicode/utf8.acceptRanges", laid_unicode_utf8_acceptRanges), ("strconv.ErrRange", laid_strconv_ErrRange), ("strconv.ErrSyntax", laid_strconv_ErrSyntax), ("barscan/forms.errLine", laid_barscan_forms_errLine), ("barscan/forms.errRange", laid_barscan_forms_errRange), ("unicode/utf8.first", laid_unicode_utf8_first)] }
def FormsExtractsSaid : Prop := formsExtractsRow.holds Tryz.pinned (OpenSpec.ofChange formsExtractsSpec)

/-- ITS FALSE NEIGHBOUR: 'it returns false'. Refute it at one input. -/
def formsExtractsWrong : ChangeSpec := { name := "formsExtracts", fn := fun _ => fun
  | [d1, d2] => { results := [.lit (.bool false)], args := [d1, d2] }
  | _ => none }
def FormsExtractsWrongFalsely : Prop := formsExtractsRow.holds Tryz.pinned (OpenSpec.ofChange formsExtractsWrong)

/-- 'barscanlaw51.FormsRepairs': WHATEVER THE INPUT: true; the input reads as it did. -/
def formsRepairsSpec : ChangeSpec := { name := "formsRepairs", fn := fun _ => fun
  | [d1, d2] => { results := [.lit (.bool true)], args := [d1, d2] }
  | _ => none }
def formsRepairsRow : OpenClaim := { program := "ytkpfehfcgpapiaagreatdoor", sum := "730c095489e6acf5c86d809151c4889e9b6dd8adae1cd8fb7973a5925e8cbb53", func := "barscan/barscanlaw51.FormsRepairs", spec := "formsRepairs", inPlace := ["internal/bytealg.CountString", "internal/bytealg.IndexByteString", "internal/bytealg.IndexString", "internal/reflectlite.TypeOf", "internal/abi.NoEscape", "internal/bytealg.MakeNoZero"], unfollowed := true, recurses := true, named := ["barscan/forms.errRange", "barscan/forms.errLine", "unicode/utf8.first", "unicode/utf8.acceptRanges", "internal/bytealg.MaxLen", "strconv.ErrSyntax", "strconv.ErrRange", "internal/strconv.uint64pow10", "math/bits.deBruijn32tab", "math/bits.deBruijn64tab"], apart := false, laid := [("math/bits.deBruijn32tab", laid_math_bits_deBruijn32tab), ("math/bits.deBruijn64tab", laid_math_bits_deBruijn64tab), ("internal/strconv.uint64pow10", laid_internal_strconv_uint64pow10), ("unicode/utf8.acceptRanges", laid_unicode_utf8_acceptRanges), ("strconv.ErrRange", laid_strconv_ErrRange), ("strconv.ErrSyntax", laid_strconv_ErrSyntax), ("barscan/forms.errLine", laid_barscan_forms_errLine), ("barscan/forms.errRange", laid_barscan_forms_errRange), ("unicode/utf8.first", laid_unicode_utf8_first)] }
def FormsRepairsSaid : Prop := formsRepairsRow.holds Tryz.pinned (OpenSpec.ofChange formsRepairsSpec)

/-- ITS FALSE NEIGHBOUR: 'it returns false'. Refute it at one input. -/
def formsRepairsWrong : ChangeSpec := { name := "formsRepairs", fn := fun _ => fun
  | [d1, d2] => { results := [.lit (.bool false)], args := [d1, d2] }
  | _ => none }
def FormsRepairsWrongFalsely : Prop := formsRepairsRow.holds Tryz.pinned (OpenSpec.ofChange formsRepairsWrong)

/-- 'barscanlaw51.FormsRoundTrip': WHATEVER THE INPUT: true; the input reads as it did. -/
def formsRoundTripSpec : ChangeSpec := { name := "formsRoundTrip", fn := fun _ => fun
  | [d] => { results := [.lit (.bool true)], args := [d] }
  | _ => none }
def formsRoundTripRow : OpenClaim := { program := "ytkpfehfcgpapiaagreatdoor", sum := "730c095489e6acf5c86d809151c4889e9b6dd8adae1cd8fb7973a5925e8cbb53", func := "barscan/barscanlaw51.FormsRoundTrip", spec := "formsRoundTrip", inPlace := ["internal/bytealg.IndexByteString", "internal/abi.NoEscape", "internal/bytealg.MakeNoZero", "internal/bytealg.CountString", "internal/bytealg.IndexString", "internal/reflectlite.TypeOf"], unfollowed := true, recurses := true, named := ["internal/strconv.uint64pow10", "math/bits.deBruijn32tab", "math/bits.deBruijn64tab", "barscan/forms.errRange", "barscan/forms.errLine", "unicode/utf8.first", "unicode/utf8.acceptRanges", "internal/bytealg.MaxLen", "strconv.ErrSyntax", "strconv.ErrRange"], apart := false, laid := [("math/bits.deBruijn32tab", laid_math_bits_deBruijn32tab), ("math/bits.deBruijn64tab", laid_math_bits_deBruijn64tab), ("internal/strconv.uint64pow10", laid_internal_strconv_uint64pow10), ("unicode/utf8.acceptRanges", laid_unicode_utf8_acceptRanges), ("strconv.ErrRange", laid_strconv_ErrRange), ("strconv.ErrSyntax", laid_strconv_ErrSyntax), ("barscan/forms.errLine", laid_barscan_forms_errLine), ("barscan/forms.errRange", laid_barscan_forms_errRange), ("unicode/utf8.first", laid_unicode_utf8_first)] }
def FormsRoundTripSaid : Prop := formsRoundTripRow.holds Tryz.pinned (OpenSpec.ofChange formsRoundTripSpec)

/-- ITS FALSE NEIGHBOUR: 'it returns false'. Refute it at one input. -/
def formsRoundTripWrong : ChangeSpec := { name := "formsRoundTrip", fn := fun _ => fun
  | [d] => { results := [.lit (.bool false)], args := [d] }
  | _ => none }
def FormsRoundTripWrongFalsely : Prop := formsRoundTripRow.holds Tryz.pinned (OpenSpec.ofChange formsRoundTripWrong)

/-- 'barscanlaw51.FormsIssues': WHATEVER THE INPUT: true; the input reads as it did. -/
def formsIssuesSpec : ChangeSpec := { name := "formsIssues", fn := fun _ => fun
  | [d1, d2] => { results := [.lit (.bool true)], args := [d1, d2] }
  | _ => none }
def formsIssuesRow : OpenClaim := { program := "ytkpfehfcgpapiaagreatdoor", sum := "730c095489e6acf5c86d809151c4889e9b6dd8adae1cd8fb7973a5925e8cbb53", func := "barscan/barscanlaw51.FormsIssues", spec := "formsIssues", inPlace := ["internal/bytealg.IndexByteString", "internal/bytealg.IndexString", "internal/bytealg.CountString", "internal/reflectlite.TypeOf", "internal/abi.NoEscape", "internal/bytealg.MakeNoZero"], unfollowed := true, recurses := true, named := ["unicode/utf8.first", "unicode/utf8.acceptRanges", "strconv.ErrSyntax", "strconv.ErrRange", "internal/strconv.uint64pow10", "math/bits.deBruijn32tab", "math/bits.deBruijn64tab", "barscan/forms.errLine", "barscan/forms.errRange", "internal/bytealg.MaxLen"], apart := false, laid := [("math/bits.deBruijn32tab", laid_math_bits_deBruijn32tab), ("math/bits.deBruijn64tab", laid_math_bits_deBruijn64tab), ("internal/strconv.uint64pow10", laid_internal_strconv_uint64pow10), ("unicode/utf8.acceptRanges", laid_unicode_utf8_acceptRanges), ("strconv.ErrRange", laid_strconv_ErrRange), ("strconv.ErrSyntax", laid_strconv_ErrSyntax), ("barscan/forms.errLine", laid_barscan_forms_errLine), ("barscan/forms.errRange", laid_barscan_forms_errRange), ("unicode/utf8.first", laid_unicode_utf8_first)] }
def FormsIssuesSaid : Prop := formsIssuesRow.holds Tryz.pinned (OpenSpec.ofChange formsIssuesSpec)

/-- ITS FALSE NEIGHBOUR: 'it returns false'. Refute it at one input. -/
def formsIssuesWrong : ChangeSpec := { name := "formsIssues", fn := fun _ => fun
  | [d1, d2] => { results := [.lit (.bool false)], args := [d1, d2] }
  | _ => none }
def FormsIssuesWrongFalsely : Prop := formsIssuesRow.holds Tryz.pinned (OpenSpec.ofChange formsIssuesWrong)

/-- 'barscanlaw51.FormsRestores': WHATEVER THE INPUT: true; the input reads as it did. -/
def formsRestoresSpec : ChangeSpec := { name := "formsRestores", fn := fun _ => fun
  | [d1, d2, d3] => { results := [.lit (.bool true)], args := [d1, d2, d3] }
  | _ => none }
def formsRestoresRow : OpenClaim := { program := "ytkpfehfcgpapiaagreatdoor", sum := "730c095489e6acf5c86d809151c4889e9b6dd8adae1cd8fb7973a5925e8cbb53", func := "barscan/barscanlaw51.FormsRestores", spec := "formsRestores", inPlace := ["internal/bytealg.IndexByteString", "internal/bytealg.IndexString", "internal/bytealg.CountString", "internal/reflectlite.TypeOf", "internal/abi.NoEscape", "internal/bytealg.MakeNoZero"], unfollowed := true, recurses := true, named := ["unicode/utf8.first", "unicode/utf8.acceptRanges", "strconv.ErrSyntax", "strconv.ErrRange", "internal/strconv.uint64pow10", "math/bits.deBruijn32tab", "math/bits.deBruijn64tab", "barscan/forms.errLine", "barscan/forms.errRange", "internal/bytealg.MaxLen"], apart := false, laid := [("math/bits.deBruijn32tab", laid_math_bits_deBruijn32tab), ("math/bits.deBruijn64tab", laid_math_bits_deBruijn64tab), ("internal/strconv.uint64pow10", laid_internal_strconv_uint64pow10), ("unicode/utf8.acceptRanges", laid_unicode_utf8_acceptRanges), ("strconv.ErrRange", laid_strconv_ErrRange), ("strconv.ErrSyntax", laid_strconv_ErrSyntax), ("barscan/forms.errLine", laid_barscan_forms_errLine), ("barscan/forms.errRange", laid_barscan_forms_errRange), ("unicode/utf8.first", laid_unicode_utf8_first)] }
def FormsRestoresSaid : Prop := formsRestoresRow.holds Tryz.pinned (OpenSpec.ofChange formsRestoresSpec)

/-- ITS FALSE NEIGHBOUR: 'it returns false'. Refute it at one input. -/
def formsRestoresWrong : ChangeSpec := { name := "formsRestores", fn := fun _ => fun
  | [d1, d2, d3] => { results := [.lit (.bool false)], args := [d1, d2, d3] }
  | _ => none }
def FormsRestoresWrongFalsely : Prop := formsRestoresRow.holds Tryz.pinned (OpenSpec.ofChange formsRestoresWrong)

/-- 'barscanlaw51.FormsCalendar': WHATEVER THE INPUT: true; the input reads as it did. -/
def formsCalendarSpec : ChangeSpec := { name := "formsCalendar", fn := fun _ => fun
  | [d] => { results := [.lit (.bool true)], args := [d] }
  | _ => none }
def formsCalendarRow : OpenClaim := { program := "ytkpfehfcgpapiaagreatdoor", sum := "730c095489e6acf5c86d809151c4889e9b6dd8adae1cd8fb7973a5925e8cbb53", func := "barscan/barscanlaw51.FormsCalendar", spec := "formsCalendar", inPlace := ["internal/bytealg.IndexByteString", "internal/bytealg.IndexString", "internal/bytealg.CountString", "internal/reflectlite.TypeOf", "internal/abi.NoEscape", "internal/bytealg.MakeNoZero"], unfollowed := true, recurses := true, named := ["unicode/utf8.first", "unicode/utf8.acceptRanges", "strconv.ErrSyntax", "strconv.ErrRange", "internal/strconv.uint64pow10", "math/bits.deBruijn32tab", "math/bits.deBruijn64tab", "barscan/forms.errLine", "barscan/forms.errRange", "internal/bytealg.MaxLen"], apart := false, laid := [("math/bits.deBruijn32tab", laid_math_bits_deBruijn32tab), ("math/bits.deBruijn64tab", laid_math_bits_deBruijn64tab), ("internal/strconv.uint64pow10", laid_internal_strconv_uint64pow10), ("unicode/utf8.acceptRanges", laid_unicode_utf8_acceptRanges), ("strconv.ErrRange", laid_strconv_ErrRange), ("strconv.ErrSyntax", laid_strconv_ErrSyntax), ("barscan/forms.errLine", laid_barscan_forms_errLine), ("barscan/forms.errRange", laid_barscan_forms_errRange), ("unicode/utf8.first", laid_unicode_utf8_first)] }
def FormsCalendarSaid : Prop := formsCalendarRow.holds Tryz.pinned (OpenSpec.ofChange formsCalendarSpec)

/-- ITS FALSE NEIGHBOUR: 'it returns false'. Refute it at one input. -/
def formsCalendarWrong : ChangeSpec := { name := "formsCalendar", fn := fun _ => fun
  | [d] => { results := [.lit (.bool false)], args := [d] }
  | _ => none }
def FormsCalendarWrongFalsely : Prop := formsCalendarRow.holds Tryz.pinned (OpenSpec.ofChange formsCalendarWrong)

/-- 'barscanlaw51.FormsLines': WHATEVER THE INPUT: true; the input reads as it did. -/
def formsLinesSpec : ChangeSpec := { name := "formsLines", fn := fun _ => fun
  | [d1, d2] => { results := [.lit (.bool true)], args := [d1, d2] }
  | _ => none }
def formsLinesRow : OpenClaim := { program := "ytkpfehfcgpapiaagreatdoor", sum := "730c095489e6acf5c86d809151c4889e9b6dd8adae1cd8fb7973a5925e8cbb53", func := "barscan/barscanlaw51.FormsLines", spec := "formsLines", inPlace := ["internal/bytealg.IndexByteString", "internal/bytealg.CountString", "internal/bytealg.IndexString", "internal/reflectlite.TypeOf", "internal/abi.NoEscape", "internal/bytealg.MakeNoZero"], unfollowed := true, recurses := true, named := ["barscan/forms.errRange", "barscan/forms.errLine", "unicode/utf8.first", "unicode/utf8.acceptRanges", "internal/bytealg.MaxLen", "strconv.ErrSyntax", "strconv.ErrRange", "internal/strconv.uint64pow10", "math/bits.deBruijn32tab", "math/bits.deBruijn64tab"], apart := false, laid := [("math/bits.deBruijn32tab", laid_math_bits_deBruijn32tab), ("math/bits.deBruijn64tab", laid_math_bits_deBruijn64tab), ("internal/strconv.uint64pow10", laid_internal_strconv_uint64pow10), ("unicode/utf8.acceptRanges", laid_unicode_utf8_acceptRanges), ("strconv.ErrRange", laid_strconv_ErrRange), ("strconv.ErrSyntax", laid_strconv_ErrSyntax), ("barscan/forms.errLine", laid_barscan_forms_errLine), ("barscan/forms.errRange", laid_barscan_forms_errRange), ("unicode/utf8.first", laid_unicode_utf8_first)] }
def FormsLinesSaid : Prop := formsLinesRow.holds Tryz.pinned (OpenSpec.ofChange formsLinesSpec)

/-- ITS FALSE NEIGHBOUR: 'it returns false'. Refute it at one input. -/
def formsLinesWrong : ChangeSpec := { name := "formsLines", fn := fun _ => fun
  | [d1, d2] => { results := [.lit (.bool false)], args := [d1, d2] }
  | _ => none }
def FormsLinesWrongFalsely : Prop := formsLinesRow.holds Tryz.pinned (OpenSpec.ofChange formsLinesWrong)

/- THE SECOND FORM. 'bulk': how many values and letters a reading holds, each counted each time it is reached (what is shared counts as often as it is met; a slice's spare places count too). A statement '..UptoSaid' is the law's where the arguments, and the package variables that the reading takes, are together of bulk at most 1048576: NARROWER than '..Said'. Prove '..Said' where nothing that the law and all that it calls make is longer than what came in: it says more and counts as full. Else prove '..UptoSaid'. A law counts once. -/
mutual
def uptoBulk {H : Type} : DataW H → Nat
  | .lit (.string bytes) => bytes.length + 1
  | .lit _ => 1
  | .nil => 1
  | .ptr d => uptoBulk d + 1
  | .slice elems spare => uptoBulkAll elems + uptoBulkAll spare + 1
  | .agg parts => uptoBulkAll parts + 1
  | .iface _ d => uptoBulk d + 1
  | .map entries => uptoBulkEntries entries + 1
  | .held _ => 1
def uptoBulkAll {H : Type} : List (DataW H) → Nat
  | [] => 0
  | d :: r => uptoBulk d + uptoBulkAll r
def uptoBulkEntries {H : Type} : List (Lit × DataW H) → Nat
  | [] => 0
  | x :: r => uptoBulkEntry x + uptoBulkEntries r
def uptoBulkEntry {H : Type} : Lit × DataW H → Nat
  | (.string bytes, d) => bytes.length + uptoBulk d + 1
  | (_, d) => uptoBulk d + 1
 end
def uptoSmall : (H : Type) → List (DataW H) → Bool := fun _ ds => decide (uptoBulkAll ds ≤ 1048576)
def OpenSpec.upto (s : _root_.Go.ChangeSpec) : _root_.Go.OpenSpec := { _root_.Go.OpenSpec.ofChange s with cond := some uptoSmall }

/-- 'barscanlaw51.FormsChecks', WHERE WHAT IT READS IS OF BULK AT MOST 1048576: true; the input reads as it did. -/
def formsChecksUptoRow : OpenClaim := { program := "ytkpfehfcgpapiaagreatdoor", sum := "730c095489e6acf5c86d809151c4889e9b6dd8adae1cd8fb7973a5925e8cbb53", func := "barscan/barscanlaw51.FormsChecks", spec := "formsChecks", inPlace := ["internal/bytealg.CountString", "internal/bytealg.IndexByteString", "internal/bytealg.IndexString", "internal/reflectlite.TypeOf", "internal/abi.NoEscape", "internal/bytealg.MakeNoZero"], unfollowed := true, recurses := true, named := ["barscan/forms.errRange", "barscan/forms.errLine", "unicode/utf8.first", "unicode/utf8.acceptRanges", "internal/bytealg.MaxLen", "strconv.ErrSyntax", "strconv.ErrRange", "internal/strconv.uint64pow10", "math/bits.deBruijn32tab", "math/bits.deBruijn64tab"], apart := false, laid := [("math/bits.deBruijn32tab", laid_math_bits_deBruijn32tab), ("math/bits.deBruijn64tab", laid_math_bits_deBruijn64tab), ("internal/strconv.uint64pow10", laid_internal_strconv_uint64pow10), ("unicode/utf8.acceptRanges", laid_unicode_utf8_acceptRanges), ("strconv.ErrRange", laid_strconv_ErrRange), ("strconv.ErrSyntax", laid_strconv_ErrSyntax), ("barscan/forms.errLine", laid_barscan_forms_errLine), ("barscan/forms.errRange", laid_barscan_forms_errRange), ("unicode/utf8.first", laid_unicode_utf8_first)], narrowed := true }
def FormsChecksUptoSaid : Prop := formsChecksUptoRow.holds Tryz.pinned (OpenSpec.upto formsChecksSpec)

/-- 'barscanlaw51.FormsLimits', WHERE WHAT IT READS IS OF BULK AT MOST 1048576: true; the input reads as it did. -/
def formsLimitsUptoRow : OpenClaim := { program := "ytkpfehfcgpapiaagreatdoor", sum := "730c095489e6acf5c86d809151c4889e9b6dd8adae1cd8fb7973a5925e8cbb53", func := "barscan/barscanlaw51.FormsLimits", spec := "formsLimits", inPlace := ["internal/bytealg.CountString", "internal/bytealg.IndexByteString", "internal/bytealg.IndexString", "internal/reflectlite.TypeOf", "internal/abi.NoEscape", "internal/bytealg.MakeNoZero"], unfollowed := true, recurses := true, named := ["barscan/forms.errRange", "barscan/forms.errLine", "unicode/utf8.first", "unicode/utf8.acceptRanges", "internal/bytealg.MaxLen", "strconv.ErrSyntax", "strconv.ErrRange", "internal/strconv.uint64pow10", "math/bits.deBruijn32tab", "math/bits.deBruijn64tab"], apart := false, laid := [("math/bits.deBruijn32tab", laid_math_bits_deBruijn32tab), ("math/bits.deBruijn64tab", laid_math_bits_deBruijn64tab), ("internal/strconv.uint64pow10", laid_internal_strconv_uint64pow10), ("unicode/utf8.acceptRanges", laid_unicode_utf8_acceptRanges), ("strconv.ErrRange", laid_strconv_ErrRange), ("strconv.ErrSyntax", laid_strconv_ErrSyntax), ("barscan/forms.errLine", laid_barscan_forms_errLine), ("barscan/forms.errRange", laid_barscan_forms_errRange), ("unicode/utf8.first", laid_unicode_utf8_first)], narrowed := true }
def FormsLimitsUptoSaid : Prop := formsLimitsUptoRow.holds Tryz.pinned (OpenSpec.upto formsLimitsSpec)

/-- 'barscanlaw51.FormsValues', WHERE WHAT IT READS IS OF BULK AT MOST 1048576: true; the input reads as it did. -/
def formsValuesUptoRow : OpenClaim := { program := "ytkpfehfcgpapiaagreatdoor", sum := "730c095489e6acf5c86d809151c4889e9b6dd8adae1cd8fb7973a5925e8cbb53", func := "barscan/barscanlaw51.FormsValues", spec := "formsValues", inPlace := ["internal/bytealg.CountString", "internal/bytealg.IndexByteString", "internal/bytealg.IndexString", "internal/reflectlite.TypeOf", "internal/abi.NoEscape", "internal/bytealg.MakeNoZero"], unfollowed := true, recurses := true, named := ["barscan/forms.errRange", "barscan/forms.errLine", "unicode/utf8.first", "unicode/utf8.acceptRanges", "internal/bytealg.MaxLen", "strconv.ErrSyntax", "strconv.ErrRange", "internal/strconv.uint64pow10", "math/bits.deBruijn32tab", "math/bits.deBruijn64tab"], apart := false, laid := [("math/bits.deBruijn32tab", laid_math_bits_deBruijn32tab), ("math/bits.deBruijn64tab", laid_math_bits_deBruijn64tab), ("internal/strconv.uint64pow10", laid_internal_strconv_uint64pow10), ("unicode/utf8.acceptRanges", laid_unicode_utf8_acceptRanges), ("strconv.ErrRange", laid_strconv_ErrRange), ("strconv.ErrSyntax", laid_strconv_ErrSyntax), ("barscan/forms.errLine", laid_barscan_forms_errLine), ("barscan/forms.errRange", laid_barscan_forms_errRange), ("unicode/utf8.first", laid_unicode_utf8_first)], narrowed := true }
def FormsValuesUptoSaid : Prop := formsValuesUptoRow.holds Tryz.pinned (OpenSpec.upto formsValuesSpec)

/-- 'barscanlaw51.FormsVerifies', WHERE WHAT IT READS IS OF BULK AT MOST 1048576: true; the input reads as it did. -/
def formsVerifiesUptoRow : OpenClaim := { program := "ytkpfehfcgpapiaagreatdoor", sum := "730c095489e6acf5c86d809151c4889e9b6dd8adae1cd8fb7973a5925e8cbb53", func := "barscan/barscanlaw51.FormsVerifies", spec := "formsVerifies", inPlace := ["internal/bytealg.CountString", "internal/bytealg.IndexByteString", "internal/bytealg.IndexString", "internal/reflectlite.TypeOf", "internal/abi.NoEscape", "internal/bytealg.MakeNoZero"], unfollowed := true, recurses := true, named := ["barscan/forms.errRange", "barscan/forms.errLine", "unicode/utf8.first", "unicode/utf8.acceptRanges", "internal/bytealg.MaxLen", "strconv.ErrSyntax", "strconv.ErrRange", "internal/strconv.uint64pow10", "math/bits.deBruijn32tab", "math/bits.deBruijn64tab"], apart := false, laid := [("math/bits.deBruijn32tab", laid_math_bits_deBruijn32tab), ("math/bits.deBruijn64tab", laid_math_bits_deBruijn64tab), ("internal/strconv.uint64pow10", laid_internal_strconv_uint64pow10), ("unicode/utf8.acceptRanges", laid_unicode_utf8_acceptRanges), ("strconv.ErrRange", laid_strconv_ErrRange), ("strconv.ErrSyntax", laid_strconv_ErrSyntax), ("barscan/forms.errLine", laid_barscan_forms_errLine), ("barscan/forms.errRange", laid_barscan_forms_errRange), ("unicode/utf8.first", laid_unicode_utf8_first)], narrowed := true }
def FormsVerifiesUptoSaid : Prop := formsVerifiesUptoRow.holds Tryz.pinned (OpenSpec.upto formsVerifiesSpec)

/-- 'barscanlaw51.FormsExtracts', WHERE WHAT IT READS IS OF BULK AT MOST 1048576: true; the input reads as it did. -/
def formsExtractsUptoRow : OpenClaim := { program := "ytkpfehfcgpapiaagreatdoor", sum := "730c095489e6acf5c86d809151c4889e9b6dd8adae1cd8fb7973a5925e8cbb53", func := "barscan/barscanlaw51.FormsExtracts", spec := "formsExtracts", inPlace := ["internal/bytealg.CountString", "internal/bytealg.IndexByteString", "internal/bytealg.IndexString", "internal/reflectlite.TypeOf", "internal/abi.NoEscape", "internal/bytealg.MakeNoZero"], unfollowed := true, recurses := true, named := ["barscan/forms.errRange", "barscan/forms.errLine", "unicode/utf8.first", "unicode/utf8.acceptRanges", "internal/bytealg.MaxLen", "strconv.ErrSyntax", "strconv.ErrRange", "internal/strconv.uint64pow10", "math/bits.deBruijn32tab", "math/bits.deBruijn64tab"], apart := false, laid := [("math/bits.deBruijn32tab", laid_math_bits_deBruijn32tab), ("math/bits.deBruijn64tab", laid_math_bits_deBruijn64tab), ("internal/strconv.uint64pow10", laid_internal_strconv_uint64pow10), ("unicode/utf8.acceptRanges", laid_unicode_utf8_acceptRanges), ("strconv.ErrRange", laid_strconv_ErrRange), ("strconv.ErrSyntax", laid_strconv_ErrSyntax), ("barscan/forms.errLine", laid_barscan_forms_errLine), ("barscan/forms.errRange", laid_barscan_forms_errRange), ("unicode/utf8.first", laid_unicode_utf8_first)], narrowed := true }
def FormsExtractsUptoSaid : Prop := formsExtractsUptoRow.holds Tryz.pinned (OpenSpec.upto formsExtractsSpec)

/-- 'barscanlaw51.FormsRepairs', WHERE WHAT IT READS IS OF BULK AT MOST 1048576: true; the input reads as it did. -/
def formsRepairsUptoRow : OpenClaim := { program := "ytkpfehfcgpapiaagreatdoor", sum := "730c095489e6acf5c86d809151c4889e9b6dd8adae1cd8fb7973a5925e8cbb53", func := "barscan/barscanlaw51.FormsRepairs", spec := "formsRepairs", inPlace := ["internal/bytealg.CountString", "internal/bytealg.IndexByteString", "internal/bytealg.IndexString", "internal/reflectlite.TypeOf", "internal/abi.NoEscape", "internal/bytealg.MakeNoZero"], unfollowed := true, recurses := true, named := ["barscan/forms.errRange", "barscan/forms.errLine", "unicode/utf8.first", "unicode/utf8.acceptRanges", "internal/bytealg.MaxLen", "strconv.ErrSyntax", "strconv.ErrRange", "internal/strconv.uint64pow10", "math/bits.deBruijn32tab", "math/bits.deBruijn64tab"], apart := false, laid := [("math/bits.deBruijn32tab", laid_math_bits_deBruijn32tab), ("math/bits.deBruijn64tab", laid_math_bits_deBruijn64tab), ("internal/strconv.uint64pow10", laid_internal_strconv_uint64pow10), ("unicode/utf8.acceptRanges", laid_unicode_utf8_acceptRanges), ("strconv.ErrRange", laid_strconv_ErrRange), ("strconv.ErrSyntax", laid_strconv_ErrSyntax), ("barscan/forms.errLine", laid_barscan_forms_errLine), ("barscan/forms.errRange", laid_barscan_forms_errRange), ("unicode/utf8.first", laid_unicode_utf8_first)], narrowed := true }
def FormsRepairsUptoSaid : Prop := formsRepairsUptoRow.holds Tryz.pinned (OpenSpec.upto formsRepairsSpec)

/-- 'barscanlaw51.FormsRoundTrip', WHERE WHAT IT READS IS OF BULK AT MOST 1048576: true; the input reads as it did. -/
def formsRoundTripUptoRow : OpenClaim := { program := "ytkpfehfcgpapiaagreatdoor", sum := "730c095489e6acf5c86d809151c4889e9b6dd8adae1cd8fb7973a5925e8cbb53", func := "barscan/barscanlaw51.FormsRoundTrip", spec := "formsRoundTrip", inPlace := ["internal/bytealg.IndexByteString", "internal/abi.NoEscape", "internal/bytealg.MakeNoZero", "internal/bytealg.CountString", "internal/bytealg.IndexString", "internal/reflectlite.TypeOf"], unfollowed := true, recurses := true, named := ["internal/strconv.uint64pow10", "math/bits.deBruijn32tab", "math/bits.deBruijn64tab", "barscan/forms.errRange", "barscan/forms.errLine", "unicode/utf8.first", "unicode/utf8.acceptRanges", "internal/bytealg.MaxLen", "strconv.ErrSyntax", "strconv.ErrRange"], apart := false, laid := [("math/bits.deBruijn32tab", laid_math_bits_deBruijn32tab), ("math/bits.deBruijn64tab", laid_math_bits_deBruijn64tab), ("internal/strconv.uint64pow10", laid_internal_strconv_uint64pow10), ("unicode/utf8.acceptRanges", laid_unicode_utf8_acceptRanges), ("strconv.ErrRange", laid_strconv_ErrRange), ("strconv.ErrSyntax", laid_strconv_ErrSyntax), ("barscan/forms.errLine", laid_barscan_forms_errLine), ("barscan/forms.errRange", laid_barscan_forms_errRange), ("unicode/utf8.first", laid_unicode_utf8_first)], narrowed := true }
def FormsRoundTripUptoSaid : Prop := formsRoundTripUptoRow.holds Tryz.pinned (OpenSpec.upto formsRoundTripSpec)

/-- 'barscanlaw51.FormsIssues', WHERE WHAT IT READS IS OF BULK AT MOST 1048576: true; the input reads as it did. -/
def formsIssuesUptoRow : OpenClaim := { program := "ytkpfehfcgpapiaagreatdoor", sum := "730c095489e6acf5c86d809151c4889e9b6dd8adae1cd8fb7973a5925e8cbb53", func := "barscan/barscanlaw51.FormsIssues", spec := "formsIssues", inPlace := ["internal/bytealg.IndexByteString", "internal/bytealg.IndexString", "internal/bytealg.CountString", "internal/reflectlite.TypeOf", "internal/abi.NoEscape", "internal/bytealg.MakeNoZero"], unfollowed := true, recurses := true, named := ["unicode/utf8.first", "unicode/utf8.acceptRanges", "strconv.ErrSyntax", "strconv.ErrRange", "internal/strconv.uint64pow10", "math/bits.deBruijn32tab", "math/bits.deBruijn64tab", "barscan/forms.errLine", "barscan/forms.errRange", "internal/bytealg.MaxLen"], apart := false, laid := [("math/bits.deBruijn32tab", laid_math_bits_deBruijn32tab), ("math/bits.deBruijn64tab", laid_math_bits_deBruijn64tab), ("internal/strconv.uint64pow10", laid_internal_strconv_uint64pow10), ("unicode/utf8.acceptRanges", laid_unicode_utf8_acceptRanges), ("strconv.ErrRange", laid_strconv_ErrRange), ("strconv.ErrSyntax", laid_strconv_ErrSyntax), ("barscan/forms.errLine", laid_barscan_forms_errLine), ("barscan/forms.errRange", laid_barscan_forms_errRange), ("unicode/utf8.first", laid_unicode_utf8_first)], narrowed := true }
def FormsIssuesUptoSaid : Prop := formsIssuesUptoRow.holds Tryz.pinned (OpenSpec.upto formsIssuesSpec)

/-- 'barscanlaw51.FormsRestores', WHERE WHAT IT READS IS OF BULK AT MOST 1048576: true; the input reads as it did. -/
def formsRestoresUptoRow : OpenClaim := { program := "ytkpfehfcgpapiaagreatdoor", sum := "730c095489e6acf5c86d809151c4889e9b6dd8adae1cd8fb7973a5925e8cbb53", func := "barscan/barscanlaw51.FormsRestores", spec := "formsRestores", inPlace := ["internal/bytealg.IndexByteString", "internal/bytealg.IndexString", "internal/bytealg.CountString", "internal/reflectlite.TypeOf", "internal/abi.NoEscape", "internal/bytealg.MakeNoZero"], unfollowed := true, recurses := true, named := ["unicode/utf8.first", "unicode/utf8.acceptRanges", "strconv.ErrSyntax", "strconv.ErrRange", "internal/strconv.uint64pow10", "math/bits.deBruijn32tab", "math/bits.deBruijn64tab", "barscan/forms.errLine", "barscan/forms.errRange", "internal/bytealg.MaxLen"], apart := false, laid := [("math/bits.deBruijn32tab", laid_math_bits_deBruijn32tab), ("math/bits.deBruijn64tab", laid_math_bits_deBruijn64tab), ("internal/strconv.uint64pow10", laid_internal_strconv_uint64pow10), ("unicode/utf8.acceptRanges", laid_unicode_utf8_acceptRanges), ("strconv.ErrRange", laid_strconv_ErrRange), ("strconv.ErrSyntax", laid_strconv_ErrSyntax), ("barscan/forms.errLine", laid_barscan_forms_errLine), ("barscan/forms.errRange", laid_barscan_forms_errRange), ("unicode/utf8.first", laid_unicode_utf8_first)], narrowed := true }
def FormsRestoresUptoSaid : Prop := formsRestoresUptoRow.holds Tryz.pinned (OpenSpec.upto formsRestoresSpec)

/-- 'barscanlaw51.FormsCalendar', WHERE WHAT IT READS IS OF BULK AT MOST 1048576: true; the input reads as it did. -/
def formsCalendarUptoRow : OpenClaim := { program := "ytkpfehfcgpapiaagreatdoor", sum := "730c095489e6acf5c86d809151c4889e9b6dd8adae1cd8fb7973a5925e8cbb53", func := "barscan/barscanlaw51.FormsCalendar", spec := "formsCalendar", inPlace := ["internal/bytealg.IndexByteString", "internal/bytealg.IndexString", "internal/bytealg.CountString", "internal/reflectlite.TypeOf", "internal/abi.NoEscape", "internal/bytealg.MakeNoZero"], unfollowed := true, recurses := true, named := ["unicode/utf8.first", "unicode/utf8.acceptRanges", "strconv.ErrSyntax", "strconv.ErrRange", "internal/strconv.uint64pow10", "math/bits.deBruijn32tab", "math/bits.deBruijn64tab", "barscan/forms.errLine", "barscan/forms.errRange", "internal/bytealg.MaxLen"], apart := false, laid := [("math/bits.deBruijn32tab", laid_math_bits_deBruijn32tab), ("math/bits.deBruijn64tab", laid_math_bits_deBruijn64tab), ("internal/strconv.uint64pow10", laid_internal_strconv_uint64pow10), ("unicode/utf8.acceptRanges", laid_unicode_utf8_acceptRanges), ("strconv.ErrRange", laid_strconv_ErrRange), ("strconv.ErrSyntax", laid_strconv_ErrSyntax), ("barscan/forms.errLine", laid_barscan_forms_errLine), ("barscan/forms.errRange", laid_barscan_forms_errRange), ("unicode/utf8.first", laid_unicode_utf8_first)], narrowed := true }
def FormsCalendarUptoSaid : Prop := formsCalendarUptoRow.holds Tryz.pinned (OpenSpec.upto formsCalendarSpec)

/-- 'barscanlaw51.FormsLines', WHERE WHAT IT READS IS OF BULK AT MOST 1048576: true; the input reads as it did. -/
def formsLinesUptoRow : OpenClaim := { program := "ytkpfehfcgpapiaagreatdoor", sum := "730c095489e6acf5c86d809151c4889e9b6dd8adae1cd8fb7973a5925e8cbb53", func := "barscan/barscanlaw51.FormsLines", spec := "formsLines", inPlace := ["internal/bytealg.IndexByteString", "internal/bytealg.CountString", "internal/bytealg.IndexString", "internal/reflectlite.TypeOf", "internal/abi.NoEscape", "internal/bytealg.MakeNoZero"], unfollowed := true, recurses := true, named := ["barscan/forms.errRange", "barscan/forms.errLine", "unicode/utf8.first", "unicode/utf8.acceptRanges", "internal/bytealg.MaxLen", "strconv.ErrSyntax", "strconv.ErrRange", "internal/strconv.uint64pow10", "math/bits.deBruijn32tab", "math/bits.deBruijn64tab"], apart := false, laid := [("math/bits.deBruijn32tab", laid_math_bits_deBruijn32tab), ("math/bits.deBruijn64tab", laid_math_bits_deBruijn64tab), ("internal/strconv.uint64pow10", laid_internal_strconv_uint64pow10), ("unicode/utf8.acceptRanges", laid_unicode_utf8_acceptRanges), ("strconv.ErrRange", laid_strconv_ErrRange), ("strconv.ErrSyntax", laid_strconv_ErrSyntax), ("barscan/forms.errLine", laid_barscan_forms_errLine), ("barscan/forms.errRange", laid_barscan_forms_errRange), ("unicode/utf8.first", laid_unicode_utf8_first)], narrowed := true }
def FormsLinesUptoSaid : Prop := formsLinesUptoRow.holds Tryz.pinned (OpenSpec.upto formsLinesSpec)

end Rows
end Go.Proofs.YtkpfehfcgpapiaaGreatDoor
