/-
  No cell of these rows narrows 'for every input' (looked for: loops, veiled, ifaces, maps, wideKeys, modest, calm, conditions, laid).
  DERIVED. THE GIVEN ROWS OF THIS SEAT. 7 by the template 'for every input the law returns true; each argument reads behind the call as it read before'; 0 by the template 'total and deterministic' (their statements: YtlocohcbfpeddaaTotals.lean).
  GIVEN WITH THE SEED: the statements are not yours to turn. If you find one false, say at which input.
  Laid BY PROGRAM, IN A SANDBOX (cutbox-rows.mjs): the forced cells as the released guide's own fill.sh prints them over the translation 636a8117fefc0c64… (all of the seat's roots in one cut). By AI agents, Wed Nov 11 2026. No macro, syntax, notation, axiom, sorry.
-/
import Derived.Test.YtlocohcbfpeddaaChecked
import GoSem.Claim
import GoSem.ClaimJoined
import GoSem.ClaimMapViews
import Derived.JoinedTies
import Derived.KernelRfl
namespace Go.Proofs.Ytlocohcbfpeddaa
/- THE CELL 'sum', in the pinned program and in every row, IS THE sha256 OF THE DUMP (.gsa) THAT YtlocohcbfpeddaaProg.lean LOADS. Nothing in Lean hashes anything: it is a label: what it is worth is what the hold of that sum in a sandbox is worth. -/
noncomputable def Try.pinned : Pinned := { name := "ytlocohcbfpeddaa", sum := "636a8117fefc0c64c7d0f9df320e6b5e8a14e9e97eb9020c1cd1f2da835c926b", checked := Try.checked }
namespace Rows
def none {H : Type} : Left H := { results := [], args := [] }

/-- 'barscanlaw12.TwowidthFulls': WHATEVER THE INPUT: true; the input reads as it did. -/
def twowidthFullsSpec : ChangeSpec := { name := "twowidthFulls", fn := fun _ => fun
  | [d1, d2] => { results := [.lit (.bool true)], args := [d1, d2] }
  | _ => none }
def twowidthFullsRow : OpenClaim := { program := "ytlocohcbfpeddaa", sum := "636a8117fefc0c64c7d0f9df320e6b5e8a14e9e97eb9020c1cd1f2da835c926b", func := "barscan/barscanlaw12.TwowidthFulls", spec := "twowidthFulls", inPlace := ["internal/bytealg.IndexByteString", "internal/abi.NoEscape", "internal/bytealg.MakeNoZero"], unfollowed := true, recurses := true, apart := false }
def TwowidthFullsSaid : Prop := twowidthFullsRow.holds Try.pinned (OpenSpec.ofChange twowidthFullsSpec)

/-- ITS FALSE NEIGHBOUR: 'it returns false'. Refute it at one input. -/
def twowidthFullsWrong : ChangeSpec := { name := "twowidthFulls", fn := fun _ => fun
  | [d1, d2] => { results := [.lit (.bool false)], args := [d1, d2] }
  | _ => none }
def TwowidthFullsWrongFalsely : Prop := twowidthFullsRow.holds Try.pinned (OpenSpec.ofChange twowidthFullsWrong)

/-- 'barscanlaw12.TwowidthRoundTrip': WHATEVER THE INPUT: true; the input reads as it did. -/
def twowidthRoundTripSpec : ChangeSpec := { name := "twowidthRoundTrip", fn := fun _ => fun
  | [d1, d2] => { results := [.lit (.bool true)], args := [d1, d2] }
  | _ => none }
def twowidthRoundTripRow : OpenClaim := { program := "ytlocohcbfpeddaa", sum := "636a8117fefc0c64c7d0f9df320e6b5e8a14e9e97eb9020c1cd1f2da835c926b", func := "barscan/barscanlaw12.TwowidthRoundTrip", spec := "twowidthRoundTrip", inPlace := ["internal/bytealg.IndexByteString", "internal/abi.NoEscape", "internal/bytealg.MakeNoZero"], unfollowed := true, recurses := true, apart := false }
def TwowidthRoundTripSaid : Prop := twowidthRoundTripRow.holds Try.pinned (OpenSpec.ofChange twowidthRoundTripSpec)

/-- ITS FALSE NEIGHBOUR: 'it returns false'. Refute it at one input. -/
def twowidthRoundTripWrong : ChangeSpec := { name := "twowidthRoundTrip", fn := fun _ => fun
  | [d1, d2] => { results := [.lit (.bool false)], args := [d1, d2] }
  | _ => none }
def TwowidthRoundTripWrongFalsely : Prop := twowidthRoundTripRow.holds Try.pinned (OpenSpec.ofChange twowidthRoundTripWrong)

/-- 'barscanlaw12.TwowidthTolerates': WHATEVER THE INPUT: true; the input reads as it did. -/
def twowidthToleratesSpec : ChangeSpec := { name := "twowidthTolerates", fn := fun _ => fun
  | [d1, d2] => { results := [.lit (.bool true)], args := [d1, d2] }
  | _ => none }
def twowidthToleratesRow : OpenClaim := { program := "ytlocohcbfpeddaa", sum := "636a8117fefc0c64c7d0f9df320e6b5e8a14e9e97eb9020c1cd1f2da835c926b", func := "barscan/barscanlaw12.TwowidthTolerates", spec := "twowidthTolerates", inPlace := ["internal/bytealg.IndexByteString", "internal/abi.NoEscape", "internal/bytealg.MakeNoZero"], unfollowed := true, recurses := true, apart := false }
def TwowidthToleratesSaid : Prop := twowidthToleratesRow.holds Try.pinned (OpenSpec.ofChange twowidthToleratesSpec)

/-- ITS FALSE NEIGHBOUR: 'it returns false'. Refute it at one input. -/
def twowidthToleratesWrong : ChangeSpec := { name := "twowidthTolerates", fn := fun _ => fun
  | [d1, d2] => { results := [.lit (.bool false)], args := [d1, d2] }
  | _ => none }
def TwowidthToleratesWrongFalsely : Prop := twowidthToleratesRow.holds Try.pinned (OpenSpec.ofChange twowidthToleratesWrong)

/-- 'barscanlaw12.TwowidthDetects': WHATEVER THE INPUT: true; the input reads as it did. -/
def twowidthDetectsSpec : ChangeSpec := { name := "twowidthDetects", fn := fun _ => fun
  | [d1, d2] => { results := [.lit (.bool true)], args := [d1, d2] }
  | _ => none }
def twowidthDetectsRow : OpenClaim := { program := "ytlocohcbfpeddaa", sum := "636a8117fefc0c64c7d0f9df320e6b5e8a14e9e97eb9020c1cd1f2da835c926b", func := "barscan/barscanlaw12.TwowidthDetects", spec := "twowidthDetects", inPlace := ["internal/bytealg.IndexByteString", "internal/abi.NoEscape", "internal/bytealg.MakeNoZero"], unfollowed := true, recurses := true, apart := false }
def TwowidthDetectsSaid : Prop := twowidthDetectsRow.holds Try.pinned (OpenSpec.ofChange twowidthDetectsSpec)

/-- ITS FALSE NEIGHBOUR: 'it returns false'. Refute it at one input. -/
def twowidthDetectsWrong : ChangeSpec := { name := "twowidthDetects", fn := fun _ => fun
  | [d1, d2] => { results := [.lit (.bool false)], args := [d1, d2] }
  | _ => none }
def TwowidthDetectsWrongFalsely : Prop := twowidthDetectsRow.holds Try.pinned (OpenSpec.ofChange twowidthDetectsWrong)

/-- 'barscanlaw12.TwowidthInverts': WHATEVER THE INPUT: true; the input reads as it did. -/
def twowidthInvertsSpec : ChangeSpec := { name := "twowidthInverts", fn := fun _ => fun
  | [d1, d2] => { results := [.lit (.bool true)], args := [d1, d2] }
  | _ => none }
def twowidthInvertsRow : OpenClaim := { program := "ytlocohcbfpeddaa", sum := "636a8117fefc0c64c7d0f9df320e6b5e8a14e9e97eb9020c1cd1f2da835c926b", func := "barscan/barscanlaw12.TwowidthInverts", spec := "twowidthInverts", inPlace := ["internal/bytealg.IndexByteString", "internal/abi.NoEscape", "internal/bytealg.MakeNoZero"], unfollowed := true, recurses := true, apart := false }
def TwowidthInvertsSaid : Prop := twowidthInvertsRow.holds Try.pinned (OpenSpec.ofChange twowidthInvertsSpec)

/-- ITS FALSE NEIGHBOUR: 'it returns false'. Refute it at one input. -/
def twowidthInvertsWrong : ChangeSpec := { name := "twowidthInverts", fn := fun _ => fun
  | [d1, d2] => { results := [.lit (.bool false)], args := [d1, d2] }
  | _ => none }
def TwowidthInvertsWrongFalsely : Prop := twowidthInvertsRow.holds Try.pinned (OpenSpec.ofChange twowidthInvertsWrong)

/-- 'barscanlaw12.TwowidthPatterns': WHATEVER THE INPUT: true; the input reads as it did. -/
def twowidthPatternsSpec : ChangeSpec := { name := "twowidthPatterns", fn := fun _ => fun
  | [d1, d2] => { results := [.lit (.bool true)], args := [d1, d2] }
  | _ => none }
def twowidthPatternsRow : OpenClaim := { program := "ytlocohcbfpeddaa", sum := "636a8117fefc0c64c7d0f9df320e6b5e8a14e9e97eb9020c1cd1f2da835c926b", func := "barscan/barscanlaw12.TwowidthPatterns", spec := "twowidthPatterns", inPlace := ["internal/bytealg.IndexByteString", "internal/abi.NoEscape", "internal/bytealg.MakeNoZero"], unfollowed := true, recurses := true, apart := false }
def TwowidthPatternsSaid : Prop := twowidthPatternsRow.holds Try.pinned (OpenSpec.ofChange twowidthPatternsSpec)

/-- ITS FALSE NEIGHBOUR: 'it returns false'. Refute it at one input. -/
def twowidthPatternsWrong : ChangeSpec := { name := "twowidthPatterns", fn := fun _ => fun
  | [d1, d2] => { results := [.lit (.bool false)], args := [d1, d2] }
  | _ => none }
def TwowidthPatternsWrongFalsely : Prop := twowidthPatternsRow.holds Try.pinned (OpenSpec.ofChange twowidthPatternsWrong)

/-- 'barscanlaw12.TwowidthDistinct': WHATEVER THE INPUT: true; the input reads as it did. -/
def twowidthDistinctSpec : ChangeSpec := { name := "twowidthDistinct", fn := fun _ => fun
  | [d1, d2, d3] => { results := [.lit (.bool true)], args := [d1, d2, d3] }
  | _ => none }
def twowidthDistinctRow : OpenClaim := { program := "ytlocohcbfpeddaa", sum := "636a8117fefc0c64c7d0f9df320e6b5e8a14e9e97eb9020c1cd1f2da835c926b", func := "barscan/barscanlaw12.TwowidthDistinct", spec := "twowidthDistinct", inPlace := ["internal/bytealg.IndexByteString", "internal/abi.NoEscape", "internal/bytealg.MakeNoZero"], unfollowed := true, recurses := true, apart := false }
def TwowidthDistinctSaid : Prop := twowidthDistinctRow.holds Try.pinned (OpenSpec.ofChange twowidthDistinctSpec)

/-- ITS FALSE NEIGHBOUR: 'it returns false'. Refute it at one input. -/
def twowidthDistinctWrong : ChangeSpec := { name := "twowidthDistinct", fn := fun _ => fun
  | [d1, d2, d3] => { results := [.lit (.bool false)], args := [d1, d2, d3] }
  | _ => none }
def TwowidthDistinctWrongFalsely : Prop := twowidthDistinctRow.holds Try.pinned (OpenSpec.ofChange twowidthDistinctWrong)

/- THE SECOND FORM. 'bulk': how many values and letters a reading holds, each counted each time it is reached (what is shared counts as often as it is met; a slice's spare places count too). A statement '..UptoSaid' is the law's where the arguments, and the package variables that the reading takes, are together of bulk at most 1048576: NARROWER than '..Said'. Prove '..Said' where nothing that the law and all that it calls make is longer than what came in: it says more and counts as full. Else prove '..UptoSaid'. A law counts once. -/
mutual
def uptoBulk {H : Type} : DataW H → Nat
  | .lit (.string bytes) => bytes.length + 1
  | .lit _ => 1
  | .nil => 1
  | .ptr d => uptoBulk d + 1
  | .slice elems spare => uptoBulkAll elems + uptoBulkAll spare + 1
  | .agg parts => uptoBulkAll parts + 1
  | .iface _ d => uptoBulk d + 1
  | .map entries => uptoBulkEntries entries + 1
  | .held _ => 1
def uptoBulkAll {H : Type} : List (DataW H) → Nat
  | [] => 0
  | d :: r => uptoBulk d + uptoBulkAll r
def uptoBulkEntries {H : Type} : List (Lit × DataW H) → Nat
  | [] => 0
  | x :: r => uptoBulkEntry x + uptoBulkEntries r
def uptoBulkEntry {H : Type} : Lit × DataW H → Nat
  | (.string bytes, d) => bytes.length + uptoBulk d + 1
  | (_, d) => uptoBulk d + 1
 end
def uptoSmall : (H : Type) → List (DataW H) → Bool := fun _ ds => decide (uptoBulkAll ds ≤ 1048576)
def OpenSpec.upto (s : _root_.Go.ChangeSpec) : _root_.Go.OpenSpec := { _root_.Go.OpenSpec.ofChange s with cond := some uptoSmall }

/-- 'barscanlaw12.TwowidthFulls', WHERE WHAT IT READS IS OF BULK AT MOST 1048576: true; the input reads as it did. -/
def twowidthFullsUptoRow : OpenClaim := { program := "ytlocohcbfpeddaa", sum := "636a8117fefc0c64c7d0f9df320e6b5e8a14e9e97eb9020c1cd1f2da835c926b", func := "barscan/barscanlaw12.TwowidthFulls", spec := "twowidthFulls", inPlace := ["internal/bytealg.IndexByteString", "internal/abi.NoEscape", "internal/bytealg.MakeNoZero"], unfollowed := true, recurses := true, apart := false, narrowed := true }
def TwowidthFullsUptoSaid : Prop := twowidthFullsUptoRow.holds Try.pinned (OpenSpec.upto twowidthFullsSpec)

/-- 'barscanlaw12.TwowidthRoundTrip', WHERE WHAT IT READS IS OF BULK AT MOST 1048576: true; the input reads as it did. -/
def twowidthRoundTripUptoRow : OpenClaim := { program := "ytlocohcbfpeddaa", sum := "636a8117fefc0c64c7d0f9df320e6b5e8a14e9e97eb9020c1cd1f2da835c926b", func := "barscan/barscanlaw12.TwowidthRoundTrip", spec := "twowidthRoundTrip", inPlace := ["internal/bytealg.IndexByteString", "internal/abi.NoEscape", "internal/bytealg.MakeNoZero"], unfollowed := true, recurses := true, apart := false, narrowed := true }
def TwowidthRoundTripUptoSaid : Prop := twowidthRoundTripUptoRow.holds Try.pinned (OpenSpec.upto twowidthRoundTripSpec)

/-- 'barscanlaw12.TwowidthTolerates', WHERE WHAT IT READS IS OF BULK AT MOST 1048576: true; the input reads as it did. -/
def twowidthToleratesUptoRow : OpenClaim := { program := "ytlocohcbfpeddaa", sum := "636a8117fefc0c64c7d0f9df320e6b5e8a14e9e97eb9020c1cd1f2da835c926b", func := "barscan/barscanlaw12.TwowidthTolerates", spec := "twowidthTolerates", inPlace := ["internal/bytealg.IndexByteString", "internal/abi.NoEscape", "internal/bytealg.MakeNoZero"], unfollowed := true, recurses := true, apart := false, narrowed := true }
def TwowidthToleratesUptoSaid : Prop := twowidthToleratesUptoRow.holds Try.pinned (OpenSpec.upto twowidthToleratesSpec)

/-- 'barscanlaw12.TwowidthDetects', WHERE WHAT IT READS IS OF BULK AT MOST 1048576: true; the input reads as it did. -/
def twowidthDetectsUptoRow : OpenClaim := { program := "ytlocohcbfpeddaa", sum := "636a8117fefc0c64c7d0f9df320e6b5e8a14e9e97eb9020c1cd1f2da835c926b", func := "barscan/barscanlaw12.TwowidthDetects", spec := "twowidthDetects", inPlace := ["internal/bytealg.IndexByteString", "internal/abi.NoEscape", "internal/bytealg.MakeNoZero"], unfollowed := true, recurses := true, apart := false, narrowed := true }
def TwowidthDetectsUptoSaid : Prop := twowidthDetectsUptoRow.holds Try.pinned (OpenSpec.upto twowidthDetectsSpec)

/-- 'barscanlaw12.TwowidthInverts', WHERE WHAT IT READS IS OF BULK AT MOST 1048576: true; the input reads as it did. -/
def twowidthInvertsUptoRow : OpenClaim := { program := "ytlocohcbfpeddaa", sum := "636a8117fefc0c64c7d0f9df320e6b5e8a14e9e97eb9020c1cd1f2da835c926b", func := "barscan/barscanlaw12.TwowidthInverts", spec := "twowidthInverts", inPlace := ["internal/bytealg.IndexByteString", "internal/abi.NoEscape", "internal/bytealg.MakeNoZero"], unfollowed := true, recurses := true, apart := false, narrowed := true }
def TwowidthInvertsUptoSaid : Prop := twowidthInvertsUptoRow.holds Try.pinned (OpenSpec.upto twowidthInvertsSpec)

/-- 'barscanlaw12.TwowidthPatterns', WHERE WHAT IT READS IS OF BULK AT MOST 1048576: true; the input reads as it did. -/
def twowidthPatternsUptoRow : OpenClaim := { program := "ytlocohcbfpeddaa", sum := "636a8117fefc0c64c7d0f9df320e6b5e8a14e9e97eb9020c1cd1f2da835c926b", func := "barscan/barscanlaw12.TwowidthPatterns", spec := "twowidthPatterns", inPlace := ["internal/bytealg.IndexByteString", "internal/abi.NoEscape", "internal/bytealg.MakeNoZero"], unfollowed := true, recurses := true, apart := false, narrowed := true }
def TwowidthPatternsUptoSaid : Prop := twowidthPatternsUptoRow.holds Try.pinned (OpenSpec.upto twowidthPatternsSpec)

/-- 'barscanlaw12.TwowidthDistinct', WHERE WHAT IT READS IS OF BULK AT MOST 1048576: true; the input reads as it did. -/
def twowidthDistinctUptoRow : OpenClaim := { program := "ytlocohcbfpeddaa", sum := "636a8117fefc0c64c7d0f9df320e6b5e8a14e9e97eb9020c1cd1f2da835c926b", func := "barscan/barscanlaw12.TwowidthDistinct", spec := "twowidthDistinct", inPlace := ["internal/bytealg.IndexByteString", "internal/abi.NoEscape", "internal/bytealg.MakeNoZero"], unfollowed := true, recurses := true, apart := false, narrowed := true }
def TwowidthDistinctUptoSaid : Prop := twowidthDistinctUptoRow.holds Try.pinned (OpenSpec.upto twowidthDistinctSpec)

end Rows
end Go.Proofs.Ytlocohcbfpeddaa
