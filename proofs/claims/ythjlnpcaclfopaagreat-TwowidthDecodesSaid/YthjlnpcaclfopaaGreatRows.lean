/-
  No cell of these rows narrows 'for every input' (looked for: loops, veiled, ifaces, maps, wideKeys, modest, calm, conditions, laid).
  DERIVED. THE GIVEN ROWS OF THIS SEAT. 3 by the template 'for every input the law returns true; each argument reads behind the call as it read before'; 0 by the template 'total and deterministic' (their statements: YthjlnpcaclfopaaGreatTotals.lean).
  GIVEN WITH THE SEED: the statements are not yours to turn. If you find one false, say at which input.
  Laid BY PROGRAM, IN A SANDBOX (cutbox-rows.mjs): the forced cells as the released guide's own fill.sh prints them over the translation df592d658981fa47… (all of the seat's roots in one cut). By AI agents, Wed Nov 11 2026. No macro, syntax, notation, axiom, sorry.
-/
import Derived.Test.YthjlnpcaclfopaaGreatChecked
import GoSem.Claim
import GoSem.ClaimJoined
import GoSem.ClaimMapViews
import Derived.JoinedTies
import Derived.KernelRfl
namespace Go.Proofs.YthjlnpcaclfopaaGreat
/- THE CELL 'sum', in the pinned program and in every row, IS THE sha256 OF THE DUMP (.gsa) THAT YthjlnpcaclfopaaGreatProg.lean LOADS. Nothing in Lean hashes anything: it is a label: what it is worth is what the hold of that sum in a sandbox is worth. -/
noncomputable def Tryz.pinned : Pinned := { name := "ythjlnpcaclfopaagreat", sum := "df592d658981fa472a54a9f7474f56af9cffc2d0fb18ddec1454a8ca34a54cb6", checked := Tryz.checked }
namespace Rows
def none {H : Type} : Left H := { results := [], args := [] }

/-- 'barscanlaw12.TwowidthEncodes': WHATEVER THE INPUT: true; the input reads as it did. -/
def twowidthEncodesSpec : ChangeSpec := { name := "twowidthEncodes", fn := fun _ => fun
  | [d] => { results := [.lit (.bool true)], args := [d] }
  | _ => none }
def twowidthEncodesRow : OpenClaim := { program := "ythjlnpcaclfopaagreat", sum := "df592d658981fa472a54a9f7474f56af9cffc2d0fb18ddec1454a8ca34a54cb6", func := "barscan/barscanlaw12.TwowidthEncodes", spec := "twowidthEncodes", inPlace := ["internal/bytealg.IndexByteString", "internal/abi.NoEscape", "internal/bytealg.MakeNoZero"], unfollowed := true, recurses := true, apart := false }
def TwowidthEncodesSaid : Prop := twowidthEncodesRow.holds Tryz.pinned (OpenSpec.ofChange twowidthEncodesSpec)

/-- ITS FALSE NEIGHBOUR: 'it returns false'. Refute it at one input. -/
def twowidthEncodesWrong : ChangeSpec := { name := "twowidthEncodes", fn := fun _ => fun
  | [d] => { results := [.lit (.bool false)], args := [d] }
  | _ => none }
def TwowidthEncodesWrongFalsely : Prop := twowidthEncodesRow.holds Tryz.pinned (OpenSpec.ofChange twowidthEncodesWrong)

/-- 'barscanlaw12.TwowidthDecodes': WHATEVER THE INPUT: true; the input reads as it did. -/
def twowidthDecodesSpec : ChangeSpec := { name := "twowidthDecodes", fn := fun _ => fun
  | [d1, d2, d3] => { results := [.lit (.bool true)], args := [d1, d2, d3] }
  | _ => none }
def twowidthDecodesRow : OpenClaim := { program := "ythjlnpcaclfopaagreat", sum := "df592d658981fa472a54a9f7474f56af9cffc2d0fb18ddec1454a8ca34a54cb6", func := "barscan/barscanlaw12.TwowidthDecodes", spec := "twowidthDecodes", inPlace := ["internal/bytealg.IndexByteString", "internal/abi.NoEscape", "internal/bytealg.MakeNoZero"], unfollowed := true, recurses := true, apart := false }
def TwowidthDecodesSaid : Prop := twowidthDecodesRow.holds Tryz.pinned (OpenSpec.ofChange twowidthDecodesSpec)

/-- ITS FALSE NEIGHBOUR: 'it returns false'. Refute it at one input. -/
def twowidthDecodesWrong : ChangeSpec := { name := "twowidthDecodes", fn := fun _ => fun
  | [d1, d2, d3] => { results := [.lit (.bool false)], args := [d1, d2, d3] }
  | _ => none }
def TwowidthDecodesWrongFalsely : Prop := twowidthDecodesRow.holds Tryz.pinned (OpenSpec.ofChange twowidthDecodesWrong)

/-- 'barscanlaw12.TwowidthLimits': WHATEVER THE INPUT: true; the input reads as it did. -/
def twowidthLimitsSpec : ChangeSpec := { name := "twowidthLimits", fn := fun _ => fun
  | [d1, d2, d3] => { results := [.lit (.bool true)], args := [d1, d2, d3] }
  | _ => none }
def twowidthLimitsRow : OpenClaim := { program := "ythjlnpcaclfopaagreat", sum := "df592d658981fa472a54a9f7474f56af9cffc2d0fb18ddec1454a8ca34a54cb6", func := "barscan/barscanlaw12.TwowidthLimits", spec := "twowidthLimits", inPlace := ["internal/bytealg.IndexByteString", "internal/abi.NoEscape", "internal/bytealg.MakeNoZero"], unfollowed := true, recurses := true, apart := false }
def TwowidthLimitsSaid : Prop := twowidthLimitsRow.holds Tryz.pinned (OpenSpec.ofChange twowidthLimitsSpec)

/-- ITS FALSE NEIGHBOUR: 'it returns false'. Refute it at one input. -/
def twowidthLimitsWrong : ChangeSpec := { name := "twowidthLimits", fn := fun _ => fun
  | [d1, d2, d3] => { results := [.lit (.bool false)], args := [d1, d2, d3] }
  | _ => none }
def TwowidthLimitsWrongFalsely : Prop := twowidthLimitsRow.holds Tryz.pinned (OpenSpec.ofChange twowidthLimitsWrong)

/- THE SECOND FORM. 'bulk': how many values and letters a reading holds, each counted each time it is reached (what is shared counts as often as it is met; a slice's spare places count too). A statement '..UptoSaid' is the law's where the arguments, and the package variables that the reading takes, are together of bulk at most 1048576: NARROWER than '..Said'. Prove '..Said' where nothing that the law and all that it calls make is longer than what came in: it says more and counts as full. Else prove '..UptoSaid'. A law counts once. -/
mutual
def uptoBulk {H : Type} : DataW H → Nat
  | .lit (.string bytes) => bytes.length + 1
  | .lit _ => 1
  | .nil => 1
  | .ptr d => uptoBulk d + 1
  | .slice elems spare => uptoBulkAll elems + uptoBulkAll spare + 1
  | .agg parts => uptoBulkAll parts + 1
  | .iface _ d => uptoBulk d + 1
  | .map entries => uptoBulkEntries entries + 1
  | .held _ => 1
def uptoBulkAll {H : Type} : List (DataW H) → Nat
  | [] => 0
  | d :: r => uptoBulk d + uptoBulkAll r
def uptoBulkEntries {H : Type} : List (Lit × DataW H) → Nat
  | [] => 0
  | x :: r => uptoBulkEntry x + uptoBulkEntries r
def uptoBulkEntry {H : Type} : Lit × DataW H → Nat
  | (.string bytes, d) => bytes.length + uptoBulk d + 1
  | (_, d) => uptoBulk d + 1
 end
def uptoSmall : (H : Type) → List (DataW H) → Bool := fun _ ds => decide (uptoBulkAll ds ≤ 1048576)
def OpenSpec.upto (s : _root_.Go.ChangeSpec) : _root_.Go.OpenSpec := { _root_.Go.OpenSpec.ofChange s with cond := some uptoSmall }

/-- 'barscanlaw12.TwowidthEncodes', WHERE WHAT IT READS IS OF BULK AT MOST 1048576: true; the input reads as it did. -/
def twowidthEncodesUptoRow : OpenClaim := { program := "ythjlnpcaclfopaagreat", sum := "df592d658981fa472a54a9f7474f56af9cffc2d0fb18ddec1454a8ca34a54cb6", func := "barscan/barscanlaw12.TwowidthEncodes", spec := "twowidthEncodes", inPlace := ["internal/bytealg.IndexByteString", "internal/abi.NoEscape", "internal/bytealg.MakeNoZero"], unfollowed := true, recurses := true, apart := false, narrowed := true }
def TwowidthEncodesUptoSaid : Prop := twowidthEncodesUptoRow.holds Tryz.pinned (OpenSpec.upto twowidthEncodesSpec)

/-- 'barscanlaw12.TwowidthDecodes', WHERE WHAT IT READS IS OF BULK AT MOST 1048576: true; the input reads as it did. -/
def twowidthDecodesUptoRow : OpenClaim := { program := "ythjlnpcaclfopaagreat", sum := "df592d658981fa472a54a9f7474f56af9cffc2d0fb18ddec1454a8ca34a54cb6", func := "barscan/barscanlaw12.TwowidthDecodes", spec := "twowidthDecodes", inPlace := ["internal/bytealg.IndexByteString", "internal/abi.NoEscape", "internal/bytealg.MakeNoZero"], unfollowed := true, recurses := true, apart := false, narrowed := true }
def TwowidthDecodesUptoSaid : Prop := twowidthDecodesUptoRow.holds Tryz.pinned (OpenSpec.upto twowidthDecodesSpec)

/-- 'barscanlaw12.TwowidthLimits', WHERE WHAT IT READS IS OF BULK AT MOST 1048576: true; the input reads as it did. -/
def twowidthLimitsUptoRow : OpenClaim := { program := "ythjlnpcaclfopaagreat", sum := "df592d658981fa472a54a9f7474f56af9cffc2d0fb18ddec1454a8ca34a54cb6", func := "barscan/barscanlaw12.TwowidthLimits", spec := "twowidthLimits", inPlace := ["internal/bytealg.IndexByteString", "internal/abi.NoEscape", "internal/bytealg.MakeNoZero"], unfollowed := true, recurses := true, apart := false, narrowed := true }
def TwowidthLimitsUptoSaid : Prop := twowidthLimitsUptoRow.holds Tryz.pinned (OpenSpec.upto twowidthLimitsSpec)

end Rows
end Go.Proofs.YthjlnpcaclfopaaGreat
