/-
  No cell of these rows narrows 'for every input' (looked for: loops, veiled, ifaces, maps, wideKeys, modest, calm, conditions, laid).
  DERIVED. THE GIVEN ROWS OF THIS SEAT. 8 by the template 'for every input the law returns true; each argument reads behind the call as it read before'; 0 by the template 'total and deterministic' (their statements: YtfpliihglgjijaaGreatTotals.lean).
  GIVEN WITH THE SEED: the statements are not yours to turn. If you find one false, say at which input.
  Laid BY PROGRAM, IN A SANDBOX (cutbox-rows.mjs): the forced cells as the released guide's own fill.sh prints them over the translation 42ee1e07cb1002f3… (all of the seat's roots in one cut). By AI agents, Wed Nov 11 2026. No macro, syntax, notation, axiom, sorry.
-/
import Derived.Test.YtfpliihglgjijaaGreatChecked
import GoSem.Claim
import GoSem.ClaimJoined
import GoSem.ClaimMapViews
import Derived.JoinedTies
import Derived.KernelRfl
namespace Go.Proofs.YtfpliihglgjijaaGreat
/- THE CELL 'sum', in the pinned program and in every row, IS THE sha256 OF THE DUMP (.gsa) THAT YtfpliihglgjijaaGreatProg.lean LOADS. Nothing in Lean hashes anything: it is a label: what it is worth is what the hold of that sum in a sandbox is worth. -/
noncomputable def Tryz.pinned : Pinned := { name := "ytfpliihglgjijaagreat", sum := "42ee1e07cb1002f3dceab92322a186d9337fd10e78edc9d44ff62bec12ba39b6", checked := Tryz.checked }
namespace Rows
def none {H : Type} : Left H := { results := [], args := [] }

/-- 'barscanlaw11.EanEncodes': WHATEVER THE INPUT: true; the input reads as it did. -/
def eanEncodesSpec : ChangeSpec := { name := "eanEncodes", fn := fun _ => fun
  | [d1, d2, d3] => { results := [.lit (.bool true)], args := [d1, d2, d3] }
  | _ => none }
def eanEncodesRow : OpenClaim := { program := "ytfpliihglgjijaagreat", sum := "42ee1e07cb1002f3dceab92322a186d9337fd10e78edc9d44ff62bec12ba39b6", func := "barscan/barscanlaw11.EanEncodes", spec := "eanEncodes", inPlace := ["internal/abi.NoEscape", "internal/bytealg.MakeNoZero", "sync/atomic.LoadUint32", "(*internal/sync.Mutex).Lock", "internal/race.Disable", "sync/atomic.CompareAndSwapInt32", "internal/race.Enable", "internal/race.Acquire", "(*internal/sync.Mutex).lockSlow", "internal/sync.runtime_canSpin", "internal/sync.runtime_doSpin", "internal/sync.throw", "internal/sync.runtime_nanotime", "internal/sync.runtime_SemacquireMutex", "sync/atomic.AddInt32", "(*internal/sync.Mutex).Unlock", "internal/race.ReleaseMerge", "(*internal/sync.Mutex).unlockSlow", "internal/sync.fatal", "internal/sync.runtime_Semrelease", "sync/atomic.StoreUint32"], unfollowed := true, recurses := true, apart := false }
def EanEncodesSaid : Prop := eanEncodesRow.holds Tryz.pinned (OpenSpec.ofChange eanEncodesSpec)

/-- ITS FALSE NEIGHBOUR: 'it returns false'. Refute it at one input. -/
def eanEncodesWrong : ChangeSpec := { name := "eanEncodes", fn := fun _ => fun
  | [d1, d2, d3] => { results := [.lit (.bool false)], args := [d1, d2, d3] }
  | _ => none }
def EanEncodesWrongFalsely : Prop := eanEncodesRow.holds Tryz.pinned (OpenSpec.ofChange eanEncodesWrong)

/-- 'barscanlaw11.EanDecodes': WHATEVER THE INPUT: true; the input reads as it did. -/
def eanDecodesSpec : ChangeSpec := { name := "eanDecodes", fn := fun _ => fun
  | [d] => { results := [.lit (.bool true)], args := [d] }
  | _ => none }
def eanDecodesRow : OpenClaim := { program := "ytfpliihglgjijaagreat", sum := "42ee1e07cb1002f3dceab92322a186d9337fd10e78edc9d44ff62bec12ba39b6", func := "barscan/barscanlaw11.EanDecodes", spec := "eanDecodes", inPlace := ["internal/abi.NoEscape", "internal/bytealg.MakeNoZero", "sync/atomic.LoadUint32", "(*internal/sync.Mutex).Lock", "internal/race.Disable", "sync/atomic.CompareAndSwapInt32", "internal/race.Enable", "internal/race.Acquire", "(*internal/sync.Mutex).lockSlow", "internal/sync.runtime_canSpin", "internal/sync.runtime_doSpin", "internal/sync.throw", "internal/sync.runtime_nanotime", "internal/sync.runtime_SemacquireMutex", "sync/atomic.AddInt32", "(*internal/sync.Mutex).Unlock", "internal/race.ReleaseMerge", "(*internal/sync.Mutex).unlockSlow", "internal/sync.fatal", "internal/sync.runtime_Semrelease", "sync/atomic.StoreUint32"], unfollowed := true, recurses := true, apart := false }
def EanDecodesSaid : Prop := eanDecodesRow.holds Tryz.pinned (OpenSpec.ofChange eanDecodesSpec)

/-- ITS FALSE NEIGHBOUR: 'it returns false'. Refute it at one input. -/
def eanDecodesWrong : ChangeSpec := { name := "eanDecodes", fn := fun _ => fun
  | [d] => { results := [.lit (.bool false)], args := [d] }
  | _ => none }
def EanDecodesWrongFalsely : Prop := eanDecodesRow.holds Tryz.pinned (OpenSpec.ofChange eanDecodesWrong)

/-- 'barscanlaw11.EanTexts': WHATEVER THE INPUT: true; the input reads as it did. -/
def eanTextsSpec : ChangeSpec := { name := "eanTexts", fn := fun _ => fun
  | [d1, d2] => { results := [.lit (.bool true)], args := [d1, d2] }
  | _ => none }
def eanTextsRow : OpenClaim := { program := "ytfpliihglgjijaagreat", sum := "42ee1e07cb1002f3dceab92322a186d9337fd10e78edc9d44ff62bec12ba39b6", func := "barscan/barscanlaw11.EanTexts", spec := "eanTexts", inPlace := ["internal/abi.NoEscape", "internal/bytealg.MakeNoZero", "sync/atomic.LoadUint32", "(*internal/sync.Mutex).Lock", "internal/race.Disable", "sync/atomic.CompareAndSwapInt32", "internal/race.Enable", "internal/race.Acquire", "(*internal/sync.Mutex).lockSlow", "internal/sync.runtime_canSpin", "internal/sync.runtime_doSpin", "internal/sync.throw", "internal/sync.runtime_nanotime", "internal/sync.runtime_SemacquireMutex", "sync/atomic.AddInt32", "(*internal/sync.Mutex).Unlock", "internal/race.ReleaseMerge", "(*internal/sync.Mutex).unlockSlow", "internal/sync.fatal", "internal/sync.runtime_Semrelease", "sync/atomic.StoreUint32"], unfollowed := true, recurses := true, apart := false }
def EanTextsSaid : Prop := eanTextsRow.holds Tryz.pinned (OpenSpec.ofChange eanTextsSpec)

/-- ITS FALSE NEIGHBOUR: 'it returns false'. Refute it at one input. -/
def eanTextsWrong : ChangeSpec := { name := "eanTexts", fn := fun _ => fun
  | [d1, d2] => { results := [.lit (.bool false)], args := [d1, d2] }
  | _ => none }
def EanTextsWrongFalsely : Prop := eanTextsRow.holds Tryz.pinned (OpenSpec.ofChange eanTextsWrong)

/-- 'barscanlaw11.EanRoundTrip': WHATEVER THE INPUT: true; the input reads as it did. -/
def eanRoundTripSpec : ChangeSpec := { name := "eanRoundTrip", fn := fun _ => fun
  | [d1, d2, d3, d4, d5] => { results := [.lit (.bool true)], args := [d1, d2, d3, d4, d5] }
  | _ => none }
def eanRoundTripRow : OpenClaim := { program := "ytfpliihglgjijaagreat", sum := "42ee1e07cb1002f3dceab92322a186d9337fd10e78edc9d44ff62bec12ba39b6", func := "barscan/barscanlaw11.EanRoundTrip", spec := "eanRoundTrip", inPlace := ["internal/abi.NoEscape", "internal/bytealg.MakeNoZero", "sync/atomic.LoadUint32", "(*internal/sync.Mutex).Lock", "internal/race.Disable", "sync/atomic.CompareAndSwapInt32", "internal/race.Enable", "internal/race.Acquire", "(*internal/sync.Mutex).lockSlow", "internal/sync.runtime_canSpin", "internal/sync.runtime_doSpin", "internal/sync.throw", "internal/sync.runtime_nanotime", "internal/sync.runtime_SemacquireMutex", "sync/atomic.AddInt32", "(*internal/sync.Mutex).Unlock", "internal/race.ReleaseMerge", "(*internal/sync.Mutex).unlockSlow", "internal/sync.fatal", "internal/sync.runtime_Semrelease", "sync/atomic.StoreUint32"], unfollowed := true, recurses := true, apart := false }
def EanRoundTripSaid : Prop := eanRoundTripRow.holds Tryz.pinned (OpenSpec.ofChange eanRoundTripSpec)

/-- ITS FALSE NEIGHBOUR: 'it returns false'. Refute it at one input. -/
def eanRoundTripWrong : ChangeSpec := { name := "eanRoundTrip", fn := fun _ => fun
  | [d1, d2, d3, d4, d5] => { results := [.lit (.bool false)], args := [d1, d2, d3, d4, d5] }
  | _ => none }
def EanRoundTripWrongFalsely : Prop := eanRoundTripRow.holds Tryz.pinned (OpenSpec.ofChange eanRoundTripWrong)

/-- 'barscanlaw11.EanExpands': WHATEVER THE INPUT: true; the input reads as it did. -/
def eanExpandsSpec : ChangeSpec := { name := "eanExpands", fn := fun _ => fun
  | [d1, d2] => { results := [.lit (.bool true)], args := [d1, d2] }
  | _ => none }
def eanExpandsRow : OpenClaim := { program := "ytfpliihglgjijaagreat", sum := "42ee1e07cb1002f3dceab92322a186d9337fd10e78edc9d44ff62bec12ba39b6", func := "barscan/barscanlaw11.EanExpands", spec := "eanExpands", inPlace := ["internal/abi.NoEscape", "internal/bytealg.MakeNoZero", "sync/atomic.LoadUint32", "(*internal/sync.Mutex).Lock", "internal/race.Disable", "sync/atomic.CompareAndSwapInt32", "internal/race.Enable", "internal/race.Acquire", "(*internal/sync.Mutex).lockSlow", "internal/sync.runtime_canSpin", "internal/sync.runtime_doSpin", "internal/sync.throw", "internal/sync.runtime_nanotime", "internal/sync.runtime_SemacquireMutex", "sync/atomic.AddInt32", "(*internal/sync.Mutex).Unlock", "internal/race.ReleaseMerge", "(*internal/sync.Mutex).unlockSlow", "internal/sync.fatal", "internal/sync.runtime_Semrelease", "sync/atomic.StoreUint32"], unfollowed := true, recurses := true, apart := false }
def EanExpandsSaid : Prop := eanExpandsRow.holds Tryz.pinned (OpenSpec.ofChange eanExpandsSpec)

/-- ITS FALSE NEIGHBOUR: 'it returns false'. Refute it at one input. -/
def eanExpandsWrong : ChangeSpec := { name := "eanExpands", fn := fun _ => fun
  | [d1, d2] => { results := [.lit (.bool false)], args := [d1, d2] }
  | _ => none }
def EanExpandsWrongFalsely : Prop := eanExpandsRow.holds Tryz.pinned (OpenSpec.ofChange eanExpandsWrong)

/-- 'barscanlaw11.EanDetects': WHATEVER THE INPUT: true; the input reads as it did. -/
def eanDetectsSpec : ChangeSpec := { name := "eanDetects", fn := fun _ => fun
  | [d1, d2, d3, d4] => { results := [.lit (.bool true)], args := [d1, d2, d3, d4] }
  | _ => none }
def eanDetectsRow : OpenClaim := { program := "ytfpliihglgjijaagreat", sum := "42ee1e07cb1002f3dceab92322a186d9337fd10e78edc9d44ff62bec12ba39b6", func := "barscan/barscanlaw11.EanDetects", spec := "eanDetects", inPlace := ["internal/abi.NoEscape", "internal/bytealg.MakeNoZero", "sync/atomic.LoadUint32", "(*internal/sync.Mutex).Lock", "internal/race.Disable", "sync/atomic.CompareAndSwapInt32", "internal/race.Enable", "internal/race.Acquire", "(*internal/sync.Mutex).lockSlow", "internal/sync.runtime_canSpin", "internal/sync.runtime_doSpin", "internal/sync.throw", "internal/sync.runtime_nanotime", "internal/sync.runtime_SemacquireMutex", "sync/atomic.AddInt32", "(*internal/sync.Mutex).Unlock", "internal/race.ReleaseMerge", "(*internal/sync.Mutex).unlockSlow", "internal/sync.fatal", "internal/sync.runtime_Semrelease", "sync/atomic.StoreUint32"], unfollowed := true, recurses := true, apart := false }
def EanDetectsSaid : Prop := eanDetectsRow.holds Tryz.pinned (OpenSpec.ofChange eanDetectsSpec)

/-- ITS FALSE NEIGHBOUR: 'it returns false'. Refute it at one input. -/
def eanDetectsWrong : ChangeSpec := { name := "eanDetects", fn := fun _ => fun
  | [d1, d2, d3, d4] => { results := [.lit (.bool false)], args := [d1, d2, d3, d4] }
  | _ => none }
def EanDetectsWrongFalsely : Prop := eanDetectsRow.holds Tryz.pinned (OpenSpec.ofChange eanDetectsWrong)

/-- 'barscanlaw11.EanCanonical': WHATEVER THE INPUT: true; the input reads as it did. -/
def eanCanonicalSpec : ChangeSpec := { name := "eanCanonical", fn := fun _ => fun
  | [d] => { results := [.lit (.bool true)], args := [d] }
  | _ => none }
def eanCanonicalRow : OpenClaim := { program := "ytfpliihglgjijaagreat", sum := "42ee1e07cb1002f3dceab92322a186d9337fd10e78edc9d44ff62bec12ba39b6", func := "barscan/barscanlaw11.EanCanonical", spec := "eanCanonical", inPlace := ["internal/abi.NoEscape", "internal/bytealg.MakeNoZero", "sync/atomic.LoadUint32", "(*internal/sync.Mutex).Lock", "internal/race.Disable", "sync/atomic.CompareAndSwapInt32", "internal/race.Enable", "internal/race.Acquire", "(*internal/sync.Mutex).lockSlow", "internal/sync.runtime_canSpin", "internal/sync.runtime_doSpin", "internal/sync.throw", "internal/sync.runtime_nanotime", "internal/sync.runtime_SemacquireMutex", "sync/atomic.AddInt32", "(*internal/sync.Mutex).Unlock", "internal/race.ReleaseMerge", "(*internal/sync.Mutex).unlockSlow", "internal/sync.fatal", "internal/sync.runtime_Semrelease", "sync/atomic.StoreUint32"], unfollowed := true, recurses := true, apart := false }
def EanCanonicalSaid : Prop := eanCanonicalRow.holds Tryz.pinned (OpenSpec.ofChange eanCanonicalSpec)

/-- ITS FALSE NEIGHBOUR: 'it returns false'. Refute it at one input. -/
def eanCanonicalWrong : ChangeSpec := { name := "eanCanonical", fn := fun _ => fun
  | [d] => { results := [.lit (.bool false)], args := [d] }
  | _ => none }
def EanCanonicalWrongFalsely : Prop := eanCanonicalRow.holds Tryz.pinned (OpenSpec.ofChange eanCanonicalWrong)

/-- 'barscanlaw11.EanDigits': WHATEVER THE INPUT: true; the input reads as it did. -/
def eanDigitsSpec : ChangeSpec := { name := "eanDigits", fn := fun _ => fun
  | [d1, d2] => { results := [.lit (.bool true)], args := [d1, d2] }
  | _ => none }
def eanDigitsRow : OpenClaim := { program := "ytfpliihglgjijaagreat", sum := "42ee1e07cb1002f3dceab92322a186d9337fd10e78edc9d44ff62bec12ba39b6", func := "barscan/barscanlaw11.EanDigits", spec := "eanDigits", inPlace := ["internal/abi.NoEscape", "internal/bytealg.MakeNoZero", "sync/atomic.LoadUint32", "(*internal/sync.Mutex).Lock", "internal/race.Disable", "sync/atomic.CompareAndSwapInt32", "internal/race.Enable", "internal/race.Acquire", "(*internal/sync.Mutex).lockSlow", "internal/sync.runtime_canSpin", "internal/sync.runtime_doSpin", "internal/sync.throw", "internal/sync.runtime_nanotime", "internal/sync.runtime_SemacquireMutex", "sync/atomic.AddInt32", "(*internal/sync.Mutex).Unlock", "internal/race.ReleaseMerge", "(*internal/sync.Mutex).unlockSlow", "internal/sync.fatal", "internal/sync.runtime_Semrelease", "sync/atomic.StoreUint32"], unfollowed := true, recurses := true, apart := false }
def EanDigitsSaid : Prop := eanDigitsRow.holds Tryz.pinned (OpenSpec.ofChange eanDigitsSpec)

/-- ITS FALSE NEIGHBOUR: 'it returns false'. Refute it at one input. -/
def eanDigitsWrong : ChangeSpec := { name := "eanDigits", fn := fun _ => fun
  | [d1, d2] => { results := [.lit (.bool false)], args := [d1, d2] }
  | _ => none }
def EanDigitsWrongFalsely : Prop := eanDigitsRow.holds Tryz.pinned (OpenSpec.ofChange eanDigitsWrong)

/- THE SECOND FORM. 'bulk': how many values and letters a reading holds, each counted each time it is reached (what is shared counts as often as it is met; a slice's spare places count too). A statement '..UptoSaid' is the law's where the arguments, and the package variables that the reading takes, are together of bulk at most 1048576: NARROWER than '..Said'. Prove '..Said' where nothing that the law and all that it calls make is longer than what came in: it says more and counts as full. Else prove '..UptoSaid'. A law counts once. -/
mutual
def uptoBulk {H : Type} : DataW H → Nat
  | .lit (.string bytes) => bytes.length + 1
  | .lit _ => 1
  | .nil => 1
  | .ptr d => uptoBulk d + 1
  | .slice elems spare => uptoBulkAll elems + uptoBulkAll spare + 1
  | .agg parts => uptoBulkAll parts + 1
  | .iface _ d => uptoBulk d + 1
  | .map entries => uptoBulkEntries entries + 1
  | .held _ => 1
def uptoBulkAll {H : Type} : List (DataW H) → Nat
  | [] => 0
  | d :: r => uptoBulk d + uptoBulkAll r
def uptoBulkEntries {H : Type} : List (Lit × DataW H) → Nat
  | [] => 0
  | x :: r => uptoBulkEntry x + uptoBulkEntries r
def uptoBulkEntry {H : Type} : Lit × DataW H → Nat
  | (.string bytes, d) => bytes.length + uptoBulk d + 1
  | (_, d) => uptoBulk d + 1
 end
def uptoSmall : (H : Type) → List (DataW H) → Bool := fun _ ds => decide (uptoBulkAll ds ≤ 1048576)
def OpenSpec.upto (s : _root_.Go.ChangeSpec) : _root_.Go.OpenSpec := { _root_.Go.OpenSpec.ofChange s with cond := some uptoSmall }

/-- 'barscanlaw11.EanEncodes', WHERE WHAT IT READS IS OF BULK AT MOST 1048576: true; the input reads as it did. -/
def eanEncodesUptoRow : OpenClaim := { program := "ytfpliihglgjijaagreat", sum := "42ee1e07cb1002f3dceab92322a186d9337fd10e78edc9d44ff62bec12ba39b6", func := "barscan/barscanlaw11.EanEncodes", spec := "eanEncodes", inPlace := ["internal/abi.NoEscape", "internal/bytealg.MakeNoZero", "sync/atomic.LoadUint32", "(*internal/sync.Mutex).Lock", "internal/race.Disable", "sync/atomic.CompareAndSwapInt32", "internal/race.Enable", "internal/race.Acquire", "(*internal/sync.Mutex).lockSlow", "internal/sync.runtime_canSpin", "internal/sync.runtime_doSpin", "internal/sync.throw", "internal/sync.runtime_nanotime", "internal/sync.runtime_SemacquireMutex", "sync/atomic.AddInt32", "(*internal/sync.Mutex).Unlock", "internal/race.ReleaseMerge", "(*internal/sync.Mutex).unlockSlow", "internal/sync.fatal", "internal/sync.runtime_Semrelease", "sync/atomic.StoreUint32"], unfollowed := true, recurses := true, apart := false, narrowed := true }
def EanEncodesUptoSaid : Prop := eanEncodesUptoRow.holds Tryz.pinned (OpenSpec.upto eanEncodesSpec)

/-- 'barscanlaw11.EanDecodes', WHERE WHAT IT READS IS OF BULK AT MOST 1048576: true; the input reads as it did. -/
def eanDecodesUptoRow : OpenClaim := { program := "ytfpliihglgjijaagreat", sum := "42ee1e07cb1002f3dceab92322a186d9337fd10e78edc9d44ff62bec12ba39b6", func := "barscan/barscanlaw11.EanDecodes", spec := "eanDecodes", inPlace := ["internal/abi.NoEscape", "internal/bytealg.MakeNoZero", "sync/atomic.LoadUint32", "(*internal/sync.Mutex).Lock", "internal/race.Disable", "sync/atomic.CompareAndSwapInt32", "internal/race.Enable", "internal/race.Acquire", "(*internal/sync.Mutex).lockSlow", "internal/sync.runtime_canSpin", "internal/sync.runtime_doSpin", "internal/sync.throw", "internal/sync.runtime_nanotime", "internal/sync.runtime_SemacquireMutex", "sync/atomic.AddInt32", "(*internal/sync.Mutex).Unlock", "internal/race.ReleaseMerge", "(*internal/sync.Mutex).unlockSlow", "internal/sync.fatal", "internal/sync.runtime_Semrelease", "sync/atomic.StoreUint32"], unfollowed := true, recurses := true, apart := false, narrowed := true }
def EanDecodesUptoSaid : Prop := eanDecodesUptoRow.holds Tryz.pinned (OpenSpec.upto eanDecodesSpec)

/-- 'barscanlaw11.EanTexts', WHERE WHAT IT READS IS OF BULK AT MOST 1048576: true; the input reads as it did. -/
def eanTextsUptoRow : OpenClaim := { program := "ytfpliihglgjijaagreat", sum := "42ee1e07cb1002f3dceab92322a186d9337fd10e78edc9d44ff62bec12ba39b6", func := "barscan/barscanlaw11.EanTexts", spec := "eanTexts", inPlace := ["internal/abi.NoEscape", "internal/bytealg.MakeNoZero", "sync/atomic.LoadUint32", "(*internal/sync.Mutex).Lock", "internal/race.Disable", "sync/atomic.CompareAndSwapInt32", "internal/race.Enable", "internal/race.Acquire", "(*internal/sync.Mutex).lockSlow", "internal/sync.runtime_canSpin", "internal/sync.runtime_doSpin", "internal/sync.throw", "internal/sync.runtime_nanotime", "internal/sync.runtime_SemacquireMutex", "sync/atomic.AddInt32", "(*internal/sync.Mutex).Unlock", "internal/race.ReleaseMerge", "(*internal/sync.Mutex).unlockSlow", "internal/sync.fatal", "internal/sync.runtime_Semrelease", "sync/atomic.StoreUint32"], unfollowed := true, recurses := true, apart := false, narrowed := true }
def EanTextsUptoSaid : Prop := eanTextsUptoRow.holds Tryz.pinned (OpenSpec.upto eanTextsSpec)

/-- 'barscanlaw11.EanRoundTrip', WHERE WHAT IT READS IS OF BULK AT MOST 1048576: true; the input reads as it did. -/
def eanRoundTripUptoRow : OpenClaim := { program := "ytfpliihglgjijaagreat", sum := "42ee1e07cb1002f3dceab92322a186d9337fd10e78edc9d44ff62bec12ba39b6", func := "barscan/barscanlaw11.EanRoundTrip", spec := "eanRoundTrip", inPlace := ["internal/abi.NoEscape", "internal/bytealg.MakeNoZero", "sync/atomic.LoadUint32", "(*internal/sync.Mutex).Lock", "internal/race.Disable", "sync/atomic.CompareAndSwapInt32", "internal/race.Enable", "internal/race.Acquire", "(*internal/sync.Mutex).lockSlow", "internal/sync.runtime_canSpin", "internal/sync.runtime_doSpin", "internal/sync.throw", "internal/sync.runtime_nanotime", "internal/sync.runtime_SemacquireMutex", "sync/atomic.AddInt32", "(*internal/sync.Mutex).Unlock", "internal/race.ReleaseMerge", "(*internal/sync.Mutex).unlockSlow", "internal/sync.fatal", "internal/sync.runtime_Semrelease", "sync/atomic.StoreUint32"], unfollowed := true, recurses := true, apart := false, narrowed := true }
def EanRoundTripUptoSaid : Prop := eanRoundTripUptoRow.holds Tryz.pinned (OpenSpec.upto eanRoundTripSpec)

/-- 'barscanlaw11.EanExpands', WHERE WHAT IT READS IS OF BULK AT MOST 1048576: true; the input reads as it did. -/
def eanExpandsUptoRow : OpenClaim := { program := "ytfpliihglgjijaagreat", sum := "42ee1e07cb1002f3dceab92322a186d9337fd10e78edc9d44ff62bec12ba39b6", func := "barscan/barscanlaw11.EanExpands", spec := "eanExpands", inPlace := ["internal/abi.NoEscape", "internal/bytealg.MakeNoZero", "sync/atomic.LoadUint32", "(*internal/sync.Mutex).Lock", "internal/race.Disable", "sync/atomic.CompareAndSwapInt32", "internal/race.Enable", "internal/race.Acquire", "(*internal/sync.Mutex).lockSlow", "internal/sync.runtime_canSpin", "internal/sync.runtime_doSpin", "internal/sync.throw", "internal/sync.runtime_nanotime", "internal/sync.runtime_SemacquireMutex", "sync/atomic.AddInt32", "(*internal/sync.Mutex).Unlock", "internal/race.ReleaseMerge", "(*internal/sync.Mutex).unlockSlow", "internal/sync.fatal", "internal/sync.runtime_Semrelease", "sync/atomic.StoreUint32"], unfollowed := true, recurses := true, apart := false, narrowed := true }
def EanExpandsUptoSaid : Prop := eanExpandsUptoRow.holds Tryz.pinned (OpenSpec.upto eanExpandsSpec)

/-- 'barscanlaw11.EanDetects', WHERE WHAT IT READS IS OF BULK AT MOST 1048576: true; the input reads as it did. -/
def eanDetectsUptoRow : OpenClaim := { program := "ytfpliihglgjijaagreat", sum := "42ee1e07cb1002f3dceab92322a186d9337fd10e78edc9d44ff62bec12ba39b6", func := "barscan/barscanlaw11.EanDetects", spec := "eanDetects", inPlace := ["internal/abi.NoEscape", "internal/bytealg.MakeNoZero", "sync/atomic.LoadUint32", "(*internal/sync.Mutex).Lock", "internal/race.Disable", "sync/atomic.CompareAndSwapInt32", "internal/race.Enable", "internal/race.Acquire", "(*internal/sync.Mutex).lockSlow", "internal/sync.runtime_canSpin", "internal/sync.runtime_doSpin", "internal/sync.throw", "internal/sync.runtime_nanotime", "internal/sync.runtime_SemacquireMutex", "sync/atomic.AddInt32", "(*internal/sync.Mutex).Unlock", "internal/race.ReleaseMerge", "(*internal/sync.Mutex).unlockSlow", "internal/sync.fatal", "internal/sync.runtime_Semrelease", "sync/atomic.StoreUint32"], unfollowed := true, recurses := true, apart := false, narrowed := true }
def EanDetectsUptoSaid : Prop := eanDetectsUptoRow.holds Tryz.pinned (OpenSpec.upto eanDetectsSpec)

/-- 'barscanlaw11.EanCanonical', WHERE WHAT IT READS IS OF BULK AT MOST 1048576: true; the input reads as it did. -/
def eanCanonicalUptoRow : OpenClaim := { program := "ytfpliihglgjijaagreat", sum := "42ee1e07cb1002f3dceab92322a186d9337fd10e78edc9d44ff62bec12ba39b6", func := "barscan/barscanlaw11.EanCanonical", spec := "eanCanonical", inPlace := ["internal/abi.NoEscape", "internal/bytealg.MakeNoZero", "sync/atomic.LoadUint32", "(*internal/sync.Mutex).Lock", "internal/race.Disable", "sync/atomic.CompareAndSwapInt32", "internal/race.Enable", "internal/race.Acquire", "(*internal/sync.Mutex).lockSlow", "internal/sync.runtime_canSpin", "internal/sync.runtime_doSpin", "internal/sync.throw", "internal/sync.runtime_nanotime", "internal/sync.runtime_SemacquireMutex", "sync/atomic.AddInt32", "(*internal/sync.Mutex).Unlock", "internal/race.ReleaseMerge", "(*internal/sync.Mutex).unlockSlow", "internal/sync.fatal", "internal/sync.runtime_Semrelease", "sync/atomic.StoreUint32"], unfollowed := true, recurses := true, apart := false, narrowed := true }
def EanCanonicalUptoSaid : Prop := eanCanonicalUptoRow.holds Tryz.pinned (OpenSpec.upto eanCanonicalSpec)

/-- 'barscanlaw11.EanDigits', WHERE WHAT IT READS IS OF BULK AT MOST 1048576: true; the input reads as it did. -/
def eanDigitsUptoRow : OpenClaim := { program := "ytfpliihglgjijaagreat", sum := "42ee1e07cb1002f3dceab92322a186d9337fd10e78edc9d44ff62bec12ba39b6", func := "barscan/barscanlaw11.EanDigits", spec := "eanDigits", inPlace := ["internal/abi.NoEscape", "internal/bytealg.MakeNoZero", "sync/atomic.LoadUint32", "(*internal/sync.Mutex).Lock", "internal/race.Disable", "sync/atomic.CompareAndSwapInt32", "internal/race.Enable", "internal/race.Acquire", "(*internal/sync.Mutex).lockSlow", "internal/sync.runtime_canSpin", "internal/sync.runtime_doSpin", "internal/sync.throw", "internal/sync.runtime_nanotime", "internal/sync.runtime_SemacquireMutex", "sync/atomic.AddInt32", "(*internal/sync.Mutex).Unlock", "internal/race.ReleaseMerge", "(*internal/sync.Mutex).unlockSlow", "internal/sync.fatal", "internal/sync.runtime_Semrelease", "sync/atomic.StoreUint32"], unfollowed := true, recurses := true, apart := false, narrowed := true }
def EanDigitsUptoSaid : Prop := eanDigitsUptoRow.holds Tryz.pinned (OpenSpec.upto eanDigitsSpec)

end Rows
end Go.Proofs.YtfpliihglgjijaaGreat
