/-
  Chapter 14: what a row's list of variables gives; arguments that came in.
  No condition.
-/
import Derived.Test.YteojfkffmbcedaaGreatDoorRows
import Derived.Test.YteojfkffmbcedaaGreatDoorGsWC
import Derived.Test.YteojfkffmbcedaaGreatDoorInts2
import Derived.LaidSub
import Derived.LaidMore
import Derived.Deep.DeepWitnessRowRef
import Derived.Deep.Slices
import Derived.Deep.Fields
import Derived.ChangeSame
import Derived.Lib.SmallJoins
namespace Go.Proofs.YteojfkffmbcedaaGreatDoor
set_option linter.unusedVariables false
open Go.RowKit Go.ChangeShapes Go.WideShapes Go.Deep Go.Joins

theorem asciiG : Tryz.prog.globalNamed "strings.asciiSpace" = some 0 := by kernel_rfl
theorem ascii_data : (Rows.laid_strings_asciiSpace : DataW Unit) = Lib.tabData .u8 Lib.asciiSpaceTab := by kernel_rfl
/-- What the row's list gives: the table of white space. -/
theorem spaces_of {W : World} (h : laidMetH Tryz.prog [("unicode.White_Space", Rows.laid_unicode_White_Space), ("strings.asciiSpace", Rows.laid_strings_asciiSpace)] W) : Spaces W := by
  have h1 := laidMetH.filter (fun p => p.1 == "strings.asciiSpace") h
  have e : ([("unicode.White_Space", Rows.laid_unicode_White_Space), ("strings.asciiSpace", Rows.laid_strings_asciiSpace)] : List (String × DataW Unit)).filter (fun p => p.1 == "strings.asciiSpace") = [("strings.asciiSpace", Lib.tabData .u8 Lib.asciiSpaceTab)] := by
    rw [← ascii_data]; rfl
  rw [e] at h1
  exact Lib.tabIs_of_head (rest := []) asciiG (t := 72) (e := 5) (n := 256) (by kernel_rfl) Tryz.underlying72 Tryz.underlying5 (by kernel_rfl) (by kernel_rfl) h1
/-- A slice of ints that came in. -/
theorem ints_slk {w : World} {a : Option Addr} {len cap : Nat} {zs : List Int}
    (h : (a = none ∧ len = 0 ∧ cap = 0 ∧ zs = []) ∨ ∃ x, a = some x ∧ len ≤ cap ∧ cap ≤ maxLen ∧ zs.length = cap ∧ (∀ i, i < zs.length → w.cell? (x.add i) = some (.int .i64 (zs.getD i 0))) ∧ ∀ n ∈ zs, (Lit.int .i64 n).wf = true) :
    SlK w (.slice a len cap) ((zs.take len).map encI) ∧ (zs.take len).length ≤ 9223372036854775807 := by
  have h1 := ints_sl h
  rcases h with ⟨rfl, rfl, rfl, rfl⟩ | ⟨x, rfl, hlc, hcm, hz, hc, hwf⟩
  · exact ⟨⟨h1, none, 0, rfl, Nat.le_refl _⟩, by simp⟩
  · have hl : ((zs.take len).map encI).length = len := by rw [List.length_map, List.length_take]; omega
    unfold maxLen at hcm
    exact ⟨⟨h1, _, cap, by rw [hl], by rw [hl]; exact hlc⟩, by rw [List.length_take]; omega⟩
end Go.Proofs.YteojfkffmbcedaaGreatDoor
