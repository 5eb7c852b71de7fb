/-
  Chapter 11: the tables of sets, draw, modules, walked.
  Condition: strings of at most a million bytes.
-/
import Derived.Test.YtfpliihglgjijaaGreatEaW2
import Derived.Test.YtfpliihglgjijaaGreatArr
import Derived.Test.YtfpliihglgjijaaGreatShelf
import Derived.BigRegion
import Derived.Handy
import Derived.Deep.WholeRow
namespace Go.Proofs.YtfpliihglgjijaaGreat
set_option linter.unusedVariables false
open Go.RowKit

/-- An array of strings. -/
def arrV (l : List ByteArray) : Value := .agg (l.map Value.string).toArray

set_option maxRecDepth 100000 in
theorem digitRow_any (t : Nat) (ht : t < 3) (w : World) : Calls Tryz.prog 55 #[.int .u8 ((65 + t : Nat) : Int)] w fun e w' => e = .returned (arrV (Ea.rowB t)) ∧ Ext w w' := by
  have h : t = 0 ∨ t = 1 ∨ t = 2 := by omega
  rcases h with rfl | rfl | rfl
  · go_enter Tryz.func55, Tryz.ntmps55
    go_wp2
    go_returns
    exact ⟨rfl, (by repeat (first | exact Ext.refl _ | assumption | refine Ext.alloc ?_ _ | refine Ext.drew ?_ | refine Ext.drewN ?_ _ | refine Ext.setCell ?_ (Nat.le_refl _) _ | refine Ext.trans ?_ (by assumption)))⟩
  · go_enter Tryz.func55, Tryz.ntmps55
    go_wp2
    go_returns
    exact ⟨rfl, (by repeat (first | exact Ext.refl _ | assumption | refine Ext.alloc ?_ _ | refine Ext.drew ?_ | refine Ext.drewN ?_ _ | refine Ext.setCell ?_ (Nat.le_refl _) _ | refine Ext.trans ?_ (by assumption)))⟩
  · go_enter Tryz.func55, Tryz.ntmps55
    go_wp2
    go_returns
    exact ⟨rfl, (by repeat (first | exact Ext.refl _ | assumption | refine Ext.alloc ?_ _ | refine Ext.drew ?_ | refine Ext.drewN ?_ _ | refine Ext.setCell ?_ (Nat.le_refl _) _ | refine Ext.trans ?_ (by assumption)))⟩

theorem leftSets_any (w : World) : Calls Tryz.prog 64 #[] w fun e w' => e = .returned (arrV Ea.leftB) ∧ Ext w w' := by
  go_enter Tryz.func64, Tryz.ntmps64
  go_wp2
  go_returns
  exact ⟨rfl, (by repeat (first | exact Ext.refl _ | assumption | refine Ext.alloc ?_ _ | refine Ext.drew ?_ | refine Ext.drewN ?_ _ | refine Ext.setCell ?_ (Nat.le_refl _) _ | refine Ext.trans ?_ (by assumption)))⟩

theorem compactSets_zero (c : Int) (h : (c == 49) = false) (w : World) : Calls Tryz.prog 65 #[.int .u8 c] w fun e w' => e = .returned (arrV (Ea.compB 0)) ∧ Ext w w' := by
  go_enter Tryz.func65, Tryz.ntmps65
  go_wp2
  go_returns
  exact ⟨rfl, (by repeat (first | exact Ext.refl _ | assumption | refine Ext.alloc ?_ _ | refine Ext.drew ?_ | refine Ext.drewN ?_ _ | refine Ext.setCell ?_ (Nat.le_refl _) _ | refine Ext.trans ?_ (by assumption)))⟩
end Go.Proofs.YtfpliihglgjijaaGreat
