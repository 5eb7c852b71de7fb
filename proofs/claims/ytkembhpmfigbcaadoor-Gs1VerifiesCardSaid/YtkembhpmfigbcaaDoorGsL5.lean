/-
  Chapter 14: the law Gs1Verifies, walked.
  Condition: the table of white space reads as it is laid.
-/
import Derived.Test.YtkembhpmfigbcaaDoorGsX2
import Derived.Test.YtkembhpmfigbcaaDoorGsR6
import Derived.Deep.RegionHeld3
namespace Go.Proofs.YtkembhpmfigbcaaDoor
set_option linter.unusedVariables false
open Go.RowKit

set_option maxRecDepth 100000 in
set_option maxHeartbeats 8000000 in
theorem law_verifies (ai d : ByteArray) (w : World) (ha : ai.size ≤ maxLen) (hs : d.size ≤ maxLen) (ht : Spaces w) :
    Calls Tryd.prog 3 #[.string ai, .string d] w fun e w' => e = .returned (.bool true) ∧ Ext w w' := by
  have HT := Lib.hid ht
  have HF := Lib.hid (fun w' hx => Fixed_any ai ha w' (tabIs_ext HT.out hx))
  have HG := Lib.hid (fun w' => rFixed_any ai ha w')
  have HV := Lib.hid (fun w' hx => Verify_any ai d ha hs w' (tabIs_ext HT.out hx))
  have HW := Lib.hid (fun w' => rVerify_any ai d ha hs w')
  have HEX := Lib.hid (fun w' hx => examples_any w' (tabIs_ext HT.out hx))
  generalize Gs.fixF ai.data.toList = fx at *
  generalize Gs.ver ai.data.toList d.data.toList = z at *
  obtain ⟨n, m, e⟩ := fx
  dsimp only at HF HG
  clear ht hs ha
  have HXA := Lib.hid ((Ext.refl w).alloc (.cells #[.string ai, .string d] 23))
  have FJ : Hid (∀ w', Ext (w.alloc (.cells #[.string ai, .string d] 23)) w' → (fun w' => w'.cell? ⟨w.heap.size, 0, none⟩ = some (.string ai) ∧ w'.cell? ⟨w.heap.size, 1, none⟩ = some (.string d)) w') := Lib.hid (fun w' hx => by
    refine ⟨?_, ?_⟩
    all_goals
      rw [hx.cell (by simp)]; simp [go_sem])
  have b1 : (n == n) = true := beq_self_eq_true _
  have b2 : (m == m) = true := beq_self_eq_true _
  have b3 : (e == e) = true := beq_self_eq_true _
  have b4 : (z == z) = true := beq_self_eq_true _
  go_enter Tryd.func3, Tryd.ntmps3
  go_wp2_with fail
  refine (HF.out _ HXA.out).mono ?_
  rintro e' w1 ⟨rfl, hx1⟩
  go_wp2_with fail
  refine (HG.out _).mono ?_
  rintro e' w2 ⟨rfl, hx2⟩
  have hx02 : Ext (w.alloc (.cells #[.string ai, .string d] 23)) w2 := hx1.trans hx2
  clear hx1 hx2
  go_wp2
  go_region_held3 (fun w' => w'.cell? ⟨w.heap.size, 0, none⟩ = some (.string ai) ∧ w'.cell? ⟨w.heap.size, 1, none⟩ = some (.string d)) (exact FJ.out _ (by repeat (first | exact Ext.refl _ | assumption | refine Ext.alloc ?_ _ | refine Ext.drew ?_ | refine Ext.trans ?_ (by assumption)))) (first
      | (go_at_call 12; refine (HV.out _ (HXA.out.trans (by repeat (first | exact Ext.refl _ | assumption | refine Ext.alloc ?_ _ | refine Ext.drew ?_ | refine Ext.trans ?_ (by assumption))))).mono ?_; rintro e' w3 ⟨rfl, hx3⟩)
      | (go_at_call 13; refine (HW.out _).mono ?_; rintro e' w4 ⟨rfl, hx4⟩)
      | (go_at_call 14; refine (HEX.out _ (HXA.out.trans (by repeat (first | exact Ext.refl _ | assumption | refine Ext.alloc ?_ _ | refine Ext.drew ?_ | refine Ext.trans ?_ (by assumption))))).mono ?_; rintro e' w5 ⟨rfl, hx5⟩))
  all_goals
    go_wp2
    go_ret
    exact ⟨rfl, HXA.out.trans (by repeat (first | exact Ext.refl _ | assumption | refine Ext.alloc ?_ _ | refine Ext.drew ?_ | refine Ext.trans ?_ (by assumption)))⟩
end Go.Proofs.YtkembhpmfigbcaaDoor
