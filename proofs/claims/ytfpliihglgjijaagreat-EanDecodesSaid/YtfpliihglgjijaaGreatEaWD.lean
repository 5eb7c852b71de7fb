/-
  Chapter 11: Digits, walked.
  Condition: the numbers are ints.
-/
import Derived.Test.YtfpliihglgjijaaGreatEaWC
namespace Go.Proofs.YtfpliihglgjijaaGreat
set_option linter.unusedVariables false
open Go.RowKit

set_option maxRecDepth 100000 in
set_option maxHeartbeats 1000000 in
theorem eDigits_at (d t : Nat) (hd : d < 10) (ht : t < 3) (w : World) :
    Calls Tryz.prog 24 #[.int .i64 (d : Int), .int .i64 (t : Int)] w (BoolsE (Ea.modl t d, 0) w) := by
  have HDR := Lib.hid (digitRow_any t ht)
  have hRd := row_at ht hd
  have hRl := row_len ht
  unfold arrV at HDR
  obtain ⟨R, hR⟩ : ∃ R, ((Ea.rowB t).map Value.string).toArray = R := ⟨_, rfl⟩
  have hRs : R.size = 10 := by rw [← hR]; simp [hRl]
  have HR1 : Hid (R.all (·.oneCell') = true) := Lib.hid (by rw [← hR]; simp [Value.oneCell'])
  obtain ⟨S, hS, hSl, hSs⟩ := named (l := Ea.modl t d)
  have HRd : Hid (R[d]? = some (.string S)) := Lib.hid (by rw [← hR]; simp only [List.getElem?_toArray, List.getElem?_map, hRd]; rw [← hS]; rfl)
  rw [hR] at HDR
  have HMO := Lib.hid (modules_any S (Ea.modl t d) hSl (by rw [Ea.modl_len' ht hd]; omega))
  generalize Ea.modl t d = m at *
  clear hRd hRl hR hS hSl hSs
  rcases (by omega : t = 0 ∨ t = 1 ∨ t = 2) with rfl | rfl | rfl
  · go_enter Tryz.func24, Tryz.ntmps24
    go_wp2_with fail
    refine (HDR.out _).mono ?_
    rintro e w4 ⟨rfl, hx4⟩
    have hst := run_store_ten R hRs HR1.out w4
    have hnc := new_cell R 70 w4 HRd.out
    go_wp2_with fail
    refine (HMO.out _).mono ?_
    rintro e w5 ⟨v, rfl, hs5, hx5⟩
    go_wp2
    go_ret2
    exact ⟨v, rfl, hs5, (hx4.alloc _).trans hx5⟩
  · go_enter Tryz.func24, Tryz.ntmps24
    go_wp2_with fail
    refine (HDR.out _).mono ?_
    rintro e w4 ⟨rfl, hx4⟩
    have hst := run_store_ten R hRs HR1.out w4
    have hnc := new_cell R 70 w4 HRd.out
    go_wp2_with fail
    refine (HMO.out _).mono ?_
    rintro e w5 ⟨v, rfl, hs5, hx5⟩
    go_wp2
    go_ret2
    exact ⟨v, rfl, hs5, (hx4.alloc _).trans hx5⟩
  · go_enter Tryz.func24, Tryz.ntmps24
    go_wp2_with fail
    refine (HDR.out _).mono ?_
    rintro e w4 ⟨rfl, hx4⟩
    have hst := run_store_ten R hRs HR1.out w4
    have hnc := new_cell R 70 w4 HRd.out
    go_wp2_with fail
    refine (HMO.out _).mono ?_
    rintro e w5 ⟨v, rfl, hs5, hx5⟩
    go_wp2
    go_ret2
    exact ⟨v, rfl, hs5, (hx4.alloc _).trans hx5⟩

set_option maxRecDepth 100000 in
set_option maxHeartbeats 1000000 in
theorem eDigits_any (d t : Int) (w : World) :
    Calls Tryz.prog 24 #[.int .i64 d, .int .i64 t] w (BoolsE (Ea.dgts d t) w) := by
  have HX := Lib.hid (Ea.dgts.eq_1 d t)
  by_cases h : d < 0 ∨ 9 < d ∨ t < 0 ∨ 2 < t
  · rw [if_pos h] at HX
    generalize Ea.dgts d t = res at *
    have h4 : d < 0 ∨ (¬ d < 0 ∧ 9 < d) ∨ (¬ d < 0 ∧ ¬ 9 < d ∧ t < 0) ∨ (¬ d < 0 ∧ ¬ 9 < d ∧ ¬ t < 0 ∧ 2 < t) := by omega
    clear h
    rcases h4 with a | ⟨a, b⟩ | ⟨a, b, c⟩ | ⟨a, b, c, e⟩
    all_goals
      go_enter Tryz.func24, Tryz.ntmps24
      go_wp2
      go_ret2
      exact ⟨_, by rw [HX.out]; rfl, by rw [HX.out]; exact SlK.nil _, Ext.refl _⟩
  · rw [if_neg h] at HX
    rw [HX.out]
    obtain ⟨dn, rfl⟩ := Int.eq_ofNat_of_zero_le (show 0 ≤ d by omega)
    obtain ⟨tn, rfl⟩ := Int.eq_ofNat_of_zero_le (show 0 ≤ t by omega)
    exact eDigits_at dn tn (by omega) (by omega) w
end Go.Proofs.YtfpliihglgjijaaGreat
