/-
  Chapter 12: the reference's letter, inner, wrong, walked.
  Condition: the text is not empty nor too long.
-/
import Derived.Test.YthjlnpcaclfopaaGreatTwE2
import Derived.Test.YthjlnpcaclfopaaGreatTwR4
namespace Go.Proofs.YthjlnpcaclfopaaGreat
open Go.RowKit

theorem letter_eq : ∀ i : Fin 256, (decide (65 ≤ i.val) && decide (i.val ≤ 68)) = decide (0 ≤ Lib.indexByte Tw.eCb (UInt8.ofNat i.val)) := by decide +kernel
theorem inner_eq : ∀ i : Fin 256, (decide (0 ≤ Lib.indexByte Tw.cCb (UInt8.ofNat i.val)) && !decide (0 ≤ Lib.indexByte Tw.eCb (UInt8.ofNat i.val))) = decide (0 ≤ Lib.indexByte Tw.dCb (UInt8.ofNat i.val)) := by decide +kernel
theorem dig_eq : ∀ i : Fin 256, (decide (48 ≤ i.val) && decide (i.val ≤ 57)) = decide (0 ≤ Lib.indexByte Tw.cItf (UInt8.ofNat i.val)) := by decide +kernel

set_option maxHeartbeats 1000000 in
theorem letter_any (c : UInt8) (w : World) : Calls Tryz.prog 37 #[.int .u8 (c.toNat : Int)] w fun e w' => e = .returned (.bool (decide (0 ≤ Lib.indexByte Tw.eCb c))) ∧ w = w' := by
  have HE := Lib.hid (letter_eq ⟨c.toNat, c.toNat_lt⟩)
  simp only [ofNat_toNat] at HE
  generalize decide (0 ≤ Lib.indexByte Tw.eCb c) = r at *
  go_enter Tryz.func37, Tryz.ntmps37
  go_wp2
  all_goals
    go_ret
    refine ⟨ret_bool ?_, rfl⟩
    rw [← HE.out, Bool.eq_iff_iff]
    simp
    omega

set_option maxHeartbeats 1000000 in
theorem inner5_any (c : UInt8) (w : World) : Calls Tryz.prog 38 #[.int .i64 5, .int .u8 (c.toNat : Int)] w fun e w' => e = .returned (.bool (decide (0 ≤ Lib.indexByte Cd.syms c))) ∧ w = w' := by
  have HP := Lib.hid (fun w => plc_any c w)
  unfold Cd.plc at HP
  generalize Lib.indexByte Cd.syms c = x at *
  go_enter Tryz.func38, Tryz.ntmps38
  go_wp2_with fail
  refine (HP.out _).mono ?_
  rintro e w1 ⟨rfl, rfl⟩
  go_wp2
  go_ret
  exact ⟨rfl, rfl⟩

set_option maxHeartbeats 1000000 in
theorem inner6_any (c : UInt8) (w : World) : Calls Tryz.prog 38 #[.int .i64 6, .int .u8 (c.toNat : Int)] w fun e w' => e = .returned (.bool (decide (0 ≤ Lib.indexByte Tw.dCb c))) ∧ w = w' := by
  have HE := inner_eq ⟨c.toNat, c.toNat_lt⟩
  simp only [ofNat_toNat] at HE
  rw [← HE]
  have HP : Hid (∀ w, Calls Tryz.prog 40 #[.string ⟨#[48, 49, 50, 51, 52, 53, 54, 55, 56, 57, 45, 36, 58, 47, 46, 43, 65, 66, 67, 68]⟩, .int .u8 (c.toNat : Int)] w fun e w' => e = .returned (.int .i64 (Lib.indexByte Tw.cCb c)) ∧ w = w') := Lib.hid (fun w => place_lit Tw.cCb c (by decide) w)
  have HL := Lib.hid (fun w => letter_any c w)
  generalize decide (0 ≤ Lib.indexByte Tw.eCb c) = le at *
  clear HE
  by_cases h : 0 ≤ Lib.indexByte Tw.cCb c
  · rw [decide_eq_true h]
    generalize Lib.indexByte Tw.cCb c = x at *
    have d1 : decide (0 ≤ x) = true := by simpa using h
    cases le
    all_goals
      go_enter Tryz.func38, Tryz.ntmps38
      go_wp2_with fail
      refine (HP.out _).mono ?_
      rintro e w1 ⟨rfl, rfl⟩
      go_wp2_with fail
      refine (HL.out _).mono ?_
      rintro e w1 ⟨rfl, rfl⟩
      go_wp2
      go_ret
      exact ⟨rfl, rfl⟩
  · rw [decide_eq_false h]
    generalize Lib.indexByte Tw.cCb c = x at *
    have d1 : decide (0 ≤ x) = false := by simpa using h
    go_enter Tryz.func38, Tryz.ntmps38
    go_wp2_with fail
    refine (HP.out _).mono ?_
    rintro e w1 ⟨rfl, rfl⟩
    go_wp2
    go_ret
    exact ⟨rfl, rfl⟩
end Go.Proofs.YthjlnpcaclfopaaGreat
