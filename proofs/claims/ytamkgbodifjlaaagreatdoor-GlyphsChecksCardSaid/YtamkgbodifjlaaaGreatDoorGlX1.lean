/-
  Chapter 48, the reference: the font's rows.
  No condition.
-/
import Derived.Test.YtamkgbodifjlaaaGreatDoorGlWx
namespace Go.Proofs.YtamkgbodifjlaaaGreatDoor
set_option linter.unusedVariables false
open Go.RowKit
theorem kn_ne {n m : Nat} (hm : Gl.kn m = true) (hk : Gl.kn n = false) (h : n = m) : False := by
  subst h
  rw [hm] at hk
  exact Bool.noConfusion hk

theorem xsub_32 (w : World) : Calls Tryz.prog 96 #[.int .u8 32] w fun e w' => e = .returned (.string ⟨#[48, 48, 48, 48, 48, 32, 48, 48, 48, 48, 48, 32, 48, 48, 48, 48, 48, 32, 48, 48, 48, 48, 48, 32, 48, 48, 48, 48, 48, 32, 48, 48, 48, 48, 48, 32, 48, 48, 48, 48, 48]⟩) ∧ w = w' := by
  go_enter Tryz.func96, Tryz.ntmps96
  go_wp2
  go_ret
  exact ⟨rfl, rfl⟩
theorem xrows_32 (w : World) : Calls Tryz.prog 61 #[.int .u8 32] w fun e w' => e = .returned (.string (bS (Gl.txt 32))) ∧ w = w' := by
  rw [show bS (Gl.txt 32) = ⟨#[48, 48, 48, 48, 48, 32, 48, 48, 48, 48, 48, 32, 48, 48, 48, 48, 48, 32, 48, 48, 48, 48, 48, 32, 48, 48, 48, 48, 48, 32, 48, 48, 48, 48, 48, 32, 48, 48, 48, 48, 48]⟩ from by kernel_rfl]
  have h := xsub_32
  go_enter Tryz.func61, Tryz.ntmps61
  go_wp2_with fail
  refine (h _).mono ?_
  rintro e w1 ⟨rfl, rfl⟩
  go_wp2
  go_ret
  exact ⟨rfl, rfl⟩
theorem xsub_33 (w : World) : Calls Tryz.prog 96 #[.int .u8 33] w fun e w' => e = .returned (.string ⟨#[49, 48, 48, 48, 48, 32, 49, 48, 48, 48, 48, 32, 49, 48, 48, 48, 48, 32, 49, 48, 48, 48, 48, 32, 49, 48, 48, 48, 48, 32, 48, 48, 48, 48, 48, 32, 49, 48, 48, 48, 48]⟩) ∧ w = w' := by
  go_enter Tryz.func96, Tryz.ntmps96
  go_wp2
  go_ret
  exact ⟨rfl, rfl⟩
theorem xrows_33 (w : World) : Calls Tryz.prog 61 #[.int .u8 33] w fun e w' => e = .returned (.string (bS (Gl.txt 33))) ∧ w = w' := by
  rw [show bS (Gl.txt 33) = ⟨#[49, 48, 48, 48, 48, 32, 49, 48, 48, 48, 48, 32, 49, 48, 48, 48, 48, 32, 49, 48, 48, 48, 48, 32, 49, 48, 48, 48, 48, 32, 48, 48, 48, 48, 48, 32, 49, 48, 48, 48, 48]⟩ from by kernel_rfl]
  have h := xsub_33
  go_enter Tryz.func61, Tryz.ntmps61
  go_wp2_with fail
  refine (h _).mono ?_
  rintro e w1 ⟨rfl, rfl⟩
  go_wp2
  go_ret
  exact ⟨rfl, rfl⟩
theorem xsub_34 (w : World) : Calls Tryz.prog 96 #[.int .u8 34] w fun e w' => e = .returned (.string ⟨#[49, 48, 49, 48, 48, 32, 49, 48, 49, 48, 48, 32, 49, 48, 49, 48, 48, 32, 48, 48, 48, 48, 48, 32, 48, 48, 48, 48, 48, 32, 48, 48, 48, 48, 48, 32, 48, 48, 48, 48, 48]⟩) ∧ w = w' := by
  go_enter Tryz.func96, Tryz.ntmps96
  go_wp2
  go_ret
  exact ⟨rfl, rfl⟩
theorem xrows_34 (w : World) : Calls Tryz.prog 61 #[.int .u8 34] w fun e w' => e = .returned (.string (bS (Gl.txt 34))) ∧ w = w' := by
  rw [show bS (Gl.txt 34) = ⟨#[49, 48, 49, 48, 48, 32, 49, 48, 49, 48, 48, 32, 49, 48, 49, 48, 48, 32, 48, 48, 48, 48, 48, 32, 48, 48, 48, 48, 48, 32, 48, 48, 48, 48, 48, 32, 48, 48, 48, 48, 48]⟩ from by kernel_rfl]
  have h := xsub_34
  go_enter Tryz.func61, Tryz.ntmps61
  go_wp2_with fail
  refine (h _).mono ?_
  rintro e w1 ⟨rfl, rfl⟩
  go_wp2
  go_ret
  exact ⟨rfl, rfl⟩
theorem xsub_35 (w : World) : Calls Tryz.prog 96 #[.int .u8 35] w fun e w' => e = .returned (.string ⟨#[48, 49, 48, 49, 48, 32, 48, 49, 48, 49, 48, 32, 49, 49, 49, 49, 49, 32, 48, 49, 48, 49, 48, 32, 49, 49, 49, 49, 49, 32, 48, 49, 48, 49, 48, 32, 48, 49, 48, 49, 48]⟩) ∧ w = w' := by
  go_enter Tryz.func96, Tryz.ntmps96
  go_wp2
  go_ret
  exact ⟨rfl, rfl⟩
theorem xrows_35 (w : World) : Calls Tryz.prog 61 #[.int .u8 35] w fun e w' => e = .returned (.string (bS (Gl.txt 35))) ∧ w = w' := by
  rw [show bS (Gl.txt 35) = ⟨#[48, 49, 48, 49, 48, 32, 48, 49, 48, 49, 48, 32, 49, 49, 49, 49, 49, 32, 48, 49, 48, 49, 48, 32, 49, 49, 49, 49, 49, 32, 48, 49, 48, 49, 48, 32, 48, 49, 48, 49, 48]⟩ from by kernel_rfl]
  have h := xsub_35
  go_enter Tryz.func61, Tryz.ntmps61
  go_wp2_with fail
  refine (h _).mono ?_
  rintro e w1 ⟨rfl, rfl⟩
  go_wp2
  go_ret
  exact ⟨rfl, rfl⟩
theorem xsub_36 (w : World) : Calls Tryz.prog 96 #[.int .u8 36] w fun e w' => e = .returned (.string ⟨#[48, 48, 49, 48, 48, 32, 48, 49, 49, 49, 49, 32, 49, 48, 49, 48, 48, 32, 48, 49, 49, 49, 48, 32, 48, 48, 49, 48, 49, 32, 49, 49, 49, 49, 48, 32, 48, 48, 49, 48, 48]⟩) ∧ w = w' := by
  go_enter Tryz.func96, Tryz.ntmps96
  go_wp2
  go_ret
  exact ⟨rfl, rfl⟩
theorem xrows_36 (w : World) : Calls Tryz.prog 61 #[.int .u8 36] w fun e w' => e = .returned (.string (bS (Gl.txt 36))) ∧ w = w' := by
  rw [show bS (Gl.txt 36) = ⟨#[48, 48, 49, 48, 48, 32, 48, 49, 49, 49, 49, 32, 49, 48, 49, 48, 48, 32, 48, 49, 49, 49, 48, 32, 48, 48, 49, 48, 49, 32, 49, 49, 49, 49, 48, 32, 48, 48, 49, 48, 48]⟩ from by kernel_rfl]
  have h := xsub_36
  go_enter Tryz.func61, Tryz.ntmps61
  go_wp2_with fail
  refine (h _).mono ?_
  rintro e w1 ⟨rfl, rfl⟩
  go_wp2
  go_ret
  exact ⟨rfl, rfl⟩
theorem xsub_37 (w : World) : Calls Tryz.prog 96 #[.int .u8 37] w fun e w' => e = .returned (.string ⟨#[49, 49, 48, 48, 48, 32, 49, 49, 48, 48, 49, 32, 48, 48, 48, 49, 48, 32, 48, 48, 49, 48, 48, 32, 48, 49, 48, 48, 48, 32, 49, 48, 48, 49, 49, 32, 48, 48, 48, 49, 49]⟩) ∧ w = w' := by
  go_enter Tryz.func96, Tryz.ntmps96
  go_wp2
  go_ret
  exact ⟨rfl, rfl⟩
theorem xrows_37 (w : World) : Calls Tryz.prog 61 #[.int .u8 37] w fun e w' => e = .returned (.string (bS (Gl.txt 37))) ∧ w = w' := by
  rw [show bS (Gl.txt 37) = ⟨#[49, 49, 48, 48, 48, 32, 49, 49, 48, 48, 49, 32, 48, 48, 48, 49, 48, 32, 48, 48, 49, 48, 48, 32, 48, 49, 48, 48, 48, 32, 49, 48, 48, 49, 49, 32, 48, 48, 48, 49, 49]⟩ from by kernel_rfl]
  have h := xsub_37
  go_enter Tryz.func61, Tryz.ntmps61
  go_wp2_with fail
  refine (h _).mono ?_
  rintro e w1 ⟨rfl, rfl⟩
  go_wp2
  go_ret
  exact ⟨rfl, rfl⟩
theorem xsub_38 (w : World) : Calls Tryz.prog 96 #[.int .u8 38] w fun e w' => e = .returned (.string ⟨#[48, 49, 49, 48, 48, 32, 49, 48, 48, 49, 48, 32, 49, 48, 49, 48, 48, 32, 48, 49, 48, 48, 48, 32, 49, 48, 49, 48, 49, 32, 49, 48, 48, 49, 48, 32, 48, 49, 49, 48, 49]⟩) ∧ w = w' := by
  go_enter Tryz.func96, Tryz.ntmps96
  go_wp2
  go_ret
  exact ⟨rfl, rfl⟩
theorem xrows_38 (w : World) : Calls Tryz.prog 61 #[.int .u8 38] w fun e w' => e = .returned (.string (bS (Gl.txt 38))) ∧ w = w' := by
  rw [show bS (Gl.txt 38) = ⟨#[48, 49, 49, 48, 48, 32, 49, 48, 48, 49, 48, 32, 49, 48, 49, 48, 48, 32, 48, 49, 48, 48, 48, 32, 49, 48, 49, 48, 49, 32, 49, 48, 48, 49, 48, 32, 48, 49, 49, 48, 49]⟩ from by kernel_rfl]
  have h := xsub_38
  go_enter Tryz.func61, Tryz.ntmps61
  go_wp2_with fail
  refine (h _).mono ?_
  rintro e w1 ⟨rfl, rfl⟩
  go_wp2
  go_ret
  exact ⟨rfl, rfl⟩
theorem xsub_39 (w : World) : Calls Tryz.prog 96 #[.int .u8 39] w fun e w' => e = .returned (.string ⟨#[49, 49, 48, 48, 48, 32, 48, 49, 48, 48, 48, 32, 49, 48, 48, 48, 48, 32, 48, 48, 48, 48, 48, 32, 48, 48, 48, 48, 48, 32, 48, 48, 48, 48, 48, 32, 48, 48, 48, 48, 48]⟩) ∧ w = w' := by
  go_enter Tryz.func96, Tryz.ntmps96
  go_wp2
  go_ret
  exact ⟨rfl, rfl⟩
theorem xrows_39 (w : World) : Calls Tryz.prog 61 #[.int .u8 39] w fun e w' => e = .returned (.string (bS (Gl.txt 39))) ∧ w = w' := by
  rw [show bS (Gl.txt 39) = ⟨#[49, 49, 48, 48, 48, 32, 48, 49, 48, 48, 48, 32, 49, 48, 48, 48, 48, 32, 48, 48, 48, 48, 48, 32, 48, 48, 48, 48, 48, 32, 48, 48, 48, 48, 48, 32, 48, 48, 48, 48, 48]⟩ from by kernel_rfl]
  have h := xsub_39
  go_enter Tryz.func61, Tryz.ntmps61
  go_wp2_with fail
  refine (h _).mono ?_
  rintro e w1 ⟨rfl, rfl⟩
  go_wp2
  go_ret
  exact ⟨rfl, rfl⟩
theorem xsub_40 (w : World) : Calls Tryz.prog 96 #[.int .u8 40] w fun e w' => e = .returned (.string ⟨#[48, 48, 49, 48, 48, 32, 48, 49, 48, 48, 48, 32, 49, 48, 48, 48, 48, 32, 49, 48, 48, 48, 48, 32, 49, 48, 48, 48, 48, 32, 48, 49, 48, 48, 48, 32, 48, 48, 49, 48, 48]⟩) ∧ w = w' := by
  go_enter Tryz.func96, Tryz.ntmps96
  go_wp2
  go_ret
  exact ⟨rfl, rfl⟩
theorem xrows_40 (w : World) : Calls Tryz.prog 61 #[.int .u8 40] w fun e w' => e = .returned (.string (bS (Gl.txt 40))) ∧ w = w' := by
  rw [show bS (Gl.txt 40) = ⟨#[48, 48, 49, 48, 48, 32, 48, 49, 48, 48, 48, 32, 49, 48, 48, 48, 48, 32, 49, 48, 48, 48, 48, 32, 49, 48, 48, 48, 48, 32, 48, 49, 48, 48, 48, 32, 48, 48, 49, 48, 48]⟩ from by kernel_rfl]
  have h := xsub_40
  go_enter Tryz.func61, Tryz.ntmps61
  go_wp2_with fail
  refine (h _).mono ?_
  rintro e w1 ⟨rfl, rfl⟩
  go_wp2
  go_ret
  exact ⟨rfl, rfl⟩
theorem xsub_41 (w : World) : Calls Tryz.prog 96 #[.int .u8 41] w fun e w' => e = .returned (.string ⟨#[49, 48, 48, 48, 48, 32, 48, 49, 48, 48, 48, 32, 48, 48, 49, 48, 48, 32, 48, 48, 49, 48, 48, 32, 48, 48, 49, 48, 48, 32, 48, 49, 48, 48, 48, 32, 49, 48, 48, 48, 48]⟩) ∧ w = w' := by
  go_enter Tryz.func96, Tryz.ntmps96
  go_wp2
  go_ret
  exact ⟨rfl, rfl⟩
theorem xrows_41 (w : World) : Calls Tryz.prog 61 #[.int .u8 41] w fun e w' => e = .returned (.string (bS (Gl.txt 41))) ∧ w = w' := by
  rw [show bS (Gl.txt 41) = ⟨#[49, 48, 48, 48, 48, 32, 48, 49, 48, 48, 48, 32, 48, 48, 49, 48, 48, 32, 48, 48, 49, 48, 48, 32, 48, 48, 49, 48, 48, 32, 48, 49, 48, 48, 48, 32, 49, 48, 48, 48, 48]⟩ from by kernel_rfl]
  have h := xsub_41
  go_enter Tryz.func61, Tryz.ntmps61
  go_wp2_with fail
  refine (h _).mono ?_
  rintro e w1 ⟨rfl, rfl⟩
  go_wp2
  go_ret
  exact ⟨rfl, rfl⟩
theorem xsub_42 (w : World) : Calls Tryz.prog 96 #[.int .u8 42] w fun e w' => e = .returned (.string ⟨#[48, 48, 48, 48, 48, 32, 48, 48, 49, 48, 48, 32, 49, 48, 49, 48, 49, 32, 48, 49, 49, 49, 48, 32, 49, 48, 49, 48, 49, 32, 48, 48, 49, 48, 48, 32, 48, 48, 48, 48, 48]⟩) ∧ w = w' := by
  go_enter Tryz.func96, Tryz.ntmps96
  go_wp2
  go_ret
  exact ⟨rfl, rfl⟩
theorem xrows_42 (w : World) : Calls Tryz.prog 61 #[.int .u8 42] w fun e w' => e = .returned (.string (bS (Gl.txt 42))) ∧ w = w' := by
  rw [show bS (Gl.txt 42) = ⟨#[48, 48, 48, 48, 48, 32, 48, 48, 49, 48, 48, 32, 49, 48, 49, 48, 49, 32, 48, 49, 49, 49, 48, 32, 49, 48, 49, 48, 49, 32, 48, 48, 49, 48, 48, 32, 48, 48, 48, 48, 48]⟩ from by kernel_rfl]
  have h := xsub_42
  go_enter Tryz.func61, Tryz.ntmps61
  go_wp2_with fail
  refine (h _).mono ?_
  rintro e w1 ⟨rfl, rfl⟩
  go_wp2
  go_ret
  exact ⟨rfl, rfl⟩
theorem xsub_43 (w : World) : Calls Tryz.prog 96 #[.int .u8 43] w fun e w' => e = .returned (.string ⟨#[48, 48, 48, 48, 48, 32, 48, 48, 49, 48, 48, 32, 48, 48, 49, 48, 48, 32, 49, 49, 49, 49, 49, 32, 48, 48, 49, 48, 48, 32, 48, 48, 49, 48, 48, 32, 48, 48, 48, 48, 48]⟩) ∧ w = w' := by
  go_enter Tryz.func96, Tryz.ntmps96
  go_wp2
  go_ret
  exact ⟨rfl, rfl⟩
theorem xrows_43 (w : World) : Calls Tryz.prog 61 #[.int .u8 43] w fun e w' => e = .returned (.string (bS (Gl.txt 43))) ∧ w = w' := by
  rw [show bS (Gl.txt 43) = ⟨#[48, 48, 48, 48, 48, 32, 48, 48, 49, 48, 48, 32, 48, 48, 49, 48, 48, 32, 49, 49, 49, 49, 49, 32, 48, 48, 49, 48, 48, 32, 48, 48, 49, 48, 48, 32, 48, 48, 48, 48, 48]⟩ from by kernel_rfl]
  have h := xsub_43
  go_enter Tryz.func61, Tryz.ntmps61
  go_wp2_with fail
  refine (h _).mono ?_
  rintro e w1 ⟨rfl, rfl⟩
  go_wp2
  go_ret
  exact ⟨rfl, rfl⟩
theorem xsub_44 (w : World) : Calls Tryz.prog 96 #[.int .u8 44] w fun e w' => e = .returned (.string ⟨#[48, 48, 48, 48, 48, 32, 48, 48, 48, 48, 48, 32, 48, 48, 48, 48, 48, 32, 48, 48, 48, 48, 48, 32, 49, 49, 48, 48, 48, 32, 48, 49, 48, 48, 48, 32, 49, 48, 48, 48, 48]⟩) ∧ w = w' := by
  go_enter Tryz.func96, Tryz.ntmps96
  go_wp2
  go_ret
  exact ⟨rfl, rfl⟩
theorem xrows_44 (w : World) : Calls Tryz.prog 61 #[.int .u8 44] w fun e w' => e = .returned (.string (bS (Gl.txt 44))) ∧ w = w' := by
  rw [show bS (Gl.txt 44) = ⟨#[48, 48, 48, 48, 48, 32, 48, 48, 48, 48, 48, 32, 48, 48, 48, 48, 48, 32, 48, 48, 48, 48, 48, 32, 49, 49, 48, 48, 48, 32, 48, 49, 48, 48, 48, 32, 49, 48, 48, 48, 48]⟩ from by kernel_rfl]
  have h := xsub_44
  go_enter Tryz.func61, Tryz.ntmps61
  go_wp2_with fail
  refine (h _).mono ?_
  rintro e w1 ⟨rfl, rfl⟩
  go_wp2
  go_ret
  exact ⟨rfl, rfl⟩
theorem xsub_45 (w : World) : Calls Tryz.prog 96 #[.int .u8 45] w fun e w' => e = .returned (.string ⟨#[48, 48, 48, 48, 48, 32, 48, 48, 48, 48, 48, 32, 48, 48, 48, 48, 48, 32, 49, 49, 49, 49, 49, 32, 48, 48, 48, 48, 48, 32, 48, 48, 48, 48, 48, 32, 48, 48, 48, 48, 48]⟩) ∧ w = w' := by
  go_enter Tryz.func96, Tryz.ntmps96
  go_wp2
  go_ret
  exact ⟨rfl, rfl⟩
theorem xrows_45 (w : World) : Calls Tryz.prog 61 #[.int .u8 45] w fun e w' => e = .returned (.string (bS (Gl.txt 45))) ∧ w = w' := by
  rw [show bS (Gl.txt 45) = ⟨#[48, 48, 48, 48, 48, 32, 48, 48, 48, 48, 48, 32, 48, 48, 48, 48, 48, 32, 49, 49, 49, 49, 49, 32, 48, 48, 48, 48, 48, 32, 48, 48, 48, 48, 48, 32, 48, 48, 48, 48, 48]⟩ from by kernel_rfl]
  have h := xsub_45
  go_enter Tryz.func61, Tryz.ntmps61
  go_wp2_with fail
  refine (h _).mono ?_
  rintro e w1 ⟨rfl, rfl⟩
  go_wp2
  go_ret
  exact ⟨rfl, rfl⟩
theorem xsub_46 (w : World) : Calls Tryz.prog 96 #[.int .u8 46] w fun e w' => e = .returned (.string ⟨#[48, 48, 48, 48, 48, 32, 48, 48, 48, 48, 48, 32, 48, 48, 48, 48, 48, 32, 48, 48, 48, 48, 48, 32, 48, 48, 48, 48, 48, 32, 49, 49, 48, 48, 48, 32, 49, 49, 48, 48, 48]⟩) ∧ w = w' := by
  go_enter Tryz.func96, Tryz.ntmps96
  go_wp2
  go_ret
  exact ⟨rfl, rfl⟩
theorem xrows_46 (w : World) : Calls Tryz.prog 61 #[.int .u8 46] w fun e w' => e = .returned (.string (bS (Gl.txt 46))) ∧ w = w' := by
  rw [show bS (Gl.txt 46) = ⟨#[48, 48, 48, 48, 48, 32, 48, 48, 48, 48, 48, 32, 48, 48, 48, 48, 48, 32, 48, 48, 48, 48, 48, 32, 48, 48, 48, 48, 48, 32, 49, 49, 48, 48, 48, 32, 49, 49, 48, 48, 48]⟩ from by kernel_rfl]
  have h := xsub_46
  go_enter Tryz.func61, Tryz.ntmps61
  go_wp2_with fail
  refine (h _).mono ?_
  rintro e w1 ⟨rfl, rfl⟩
  go_wp2
  go_ret
  exact ⟨rfl, rfl⟩
theorem xsub_47 (w : World) : Calls Tryz.prog 96 #[.int .u8 47] w fun e w' => e = .returned (.string ⟨#[48, 48, 48, 48, 48, 32, 48, 48, 48, 48, 49, 32, 48, 48, 48, 49, 48, 32, 48, 48, 49, 48, 48, 32, 48, 49, 48, 48, 48, 32, 49, 48, 48, 48, 48, 32, 48, 48, 48, 48, 48]⟩) ∧ w = w' := by
  go_enter Tryz.func96, Tryz.ntmps96
  go_wp2
  go_ret
  exact ⟨rfl, rfl⟩
theorem xrows_47 (w : World) : Calls Tryz.prog 61 #[.int .u8 47] w fun e w' => e = .returned (.string (bS (Gl.txt 47))) ∧ w = w' := by
  rw [show bS (Gl.txt 47) = ⟨#[48, 48, 48, 48, 48, 32, 48, 48, 48, 48, 49, 32, 48, 48, 48, 49, 48, 32, 48, 48, 49, 48, 48, 32, 48, 49, 48, 48, 48, 32, 49, 48, 48, 48, 48, 32, 48, 48, 48, 48, 48]⟩ from by kernel_rfl]
  have h := xsub_47
  go_enter Tryz.func61, Tryz.ntmps61
  go_wp2_with fail
  refine (h _).mono ?_
  rintro e w1 ⟨rfl, rfl⟩
  go_wp2
  go_ret
  exact ⟨rfl, rfl⟩
theorem xsub_48 (w : World) : Calls Tryz.prog 97 #[.int .u8 48] w fun e w' => e = .returned (.string ⟨#[48, 49, 49, 49, 48, 32, 49, 48, 48, 49, 49, 32, 49, 48, 49, 48, 49, 32, 49, 48, 49, 48, 49, 32, 49, 48, 49, 48, 49, 32, 49, 49, 48, 48, 49, 32, 48, 49, 49, 49, 48]⟩) ∧ w = w' := by
  go_enter Tryz.func97, Tryz.ntmps97
  go_wp2
  go_ret
  exact ⟨rfl, rfl⟩
theorem xrows_48 (w : World) : Calls Tryz.prog 61 #[.int .u8 48] w fun e w' => e = .returned (.string (bS (Gl.txt 48))) ∧ w = w' := by
  rw [show bS (Gl.txt 48) = ⟨#[48, 49, 49, 49, 48, 32, 49, 48, 48, 49, 49, 32, 49, 48, 49, 48, 49, 32, 49, 48, 49, 48, 49, 32, 49, 48, 49, 48, 49, 32, 49, 49, 48, 48, 49, 32, 48, 49, 49, 49, 48]⟩ from by kernel_rfl]
  have h := xsub_48
  go_enter Tryz.func61, Tryz.ntmps61
  go_wp2_with fail
  refine (h _).mono ?_
  rintro e w1 ⟨rfl, rfl⟩
  go_wp2
  go_ret
  exact ⟨rfl, rfl⟩
theorem xsub_49 (w : World) : Calls Tryz.prog 97 #[.int .u8 49] w fun e w' => e = .returned (.string ⟨#[48, 48, 49, 48, 48, 32, 48, 49, 49, 48, 48, 32, 49, 48, 49, 48, 48, 32, 48, 48, 49, 48, 48, 32, 48, 48, 49, 48, 48, 32, 48, 48, 49, 48, 48, 32, 49, 49, 49, 49, 49]⟩) ∧ w = w' := by
  go_enter Tryz.func97, Tryz.ntmps97
  go_wp2
  go_ret
  exact ⟨rfl, rfl⟩
theorem xrows_49 (w : World) : Calls Tryz.prog 61 #[.int .u8 49] w fun e w' => e = .returned (.string (bS (Gl.txt 49))) ∧ w = w' := by
  rw [show bS (Gl.txt 49) = ⟨#[48, 48, 49, 48, 48, 32, 48, 49, 49, 48, 48, 32, 49, 48, 49, 48, 48, 32, 48, 48, 49, 48, 48, 32, 48, 48, 49, 48, 48, 32, 48, 48, 49, 48, 48, 32, 49, 49, 49, 49, 49]⟩ from by kernel_rfl]
  have h := xsub_49
  go_enter Tryz.func61, Tryz.ntmps61
  go_wp2_with fail
  refine (h _).mono ?_
  rintro e w1 ⟨rfl, rfl⟩
  go_wp2
  go_ret
  exact ⟨rfl, rfl⟩
theorem xsub_50 (w : World) : Calls Tryz.prog 97 #[.int .u8 50] w fun e w' => e = .returned (.string ⟨#[48, 49, 49, 49, 48, 32, 49, 48, 48, 48, 49, 32, 48, 48, 48, 48, 49, 32, 48, 48, 48, 49, 48, 32, 48, 48, 49, 48, 48, 32, 48, 49, 48, 48, 48, 32, 49, 49, 49, 49, 49]⟩) ∧ w = w' := by
  go_enter Tryz.func97, Tryz.ntmps97
  go_wp2
  go_ret
  exact ⟨rfl, rfl⟩
theorem xrows_50 (w : World) : Calls Tryz.prog 61 #[.int .u8 50] w fun e w' => e = .returned (.string (bS (Gl.txt 50))) ∧ w = w' := by
  rw [show bS (Gl.txt 50) = ⟨#[48, 49, 49, 49, 48, 32, 49, 48, 48, 48, 49, 32, 48, 48, 48, 48, 49, 32, 48, 48, 48, 49, 48, 32, 48, 48, 49, 48, 48, 32, 48, 49, 48, 48, 48, 32, 49, 49, 49, 49, 49]⟩ from by kernel_rfl]
  have h := xsub_50
  go_enter Tryz.func61, Tryz.ntmps61
  go_wp2_with fail
  refine (h _).mono ?_
  rintro e w1 ⟨rfl, rfl⟩
  go_wp2
  go_ret
  exact ⟨rfl, rfl⟩
theorem xsub_51 (w : World) : Calls Tryz.prog 97 #[.int .u8 51] w fun e w' => e = .returned (.string ⟨#[49, 49, 49, 49, 49, 32, 48, 48, 48, 49, 48, 32, 48, 48, 49, 48, 48, 32, 48, 48, 48, 49, 48, 32, 48, 48, 48, 48, 49, 32, 49, 48, 48, 48, 49, 32, 48, 49, 49, 49, 48]⟩) ∧ w = w' := by
  go_enter Tryz.func97, Tryz.ntmps97
  go_wp2
  go_ret
  exact ⟨rfl, rfl⟩
theorem xrows_51 (w : World) : Calls Tryz.prog 61 #[.int .u8 51] w fun e w' => e = .returned (.string (bS (Gl.txt 51))) ∧ w = w' := by
  rw [show bS (Gl.txt 51) = ⟨#[49, 49, 49, 49, 49, 32, 48, 48, 48, 49, 48, 32, 48, 48, 49, 48, 48, 32, 48, 48, 48, 49, 48, 32, 48, 48, 48, 48, 49, 32, 49, 48, 48, 48, 49, 32, 48, 49, 49, 49, 48]⟩ from by kernel_rfl]
  have h := xsub_51
  go_enter Tryz.func61, Tryz.ntmps61
  go_wp2_with fail
  refine (h _).mono ?_
  rintro e w1 ⟨rfl, rfl⟩
  go_wp2
  go_ret
  exact ⟨rfl, rfl⟩
theorem xsub_52 (w : World) : Calls Tryz.prog 97 #[.int .u8 52] w fun e w' => e = .returned (.string ⟨#[48, 48, 48, 49, 48, 32, 48, 48, 49, 49, 48, 32, 48, 49, 48, 49, 48, 32, 49, 48, 48, 49, 48, 32, 49, 49, 49, 49, 49, 32, 48, 48, 48, 49, 48, 32, 48, 48, 48, 49, 48]⟩) ∧ w = w' := by
  go_enter Tryz.func97, Tryz.ntmps97
  go_wp2
  go_ret
  exact ⟨rfl, rfl⟩
theorem xrows_52 (w : World) : Calls Tryz.prog 61 #[.int .u8 52] w fun e w' => e = .returned (.string (bS (Gl.txt 52))) ∧ w = w' := by
  rw [show bS (Gl.txt 52) = ⟨#[48, 48, 48, 49, 48, 32, 48, 48, 49, 49, 48, 32, 48, 49, 48, 49, 48, 32, 49, 48, 48, 49, 48, 32, 49, 49, 49, 49, 49, 32, 48, 48, 48, 49, 48, 32, 48, 48, 48, 49, 48]⟩ from by kernel_rfl]
  have h := xsub_52
  go_enter Tryz.func61, Tryz.ntmps61
  go_wp2_with fail
  refine (h _).mono ?_
  rintro e w1 ⟨rfl, rfl⟩
  go_wp2
  go_ret
  exact ⟨rfl, rfl⟩
theorem xsub_53 (w : World) : Calls Tryz.prog 97 #[.int .u8 53] w fun e w' => e = .returned (.string ⟨#[49, 49, 49, 49, 49, 32, 49, 48, 48, 48, 48, 32, 49, 49, 49, 49, 48, 32, 48, 48, 48, 48, 49, 32, 48, 48, 48, 48, 49, 32, 49, 48, 48, 48, 49, 32, 48, 49, 49, 49, 48]⟩) ∧ w = w' := by
  go_enter Tryz.func97, Tryz.ntmps97
  go_wp2
  go_ret
  exact ⟨rfl, rfl⟩
theorem xrows_53 (w : World) : Calls Tryz.prog 61 #[.int .u8 53] w fun e w' => e = .returned (.string (bS (Gl.txt 53))) ∧ w = w' := by
  rw [show bS (Gl.txt 53) = ⟨#[49, 49, 49, 49, 49, 32, 49, 48, 48, 48, 48, 32, 49, 49, 49, 49, 48, 32, 48, 48, 48, 48, 49, 32, 48, 48, 48, 48, 49, 32, 49, 48, 48, 48, 49, 32, 48, 49, 49, 49, 48]⟩ from by kernel_rfl]
  have h := xsub_53
  go_enter Tryz.func61, Tryz.ntmps61
  go_wp2_with fail
  refine (h _).mono ?_
  rintro e w1 ⟨rfl, rfl⟩
  go_wp2
  go_ret
  exact ⟨rfl, rfl⟩
theorem xsub_54 (w : World) : Calls Tryz.prog 97 #[.int .u8 54] w fun e w' => e = .returned (.string ⟨#[48, 48, 49, 49, 48, 32, 48, 49, 48, 48, 48, 32, 49, 48, 48, 48, 48, 32, 49, 49, 49, 49, 48, 32, 49, 48, 48, 48, 49, 32, 49, 48, 48, 48, 49, 32, 48, 49, 49, 49, 48]⟩) ∧ w = w' := by
  go_enter Tryz.func97, Tryz.ntmps97
  go_wp2
  go_ret
  exact ⟨rfl, rfl⟩
theorem xrows_54 (w : World) : Calls Tryz.prog 61 #[.int .u8 54] w fun e w' => e = .returned (.string (bS (Gl.txt 54))) ∧ w = w' := by
  rw [show bS (Gl.txt 54) = ⟨#[48, 48, 49, 49, 48, 32, 48, 49, 48, 48, 48, 32, 49, 48, 48, 48, 48, 32, 49, 49, 49, 49, 48, 32, 49, 48, 48, 48, 49, 32, 49, 48, 48, 48, 49, 32, 48, 49, 49, 49, 48]⟩ from by kernel_rfl]
  have h := xsub_54
  go_enter Tryz.func61, Tryz.ntmps61
  go_wp2_with fail
  refine (h _).mono ?_
  rintro e w1 ⟨rfl, rfl⟩
  go_wp2
  go_ret
  exact ⟨rfl, rfl⟩
theorem xsub_55 (w : World) : Calls Tryz.prog 97 #[.int .u8 55] w fun e w' => e = .returned (.string ⟨#[49, 49, 49, 49, 49, 32, 48, 48, 48, 48, 49, 32, 48, 48, 48, 49, 48, 32, 48, 48, 49, 48, 48, 32, 48, 49, 48, 48, 48, 32, 48, 49, 48, 48, 48, 32, 48, 49, 48, 48, 48]⟩) ∧ w = w' := by
  go_enter Tryz.func97, Tryz.ntmps97
  go_wp2
  go_ret
  exact ⟨rfl, rfl⟩
theorem xrows_55 (w : World) : Calls Tryz.prog 61 #[.int .u8 55] w fun e w' => e = .returned (.string (bS (Gl.txt 55))) ∧ w = w' := by
  rw [show bS (Gl.txt 55) = ⟨#[49, 49, 49, 49, 49, 32, 48, 48, 48, 48, 49, 32, 48, 48, 48, 49, 48, 32, 48, 48, 49, 48, 48, 32, 48, 49, 48, 48, 48, 32, 48, 49, 48, 48, 48, 32, 48, 49, 48, 48, 48]⟩ from by kernel_rfl]
  have h := xsub_55
  go_enter Tryz.func61, Tryz.ntmps61
  go_wp2_with fail
  refine (h _).mono ?_
  rintro e w1 ⟨rfl, rfl⟩
  go_wp2
  go_ret
  exact ⟨rfl, rfl⟩
theorem xsub_56 (w : World) : Calls Tryz.prog 97 #[.int .u8 56] w fun e w' => e = .returned (.string ⟨#[48, 49, 49, 49, 48, 32, 49, 48, 48, 48, 49, 32, 48, 49, 48, 49, 48, 32, 48, 48, 49, 48, 48, 32, 48, 49, 48, 49, 48, 32, 49, 48, 48, 48, 49, 32, 48, 49, 49, 49, 48]⟩) ∧ w = w' := by
  go_enter Tryz.func97, Tryz.ntmps97
  go_wp2
  go_ret
  exact ⟨rfl, rfl⟩
theorem xrows_56 (w : World) : Calls Tryz.prog 61 #[.int .u8 56] w fun e w' => e = .returned (.string (bS (Gl.txt 56))) ∧ w = w' := by
  rw [show bS (Gl.txt 56) = ⟨#[48, 49, 49, 49, 48, 32, 49, 48, 48, 48, 49, 32, 48, 49, 48, 49, 48, 32, 48, 48, 49, 48, 48, 32, 48, 49, 48, 49, 48, 32, 49, 48, 48, 48, 49, 32, 48, 49, 49, 49, 48]⟩ from by kernel_rfl]
  have h := xsub_56
  go_enter Tryz.func61, Tryz.ntmps61
  go_wp2_with fail
  refine (h _).mono ?_
  rintro e w1 ⟨rfl, rfl⟩
  go_wp2
  go_ret
  exact ⟨rfl, rfl⟩
theorem xsub_57 (w : World) : Calls Tryz.prog 97 #[.int .u8 57] w fun e w' => e = .returned (.string ⟨#[48, 49, 49, 49, 48, 32, 49, 48, 48, 48, 49, 32, 49, 48, 48, 48, 49, 32, 48, 49, 49, 49, 49, 32, 48, 48, 48, 48, 49, 32, 48, 48, 48, 49, 48, 32, 48, 49, 49, 48, 48]⟩) ∧ w = w' := by
  go_enter Tryz.func97, Tryz.ntmps97
  go_wp2
  go_ret
  exact ⟨rfl, rfl⟩
theorem xrows_57 (w : World) : Calls Tryz.prog 61 #[.int .u8 57] w fun e w' => e = .returned (.string (bS (Gl.txt 57))) ∧ w = w' := by
  rw [show bS (Gl.txt 57) = ⟨#[48, 49, 49, 49, 48, 32, 49, 48, 48, 48, 49, 32, 49, 48, 48, 48, 49, 32, 48, 49, 49, 49, 49, 32, 48, 48, 48, 48, 49, 32, 48, 48, 48, 49, 48, 32, 48, 49, 49, 48, 48]⟩ from by kernel_rfl]
  have h := xsub_57
  go_enter Tryz.func61, Tryz.ntmps61
  go_wp2_with fail
  refine (h _).mono ?_
  rintro e w1 ⟨rfl, rfl⟩
  go_wp2
  go_ret
  exact ⟨rfl, rfl⟩
theorem xsub_58 (w : World) : Calls Tryz.prog 97 #[.int .u8 58] w fun e w' => e = .returned (.string ⟨#[48, 48, 48, 48, 48, 32, 49, 49, 48, 48, 48, 32, 49, 49, 48, 48, 48, 32, 48, 48, 48, 48, 48, 32, 49, 49, 48, 48, 48, 32, 49, 49, 48, 48, 48, 32, 48, 48, 48, 48, 48]⟩) ∧ w = w' := by
  go_enter Tryz.func97, Tryz.ntmps97
  go_wp2
  go_ret
  exact ⟨rfl, rfl⟩
theorem xrows_58 (w : World) : Calls Tryz.prog 61 #[.int .u8 58] w fun e w' => e = .returned (.string (bS (Gl.txt 58))) ∧ w = w' := by
  rw [show bS (Gl.txt 58) = ⟨#[48, 48, 48, 48, 48, 32, 49, 49, 48, 48, 48, 32, 49, 49, 48, 48, 48, 32, 48, 48, 48, 48, 48, 32, 49, 49, 48, 48, 48, 32, 49, 49, 48, 48, 48, 32, 48, 48, 48, 48, 48]⟩ from by kernel_rfl]
  have h := xsub_58
  go_enter Tryz.func61, Tryz.ntmps61
  go_wp2_with fail
  refine (h _).mono ?_
  rintro e w1 ⟨rfl, rfl⟩
  go_wp2
  go_ret
  exact ⟨rfl, rfl⟩
theorem xsub_59 (w : World) : Calls Tryz.prog 97 #[.int .u8 59] w fun e w' => e = .returned (.string ⟨#[48, 48, 48, 48, 48, 32, 49, 49, 48, 48, 48, 32, 49, 49, 48, 48, 48, 32, 48, 48, 48, 48, 48, 32, 49, 49, 48, 48, 48, 32, 48, 49, 48, 48, 48, 32, 49, 48, 48, 48, 48]⟩) ∧ w = w' := by
  go_enter Tryz.func97, Tryz.ntmps97
  go_wp2
  go_ret
  exact ⟨rfl, rfl⟩
theorem xrows_59 (w : World) : Calls Tryz.prog 61 #[.int .u8 59] w fun e w' => e = .returned (.string (bS (Gl.txt 59))) ∧ w = w' := by
  rw [show bS (Gl.txt 59) = ⟨#[48, 48, 48, 48, 48, 32, 49, 49, 48, 48, 48, 32, 49, 49, 48, 48, 48, 32, 48, 48, 48, 48, 48, 32, 49, 49, 48, 48, 48, 32, 48, 49, 48, 48, 48, 32, 49, 48, 48, 48, 48]⟩ from by kernel_rfl]
  have h := xsub_59
  go_enter Tryz.func61, Tryz.ntmps61
  go_wp2_with fail
  refine (h _).mono ?_
  rintro e w1 ⟨rfl, rfl⟩
  go_wp2
  go_ret
  exact ⟨rfl, rfl⟩
theorem xsub_60 (w : World) : Calls Tryz.prog 97 #[.int .u8 60] w fun e w' => e = .returned (.string ⟨#[48, 48, 48, 49, 48, 32, 48, 48, 49, 48, 48, 32, 48, 49, 48, 48, 48, 32, 49, 48, 48, 48, 48, 32, 48, 49, 48, 48, 48, 32, 48, 48, 49, 48, 48, 32, 48, 48, 48, 49, 48]⟩) ∧ w = w' := by
  go_enter Tryz.func97, Tryz.ntmps97
  go_wp2
  go_ret
  exact ⟨rfl, rfl⟩
theorem xrows_60 (w : World) : Calls Tryz.prog 61 #[.int .u8 60] w fun e w' => e = .returned (.string (bS (Gl.txt 60))) ∧ w = w' := by
  rw [show bS (Gl.txt 60) = ⟨#[48, 48, 48, 49, 48, 32, 48, 48, 49, 48, 48, 32, 48, 49, 48, 48, 48, 32, 49, 48, 48, 48, 48, 32, 48, 49, 48, 48, 48, 32, 48, 48, 49, 48, 48, 32, 48, 48, 48, 49, 48]⟩ from by kernel_rfl]
  have h := xsub_60
  go_enter Tryz.func61, Tryz.ntmps61
  go_wp2_with fail
  refine (h _).mono ?_
  rintro e w1 ⟨rfl, rfl⟩
  go_wp2
  go_ret
  exact ⟨rfl, rfl⟩
theorem xsub_61 (w : World) : Calls Tryz.prog 97 #[.int .u8 61] w fun e w' => e = .returned (.string ⟨#[48, 48, 48, 48, 48, 32, 48, 48, 48, 48, 48, 32, 49, 49, 49, 49, 49, 32, 48, 48, 48, 48, 48, 32, 49, 49, 49, 49, 49, 32, 48, 48, 48, 48, 48, 32, 48, 48, 48, 48, 48]⟩) ∧ w = w' := by
  go_enter Tryz.func97, Tryz.ntmps97
  go_wp2
  go_ret
  exact ⟨rfl, rfl⟩
theorem xrows_61 (w : World) : Calls Tryz.prog 61 #[.int .u8 61] w fun e w' => e = .returned (.string (bS (Gl.txt 61))) ∧ w = w' := by
  rw [show bS (Gl.txt 61) = ⟨#[48, 48, 48, 48, 48, 32, 48, 48, 48, 48, 48, 32, 49, 49, 49, 49, 49, 32, 48, 48, 48, 48, 48, 32, 49, 49, 49, 49, 49, 32, 48, 48, 48, 48, 48, 32, 48, 48, 48, 48, 48]⟩ from by kernel_rfl]
  have h := xsub_61
  go_enter Tryz.func61, Tryz.ntmps61
  go_wp2_with fail
  refine (h _).mono ?_
  rintro e w1 ⟨rfl, rfl⟩
  go_wp2
  go_ret
  exact ⟨rfl, rfl⟩
theorem xsub_62 (w : World) : Calls Tryz.prog 97 #[.int .u8 62] w fun e w' => e = .returned (.string ⟨#[49, 48, 48, 48, 48, 32, 48, 49, 48, 48, 48, 32, 48, 48, 49, 48, 48, 32, 48, 48, 48, 49, 48, 32, 48, 48, 49, 48, 48, 32, 48, 49, 48, 48, 48, 32, 49, 48, 48, 48, 48]⟩) ∧ w = w' := by
  go_enter Tryz.func97, Tryz.ntmps97
  go_wp2
  go_ret
  exact ⟨rfl, rfl⟩
theorem xrows_62 (w : World) : Calls Tryz.prog 61 #[.int .u8 62] w fun e w' => e = .returned (.string (bS (Gl.txt 62))) ∧ w = w' := by
  rw [show bS (Gl.txt 62) = ⟨#[49, 48, 48, 48, 48, 32, 48, 49, 48, 48, 48, 32, 48, 48, 49, 48, 48, 32, 48, 48, 48, 49, 48, 32, 48, 48, 49, 48, 48, 32, 48, 49, 48, 48, 48, 32, 49, 48, 48, 48, 48]⟩ from by kernel_rfl]
  have h := xsub_62
  go_enter Tryz.func61, Tryz.ntmps61
  go_wp2_with fail
  refine (h _).mono ?_
  rintro e w1 ⟨rfl, rfl⟩
  go_wp2
  go_ret
  exact ⟨rfl, rfl⟩
theorem xsub_63 (w : World) : Calls Tryz.prog 97 #[.int .u8 63] w fun e w' => e = .returned (.string ⟨#[48, 49, 49, 49, 48, 32, 49, 48, 48, 48, 49, 32, 48, 48, 48, 48, 49, 32, 48, 48, 48, 49, 48, 32, 48, 48, 49, 48, 48, 32, 48, 48, 48, 48, 48, 32, 48, 48, 49, 48, 48]⟩) ∧ w = w' := by
  go_enter Tryz.func97, Tryz.ntmps97
  go_wp2
  go_ret
  exact ⟨rfl, rfl⟩
theorem xrows_63 (w : World) : Calls Tryz.prog 61 #[.int .u8 63] w fun e w' => e = .returned (.string (bS (Gl.txt 63))) ∧ w = w' := by
  rw [show bS (Gl.txt 63) = ⟨#[48, 49, 49, 49, 48, 32, 49, 48, 48, 48, 49, 32, 48, 48, 48, 48, 49, 32, 48, 48, 48, 49, 48, 32, 48, 48, 49, 48, 48, 32, 48, 48, 48, 48, 48, 32, 48, 48, 49, 48, 48]⟩ from by kernel_rfl]
  have h := xsub_63
  go_enter Tryz.func61, Tryz.ntmps61
  go_wp2_with fail
  refine (h _).mono ?_
  rintro e w1 ⟨rfl, rfl⟩
  go_wp2
  go_ret
  exact ⟨rfl, rfl⟩
theorem xsub_64 (w : World) : Calls Tryz.prog 97 #[.int .u8 64] w fun e w' => e = .returned (.string ⟨#[48, 49, 49, 49, 48, 32, 49, 48, 48, 48, 49, 32, 49, 48, 49, 49, 49, 32, 49, 48, 49, 48, 49, 32, 49, 48, 49, 49, 49, 32, 49, 48, 48, 48, 48, 32, 48, 49, 49, 49, 48]⟩) ∧ w = w' := by
  go_enter Tryz.func97, Tryz.ntmps97
  go_wp2
  go_ret
  exact ⟨rfl, rfl⟩
theorem xrows_64 (w : World) : Calls Tryz.prog 61 #[.int .u8 64] w fun e w' => e = .returned (.string (bS (Gl.txt 64))) ∧ w = w' := by
  rw [show bS (Gl.txt 64) = ⟨#[48, 49, 49, 49, 48, 32, 49, 48, 48, 48, 49, 32, 49, 48, 49, 49, 49, 32, 49, 48, 49, 48, 49, 32, 49, 48, 49, 49, 49, 32, 49, 48, 48, 48, 48, 32, 48, 49, 49, 49, 48]⟩ from by kernel_rfl]
  have h := xsub_64
  go_enter Tryz.func61, Tryz.ntmps61
  go_wp2_with fail
  refine (h _).mono ?_
  rintro e w1 ⟨rfl, rfl⟩
  go_wp2
  go_ret
  exact ⟨rfl, rfl⟩
theorem xsub_65 (w : World) : Calls Tryz.prog 98 #[.int .u8 65] w fun e w' => e = .returned (.string ⟨#[48, 49, 49, 49, 48, 32, 49, 48, 48, 48, 49, 32, 49, 48, 48, 48, 49, 32, 49, 49, 49, 49, 49, 32, 49, 48, 48, 48, 49, 32, 49, 48, 48, 48, 49, 32, 49, 48, 48, 48, 49]⟩) ∧ w = w' := by
  go_enter Tryz.func98, Tryz.ntmps98
  go_wp2
  go_ret
  exact ⟨rfl, rfl⟩
theorem xrows_65 (w : World) : Calls Tryz.prog 61 #[.int .u8 65] w fun e w' => e = .returned (.string (bS (Gl.txt 65))) ∧ w = w' := by
  rw [show bS (Gl.txt 65) = ⟨#[48, 49, 49, 49, 48, 32, 49, 48, 48, 48, 49, 32, 49, 48, 48, 48, 49, 32, 49, 49, 49, 49, 49, 32, 49, 48, 48, 48, 49, 32, 49, 48, 48, 48, 49, 32, 49, 48, 48, 48, 49]⟩ from by kernel_rfl]
  have h := xsub_65
  go_enter Tryz.func61, Tryz.ntmps61
  go_wp2_with fail
  refine (h _).mono ?_
  rintro e w1 ⟨rfl, rfl⟩
  go_wp2
  go_ret
  exact ⟨rfl, rfl⟩
theorem xsub_66 (w : World) : Calls Tryz.prog 98 #[.int .u8 66] w fun e w' => e = .returned (.string ⟨#[49, 49, 49, 49, 48, 32, 49, 48, 48, 48, 49, 32, 49, 48, 48, 48, 49, 32, 49, 49, 49, 49, 48, 32, 49, 48, 48, 48, 49, 32, 49, 48, 48, 48, 49, 32, 49, 49, 49, 49, 48]⟩) ∧ w = w' := by
  go_enter Tryz.func98, Tryz.ntmps98
  go_wp2
  go_ret
  exact ⟨rfl, rfl⟩
theorem xrows_66 (w : World) : Calls Tryz.prog 61 #[.int .u8 66] w fun e w' => e = .returned (.string (bS (Gl.txt 66))) ∧ w = w' := by
  rw [show bS (Gl.txt 66) = ⟨#[49, 49, 49, 49, 48, 32, 49, 48, 48, 48, 49, 32, 49, 48, 48, 48, 49, 32, 49, 49, 49, 49, 48, 32, 49, 48, 48, 48, 49, 32, 49, 48, 48, 48, 49, 32, 49, 49, 49, 49, 48]⟩ from by kernel_rfl]
  have h := xsub_66
  go_enter Tryz.func61, Tryz.ntmps61
  go_wp2_with fail
  refine (h _).mono ?_
  rintro e w1 ⟨rfl, rfl⟩
  go_wp2
  go_ret
  exact ⟨rfl, rfl⟩
theorem xsub_67 (w : World) : Calls Tryz.prog 98 #[.int .u8 67] w fun e w' => e = .returned (.string ⟨#[48, 49, 49, 49, 49, 32, 49, 48, 48, 48, 48, 32, 49, 48, 48, 48, 48, 32, 49, 48, 48, 48, 48, 32, 49, 48, 48, 48, 48, 32, 49, 48, 48, 48, 48, 32, 48, 49, 49, 49, 49]⟩) ∧ w = w' := by
  go_enter Tryz.func98, Tryz.ntmps98
  go_wp2
  go_ret
  exact ⟨rfl, rfl⟩
theorem xrows_67 (w : World) : Calls Tryz.prog 61 #[.int .u8 67] w fun e w' => e = .returned (.string (bS (Gl.txt 67))) ∧ w = w' := by
  rw [show bS (Gl.txt 67) = ⟨#[48, 49, 49, 49, 49, 32, 49, 48, 48, 48, 48, 32, 49, 48, 48, 48, 48, 32, 49, 48, 48, 48, 48, 32, 49, 48, 48, 48, 48, 32, 49, 48, 48, 48, 48, 32, 48, 49, 49, 49, 49]⟩ from by kernel_rfl]
  have h := xsub_67
  go_enter Tryz.func61, Tryz.ntmps61
  go_wp2_with fail
  refine (h _).mono ?_
  rintro e w1 ⟨rfl, rfl⟩
  go_wp2
  go_ret
  exact ⟨rfl, rfl⟩
theorem xsub_68 (w : World) : Calls Tryz.prog 98 #[.int .u8 68] w fun e w' => e = .returned (.string ⟨#[49, 49, 49, 48, 48, 32, 49, 48, 48, 49, 48, 32, 49, 48, 48, 48, 49, 32, 49, 48, 48, 48, 49, 32, 49, 48, 48, 48, 49, 32, 49, 48, 48, 49, 48, 32, 49, 49, 49, 48, 48]⟩) ∧ w = w' := by
  go_enter Tryz.func98, Tryz.ntmps98
  go_wp2
  go_ret
  exact ⟨rfl, rfl⟩
theorem xrows_68 (w : World) : Calls Tryz.prog 61 #[.int .u8 68] w fun e w' => e = .returned (.string (bS (Gl.txt 68))) ∧ w = w' := by
  rw [show bS (Gl.txt 68) = ⟨#[49, 49, 49, 48, 48, 32, 49, 48, 48, 49, 48, 32, 49, 48, 48, 48, 49, 32, 49, 48, 48, 48, 49, 32, 49, 48, 48, 48, 49, 32, 49, 48, 48, 49, 48, 32, 49, 49, 49, 48, 48]⟩ from by kernel_rfl]
  have h := xsub_68
  go_enter Tryz.func61, Tryz.ntmps61
  go_wp2_with fail
  refine (h _).mono ?_
  rintro e w1 ⟨rfl, rfl⟩
  go_wp2
  go_ret
  exact ⟨rfl, rfl⟩
theorem xsub_69 (w : World) : Calls Tryz.prog 98 #[.int .u8 69] w fun e w' => e = .returned (.string ⟨#[49, 49, 49, 49, 49, 32, 49, 48, 48, 48, 48, 32, 49, 48, 48, 48, 48, 32, 49, 49, 49, 49, 48, 32, 49, 48, 48, 48, 48, 32, 49, 48, 48, 48, 48, 32, 49, 49, 49, 49, 49]⟩) ∧ w = w' := by
  go_enter Tryz.func98, Tryz.ntmps98
  go_wp2
  go_ret
  exact ⟨rfl, rfl⟩
theorem xrows_69 (w : World) : Calls Tryz.prog 61 #[.int .u8 69] w fun e w' => e = .returned (.string (bS (Gl.txt 69))) ∧ w = w' := by
  rw [show bS (Gl.txt 69) = ⟨#[49, 49, 49, 49, 49, 32, 49, 48, 48, 48, 48, 32, 49, 48, 48, 48, 48, 32, 49, 49, 49, 49, 48, 32, 49, 48, 48, 48, 48, 32, 49, 48, 48, 48, 48, 32, 49, 49, 49, 49, 49]⟩ from by kernel_rfl]
  have h := xsub_69
  go_enter Tryz.func61, Tryz.ntmps61
  go_wp2_with fail
  refine (h _).mono ?_
  rintro e w1 ⟨rfl, rfl⟩
  go_wp2
  go_ret
  exact ⟨rfl, rfl⟩
theorem xsub_70 (w : World) : Calls Tryz.prog 98 #[.int .u8 70] w fun e w' => e = .returned (.string ⟨#[49, 49, 49, 49, 49, 32, 49, 48, 48, 48, 48, 32, 49, 48, 48, 48, 48, 32, 49, 49, 49, 48, 48, 32, 49, 48, 48, 48, 48, 32, 49, 48, 48, 48, 48, 32, 49, 48, 48, 48, 48]⟩) ∧ w = w' := by
  go_enter Tryz.func98, Tryz.ntmps98
  go_wp2
  go_ret
  exact ⟨rfl, rfl⟩
theorem xrows_70 (w : World) : Calls Tryz.prog 61 #[.int .u8 70] w fun e w' => e = .returned (.string (bS (Gl.txt 70))) ∧ w = w' := by
  rw [show bS (Gl.txt 70) = ⟨#[49, 49, 49, 49, 49, 32, 49, 48, 48, 48, 48, 32, 49, 48, 48, 48, 48, 32, 49, 49, 49, 48, 48, 32, 49, 48, 48, 48, 48, 32, 49, 48, 48, 48, 48, 32, 49, 48, 48, 48, 48]⟩ from by kernel_rfl]
  have h := xsub_70
  go_enter Tryz.func61, Tryz.ntmps61
  go_wp2_with fail
  refine (h _).mono ?_
  rintro e w1 ⟨rfl, rfl⟩
  go_wp2
  go_ret
  exact ⟨rfl, rfl⟩
theorem xsub_71 (w : World) : Calls Tryz.prog 98 #[.int .u8 71] w fun e w' => e = .returned (.string ⟨#[48, 49, 49, 49, 48, 32, 49, 48, 48, 48, 49, 32, 49, 48, 48, 48, 48, 32, 49, 48, 49, 49, 49, 32, 49, 48, 48, 48, 49, 32, 49, 48, 48, 48, 49, 32, 48, 49, 49, 49, 49]⟩) ∧ w = w' := by
  go_enter Tryz.func98, Tryz.ntmps98
  go_wp2
  go_ret
  exact ⟨rfl, rfl⟩
theorem xrows_71 (w : World) : Calls Tryz.prog 61 #[.int .u8 71] w fun e w' => e = .returned (.string (bS (Gl.txt 71))) ∧ w = w' := by
  rw [show bS (Gl.txt 71) = ⟨#[48, 49, 49, 49, 48, 32, 49, 48, 48, 48, 49, 32, 49, 48, 48, 48, 48, 32, 49, 48, 49, 49, 49, 32, 49, 48, 48, 48, 49, 32, 49, 48, 48, 48, 49, 32, 48, 49, 49, 49, 49]⟩ from by kernel_rfl]
  have h := xsub_71
  go_enter Tryz.func61, Tryz.ntmps61
  go_wp2_with fail
  refine (h _).mono ?_
  rintro e w1 ⟨rfl, rfl⟩
  go_wp2
  go_ret
  exact ⟨rfl, rfl⟩
theorem xsub_72 (w : World) : Calls Tryz.prog 98 #[.int .u8 72] w fun e w' => e = .returned (.string ⟨#[49, 48, 48, 48, 49, 32, 49, 48, 48, 48, 49, 32, 49, 48, 48, 48, 49, 32, 49, 49, 49, 49, 49, 32, 49, 48, 48, 48, 49, 32, 49, 48, 48, 48, 49, 32, 49, 48, 48, 48, 49]⟩) ∧ w = w' := by
  go_enter Tryz.func98, Tryz.ntmps98
  go_wp2
  go_ret
  exact ⟨rfl, rfl⟩
theorem xrows_72 (w : World) : Calls Tryz.prog 61 #[.int .u8 72] w fun e w' => e = .returned (.string (bS (Gl.txt 72))) ∧ w = w' := by
  rw [show bS (Gl.txt 72) = ⟨#[49, 48, 48, 48, 49, 32, 49, 48, 48, 48, 49, 32, 49, 48, 48, 48, 49, 32, 49, 49, 49, 49, 49, 32, 49, 48, 48, 48, 49, 32, 49, 48, 48, 48, 49, 32, 49, 48, 48, 48, 49]⟩ from by kernel_rfl]
  have h := xsub_72
  go_enter Tryz.func61, Tryz.ntmps61
  go_wp2_with fail
  refine (h _).mono ?_
  rintro e w1 ⟨rfl, rfl⟩
  go_wp2
  go_ret
  exact ⟨rfl, rfl⟩
theorem xsub_73 (w : World) : Calls Tryz.prog 98 #[.int .u8 73] w fun e w' => e = .returned (.string ⟨#[49, 49, 49, 49, 49, 32, 48, 48, 49, 48, 48, 32, 48, 48, 49, 48, 48, 32, 48, 48, 49, 48, 48, 32, 48, 48, 49, 48, 48, 32, 48, 48, 49, 48, 48, 32, 49, 49, 49, 49, 49]⟩) ∧ w = w' := by
  go_enter Tryz.func98, Tryz.ntmps98
  go_wp2
  go_ret
  exact ⟨rfl, rfl⟩
theorem xrows_73 (w : World) : Calls Tryz.prog 61 #[.int .u8 73] w fun e w' => e = .returned (.string (bS (Gl.txt 73))) ∧ w = w' := by
  rw [show bS (Gl.txt 73) = ⟨#[49, 49, 49, 49, 49, 32, 48, 48, 49, 48, 48, 32, 48, 48, 49, 48, 48, 32, 48, 48, 49, 48, 48, 32, 48, 48, 49, 48, 48, 32, 48, 48, 49, 48, 48, 32, 49, 49, 49, 49, 49]⟩ from by kernel_rfl]
  have h := xsub_73
  go_enter Tryz.func61, Tryz.ntmps61
  go_wp2_with fail
  refine (h _).mono ?_
  rintro e w1 ⟨rfl, rfl⟩
  go_wp2
  go_ret
  exact ⟨rfl, rfl⟩
theorem xsub_74 (w : World) : Calls Tryz.prog 98 #[.int .u8 74] w fun e w' => e = .returned (.string ⟨#[48, 48, 49, 49, 49, 32, 48, 48, 48, 49, 48, 32, 48, 48, 48, 49, 48, 32, 48, 48, 48, 49, 48, 32, 48, 48, 48, 49, 48, 32, 49, 48, 48, 49, 48, 32, 48, 49, 49, 48, 48]⟩) ∧ w = w' := by
  go_enter Tryz.func98, Tryz.ntmps98
  go_wp2
  go_ret
  exact ⟨rfl, rfl⟩
theorem xrows_74 (w : World) : Calls Tryz.prog 61 #[.int .u8 74] w fun e w' => e = .returned (.string (bS (Gl.txt 74))) ∧ w = w' := by
  rw [show bS (Gl.txt 74) = ⟨#[48, 48, 49, 49, 49, 32, 48, 48, 48, 49, 48, 32, 48, 48, 48, 49, 48, 32, 48, 48, 48, 49, 48, 32, 48, 48, 48, 49, 48, 32, 49, 48, 48, 49, 48, 32, 48, 49, 49, 48, 48]⟩ from by kernel_rfl]
  have h := xsub_74
  go_enter Tryz.func61, Tryz.ntmps61
  go_wp2_with fail
  refine (h _).mono ?_
  rintro e w1 ⟨rfl, rfl⟩
  go_wp2
  go_ret
  exact ⟨rfl, rfl⟩
theorem xsub_75 (w : World) : Calls Tryz.prog 98 #[.int .u8 75] w fun e w' => e = .returned (.string ⟨#[49, 48, 48, 48, 49, 32, 49, 48, 48, 49, 48, 32, 49, 48, 49, 48, 48, 32, 49, 49, 48, 48, 48, 32, 49, 48, 49, 48, 48, 32, 49, 48, 48, 49, 48, 32, 49, 48, 48, 48, 49]⟩) ∧ w = w' := by
  go_enter Tryz.func98, Tryz.ntmps98
  go_wp2
  go_ret
  exact ⟨rfl, rfl⟩
theorem xrows_75 (w : World) : Calls Tryz.prog 61 #[.int .u8 75] w fun e w' => e = .returned (.string (bS (Gl.txt 75))) ∧ w = w' := by
  rw [show bS (Gl.txt 75) = ⟨#[49, 48, 48, 48, 49, 32, 49, 48, 48, 49, 48, 32, 49, 48, 49, 48, 48, 32, 49, 49, 48, 48, 48, 32, 49, 48, 49, 48, 48, 32, 49, 48, 48, 49, 48, 32, 49, 48, 48, 48, 49]⟩ from by kernel_rfl]
  have h := xsub_75
  go_enter Tryz.func61, Tryz.ntmps61
  go_wp2_with fail
  refine (h _).mono ?_
  rintro e w1 ⟨rfl, rfl⟩
  go_wp2
  go_ret
  exact ⟨rfl, rfl⟩
theorem xsub_76 (w : World) : Calls Tryz.prog 98 #[.int .u8 76] w fun e w' => e = .returned (.string ⟨#[49, 48, 48, 48, 48, 32, 49, 48, 48, 48, 48, 32, 49, 48, 48, 48, 48, 32, 49, 48, 48, 48, 48, 32, 49, 48, 48, 48, 48, 32, 49, 48, 48, 48, 48, 32, 49, 49, 49, 49, 49]⟩) ∧ w = w' := by
  go_enter Tryz.func98, Tryz.ntmps98
  go_wp2
  go_ret
  exact ⟨rfl, rfl⟩
theorem xrows_76 (w : World) : Calls Tryz.prog 61 #[.int .u8 76] w fun e w' => e = .returned (.string (bS (Gl.txt 76))) ∧ w = w' := by
  rw [show bS (Gl.txt 76) = ⟨#[49, 48, 48, 48, 48, 32, 49, 48, 48, 48, 48, 32, 49, 48, 48, 48, 48, 32, 49, 48, 48, 48, 48, 32, 49, 48, 48, 48, 48, 32, 49, 48, 48, 48, 48, 32, 49, 49, 49, 49, 49]⟩ from by kernel_rfl]
  have h := xsub_76
  go_enter Tryz.func61, Tryz.ntmps61
  go_wp2_with fail
  refine (h _).mono ?_
  rintro e w1 ⟨rfl, rfl⟩
  go_wp2
  go_ret
  exact ⟨rfl, rfl⟩
theorem xsub_77 (w : World) : Calls Tryz.prog 98 #[.int .u8 77] w fun e w' => e = .returned (.string ⟨#[49, 48, 48, 48, 49, 32, 49, 49, 48, 49, 49, 32, 49, 48, 49, 48, 49, 32, 49, 48, 49, 48, 49, 32, 49, 48, 48, 48, 49, 32, 49, 48, 48, 48, 49, 32, 49, 48, 48, 48, 49]⟩) ∧ w = w' := by
  go_enter Tryz.func98, Tryz.ntmps98
  go_wp2
  go_ret
  exact ⟨rfl, rfl⟩
theorem xrows_77 (w : World) : Calls Tryz.prog 61 #[.int .u8 77] w fun e w' => e = .returned (.string (bS (Gl.txt 77))) ∧ w = w' := by
  rw [show bS (Gl.txt 77) = ⟨#[49, 48, 48, 48, 49, 32, 49, 49, 48, 49, 49, 32, 49, 48, 49, 48, 49, 32, 49, 48, 49, 48, 49, 32, 49, 48, 48, 48, 49, 32, 49, 48, 48, 48, 49, 32, 49, 48, 48, 48, 49]⟩ from by kernel_rfl]
  have h := xsub_77
  go_enter Tryz.func61, Tryz.ntmps61
  go_wp2_with fail
  refine (h _).mono ?_
  rintro e w1 ⟨rfl, rfl⟩
  go_wp2
  go_ret
  exact ⟨rfl, rfl⟩
theorem xsub_78 (w : World) : Calls Tryz.prog 99 #[.int .u8 78] w fun e w' => e = .returned (.string ⟨#[49, 48, 48, 48, 49, 32, 49, 48, 48, 48, 49, 32, 49, 49, 48, 48, 49, 32, 49, 48, 49, 48, 49, 32, 49, 48, 48, 49, 49, 32, 49, 48, 48, 48, 49, 32, 49, 48, 48, 48, 49]⟩) ∧ w = w' := by
  go_enter Tryz.func99, Tryz.ntmps99
  go_wp2
  go_ret
  exact ⟨rfl, rfl⟩
theorem xrows_78 (w : World) : Calls Tryz.prog 61 #[.int .u8 78] w fun e w' => e = .returned (.string (bS (Gl.txt 78))) ∧ w = w' := by
  rw [show bS (Gl.txt 78) = ⟨#[49, 48, 48, 48, 49, 32, 49, 48, 48, 48, 49, 32, 49, 49, 48, 48, 49, 32, 49, 48, 49, 48, 49, 32, 49, 48, 48, 49, 49, 32, 49, 48, 48, 48, 49, 32, 49, 48, 48, 48, 49]⟩ from by kernel_rfl]
  have h := xsub_78
  go_enter Tryz.func61, Tryz.ntmps61
  go_wp2_with fail
  refine (h _).mono ?_
  rintro e w1 ⟨rfl, rfl⟩
  go_wp2
  go_ret
  exact ⟨rfl, rfl⟩
theorem xsub_79 (w : World) : Calls Tryz.prog 99 #[.int .u8 79] w fun e w' => e = .returned (.string ⟨#[48, 49, 49, 49, 48, 32, 49, 48, 48, 48, 49, 32, 49, 48, 48, 48, 49, 32, 49, 48, 48, 48, 49, 32, 49, 48, 48, 48, 49, 32, 49, 48, 48, 48, 49, 32, 48, 49, 49, 49, 48]⟩) ∧ w = w' := by
  go_enter Tryz.func99, Tryz.ntmps99
  go_wp2
  go_ret
  exact ⟨rfl, rfl⟩
theorem xrows_79 (w : World) : Calls Tryz.prog 61 #[.int .u8 79] w fun e w' => e = .returned (.string (bS (Gl.txt 79))) ∧ w = w' := by
  rw [show bS (Gl.txt 79) = ⟨#[48, 49, 49, 49, 48, 32, 49, 48, 48, 48, 49, 32, 49, 48, 48, 48, 49, 32, 49, 48, 48, 48, 49, 32, 49, 48, 48, 48, 49, 32, 49, 48, 48, 48, 49, 32, 48, 49, 49, 49, 48]⟩ from by kernel_rfl]
  have h := xsub_79
  go_enter Tryz.func61, Tryz.ntmps61
  go_wp2_with fail
  refine (h _).mono ?_
  rintro e w1 ⟨rfl, rfl⟩
  go_wp2
  go_ret
  exact ⟨rfl, rfl⟩
theorem xsub_80 (w : World) : Calls Tryz.prog 99 #[.int .u8 80] w fun e w' => e = .returned (.string ⟨#[49, 49, 49, 49, 48, 32, 49, 48, 48, 48, 49, 32, 49, 48, 48, 48, 49, 32, 49, 49, 49, 49, 48, 32, 49, 48, 48, 48, 48, 32, 49, 48, 48, 48, 48, 32, 49, 48, 48, 48, 48]⟩) ∧ w = w' := by
  go_enter Tryz.func99, Tryz.ntmps99
  go_wp2
  go_ret
  exact ⟨rfl, rfl⟩
theorem xrows_80 (w : World) : Calls Tryz.prog 61 #[.int .u8 80] w fun e w' => e = .returned (.string (bS (Gl.txt 80))) ∧ w = w' := by
  rw [show bS (Gl.txt 80) = ⟨#[49, 49, 49, 49, 48, 32, 49, 48, 48, 48, 49, 32, 49, 48, 48, 48, 49, 32, 49, 49, 49, 49, 48, 32, 49, 48, 48, 48, 48, 32, 49, 48, 48, 48, 48, 32, 49, 48, 48, 48, 48]⟩ from by kernel_rfl]
  have h := xsub_80
  go_enter Tryz.func61, Tryz.ntmps61
  go_wp2_with fail
  refine (h _).mono ?_
  rintro e w1 ⟨rfl, rfl⟩
  go_wp2
  go_ret
  exact ⟨rfl, rfl⟩
theorem xsub_81 (w : World) : Calls Tryz.prog 99 #[.int .u8 81] w fun e w' => e = .returned (.string ⟨#[48, 49, 49, 49, 48, 32, 49, 48, 48, 48, 49, 32, 49, 48, 48, 48, 49, 32, 49, 48, 48, 48, 49, 32, 49, 48, 49, 48, 49, 32, 49, 48, 48, 49, 48, 32, 48, 49, 49, 48, 49]⟩) ∧ w = w' := by
  go_enter Tryz.func99, Tryz.ntmps99
  go_wp2
  go_ret
  exact ⟨rfl, rfl⟩
theorem xrows_81 (w : World) : Calls Tryz.prog 61 #[.int .u8 81] w fun e w' => e = .returned (.string (bS (Gl.txt 81))) ∧ w = w' := by
  rw [show bS (Gl.txt 81) = ⟨#[48, 49, 49, 49, 48, 32, 49, 48, 48, 48, 49, 32, 49, 48, 48, 48, 49, 32, 49, 48, 48, 48, 49, 32, 49, 48, 49, 48, 49, 32, 49, 48, 48, 49, 48, 32, 48, 49, 49, 48, 49]⟩ from by kernel_rfl]
  have h := xsub_81
  go_enter Tryz.func61, Tryz.ntmps61
  go_wp2_with fail
  refine (h _).mono ?_
  rintro e w1 ⟨rfl, rfl⟩
  go_wp2
  go_ret
  exact ⟨rfl, rfl⟩
theorem xsub_82 (w : World) : Calls Tryz.prog 99 #[.int .u8 82] w fun e w' => e = .returned (.string ⟨#[49, 49, 49, 49, 48, 32, 49, 48, 48, 48, 49, 32, 49, 48, 48, 48, 49, 32, 49, 49, 49, 49, 48, 32, 49, 48, 49, 49, 48, 32, 49, 48, 48, 49, 49, 32, 49, 48, 48, 48, 49]⟩) ∧ w = w' := by
  go_enter Tryz.func99, Tryz.ntmps99
  go_wp2
  go_ret
  exact ⟨rfl, rfl⟩
theorem xrows_82 (w : World) : Calls Tryz.prog 61 #[.int .u8 82] w fun e w' => e = .returned (.string (bS (Gl.txt 82))) ∧ w = w' := by
  rw [show bS (Gl.txt 82) = ⟨#[49, 49, 49, 49, 48, 32, 49, 48, 48, 48, 49, 32, 49, 48, 48, 48, 49, 32, 49, 49, 49, 49, 48, 32, 49, 48, 49, 49, 48, 32, 49, 48, 48, 49, 49, 32, 49, 48, 48, 48, 49]⟩ from by kernel_rfl]
  have h := xsub_82
  go_enter Tryz.func61, Tryz.ntmps61
  go_wp2_with fail
  refine (h _).mono ?_
  rintro e w1 ⟨rfl, rfl⟩
  go_wp2
  go_ret
  exact ⟨rfl, rfl⟩
theorem xsub_83 (w : World) : Calls Tryz.prog 99 #[.int .u8 83] w fun e w' => e = .returned (.string ⟨#[48, 49, 49, 49, 49, 32, 49, 48, 48, 48, 48, 32, 49, 48, 48, 48, 48, 32, 48, 49, 49, 49, 48, 32, 48, 48, 48, 48, 49, 32, 48, 48, 48, 48, 49, 32, 49, 49, 49, 49, 48]⟩) ∧ w = w' := by
  go_enter Tryz.func99, Tryz.ntmps99
  go_wp2
  go_ret
  exact ⟨rfl, rfl⟩
theorem xrows_83 (w : World) : Calls Tryz.prog 61 #[.int .u8 83] w fun e w' => e = .returned (.string (bS (Gl.txt 83))) ∧ w = w' := by
  rw [show bS (Gl.txt 83) = ⟨#[48, 49, 49, 49, 49, 32, 49, 48, 48, 48, 48, 32, 49, 48, 48, 48, 48, 32, 48, 49, 49, 49, 48, 32, 48, 48, 48, 48, 49, 32, 48, 48, 48, 48, 49, 32, 49, 49, 49, 49, 48]⟩ from by kernel_rfl]
  have h := xsub_83
  go_enter Tryz.func61, Tryz.ntmps61
  go_wp2_with fail
  refine (h _).mono ?_
  rintro e w1 ⟨rfl, rfl⟩
  go_wp2
  go_ret
  exact ⟨rfl, rfl⟩
theorem xsub_84 (w : World) : Calls Tryz.prog 99 #[.int .u8 84] w fun e w' => e = .returned (.string ⟨#[49, 49, 49, 49, 49, 32, 48, 48, 49, 48, 48, 32, 48, 48, 49, 48, 48, 32, 48, 48, 49, 48, 48, 32, 48, 48, 49, 48, 48, 32, 48, 48, 49, 48, 48, 32, 48, 48, 49, 48, 48]⟩) ∧ w = w' := by
  go_enter Tryz.func99, Tryz.ntmps99
  go_wp2
  go_ret
  exact ⟨rfl, rfl⟩
theorem xrows_84 (w : World) : Calls Tryz.prog 61 #[.int .u8 84] w fun e w' => e = .returned (.string (bS (Gl.txt 84))) ∧ w = w' := by
  rw [show bS (Gl.txt 84) = ⟨#[49, 49, 49, 49, 49, 32, 48, 48, 49, 48, 48, 32, 48, 48, 49, 48, 48, 32, 48, 48, 49, 48, 48, 32, 48, 48, 49, 48, 48, 32, 48, 48, 49, 48, 48, 32, 48, 48, 49, 48, 48]⟩ from by kernel_rfl]
  have h := xsub_84
  go_enter Tryz.func61, Tryz.ntmps61
  go_wp2_with fail
  refine (h _).mono ?_
  rintro e w1 ⟨rfl, rfl⟩
  go_wp2
  go_ret
  exact ⟨rfl, rfl⟩
theorem xsub_85 (w : World) : Calls Tryz.prog 99 #[.int .u8 85] w fun e w' => e = .returned (.string ⟨#[49, 48, 48, 48, 49, 32, 49, 48, 48, 48, 49, 32, 49, 48, 48, 48, 49, 32, 49, 48, 48, 48, 49, 32, 49, 48, 48, 48, 49, 32, 49, 48, 48, 48, 49, 32, 48, 49, 49, 49, 48]⟩) ∧ w = w' := by
  go_enter Tryz.func99, Tryz.ntmps99
  go_wp2
  go_ret
  exact ⟨rfl, rfl⟩
theorem xrows_85 (w : World) : Calls Tryz.prog 61 #[.int .u8 85] w fun e w' => e = .returned (.string (bS (Gl.txt 85))) ∧ w = w' := by
  rw [show bS (Gl.txt 85) = ⟨#[49, 48, 48, 48, 49, 32, 49, 48, 48, 48, 49, 32, 49, 48, 48, 48, 49, 32, 49, 48, 48, 48, 49, 32, 49, 48, 48, 48, 49, 32, 49, 48, 48, 48, 49, 32, 48, 49, 49, 49, 48]⟩ from by kernel_rfl]
  have h := xsub_85
  go_enter Tryz.func61, Tryz.ntmps61
  go_wp2_with fail
  refine (h _).mono ?_
  rintro e w1 ⟨rfl, rfl⟩
  go_wp2
  go_ret
  exact ⟨rfl, rfl⟩
theorem xsub_86 (w : World) : Calls Tryz.prog 99 #[.int .u8 86] w fun e w' => e = .returned (.string ⟨#[49, 48, 48, 48, 49, 32, 49, 48, 48, 48, 49, 32, 49, 48, 48, 48, 49, 32, 49, 48, 48, 48, 49, 32, 49, 48, 48, 48, 49, 32, 48, 49, 48, 49, 48, 32, 48, 48, 49, 48, 48]⟩) ∧ w = w' := by
  go_enter Tryz.func99, Tryz.ntmps99
  go_wp2
  go_ret
  exact ⟨rfl, rfl⟩
theorem xrows_86 (w : World) : Calls Tryz.prog 61 #[.int .u8 86] w fun e w' => e = .returned (.string (bS (Gl.txt 86))) ∧ w = w' := by
  rw [show bS (Gl.txt 86) = ⟨#[49, 48, 48, 48, 49, 32, 49, 48, 48, 48, 49, 32, 49, 48, 48, 48, 49, 32, 49, 48, 48, 48, 49, 32, 49, 48, 48, 48, 49, 32, 48, 49, 48, 49, 48, 32, 48, 48, 49, 48, 48]⟩ from by kernel_rfl]
  have h := xsub_86
  go_enter Tryz.func61, Tryz.ntmps61
  go_wp2_with fail
  refine (h _).mono ?_
  rintro e w1 ⟨rfl, rfl⟩
  go_wp2
  go_ret
  exact ⟨rfl, rfl⟩
theorem xsub_87 (w : World) : Calls Tryz.prog 99 #[.int .u8 87] w fun e w' => e = .returned (.string ⟨#[49, 48, 48, 48, 49, 32, 49, 48, 48, 48, 49, 32, 49, 48, 48, 48, 49, 32, 49, 48, 49, 48, 49, 32, 49, 48, 49, 48, 49, 32, 49, 49, 48, 49, 49, 32, 49, 48, 48, 48, 49]⟩) ∧ w = w' := by
  go_enter Tryz.func99, Tryz.ntmps99
  go_wp2
  go_ret
  exact ⟨rfl, rfl⟩
theorem xrows_87 (w : World) : Calls Tryz.prog 61 #[.int .u8 87] w fun e w' => e = .returned (.string (bS (Gl.txt 87))) ∧ w = w' := by
  rw [show bS (Gl.txt 87) = ⟨#[49, 48, 48, 48, 49, 32, 49, 48, 48, 48, 49, 32, 49, 48, 48, 48, 49, 32, 49, 48, 49, 48, 49, 32, 49, 48, 49, 48, 49, 32, 49, 49, 48, 49, 49, 32, 49, 48, 48, 48, 49]⟩ from by kernel_rfl]
  have h := xsub_87
  go_enter Tryz.func61, Tryz.ntmps61
  go_wp2_with fail
  refine (h _).mono ?_
  rintro e w1 ⟨rfl, rfl⟩
  go_wp2
  go_ret
  exact ⟨rfl, rfl⟩
theorem xsub_88 (w : World) : Calls Tryz.prog 99 #[.int .u8 88] w fun e w' => e = .returned (.string ⟨#[49, 48, 48, 48, 49, 32, 49, 48, 48, 48, 49, 32, 48, 49, 48, 49, 48, 32, 48, 48, 49, 48, 48, 32, 48, 49, 48, 49, 48, 32, 49, 48, 48, 48, 49, 32, 49, 48, 48, 48, 49]⟩) ∧ w = w' := by
  go_enter Tryz.func99, Tryz.ntmps99
  go_wp2
  go_ret
  exact ⟨rfl, rfl⟩
theorem xrows_88 (w : World) : Calls Tryz.prog 61 #[.int .u8 88] w fun e w' => e = .returned (.string (bS (Gl.txt 88))) ∧ w = w' := by
  rw [show bS (Gl.txt 88) = ⟨#[49, 48, 48, 48, 49, 32, 49, 48, 48, 48, 49, 32, 48, 49, 48, 49, 48, 32, 48, 48, 49, 48, 48, 32, 48, 49, 48, 49, 48, 32, 49, 48, 48, 48, 49, 32, 49, 48, 48, 48, 49]⟩ from by kernel_rfl]
  have h := xsub_88
  go_enter Tryz.func61, Tryz.ntmps61
  go_wp2_with fail
  refine (h _).mono ?_
  rintro e w1 ⟨rfl, rfl⟩
  go_wp2
  go_ret
  exact ⟨rfl, rfl⟩
theorem xsub_89 (w : World) : Calls Tryz.prog 99 #[.int .u8 89] w fun e w' => e = .returned (.string ⟨#[49, 48, 48, 48, 49, 32, 49, 48, 48, 48, 49, 32, 48, 49, 48, 49, 48, 32, 48, 48, 49, 48, 48, 32, 48, 48, 49, 48, 48, 32, 48, 48, 49, 48, 48, 32, 48, 48, 49, 48, 48]⟩) ∧ w = w' := by
  go_enter Tryz.func99, Tryz.ntmps99
  go_wp2
  go_ret
  exact ⟨rfl, rfl⟩
theorem xrows_89 (w : World) : Calls Tryz.prog 61 #[.int .u8 89] w fun e w' => e = .returned (.string (bS (Gl.txt 89))) ∧ w = w' := by
  rw [show bS (Gl.txt 89) = ⟨#[49, 48, 48, 48, 49, 32, 49, 48, 48, 48, 49, 32, 48, 49, 48, 49, 48, 32, 48, 48, 49, 48, 48, 32, 48, 48, 49, 48, 48, 32, 48, 48, 49, 48, 48, 32, 48, 48, 49, 48, 48]⟩ from by kernel_rfl]
  have h := xsub_89
  go_enter Tryz.func61, Tryz.ntmps61
  go_wp2_with fail
  refine (h _).mono ?_
  rintro e w1 ⟨rfl, rfl⟩
  go_wp2
  go_ret
  exact ⟨rfl, rfl⟩
theorem xsub_90 (w : World) : Calls Tryz.prog 99 #[.int .u8 90] w fun e w' => e = .returned (.string ⟨#[49, 49, 49, 49, 49, 32, 48, 48, 48, 48, 49, 32, 48, 48, 48, 49, 48, 32, 48, 48, 49, 48, 48, 32, 48, 49, 48, 48, 48, 32, 49, 48, 48, 48, 48, 32, 49, 49, 49, 49, 49]⟩) ∧ w = w' := by
  go_enter Tryz.func99, Tryz.ntmps99
  go_wp2
  go_ret
  exact ⟨rfl, rfl⟩
theorem xrows_90 (w : World) : Calls Tryz.prog 61 #[.int .u8 90] w fun e w' => e = .returned (.string (bS (Gl.txt 90))) ∧ w = w' := by
  rw [show bS (Gl.txt 90) = ⟨#[49, 49, 49, 49, 49, 32, 48, 48, 48, 48, 49, 32, 48, 48, 48, 49, 48, 32, 48, 48, 49, 48, 48, 32, 48, 49, 48, 48, 48, 32, 49, 48, 48, 48, 48, 32, 49, 49, 49, 49, 49]⟩ from by kernel_rfl]
  have h := xsub_90
  go_enter Tryz.func61, Tryz.ntmps61
  go_wp2_with fail
  refine (h _).mono ?_
  rintro e w1 ⟨rfl, rfl⟩
  go_wp2
  go_ret
  exact ⟨rfl, rfl⟩
theorem xsub_91 (w : World) : Calls Tryz.prog 99 #[.int .u8 91] w fun e w' => e = .returned (.string ⟨#[49, 49, 49, 48, 48, 32, 49, 48, 48, 48, 48, 32, 49, 48, 48, 48, 48, 32, 49, 48, 48, 48, 48, 32, 49, 48, 48, 48, 48, 32, 49, 48, 48, 48, 48, 32, 49, 49, 49, 48, 48]⟩) ∧ w = w' := by
  go_enter Tryz.func99, Tryz.ntmps99
  go_wp2
  go_ret
  exact ⟨rfl, rfl⟩
theorem xrows_91 (w : World) : Calls Tryz.prog 61 #[.int .u8 91] w fun e w' => e = .returned (.string (bS (Gl.txt 91))) ∧ w = w' := by
  rw [show bS (Gl.txt 91) = ⟨#[49, 49, 49, 48, 48, 32, 49, 48, 48, 48, 48, 32, 49, 48, 48, 48, 48, 32, 49, 48, 48, 48, 48, 32, 49, 48, 48, 48, 48, 32, 49, 48, 48, 48, 48, 32, 49, 49, 49, 48, 48]⟩ from by kernel_rfl]
  have h := xsub_91
  go_enter Tryz.func61, Tryz.ntmps61
  go_wp2_with fail
  refine (h _).mono ?_
  rintro e w1 ⟨rfl, rfl⟩
  go_wp2
  go_ret
  exact ⟨rfl, rfl⟩
theorem xsub_93 (w : World) : Calls Tryz.prog 99 #[.int .u8 93] w fun e w' => e = .returned (.string ⟨#[49, 49, 49, 48, 48, 32, 48, 48, 49, 48, 48, 32, 48, 48, 49, 48, 48, 32, 48, 48, 49, 48, 48, 32, 48, 48, 49, 48, 48, 32, 48, 48, 49, 48, 48, 32, 49, 49, 49, 48, 48]⟩) ∧ w = w' := by
  go_enter Tryz.func99, Tryz.ntmps99
  go_wp2
  go_ret
  exact ⟨rfl, rfl⟩
theorem xrows_93 (w : World) : Calls Tryz.prog 61 #[.int .u8 93] w fun e w' => e = .returned (.string (bS (Gl.txt 93))) ∧ w = w' := by
  rw [show bS (Gl.txt 93) = ⟨#[49, 49, 49, 48, 48, 32, 48, 48, 49, 48, 48, 32, 48, 48, 49, 48, 48, 32, 48, 48, 49, 48, 48, 32, 48, 48, 49, 48, 48, 32, 48, 48, 49, 48, 48, 32, 49, 49, 49, 48, 48]⟩ from by kernel_rfl]
  have h := xsub_93
  go_enter Tryz.func61, Tryz.ntmps61
  go_wp2_with fail
  refine (h _).mono ?_
  rintro e w1 ⟨rfl, rfl⟩
  go_wp2
  go_ret
  exact ⟨rfl, rfl⟩
theorem xsub_95 (w : World) : Calls Tryz.prog 99 #[.int .u8 95] w fun e w' => e = .returned (.string ⟨#[48, 48, 48, 48, 48, 32, 48, 48, 48, 48, 48, 32, 48, 48, 48, 48, 48, 32, 48, 48, 48, 48, 48, 32, 48, 48, 48, 48, 48, 32, 48, 48, 48, 48, 48, 32, 49, 49, 49, 49, 49]⟩) ∧ w = w' := by
  go_enter Tryz.func99, Tryz.ntmps99
  go_wp2
  go_ret
  exact ⟨rfl, rfl⟩
theorem xrows_95 (w : World) : Calls Tryz.prog 61 #[.int .u8 95] w fun e w' => e = .returned (.string (bS (Gl.txt 95))) ∧ w = w' := by
  rw [show bS (Gl.txt 95) = ⟨#[48, 48, 48, 48, 48, 32, 48, 48, 48, 48, 48, 32, 48, 48, 48, 48, 48, 32, 48, 48, 48, 48, 48, 32, 48, 48, 48, 48, 48, 32, 48, 48, 48, 48, 48, 32, 49, 49, 49, 49, 49]⟩ from by kernel_rfl]
  have h := xsub_95
  go_enter Tryz.func61, Tryz.ntmps61
  go_wp2_with fail
  refine (h _).mono ?_
  rintro e w1 ⟨rfl, rfl⟩
  go_wp2
  go_ret
  exact ⟨rfl, rfl⟩
set_option maxHeartbeats 1000000 in
theorem xrows_lo (n : Nat) (hn : n < 32) (h256 : n < 256) (hk : Gl.kn n = false) (w : World) : Calls Tryz.prog 61 #[.int .u8 (n : Int)] w fun e w' => e = .returned (.string ⟨#[]⟩) ∧ w = w' := by
  have e32 : ((n : Int) == 32) = false := beq_eq_false_iff_ne.2 (by omega)
  have e33 : ((n : Int) == 33) = false := beq_eq_false_iff_ne.2 (by omega)
  have e34 : ((n : Int) == 34) = false := beq_eq_false_iff_ne.2 (by omega)
  have e35 : ((n : Int) == 35) = false := beq_eq_false_iff_ne.2 (by omega)
  have e36 : ((n : Int) == 36) = false := beq_eq_false_iff_ne.2 (by omega)
  have e37 : ((n : Int) == 37) = false := beq_eq_false_iff_ne.2 (by omega)
  have e38 : ((n : Int) == 38) = false := beq_eq_false_iff_ne.2 (by omega)
  have e39 : ((n : Int) == 39) = false := beq_eq_false_iff_ne.2 (by omega)
  have e40 : ((n : Int) == 40) = false := beq_eq_false_iff_ne.2 (by omega)
  have e41 : ((n : Int) == 41) = false := beq_eq_false_iff_ne.2 (by omega)
  have e42 : ((n : Int) == 42) = false := beq_eq_false_iff_ne.2 (by omega)
  have e43 : ((n : Int) == 43) = false := beq_eq_false_iff_ne.2 (by omega)
  have e44 : ((n : Int) == 44) = false := beq_eq_false_iff_ne.2 (by omega)
  have e45 : ((n : Int) == 45) = false := beq_eq_false_iff_ne.2 (by omega)
  have e46 : ((n : Int) == 46) = false := beq_eq_false_iff_ne.2 (by omega)
  have e47 : ((n : Int) == 47) = false := beq_eq_false_iff_ne.2 (by omega)
  have d1 : decide ((n : Int) < 48) = true := decide_eq_true (by omega)
  have hC0 : 0 ≤ (n : Int) := by omega
  have hC1 : (n : Int) ≤ 255 := by omega
  clear hn h256 hk
  generalize (n : Int) = C at *
  have h : ∀ w, Calls Tryz.prog 96 #[.int .u8 C] w fun e w' => e = .returned (.string ⟨#[]⟩) ∧ w = w' := by
    intro w
    go_enter Tryz.func96, Tryz.ntmps96
    go_wp2
    go_ret
    exact ⟨rfl, rfl⟩
  go_enter Tryz.func61, Tryz.ntmps61
  go_wp2_with fail
  refine (h _).mono ?_
  rintro e w1 ⟨rfl, rfl⟩
  go_wp2
  go_ret
  exact ⟨rfl, rfl⟩
set_option maxHeartbeats 1000000 in
theorem xrows_hi (n : Nat) (hn : 78 ≤ n) (h256 : n < 256) (hk : Gl.kn n = false) (w : World) : Calls Tryz.prog 61 #[.int .u8 (n : Int)] w fun e w' => e = .returned (.string ⟨#[]⟩) ∧ w = w' := by
  have e78 : ((n : Int) == 78) = false := beq_eq_false_iff_ne.2 (fun h => kn_ne (m := 78) rfl hk (by omega))
  have e79 : ((n : Int) == 79) = false := beq_eq_false_iff_ne.2 (fun h => kn_ne (m := 79) rfl hk (by omega))
  have e80 : ((n : Int) == 80) = false := beq_eq_false_iff_ne.2 (fun h => kn_ne (m := 80) rfl hk (by omega))
  have e81 : ((n : Int) == 81) = false := beq_eq_false_iff_ne.2 (fun h => kn_ne (m := 81) rfl hk (by omega))
  have e82 : ((n : Int) == 82) = false := beq_eq_false_iff_ne.2 (fun h => kn_ne (m := 82) rfl hk (by omega))
  have e83 : ((n : Int) == 83) = false := beq_eq_false_iff_ne.2 (fun h => kn_ne (m := 83) rfl hk (by omega))
  have e84 : ((n : Int) == 84) = false := beq_eq_false_iff_ne.2 (fun h => kn_ne (m := 84) rfl hk (by omega))
  have e85 : ((n : Int) == 85) = false := beq_eq_false_iff_ne.2 (fun h => kn_ne (m := 85) rfl hk (by omega))
  have e86 : ((n : Int) == 86) = false := beq_eq_false_iff_ne.2 (fun h => kn_ne (m := 86) rfl hk (by omega))
  have e87 : ((n : Int) == 87) = false := beq_eq_false_iff_ne.2 (fun h => kn_ne (m := 87) rfl hk (by omega))
  have e88 : ((n : Int) == 88) = false := beq_eq_false_iff_ne.2 (fun h => kn_ne (m := 88) rfl hk (by omega))
  have e89 : ((n : Int) == 89) = false := beq_eq_false_iff_ne.2 (fun h => kn_ne (m := 89) rfl hk (by omega))
  have e90 : ((n : Int) == 90) = false := beq_eq_false_iff_ne.2 (fun h => kn_ne (m := 90) rfl hk (by omega))
  have e91 : ((n : Int) == 91) = false := beq_eq_false_iff_ne.2 (fun h => kn_ne (m := 91) rfl hk (by omega))
  have e93 : ((n : Int) == 93) = false := beq_eq_false_iff_ne.2 (fun h => kn_ne (m := 93) rfl hk (by omega))
  have e95 : ((n : Int) == 95) = false := beq_eq_false_iff_ne.2 (fun h => kn_ne (m := 95) rfl hk (by omega))
  have d1 : decide ((n : Int) < 48) = false := decide_eq_false (by omega)
  have d2 : decide ((n : Int) < 65) = false := decide_eq_false (by omega)
  have d3 : decide ((n : Int) < 78) = false := decide_eq_false (by omega)
  have hC0 : 0 ≤ (n : Int) := by omega
  have hC1 : (n : Int) ≤ 255 := by omega
  clear hn h256 hk
  generalize (n : Int) = C at *
  have h : ∀ w, Calls Tryz.prog 99 #[.int .u8 C] w fun e w' => e = .returned (.string ⟨#[]⟩) ∧ w = w' := by
    intro w
    go_enter Tryz.func99, Tryz.ntmps99
    go_wp2
    go_ret
    exact ⟨rfl, rfl⟩
  go_enter Tryz.func61, Tryz.ntmps61
  go_wp2_with fail
  refine (h _).mono ?_
  rintro e w1 ⟨rfl, rfl⟩
  go_wp2
  go_ret
  exact ⟨rfl, rfl⟩
theorem xrows_known : ∀ c ∈ Gl.chars, ∀ w, Calls Tryz.prog 61 #[.int .u8 (c.toNat : Int)] w fun e w' => e = .returned (.string (bS (Gl.txt c))) ∧ w = w' := by
  have e : Gl.chars = [32, 33, 34, 35, 36, 37, 38, 39, 40, 41, 42, 43, 44, 45, 46, 47, 48, 49, 50, 51, 52, 53, 54, 55, 56, 57, 58, 59, 60, 61, 62, 63, 64, 65, 66, 67, 68, 69, 70, 71, 72, 73, 74, 75, 76, 77, 78, 79, 80, 81, 82, 83, 84, 85, 86, 87, 88, 89, 90, 91, 93, 95] := by decide
  rw [e]
  simp only [List.forall_mem_cons]
  exact ⟨xrows_32, xrows_33, xrows_34, xrows_35, xrows_36, xrows_37, xrows_38, xrows_39, xrows_40, xrows_41, xrows_42, xrows_43, xrows_44, xrows_45, xrows_46, xrows_47, xrows_48, xrows_49, xrows_50, xrows_51, xrows_52, xrows_53, xrows_54, xrows_55, xrows_56, xrows_57, xrows_58, xrows_59, xrows_60, xrows_61, xrows_62, xrows_63, xrows_64, xrows_65, xrows_66, xrows_67, xrows_68, xrows_69, xrows_70, xrows_71, xrows_72, xrows_73, xrows_74, xrows_75, xrows_76, xrows_77, xrows_78, xrows_79, xrows_80, xrows_81, xrows_82, xrows_83, xrows_84, xrows_85, xrows_86, xrows_87, xrows_88, xrows_89, xrows_90, xrows_91, xrows_93, xrows_95, fun _ h => absurd h (List.not_mem_nil)⟩
/-- The rows of a character, or nothing. -/
def Gl.rowS (c : UInt8) : List UInt8 := if Gl.known c then Gl.txt c else []
theorem xrows_any (c : UInt8) (w : World) : Calls Tryz.prog 61 #[.int .u8 (c.toNat : Int)] w fun e w' => e = .returned (.string (bS (Gl.rowS c))) ∧ w = w' := by
  unfold Gl.rowS
  by_cases hk : Gl.known c = true
  · rw [if_pos hk]
    exact xrows_known c (by have := Gl.known_mem c; rw [hk] at this; exact of_decide_eq_true this.symm) w
  · rw [if_neg hk]
    have hk' : Gl.kn c.toNat = false := by
      have : Gl.known c = false := by simpa using hk
      exact this
    have h256 := c.toNat_lt
    by_cases h1 : c.toNat < 32
    · exact xrows_lo c.toNat h1 (by omega) hk' w
    · refine xrows_hi c.toNat ?_ (by omega) hk' w
      unfold Gl.kn at hk'
      simp only [Bool.or_eq_false_iff, Bool.and_eq_false_iff, decide_eq_false_iff_not] at hk'
      omega
end Go.Proofs.YtamkgbodifjlaaaGreatDoor
