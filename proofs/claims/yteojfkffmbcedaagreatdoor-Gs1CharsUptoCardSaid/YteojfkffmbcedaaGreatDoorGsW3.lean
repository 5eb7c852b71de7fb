/-
  Chapter 14: digit and character, walked.
  No condition.
-/
import Derived.Test.YteojfkffmbcedaaGreatDoorGsW1
import Derived.Test.YteojfkffmbcedaaGreatDoorCdWa
import Derived.Test.YteojfkffmbcedaaGreatDoorIdx
namespace Go.Proofs.YteojfkffmbcedaaGreatDoor
open Go.RowKit

set_option maxHeartbeats 400000 in
theorem gdigit_any (c : Int) (w : World) :
    Calls Tryz.prog 35 #[.int .u8 c] w fun e w' => e = .returned (.bool (Cd.isDig c)) ∧ w = w' := by
  go_enter Tryz.func35, Tryz.ntmps35
  go_wp2
  · have h : 48 ≤ c := by assumption
    go_ret
    exact ⟨ret_bool (by simp [Cd.isDig, h]), rfl⟩
  · have h : c < 48 := by assumption
    go_ret
    exact ⟨ret_bool (by simp [Cd.isDig]; omega), rfl⟩

def Gs.symbols : List UInt8 := [33, 34, 37, 38, 39, 42, 43, 44, 45, 46, 47, 58, 59, 60, 61, 62, 63, 95]
def Gs.charB (c : UInt8) : Bool := (decide (65 ≤ c.toNat) && decide (c.toNat ≤ 90)) || ((decide (97 ≤ c.toNat) && decide (c.toNat ≤ 122)) || decide (0 ≤ Lib.indexByte Gs.symbols c))

set_option maxHeartbeats 1000000 in
theorem gchar_any (c : UInt8) (w : World) :
    Calls Tryz.prog 36 #[.int .u8 (c.toNat : Int)] w fun e w' => e = .returned (.bool (Gs.charB c)) ∧ w = w' := by
  have HI : Hid (∀ w, Calls Tryz.prog 27 #[.string ⟨#[33, 34, 37, 38, 39, 42, 43, 44, 45, 46, 47, 58, 59, 60, 61, 62, 63, 95]⟩, .int .u8 (c.toNat : Int)] w fun e w' => e = .returned (.int .i64 (Lib.indexByte Gs.symbols c)) ∧ w = w') := Lib.hid (fun w => by
    have := index_any ⟨#[33, 34, 37, 38, 39, 42, 43, 44, 45, 46, 47, 58, 59, 60, 61, 62, 63, 95]⟩ (c.toNat : Int) w
    rw [byte_num] at this; exact this)
  have HB := Lib.hid (Gs.charB.eq_1 c)
  generalize Lib.indexByte Gs.symbols c = x at *
  generalize Gs.charB c = res at *
  by_cases h1 : 65 ≤ c.toNat ∧ c.toNat ≤ 90
  · obtain ⟨n1, n2⟩ := h1
    have HR : Hid (res = true) := Lib.hid (by rw [HB.out, decide_eq_true n1, decide_eq_true n2]; rfl)
    clear HB
    go_enter Tryz.func36, Tryz.ntmps36
    go_wp2
    go_ret
    exact ⟨ret_bool HR.out.symm, rfl⟩
  have e1 : (decide (65 ≤ c.toNat) && decide (c.toNat ≤ 90)) = false := by
    rw [Bool.and_eq_false_iff, decide_eq_false_iff_not, decide_eq_false_iff_not]; omega
  by_cases h2 : 97 ≤ c.toNat ∧ c.toNat ≤ 122
  · obtain ⟨n1, n2⟩ := h2
    have n3 : 90 < c.toNat := by omega
    have HR : Hid (res = true) := Lib.hid (by rw [HB.out, e1, decide_eq_true n1, decide_eq_true n2]; rfl)
    clear HB e1 h1
    go_enter Tryz.func36, Tryz.ntmps36
    go_wp2
    go_ret
    exact ⟨ret_bool HR.out.symm, rfl⟩
  have e2 : (decide (97 ≤ c.toNat) && decide (c.toNat ≤ 122)) = false := by
    rw [Bool.and_eq_false_iff, decide_eq_false_iff_not, decide_eq_false_iff_not]; omega
  have HR : Hid (res = decide (0 ≤ x)) := Lib.hid (by rw [HB.out, e1, e2]; rfl)
  clear HB e1 e2
  by_cases g1 : c.toNat < 65
  · clear h1 h2
    go_enter Tryz.func36, Tryz.ntmps36
    go_wp2_with fail
    refine (HI.out _).mono ?_
    rintro e w1 ⟨rfl, rfl⟩
    go_wp2
    go_ret
    exact ⟨ret_bool HR.out.symm, rfl⟩
  · have n1 : 65 ≤ c.toNat := by omega
    have n2 : 90 < c.toNat := by omega
    by_cases g2 : c.toNat < 97
    · clear h1 h2 g1
      go_enter Tryz.func36, Tryz.ntmps36
      go_wp2_with fail
      refine (HI.out _).mono ?_
      rintro e w1 ⟨rfl, rfl⟩
      go_wp2
      go_ret
      exact ⟨ret_bool (by rw [HR.out, decide_eq_false (show ¬ ((c.toNat : Int) ≤ 90) by omega)]; rfl), rfl⟩
    · have n3 : 97 ≤ c.toNat := by omega
      have n4 : 122 < c.toNat := by omega
      clear h1 h2 g1 g2
      go_enter Tryz.func36, Tryz.ntmps36
      go_wp2_with fail
      refine (HI.out _).mono ?_
      rintro e w1 ⟨rfl, rfl⟩
      go_wp2
      go_ret
      exact ⟨ret_bool (by rw [HR.out, decide_eq_false (show ¬ ((c.toNat : Int) ≤ 90) by omega), decide_eq_false (show ¬ ((c.toNat : Int) ≤ 122) by omega)]; rfl), rfl⟩
end Go.Proofs.YteojfkffmbcedaaGreatDoor
