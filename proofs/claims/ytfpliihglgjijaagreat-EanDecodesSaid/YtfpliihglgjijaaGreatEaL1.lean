/-
  Chapter 11: the examples, walked; equal.
  No condition.
-/
import Derived.Test.YtfpliihglgjijaaGreatEaWz
import Derived.Test.YtfpliihglgjijaaGreatEaWD
import Derived.Test.YtfpliihglgjijaaGreatEaW4
namespace Go.Proofs.YtfpliihglgjijaaGreat
set_option linter.unusedVariables false
open Go.RowKit

def Ea.exT : List UInt8 := [53, 57, 48, 49, 50, 51, 52, 49, 50, 51, 52, 53, 55]
theorem ex_enc : (Ea.enc 1 [53, 57, 48, 49, 50, 51, 52, 49, 50, 51, 52, 53, 55] []).2 = 0 ∧ (Ea.enc 1 [53, 57, 48, 49, 50, 51, 52, 49, 50, 51, 52, 53, 55] []).1.length = 113 ∧ Ea.dec (Ea.enc 1 [53, 57, 48, 49, 50, 51, 52, 49, 50, 51, 52, 53, 55] []).1 = ((1, [53, 57, 48, 49, 50, 51, 52, 49, 50, 51, 52, 53, 55], []), 0) := by decide +kernel
theorem ex_enc2 : Ea.enc 1 [53, 57, 48, 49, 50, 51, 52, 49, 50, 51, 52, 53, 56] [] = ([], 8) := by decide +kernel
theorem ex_comp : Ea.comp 2 [57, 54, 51, 56, 53, 48, 55] = ([57, 54, 51, 56, 53, 48, 55, 52], 0) := by decide +kernel
theorem ex_expd : Ea.expd [48, 52, 50, 53, 50, 54, 49, 52] = ([48, 52, 50, 49, 48, 48, 48, 48, 53, 50, 54, 52], 0) := by decide +kernel
theorem ex_cprs : Ea.cprs [48, 52, 50, 49, 48, 48, 48, 48, 53, 50, 54, 52] = ([48, 52, 50, 53, 50, 54, 49, 52], 0) := by decide +kernel

theorem lin_eq (w : World) (k j : Int) (a b c d : ByteArray) : (binOp .eql 31 (.agg #[.int .i64 k, .string a, .string b]) (.agg #[.int .i64 j, .string c, .string d])).run Tryz.prog w = .ok (.bool (k == j && (a.toList == c.toList && b.toList == d.toList))) w := by
  have u9 := Tryz.underlying9
  have a9 := Tryz.isAgg9
  have z9 := Tryz.sizeOf9
  have u8 := Tryz.underlying22
  have a8 := Tryz.isAgg22
  have z8 := Tryz.sizeOf22
  have hS : Tryz.prog.underlying 31 = some (.struct (Tryz.prog.fieldsOf 31)) := by kernel_rfl
  have hp : Tryz.prog.stoodInHeld 31 = false := by kernel_rfl
  rw [run_eql_struct, show (10000 : Nat) = 9999 + 1 from rfl, run_equalIn_agg w 9999 31 _ _ hS hp]
  simp only [Program.fieldsOf, Tryz.underlying31]
  go_simp
  by_cases h0 : k = j <;> by_cases h1 : a.toList = c.toList <;> by_cases h2 : b.toList = d.toList <;> simp [h0, h1, h2]

set_option maxRecDepth 100000 in
set_option maxHeartbeats 2000000 in
theorem examples_any (w : World) :
    Calls Tryz.prog 14 #[] w fun e w' => e = .returned (.bool true) ∧ Ext w w' := by
  have H1 := Lib.hid (fun w => eEncode_any 1 ⟨#[53, 57, 48, 49, 50, 51, 52, 49, 50, 51, 52, 53, 55]⟩ ⟨#[]⟩ (by decide) (by decide) w)
  have H2 : Hid (∀ w, Calls Tryz.prog 11 #[.int .i64 1, .string ⟨#[53, 57, 48, 49, 50, 51, 52, 49, 50, 51, 52, 53, 56]⟩, .string ⟨#[]⟩] w (BoolsE ([], 8) w)) := Lib.hid (fun w => by
    have := eEncode_any 1 ⟨#[53, 57, 48, 49, 50, 51, 52, 49, 50, 51, 52, 53, 56]⟩ ⟨#[]⟩ (by decide) (by decide) w
    rw [show Ea.enc 1 (⟨#[53, 57, 48, 49, 50, 51, 52, 49, 50, 51, 52, 53, 56]⟩ : ByteArray).data.toList (⟨#[]⟩ : ByteArray).data.toList = ([], 8) from ex_enc2] at this
    exact this)
  have H3 : Hid (∀ w, Calls Tryz.prog 17 #[.int .i64 2, .string ⟨#[57, 54, 51, 56, 53, 48, 55]⟩] w fun e w' => e = .returned (.tuple #[.string ⟨#[57, 54, 51, 56, 53, 48, 55, 52]⟩, .int .i64 0]) ∧ Ext w w') := Lib.hid (fun w => by
    have := eComplete_any 2 ⟨#[57, 54, 51, 56, 53, 48, 55]⟩ (by decide) w
    rw [show Ea.comp 2 (⟨#[57, 54, 51, 56, 53, 48, 55]⟩ : ByteArray).data.toList = ([57, 54, 51, 56, 53, 48, 55, 52], 0) from ex_comp] at this
    exact this)
  have H4 : Hid (∀ w, Calls Tryz.prog 21 #[.string ⟨#[48, 52, 50, 53, 50, 54, 49, 52]⟩] w fun e w' => e = .returned (.tuple #[.string ⟨#[48, 52, 50, 49, 48, 48, 48, 48, 53, 50, 54, 52]⟩, .int .i64 0]) ∧ Ext w w') := Lib.hid (fun w => by
    have := eExpand_any ⟨#[48, 52, 50, 53, 50, 54, 49, 52]⟩ (by decide) w
    rw [show Ea.expd (⟨#[48, 52, 50, 53, 50, 54, 49, 52]⟩ : ByteArray).data.toList = ([48, 52, 50, 49, 48, 48, 48, 48, 53, 50, 54, 52], 0) from ex_expd] at this
    exact this)
  have H5 : Hid (∀ w, Calls Tryz.prog 19 #[.string ⟨#[48, 52, 50, 49, 48, 48, 48, 48, 53, 50, 54, 52]⟩] w fun e w' => e = .returned (.tuple #[.string ⟨#[48, 52, 50, 53, 50, 54, 49, 52]⟩, .int .i64 0]) ∧ Ext w w') := Lib.hid (fun w => by
    have := eCompress_any ⟨#[48, 52, 50, 49, 48, 48, 48, 48, 53, 50, 54, 52]⟩ (by decide) w
    rw [show Ea.cprs (⟨#[48, 52, 50, 49, 48, 48, 48, 48, 53, 50, 54, 52]⟩ : ByteArray).data.toList = ([48, 52, 50, 53, 50, 54, 49, 52], 0) from ex_cprs] at this
    exact this)
  have HN := Lib.hid (fun w' => lin_eq w' 1 1 ⟨#[53, 57, 48, 49, 50, 51, 52, 49, 50, 51, 52, 53, 55]⟩ ⟨#[]⟩ ⟨#[53, 57, 48, 49, 50, 51, 52, 49, 50, 51, 52, 53, 55]⟩ ⟨#[]⟩)
  go_enter Tryz.func14, Tryz.ntmps14
  go_wp2_with fail
  refine (H1.out _).mono ?_
  rintro e w1 ⟨v, rfl, hv, hx1⟩
  rw [show (Ea.enc 1 (⟨#[53, 57, 48, 49, 50, 51, 52, 49, 50, 51, 52, 53, 55]⟩ : ByteArray).data.toList (⟨#[]⟩ : ByteArray).data.toList).2 = 0 from ex_enc.1]
  have HD := Lib.hid (decode_any v _ w1 hv (by rw [show (Ea.enc 1 (⟨#[53, 57, 48, 49, 50, 51, 52, 49, 50, 51, 52, 53, 55]⟩ : ByteArray).data.toList (⟨#[]⟩ : ByteArray).data.toList).1.length = 113 from ex_enc.2.1]; omega))
  rw [show Ea.dec (Ea.enc 1 (⟨#[53, 57, 48, 49, 50, 51, 52, 49, 50, 51, 52, 53, 55]⟩ : ByteArray).data.toList (⟨#[]⟩ : ByteArray).data.toList).1 = ((1, [53, 57, 48, 49, 50, 51, 52, 49, 50, 51, 52, 53, 55], []), 0) from ex_enc.2.2] at HD
  obtain ⟨_, a, c, hvf, _⟩ := hv
  rw [List.length_map, show (Ea.enc 1 (⟨#[53, 57, 48, 49, 50, 51, 52, 49, 50, 51, 52, 53, 55]⟩ : ByteArray).data.toList (⟨#[]⟩ : ByteArray).data.toList).1.length = 113 from ex_enc.2.1] at hvf
  subst hvf
  go_wp2_with fail
  refine HD.out.mono ?_
  rintro e w2 ⟨rfl, hx2⟩
  rw [show gotV ((1, [53, 57, 48, 49, 50, 51, 52, 49, 50, 51, 52, 53, 55], []), 0) = .tuple #[.agg #[.int .i64 1, .string ⟨#[53, 57, 48, 49, 50, 51, 52, 49, 50, 51, 52, 53, 55]⟩, .string ⟨#[]⟩], .int .i64 0] from rfl]
  clear HD
  go_wp2_with fail
  refine (H3.out _).mono ?_
  rintro e w3 ⟨rfl, hx3⟩
  go_wp2_with fail
  refine (H4.out _).mono ?_
  rintro e w4 ⟨rfl, hx4⟩
  go_wp2_with fail
  refine (H5.out _).mono ?_
  rintro e w5 ⟨rfl, hx5⟩
  go_wp2_with fail
  refine (H2.out _).mono ?_
  rintro e w6 ⟨v6, rfl, hv6, hx6⟩
  dsimp only
  obtain ⟨z0, z1, z2, z3, z4, z5, z6, HB⟩ := row3 (hx3.trans (hx4.trans (hx5.trans hx6)))
  have HX := Lib.hid (hx1.trans (hx2.trans (((Ext.refl w2).alloc _).trans (hx3.trans (hx4.trans (hx5.trans hx6))))))
  clear hx1 hx2 hx3 hx4 hx5 hx6 hv6 HB
  have hn := HN.out
  go_wp2
  go_ret
  exact ⟨rfl, HX.out⟩
end Go.Proofs.YtfpliihglgjijaaGreat
