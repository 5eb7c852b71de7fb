/-
  Chapter 14: the examples, walked.
  Condition: the table of white space reads as it is laid.
-/
import Derived.Test.YteojfkffmbcedaaGreatDoorGsX1
namespace Go.Proofs.YteojfkffmbcedaaGreatDoor
set_option linter.unusedVariables false
open Go.RowKit

def Gs.exS : List UInt8 := [40, 48, 49, 41, 48, 57, 53, 48, 49, 49, 48, 49, 53, 51, 48, 48, 48, 51, 40, 49, 48, 41, 65, 66]
def Gs.exL : List Gs.El := [([48, 49], [48, 57, 53, 48, 49, 49, 48, 49, 53, 51, 48, 48, 48, 51]), ([49, 48], [65, 66])]
def Gs.exC : List Int := [256, 48, 49, 48, 57, 53, 48, 49, 49, 48, 49, 53, 51, 48, 48, 48, 51, 49, 48, 65, 66]
theorem ex_parse : Gs.parse Gs.exS = (Gs.exL, 0) := by decide +kernel
theorem ex_format : Gs.format Gs.exL = (Gs.exS, 0) := by decide +kernel
theorem ex_chars : Gs.chars Gs.exL = (Gs.exC, 0) := by decide +kernel
theorem ex_from : Gs.frChars Gs.exC = (Gs.exL, 0) := by decide +kernel
theorem ex_fixed : Gs.fixF [48, 49] = (14, 14, 0) := by decide +kernel
theorem ex_ver : Gs.ver [49, 55] [50, 51, 48, 50, 50, 57] = 9 := by decide +kernel
theorem exL_small : ∀ x ∈ Gs.exL, x.1.length ≤ maxLen ∧ x.2.length ≤ maxLen := by
  intro x hx
  simp only [Gs.exL, List.mem_cons, List.not_mem_nil, or_false] at hx
  unfold maxLen
  rcases hx with rfl | rfl <;> simp

set_option maxRecDepth 100000 in
set_option maxHeartbeats 4000000 in
theorem examples_any (w : World) (ht : Spaces w) :
    Calls Tryz.prog 7 #[] w fun e w' => e = .returned (.bool true) ∧ Ext w w' := by
  have HT := Lib.hid ht
  have HP := Lib.hid (parse_any ⟨#[40, 48, 49, 41, 48, 57, 53, 48, 49, 49, 48, 49, 53, 51, 48, 48, 48, 51, 40, 49, 48, 41, 65, 66]⟩ (by unfold maxLen; decide) w ht)
  rw [show (⟨#[40, 48, 49, 41, 48, 57, 53, 48, 49, 49, 48, 49, 53, 51, 48, 48, 48, 51, 40, 49, 48, 41, 65, 66]⟩ : ByteArray).data.toList = Gs.exS from rfl, ex_parse] at HP
  clear ht
  go_enter Tryz.func7, Tryz.ntmps7
  go_wp2_with fail
  refine HP.out.mono ?_
  rintro e w1 ⟨v1, rfl, hl1, hx1⟩
  obtain ⟨a1, c1, rfl⟩ := hl1.form
  obtain ⟨b, off, ha, hb, q0, q1⟩ := hl1.at_ (k := 0) rfl
  obtain ⟨b', off', ha', hb', q2, q3⟩ := hl1.at_ (k := 1) rfl
  subst ha
  injection ha' with e1
  injection e1 with e1 e2
  subst e1 e2
  have d0 : w1.cell? ⟨b, off, none⟩ = some (.string ⟨#[48, 49]⟩) := q0
  have d1 : w1.cell? ⟨b, off + 1, none⟩ = some (.string ⟨#[48, 57, 53, 48, 49, 49, 48, 49, 53, 51, 48, 48, 48, 51]⟩) := q1
  have d2 : w1.cell? ⟨b, off + 2, none⟩ = some (.string ⟨#[49, 48]⟩) := q2
  have d3 : w1.cell? ⟨b, off + 2 + 1, none⟩ = some (.string ⟨#[65, 66]⟩) := q3
  have n1 : ∀ w', (binOp .neq 35 (.agg #[.string ⟨#[48, 49]⟩, .string ⟨#[48, 57, 53, 48, 49, 49, 48, 49, 53, 51, 48, 48, 48, 51]⟩]) (.agg #[.string ⟨#[48, 49]⟩, .string ⟨#[48, 57, 53, 48, 49, 49, 48, 49, 53, 51, 48, 48, 48, 51]⟩])).run Tryz.prog w' = .ok (.bool false) w' := fun w' => by rw [el_neq]; simp
  have n2 : ∀ w', (binOp .neq 35 (.agg #[.string ⟨#[49, 48]⟩, .string ⟨#[65, 66]⟩]) (.agg #[.string ⟨#[49, 48]⟩, .string ⟨#[65, 66]⟩])).run Tryz.prog w' = .ok (.bool false) w' := fun w' => by rw [el_neq]; simp
  have HL1 := Lib.hid hl1
  have HF := Lib.hid (fun w' hx => format_any _ Gs.exL w' (hl1.ext hx) (by decide) exL_small (tabIs_ext HT.out (hx1.trans hx)))
  have HC := Lib.hid (fun w' hx => chars_any _ Gs.exL w' (hl1.ext hx) (by decide) exL_small (tabIs_ext HT.out (hx1.trans hx)))
  rw [ex_format] at HF
  rw [ex_chars] at HC
  have el : Gs.exL.length = 2 := rfl
  rw [el] at HF HC HL1 ⊢
  clear q0 q1 q2 q3 hl1 el HP
  go_wp2_with fail
  refine (HF.out _ (Ext.refl w1)).mono ?_
  rintro e w2 ⟨rfl, hx2⟩
  dsimp only
  rw [show encS Gs.exS = .string ⟨#[40, 48, 49, 41, 48, 57, 53, 48, 49, 49, 48, 49, 53, 51, 48, 48, 48, 51, 40, 49, 48, 41, 65, 66]⟩ from rfl]
  clear d0 d1 d2 d3 n1 n2
  go_wp2_with fail
  refine (HC.out _ hx2).mono ?_
  rintro e w3 ⟨v3, rfl, hl3, hx3⟩
  have HL3 := Lib.hid hl3
  obtain ⟨hs3, a3, c3, rfl, hc3⟩ := hl3
  have e21 : (Gs.exC.map encI).length = 21 := rfl
  obtain ⟨b3, o3, ha3, hb3, r0⟩ := hs3.at_ (k := 0) (by decide)
  obtain ⟨b4, o4, ha4, hb4, r20⟩ := hs3.at_ (k := 20) (by decide)
  subst ha3
  injection ha4 with e1
  injection e1 with e1 e2
  subst e1 e2
  rw [e21] at HL3 ⊢
  have HFR := Lib.hid (from_any _ Gs.exC w3 HL3.out (by decide) (tabIs_ext HT.out ((hx1.trans hx2).trans hx3)))
  rw [ex_from] at HFR
  have g0 : w3.cell? ⟨b3, o3, none⟩ = some (.int .i64 256) := r0
  have g20 : w3.cell? ⟨b3, o3 + 20, none⟩ = some (.int .i64 66) := r20
  have HG := Lib.hid (And.intro g0 g20)
  clear r0 r20 e21 hs3 g0 g20 hc3
  go_wp2_with fail
  refine HFR.out.mono ?_
  rintro e w4 ⟨v4, rfl, hl4, hx4⟩
  have HFX := Lib.hid (Fixed_any ⟨#[48, 49]⟩ (by unfold maxLen; decide) w4 (tabIs_ext HT.out (((hx1.trans hx2).trans hx3).trans hx4)))
  rw [show (⟨#[48, 49]⟩ : ByteArray).data.toList = [48, 49] from rfl, ex_fixed] at HFX
  go_wp2_with fail
  refine HFX.out.mono ?_
  rintro e w5 ⟨rfl, hx5⟩
  have hx35 := hx4.trans hx5
  have g0 : w5.cell? ⟨b3, o3, none⟩ = some (.int .i64 256) := (hx35.cell (p := ⟨b3, o3, none⟩) hb3).trans HG.out.1
  have g20 : w5.cell? ⟨b3, o3 + 20, none⟩ = some (.int .i64 66) := (hx35.cell (p := ⟨b3, o3 + 20, none⟩) hb3).trans HG.out.2
  have HSM := Lib.hid (lsame_any _ v4 Gs.exL w5 (HL1.out.ext ((hx2.trans hx3).trans hx35)) (hl4.ext hx5) (by decide))
  obtain ⟨a4, c4, rfl⟩ := hl4.form
  dsimp only
  go_wp2_with fail
  refine HSM.out.mono ?_
  rintro e w6 ⟨rfl, hx6⟩
  have hx06 : Ext w w6 := (((hx1.trans hx2).trans hx3).trans hx35).trans hx6
  have HVF := Lib.hid (fun w' hx => Verify_any ⟨#[49, 55]⟩ ⟨#[50, 51, 48, 50, 50, 57]⟩ (by unfold maxLen; decide) (by unfold maxLen; decide) w' (tabIs_ext HT.out (hx06.trans hx)))
  rw [show (⟨#[49, 55]⟩ : ByteArray).data.toList = [49, 55] from rfl, show (⟨#[50, 51, 48, 50, 50, 57]⟩ : ByteArray).data.toList = [50, 51, 48, 50, 50, 57] from rfl, ex_ver] at HVF
  go_wp2_with fail
  refine (HVF.out _ (Ext.refl _)).mono ?_
  rintro e w7 ⟨rfl, hx7⟩
  go_wp2
  go_ret
  exact ⟨rfl, hx06.trans hx7⟩
end Go.Proofs.YteojfkffmbcedaaGreatDoor
