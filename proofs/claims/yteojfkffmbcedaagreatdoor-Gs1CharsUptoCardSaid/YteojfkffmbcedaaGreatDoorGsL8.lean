/-
  Chapter 14: the law Gs1Chars, walked.
  Condition: the table of white space reads as it is laid; at most two million elements.
-/
import Derived.Test.YteojfkffmbcedaaGreatDoorGsX2
import Derived.Test.YteojfkffmbcedaaGreatDoorGsRB
namespace Go.Proofs.YteojfkffmbcedaaGreatDoor
set_option linter.unusedVariables false
open Go.RowKit

theorem chars_len (xs : List Gs.El) : (Gs.chars xs).1.length ≤ 9223372036854775807 := by
  unfold Gs.chars
  split
  · simp
  · split
    · simp
    · rename_i h; dsimp only; omega

set_option maxRecDepth 100000 in
set_option maxHeartbeats 8000000 in
theorem law_chars (v : Value) (xs : List Gs.El) (w : World) (hl : ESl w v xs) (hn : xs.length ≤ 2000000) (hx : ∀ x ∈ xs, x.1.length ≤ maxLen ∧ x.2.length ≤ maxLen) (ht : Spaces w) :
    Calls Tryz.prog 3 #[v] w fun e w' => e = .returned (.bool true) ∧ Ext w w' := by
  have HT := Lib.hid ht
  have HL := Lib.hid hl
  obtain ⟨av, cv, rfl⟩ := hl.form
  have HF := Lib.hid (chars_any _ xs w hl hn hx ht)
  have HG := Lib.hid (fun w' hx' => rchars_any _ xs w' (HL.out.ext hx') (by omega) hx)
  have HEX := Lib.hid (fun w' hx' => examples_any w' (tabIs_ext HT.out hx'))
  have HPL := Lib.hid (chars_len xs)
  generalize Gs.chars xs = Q at *
  obtain ⟨q1, q2⟩ := Q
  obtain ⟨N, hN⟩ : ∃ N, xs.length = N := ⟨_, rfl⟩
  rw [hN] at hn HL HF HG ⊢
  have b2 : (q2 == q2) = true := beq_self_eq_true _
  clear ht hN hl hx
  go_enter Tryz.func3, Tryz.ntmps3
  go_wp2_with fail
  refine HF.out.mono ?_
  rintro e w1 ⟨v1, rfl, hl1, hx1⟩
  dsimp only
  go_wp2_with fail
  refine (HG.out w1 hx1).mono ?_
  rintro e w2 ⟨v2, rfl, hl2, hx2⟩
  dsimp only
  have hx02 := hx1.trans hx2
  have HSM := Lib.hid (lequal_any v1 v2 q1 w2 (hl1.ext hx2).1 hl2.1 HPL.out)
  obtain ⟨_, a1, c1, rfl, _⟩ := hl1
  obtain ⟨_, a2, c2, rfl, _⟩ := hl2
  rw [List.length_map] at HSM
  go_wp2_with fail
  refine HSM.out.mono ?_
  rintro e w5 ⟨rfl, hx5⟩
  have hx05 := hx02.trans hx5
  go_wp2_with fail
  refine (HEX.out w5 hx05).mono ?_
  rintro e w6 ⟨rfl, hx6⟩
  go_wp2
  go_ret
  exact ⟨rfl, hx05.trans hx6⟩
end Go.Proofs.YteojfkffmbcedaaGreatDoor
