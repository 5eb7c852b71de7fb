/-
  Chapter 14: the law Gs1RoundTrip, walked.
  Condition: the table of white space reads as it is laid; at most two million elements.
-/
import Derived.Test.YtkembhpmfigbcaaDoorGsL1
namespace Go.Proofs.YtkembhpmfigbcaaDoor
set_option linter.unusedVariables false
open Go.RowKit

set_option maxRecDepth 100000 in
set_option maxHeartbeats 4000000 in
theorem law_roundtrip (v : Value) (xs : List Gs.El) (w : World) (hl : ESl w v xs) (hn : xs.length ≤ 2000000) (hs : ∀ x ∈ xs, x.1.length ≤ maxLen ∧ x.2.length ≤ maxLen) (ht : Spaces w) :
    Calls Tryd.prog 6 #[v] w fun e w' => e = .returned (.bool true) ∧ Ext w w' := by
  have HT := Lib.hid ht
  have HL := Lib.hid hl
  obtain ⟨av, cv, rfl⟩ := hl.form
  have HF := Lib.hid (fun w' hx => format_any _ xs w' (HL.out.ext hx) (by omega) hs (tabIs_ext HT.out hx))
  have HC := Lib.hid (fun w' hx => chars_any _ xs w' (HL.out.ext hx) hn hs (tabIs_ext HT.out hx))
  have HEX := Lib.hid (fun w' hx => examples_any w' (tabIs_ext HT.out hx))
  have HSM := Lib.hid (fun w' hx u hu => lsame_any _ u xs w' (HL.out.ext hx) hu (by omega))
  have FIRST : Hid (∀ p1, Gs.format xs = (p1, 0) → ∀ w', Ext w w' → Calls Tryd.prog 15 #[encS p1] w' (ElsR (xs, 0) w')) := Lib.hid (fun p1 h w' hx => by
    have h1 := parse_of_format h
    obtain ⟨_, _, h2⟩ := format_parts h
    have := parse_any ⟨p1.toArray⟩ (by unfold maxLen; simp [ByteArray.size]; omega) w' (tabIs_ext HT.out hx)
    rw [show (⟨p1.toArray⟩ : ByteArray).data.toList = p1 from rfl, h1] at this
    exact this)
  have SECOND : Hid (∀ p1, Gs.chars xs = (p1, 0) → ∀ w' u, Ext w w' → SlK w' u (p1.map encI) → Calls Tryd.prog 20 #[u] w' (ElsR (xs, 0) w')) := Lib.hid (fun p1 h w' u hx hu => by
    have h1 := from_of_chars h
    obtain ⟨_, _, h2⟩ := chars_parts h
    have := from_any u p1 w' hu (by omega) (tabIs_ext HT.out hx)
    rw [h1] at this
    exact this)
  generalize Gs.format xs = P at *
  generalize Gs.chars xs = Q at *
  obtain ⟨p1, p2⟩ := P
  obtain ⟨q1, q2⟩ := Q
  obtain ⟨N, hN⟩ : ∃ N, xs.length = N := ⟨_, rfl⟩
  rw [hN] at hn HL HF HC HSM ⊢
  clear ht hs hN hl
  by_cases hp : p2 = 0
  · subst hp
    have F1 := Lib.hid (FIRST.out p1 rfl)
    by_cases hq : q2 = 0
    · subst hq
      have F2 := Lib.hid (SECOND.out q1 rfl)
      clear FIRST SECOND
      go_enter Tryd.func6, Tryd.ntmps6
      go_wp2_with fail
      refine (HF.out w (Ext.refl w)).mono ?_
      rintro e w1 ⟨rfl, hx1⟩
      dsimp only
      unfold encS at *
      go_wp2_with fail
      refine (F1.out w1 hx1).mono ?_
      rintro e w2 ⟨v2, rfl, hl2, hx2⟩
      dsimp only
      have hx02 := hx1.trans hx2
      have H2 := Lib.hid (HSM.out w2 hx02 v2 hl2)
      go_wp2_with fail
      refine H2.out.mono ?_
      rintro e w3 ⟨rfl, hx3⟩
      have hx03 := hx02.trans hx3
      go_wp2_with fail
      refine (HC.out w3 hx03).mono ?_
      rintro e w4 ⟨v4, rfl, hl4, hx4⟩
      dsimp only
      have hx04 := hx03.trans hx4
      have H4 := Lib.hid (F2.out w4 v4 hx04 hl4)
      go_wp2_with fail
      refine H4.out.mono ?_
      rintro e w5 ⟨v5, rfl, hl5, hx5⟩
      dsimp only
      have hx05 := hx04.trans hx5
      have H5 := Lib.hid (HSM.out w5 hx05 v5 hl5)
      go_wp2_with fail
      refine H5.out.mono ?_
      rintro e w6 ⟨rfl, hx6⟩
      have hx06 := hx05.trans hx6
      go_wp2_with fail
      refine (HEX.out w6 hx06).mono ?_
      rintro e w7 ⟨rfl, hx7⟩
      go_wp2
      go_ret
      exact ⟨rfl, hx06.trans hx7⟩
    · have hq1 : (q2 == 0) = false := by simpa using hq
      clear FIRST SECOND hq
      go_enter Tryd.func6, Tryd.ntmps6
      go_wp2_with fail
      refine (HF.out w (Ext.refl w)).mono ?_
      rintro e w1 ⟨rfl, hx1⟩
      dsimp only
      unfold encS at *
      go_wp2_with fail
      refine (F1.out w1 hx1).mono ?_
      rintro e w2 ⟨v2, rfl, hl2, hx2⟩
      dsimp only
      have hx02 := hx1.trans hx2
      have H2 := Lib.hid (HSM.out w2 hx02 v2 hl2)
      go_wp2_with fail
      refine H2.out.mono ?_
      rintro e w3 ⟨rfl, hx3⟩
      have hx03 := hx02.trans hx3
      go_wp2_with fail
      refine (HC.out w3 hx03).mono ?_
      rintro e w4 ⟨v4, rfl, hl4, hx4⟩
      dsimp only
      have hx04 := hx03.trans hx4
      go_wp2_with fail
      refine (HEX.out w4 hx04).mono ?_
      rintro e w7 ⟨rfl, hx7⟩
      go_wp2
      go_ret
      exact ⟨rfl, hx04.trans hx7⟩
  · have hp1 : (p2 == 0) = false := by simpa using hp
    by_cases hq : q2 = 0
    · subst hq
      have F2 := Lib.hid (SECOND.out q1 rfl)
      clear FIRST SECOND hp
      go_enter Tryd.func6, Tryd.ntmps6
      go_wp2_with fail
      refine (HF.out w (Ext.refl w)).mono ?_
      rintro e w1 ⟨rfl, hx03⟩
      dsimp only
      unfold encS at *
      go_wp2_with fail
      refine (HC.out w1 hx03).mono ?_
      rintro e w4 ⟨v4, rfl, hl4, hx4⟩
      dsimp only
      have hx04 := hx03.trans hx4
      have H4 := Lib.hid (F2.out w4 v4 hx04 hl4)
      go_wp2_with fail
      refine H4.out.mono ?_
      rintro e w5 ⟨v5, rfl, hl5, hx5⟩
      dsimp only
      have hx05 := hx04.trans hx5
      have H5 := Lib.hid (HSM.out w5 hx05 v5 hl5)
      go_wp2_with fail
      refine H5.out.mono ?_
      rintro e w6 ⟨rfl, hx6⟩
      have hx06 := hx05.trans hx6
      go_wp2_with fail
      refine (HEX.out w6 hx06).mono ?_
      rintro e w7 ⟨rfl, hx7⟩
      go_wp2
      go_ret
      exact ⟨rfl, hx06.trans hx7⟩
    · have hq1 : (q2 == 0) = false := by simpa using hq
      clear FIRST SECOND hp hq
      go_enter Tryd.func6, Tryd.ntmps6
      go_wp2_with fail
      refine (HF.out w (Ext.refl w)).mono ?_
      rintro e w1 ⟨rfl, hx03⟩
      dsimp only
      unfold encS at *
      go_wp2_with fail
      refine (HC.out w1 hx03).mono ?_
      rintro e w4 ⟨v4, rfl, hl4, hx4⟩
      dsimp only
      have hx04 := hx03.trans hx4
      go_wp2_with fail
      refine (HEX.out w4 hx04).mono ?_
      rintro e w7 ⟨rfl, hx7⟩
      go_wp2
      go_ret
      exact ⟨rfl, hx04.trans hx7⟩
end Go.Proofs.YtkembhpmfigbcaaDoor
