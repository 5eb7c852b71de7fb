/-
  Chapter 14: the law Gs1Texts, walked.
  Condition: the table of white space reads as it is laid; at most two million elements.
-/
import Derived.Test.YtkembhpmfigbcaaDoorGsX2
import Derived.Test.YtkembhpmfigbcaaDoorGsR8
namespace Go.Proofs.YtkembhpmfigbcaaDoor
set_option linter.unusedVariables false
open Go.RowKit

theorem parse_len {s : List UInt8} : (Gs.parse s).1.length ≤ 9223372036854775807 := by
  by_cases h : (Gs.parse s).2 = 0
  · have h1 : Gs.parse s = ((Gs.parse s).1, 0) := by rw [← h]
    have h2 := format_of_parse h1
    unfold Gs.format at h2
    split at h2
    · rename_i h3; simp only [Prod.mk.injEq] at h2; exact absurd h2.2 h3
    · split at h2
      · simp at h2
      · rename_i h3 h4
        have : ∀ xs : List Gs.El, xs.length ≤ (xs.flatMap Gs.fmtE).length := by
          intro xs
          induction xs with
          | nil => simp
          | cons x xs ih => simp only [List.flatMap_cons, List.length_append, List.length_cons, Gs.fmtE]; omega
        have := this (Gs.parse s).1
        omega
  · have key : ∀ n l acc, (Gs.parseF n l acc).2 ≠ 0 → (Gs.parseF n l acc).1 = [] := by
      intro n
      induction n with
      | zero => intro l acc h; exact absurd rfl h
      | succ n ih =>
        intro l acc h
        cases l with
        | nil => exact absurd rfl h
        | cons b r =>
          simp only [Gs.parseF] at h ⊢
          split
          · rfl
          · rename_i h1
            rw [if_neg h1] at h
            split
            · rfl
            · rename_i h2
              rw [if_neg h2] at h
              split
              · rfl
              · rename_i h3
                rw [if_neg h3] at h
                exact ih _ _ h
    have : (Gs.parse s).1 = [] := by
      unfold Gs.parse at h ⊢
      split
      · rfl
      · rename_i h1
        rw [if_neg h1] at h
        split
        · rfl
        · rename_i h2
          rw [if_neg h2] at h
          exact key _ _ _ h
    rw [this]; simp

set_option maxRecDepth 100000 in
set_option maxHeartbeats 8000000 in
theorem law_texts (s : ByteArray) (v : Value) (xs : List Gs.El) (w : World) (hs : s.size ≤ maxLen) (hl : ESl w v xs) (hn : xs.length ≤ 2000000) (hx : ∀ x ∈ xs, x.1.length ≤ maxLen ∧ x.2.length ≤ maxLen) (ht : Spaces w) :
    Calls Tryd.prog 4 #[.string s, v] w fun e w' => e = .returned (.bool true) ∧ Ext w w' := by
  have HT := Lib.hid ht
  have HL := Lib.hid hl
  obtain ⟨av, cv, rfl⟩ := hl.form
  have HP := Lib.hid (parse_any s hs w ht)
  have HQ := Lib.hid (fun w' => rparse_any s hs w')
  have HF := Lib.hid (fun w' hx' => format_any _ xs w' (HL.out.ext hx') (by omega) hx (tabIs_ext HT.out hx'))
  have HG := Lib.hid (fun w' hx' => rformat_any _ xs w' (HL.out.ext hx') (by omega) hx)
  have HEX := Lib.hid (fun w' hx' => examples_any w' (tabIs_ext HT.out hx'))
  have HPL := Lib.hid (parse_len (s := s.data.toList))
  generalize Gs.parse s.data.toList = P at *
  generalize Gs.format xs = Q at *
  obtain ⟨p1, p2⟩ := P
  obtain ⟨q1, q2⟩ := Q
  obtain ⟨N, hN⟩ : ∃ N, xs.length = N := ⟨_, rfl⟩
  rw [hN] at hn HL HF HG ⊢
  obtain ⟨QB, hQB⟩ : ∃ QB : ByteArray, encS q1 = .string QB := ⟨_, rfl⟩
  have b1 : (p2 == p2) = true := beq_self_eq_true _
  have b2 : (q2 == q2) = true := beq_self_eq_true _
  have HQB := Lib.hid hQB
  clear ht hs hN hl hx hQB
  go_enter Tryd.func4, Tryd.ntmps4
  go_wp2_with fail
  refine HP.out.mono ?_
  rintro e w1 ⟨v1, rfl, hl1, hx1⟩
  dsimp only
  go_wp2_with fail
  refine (HQ.out w1).mono ?_
  rintro e w2 ⟨v2, rfl, hl2, hx2⟩
  dsimp only
  have hx02 := hx1.trans hx2
  go_wp2_with fail
  refine (HF.out w2 hx02).mono ?_
  rintro e w3 ⟨rfl, hx3⟩
  dsimp only
  rw [HQB.out]
  have hx03 := hx02.trans hx3
  go_wp2_with fail
  refine (HG.out w3 hx03).mono ?_
  rintro e w4 ⟨rfl, hx4⟩
  dsimp only
  rw [HQB.out]
  have hx04 := hx03.trans hx4
  have HSM := Lib.hid (lsame_any v1 v2 p1 w4 (hl1.ext ((hx2.trans hx3).trans hx4)) (hl2.ext (hx3.trans hx4)) HPL.out)
  obtain ⟨a1, c1, rfl⟩ := hl1.form
  obtain ⟨a2, c2, rfl⟩ := hl2.form
  go_wp2_with fail
  refine HSM.out.mono ?_
  rintro e w5 ⟨rfl, hx5⟩
  have hx05 := hx04.trans hx5
  go_wp2_with fail
  refine (HEX.out w5 hx05).mono ?_
  rintro e w6 ⟨rfl, hx6⟩
  go_wp2
  go_ret
  exact ⟨rfl, hx05.trans hx6⟩
end Go.Proofs.YtkembhpmfigbcaaDoor
