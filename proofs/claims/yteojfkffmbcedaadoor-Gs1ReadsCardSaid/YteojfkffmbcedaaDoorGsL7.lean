/-
  Chapter 14: the law Gs1Reads, walked.
  Condition: the table of white space reads as it is laid.
-/
import Derived.Test.YteojfkffmbcedaaDoorGsX2
import Derived.Test.YteojfkffmbcedaaDoorGsRA
import Derived.Test.YteojfkffmbcedaaDoorGsL1
namespace Go.Proofs.YteojfkffmbcedaaDoor
set_option linter.unusedVariables false
open Go.RowKit

theorem fromF_err : ∀ (n : Nat) (c : List Int) (acc : List Gs.El), (Gs.fromF n c acc).2 ≠ 0 → (Gs.fromF n c acc).1 = [] := by
  intro n
  induction n with
  | zero => intro c acc h; exact absurd rfl h
  | succ n ih =>
    intro c acc h
    rw [Gs.fromF] at h ⊢
    split
    · rename_i h1; rw [if_pos h1] at h; exact absurd rfl h
    · rename_i h1
      rw [if_neg h1] at h
      split
      · rfl
      · rename_i h2
        rw [if_neg h2] at h
        exact ih _ _ h
theorem from_len (cs : List Int) : (Gs.frChars cs).1.length ≤ 9223372036854775807 := by
  by_cases h : (Gs.frChars cs).2 = 0
  · have h1 : Gs.frChars cs = ((Gs.frChars cs).1, 0) := by rw [← h]
    have := chars_parts (chars_of_from h1)
    omega
  · have : (Gs.frChars cs).1 = [] := by
      unfold Gs.frChars at h ⊢
      split
      · rfl
      · rename_i h1
        rw [if_neg h1] at h
        split
        · rfl
        · rename_i h2
          rw [if_neg h2] at h
          split
          · rfl
          · rename_i h3
            rw [if_neg h3] at h
            split
            · rfl
            · rename_i h4
              rw [if_neg h4] at h
              exact fromF_err _ _ _ h
    rw [this]; simp

set_option maxRecDepth 100000 in
set_option maxHeartbeats 4000000 in
theorem law_reads (v : Value) (cs : List Int) (w : World) (hv : SlK w v (cs.map encI)) (hn : cs.length ≤ 9223372036854775807) (ht : Spaces w) :
    Calls Tryd.prog 3 #[v] w fun e w' => e = .returned (.bool true) ∧ Ext w w' := by
  have HT := Lib.hid ht
  have HP := Lib.hid (from_any v cs w hv hn ht)
  have HQ := Lib.hid (fun w' hx => rfrom_any v cs w' (hv.ext hx) hn)
  have HEX := Lib.hid (fun w' hx' => examples_any w' (tabIs_ext HT.out hx'))
  have HPL := Lib.hid (from_len cs)
  obtain ⟨_, av, cv, rfl, _⟩ := hv
  rw [List.length_map] at HP HQ ⊢
  generalize Gs.frChars cs = P at *
  obtain ⟨p1, p2⟩ := P
  obtain ⟨N, hN⟩ : ∃ N, cs.length = N := ⟨_, rfl⟩
  rw [hN] at hn HP HQ ⊢
  have b1 : (p2 == p2) = true := beq_self_eq_true _
  clear ht hN
  go_enter Tryd.func3, Tryd.ntmps3
  go_wp2_with fail
  refine HP.out.mono ?_
  rintro e w1 ⟨v1, rfl, hl1, hx1⟩
  dsimp only
  go_wp2_with fail
  refine (HQ.out w1 hx1).mono ?_
  rintro e w2 ⟨v2, rfl, hl2, hx2⟩
  dsimp only
  have hx02 := hx1.trans hx2
  have HSM := Lib.hid (lsame_any v1 v2 p1 w2 (hl1.ext hx2) hl2 HPL.out)
  obtain ⟨a1, c1, rfl⟩ := hl1.form
  obtain ⟨a2, c2, rfl⟩ := hl2.form
  go_wp2_with fail
  refine HSM.out.mono ?_
  rintro e w5 ⟨rfl, hx5⟩
  have hx05 := hx02.trans hx5
  go_wp2_with fail
  refine (HEX.out w5 hx05).mono ?_
  rintro e w6 ⟨rfl, hx6⟩
  go_wp2
  go_ret
  exact ⟨rfl, hx05.trans hx6⟩
end Go.Proofs.YteojfkffmbcedaaDoor
