/-
  Chapter 14: the laws Gs1Canonical and Gs1RoundTrip, walked.
  Condition: the table of white space reads as it is laid; within the reach.
-/
import Derived.Test.YtkembhpmfigbcaaDoorGsX2
namespace Go.Proofs.YtkembhpmfigbcaaDoor
set_option linter.unusedVariables false
open Go.RowKit

theorem verL_sizes {xs : List Gs.El} (h : Gs.verL xs = 0) : ∀ x ∈ xs, x.1.length ≤ maxLen ∧ x.2.length ≤ maxLen := by
  intro x hx
  have := ver_sizes (verL_mem h x hx)
  unfold maxLen
  omega
theorem flat_ge (xs : List Gs.El) : xs.length ≤ (xs.flatMap Gs.fmtE).length := by
  induction xs with
  | nil => simp
  | cons x xs ih => simp only [List.flatMap_cons, List.length_append, List.length_cons, Gs.fmtE]; omega
theorem format_parts {xs : List Gs.El} {s : List UInt8} (h : Gs.format xs = (s, 0)) : Gs.verL xs = 0 ∧ xs.length ≤ 4096 ∧ s.length ≤ 4096 := by
  unfold Gs.format at h
  split at h
  · rename_i h1; simp only [Prod.mk.injEq] at h; exact absurd h.2 h1
  · split at h
    · simp at h
    · rename_i h1 h2
      simp only [Prod.mk.injEq, and_true] at h
      subst h
      have := flat_ge xs
      exact ⟨verAll_zero (Decidable.of_not_not h1), by omega, by omega⟩
theorem chG_ge {xs : List Gs.El} (h : Gs.verL xs = 0) : xs.length ≤ (Gs.chG xs).length := by
  induction xs with
  | nil => simp
  | cons x xs ih =>
    obtain ⟨h0, h1⟩ := verL_cons h
    obtain ⟨r, h2, _⟩ := ver_find h0
    have h3 := (ai_ok h2).1
    have h4 := ih h1
    simp only [Gs.chG, List.length_append, ints_len, List.length_cons]
    omega
theorem chars_parts {xs : List Gs.El} {c : List Int} (h : Gs.chars xs = (c, 0)) : Gs.verL xs = 0 ∧ xs.length ≤ 4096 ∧ c.length ≤ 4096 := by
  unfold Gs.chars at h
  split at h
  · rename_i h1; simp only [Prod.mk.injEq] at h; exact absurd h.2 h1
  · split at h
    · simp at h
    · rename_i h1 h2
      simp only [Prod.mk.injEq, and_true] at h
      subst h
      have h3 := verAll_zero (Decidable.of_not_not h1)
      have := chG_ge h3
      rw [List.length_cons] at h2
      exact ⟨h3, by omega, by rw [List.length_cons]; omega⟩
set_option maxRecDepth 100000 in
set_option maxHeartbeats 4000000 in
theorem law_canonical (s : ByteArray) (v : Value) (cs : List Int) (w : World) (hs : s.size ≤ maxLen) (hv : SlK w v (cs.map encI)) (hn : cs.length ≤ 9223372036854775807) (ht : Spaces w) :
    Calls Tryd.prog 7 #[.string s, v] w fun e w' => e = .returned (.bool true) ∧ Ext w w' := by
  have HT := Lib.hid ht
  have HP := Lib.hid (parse_any s hs w ht)
  have HV := Lib.hid hv
  obtain ⟨_, av, cv, rfl, _⟩ := hv
  have HFR := Lib.hid (fun w' hx => from_any _ cs w' (HV.out.ext hx) hn (tabIs_ext HT.out hx))
  have HEX := Lib.hid (fun w' hx => examples_any w' (tabIs_ext HT.out hx))
  rw [List.length_map] at HV HFR ⊢
  have HPF : Hid (∀ xs, Gs.parse s.data.toList = (xs, 0) → Gs.format xs = (s.data.toList, 0)) := Lib.hid (fun xs h => format_of_parse h)
  have HCF : Hid (∀ xs, Gs.frChars cs = (xs, 0) → Gs.chars xs = (cs, 0)) := Lib.hid (fun xs h => chars_of_from h)
  generalize Gs.parse s.data.toList = P at *
  generalize Gs.frChars cs = Q at *
  obtain ⟨p1, p2⟩ := P
  obtain ⟨q1, q2⟩ := Q
  obtain ⟨N, hN⟩ : ∃ N, cs.length = N := ⟨_, rfl⟩
  have HN := Lib.hid hN
  rw [hN] at hn HV HFR ⊢
  clear ht hs hN
  have SECOND : Hid (∀ w', Ext w w' → q2 = 0 → ∀ u, ESl w' u q1 → Calls Tryd.prog 22 #[u] w' (IntsR (cs, 0) w')) := Lib.hid (fun w' hx h0 u hu => by
    subst h0
    have h1 := HCF.out _ rfl
    obtain ⟨h2, h3, _⟩ := chars_parts h1
    have := chars_any u q1 w' hu (by omega) (verL_sizes h2) (tabIs_ext HT.out hx)
    rw [h1] at this; exact this)
  have FIRST : Hid (∀ w', Ext w w' → p2 = 0 → ∀ u, ESl w' u p1 → Calls Tryd.prog 17 #[u] w' (StrR (s.data.toList, 0) w')) := Lib.hid (fun w' hx h0 u hu => by
    subst h0
    have h1 := HPF.out _ rfl
    obtain ⟨h2, h3, _⟩ := format_parts h1
    have := format_any u p1 w' hu (by omega) (verL_sizes h2) (tabIs_ext HT.out hx)
    rw [h1] at this; exact this)
  clear HPF HCF
  by_cases hp : p2 = 0
  · have F1 := Lib.hid (fun w' hx u hu => FIRST.out w' hx hp u hu)
    subst hp
    by_cases hq : q2 = 0
    · have F2 := Lib.hid (fun w' hx u hu => SECOND.out w' hx hq u hu)
      subst hq
      clear FIRST SECOND
      go_enter Tryd.func7, Tryd.ntmps7
      go_wp2_with fail
      refine HP.out.mono ?_
      rintro e w1 ⟨v1, rfl, hl1, hx1⟩
      dsimp only
      go_wp2_with fail
      refine (F1.out w1 hx1 v1 hl1).mono ?_
      rintro e w2 ⟨rfl, hx2⟩
      simp only [encS_of]
      have hx02 := hx1.trans hx2
      go_wp2_with fail
      refine (HFR.out w2 hx02).mono ?_
      rintro e w3 ⟨v3, rfl, hl3, hx3⟩
      dsimp only
      have hx03 := hx02.trans hx3
      go_wp2_with fail
      refine (F2.out w3 hx03 v3 hl3).mono ?_
      rintro e w4 ⟨v4, rfl, hl4, hx4⟩
      dsimp only
      have hx04 := hx03.trans hx4
      have HEQ := Lib.hid (lequal_any v4 _ cs w4 hl4.1 (HV.out.1.ext hx04) (by rw [HN.out]; exact hn))
      go_wp2_with fail
      refine HEQ.out.mono ?_
      rintro e w5 ⟨rfl, hx5⟩
      have hx05 := hx04.trans hx5
      go_wp2_with fail
      refine (HEX.out w5 hx05).mono ?_
      rintro e w6 ⟨rfl, hx6⟩
      go_wp2
      go_ret
      exact ⟨rfl, hx05.trans hx6⟩
    · have hq1 : (q2 == 0) = false := by simpa using hq
      clear FIRST SECOND hq
      go_enter Tryd.func7, Tryd.ntmps7
      go_wp2_with fail
      refine HP.out.mono ?_
      rintro e w1 ⟨v1, rfl, hl1, hx1⟩
      dsimp only
      go_wp2_with fail
      refine (F1.out w1 hx1 v1 hl1).mono ?_
      rintro e w2 ⟨rfl, hx2⟩
      simp only [encS_of]
      have hx02 := hx1.trans hx2
      go_wp2_with fail
      refine (HFR.out w2 hx02).mono ?_
      rintro e w3 ⟨v3, rfl, hl3, hx3⟩
      dsimp only
      have hx03 := hx02.trans hx3
      go_wp2_with fail
      refine (HEX.out w3 hx03).mono ?_
      rintro e w6 ⟨rfl, hx6⟩
      go_wp2
      go_ret
      exact ⟨rfl, hx03.trans hx6⟩
  · have hp1 : (p2 == 0) = false := by simpa using hp
    by_cases hq : q2 = 0
    · have F2 := Lib.hid (fun w' hx u hu => SECOND.out w' hx hq u hu)
      subst hq
      clear FIRST SECOND hp
      go_enter Tryd.func7, Tryd.ntmps7
      go_wp2_with fail
      refine HP.out.mono ?_
      rintro e w1 ⟨v1, rfl, hl1, hx1⟩
      dsimp only
      have hx02 := hx1
      go_wp2_with fail
      refine (HFR.out w1 hx02).mono ?_
      rintro e w3 ⟨v3, rfl, hl3, hx3⟩
      dsimp only
      have hx03 := hx02.trans hx3
      go_wp2_with fail
      refine (F2.out w3 hx03 v3 hl3).mono ?_
      rintro e w4 ⟨v4, rfl, hl4, hx4⟩
      dsimp only
      have hx04 := hx03.trans hx4
      have HEQ := Lib.hid (lequal_any v4 _ cs w4 hl4.1 (HV.out.1.ext hx04) (by rw [HN.out]; exact hn))
      go_wp2_with fail
      refine HEQ.out.mono ?_
      rintro e w5 ⟨rfl, hx5⟩
      have hx05 := hx04.trans hx5
      go_wp2_with fail
      refine (HEX.out w5 hx05).mono ?_
      rintro e w6 ⟨rfl, hx6⟩
      go_wp2
      go_ret
      exact ⟨rfl, hx05.trans hx6⟩
    · have hq1 : (q2 == 0) = false := by simpa using hq
      clear FIRST SECOND hp hq
      go_enter Tryd.func7, Tryd.ntmps7
      go_wp2_with fail
      refine HP.out.mono ?_
      rintro e w1 ⟨v1, rfl, hl1, hx1⟩
      dsimp only
      go_wp2_with fail
      refine (HFR.out w1 hx1).mono ?_
      rintro e w3 ⟨v3, rfl, hl3, hx3⟩
      dsimp only
      have hx03 := hx1.trans hx3
      go_wp2_with fail
      refine (HEX.out w3 hx03).mono ?_
      rintro e w6 ⟨rfl, hx6⟩
      go_wp2
      go_ret
      exact ⟨rfl, hx03.trans hx6⟩
end Go.Proofs.YtkembhpmfigbcaaDoor
