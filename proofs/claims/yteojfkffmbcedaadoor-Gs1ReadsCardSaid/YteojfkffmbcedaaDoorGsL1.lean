/-
  Chapter 14: the laws Gs1Canonical and Gs1RoundTrip, walked.
  Condition: the table of white space reads as it is laid; within the reach.
-/
import Derived.Test.YteojfkffmbcedaaDoorGsX2
namespace Go.Proofs.YteojfkffmbcedaaDoor
set_option linter.unusedVariables false
open Go.RowKit

theorem verL_sizes {xs : List Gs.El} (h : Gs.verL xs = 0) : ∀ x ∈ xs, x.1.length ≤ maxLen ∧ x.2.length ≤ maxLen := by
  intro x hx
  have := ver_sizes (verL_mem h x hx)
  unfold maxLen
  omega
theorem flat_ge (xs : List Gs.El) : xs.length ≤ (xs.flatMap Gs.fmtE).length := by
  induction xs with
  | nil => simp
  | cons x xs ih => simp only [List.flatMap_cons, List.length_append, List.length_cons, Gs.fmtE]; omega
theorem format_parts {xs : List Gs.El} {s : List UInt8} (h : Gs.format xs = (s, 0)) : Gs.verL xs = 0 ∧ xs.length ≤ 4096 ∧ s.length ≤ 4096 := by
  unfold Gs.format at h
  split at h
  · rename_i h1; simp only [Prod.mk.injEq] at h; exact absurd h.2 h1
  · split at h
    · simp at h
    · rename_i h1 h2
      simp only [Prod.mk.injEq, and_true] at h
      subst h
      have := flat_ge xs
      exact ⟨verAll_zero (Decidable.of_not_not h1), by omega, by omega⟩
theorem chG_ge {xs : List Gs.El} (h : Gs.verL xs = 0) : xs.length ≤ (Gs.chG xs).length := by
  induction xs with
  | nil => simp
  | cons x xs ih =>
    obtain ⟨h0, h1⟩ := verL_cons h
    obtain ⟨r, h2, _⟩ := ver_find h0
    have h3 := (ai_ok h2).1
    have h4 := ih h1
    simp only [Gs.chG, List.length_append, ints_len, List.length_cons]
    omega
theorem chars_parts {xs : List Gs.El} {c : List Int} (h : Gs.chars xs = (c, 0)) : Gs.verL xs = 0 ∧ xs.length ≤ 4096 ∧ c.length ≤ 4096 := by
  unfold Gs.chars at h
  split at h
  · rename_i h1; simp only [Prod.mk.injEq] at h; exact absurd h.2 h1
  · split at h
    · simp at h
    · rename_i h1 h2
      simp only [Prod.mk.injEq, and_true] at h
      subst h
      have h3 := verAll_zero (Decidable.of_not_not h1)
      have := chG_ge h3
      rw [List.length_cons] at h2
      exact ⟨h3, by omega, by rw [List.length_cons]; omega⟩
end Go.Proofs.YteojfkffmbcedaaDoor
