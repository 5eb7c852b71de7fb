/-
  Chapter 51: dates in values: the reference (begun).
  No condition.
-/
import Derived.Test.YtkpfehfcgpapiaaGreatDoorFmXD
namespace Go.Proofs.YtkpfehfcgpapiaaGreatDoor
set_option linter.unusedVariables false
open Go.RowKit

/-- A date's text, place by place. -/
theorem dateB_at (s : Fm.S) (hl : s.length = 10) : Fm.dateB s = true ↔ ∀ (i : Nat) (h : i < s.length), if i = 4 ∨ i = 7 then s[i] = 45 else Fm.dg s[i] = true := by
  match s, hl with
  | [a, b, c, d, e, f, g, h, i, j], _ =>
    constructor
    · intro hd k hk
      unfold Fm.dateB at hd
      simp at hd
      have : k = 0 ∨ k = 1 ∨ k = 2 ∨ k = 3 ∨ k = 4 ∨ k = 5 ∨ k = 6 ∨ k = 7 ∨ k = 8 ∨ k = 9 := by simp at hk; omega
      rcases this with rfl | rfl | rfl | rfl | rfl | rfl | rfl | rfl | rfl | rfl <;> simp [hd]
    · intro hk
      have h0 := hk 0 (by simp)
      have h1 := hk 1 (by simp)
      have h2 := hk 2 (by simp)
      have h3 := hk 3 (by simp)
      have h4 := hk 4 (by simp)
      have h5 := hk 5 (by simp)
      have h6 := hk 6 (by simp)
      have h7 := hk 7 (by simp)
      have h8 := hk 8 (by simp)
      have h9 := hk 9 (by simp)
      simp at h0 h1 h2 h3 h4 h5 h6 h7 h8 h9
      unfold Fm.dateB
      simp [h0, h1, h2, h3, h4, h5, h6, h7, h8, h9]
end Go.Proofs.YtkpfehfcgpapiaaGreatDoor
