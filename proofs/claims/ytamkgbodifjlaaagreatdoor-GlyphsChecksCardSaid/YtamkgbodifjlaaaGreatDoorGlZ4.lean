/-
  Chapter 48, plain: one pixel of each glyph inverted, one glyph after the other.
  No condition.
-/
import Derived.Test.YtamkgbodifjlaaaGreatDoorGlZa
namespace Go.Proofs.YtamkgbodifjlaaaGreatDoor.Gl

theorem solid_chars0 : ∀ n : Fin 256, solid (UInt8.ofNat n.1) = true → UInt8.ofNat n.1 ∈ chars := by decide +kernel
theorem solid_chars {c : UInt8} (h : solid c = true) : c ∈ chars := by
  have h1 := solid_chars0 ⟨c.toNat, c.toNat_lt⟩
  simp only [UInt8.ofNat_toNat] at h1
  exact h1 h
/-- The pixel that is inverted in the glyph i. -/
def psOf (us : List Nat) (i : Nat) : Nat := if us.length = 0 then 0 else us.getD (i % us.length) 0 % 35
theorem psOf_lt (us : List Nat) (i : Nat) : psOf us i < 35 := by
  unfold psOf
  split
  · decide
  · exact Nat.mod_lt _ (by decide)
/-- The bitmap when the first i glyphs have been changed. -/
structure BentI (l : List UInt8) (us : List Nat) (i : Nat) (m : List Bool) : Prop where
  len : m.length = wid l 1 * 7
  px : ∀ x y, x < wid l 1 → y < 7 → m.getD (y * wid l 1 + x) false = (px l 1 x y != (decide (x % 6 < 5) && decide (x / 6 < i) && (y * 5 + x % 6 == psOf us (x / 6))))
theorem BentI.start (l : List UInt8) (us : List Nat) : BentI l us 0 (drawn l 1) where
  len := by rw [drawn_len]
  px x y hx hy := by
    rw [drawn_at l 1 x y hx (by omega)]
    simp
theorem BentI.ends {l : List UInt8} {us : List Nat} {m : List Bool} (h : BentI l us l.length m) (x y : Nat) (hx : x < wid l 1) (hy : y < 7) : m.getD (y * wid l 1 + x) false = (Gl.px l 1 x y != (decide (x % 6 < 5) && (y * 5 + x % 6 == psOf us (x / 6)))) := by
  rw [h.px x y hx hy]
  have : x / 6 < l.length := by unfold wid at hx; omega
  rw [decide_eq_true this, Bool.and_true]
/-- The place of the pixel. -/
def bentAt (l : List UInt8) (us : List Nat) (i : Nat) : Nat := psOf us i / 5 * wid l 1 + (6 * i + psOf us i % 5)
theorem bentAt_lt (l : List UInt8) (us : List Nat) (i : Nat) (hi : i < l.length) : bentAt l us i < wid l 1 * 7 := by
  have h0 := psOf_lt us i
  unfold bentAt
  have h1 : psOf us i / 5 * wid l 1 ≤ 6 * wid l 1 := Nat.mul_le_mul_right _ (by omega)
  have h2 : 6 * i + psOf us i % 5 < wid l 1 := by unfold wid; omega
  omega
theorem BentI.step {l : List UInt8} {us : List Nat} {i : Nat} {m : List Bool} (h : BentI l us i m) (hi : i < l.length) : BentI l us (i + 1) (m.set (bentAt l us i) (!m.getD (bentAt l us i) false)) where
  len := by rw [List.length_set]; exact h.len
  px x y hx hy := by
    have h0 := psOf_lt us i
    have hW : 6 * i + psOf us i % 5 < wid l 1 := by unfold wid; omega
    have hp := bentAt_lt l us i hi
    rw [set_at _ _ _ _ _ (by rw [h.len]; exact hp)]
    obtain ⟨W, hWd⟩ : ∃ W, wid l 1 = W := ⟨_, rfl⟩
    have hbx : bentAt l us i = psOf us i / 5 * W + (6 * i + psOf us i % 5) := by unfold bentAt; rw [hWd]
    by_cases e : y * wid l 1 + x = bentAt l us i
    · rw [if_pos e, ← e, h.px x y hx hy]
      rw [hbx, hWd] at e
      rw [hWd] at hW hx
      have hd : y = psOf us i / 5 ∧ x = 6 * i + psOf us i % 5 := by
        have e1 : (y * W + x) / W = y := by rw [Nat.mul_comm, Nat.mul_add_div (by omega), Nat.div_eq_of_lt hx, Nat.add_zero]
        have e2 : (psOf us i / 5 * W + (6 * i + psOf us i % 5)) / W = psOf us i / 5 := by rw [Nat.mul_comm, Nat.mul_add_div (by omega), Nat.div_eq_of_lt hW, Nat.add_zero]
        have e3 : y = psOf us i / 5 := by rw [← e1, e, e2]
        refine ⟨e3, ?_⟩
        rw [e3] at e
        omega
      obtain ⟨hy2, hx2⟩ := hd
      have hx6 : x / 6 = i := by omega
      have hxm : x % 6 = psOf us i % 5 := by omega
      have hs : y * 5 + x % 6 = psOf us (x / 6) := by rw [hx6]; omega
      rw [hs, decide_eq_true (show x % 6 < 5 by omega), decide_eq_false (show ¬ x / 6 < i by omega), decide_eq_true (show x / 6 < i + 1 by omega)]
      simp
    · rw [if_neg e, h.px x y hx hy]
      congr 1
      by_cases hx5 : x % 6 < 5
      · by_cases hxi : x / 6 = i
        · have hne : (y * 5 + x % 6 == psOf us (x / 6)) = false := by
            rw [beq_eq_false_iff_ne]
            intro hs
            rw [hxi] at hs
            refine e ?_
            rw [hbx, hWd]
            have h1 : y = psOf us i / 5 := by omega
            have h2 : x = 6 * i + psOf us i % 5 := by omega
            rw [← h1, ← h2]
          rw [hne, Bool.and_false, Bool.and_false]
        · rw [show decide (x / 6 < i + 1) = decide (x / 6 < i) from by
            by_cases h1 : x / 6 < i
            · rw [decide_eq_true h1, decide_eq_true (by omega)]
            · rw [decide_eq_false h1, decide_eq_false (by omega)]]
      · rw [decide_eq_false hx5, Bool.false_and, Bool.false_and, Bool.false_and, Bool.false_and]
end Go.Proofs.YtamkgbodifjlaaaGreatDoor.Gl
