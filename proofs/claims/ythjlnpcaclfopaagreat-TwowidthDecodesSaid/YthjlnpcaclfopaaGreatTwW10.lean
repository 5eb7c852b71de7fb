/-
  Chapter 12: Pattern and Encode, walked.
  Condition: the text is within the reach.
-/
import Derived.Test.YthjlnpcaclfopaaGreatTwW9
namespace Go.Proofs.YthjlnpcaclfopaaGreat
open Go.RowKit

theorem bits_row (s : ByteArray) : (List.range s.size).map (fun k => encT (s.data.toList.getD k 0 == 119)) = (Tw.bits s.data.toList).map encT := by
  apply List.ext_getElem
  · simp [Tw.bits]
  · intro i h1 h2
    simp [Tw.bits] at h1 h2 ⊢
    simp [h1]

/-- What Pattern returns. -/
def PatR (r : List Bool × Int) (w : World) (e : Ending) (w' : World) : Prop := ∃ v, e = .returned (.tuple #[v, .int .i64 r.2]) ∧ Sl w' v (r.1.map encT) ∧ Ext w w'

theorem pat_len (cs ps : List UInt8) (z : Nat) (c : UInt8) (hz : z ≤ 9) : (Tw.pat cs ps z c).1.length ≤ 9 := by
  unfold Tw.pat Tw.cutAt; split
  · simp
  · simp only [List.length_take]; omega
theorem patK_len (k : Nat) (c : UInt8) : (Tw.patK k c).1.length ≤ 9 := by
  unfold Tw.patK; split <;> exact pat_len _ _ _ _ (by omega)
theorem sl_nil (w : World) : Sl w (.slice none 0 0) [] := .inl ⟨rfl, _, _, rfl⟩
theorem Sl.drew {w : World} {v : Value} {xs : List Value} (h : Sl w v xs) : Sl w.drew v xs := h
theorem ib119 (c : UInt8) : (((c.toNat : Int) == 119) = (c == 119)) := by
  rw [Bool.eq_iff_iff, beq_iff_eq, beq_iff_eq]
  constructor
  · intro h; exact UInt8.toNat_inj.1 (by have : (119 : UInt8).toNat = 119 := rfl; omega)
  · intro h; rw [h]; rfl

end Go.Proofs.YthjlnpcaclfopaaGreat
