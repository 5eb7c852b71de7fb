/-
  Chapter 12, plain laws: what Encode returns, Decode reads; one element turned, Decode returns an error.
  No condition.
-/
import Derived.Test.YthjlnpcaclfopaaGreatTwM3
namespace Go.Proofs.YthjlnpcaclfopaaGreat
open Go.RowKit

/-- What holds of the characters of a text. -/
structure Sym (k : Nat) (l : List UInt8) (check : Bool) (chars : List UInt8) : Prop where
  read : Tw.readK k (Tw.drawK k chars) = (chars, 0)
  turned : ∀ p, p < (Tw.drawK k chars).length → (Tw.readK k (turnAt (Tw.drawK k chars) p)).2 ≠ 0
  text : Tw.textK k chars check = l
  counts : Tw.countsK k (Tw.drawK k chars).length check = true
  odd : (Tw.drawK k chars).length % 2 = 1
  nw : NW (Tw.drawK k chars)
  both : ∀ p, (110 ∈ Tw.drawK k chars ∧ 119 ∈ Tw.drawK k chars) ∧ 110 ∈ turnAt (Tw.drawK k chars) p ∧ 119 ∈ turnAt (Tw.drawK k chars) p

theorem good39 : ∀ c ∈ Tw.c39, (pt Tw.c39 Tw.p39 9 c).length = 9 ∧ Tw.chr Tw.c39 Tw.p39 9 (pt Tw.c39 Tw.p39 9 c) = (c, true) := by decide +kernel
theorem goodCb : ∀ c ∈ Tw.cCb, (pt Tw.cCb Tw.pCb 7 c).length = 7 ∧ Tw.chr Tw.cCb Tw.pCb 7 (pt Tw.cCb Tw.pCb 7 c) = (c, true) := by decide +kernel
theorem nw39 : ∀ c ∈ Tw.c39, (∀ x ∈ pt Tw.c39 Tw.p39 9 c, x = 110 ∨ x = 119) ∧ 110 ∈ pt Tw.c39 Tw.p39 9 c ∧ 119 ∈ pt Tw.c39 Tw.p39 9 c := by decide +kernel
theorem nwCb : ∀ c ∈ Tw.cCb, (∀ x ∈ pt Tw.cCb Tw.pCb 7 c, x = 110 ∨ x = 119) ∧ 110 ∈ pt Tw.cCb Tw.pCb 7 c ∧ 119 ∈ pt Tw.cCb Tw.pCb 7 c := by decide +kernel
theorem nwItf : ∀ c ∈ Tw.cItf, ∀ x ∈ pd c, x = 110 ∨ x = 119 := by decide +kernel
theorem t39e : ∀ c ∈ ([42] : List UInt8), ∀ j : Fin 9, Tw.isIn [42] (Tw.chr Tw.c39 Tw.p39 9 (turnAt (pt Tw.c39 Tw.p39 9 c) j.val)) = false := by decide +kernel
theorem t39i : ∀ c ∈ Cd.syms, ∀ j : Fin 9, Tw.isIn Cd.syms (Tw.chr Tw.c39 Tw.p39 9 (turnAt (pt Tw.c39 Tw.p39 9 c) j.val)) = false := by decide +kernel
theorem tCbe : ∀ c ∈ Tw.eCb, ∀ j : Fin 7, Tw.isIn Tw.eCb (Tw.chr Tw.cCb Tw.pCb 7 (turnAt (pt Tw.cCb Tw.pCb 7 c) j.val)) = false := by decide +kernel
theorem tCbi : ∀ c ∈ Tw.dCb, ∀ j : Fin 7, Tw.isIn Tw.dCb (Tw.chr Tw.cCb Tw.pCb 7 (turnAt (pt Tw.cCb Tw.pCb 7 c) j.val)) = false := by decide +kernel
theorem syms39 : ∀ c ∈ Cd.syms, c ∈ Tw.c39 := by decide +kernel
theorem dcbc : ∀ c ∈ Tw.dCb, c ∈ Tw.cCb := by decide +kernel
theorem ecbc : ∀ c ∈ Tw.eCb, c ∈ Tw.cCb := by decide +kernel
theorem mem_index {l : List UInt8} {c : UInt8} (h : c ∈ l) : 0 ≤ Lib.indexByte l c := by
  have h1 := Lib.indexByte_ge l c
  rcases Int.lt_or_le (Lib.indexByte l c) 0 with h2 | h2
  · obtain ⟨i, hi, rfl⟩ := List.mem_iff_getElem.1 h
    exact absurd (List.getElem?_eq_getElem hi) (Lib.indexByte_none (by omega) i)
  · exact h2

/-- Both kinds of elements stay where there are two characters. -/
theorem two_blocks (e : List UInt8) (s1 s2 z p : Nat) (h12 : s1 + z ≤ s2) (m1 : 110 ∈ (e.drop s1).take z ∧ 119 ∈ (e.drop s1).take z) (m2 : 110 ∈ (e.drop s2).take z ∧ 119 ∈ (e.drop s2).take z) :
    (110 ∈ e ∧ 119 ∈ e) ∧ 110 ∈ turnAt e p ∧ 119 ∈ turnAt e p := by
  have sub : ∀ (l : List UInt8) (s : Nat) (x : UInt8), x ∈ (l.drop s).take z → x ∈ l := fun l s x hx => List.mem_of_mem_drop (List.mem_of_mem_take hx)
  refine ⟨⟨sub e s1 _ m1.1, sub e s1 _ m1.2⟩, ?_⟩
  by_cases h : p < s2
  · have := turn_far e s2 z p (.inl h)
    rw [← this] at m2
    exact ⟨sub _ s2 _ m2.1, sub _ s2 _ m2.2⟩
  · have := turn_far e s1 z p (.inr (by omega))
    rw [← this] at m1
    exact ⟨sub _ s1 _ m1.1, sub _ s1 _ m1.2⟩
theorem drawn_nw (cs ps : List UInt8) (z : Nat) (chars : List UInt8) (h : ∀ c ∈ chars, ∀ x ∈ pt cs ps z c, x = 110 ∨ x = 119) : NW (drawn cs ps z chars) := by
  intro x hx
  unfold drawn at hx
  cases chars with
  | nil => simp [Lib.join, List.intercalate] at hx
  | cons c r =>
    have hx' : x ∈ 110 :: Lib.join ((c :: r).map (pt cs ps z)) [110] := List.mem_cons_of_mem _ hx
    rw [join_flat _ (by simp), List.mem_flatten] at hx'
    obtain ⟨b, hb, hxb⟩ := hx'
    rw [List.mem_map] at hb
    obtain ⟨y, hy, rfl⟩ := hb
    rw [List.mem_map] at hy
    obtain ⟨d, hd, rfl⟩ := hy
    rcases List.mem_cons.1 hxb with rfl | h1
    · exact .inl rfl
    · exact h d hd x h1

/-- Separated characters. -/
theorem sym_spaced (cs ps edge inner : List UInt8) (z : Nat) (chars : List UInt8) (_ : 1 ≤ z) (hn : 2 ≤ chars.length) (hg : ∀ c ∈ cs, Good cs ps z c) (hw : ∀ c ∈ cs, (∀ x ∈ pt cs ps z c, x = 110 ∨ x = 119) ∧ 110 ∈ pt cs ps z c ∧ 119 ∈ pt cs ps z c)
    (he : ∀ c ∈ edge, c ∈ cs) (hi : ∀ c ∈ inner, c ∈ cs) (hte : ∀ c ∈ edge, ∀ j, j < z → Tw.isIn edge (Tw.chr cs ps z (turnAt (pt cs ps z c) j)) = false) (hti : ∀ c ∈ inner, ∀ j, j < z → Tw.isIn inner (Tw.chr cs ps z (turnAt (pt cs ps z c) j)) = false)
    (hs : ∀ i (h : i < chars.length), chars[i] ∈ setAt edge inner chars.length i) :
    Tw.read cs ps edge inner z (drawn cs ps z chars) = (chars, 0) ∧ (∀ p, p < (drawn cs ps z chars).length → (Tw.read cs ps edge inner z (turnAt (drawn cs ps z chars) p)).2 ≠ 0) ∧ (drawn cs ps z chars).length + 1 = chars.length * (z + 1) ∧ NW (drawn cs ps z chars) ∧
      ∀ p, (110 ∈ drawn cs ps z chars ∧ 119 ∈ drawn cs ps z chars) ∧ 110 ∈ turnAt (drawn cs ps z chars) p ∧ 119 ∈ turnAt (drawn cs ps z chars) p := by
  have hcs : ∀ c ∈ chars, c ∈ cs := by
    intro c hc
    obtain ⟨i, h, rfl⟩ := List.mem_iff_getElem.1 hc
    have := hs i h
    unfold setAt at this
    split at this
    · exact he _ this
    · exact hi _ this
  have hG : ∀ c ∈ chars, Good cs ps z c := fun c hc => hg c (hcs c hc)
  have hS : ∀ i (h : i < chars.length), 0 ≤ Lib.indexByte (setAt edge inner chars.length i) chars[i] := fun i h => mem_index (hs i h)
  have hne : chars ≠ [] := by intro e; rw [e] at hn; simp at hn
  refine ⟨read_drawn hG hn hS, fun p hp => read_turned hG hn hS (fun c hc j hj => hte c (index_mem hc) j hj) (fun c hc j hj => hti c (index_mem hc) j hj) p hp, drawn_len hG hne, drawn_nw cs ps z chars (fun c hc => (hw c (hcs c hc)).1), fun p => ?_⟩
  have b0 := drawn_cut hG 0 (by omega)
  have b1 := drawn_cut hG 1 (by omega)
  refine two_blocks _ (0 * (z + 1)) (1 * (z + 1)) z p (by omega) ?_ ?_
  · rw [b0]; exact (hw _ (hcs _ (List.getElem_mem _))).2
  · rw [b1]; exact (hw _ (hcs _ (List.getElem_mem _))).2

theorem only_mem {l cs : List UInt8} (h : Tw.only l cs = true) : ∀ c ∈ l, c ∈ cs := by
  intro c hc
  unfold Tw.only at h
  rw [List.all_eq_true] at h
  exact index_mem (by simpa using h c hc)
end Go.Proofs.YthjlnpcaclfopaaGreat
