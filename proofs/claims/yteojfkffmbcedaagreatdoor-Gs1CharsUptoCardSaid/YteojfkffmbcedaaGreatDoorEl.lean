/-
  Slices of elements (two strings each): a call's own ones, appended to, read as lists.
  No condition.
-/
import Derived.Test.YteojfkffmbcedaaGreatDoorGsP
namespace Go.Proofs.YteojfkffmbcedaaGreatDoor
open Go.RowKit

theorem encS_of (s : ByteArray) : encS s.data.toList = .string s := by unfold encS; rw [mk_toList]
def elC (xs : List Gs.El) : List Value := xs.flatMap fun x => [encS x.1, encS x.2]
theorem elC_len (xs : List Gs.El) : (elC xs).length = xs.length * 2 := by
  induction xs with
  | nil => rfl
  | cons x xs ih => simp only [elC, List.flatMap_cons, List.length_append, List.length_cons, List.length_nil] at ih ⊢; omega
theorem elC_snoc (xs : List Gs.El) (x : Gs.El) : elC (xs ++ [x]) = elC xs ++ [encS x.1, encS x.2] := by simp [elC]
theorem elC_at (xs : List Gs.El) : ∀ (i : Nat) (x : Gs.El), xs[i]? = some x → (elC xs)[i * 2]? = some (encS x.1) ∧ (elC xs)[i * 2 + 1]? = some (encS x.2) := by
  induction xs with
  | nil => intro i x h; simp at h
  | cons y ys ih =>
    intro i x h
    cases i with
    | zero => simp only [List.getElem?_cons_zero, Option.some.injEq] at h; subst h; exact ⟨rfl, rfl⟩
    | succ i =>
      rw [List.getElem?_cons_succ] at h
      have := ih i x h
      have e1 : (i + 1) * 2 = i * 2 + 1 + 1 := by omega
      rw [e1]
      simp only [elC, List.flatMap_cons, List.cons_append, List.nil_append, List.getElem?_cons_succ] at this ⊢
      exact this
/-- v is a slice of the call's own that holds the elements xs. -/
def EOwn (w : World) (B : Nat) (v : Value) (xs : List Gs.El) : Prop := w.ownsRow B 35 2 v xs.length (elC xs)
theorem EOwn.nil (w : World) (B : Nat) : EOwn w B (.slice none 0 0) [] := World.ownsRow_nil _ _ _ _
section
variable {w w' : World} {B : Nat} {v : Value} {xs : List Gs.El}
theorem EOwn.ext (h : EOwn w B v xs) (hx : Ext w w') : EOwn w' B v xs := by
  refine World.ownsRow.kept h hx.asGrown ?_
  cases hv : v.ownBlock with
  | none => exact .inl rfl
  | some k => exact .inr (by simp)
theorem EOwn.low (h : EOwn w B v xs) : ∀ k, v.ownBlock = some k → B ≤ k := fun k hk => (World.ownsRow.lt h k hk).1
theorem EOwn.mono {B' : Nat} (h : EOwn w B v xs) (hB : B' ≤ B) : EOwn w B' v xs := by
  obtain ⟨h1, h2⟩ := h
  refine ⟨h1, ?_⟩
  rcases h2 with h2 | ⟨g, cap, cur, h3, h4, h5⟩
  · exact .inl h2
  · exact .inr ⟨g, cap, cur, h3, Nat.le_trans hB h4, h5⟩
end
/-- A slice that reads as a list of elements. -/
def ESl (w : World) (v : Value) (xs : List Gs.El) : Prop :=
  (xs = [] ∧ ∃ a c, v = .slice a 0 c) ∨ ∃ b off cap, v = .slice (some ⟨b, off, none⟩) xs.length cap ∧ b < w.heap.size ∧ ∀ i x, xs[i]? = some x → w.cell? ⟨b, off + i * 2, none⟩ = some (encS x.1) ∧ w.cell? ⟨b, off + i * 2 + 1, none⟩ = some (encS x.2)
theorem ESl.ext {w w' : World} {v : Value} {xs : List Gs.El} (h : ESl w v xs) (hx : Ext w w') : ESl w' v xs := by
  rcases h with h | ⟨b, off, cap, h1, h2, h3⟩
  · exact .inl h
  · refine .inr ⟨b, off, cap, h1, Nat.lt_of_lt_of_le h2 hx.size, fun i x hi => ?_⟩
    rw [hx.cell (p := ⟨b, off + i * 2, none⟩) h2, hx.cell (p := ⟨b, off + i * 2 + 1, none⟩) h2]; exact h3 i x hi
theorem EOwn.sl {w : World} {B : Nat} {v : Value} {xs : List Gs.El} (h : EOwn w B v xs) : ESl w v xs := by
  rcases h.2 with ⟨hnil, h0⟩ | ⟨g, cap, cur, hv, hbase, hb, h1, h2, h3, h4⟩
  · exact .inl ⟨List.eq_nil_of_length_eq_zero h0, _, _, hnil⟩
  · refine .inr ⟨g, 0, cap, hv, (Array.getElem?_eq_some_iff.1 hb).1, fun i x hi => ?_⟩
    have hh := h
    unfold EOwn at hh
    rw [hv] at hh
    have hil : i < xs.length := by
      rcases Nat.lt_or_ge i xs.length with h | h
      · exact h
      · rw [List.getElem?_eq_none h] at hi; simp at hi
    rw [Nat.zero_add, hh.cellAt (i * 2) (by omega), hh.cellAt (i * 2 + 1) (by omega)]
    exact elC_at xs i x hi
theorem ESl.form {w : World} {v : Value} {xs : List Gs.El} (h : ESl w v xs) : ∃ a c, v = .slice a xs.length c := by
  rcases h with ⟨rfl, a, c, rfl⟩ | ⟨b, off, cap, rfl, _⟩
  · exact ⟨a, c, rfl⟩
  · exact ⟨_, _, rfl⟩
theorem ESl.at_ {w : World} {a : Option Addr} {n c : Nat} {xs : List Gs.El} (h : ESl w (.slice a n c) xs) {k : Nat} {x : Gs.El} (hk : xs[k]? = some x) :
    ∃ b off, a = some ⟨b, off, none⟩ ∧ b < w.heap.size ∧ w.cell? ⟨b, off + k * 2, none⟩ = some (encS x.1) ∧ w.cell? ⟨b, off + k * 2 + 1, none⟩ = some (encS x.2) := by
  rcases h with ⟨rfl, _⟩ | ⟨b, off, cap, he, hb, hc⟩
  · simp at hk
  · injection he with h1 h2 h3
    exact ⟨b, off, h1, hb, hc k x hk⟩
theorem info_el : (Tryz.prog.info? 35).map (fun i => (i.zero, i.size, i.bytes)) = some (some (.agg #[.string ⟨#[]⟩, .string ⟨#[]⟩]), 2, 32) := by kernel_rfl
theorem append_el {w : World} {ops : Array Oper} {rest : List Oper} {o : Oper} {a : Act} {Q : Exit → Act → World → Prop} (hgd : o.guard = none) (s x : Operand)
    (ho : o.op = .call { callee := .builtin .append, args := #[s, x], argTypes := #[22, 22] })
    (B : Nat) (v : Value) (xs : List Gs.El) (hs : a.eval s = v) (hown : EOwn w B v xs) (b : Nat) (u : Gs.El) (hx : a.eval x = .slice (some ⟨b, 0, none⟩) 1 1)
    (hc : w.cell? ⟨b, 0, none⟩ = some (encS u.1)) (hc1 : w.cell? ⟨b, 1, none⟩ = some (encS u.2)) (hn : xs.length ≤ 999999999) (hB : B ≤ w.heap.size)
    (h : ∀ v' w', EOwn w' B v' (xs ++ [u]) → w.grownBy w' v.ownBlock → wpList Tryz.prog ops Q rest (a.put o.dst v') w') : wpList Tryz.prog ops Q (o :: rest) a w := by
  obtain ⟨i0, hi, hz0, hz1, hz2⟩ := info_parts info_el
  refine wpList_append_own _ hgd s x 22 ho B 35 i0 _ 2 32 Tryz.underlying22 hi hz0 hz1 hz2 rfl (by decide) v xs.length (elC xs) hs hown ⟨b, 0, none⟩ 1 1 [encS u.1, encS u.2] hx rfl ?_ ?_ ?_ ?_ hB ?_
  · intro j u' hj
    rw [add_at]
    match j with
    | 0 => simp only [List.getElem?_cons_zero, Option.some.injEq] at hj; subst hj; exact hc
    | 1 => simp only [List.getElem?_cons_succ, List.getElem?_cons_zero, Option.some.injEq] at hj; subst hj; exact hc1
    | j + 2 => simp at hj
  · intro u' hu
    simp only [List.mem_cons, List.not_mem_nil, or_false] at hu
    rcases hu with rfl | rfl <;> rfl
  · unfold maxLen; omega
  · exact Nat.le_trans (Nat.mul_le_mul_right 32 (show xs.length + 1 ≤ 1000000000 by omega)) (by decide)
  · intro v' w' h1 h2 _
    refine h v' w' ?_ h2
    unfold EOwn
    rw [List.length_append, elC_snoc]
    exact h1
end Go.Proofs.YteojfkffmbcedaaGreatDoor
