/-
  Appends that say where the new row lies, so that two rows of a call can be told apart.
  No condition.
-/
import Derived.Test.YtkpfehfcgpapiaaGreatDoorSl
import Derived.Maps.AppendAt
namespace Go.Proofs.YtkpfehfcgpapiaaGreatDoor
open Go.RowKit

theorem wpList_append_at {w : World} {ops : Array Oper} {rest : List Oper} {o : Oper} {a : Act} {Q : Exit → Act → World → Prop} (hgd : o.guard = none) (s x : Operand) (T t : TypeId) (z : Value) (bytes : Nat)
    (ho : o.op = .call { callee := .builtin .append, args := #[s, x], argTypes := #[T, T] })
    (hT : Tryz.prog.underlying T = some (.slice t)) (hi : (Tryz.prog.info? t).map (fun i => (i.zero, i.size, i.bytes)) = some (some z, 1, bytes)) (hz : z.cells.size = 1) (hby : bytes ≤ 16)
    (B : Nat) (v : Value) (xs : List Value) (hs : a.eval s = v) (hown : Own t w B v xs) (b off m c : Nat) (news : List Value) (hx : a.eval x = .slice (some ⟨b, off, none⟩) m c) (hm : news.length = m)
    (hc : ∀ j u, news[j]? = some u → w.cell? ⟨b, off + j, none⟩ = some u) (h1 : ∀ u ∈ news, u.oneCell' = true) (hn : xs.length + m ≤ 1000000000) (hB : B ≤ w.heap.size)
    (h : ∀ v' w', Own t w' B v' (xs ++ news) → w.grownBy w' v.ownBlock → (v'.ownBlock = v.ownBlock ∨ v'.ownBlock = some w.heap.size) → wpList Tryz.prog ops Q rest (a.put o.dst v') w') : wpList Tryz.prog ops Q (o :: rest) a w := by
  obtain ⟨i0, hi, hz0, hz1, hz2⟩ := info_parts hi
  refine wpList_append_own_at _ hgd s x T ho B t i0 z 1 bytes hT hi hz0 hz1 hz2 hz (by decide) v xs.length xs hs hown ⟨b, off, none⟩ m c news hx (by rw [hm, Nat.mul_one]) ?_ h1 ?_ ?_ hB ?_
  · intro j u hj; rw [add_off]; exact hc j u hj
  · unfold maxLen; omega
  · exact Nat.le_trans (Nat.mul_le_mul hn hby) (by decide)
  · intro v' w' h1 h2 _ h4
    refine h v' w' ?_ h2 h4
    unfold Own
    rw [List.length_append, hm]
    exact h1

theorem append_byte_at {w : World} {ops : Array Oper} {rest : List Oper} {o : Oper} {a : Act} {Q : Exit → Act → World → Prop} (hgd : o.guard = none) (s x : Operand)
    (ho : o.op = .call { callee := .builtin .append, args := #[s, x], argTypes := #[34, 34] })
    (B : Nat) (v : Value) (l : List UInt8) (hs : a.eval s = v) (hown : Own 5 w B v (l.map encB)) (b : Nat) (u : UInt8) (hx : a.eval x = .slice (some ⟨b, 0, none⟩) 1 1)
    (hc : w.cell? ⟨b, 0, none⟩ = some (encB u)) (hn : l.length ≤ 999999999) (hB : B ≤ w.heap.size)
    (h : ∀ v' w', Own 5 w' B v' (l.map encB ++ [encB u]) → w.grownBy w' v.ownBlock → (v'.ownBlock = v.ownBlock ∨ v'.ownBlock = some w.heap.size) → wpList Tryz.prog ops Q rest (a.put o.dst v') w') : wpList Tryz.prog ops Q (o :: rest) a w :=
  wpList_append_at hgd s x 34 5 (.int .u8 0) 1 ho Tryz.underlying34 info_byte rfl (by decide) B v _ hs hown b 0 1 1 [encB u] hx rfl
    (fun j u' hj => by
      match j with
      | 0 => simp only [List.getElem?_cons_zero, Option.some.injEq] at hj; subst hj; exact hc
      | j + 1 => simp at hj)
    (fun u' hu => by simp only [List.mem_singleton] at hu; subst hu; rfl) (by rw [List.length_map]; omega) hB h
theorem append_two {w : World} {ops : Array Oper} {rest : List Oper} {o : Oper} {a : Act} {Q : Exit → Act → World → Prop} (hgd : o.guard = none) (s x : Operand)
    (ho : o.op = .call { callee := .builtin .append, args := #[s, x], argTypes := #[34, 34] })
    (B : Nat) (v : Value) (l : List UInt8) (hs : a.eval s = v) (hown : Own 5 w B v (l.map encB)) (b : Nat) (u u1 : UInt8) (hx : a.eval x = .slice (some ⟨b, 0, none⟩) 2 2)
    (hc : w.cell? ⟨b, 0, none⟩ = some (encB u)) (hc1 : w.cell? ⟨b, 1, none⟩ = some (encB u1)) (hn : l.length ≤ 999999998) (hB : B ≤ w.heap.size)
    (h : ∀ v' w', Own 5 w' B v' (l.map encB ++ [encB u, encB u1]) → w.grownBy w' v.ownBlock → (v'.ownBlock = v.ownBlock ∨ v'.ownBlock = some w.heap.size) → wpList Tryz.prog ops Q rest (a.put o.dst v') w') : wpList Tryz.prog ops Q (o :: rest) a w :=
  wpList_append_at hgd s x 34 5 (.int .u8 0) 1 ho Tryz.underlying34 info_byte rfl (by decide) B v _ hs hown b 0 2 2 [encB u, encB u1] hx rfl
    (fun j u' hj => by
      match j with
      | 0 => simp only [List.getElem?_cons_zero, Option.some.injEq] at hj; subst hj; exact hc
      | 1 => simp only [List.getElem?_cons_succ, List.getElem?_cons_zero, Option.some.injEq] at hj; subst hj; exact hc1
      | j + 2 => simp at hj)
    (fun u' hu => by simp only [List.mem_cons, List.not_mem_nil, or_false] at hu; rcases hu with rfl | rfl <;> rfl) (by rw [List.length_map]; omega) hB h

/-- Two rows of a call lie apart. -/
def Apart (v u : Value) : Prop := v.ownBlock = none ∨ v.ownBlock ≠ u.ownBlock
theorem Apart.nil_left (u : Value) : Apart (.slice none 0 0) u := .inl rfl
theorem Apart.symm {v u : Value} (h : Apart v u) : Apart u v := by
  cases hv : u.ownBlock with
  | none => exact .inl hv
  | some k =>
    rcases h with h | h
    · exact .inr (by rw [h, hv]; simp)
    · exact .inr (by rw [hv]; rw [hv] at h; exact fun e => h e.symm)
/-- The row that grew stays apart from another one. -/
theorem Apart.grow {t : TypeId} {w : World} {B : Nat} {v v' u : Value} {xs : List Value} (h : Apart v u) (hu : Own t w B u xs) (n : Nat) (hn : w.heap.size ≤ n) (hat : v'.ownBlock = v.ownBlock ∨ v'.ownBlock = some n) : Apart v' u := by
  rcases hat with e | e
  · unfold Apart; rw [e]; exact h
  · refine .inr ?_
    rw [e]
    intro h1
    have := (World.ownsRow.lt hu n h1.symm).2
    omega
theorem Own.beside {t : TypeId} {w w' : World} {B : Nat} {v u : Value} {xs : List Value} (h : Own t w B u xs) (hg : w.grownBy w' v.ownBlock) (ha : Apart v u) : Own t w' B u xs := by
  refine h.kept hg ?_
  rcases ha.symm with e | e
  · exact .inl e
  · exact .inr e
end Go.Proofs.YtkpfehfcgpapiaaGreatDoor
