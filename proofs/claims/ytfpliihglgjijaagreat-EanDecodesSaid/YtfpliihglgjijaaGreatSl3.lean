/-
  Slices that lie from a block on, and what lies beside a row that grows.
  No condition.
-/
import Derived.Test.YtfpliihglgjijaaGreatSl2
namespace Go.Proofs.YtfpliihglgjijaaGreat
open Go.RowKit

/-- A slice that reads as a list, and lies in a block from B on, if in any. -/
def SlN (w : World) (B : Nat) (v : Value) (xs : List Value) : Prop := Sl w v xs ∧ ∀ k, v.ownBlock = some k → B ≤ k ∧ k < w.heap.size
theorem SlN.nil (w : World) (B : Nat) : SlN w B (.slice none 0 0) [] := ⟨.inl ⟨rfl, none, 0, rfl⟩, fun k hk => by simp [Value.ownBlock] at hk⟩
theorem SlN.ofOwn {t : TypeId} {w : World} {B : Nat} {v : Value} {xs : List Value} (h : Own t w B v xs) : SlN w B v xs := ⟨h.sl, fun k hk => World.ownsRow.lt h k hk⟩
theorem SlN.of {w : World} {B b o n c : Nat} {xs : List Value} (h : Sl w (.slice (some ⟨b, o, none⟩) n c) xs) (hn : 0 < xs.length) (hb : B ≤ b) : SlN w B (.slice (some ⟨b, o, none⟩) n c) xs := by
  refine ⟨h, fun k hk => ?_⟩
  obtain ⟨b', o', he, hl, _⟩ := h.at_ hn
  injection he with he
  injection he with h1
  have : b = k := by simpa [Value.ownBlock] using hk
  omega
theorem SlN.ext {w w' : World} {B : Nat} {v : Value} {xs : List Value} (h : SlN w B v xs) (hx : Ext w w') : SlN w' B v xs := ⟨h.1.ext hx, fun k hk => ⟨(h.2 k hk).1, Nat.lt_of_lt_of_le (h.2 k hk).2 hx.size⟩⟩
theorem SlN.mono {w : World} {B B' : Nat} {v : Value} {xs : List Value} (h : SlN w B v xs) (hb : B' ≤ B) : SlN w B' v xs := ⟨h.1, fun k hk => ⟨Nat.le_trans hb (h.2 k hk).1, (h.2 k hk).2⟩⟩
theorem SlN.congr {w : World} {B : Nat} {v : Value} {xs ys : List Value} (h : SlN w B v xs) (e : xs = ys) : SlN w B v ys := e ▸ h
/-- What lay apart from v in w still lies so beside v' in w'. -/
def Beside (w w' : World) (v v' : Value) : Prop := ∀ B u xs, SlN w B u xs → Apart v u → SlN w' B u xs ∧ Apart v' u
theorem Beside.refl (w : World) (v : Value) : Beside w w v v := fun _ _ _ h k => ⟨h, k⟩
theorem Beside.trans {w w1 w2 : World} {v v1 v2 : Value} (h : Beside w w1 v v1) (k : Beside w1 w2 v1 v2) : Beside w w2 v v2 := fun B u xs hs ha => k B u xs (h B u xs hs ha).1 (h B u xs hs ha).2
theorem Beside.ofExt {w w' : World} {v : Value} (h : Ext w w') : Beside w w' v v := fun _ _ _ hs k => ⟨hs.ext h, k⟩
theorem Beside.grow {w w' : World} {v v' : Value} (hg : w.grownBy w' v.ownBlock) (n : Nat) (hn : w.heap.size ≤ n) (hat : v'.ownBlock = v.ownBlock ∨ v'.ownBlock = some n) : Beside w w' v v' := by
  intro B u xs hs ha
  have hsz := hg.size
  have hap : Apart v' u := by
    rcases hat with e | e
    · unfold Apart; rw [e]; exact ha
    · refine .inr ?_
      rw [e]
      intro h1
      have := (hs.2 n h1.symm).2
      omega
  refine ⟨⟨?_, fun k hk => ⟨(hs.2 k hk).1, Nat.lt_of_lt_of_le (hs.2 k hk).2 hsz⟩⟩, hap⟩
  rcases hs.1 with h | ⟨b, off, cap, h1, h2, h3⟩
  · exact .inl h
  · refine .inr ⟨b, off, cap, h1, Nat.lt_of_lt_of_le h2 hsz, fun i hi => ?_⟩
    have hb : w'.heap[b]? = w.heap[b]? := hg.block b h2 (by
      rcases ha.symm with e | e
      · rw [h1] at e; simp [Value.ownBlock] at e
      · rw [h1] at e; simpa [Value.ownBlock] using e)
    rw [← h3 i hi]
    exact World.cell?_of_block (w := w) (a := ⟨b, off + i, none⟩) hb
theorem append_int_at {w : World} {ops : Array Oper} {rest : List Oper} {o : Oper} {a : Act} {Q : Exit → Act → World → Prop} (hgd : o.guard = none) (s x : Operand)
    (ho : o.op = .call { callee := .builtin .append, args := #[s, x], argTypes := #[61, 61] })
    (B : Nat) (v : Value) (l : List Int) (hs : a.eval s = v) (hown : Own 3 w B v (l.map encI)) (b : Nat) (u : Int) (hx : a.eval x = .slice (some ⟨b, 0, none⟩) 1 1)
    (hc : w.cell? ⟨b, 0, none⟩ = some (encI u)) (hn : l.length ≤ 999999999) (hB : B ≤ w.heap.size)
    (h : ∀ v' w', Own 3 w' B v' ((l ++ [u]).map encI) → w.grownBy w' v.ownBlock → (v'.ownBlock = v.ownBlock ∨ v'.ownBlock = some w.heap.size) → wpList Tryz.prog ops Q rest (a.put o.dst v') w') : wpList Tryz.prog ops Q (o :: rest) a w :=
  wpList_append_at hgd s x 61 3 (.int .i64 0) 8 ho Tryz.underlying61 info_int rfl (by decide) B v _ hs hown b 0 1 1 [encI u] hx rfl
    (fun j u' hj => by
      match j with
      | 0 => simp only [List.getElem?_cons_zero, Option.some.injEq] at hj; subst hj; exact hc
      | j + 1 => simp at hj)
    (fun u' hu => by simp only [List.mem_singleton] at hu; subst hu; rfl) (by rw [List.length_map]; omega) hB
    (fun v' w' h1 h2 h3 => h v' w' (by rw [List.map_append]; exact h1) h2 h3)
end Go.Proofs.YtfpliihglgjijaaGreat
