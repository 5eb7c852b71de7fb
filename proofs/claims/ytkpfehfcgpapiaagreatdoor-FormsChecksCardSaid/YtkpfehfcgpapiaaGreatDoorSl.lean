/-
  Slices whose elements are one cell each: a call's own ones, appended to, read as lists, turned to strings.
  No condition.
-/
import Derived.Test.YtkpfehfcgpapiaaGreatDoorKit
import Derived.OwnWalk
import Derived.Laws.OwnMore
import Derived.Laws.IdiomStrings
import Derived.Deep.OwnRows
import Derived.Laws.BytesArg
import Derived.ArgAppend
import Derived.RegionTactic
import Derived.Deep.RegionLaw
namespace Go.Proofs.YtkpfehfcgpapiaaGreatDoor
open Go.RowKit

theorem add_at (b j : Nat) : (⟨b, 0, none⟩ : Addr).add j = ⟨b, j, none⟩ := by
  unfold Addr.add; split
  · rename_i h; subst h; rfl
  · simp
theorem add_off (b o j : Nat) : (⟨b, o, none⟩ : Addr).add j = ⟨b, o + j, none⟩ := by
  unfold Addr.add; split
  · rename_i h; subst h; rfl
  · simp

/-- v is a slice of the call's own (its block from B on) that holds the values xs. -/
def Own (t : TypeId) (w : World) (B : Nat) (v : Value) (xs : List Value) : Prop := w.ownsRow B t 1 v xs.length xs

theorem Ext.ofGrown {a w w' : World} {row : Option Nat} (h : Ext a w) (hg : w.grownBy w' row) (hr : ∀ k, row = some k → a.heap.size ≤ k) : Ext a w' := Below.grown h hg h.size hr
theorem Ext.asGrown {w w' : World} (h : Ext w w') : w.grownBy w' none := ⟨h.os, h.tape, h.output, h.size, fun i hi _ => h.block i hi⟩
theorem Own.nil (t : TypeId) (w : World) (B : Nat) : Own t w B (.slice none 0 0) [] := World.ownsRow_nil _ _ _ _
section
variable {t : TypeId} {w w' : World} {B : Nat} {v : Value} {xs : List Value}
theorem Own.ext (h : Own t w B v xs) (hx : Ext w w') : Own t w' B v xs := by
  refine World.ownsRow.kept h hx.asGrown ?_
  cases hv : v.ownBlock with
  | none => exact .inl rfl
  | some k => exact .inr (by simp)
theorem Own.alloc (h : Own t w B v xs) (o : Obj) : Own t (w.alloc o) B v xs := World.ownsRow.alloc h o
theorem Own.drew (h : Own t w B v xs) : Own t w.drew B v xs := h
theorem Own.low (h : Own t w B v xs) : ∀ k, v.ownBlock = some k → B ≤ k := fun k hk => (World.ownsRow.lt h k hk).1
theorem Own.mono {B' : Nat} (h : Own t w B v xs) (hB : B' ≤ B) : Own t w B' v xs := by
  obtain ⟨h1, h2⟩ := h
  refine ⟨h1, ?_⟩
  rcases h2 with h2 | ⟨g, cap, cur, h3, h4, h5⟩
  · exact .inl h2
  · exact .inr ⟨g, cap, cur, h3, Nat.le_trans hB h4, h5⟩
/-- Another call's row is left as it was by an append to this one. -/
theorem Own.kept {row : Option Nat} (h : Own t w B v xs) (hg : w.grownBy w' row) (hne : v.ownBlock = none ∨ v.ownBlock ≠ row) : Own t w' B v xs := World.ownsRow.kept h hg hne
end

theorem wpList_append_vals {w : World} {ops : Array Oper} {rest : List Oper} {o : Oper} {a : Act} {Q : Exit → Act → World → Prop} (hgd : o.guard = none) (s x : Operand) (T t : TypeId) (z : Value) (bytes : Nat)
    (ho : o.op = .call { callee := .builtin .append, args := #[s, x], argTypes := #[T, T] })
    (hT : Tryz.prog.underlying T = some (.slice t)) (hi : (Tryz.prog.info? t).map (fun i => (i.zero, i.size, i.bytes)) = some (some z, 1, bytes)) (hz : z.cells.size = 1) (hby : bytes ≤ 16)
    (B : Nat) (v : Value) (xs : List Value) (hs : a.eval s = v) (hown : Own t w B v xs) (b off m c : Nat) (news : List Value) (hx : a.eval x = .slice (some ⟨b, off, none⟩) m c) (hm : news.length = m)
    (hc : ∀ j u, news[j]? = some u → w.cell? ⟨b, off + j, none⟩ = some u) (h1 : ∀ u ∈ news, u.oneCell' = true) (hn : xs.length + m ≤ 1000000000) (hB : B ≤ w.heap.size)
    (h : ∀ v' w', Own t w' B v' (xs ++ news) → w.grownBy w' v.ownBlock → wpList Tryz.prog ops Q rest (a.put o.dst v') w') : wpList Tryz.prog ops Q (o :: rest) a w := by
  obtain ⟨i0, hi, hz0, hz1, hz2⟩ := info_parts hi
  refine wpList_append_own _ hgd s x T ho B t i0 z 1 bytes hT hi hz0 hz1 hz2 hz (by decide) v xs.length xs hs hown ⟨b, off, none⟩ m c news hx (by rw [hm, Nat.mul_one]) ?_ h1 ?_ ?_ hB ?_
  · intro j u hj; rw [add_off]; exact hc j u hj
  · unfold maxLen; omega
  · exact Nat.le_trans (Nat.mul_le_mul hn hby) (by decide)
  · intro v' w' h1 h2 _
    refine h v' w' ?_ h2
    unfold Own
    rw [List.length_append, hm]
    exact h1

/-- The same, or a full row of the call's own whose marks are not known ('[]byte' of a constant). -/
def OwnG (t : TypeId) (w : World) (B : Nat) (v : Value) (xs : List Value) : Prop :=
  Own t w B v xs ∨ ∃ b, v = .slice (some ⟨b, 0, none⟩) xs.length xs.length ∧ B ≤ b ∧ b < w.heap.size ∧ ∀ j u, xs[j]? = some u → w.cell? ⟨b, j, none⟩ = some u
theorem OwnG.ext {t : TypeId} {w w' : World} {B : Nat} {v : Value} {xs : List Value} (h : OwnG t w B v xs) (hx : Ext w w') : OwnG t w' B v xs := by
  rcases h with h | ⟨b, h1, h2, h3, h4⟩
  · exact .inl (h.ext hx)
  · exact .inr ⟨b, h1, h2, Nat.lt_of_lt_of_le h3 hx.size, fun j u hu => by rw [hx.cell (p := ⟨b, j, none⟩) h3]; exact h4 j u hu⟩
theorem OwnG.low {t : TypeId} {w : World} {B : Nat} {v : Value} {xs : List Value} (h : OwnG t w B v xs) : ∀ k, v.ownBlock = some k → B ≤ k := by
  rcases h with h | ⟨b, rfl, h2, h3, h4⟩
  · exact h.low
  · intro k hk
    have : b = k := by simpa [Value.ownBlock] using hk
    omega

theorem run_append_G {w : World} (T t : TypeId) (z : Value) (bytes : Nat)
    (hT : Tryz.prog.underlying T = some (.slice t)) (hi : (Tryz.prog.info? t).map (fun i => (i.zero, i.size, i.bytes)) = some (some z, 1, bytes)) (hz : z.cells.size = 1) (hby : bytes ≤ 16)
    (B : Nat) (v : Value) (xs : List Value) (hown : OwnG t w B v xs) (b off m c : Nat) (news : List Value) (hm : news.length = m) (hpos : 0 < m)
    (hc : ∀ j u, news[j]? = some u → w.cell? ⟨b, off + j, none⟩ = some u) (h1 : ∀ u ∈ news, u.oneCell' = true) (hn : xs.length + m ≤ 1000000000) (hB : B ≤ w.heap.size) :
    ∃ v' w', (Builtin.append_ #[T, T] T #[v, .slice (some ⟨b, off, none⟩) m c]).run Tryz.prog w = .ok v' w' ∧ Own t w' B v' (xs ++ news) ∧ w.grownBy w' v.ownBlock := by
  obtain ⟨i0, hi, hz0, hz1, hz2⟩ := info_parts hi
  have hml : xs.length + m ≤ maxLen := by unfold maxLen; omega
  have hmb : (xs.length + m) * bytes ≤ 140737488355328 := Nat.le_trans (Nat.mul_le_mul hn hby) (by decide)
  have hnw : ∀ j u, news[j]? = some u → w.cell? ((⟨b, off, none⟩ : Addr).add j) = some u := fun j u hj => by rw [add_off]; exact hc j u hj
  have hlen : (xs ++ news).length = xs.length + m := by rw [List.length_append, hm]
  rcases hown with hown | ⟨b', rfl, hb1, hb2, hb3⟩
  · obtain ⟨v', w', h2, h3, h4, _⟩ := run_append_own (P := Tryz.prog) w B T T t i0 z 1 bytes hT hi hz0 hz1 hz2 hz (by decide) v xs.length xs hown ⟨b, off, none⟩ m c news (by omega) hnw h1 hml hmb hB
    refine ⟨v', w', h2, ?_, h4⟩
    unfold Own
    rw [hlen]; exact h3
  · obtain ⟨v', w', h2, h3, h4⟩ := run_append_arg_grows (P := Tryz.prog) w T T t i0 z 1 bytes hT hi hz0 hz1 hz2 hz (by decide) ⟨b', 0, none⟩ xs.length xs.length xs (by omega) (fun j u hj => by rw [add_at]; exact hb3 j u hj) ⟨b, off, none⟩ m c news (by omega) hnw (by omega) hml hmb
    refine ⟨v', w', h2, ?_, ⟨h4.1, h4.2, h4.3, h4.4, fun i hi _ => h4.5 i hi (by simp)⟩⟩
    have h5 : Own t w' w.heap.size v' (xs ++ news) := by unfold Own; rw [hlen]; exact h3
    exact h5.mono hB

/-- An append whose run is known, as one step of a region that draws its order. -/
theorem step_append_run {w : World} {ops : Array Oper} {o : Oper} {a : Act} {K : Act → World → Prop} {Q : Exit → Act → World → Prop} {E : Prop} (hgd : o.guard = none) (s x : Operand) (T : TypeId)
    (ho : o.op = .call { callee := .builtin .append, args := #[s, x], argTypes := #[T, T] }) (ht : o.type = T) (v v1 : Value) (hs : a.eval s = v) (hx : a.eval x = v1)
    (v' : Value) (w' : World) (hrun : (Builtin.append_ #[T, T] T #[v, v1]).run Tryz.prog w = .ok v' w') (h : K (a.put o.dst v') w') :
    if Region.wanted o (yielded ops a.tmps) = true then Oper.wp Tryz.prog o a w K Q else E := by
  have hw : Region.wanted o (yielded ops a.tmps) = true := by simp [Region.wanted, hgd]
  rw [if_pos hw]
  rw [← ht] at hrun
  unfold Oper.wp execOp
  simp only [ho, ← ht, resolve, invoke, builtin, Sem.run_bind, Sem.run_pure, Result.andThen_ok, List.map_toArray, List.map_cons, List.map_nil, hs, hx, hrun]
  exact h

/-- A slice that reads as a list of values. -/
def Sl (w : World) (v : Value) (xs : List Value) : Prop :=
  (xs = [] ∧ ∃ a c, v = .slice a 0 c) ∨ ∃ b off cap, v = .slice (some ⟨b, off, none⟩) xs.length cap ∧ b < w.heap.size ∧ ∀ i, i < xs.length → w.cell? ⟨b, off + i, none⟩ = xs[i]?
theorem Sl.ext {w w' : World} {v : Value} {xs : List Value} (h : Sl w v xs) (hx : Ext w w') : Sl w' v xs := by
  rcases h with h | ⟨b, off, cap, h1, h2, h3⟩
  · exact .inl h
  · exact .inr ⟨b, off, cap, h1, Nat.lt_of_lt_of_le h2 hx.size, fun i hi => by rw [hx.cell (p := ⟨b, off + i, none⟩) h2]; exact h3 i hi⟩
theorem Own.sl {t : TypeId} {w : World} {B : Nat} {v : Value} {xs : List Value} (h : Own t w B v xs) : Sl w v xs := by
  rcases h.2 with ⟨hnil, h0⟩ | ⟨g, cap, cur, hv, hbase, hb, h1, h2, h3, h4⟩
  · exact .inl ⟨List.eq_nil_of_length_eq_zero h0, _, _, hnil⟩
  · refine .inr ⟨g, 0, cap, hv, (Array.getElem?_eq_some_iff.1 hb).1, fun i hi => ?_⟩
    have hh := h
    unfold Own at hh
    rw [hv] at hh
    rw [Nat.zero_add, hh.cellAt i (by omega)]
/-- The form of a slice's value, and its cells. -/
theorem Sl.form {w : World} {v : Value} {xs : List Value} (h : Sl w v xs) : ∃ a c, v = .slice a xs.length c := by
  rcases h with ⟨rfl, a, c, rfl⟩ | ⟨b, off, cap, rfl, _⟩
  · exact ⟨a, c, rfl⟩
  · exact ⟨_, _, rfl⟩
theorem Sl.at_ {w : World} {a : Option Addr} {n c : Nat} {xs : List Value} (h : Sl w (.slice a n c) xs) {k : Nat} (hk : k < xs.length) :
    ∃ b off, a = some ⟨b, off, none⟩ ∧ b < w.heap.size ∧ w.cell? ⟨b, off + k, none⟩ = some xs[k] := by
  rcases h with ⟨rfl, _⟩ | ⟨b, off, cap, he, hb, hc⟩
  · exact absurd hk (Nat.not_lt_zero _)
  · injection he with h1 h2 h3
    exact ⟨b, off, h1, hb, by rw [hc k hk, List.getElem?_eq_getElem hk]⟩
theorem Sl.row {w : World} {b : Nat} {t : TypeId} {n : Nat} {f : Nat → Value} (h : w.rowIs b t n f) : Sl w (.slice (some ⟨b, 0, none⟩) n n) ((List.range n).map f) := by
  refine .inr ⟨b, 0, n, by simp, h.lt, fun i hi => ?_⟩
  simp only [List.length_map, List.length_range] at hi
  rw [Nat.zero_add, h.cell hi]
  simp [hi]
theorem OwnG.sl {t : TypeId} {w : World} {B : Nat} {v : Value} {xs : List Value} (h : OwnG t w B v xs) : Sl w v xs := by
  rcases h with h | ⟨b, rfl, h2, h3, h4⟩
  · exact h.sl
  · exact .inr ⟨b, 0, _, rfl, h3, fun i hi => by rw [Nat.zero_add, h4 i _ (List.getElem?_eq_getElem hi), List.getElem?_eq_getElem hi]⟩
theorem Sl.congr {w : World} {v : Value} {xs ys : List Value} (h : Sl w v xs) (e : xs = ys) : Sl w v ys := e ▸ h

def encB (c : UInt8) : Value := .int .u8 (c.toNat : Int)
def encI (n : Int) : Value := .int .i64 n
def encT (b : Bool) : Value := .bool b

theorem run_convert_sl {w : World} {v : Value} {l : List UInt8} (h : Sl w v (l.map encB)) :
    (convert 34 9 v).run Tryz.prog w = .ok (.string ⟨l.toArray⟩) w := by
  rcases h with ⟨h0, a, c, rfl⟩ | ⟨b, off, cap, rfl, hb, hc⟩
  · have h0 : l = [] := by simpa using h0
    subst h0
    cases a with
    | none => exact run_convert_bytes_nil (P := Tryz.prog) w 34 5 Tryz.underlying34 Tryz.underlying5 0 c 9 Tryz.underlying9
    | some a => exact run_convert_bytes_back (P := Tryz.prog) w 34 9 5 a c [] Tryz.underlying34 Tryz.underlying5 Tryz.underlying9 (fun j hj => absurd hj (Nat.not_lt_zero _))
  · have := run_convert_bytes_back (P := Tryz.prog) w 34 9 5 ⟨b, off, none⟩ cap l Tryz.underlying34 Tryz.underlying5 Tryz.underlying9 (fun j hj => by
      rw [add_off, hc j (by simpa using hj)]; simp [hj, encB])
    rw [List.length_map]; exact this

theorem wpList_append_one {w : World} {ops : Array Oper} {rest : List Oper} {o : Oper} {a : Act} {Q : Exit → Act → World → Prop} (hgd : o.guard = none) (s x : Operand) (T t : TypeId) (z : Value) (bytes : Nat)
    (ho : o.op = .call { callee := .builtin .append, args := #[s, x], argTypes := #[T, T] })
    (hT : Tryz.prog.underlying T = some (.slice t)) (hi : (Tryz.prog.info? t).map (fun i => (i.zero, i.size, i.bytes)) = some (some z, 1, bytes)) (hz : z.cells.size = 1) (hby : bytes ≤ 16)
    (B : Nat) (v : Value) (xs : List Value) (hs : a.eval s = v) (hown : Own t w B v xs) (b : Nat) (u : Value) (hx : a.eval x = .slice (some ⟨b, 0, none⟩) 1 1)
    (hc : w.cell? ⟨b, 0, none⟩ = some u) (h1 : u.oneCell' = true) (hn : xs.length ≤ 999999999) (hB : B ≤ w.heap.size)
    (h : ∀ v' w', Own t w' B v' (xs ++ [u]) → w.grownBy w' v.ownBlock → wpList Tryz.prog ops Q rest (a.put o.dst v') w') : wpList Tryz.prog ops Q (o :: rest) a w := by
  refine wpList_append_vals hgd s x T t z bytes ho hT hi hz hby B v xs hs hown b 0 1 1 [u] hx rfl ?_ ?_ (by omega) hB h
  · intro j u' hj
    cases j with
    | zero =>
      simp only [List.getElem?_cons_zero, Option.some.injEq] at hj
      subst hj; exact hc
    | succ j => simp at hj
  · intro u' hu
    simp only [List.mem_singleton] at hu
    subst hu; exact h1
theorem info_byte : (Tryz.prog.info? 5).map (fun i => (i.zero, i.size, i.bytes)) = some (some (.int .u8 0), 1, 1) := by kernel_rfl
theorem append_byte {w : World} {ops : Array Oper} {rest : List Oper} {o : Oper} {a : Act} {Q : Exit → Act → World → Prop} (hgd : o.guard = none) (s x : Operand)
    (ho : o.op = .call { callee := .builtin .append, args := #[s, x], argTypes := #[34, 34] })
    (B : Nat) (v : Value) (l : List UInt8) (hs : a.eval s = v) (hown : Own 5 w B v (l.map encB)) (b : Nat) (u : UInt8) (hx : a.eval x = .slice (some ⟨b, 0, none⟩) 1 1)
    (hc : w.cell? ⟨b, 0, none⟩ = some (encB u)) (hn : l.length ≤ 999999999) (hB : B ≤ w.heap.size)
    (h : ∀ v' w', Own 5 w' B v' ((l ++ [u]).map encB) → w.grownBy w' v.ownBlock → wpList Tryz.prog ops Q rest (a.put o.dst v') w') : wpList Tryz.prog ops Q (o :: rest) a w :=
  wpList_append_one hgd s x 34 5 (.int .u8 0) 1 ho Tryz.underlying34 info_byte rfl (by decide) B v _ hs hown b (encB u) hx hc rfl (by rw [List.length_map]; exact hn) hB
    (fun v' w' h1 h2 => h v' w' (by rw [List.map_append]; exact h1) h2)
theorem info_bool : (Tryz.prog.info? 4).map (fun i => (i.zero, i.size, i.bytes)) = some (some (.bool false), 1, 1) := by kernel_rfl
theorem append_bool {w : World} {ops : Array Oper} {rest : List Oper} {o : Oper} {a : Act} {Q : Exit → Act → World → Prop} (hgd : o.guard = none) (s x : Operand)
    (ho : o.op = .call { callee := .builtin .append, args := #[s, x], argTypes := #[84, 84] })
    (B : Nat) (v : Value) (l : List Bool) (hs : a.eval s = v) (hown : Own 4 w B v (l.map encT)) (b : Nat) (u : Bool) (hx : a.eval x = .slice (some ⟨b, 0, none⟩) 1 1)
    (hc : w.cell? ⟨b, 0, none⟩ = some (encT u)) (hn : l.length ≤ 999999999) (hB : B ≤ w.heap.size)
    (h : ∀ v' w', Own 4 w' B v' ((l ++ [u]).map encT) → w.grownBy w' v.ownBlock → wpList Tryz.prog ops Q rest (a.put o.dst v') w') : wpList Tryz.prog ops Q (o :: rest) a w :=
  wpList_append_one hgd s x 84 4 (.bool false) 1 ho Tryz.underlying84 info_bool rfl (by decide) B v _ hs hown b (encT u) hx hc rfl (by rw [List.length_map]; exact hn) hB
    (fun v' w' h1 h2 => h v' w' (by rw [List.map_append]; exact h1) h2)
def encS (l : List UInt8) : Value := .string ⟨l.toArray⟩
theorem info_strs : (Tryz.prog.info? 9).map (fun i => (i.zero, i.size, i.bytes)) = some (some (.string ⟨#[]⟩), 1, 16) := by kernel_rfl
theorem append_strs {w : World} {ops : Array Oper} {rest : List Oper} {o : Oper} {a : Act} {Q : Exit → Act → World → Prop} (hgd : o.guard = none) (s x : Operand)
    (ho : o.op = .call { callee := .builtin .append, args := #[s, x], argTypes := #[37, 37] })
    (B : Nat) (v : Value) (l : List (List UInt8)) (hs : a.eval s = v) (hown : Own 9 w B v (l.map encS)) (b : Nat) (u : (List UInt8)) (hx : a.eval x = .slice (some ⟨b, 0, none⟩) 1 1)
    (hc : w.cell? ⟨b, 0, none⟩ = some (encS u)) (hn : l.length ≤ 999999999) (hB : B ≤ w.heap.size)
    (h : ∀ v' w', Own 9 w' B v' ((l ++ [u]).map encS) → w.grownBy w' v.ownBlock → wpList Tryz.prog ops Q rest (a.put o.dst v') w') : wpList Tryz.prog ops Q (o :: rest) a w :=
  wpList_append_one hgd s x 37 9 (.string ⟨#[]⟩) 16 ho Tryz.underlying37 info_strs rfl (by decide) B v _ hs hown b (encS u) hx hc rfl (by rw [List.length_map]; exact hn) hB
    (fun v' w' h1 h2 => h v' w' (by rw [List.map_append]; exact h1) h2)
end Go.Proofs.YtkpfehfcgpapiaaGreatDoor
