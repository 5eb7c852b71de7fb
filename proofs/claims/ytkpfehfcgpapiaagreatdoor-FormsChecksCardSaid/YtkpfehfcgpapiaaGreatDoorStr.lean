/-
  Slices of strings that a call has made itself: appended to, read, sorted.
  No condition.
-/
import Derived.Test.YtkpfehfcgpapiaaGreatDoorKit
import Derived.Test.YtkpfehfcgpapiaaGreatDoorShelf
import Derived.Sort.OwnSorted
import Derived.OwnWalk
namespace Go.Proofs.YtkpfehfcgpapiaaGreatDoor
open Go.RowKit Go.Sort

/-- v is a slice of the call's own (its block from B on) that holds the strings ss. -/
def OwnS (w : World) (B : Nat) (v : Value) (ss : List (List UInt8)) : Prop := w.ownsRow B 9 1 v ss.length (ss.map encStr)

theorem Ext.grownBy {a w w' : World} {row : Option Nat} (h : Ext a w) (hg : w.grownBy w' row) (hr : ∀ k, row = some k → a.heap.size ≤ k) : Ext a w' := Below.grown h hg h.size hr
theorem Ext.toGrown {w w' : World} (h : Ext w w') : w.grownBy w' none := ⟨h.os, h.tape, h.output, h.size, fun i hi _ => h.block i hi⟩
theorem OwnS.nil (w : World) (B : Nat) : OwnS w B (.slice none 0 0) [] := World.ownsRow_nil _ _ _ _
theorem OwnS.ext {w w' : World} {B : Nat} {v : Value} {ss : List (List UInt8)} (h : OwnS w B v ss) (hx : Ext w w') : OwnS w' B v ss := by
  refine World.ownsRow.kept h hx.toGrown ?_
  cases hv : v.ownBlock with
  | none => exact .inl rfl
  | some k => exact .inr (by simp)
theorem OwnS.alloc {w : World} {B : Nat} {v : Value} {ss : List (List UInt8)} (h : OwnS w B v ss) (o : Obj) : OwnS (w.alloc o) B v ss := World.ownsRow.alloc h o
theorem OwnS.low {w : World} {B : Nat} {v : Value} {ss : List (List UInt8)} (h : OwnS w B v ss) : ∀ k, v.ownBlock = some k → B ≤ k := fun k hk => (World.ownsRow.lt h k hk).1
theorem OwnS.mono {w : World} {B B' : Nat} {v : Value} {ss : List (List UInt8)} (h : OwnS w B v ss) (hB : B' ≤ B) : OwnS w B' v ss := by
  obtain ⟨h1, h2⟩ := h
  refine ⟨h1, ?_⟩
  rcases h2 with h2 | ⟨g, cap, cur, h3, h4, h5⟩
  · exact .inl h2
  · exact .inr ⟨g, cap, cur, h3, Nat.le_trans hB h4, h5⟩

theorem info_str : (Tryz.prog.info? 9).map (fun i => (i.zero, i.size, i.bytes)) = some (some (.string ⟨#[]⟩), 1, 16) := by kernel_rfl

theorem wpList_append_str {w : World} {ops : Array Oper} {rest : List Oper} {o : Oper} {a : Act} {Q : Exit → Act → World → Prop} (hgd : o.guard = none) (s x : Operand)
    (ho : o.op = .call { callee := .builtin .append, args := #[s, x], argTypes := #[37, 37] })
    (B : Nat) (v : Value) (ss : List (List UInt8)) (hs : a.eval s = v) (hown : OwnS w B v ss) (t : ByteArray) (b : Nat) (hx : a.eval x = .slice (some ⟨b, 0, none⟩) 1 1)
    (hc : w.cell? ⟨b, 0, none⟩ = some (.string t)) (hn : ss.length ≤ 1000000000) (hB : B ≤ w.heap.size)
    (h : ∀ v' w', OwnS w' B v' (ss ++ [t.data.toList]) → w.grownBy w' v.ownBlock → wpList Tryz.prog ops Q rest (a.put o.dst v') w') : wpList Tryz.prog ops Q (o :: rest) a w := by
  obtain ⟨i0, hi, hz0, hz1, hz2⟩ := info_parts info_str
  refine wpList_append_own _ hgd s x 37 ho B 9 i0 (.string ⟨#[]⟩) 1 16 Tryz.underlying37 hi hz0 hz1 hz2 rfl (by decide) v ss.length (ss.map encStr) hs hown ⟨b, 0, none⟩ 1 1 [.string t] hx rfl ?_ ?_ ?_ ?_ hB ?_
  · intro j u hj
    cases j with
    | zero =>
      simp only [List.getElem?_cons_zero, Option.some.injEq] at hj
      subst hj; exact hc
    | succ j => simp at hj
  · intro u hu
    simp only [List.mem_singleton] at hu
    subst hu; rfl
  · unfold maxLen; omega
  · omega
  · intro v' w' h1 h2 _
    refine h v' w' ?_ h2
    unfold OwnS
    have e : encStr t.data.toList = .string t := by simp [encStr]
    rw [List.map_append, List.length_append, List.map_cons, List.map_nil, e]
    exact h1

/-- The library's sort on a slice of the call's own. -/
theorem sort_own {w : World} {B : Nat} {v : Value} {ss : List (List UInt8)} (h : OwnS w B v ss) (hn : ss.length ≤ 1000000000) :
    Calls Tryz.prog 134 #[v] w fun e w' => e = .returned (.tuple #[]) ∧ OwnS w' B v (ss.mergeSort fun x y => decide (x ≤ y)) ∧ w.grownBy w' v.ownBlock := by
  rcases h.2 with ⟨hnil, h0⟩ | ⟨g, cap, cur, hv, hbase, hb, h1, h2, h3, h4⟩
  · have hss : ss = [] := List.eq_nil_of_length_eq_zero h0
    subst hss hnil
    exact (Tryz.slices_Sort_string_none _ _ w).mono fun e w' ⟨he, hw⟩ => ⟨he, by subst hw; rw [List.mergeSort_nil]; exact OwnS.nil _ _, by subst hw; exact ⟨rfl, rfl, rfl, Nat.le_refl _, fun _ _ _ => rfl⟩⟩
  · subst hv
    have hH := holds_of_block hb (by simpa using h4)
    refine (Tryz.slices_Sort_string g 0 cap ss w hH (Array.getElem?_eq_some_iff.1 hb).1 (by omega)).mono fun e w' ⟨he, n, os, hw⟩ => ⟨he, ?_, ?_⟩
    · subst hw
      have hl : (ss.mergeSort fun x y => decide (x ≤ y)).length = ss.length := by simp
      have := ownsRow_sorted (n := n) (os := os) hl hbase hb h1 h2 h3
      unfold OwnS
      rw [hl]; exact this
    · subst hw; exact grownBy_sorted _

/-- A slice of strings that reads as a list. -/
def StrsAt (w : World) (v : Value) (ss : List (List UInt8)) : Prop :=
  (ss = [] ∧ ∃ a c, v = .slice a 0 c) ∨ ∃ b off cap, v = .slice (some ⟨b, off, none⟩) ss.length cap ∧ b < w.heap.size ∧ ∀ i, i < ss.length → w.cell? ⟨b, off + i, none⟩ = some (.string ⟨(ss.getD i []).toArray⟩)
theorem StrsAt.ext {w w' : World} {v : Value} {ss : List (List UInt8)} (h : StrsAt w v ss) (hx : Ext w w') : StrsAt w' v ss := by
  rcases h with h | ⟨b, off, cap, h1, h2, h3⟩
  · exact .inl h
  · exact .inr ⟨b, off, cap, h1, Nat.lt_of_lt_of_le h2 hx.size, fun i hi => by rw [hx.cell (p := ⟨b, off + i, none⟩) h2]; exact h3 i hi⟩
theorem OwnS.strs {w : World} {B : Nat} {v : Value} {ss : List (List UInt8)} (h : OwnS w B v ss) : StrsAt w v ss := by
  rcases h.2 with ⟨hnil, h0⟩ | ⟨g, cap, cur, hv, hbase, hb, h1, h2, h3, h4⟩
  · exact .inl ⟨List.eq_nil_of_length_eq_zero h0, _, _, hnil⟩
  · refine .inr ⟨g, 0, cap, hv, (Array.getElem?_eq_some_iff.1 hb).1, fun i hi => ?_⟩
    have hh := h
    unfold OwnS at hh
    rw [hv] at hh
    rw [Nat.zero_add, hh.cellAt i (by omega)]
    simp [hi]
end Go.Proofs.YtkpfehfcgpapiaaGreatDoor
