/-
  Structs of the call's own that lie in memory: blocks of cells, and results that lie in one.
  No condition.
-/
import Derived.Test.YtkpfehfcgpapiaaGreatDoorSl
import Derived.Laws.ResultCell
import Derived.Deep.WholeRow
namespace Go.Proofs.YtkpfehfcgpapiaaGreatDoor
open Go.RowKit

theorem heap_set {w : World} {b i : Nat} {cs : Array Value} {t : TypeId} {fr : Nat × Nat} {u : Value} (h : w.heap[b]? = some (.cells cs t fr)) : (w.setCell ⟨b, i, none⟩ u).heap[b]? = some (.cells (cs.setIfInBounds i u) t fr) := by
  simp [World.setCell, Array.getElem?_modify, h]
theorem grown_set (w : World) (b i : Nat) (u : Value) : w.grownBy (w.setCell ⟨b, i, none⟩ u) (some b) := by
  refine ⟨rfl, rfl, rfl, by simp, fun k hk hne => ?_⟩
  have : k ≠ b := fun e => hne (by rw [e])
  simp [World.setCell, Array.getElem?_modify, Ne.symm this]
theorem cell_at {w : World} {b i : Nat} {cs : Array Value} {t : TypeId} {x : Value} (h : w.heap[b]? = some (.cells cs t (0, 0))) (hx : cs[i]? = some x) : w.cell? ⟨b, i, none⟩ = some x := by
  simp [World.cell?, h, hx]
theorem frz_at {w : World} {b i : Nat} {cs : Array Value} {t : TypeId} (h : w.heap[b]? = some (.cells cs t (0, 0))) : w.frozen? ⟨b, i, none⟩ = false := by
  simp [World.frozen?, h]
theorem lt_at {w : World} {b : Nat} {o : Obj} (h : w.heap[b]? = some o) : b < w.heap.size := (Array.getElem?_eq_some_iff.1 h).1
theorem row_on {w w' : World} {b : Nat} {o : Obj} (h : w.heap[b]? = some o) (hx : Ext w w') : w'.heap[b]? = some o := by
  rw [hx.block b (Array.getElem?_eq_some_iff.1 h).1]; exact h
theorem row_new {w w' : World} {b : Nat} {o : Obj} (hb : w.heap.size = b) (h : Ext (w.alloc o) w') : w'.heap[b]? = some o := by
  subst hb
  exact row_on (heap_alloc_new _ _) h
theorem far1 {w : World} {b g i : Nat} {o : Option Obj} {u : Value} (hne : b ≠ g) (h : w.heap[g]? = o) : (w.setCell ⟨b, i, none⟩ u).heap[g]? = o := by
  simp [World.setCell, Array.getElem?_modify, hne]; exact h
theorem row_grown {w w' : World} {b B : Nat} {o : Obj} {row : Option Nat} (h : w.heap[b]? = some o) (hg : w.grownBy w' row) (hl : ∀ k, row = some k → B ≤ k) (hb : b < B) : w'.heap[b]? = some o := by
  rw [hg.block b (lt_at h) (fun e => by have := hl b e.symm; omega)]; exact h
theorem Ext.before {w w' : World} {o : Obj} (h : Ext (w.alloc o) w') : Ext w w' := ((Ext.refl w).alloc o).trans h
theorem row3_set {w : World} {b : Nat} {x y z p q r : Value} {t : TypeId} (h : Hid (w.heap[b]? = some (.cells #[x, y, z] t (0, 0)))) :
    (((w.setCell ⟨b, 0, none⟩ p).setCell ⟨b, 1, none⟩ q).setCell ⟨b, 2, none⟩ r).heap[b]? = some (.cells #[p, q, r] t (0, 0)) :=
  heap_set (heap_set (heap_set h.out))
/-- A struct and an error, at the return. -/
theorem results_st {fn : Func} {p u : Tmp} {T : TypeId} (h : fn.results = #[.cell p T, .tmp u]) {tmps : Array Value} {w : World} {g : Nat} {cs : Array Value} {e : Value}
    (hp : tmps.getD p undef = .pointer (some ⟨g, 0, none⟩)) (he : tmps.getD u undef = e)
    (hl : (loadVar T ⟨g, 0, none⟩).run Tryz.prog w = .ok (.agg cs) w) :
    (results fn tmps).run Tryz.prog w = .ok (.tuple #[.agg cs, e]) w := by
  rw [results_cell_tmp h, hp, he]
  simp only [asAddr, Sem.run_pure, Result.andThen_ok]
  rw [hl]
  rfl
end Go.Proofs.YtkpfehfcgpapiaaGreatDoor
