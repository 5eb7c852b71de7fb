/-
  Arrays of strings: an element by its index, of the value and through the address.
  No condition.
-/
import Derived.Test.YtamkgbodifjlaaaGreatDoorKit
import Derived.Deep.OwnRows
import Derived.Deep.WholeRow
namespace Go.Proofs.YtamkgbodifjlaaaGreatDoor
open Go.RowKit

theorem run_index_strs (t : TypeId) (n : Nat) (ht : Tryz.prog.underlying t = some (.array n 9)) (cs : Array Value) (i : Nat) (hi : i < n) (x : Value) (hx : cs[i]? = some x) (w : World) :
    (Instr.index t (.agg cs) (.int .i64 (i : Int))).run Tryz.prog w = .ok x w := by
  have h2 := Tryz.sizeOf9 w
  simp [Instr.index, run_underlying ht, asIntOf, part, hx, h2, go_sem]
  omega
theorem Ext.rowX {a w : World} {b : Nat} {t : TypeId} {n : Nat} {f : Nat → Value} (h : a.rowIs b t n f) (hx : Ext a w) : w.rowIs b t n f := h.of_block (hx.block _ h.lt)
/-- A new variable of ten strings, and what is laid into it. -/
theorem run_store_ten (R : Array Value) (hR : R.size = 10) (h1 : R.all (·.oneCell') = true) (w : World) :
    (storeCells ⟨w.heap.size, 0, none⟩ R.toList).run Tryz.prog (w.alloc (.cells #[.string ⟨#[]⟩, .string ⟨#[]⟩, .string ⟨#[]⟩, .string ⟨#[]⟩, .string ⟨#[]⟩, .string ⟨#[]⟩, .string ⟨#[]⟩, .string ⟨#[]⟩, .string ⟨#[]⟩, .string ⟨#[]⟩] 230)) = .ok () (w.alloc (.cells R 230)) :=
  run_storeCells_new w 230 _ R (by rw [hR]; kernel_rfl) (by rw [hR]; rfl) h1
theorem new_row (R : Array Value) (t : TypeId) (w : World) : (w.alloc (.cells R t)).rowIs w.heap.size t R.size (fun i => R.getD i undef) :=
  World.rowIs_alloc w R t _ (fun i hi => by simp [hi])
theorem new_cell (R : Array Value) (t : TypeId) (w : World) {i : Nat} {x : Value} (h : R[i]? = some x) : (w.alloc (.cells R t)).cell? ⟨w.heap.size, i, none⟩ = some x := by
  have hi : i < R.size := by
    rcases Nat.lt_or_ge i R.size with h' | h'
    · exact h'
    · rw [Array.getElem?_eq_none h'] at h; cases h
  rw [(new_row R t w).cell hi]
  simp only [Array.getD_eq_getD_getElem?, h]; rfl
end Go.Proofs.YtamkgbodifjlaaaGreatDoor
