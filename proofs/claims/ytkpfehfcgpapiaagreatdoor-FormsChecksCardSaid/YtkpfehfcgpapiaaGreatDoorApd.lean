/-
  Append of one element of k cells to a row of the call's own, in a region that draws its order.
  No condition.
-/
import Derived.Test.YtkpfehfcgpapiaaGreatDoorRk
import Derived.Test.YtkpfehfcgpapiaaGreatDoorRow3
import Derived.Maps.AppendAt
namespace Go.Proofs.YtkpfehfcgpapiaaGreatDoor
open Go.RowKit

theorem run_append_k_at {α : Type} {k : Nat} {enc : α → List Value} {w : World} (ST T ty : TypeId) (z : Value) (bytes : Nat)
    (hT : Tryz.prog.underlying ST = some (.slice T)) (hi : (Tryz.prog.info? T).map (fun i => (i.zero, i.size, i.bytes)) = some (some z, k, bytes)) (hz : z.cells.size = k) (hk0 : 0 < k) (hby : bytes ≤ 1000)
    (hk : ∀ x, (enc x).length = k) (h1 : ∀ x, ∀ u ∈ enc x, u.oneCell' = true)
    (B : Nat) (v : Value) (xs : List α) (hown : KOwn T k enc w B v xs) (b : Nat) (u : α) (hc : ∀ c r, (enc u)[c]? = some r → w.cell? ⟨b, c, none⟩ = some r) (hn : xs.length ≤ 999999999) (hB : B ≤ w.heap.size) :
    ∃ v' w', (Builtin.append_ #[ST, ST] ty #[v, .slice (some ⟨b, 0, none⟩) 1 1]).run Tryz.prog w = .ok v' w' ∧ KOwn T k enc w' B v' (xs ++ [u]) ∧ w.grownBy w' v.ownBlock ∧ (v'.ownBlock = v.ownBlock ∨ v'.ownBlock = some w.heap.size) := by
  obtain ⟨i0, hi, hz0, hz1, hz2⟩ := info_parts hi
  obtain ⟨v', w', h2, h3, h4, _, h5⟩ := run_append_own_at (P := Tryz.prog) w B ST ty T i0 z k bytes hT hi hz0 hz1 hz2 hz hk0 v xs.length (cellsK enc xs) hown ⟨b, 0, none⟩ 1 1 (enc u) (by rw [hk, Nat.one_mul]) (fun j r hj => by rw [add_at]; exact hc j r hj) (h1 u) (by unfold maxLen; omega) (Nat.le_trans (Nat.mul_le_mul (show xs.length + 1 ≤ 1000000000 by omega) hby) (by decide)) hB
  refine ⟨v', w', h2, ?_, h4, h5⟩
  unfold KOwn
  rw [List.length_append, cellsK_app]
  simpa [cellsK] using h3
theorem wp_append_k {α : Type} {k : Nat} {enc : α → List Value} {w : World} {o : Oper} {a : Act} {K : Act → World → Prop} {Q : Exit → Act → World → Prop} (s x : Operand) (ST T : TypeId) (z : Value) (bytes : Nat)
    (ho : o.op = .call { callee := .builtin .append, args := #[s, x], argTypes := #[ST, ST] })
    (hT : Tryz.prog.underlying ST = some (.slice T)) (hi : (Tryz.prog.info? T).map (fun i => (i.zero, i.size, i.bytes)) = some (some z, k, bytes)) (hz : z.cells.size = k) (hk0 : 0 < k) (hby : bytes ≤ 1000)
    (hk : ∀ x, (enc x).length = k) (h1 : ∀ x, ∀ u ∈ enc x, u.oneCell' = true)
    (B : Nat) (v : Value) (xs : List α) (hs : a.eval s = v) (hown : KOwn T k enc w B v xs) (b : Nat) (u : α) (hx : a.eval x = .slice (some ⟨b, 0, none⟩) 1 1) (hc : ∀ c r, (enc u)[c]? = some r → w.cell? ⟨b, c, none⟩ = some r)
    (hn : xs.length ≤ 999999999) (hB : B ≤ w.heap.size)
    (h : ∀ v' w', KOwn T k enc w' B v' (xs ++ [u]) → w.grownBy w' v.ownBlock → (v'.ownBlock = v.ownBlock ∨ v'.ownBlock = some w.heap.size) → K (a.put o.dst v') w') : o.wp Tryz.prog a w K Q := by
  obtain ⟨v', w', h2, h3, h4, h5⟩ := run_append_k_at (w := w) ST T o.type z bytes hT hi hz hk0 hby hk h1 B v xs hown b u hc hn hB
  unfold Oper.wp execOp
  simp only [ho, resolve, invoke, builtin, Sem.run_bind, Sem.run_pure, Result.andThen_ok, List.map_toArray, List.map_cons, List.map_nil, hs, hx, h2]
  exact h v' w' h3 h4 h5
/-- A slice of one new element. -/
def oneAt {α : Type} (enc : α → List Value) (u : α) (v : Value) (w : World) : Prop := ∃ b, v = .slice (some ⟨b, 0, none⟩) 1 1 ∧ b < w.heap.size ∧ ∀ c r, (enc u)[c]? = some r → w.cell? ⟨b, c, none⟩ = some r
theorem oneAt.ext {α : Type} {enc : α → List Value} {u : α} {v : Value} {w w' : World} (h : oneAt enc u v w) (hx : Ext w w') : oneAt enc u v w' := by
  obtain ⟨b, h1, h2, h3⟩ := h
  exact ⟨b, h1, Nat.lt_of_lt_of_le h2 hx.size, fun c r hr => by rw [hx.cell (p := ⟨b, c, none⟩) h2]; exact h3 c r hr⟩
theorem oneAt.new {α : Type} {enc : α → List Value} {u : α} (w : World) (T : TypeId) (cs : Array Value) (h : cs = (enc u).toArray) : oneAt enc u (.slice (some ⟨w.heap.size, 0, none⟩) 1 1) (w.alloc (.cells cs T)) := by
  subst h
  refine ⟨_, rfl, by simp, fun c r hr => cell_at (heap_alloc_new w _) (by simpa using hr)⟩
/-- One number in a cell. -/
def encI1 (x : Int) : List Value := [encI x]
theorem encI1_len (x : Int) : (encI1 x).length = 1 := rfl
theorem encI1_one (x : Int) : ∀ v ∈ encI1 x, v.oneCell' = true := by
  intro v hv
  simp only [encI1, List.mem_cons, List.not_mem_nil, or_false] at hv
  subst hv; rfl
end Go.Proofs.YtkpfehfcgpapiaaGreatDoor
