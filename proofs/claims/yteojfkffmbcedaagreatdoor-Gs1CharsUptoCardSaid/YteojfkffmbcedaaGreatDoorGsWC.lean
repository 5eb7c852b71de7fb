/-
  Chapter 14: slices cut, the element's cell; lemmas for next.
  No condition.
-/
import Derived.Test.YteojfkffmbcedaaGreatDoorGsWB
namespace Go.Proofs.YteojfkffmbcedaaGreatDoor
set_option linter.unusedVariables false
open Go.RowKit

theorem sizeOf_byte (w : World) : (sizeOf 5).run Tryz.prog w = .ok 1 w := by kernel_rfl
theorem sizeOf_int (w : World) : (sizeOf 3).run Tryz.prog w = .ok 1 w := by kernel_rfl
theorem sliced_sl {w : World} {a : Option Addr} {c : Nat} {xs : List Value} {l h : Nat} (hs : Sl w (.slice a xs.length c) xs) (hc : xs.length ≤ c) (hl : l ≤ h) (hh : h ≤ xs.length) :
    SlK w (sliced a l h c 1) ((xs.drop l).take (h - l)) := by
  have hlen : ((xs.drop l).take (h - l)).length = h - l := by rw [List.length_take, List.length_drop]; omega
  unfold sliced
  refine ⟨?_, _, c - l, by rw [hlen], by rw [hlen]; omega⟩
  by_cases hz : h - l = 0
  · left
    exact ⟨List.eq_nil_of_length_eq_zero (by rw [hlen]; exact hz), _, _, by rw [hz]⟩
  · right
    rw [if_neg (by omega), Nat.mul_one]
    rcases hs with ⟨h0, _⟩ | ⟨b, off, cap, he, hb, hcell⟩
    · rw [h0] at hh; simp at hh; omega
    · injection he with h1 h2 h3
      subst h1
      refine ⟨b, off + l, c - l, by rw [hlen]; simp [add_off], hb, fun i hi => ?_⟩
      rw [hlen] at hi
      rw [Nat.add_assoc, hcell (l + i) (by omega), List.getElem?_take, if_pos hi, List.getElem?_drop]
theorem slice_bytes {w : World} {v : Value} {xs : List Value} (hs : SlK w v xs) (l h : Nat) (hl : l ≤ h) (hh : h ≤ xs.length) :
    ∃ v', (∀ w', (Instr.slice 36 v (some (.int .i64 (l : Int))) (some (.int .i64 (h : Int))) none).run Tryz.prog w' = .ok v' w') ∧ SlK w v' ((xs.drop l).take (h - l)) := by
  obtain ⟨hsl, a, c, rfl, hc⟩ := hs
  refine ⟨_, fun w' => ?_, sliced_sl hsl hc hl hh⟩
  have e : Tryz.prog.elem 36 = 5 := by kernel_rfl
  have ht : Tryz.prog.underlying 36 = some (.slice (Tryz.prog.elem 36)) := by rw [e]; exact Tryz.underlying36
  rw [run_slice_lh w' 36 a xs.length c ht .i64 .i64 (l : Int) (h : Int) (by omega) (by omega) (by omega), e, sizeOf_byte]
  rfl
theorem slice_ints {w : World} {v : Value} {xs : List Value} (hs : SlK w v xs) (l : Nat) (hl : l ≤ xs.length) :
    ∃ v', (∀ w', (Instr.slice 23 v (some (.int .i64 (l : Int))) none none).run Tryz.prog w' = .ok v' w') ∧ SlK w v' (xs.drop l) := by
  obtain ⟨hsl, a, c, rfl, hc⟩ := hs
  have h1 := sliced_sl hsl hc (l := l) (h := xs.length) hl (Nat.le_refl _)
  rw [List.take_of_length_le (by rw [List.length_drop]; exact Nat.le_refl _)] at h1
  refine ⟨_, fun w' => ?_, h1⟩
  have e : Tryz.prog.elem 23 = 3 := by kernel_rfl
  have ht : Tryz.prog.underlying 23 = some (.slice (Tryz.prog.elem 23)) := by rw [e]; exact Tryz.underlying23
  rw [run_slice_l w' 23 a xs.length c ht .i64 (l : Int) (by omega) (by omega), e, sizeOf_int]
  rfl
theorem idxFrom_run (l : List Int) : ∀ i : Nat, Lib.idxFrom l 256 i = if (Gs.run l).length = l.length then -1 else ((i + (Gs.run l).length : Nat) : Int) := by
  induction l with
  | nil => intro i; rfl
  | cons c l ih =>
    intro i
    by_cases h : c = 256
    · subst h; simp [Lib.idxFrom, Gs.run]
    · simp only [Lib.idxFrom, Gs.run, if_neg h, List.length_cons]
      rw [ih]
      by_cases h1 : (Gs.run l).length = l.length
      · have h2 : (Gs.run l).length + 1 = l.length + 1 := by omega
        simp only [if_pos h1, if_pos h2]
      · have h2 : ¬ (Gs.run l).length + 1 = l.length + 1 := by omega
        simp only [if_neg h1, if_neg h2]
        omega
theorem index_run {w : World} {v : Value} {cs : List Int} (hs : Sl w v (cs.map encI)) (hn : cs.length ≤ 1000000) :
    ∀ w', Ext w w' → Calls Tryz.prog 48 #[v, .int .i64 256] w' fun e w'' => e = .returned (.int .i64 (if (Gs.run cs).length = cs.length then -1 else ((Gs.run cs).length : Int))) ∧ w'' = w' := by
  intro w' hx
  have hs' := hs.ext hx
  have e1 : Lib.idxOf cs 256 = (if (Gs.run cs).length = cs.length then -1 else ((Gs.run cs).length : Int)) := by
    unfold Lib.idxOf; rw [idxFrom_run, Nat.zero_add]
  rw [← e1]
  rcases hs' with ⟨h0, a, c, rfl⟩ | ⟨b, off, cap, rfl, hb, hc⟩
  · have : cs = [] := by simpa using h0
    subst this
    exact Tryz.slices_Index_int_empty a c 256 w'
  · rw [List.length_map] at hc ⊢
    have := Tryz.slices_Index_int b off cs.length cap cs 256 w' (Nat.le_refl _) (by omega) (fun j hj => by
      rw [hc j hj, List.getElem?_map, List.getD_eq_getElem?_getD, List.getElem?_eq_getElem hj]; rfl)
    rw [List.take_length] at this
    exact this
/-- The element's cell. -/
def ElAt (w : World) (b : Nat) (x : Gs.El) : Prop := w.heap[b]? = some (.cells #[encS x.1, encS x.2] 35 (0, 0))
theorem ElAt.cells {w : World} {b : Nat} {x : Gs.El} (h : ElAt w b x) : w.cell? ⟨b, 0, none⟩ = some (encS x.1) ∧ w.cell? ⟨b, 1, none⟩ = some (encS x.2) := by
  unfold ElAt at h
  refine ⟨?_, ?_⟩
  all_goals unfold World.cell?; rw [h]; rfl
theorem ElAt.free {w : World} {b : Nat} {x : Gs.El} (h : ElAt w b x) (i : Nat) : w.frozen? ⟨b, i, none⟩ = false := Lib.frozen_of_heap h i
theorem ElAt.put {w : World} {b : Nat} {x : Gs.El} (h : ElAt w b x) (y : Gs.El) : ElAt ((w.setCell ⟨b, 0, none⟩ (encS y.1)).setCell ⟨b, 1, none⟩ (encS y.2)) b y := Joins.block_setCell (Joins.block_setCell h _) _
theorem ElAt.puts {w : World} {b : Nat} {x : Gs.El} (h : ElAt w b x) (y : Gs.El) : (w.setCell ⟨b, 0, none⟩ (encS y.1)).cell? ⟨b, 0, none⟩ = some (encS y.1) ∧ ((w.setCell ⟨b, 0, none⟩ (encS y.1)).setCell ⟨b, 1, none⟩ (encS y.2)).cell? ⟨b, 1, none⟩ = some (encS y.2) :=
  ⟨set_same h (by simp), set_same (Joins.block_setCell h _) (by simp)⟩
theorem ElAt.ext {w w' : World} {b : Nat} {x : Gs.El} (h : ElAt w b x) (hx : Ext w w') : ElAt w' b x := by
  unfold ElAt at h ⊢
  have hb : b < w.heap.size := by
    rcases Nat.lt_or_ge b w.heap.size with hh | hh
    · exact hh
    · rw [Array.getElem?_eq_none hh] at h; simp at h
  rw [hx.block b hb]; exact h
/-- What next returns. -/
def NextR (x : Gs.El × Nat × Int) (w : World) (e : Ending) (w' : World) : Prop := e = .returned (.tuple #[.agg #[encS x.1.1, encS x.1.2], .int .i64 (x.2.1 : Int), .int .i64 x.2.2]) ∧ Ext w w'
theorem byte_nat {c : Int} (h0 : 0 ≤ c) (h1 : c ≤ 127) : ((Gs.byte c).toNat : Int) = c := by
  unfold Gs.byte
  rw [Int.emod_eq_of_lt h0 (by omega)]
  have : (UInt8.ofNat c.toNat).toNat = c.toNat := by simp; omega
  rw [this]; omega
theorem run_at {cs : List Int} {j : Nat} (h : j < (Gs.run cs).length) : (Gs.run cs)[j]? = cs[j]? := by
  rcases (run_cut cs).2 with e | ⟨r, e⟩
  · rw [e]
  · conv => rhs; rw [e]
    rw [List.getElem?_append_left h]
end Go.Proofs.YteojfkffmbcedaaGreatDoor
