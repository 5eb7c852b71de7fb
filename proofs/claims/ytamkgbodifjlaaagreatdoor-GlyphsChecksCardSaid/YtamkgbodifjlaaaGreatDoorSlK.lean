/-
  Slices whose length is within their capacity, and their parts.
  No condition.
-/
import Derived.Test.YtamkgbodifjlaaaGreatDoorSl
namespace Go.Proofs.YtamkgbodifjlaaaGreatDoor
open Go.RowKit

/-- A slice that reads as a list, its length within its capacity. -/
def SlK (w : World) (v : Value) (xs : List Value) : Prop := Sl w v xs ∧ ∃ a c, v = .slice a xs.length c ∧ xs.length ≤ c
theorem SlK.ext {w w' : World} {v : Value} {xs : List Value} (h : SlK w v xs) (hx : Ext w w') : SlK w' v xs := ⟨h.1.ext hx, h.2⟩
theorem Own.slk {t : TypeId} {w : World} {B : Nat} {v : Value} {xs : List Value} (h : Own t w B v xs) : SlK w v xs := by
  refine ⟨h.sl, ?_⟩
  rcases h.2 with ⟨hnil, h0⟩ | ⟨g, cap, cur, hv, _, _, h1, _⟩
  · exact ⟨none, 0, by rw [hnil, h0], by rw [h0]; exact Nat.le_refl _⟩
  · exact ⟨_, cap, hv, h1⟩
theorem sliced_sl {w : World} {a : Option Addr} {c : Nat} {xs : List Value} {l h : Nat} (hs : Sl w (.slice a xs.length c) xs) (hc : xs.length ≤ c) (hl : l ≤ h) (hh : h ≤ xs.length) :
    SlK w (sliced a l h c 1) ((xs.drop l).take (h - l)) := by
  have hlen : ((xs.drop l).take (h - l)).length = h - l := by rw [List.length_take, List.length_drop]; omega
  unfold sliced
  refine ⟨?_, _, c - l, by rw [hlen], by rw [hlen]; omega⟩
  by_cases hz : h - l = 0
  · left
    exact ⟨List.eq_nil_of_length_eq_zero (by rw [hlen]; exact hz), _, _, by rw [hz]⟩
  · right
    rw [if_neg (by omega), Nat.mul_one]
    rcases hs with ⟨h0, _⟩ | ⟨b, off, cap, he, hb, hcell⟩
    · rw [h0] at hh; simp at hh; omega
    · injection he with h1 h2 h3
      subst h1
      refine ⟨b, off + l, c - l, by rw [hlen]; simp [add_off], hb, fun i hi => ?_⟩
      rw [hlen] at hi
      rw [Nat.add_assoc, hcell (l + i) (by omega), List.getElem?_take, if_pos hi, List.getElem?_drop]
theorem SlK.nil (w : World) : SlK w (.slice none 0 0) [] := ⟨.inl ⟨rfl, none, 0, rfl⟩, none, 0, rfl, Nat.le_refl _⟩
theorem SlK.row {w : World} {b : Nat} {t : TypeId} {n : Nat} {f : Nat → Value} (h : w.rowIs b t n f) : SlK w (.slice (some ⟨b, 0, none⟩) n n) ((List.range n).map f) :=
  ⟨Sl.row h, _, n, by rw [List.length_map, List.length_range], by rw [List.length_map, List.length_range]; exact Nat.le_refl _⟩
theorem SlK.congr {w : World} {v : Value} {xs ys : List Value} (h : SlK w v xs) (e : xs = ys) : SlK w v ys := e ▸ h
theorem sizeOf_bool (w : World) : (sizeOf 4).run Tryz.prog w = .ok 1 w := by kernel_rfl
theorem slice_bools {w : World} {v : Value} {xs : List Value} (hs : SlK w v xs) (l h : Nat) (hl : l ≤ h) (hh : h ≤ xs.length) :
    ∃ v', (∀ w', (Instr.slice 22 v (some (.int .i64 (l : Int))) (some (.int .i64 (h : Int))) none).run Tryz.prog w' = .ok v' w') ∧ SlK w v' ((xs.drop l).take (h - l)) := by
  obtain ⟨hsl, a, c, rfl, hc⟩ := hs
  refine ⟨_, fun w' => ?_, sliced_sl hsl hc hl hh⟩
  have e : Tryz.prog.elem 22 = 4 := by kernel_rfl
  have ht : Tryz.prog.underlying 22 = some (.slice (Tryz.prog.elem 22)) := by rw [e]; exact Tryz.underlying22
  rw [run_slice_lh w' 22 a xs.length c ht .i64 .i64 (l : Int) (h : Int) (by omega) (by omega) (by omega), e, sizeOf_bool]
  rfl
end Go.Proofs.YtamkgbodifjlaaaGreatDoor
