/-
  A bitmap, a box, a slice of 16-bit numbers that came in.
  No condition.
-/
import Derived.Test.YtamkgbodifjlaaaGreatDoorSlK
import Derived.Test.YtamkgbodifjlaaaGreatDoorSl
import Derived.Deep.Grids
import Derived.Test.YtamkgbodifjlaaaGreatDoorInts2
import Derived.Lib.SmallJoins
import Derived.OpenShut
import Derived.ShutString
namespace Go.Proofs.YtamkgbodifjlaaaGreatDoor
open Go.Joins Go.ChangeShapes Go.WideShapes Go.RowKit Go.Deep

theorem bools_came {w : World} {a : Option Addr} {len cap : Nat}
    (h : (a = none ∧ len = 0 ∧ cap = 0) ∨ ∃ x, a = some x ∧ len ≤ cap ∧ cap ≤ maxLen ∧ ∃ B : Nat → Bool, ∀ i, i < cap → w.cell? (x.add i) = some (.bool (B i))) :
    ∃ m : List Bool, SlK w (.slice a len cap) (m.map encT) ∧ m.length ≤ maxLen := by
  rcases h with ⟨rfl, rfl, rfl⟩ | ⟨x, rfl, hlc, hcm, B, hc⟩
  · exact ⟨[], ⟨.inl ⟨rfl, none, 0, rfl⟩, none, 0, rfl, Nat.le_refl _⟩, Nat.zero_le _⟩
  · have hl : (((List.range len).map B).map encT).length = len := by simp
    refine ⟨(List.range len).map B, ⟨?_, some x, cap, by rw [hl], by rw [hl]; exact hlc⟩, by simp; omega⟩
    by_cases h0 : len = 0
    · subst h0
      exact .inl ⟨rfl, some x, cap, rfl⟩
    · obtain ⟨b, off, path⟩ := x
      have hp : path = none := by
        have := hc 0 (by omega)
        cases path with
        | none => rfl
        | some q => exact absurd this (by unfold Addr.add World.cell?; split <;> simp)
      subst hp
      refine .inr ⟨b, off, cap, by rw [hl], ?_, fun i hi => ?_⟩
      · have := hc 0 (by omega)
        rw [add_off] at this
        rcases Nat.lt_or_ge b w.heap.size with h | h
        · exact h
        · simp [World.cell?, Array.getElem?_eq_none h] at this
      · rw [hl] at hi
        have := hc i (by omega)
        rw [add_off] at this
        rw [this, List.getElem?_map, List.getElem?_map, List.getElem?_range hi]
        rfl
section
variable {H : Type} {enc : TypeId × Value → H} {P : Program} {w : World} {base : Nat} {spare : Nat → Bool} {held : Bool}
theorem open_four {r : Reach} {b0 : Nat} {t : TypeId} {f0 f1 f2 f3 : Field} {v : Value} {d : DataW H} {p : List MemPlace} (hs : P.underlying t = some (.struct #[f0, f1, f2, f3])) (hone : oneCellFields P #[f0, f1, f2, f3] = true) (hC : P.cellsOf t = 4)
    (hv : Value.okWide P w r b0 t v) (h : DataW.Trod enc P w base spare held t v d p) :
    ∃ (v0 v1 v2 v3 : Value) (y0 y1 y2 y3 : DataW H × List MemPlace) (n : Nat), v = .agg #[v0, v1, v2, v3] ∧
      DataW.trod enc P w base spare held n f0.type [v0] = some y0 ∧ DataW.trod enc P w base spare held n f1.type [v1] = some y1 ∧ DataW.trod enc P w base spare held n f2.type [v2] = some y2 ∧ DataW.trod enc P w base spare held n f3.type [v3] = some y3 := by
  obtain ⟨cs, rfl, hsz⟩ := okWide_struct hs hv
  obtain ⟨l⟩ := cs
  match l, hsz.trans hC with
  | [c0, c1, c2, c3], _ =>
    obtain ⟨fuel, hf⟩ := h
    obtain ⟨xs, n, _, _, _, hlen, hg⟩ := DataW.trod_struct hs hf
    obtain ⟨o0, k0⟩ := hone_of hone 0 f0 rfl
    obtain ⟨o1, k1⟩ := hone_of hone 1 f1 rfl
    obtain ⟨o2, k2⟩ := hone_of hone 2 f2 rfl
    obtain ⟨o3, k3⟩ := hone_of hone 3 f3 rfl
    match xs, hlen with
    | [y0, y1, y2, y3], _ =>
      exact ⟨c0, c1, c2, c3, y0, y1, y2, y3, n, rfl, by simpa [Value.cells, o0, k0] using hg 0 f0 rfl, by simpa [Value.cells, o1, k1] using hg 1 f1 rfl, by simpa [Value.cells, o2, k2] using hg 2 f2 rfl, by simpa [Value.cells, o3, k3] using hg 3 f3 rfl⟩
end
set_option maxRecDepth 100000 in
theorem open_box {H : Type} {enc : TypeId × Value → H} {w : World} {base b0 : Nat} {spare : Nat → Bool} {held : Bool} {v : Value} {d : DataW H} {p : List MemPlace}
    (hv : Value.okWide Tryz.prog w .any b0 26 v) (h : DataW.Trod enc Tryz.prog w base spare held 26 v d p) :
    ∃ x y bw bh : Int, v = .agg #[.int .i64 x, .int .i64 y, .int .i64 bw, .int .i64 bh] := by
  obtain ⟨c0, c1, c2, c3, y0, y1, y2, y3, n, rfl, h0, h1, h2, h3⟩ := open_four Tryz.underlying26 (by kernel_rfl) (by kernel_rfl) hv h
  obtain ⟨a0, e0, _, _⟩ := DataW.trod_int Tryz.underlying3 h0
  obtain ⟨a1, e1, _, _⟩ := DataW.trod_int Tryz.underlying3 h1
  obtain ⟨a2, e2, _, _⟩ := DataW.trod_int Tryz.underlying3 h2
  obtain ⟨a3, e3, _, _⟩ := DataW.trod_int Tryz.underlying3 h3
  simp only [List.cons.injEq, and_true] at e0 e1 e2 e3
  subst e0 e1 e2 e3
  exact ⟨a0, a1, a2, a3, rfl⟩
set_option maxRecDepth 100000 in
theorem open_mat {H : Type} {enc : TypeId × Value → H} {w : World} {base b0 : Nat} {held : Bool} {v : Value} {d : DataW H} {p : List MemPlace}
    (hv : Value.okWide Tryz.prog w .any b0 24 v) (h : DataW.Trod enc Tryz.prog w base (fun _ => true) held 24 v d p) :
    ∃ (W Hh : Int) (a : Option Addr) (n c : Nat) (m : List Bool), v = .agg #[.int .i64 W, .int .i64 Hh, .slice a n c] ∧ SlK w (.slice a n c) (m.map encT) ∧ m.length ≤ maxLen ∧ (a = none → c = 0) := by
  obtain ⟨c0, c1, c2, y0, y1, y2, n, rfl, _, _, h0, h1, h2⟩ := open_agg3 Tryz.underlying24 (by kernel_rfl) (by kernel_rfl) hv h
  obtain ⟨a0, e0, _, _⟩ := DataW.trod_int Tryz.underlying3 h0
  obtain ⟨a1, e1, _, _⟩ := DataW.trod_int Tryz.underlying3 h1
  simp only [List.cons.injEq, and_true] at e0 e1
  subst e0 e1
  rcases Go.Deep.open_bools Tryz.underlying22 Tryz.underlying4 (by kernel_rfl) h2 with ⟨hcs, _⟩ | ⟨x, l, c, B, hcs, _, hl, hm, _, hcell⟩
  · simp only [List.cons.injEq, and_true] at hcs
    subst hcs
    obtain ⟨m, h3, h4⟩ := bools_came (w := w) (a := none) (len := 0) (cap := 0) (.inl ⟨rfl, rfl, rfl⟩)
    exact ⟨a0, a1, none, 0, 0, m, rfl, h3, h4, fun _ => rfl⟩
  · simp only [List.cons.injEq, and_true] at hcs
    subst hcs
    obtain ⟨m, h3, h4⟩ := bools_came (w := w) (a := some x) (len := l) (cap := c) (.inr ⟨x, rfl, hl, hm, B, hcell⟩)
    exact ⟨a0, a1, some x, l, c, m, rfl, h3, h4, fun h => by cases h⟩
end Go.Proofs.YtamkgbodifjlaaaGreatDoor
