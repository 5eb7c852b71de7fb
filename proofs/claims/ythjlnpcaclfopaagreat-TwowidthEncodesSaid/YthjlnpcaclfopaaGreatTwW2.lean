/-
  Chapter 12: newAlphabet and spaced, walked.
  Condition: the alphabet is one of the three.
-/
import Derived.Test.YthjlnpcaclfopaaGreatTwW1
import Derived.Laws.NewDeep
import Derived.Laws.EntriesVeiled
namespace Go.Proofs.YthjlnpcaclfopaaGreat
open Go.RowKit

/-- What newAlphabet returns. -/
def alphV (z bc bp bz : Nat) : Value :=
  .agg #[.int .i64 (z : Int), .func (.func 71) #[] #[.pointer (some ⟨bc, 0, none⟩), .pointer (some ⟨bp, 0, none⟩), .pointer (some ⟨bz, 0, none⟩)],
    .func (.func 72) #[] #[.pointer (some ⟨bc, 0, none⟩), .pointer (some ⟨bp, 0, none⟩), .pointer (some ⟨bz, 0, none⟩)]]

set_option maxHeartbeats 1000000 in
theorem newAlphabet_any (cs ps : ByteArray) (z : Nat) (w : World) (hc : cs.size = 44 ∧ ps.size = 396 ∧ z = 9 ∨ cs.size = 20 ∧ ps.size = 140 ∧ z = 7 ∨ cs.size = 10 ∧ ps.size = 50 ∧ z = 5) :
    Calls Tryz.prog 52 #[.string cs, .string ps] w
      fun e w' => ∃ bc bp bz, e = .returned (alphV z bc bp bz) ∧ AlphAt w' bc bp bz cs ps z ∧ (w.heap.size ≤ bc ∧ w.heap.size ≤ bp ∧ w.heap.size ≤ bz) ∧ Ext w w' := by
  rcases hc with ⟨h1, h2, rfl⟩ | ⟨h1, h2, rfl⟩ | ⟨h1, h2, rfl⟩
  all_goals
    go_enter Tryz.func52, Tryz.ntmps52
    go_wp2
    refine bodyPost_ret_by (v := alphV _ w.heap.size (w.heap.size + 1) (w.heap.size + 1 + 1 + 1)) (by simp [results, Tryz.results52, go_sem, alphV]) rfl
      ⟨_, _, _, rfl, ⟨by simp [go_sem], by simp [go_sem], by simp [go_sem], by simp; omega, by simp, by simp⟩, ⟨by omega, by omega, by omega⟩, (by repeat (first | exact Ext.refl _ | assumption | refine Ext.alloc ?_ _ | refine Ext.drew ?_ | refine Ext.trans ?_ (by assumption)))⟩

/-- What spaced returns, with what code39 and codabar put into it. -/
def spacedV (z bc bp bz ba be bi bl bm : Nat) (comp text : Value) : Value :=
  .agg #[.int .i64 (z : Int), .func (.func 71) #[] #[.pointer (some ⟨bc, 0, none⟩), .pointer (some ⟨bp, 0, none⟩), .pointer (some ⟨bz, 0, none⟩)],
    .func (.func 72) #[] #[.pointer (some ⟨bc, 0, none⟩), .pointer (some ⟨bp, 0, none⟩), .pointer (some ⟨bz, 0, none⟩)], .func (.func 67) #[] #[.pointer (some ⟨ba, 0, none⟩), .pointer (some ⟨bl, 0, none⟩), .pointer (some ⟨bm, 0, none⟩)], comp,
    .func (.func 68) #[] #[.pointer (some ⟨ba, 0, none⟩)],
    .func (.func 70) #[] #[.pointer (some ⟨ba, 0, none⟩), .pointer (some ⟨be, 0, none⟩), .pointer (some ⟨bi, 0, none⟩)], text]

/-- The variables that its functions captured. -/
structure SpacedAt (w : World) (z bc bp bz ba be bi bl bm : Nat) (edge inner : ByteArray) (least most : Nat) : Prop where
  a0 : w.cell? ⟨ba, 0, none⟩ = some (.int .i64 (z : Int))
  a1 : w.cell? ⟨ba, 1, none⟩ = some (.func (.func 71) #[] #[.pointer (some ⟨bc, 0, none⟩), .pointer (some ⟨bp, 0, none⟩), .pointer (some ⟨bz, 0, none⟩)])
  a2 : w.cell? ⟨ba, 2, none⟩ = some (.func (.func 72) #[] #[.pointer (some ⟨bc, 0, none⟩), .pointer (some ⟨bp, 0, none⟩), .pointer (some ⟨bz, 0, none⟩)])
  e : w.cell? ⟨be, 0, none⟩ = some (.string edge)
  i : w.cell? ⟨bi, 0, none⟩ = some (.string inner)
  l : w.cell? ⟨bl, 0, none⟩ = some (.int .i64 (least : Int))
  m : w.cell? ⟨bm, 0, none⟩ = some (.int .i64 (most : Int))
  la : ba < w.heap.size
  le : be < w.heap.size
  li : bi < w.heap.size
  ll : bl < w.heap.size
  lm : bm < w.heap.size
theorem SpacedAt.ext {w w' : World} {z bc bp bz ba be bi bl bm : Nat} {edge inner : ByteArray} {least most : Nat} (h : SpacedAt w z bc bp bz ba be bi bl bm edge inner least most) (hx : Ext w w') :
    SpacedAt w' z bc bp bz ba be bi bl bm edge inner least most :=
  ⟨by rw [hx.cell (p := ⟨ba, 0, none⟩) h.la]; exact h.a0, by rw [hx.cell (p := ⟨ba, 1, none⟩) h.la]; exact h.a1, by rw [hx.cell (p := ⟨ba, 2, none⟩) h.la]; exact h.a2,
    by rw [hx.cell (p := ⟨be, 0, none⟩) h.le]; exact h.e, by rw [hx.cell (p := ⟨bi, 0, none⟩) h.li]; exact h.i, by rw [hx.cell (p := ⟨bl, 0, none⟩) h.ll]; exact h.l, by rw [hx.cell (p := ⟨bm, 0, none⟩) h.lm]; exact h.m,
    Nat.lt_of_lt_of_le h.la hx.size, Nat.lt_of_lt_of_le h.le hx.size, Nat.lt_of_lt_of_le h.li hx.size, Nat.lt_of_lt_of_le h.ll hx.size, Nat.lt_of_lt_of_le h.lm hx.size⟩

set_option maxHeartbeats 1000000 in
theorem spaced_any (z bc bp bz : Nat) (edge inner : ByteArray) (least most : Nat) (w : World) :
    Calls Tryz.prog 51 #[alphV z bc bp bz, .string edge, .string inner, .int .i64 (least : Int), .int .i64 (most : Int)] w
      fun e w' => ∃ ba be bi bl bm, e = .returned (spacedV z bc bp bz ba be bi bl bm .nilFunc .nilFunc) ∧ SpacedAt w' z bc bp bz ba be bi bl bm edge inner least most ∧ (w.heap.size ≤ ba ∧ w.heap.size ≤ be ∧ w.heap.size ≤ bi ∧ w.heap.size ≤ bl ∧ w.heap.size ≤ bm) ∧ Ext w w' := by
  unfold alphV
  go_enter Tryz.func51, Tryz.ntmps51
  go_wp2
  refine bodyPost_ret_by (v := spacedV z bc bp bz w.heap.size (w.heap.size + 1) (w.heap.size + 1 + 1) (w.heap.size + 1 + 1 + 1) (w.heap.size + 1 + 1 + 1 + 1) .nilFunc .nilFunc) (by simp [results, Tryz.results51, go_sem, spacedV]) rfl
      ⟨_, _, _, _, _, rfl, ⟨by simp [go_sem], by simp [go_sem], by simp [go_sem], by simp [go_sem], by simp [go_sem], by simp [go_sem], by simp [go_sem], by simp; omega, by simp, by simp, by simp, by simp⟩, ⟨by omega, by omega, by omega, by omega, by omega⟩, (by repeat (first | exact Ext.refl _ | assumption | refine Ext.alloc ?_ _ | refine Ext.drew ?_ | refine Ext.trans ?_ (by assumption)))⟩

theorem AlphAt.keep {w w' : World} {B bc bp bz : Nat} {cs ps : ByteArray} {z : Nat} (h : AlphAt w bc bp bz cs ps z) (hk : ∀ b o, b ≠ B → b < w.heap.size → w'.cell? ⟨b, o, none⟩ = w.cell? ⟨b, o, none⟩) (hs : w.heap.size ≤ w'.heap.size) (h1 : B < bc) (h2 : B < bp) (h3 : B < bz) : AlphAt w' bc bp bz cs ps z :=
  ⟨by rw [hk _ _ (by omega) h.lc]; exact h.c, by rw [hk _ _ (by omega) h.lp]; exact h.p, by rw [hk _ _ (by omega) h.lz]; exact h.z,
    Nat.lt_of_lt_of_le h.lc hs, Nat.lt_of_lt_of_le h.lp hs, Nat.lt_of_lt_of_le h.lz hs⟩
theorem SpacedAt.keep {w w' : World} {B z bc bp bz ba be bi bl bm : Nat} {edge inner : ByteArray} {least most : Nat} (h : SpacedAt w z bc bp bz ba be bi bl bm edge inner least most)
    (hk : ∀ b o, b ≠ B → b < w.heap.size → w'.cell? ⟨b, o, none⟩ = w.cell? ⟨b, o, none⟩) (hs : w.heap.size ≤ w'.heap.size) (h1 : B < ba) (h2 : B < be) (h3 : B < bi) (h4 : B < bl) (h5 : B < bm) : SpacedAt w' z bc bp bz ba be bi bl bm edge inner least most :=
  ⟨by rw [hk _ _ (by omega) h.la]; exact h.a0, by rw [hk _ _ (by omega) h.la]; exact h.a1, by rw [hk _ _ (by omega) h.la]; exact h.a2,
    by rw [hk _ _ (by omega) h.le]; exact h.e, by rw [hk _ _ (by omega) h.li]; exact h.i, by rw [hk _ _ (by omega) h.ll]; exact h.l, by rw [hk _ _ (by omega) h.lm]; exact h.m,
    Nat.lt_of_lt_of_le h.la hs, Nat.lt_of_lt_of_le h.le hs, Nat.lt_of_lt_of_le h.li hs, Nat.lt_of_lt_of_le h.ll hs, Nat.lt_of_lt_of_le h.lm hs⟩
end Go.Proofs.YthjlnpcaclfopaaGreat
