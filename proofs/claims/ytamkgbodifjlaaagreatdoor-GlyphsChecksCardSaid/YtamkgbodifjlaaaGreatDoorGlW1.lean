/-
  Chapter 48, the program and the reference: whether a bitmap is valid; whether a box lies inside; Scale.
  No condition.
-/
import Derived.Test.YtamkgbodifjlaaaGreatDoorSl
import Derived.Test.YtamkgbodifjlaaaGreatDoorGlPa
namespace Go.Proofs.YtamkgbodifjlaaaGreatDoor
set_option linter.unusedVariables false
open Go.RowKit

def Gl.poss (W H : Int) : Bool := decide (1 ≤ W) && decide (W ≤ 4096) && decide (1 ≤ H) && decide (H ≤ 4096) && decide (W * H ≤ 4194304)
def Gl.ins (W H x y w h : Int) : Bool := decide (0 ≤ x) && decide (0 ≤ y) && decide (1 ≤ w) && decide (1 ≤ h) && decide (x ≤ W) && decide (w ≤ W - x) && decide (y ≤ H) && decide (h ≤ H - y)
def Gl.kn (n : Nat) : Bool := (decide (32 ≤ n) && decide (n ≤ 90)) || n == 91 || n == 93 || n == 95
/-- Cells of blocks that were there still read so. -/
theorem cell_keep {w w1 : World} (h : Ext w w1) {b i : Nat} {x : Value} (hb : b < w.heap.size) (hc : w.cell? ⟨b, i, none⟩ = some x) : w1.cell? ⟨b, i, none⟩ = some x := by
  rw [h.cell (p := ⟨b, i, none⟩) hb]; exact hc
theorem keep3 {w w1 : World} {a b c : Value} {t : TypeId} (h : Ext (w.alloc (.cells #[a, b, c] t)) w1) :
    w1.cell? ⟨w.heap.size, 0, none⟩ = some a ∧ w1.cell? ⟨w.heap.size, 1, none⟩ = some b ∧ w1.cell? ⟨w.heap.size, 2, none⟩ = some c :=
  ⟨cell_keep h (by simp) (by simp [go_sem]), cell_keep h (by simp) (by simp [go_sem]), cell_keep h (by simp) (by simp [go_sem])⟩
theorem keep4 {w w1 : World} {a b c d : Value} {t : TypeId} (h : Ext (w.alloc (.cells #[a, b, c, d] t)) w1) :
    w1.cell? ⟨w.heap.size, 0, none⟩ = some a ∧ w1.cell? ⟨w.heap.size, 1, none⟩ = some b ∧ w1.cell? ⟨w.heap.size, 2, none⟩ = some c ∧ w1.cell? ⟨w.heap.size, 3, none⟩ = some d :=
  ⟨cell_keep h (by simp) (by simp [go_sem]), cell_keep h (by simp) (by simp [go_sem]), cell_keep h (by simp) (by simp [go_sem]), cell_keep h (by simp) (by simp [go_sem])⟩
theorem Ext.back {w w1 : World} {o : Obj} (h : Ext (w.alloc o) w1) : Ext w w1 := ((Ext.refl w).alloc o).trans h
theorem keep34 {w w1 : World} {a b c d0 d1 d2 d3 : Value} {t u : TypeId} (h : Ext ((w.alloc (.cells #[a, b, c] t)).alloc (.cells #[d0, d1, d2, d3] u)) w1) :
    (w1.cell? ⟨w.heap.size, 0, none⟩ = some a ∧ w1.cell? ⟨w.heap.size, 1, none⟩ = some b ∧ w1.cell? ⟨w.heap.size, 2, none⟩ = some c) ∧
    w1.cell? ⟨w.heap.size + 1, 0, none⟩ = some d0 ∧ w1.cell? ⟨w.heap.size + 1, 1, none⟩ = some d1 ∧ w1.cell? ⟨w.heap.size + 1, 2, none⟩ = some d2 ∧ w1.cell? ⟨w.heap.size + 1, 3, none⟩ = some d3 := by
  have h4 := keep4 h
  simp only [World.size_alloc] at h4
  exact ⟨keep3 h.back, h4⟩
theorem mul_bd {W H : Int} (h1 : 1 ≤ W) (h2 : W ≤ 4096) (h3 : 1 ≤ H) (h4 : H ≤ 4096) : 0 ≤ W * H ∧ W * H ≤ 16777216 := by
  obtain ⟨a, rfl⟩ : ∃ a : Nat, W = a := ⟨W.toNat, by omega⟩
  obtain ⟨b, rfl⟩ : ∃ b : Nat, H = b := ⟨H.toNat, by omega⟩
  have : a * b ≤ 4096 * 4096 := Nat.mul_le_mul (by omega) (by omega)
  have h5 : ((a : Int) * (b : Int)) = ((a * b : Nat) : Int) := by simp
  rw [h5]; omega
theorem Gl.poss_parts {W H : Int} (h : Gl.poss W H = true) : 1 ≤ W ∧ W ≤ 4096 ∧ 1 ≤ H ∧ H ≤ 4096 ∧ W * H ≤ 4194304 := by
  unfold Gl.poss at h
  simp only [Bool.and_eq_true, decide_eq_true_eq] at h
  exact ⟨h.1.1.1.1, h.1.1.1.2, h.1.1.2, h.1.2, h.2⟩

set_option maxHeartbeats 2000000 in
theorem possible_any (W H : Int) (w : World) : Calls Tryz.prog 62 #[.int .i64 W, .int .i64 H] w fun e w' => e = .returned (.bool (Gl.poss W H)) ∧ w = w' := by
  by_cases h0 : 1 ≤ W
  rotate_left
  · have d0 : decide (1 ≤ W) = false := decide_eq_false h0
    have hr : Gl.poss W H = false := by unfold Gl.poss; simp [d0]
    rw [hr]
    clear hr h0
    go_enter Tryz.func62, Tryz.ntmps62
    go_wp2
    go_ret
    exact ⟨rfl, rfl⟩
  have d0 : decide (1 ≤ W) = true := decide_eq_true h0
  by_cases h1 : W ≤ 4096
  rotate_left
  · have d1 : decide (W ≤ 4096) = false := decide_eq_false h1
    have hr : Gl.poss W H = false := by unfold Gl.poss; simp [d1]
    rw [hr]
    clear hr h0 h1
    go_enter Tryz.func62, Tryz.ntmps62
    go_wp2
    go_ret
    exact ⟨rfl, rfl⟩
  have d1 : decide (W ≤ 4096) = true := decide_eq_true h1
  by_cases h2 : 1 ≤ H
  rotate_left
  · have d2 : decide (1 ≤ H) = false := decide_eq_false h2
    have hr : Gl.poss W H = false := by unfold Gl.poss; simp [d2]
    rw [hr]
    clear hr h0 h1 h2
    go_enter Tryz.func62, Tryz.ntmps62
    go_wp2
    go_ret
    exact ⟨rfl, rfl⟩
  have d2 : decide (1 ≤ H) = true := decide_eq_true h2
  by_cases h3 : H ≤ 4096
  rotate_left
  · have d3 : decide (H ≤ 4096) = false := decide_eq_false h3
    have hr : Gl.poss W H = false := by unfold Gl.poss; simp [d3]
    rw [hr]
    clear hr h0 h1 h2 h3
    go_enter Tryz.func62, Tryz.ntmps62
    go_wp2
    go_ret
    exact ⟨rfl, rfl⟩
  have d3 : decide (H ≤ 4096) = true := decide_eq_true h3
  obtain ⟨hlo, hhi⟩ := mul_bd h0 h1 h2 h3
  by_cases h4 : W * H ≤ 4194304
  rotate_left
  · have d4 : decide (W * H ≤ 4194304) = false := decide_eq_false h4
    have hr : Gl.poss W H = false := by unfold Gl.poss; simp [d4]
    rw [hr]
    clear hr h0 h1 h2 h3 h4
    go_enter Tryz.func62, Tryz.ntmps62
    go_wp2
    go_ret
    exact ⟨rfl, rfl⟩
  have d4 : decide (W * H ≤ 4194304) = true := decide_eq_true h4
  have hr : Gl.poss W H = true := by unfold Gl.poss; simp [d0, d1, d2, d3, d4]
  rw [hr]
  clear hr h0 h1 h2 h3 h4
  go_enter Tryz.func62, Tryz.ntmps62
  go_wp2
  go_ret
  exact ⟨rfl, rfl⟩

set_option maxHeartbeats 2000000 in
theorem fits_any (W H : Int) (w : World) : Calls Tryz.prog 100 #[.int .i64 W, .int .i64 H] w fun e w' => e = .returned (.bool (Gl.poss W H)) ∧ w = w' := by
  by_cases h0 : 1 ≤ W
  rotate_left
  · have d0 : decide (1 ≤ W) = false := decide_eq_false h0
    have hr : Gl.poss W H = false := by unfold Gl.poss; simp [d0]
    rw [hr]
    clear hr h0
    go_enter Tryz.func100, Tryz.ntmps100
    go_wp2
    go_ret
    exact ⟨rfl, rfl⟩
  have d0 : decide (1 ≤ W) = true := decide_eq_true h0
  by_cases h1 : W ≤ 4096
  rotate_left
  · have d1 : decide (W ≤ 4096) = false := decide_eq_false h1
    have hr : Gl.poss W H = false := by unfold Gl.poss; simp [d1]
    rw [hr]
    clear hr h0 h1
    go_enter Tryz.func100, Tryz.ntmps100
    go_wp2
    go_ret
    exact ⟨rfl, rfl⟩
  have d1 : decide (W ≤ 4096) = true := decide_eq_true h1
  by_cases h2 : 1 ≤ H
  rotate_left
  · have d2 : decide (1 ≤ H) = false := decide_eq_false h2
    have hr : Gl.poss W H = false := by unfold Gl.poss; simp [d2]
    rw [hr]
    clear hr h0 h1 h2
    go_enter Tryz.func100, Tryz.ntmps100
    go_wp2
    go_ret
    exact ⟨rfl, rfl⟩
  have d2 : decide (1 ≤ H) = true := decide_eq_true h2
  by_cases h3 : H ≤ 4096
  rotate_left
  · have d3 : decide (H ≤ 4096) = false := decide_eq_false h3
    have hr : Gl.poss W H = false := by unfold Gl.poss; simp [d3]
    rw [hr]
    clear hr h0 h1 h2 h3
    go_enter Tryz.func100, Tryz.ntmps100
    go_wp2
    go_ret
    exact ⟨rfl, rfl⟩
  have d3 : decide (H ≤ 4096) = true := decide_eq_true h3
  obtain ⟨hlo, hhi⟩ := mul_bd h0 h1 h2 h3
  by_cases h4 : W * H ≤ 4194304
  rotate_left
  · have d4 : decide (W * H ≤ 4194304) = false := decide_eq_false h4
    have hr : Gl.poss W H = false := by unfold Gl.poss; simp [d4]
    rw [hr]
    clear hr h0 h1 h2 h3 h4
    go_enter Tryz.func100, Tryz.ntmps100
    go_wp2
    go_ret
    exact ⟨rfl, rfl⟩
  have d4 : decide (W * H ≤ 4194304) = true := decide_eq_true h4
  have hr : Gl.poss W H = true := by unfold Gl.poss; simp [d0, d1, d2, d3, d4]
  rw [hr]
  clear hr h0 h1 h2 h3 h4
  go_enter Tryz.func100, Tryz.ntmps100
  go_wp2
  go_ret
  exact ⟨rfl, rfl⟩

set_option maxHeartbeats 2000000 in
theorem inside_any (W H : Int) (v : Value) (x y bw bh : Int) (hW : 1 ≤ W) (hW2 : W ≤ 4096) (hH : 1 ≤ H) (hH2 : H ≤ 4096) (w : World) : Calls Tryz.prog 35 #[.agg #[.int .i64 W, .int .i64 H, v], .agg #[.int .i64 x, .int .i64 y, .int .i64 bw, .int .i64 bh]] w fun e w' => e = .returned (.bool (Gl.ins W H x y bw bh)) ∧ Ext w w' := by
  by_cases h0 : 0 ≤ x
  rotate_left
  · have d0 : decide (0 ≤ x) = false := decide_eq_false h0
    have hr : Gl.ins W H x y bw bh = false := by unfold Gl.ins; simp [d0]
    rw [hr]
    clear hr h0
    go_enter Tryz.func35, Tryz.ntmps35
    go_wp2
    go_ret
    exact ⟨rfl, (by repeat (first | exact Ext.refl _ | assumption | refine Ext.alloc ?_ _ | refine Ext.drew ?_ | refine Ext.trans ?_ (by assumption)))⟩
  have d0 : decide (0 ≤ x) = true := decide_eq_true h0
  by_cases h1 : 0 ≤ y
  rotate_left
  · have d1 : decide (0 ≤ y) = false := decide_eq_false h1
    have hr : Gl.ins W H x y bw bh = false := by unfold Gl.ins; simp [d1]
    rw [hr]
    clear hr h0 h1
    go_enter Tryz.func35, Tryz.ntmps35
    go_wp2
    go_ret
    exact ⟨rfl, (by repeat (first | exact Ext.refl _ | assumption | refine Ext.alloc ?_ _ | refine Ext.drew ?_ | refine Ext.trans ?_ (by assumption)))⟩
  have d1 : decide (0 ≤ y) = true := decide_eq_true h1
  by_cases h2 : 1 ≤ bw
  rotate_left
  · have d2 : decide (1 ≤ bw) = false := decide_eq_false h2
    have hr : Gl.ins W H x y bw bh = false := by unfold Gl.ins; simp [d2]
    rw [hr]
    clear hr h0 h1 h2
    go_enter Tryz.func35, Tryz.ntmps35
    go_wp2
    go_ret
    exact ⟨rfl, (by repeat (first | exact Ext.refl _ | assumption | refine Ext.alloc ?_ _ | refine Ext.drew ?_ | refine Ext.trans ?_ (by assumption)))⟩
  have d2 : decide (1 ≤ bw) = true := decide_eq_true h2
  by_cases h3 : 1 ≤ bh
  rotate_left
  · have d3 : decide (1 ≤ bh) = false := decide_eq_false h3
    have hr : Gl.ins W H x y bw bh = false := by unfold Gl.ins; simp [d3]
    rw [hr]
    clear hr h0 h1 h2 h3
    go_enter Tryz.func35, Tryz.ntmps35
    go_wp2
    go_ret
    exact ⟨rfl, (by repeat (first | exact Ext.refl _ | assumption | refine Ext.alloc ?_ _ | refine Ext.drew ?_ | refine Ext.trans ?_ (by assumption)))⟩
  have d3 : decide (1 ≤ bh) = true := decide_eq_true h3
  by_cases h4 : x ≤ W
  rotate_left
  · have d4 : decide (x ≤ W) = false := decide_eq_false h4
    have hr : Gl.ins W H x y bw bh = false := by unfold Gl.ins; simp [d4]
    rw [hr]
    clear hr h0 h1 h2 h3 h4
    go_enter Tryz.func35, Tryz.ntmps35
    go_wp2
    go_ret
    exact ⟨rfl, (by repeat (first | exact Ext.refl _ | assumption | refine Ext.alloc ?_ _ | refine Ext.drew ?_ | refine Ext.trans ?_ (by assumption)))⟩
  have d4 : decide (x ≤ W) = true := decide_eq_true h4
  have hx1 : 0 ≤ W - x := by omega
  have hx2 : W - x ≤ 4096 := by omega
  by_cases h5 : bw ≤ W - x
  rotate_left
  · have d5 : decide (bw ≤ W - x) = false := decide_eq_false h5
    have hr : Gl.ins W H x y bw bh = false := by unfold Gl.ins; simp [d5]
    rw [hr]
    clear hr h0 h1 h2 h3 h4 h5
    go_enter Tryz.func35, Tryz.ntmps35
    go_wp2
    go_ret
    exact ⟨rfl, (by repeat (first | exact Ext.refl _ | assumption | refine Ext.alloc ?_ _ | refine Ext.drew ?_ | refine Ext.trans ?_ (by assumption)))⟩
  have d5 : decide (bw ≤ W - x) = true := decide_eq_true h5
  by_cases h6 : y ≤ H
  rotate_left
  · have d6 : decide (y ≤ H) = false := decide_eq_false h6
    have hr : Gl.ins W H x y bw bh = false := by unfold Gl.ins; simp [d6]
    rw [hr]
    clear hr h0 h1 h2 h3 h4 h5 h6
    go_enter Tryz.func35, Tryz.ntmps35
    go_wp2
    go_ret
    exact ⟨rfl, (by repeat (first | exact Ext.refl _ | assumption | refine Ext.alloc ?_ _ | refine Ext.drew ?_ | refine Ext.trans ?_ (by assumption)))⟩
  have d6 : decide (y ≤ H) = true := decide_eq_true h6
  have hy1 : 0 ≤ H - y := by omega
  have hy2 : H - y ≤ 4096 := by omega
  by_cases h7 : bh ≤ H - y
  rotate_left
  · have d7 : decide (bh ≤ H - y) = false := decide_eq_false h7
    have hr : Gl.ins W H x y bw bh = false := by unfold Gl.ins; simp [d7]
    rw [hr]
    clear hr h0 h1 h2 h3 h4 h5 h6 h7
    go_enter Tryz.func35, Tryz.ntmps35
    go_wp2
    go_ret
    exact ⟨rfl, (by repeat (first | exact Ext.refl _ | assumption | refine Ext.alloc ?_ _ | refine Ext.drew ?_ | refine Ext.trans ?_ (by assumption)))⟩
  have d7 : decide (bh ≤ H - y) = true := decide_eq_true h7
  have hr : Gl.ins W H x y bw bh = true := by unfold Gl.ins; simp [d0, d1, d2, d3, d4, d5, d6, d7]
  rw [hr]
  clear hr h0 h1 h2 h3 h4 h5 h6 h7
  go_enter Tryz.func35, Tryz.ntmps35
  go_wp2
  go_ret
  exact ⟨rfl, (by repeat (first | exact Ext.refl _ | assumption | refine Ext.alloc ?_ _ | refine Ext.drew ?_ | refine Ext.trans ?_ (by assumption)))⟩

set_option maxHeartbeats 2000000 in
theorem xinside_any (W H : Int) (v : Value) (x y bw bh : Int) (hW : 1 ≤ W) (hW2 : W ≤ 4096) (hH : 1 ≤ H) (hH2 : H ≤ 4096) (w : World) : Calls Tryz.prog 36 #[.agg #[.int .i64 W, .int .i64 H, v], .agg #[.int .i64 x, .int .i64 y, .int .i64 bw, .int .i64 bh]] w fun e w' => e = .returned (.bool (Gl.ins W H x y bw bh)) ∧ Ext w w' := by
  by_cases h0 : 0 ≤ x
  rotate_left
  · have d0 : decide (0 ≤ x) = false := decide_eq_false h0
    have hr : Gl.ins W H x y bw bh = false := by unfold Gl.ins; simp [d0]
    rw [hr]
    clear hr h0
    go_enter Tryz.func36, Tryz.ntmps36
    go_wp2
    go_ret
    exact ⟨rfl, (by repeat (first | exact Ext.refl _ | assumption | refine Ext.alloc ?_ _ | refine Ext.drew ?_ | refine Ext.trans ?_ (by assumption)))⟩
  have d0 : decide (0 ≤ x) = true := decide_eq_true h0
  by_cases h1 : 0 ≤ y
  rotate_left
  · have d1 : decide (0 ≤ y) = false := decide_eq_false h1
    have hr : Gl.ins W H x y bw bh = false := by unfold Gl.ins; simp [d1]
    rw [hr]
    clear hr h0 h1
    go_enter Tryz.func36, Tryz.ntmps36
    go_wp2
    go_ret
    exact ⟨rfl, (by repeat (first | exact Ext.refl _ | assumption | refine Ext.alloc ?_ _ | refine Ext.drew ?_ | refine Ext.trans ?_ (by assumption)))⟩
  have d1 : decide (0 ≤ y) = true := decide_eq_true h1
  by_cases h2 : 1 ≤ bw
  rotate_left
  · have d2 : decide (1 ≤ bw) = false := decide_eq_false h2
    have hr : Gl.ins W H x y bw bh = false := by unfold Gl.ins; simp [d2]
    rw [hr]
    clear hr h0 h1 h2
    go_enter Tryz.func36, Tryz.ntmps36
    go_wp2
    go_ret
    exact ⟨rfl, (by repeat (first | exact Ext.refl _ | assumption | refine Ext.alloc ?_ _ | refine Ext.drew ?_ | refine Ext.trans ?_ (by assumption)))⟩
  have d2 : decide (1 ≤ bw) = true := decide_eq_true h2
  by_cases h3 : 1 ≤ bh
  rotate_left
  · have d3 : decide (1 ≤ bh) = false := decide_eq_false h3
    have hr : Gl.ins W H x y bw bh = false := by unfold Gl.ins; simp [d3]
    rw [hr]
    clear hr h0 h1 h2 h3
    go_enter Tryz.func36, Tryz.ntmps36
    go_wp2
    go_ret
    exact ⟨rfl, (by repeat (first | exact Ext.refl _ | assumption | refine Ext.alloc ?_ _ | refine Ext.drew ?_ | refine Ext.trans ?_ (by assumption)))⟩
  have d3 : decide (1 ≤ bh) = true := decide_eq_true h3
  by_cases h4 : x ≤ W
  rotate_left
  · have d4 : decide (x ≤ W) = false := decide_eq_false h4
    have hr : Gl.ins W H x y bw bh = false := by unfold Gl.ins; simp [d4]
    rw [hr]
    clear hr h0 h1 h2 h3 h4
    go_enter Tryz.func36, Tryz.ntmps36
    go_wp2
    go_ret
    exact ⟨rfl, (by repeat (first | exact Ext.refl _ | assumption | refine Ext.alloc ?_ _ | refine Ext.drew ?_ | refine Ext.trans ?_ (by assumption)))⟩
  have d4 : decide (x ≤ W) = true := decide_eq_true h4
  by_cases h5 : y ≤ H
  rotate_left
  · have d5 : decide (y ≤ H) = false := decide_eq_false h5
    have hr : Gl.ins W H x y bw bh = false := by unfold Gl.ins; simp [d5]
    rw [hr]
    clear hr h0 h1 h2 h3 h4 h5
    go_enter Tryz.func36, Tryz.ntmps36
    go_wp2
    go_ret
    exact ⟨rfl, (by repeat (first | exact Ext.refl _ | assumption | refine Ext.alloc ?_ _ | refine Ext.drew ?_ | refine Ext.trans ?_ (by assumption)))⟩
  have d5 : decide (y ≤ H) = true := decide_eq_true h5
  have hx1 : 0 ≤ W - x := by omega
  have hx2 : W - x ≤ 4096 := by omega
  by_cases h6 : bw ≤ W - x
  rotate_left
  · have d6 : decide (bw ≤ W - x) = false := decide_eq_false h6
    have hr : Gl.ins W H x y bw bh = false := by unfold Gl.ins; simp [d6]
    rw [hr]
    clear hr h0 h1 h2 h3 h4 h5 h6
    go_enter Tryz.func36, Tryz.ntmps36
    go_wp2
    go_ret
    exact ⟨rfl, (by repeat (first | exact Ext.refl _ | assumption | refine Ext.alloc ?_ _ | refine Ext.drew ?_ | refine Ext.trans ?_ (by assumption)))⟩
  have d6 : decide (bw ≤ W - x) = true := decide_eq_true h6
  have hy1 : 0 ≤ H - y := by omega
  have hy2 : H - y ≤ 4096 := by omega
  by_cases h7 : bh ≤ H - y
  rotate_left
  · have d7 : decide (bh ≤ H - y) = false := decide_eq_false h7
    have hr : Gl.ins W H x y bw bh = false := by unfold Gl.ins; simp [d7]
    rw [hr]
    clear hr h0 h1 h2 h3 h4 h5 h6 h7
    go_enter Tryz.func36, Tryz.ntmps36
    go_wp2
    go_ret
    exact ⟨rfl, (by repeat (first | exact Ext.refl _ | assumption | refine Ext.alloc ?_ _ | refine Ext.drew ?_ | refine Ext.trans ?_ (by assumption)))⟩
  have d7 : decide (bh ≤ H - y) = true := decide_eq_true h7
  have hr : Gl.ins W H x y bw bh = true := by unfold Gl.ins; simp [d0, d1, d2, d3, d4, d5, d6, d7]
  rw [hr]
  clear hr h0 h1 h2 h3 h4 h5 h6 h7
  go_enter Tryz.func36, Tryz.ntmps36
  go_wp2
  go_ret
  exact ⟨rfl, (by repeat (first | exact Ext.refl _ | assumption | refine Ext.alloc ?_ _ | refine Ext.drew ?_ | refine Ext.trans ?_ (by assumption)))⟩

set_option maxHeartbeats 2000000 in
theorem known_any (n : Nat) (hn : n < 256) (w : World) : Calls Tryz.prog 64 #[.int .i32 (n : Int)] w fun e w' => e = .returned (.bool (Gl.kn n)) ∧ w = w' := by
  by_cases h1 : 32 ≤ n
  rotate_left
  · have d1 : decide ((32 : Int) ≤ (n : Int)) = false := decide_eq_false (by omega)
    have hr : Gl.kn n = false := by
      unfold Gl.kn
      have a1 : ¬ n = 91 := by omega
      have a2 : ¬ n = 93 := by omega
      have a3 : ¬ n = 95 := by omega
      simp [h1, a1, a2, a3]
    have e1 : ((n : Int) == 91) = false := beq_eq_false_iff_ne.2 (by omega)
    have e2 : ((n : Int) == 93) = false := beq_eq_false_iff_ne.2 (by omega)
    have e3 : ((n : Int) == 95) = false := beq_eq_false_iff_ne.2 (by omega)
    rw [hr]
    clear hr h1
    go_enter Tryz.func64, Tryz.ntmps64
    go_wp2
    go_ret
    exact ⟨rfl, rfl⟩
  have d1 : decide ((32 : Int) ≤ (n : Int)) = true := decide_eq_true (by omega)
  by_cases h2 : n ≤ 90
  · have d2 : decide ((n : Int) ≤ 90) = true := decide_eq_true (by omega)
    have hr : Gl.kn n = true := by unfold Gl.kn; simp [h1, h2]
    rw [hr]
    clear hr h1 h2
    go_enter Tryz.func64, Tryz.ntmps64
    go_wp2
    go_ret
    exact ⟨rfl, rfl⟩
  have d2 : decide ((n : Int) ≤ 90) = false := decide_eq_false (by omega)
  have hr : Gl.kn n = ((((n : Int) == 91) || ((n : Int) == 93)) || ((n : Int) == 95)) := by
    unfold Gl.kn
    have a : ∀ m : Nat, ((n : Int) == (m : Int)) = (n == m) := fun m => by
      by_cases h : n = m
      · subst h; simp
      · have h3 : ¬ (n : Int) = (m : Int) := by omega
        rw [beq_eq_false_iff_ne.2 h, beq_eq_false_iff_ne.2 h3]
    have a1 : ((n : Int) == 91) = (n == 91) := a 91
    have a2 : ((n : Int) == 93) = (n == 93) := a 93
    have a3 : ((n : Int) == 95) = (n == 95) := a 95
    rw [a1, a2, a3]
    simp [h1, h2]
  rw [hr]
  clear hr h1 h2
  by_cases e1 : (n : Int) = 91
  · have e1 : ((n : Int) == 91) = true := beq_iff_eq.2 e1
    rw [e1]
    go_enter Tryz.func64, Tryz.ntmps64
    go_wp2
    go_ret
    exact ⟨rfl, rfl⟩
  have e1 : ((n : Int) == 91) = false := beq_eq_false_iff_ne.2 e1
  by_cases e2 : (n : Int) = 93
  · have e2 : ((n : Int) == 93) = true := beq_iff_eq.2 e2
    rw [e1, e2]
    go_enter Tryz.func64, Tryz.ntmps64
    go_wp2
    go_ret
    exact ⟨rfl, rfl⟩
  have e2 : ((n : Int) == 93) = false := beq_eq_false_iff_ne.2 e2
  rw [e1, e2]
  generalize hb : ((n : Int) == 95) = b
  go_enter Tryz.func64, Tryz.ntmps64
  go_wp2
  go_ret
  exact ⟨rfl, rfl⟩
theorem Gl.kn_known (c : UInt8) : Gl.kn c.toNat = Gl.known c := rfl

/-- Whether a bitmap is valid, n its number of pixels. -/
def Gl.valid (W H : Int) (n : Nat) : Bool := Gl.poss W H && decide ((n : Int) = W * H)
theorem Gl.valid_parts {W H : Int} {n : Nat} (h : Gl.valid W H n = true) : ∃ a b : Nat, W = a ∧ H = b ∧ 1 ≤ a ∧ a ≤ 4096 ∧ 1 ≤ b ∧ b ≤ 4096 ∧ n = a * b ∧ n ≤ 4194304 := by
  unfold Gl.valid at h
  simp only [Bool.and_eq_true, decide_eq_true_eq] at h
  obtain ⟨h1, h2⟩ := h
  obtain ⟨a1, a2, a3, a4, a5⟩ := Gl.poss_parts h1
  obtain ⟨a, rfl⟩ : ∃ a : Nat, W = a := ⟨W.toNat, by omega⟩
  obtain ⟨b, rfl⟩ : ∃ b : Nat, H = b := ⟨H.toNat, by omega⟩
  have h5 : ((a : Int) * (b : Int)) = ((a * b : Nat) : Int) := by simp
  rw [h5] at h2 a5
  exact ⟨a, b, rfl, rfl, by omega, by omega, by omega, by omega, by omega, by omega⟩
set_option maxHeartbeats 2000000 in
theorem check_any (W H : Int) (a : Option Addr) (n c : Nat) (w : World) (_hn : n ≤ maxLen) : Calls Tryz.prog 31 #[.agg #[.int .i64 W, .int .i64 H, .slice a n c]] w fun e w' => e = .returned (.int .i64 (if Gl.valid W H n then 0 else 1)) ∧ Ext w w' := by
  have hp := possible_any W H
  by_cases hv : Gl.poss W H = true
  · obtain ⟨a1, a2, a3, a4, a5⟩ := Gl.poss_parts hv
    obtain ⟨hlo, hhi⟩ := mul_bd a1 a2 a3 a4
    rw [hv] at hp
    by_cases he : (n : Int) = W * H
    · have hr : Gl.valid W H n = true := by unfold Gl.valid; simp [hv, he]
      have d : ((n : Int) != W * H) = false := by rw [bne, beq_iff_eq.2 he]; rfl
      rw [hr, if_pos rfl]
      clear hr he hv a1 a2 a3 a4 a5
      go_enter Tryz.func31, Tryz.ntmps31
      go_wp2_with fail
      refine (hp _).mono ?_
      rintro e w1 ⟨rfl, rfl⟩
      go_wp2
      go_ret
      exact ⟨rfl, (by repeat (first | exact Ext.refl _ | assumption | refine Ext.alloc ?_ _ | refine Ext.drew ?_ | refine Ext.trans ?_ (by assumption)))⟩
    · have hr : Gl.valid W H n = false := by unfold Gl.valid; simp [he]
      have d : ((n : Int) != W * H) = true := by rw [bne, beq_eq_false_iff_ne.2 he]; rfl
      rw [hr, if_neg (by simp)]
      clear hr he hv a1 a2 a3 a4 a5
      go_enter Tryz.func31, Tryz.ntmps31
      go_wp2_with fail
      refine (hp _).mono ?_
      rintro e w1 ⟨rfl, rfl⟩
      go_wp2
      go_ret
      exact ⟨rfl, (by repeat (first | exact Ext.refl _ | assumption | refine Ext.alloc ?_ _ | refine Ext.drew ?_ | refine Ext.trans ?_ (by assumption)))⟩
  · have hv : Gl.poss W H = false := by simpa using hv
    rw [hv] at hp
    have hr : Gl.valid W H n = false := by unfold Gl.valid; simp [hv]
    rw [hr, if_neg (by simp)]
    clear hr hv
    go_enter Tryz.func31, Tryz.ntmps31
    go_wp2_with fail
    refine (hp _).mono ?_
    rintro e w1 ⟨rfl, rfl⟩
    go_wp2
    go_ret
    exact ⟨rfl, (by repeat (first | exact Ext.refl _ | assumption | refine Ext.alloc ?_ _ | refine Ext.drew ?_ | refine Ext.trans ?_ (by assumption)))⟩
set_option maxHeartbeats 2000000 in
theorem xvalid_any (W H : Int) (a : Option Addr) (n c : Nat) (w : World) (_hn : n ≤ maxLen) : Calls Tryz.prog 63 #[.agg #[.int .i64 W, .int .i64 H, .slice a n c]] w fun e w' => e = .returned (.bool (Gl.valid W H n)) ∧ Ext w w' := by
  have hp := fits_any W H
  by_cases hv : Gl.poss W H = true
  · obtain ⟨a1, a2, a3, a4, a5⟩ := Gl.poss_parts hv
    obtain ⟨hlo, hhi⟩ := mul_bd a1 a2 a3 a4
    have hr : Gl.valid W H n = ((n : Int) == W * H) := by unfold Gl.valid; rw [hv, Bool.true_and]; exact Bool.eq_iff_iff.2 (by simp)
    rw [hv] at hp
    rw [hr]
    generalize hb : ((n : Int) == W * H) = b
    clear hr hv a1 a2 a3 a4 a5
    go_enter Tryz.func63, Tryz.ntmps63
    go_wp2_with fail
    refine (hp _).mono ?_
    rintro e w1 ⟨rfl, rfl⟩
    go_wp2
    go_ret
    exact ⟨rfl, (by repeat (first | exact Ext.refl _ | assumption | refine Ext.alloc ?_ _ | refine Ext.drew ?_ | refine Ext.trans ?_ (by assumption)))⟩
  · have hv : Gl.poss W H = false := by simpa using hv
    rw [hv] at hp
    have hr : Gl.valid W H n = false := by unfold Gl.valid; simp [hv]
    rw [hr]
    clear hr hv
    go_enter Tryz.func63, Tryz.ntmps63
    go_wp2_with fail
    refine (hp _).mono ?_
    rintro e w1 ⟨rfl, rfl⟩
    go_wp2
    go_ret
    exact ⟨rfl, (by repeat (first | exact Ext.refl _ | assumption | refine Ext.alloc ?_ _ | refine Ext.drew ?_ | refine Ext.trans ?_ (by assumption)))⟩
set_option maxHeartbeats 2000000 in
theorem xcheck_any (W H : Int) (a : Option Addr) (n c : Nat) (w : World) (hn : n ≤ maxLen) : Calls Tryz.prog 33 #[.agg #[.int .i64 W, .int .i64 H, .slice a n c]] w fun e w' => e = .returned (.int .i64 (if Gl.valid W H n then 0 else 1)) ∧ Ext w w' := by
  have hp := fun W1 => xvalid_any W H a n c W1 hn
  revert hp
  generalize Gl.valid W H n = b
  intro hp
  cases b
  · rw [if_neg (by simp)]
    go_enter Tryz.func33, Tryz.ntmps33
    go_wp2_with fail
    refine (hp _).mono ?_
    rintro e w1 ⟨rfl, hx1⟩
    go_wp2
    go_ret
    exact ⟨rfl, (by repeat (first | exact Ext.refl _ | assumption | refine Ext.alloc ?_ _ | refine Ext.drew ?_ | refine Ext.trans ?_ (by assumption)))⟩
  · rw [if_pos rfl]
    go_enter Tryz.func33, Tryz.ntmps33
    go_wp2_with fail
    refine (hp _).mono ?_
    rintro e w1 ⟨rfl, hx1⟩
    go_wp2
    go_ret
    exact ⟨rfl, (by repeat (first | exact Ext.refl _ | assumption | refine Ext.alloc ?_ _ | refine Ext.drew ?_ | refine Ext.trans ?_ (by assumption)))⟩

/-- What Scale returns. -/
def Gl.scale (W H : Int) (n : Nat) (x y bw bh : Int) : Int × Int :=
  if Gl.valid W H n = false then (0, 1) else if Gl.ins W H x y bw bh = false then (0, 3) else if bh % 7 ≠ 0 then (0, 9) else (bh / 7, 0)
set_option maxHeartbeats 4000000 in
theorem scale_any (W H : Int) (a : Option Addr) (n c : Nat) (x y bw bh : Int) (w : World) (hn : n ≤ maxLen) : Calls Tryz.prog 14 #[.agg #[.int .i64 W, .int .i64 H, .slice a n c], .agg #[.int .i64 x, .int .i64 y, .int .i64 bw, .int .i64 bh]] w fun e w' => e = .returned (.tuple #[.int .i64 (Gl.scale W H n x y bw bh).1, .int .i64 (Gl.scale W H n x y bw bh).2]) ∧ Ext w w' := by
  have hc := fun W1 => check_any W H a n c W1 hn
  by_cases hv : Gl.valid W H n = true
  rotate_left
  · have hv : Gl.valid W H n = false := by simpa using hv
    rw [hv, if_neg (by simp)] at hc
    have hr : Gl.scale W H n x y bw bh = (0, 1) := by unfold Gl.scale; rw [if_pos hv]
    rw [hr]
    clear hr hv
    dsimp only
    go_enter Tryz.func14, Tryz.ntmps14
    go_wp2_with fail
    refine (hc _).mono ?_
    rintro e w1 ⟨rfl, hx1⟩
    go_wp2
    go_ret2
    exact ⟨rfl, (by repeat (first | exact Ext.refl _ | assumption | refine Ext.alloc ?_ _ | refine Ext.drew ?_ | refine Ext.trans ?_ (by assumption)))⟩
  rw [hv, if_pos rfl] at hc
  have hpv : Gl.poss W H = true := by
    unfold Gl.valid at hv
    simp only [Bool.and_eq_true, decide_eq_true_eq] at hv
    exact hv.1
  obtain ⟨b1, b2, b3, b4, _⟩ := Gl.poss_parts hpv
  have hi := inside_any W H (.slice a n c) x y bw bh b1 b2 b3 b4
  by_cases hin : Gl.ins W H x y bw bh = true
  rotate_left
  · have hin : Gl.ins W H x y bw bh = false := by simpa using hin
    rw [hin] at hi
    have hr : Gl.scale W H n x y bw bh = (0, 3) := by unfold Gl.scale; rw [if_neg (by rw [hv]; simp), if_pos hin]
    rw [hr]
    clear hr hv hin
    dsimp only
    go_enter Tryz.func14, Tryz.ntmps14
    go_wp2_with fail
    refine (hc _).mono ?_
    rintro e w1 ⟨rfl, hx1⟩
    obtain ⟨⟨c0, c1, c2⟩, c3, c4, c5, c6⟩ := keep34 hx1
    go_wp2_with fail
    refine (hi _).mono ?_
    rintro e w2 ⟨rfl, hx2⟩
    clear c0 c1 c2 c3 c4 c5 c6
    have hx2 := hx1.trans hx2
    clear hx1
    go_wp2
    go_ret2
    exact ⟨rfl, (by repeat (first | exact Ext.refl _ | assumption | refine Ext.alloc ?_ _ | refine Ext.drew ?_ | refine Ext.trans ?_ (by assumption)))⟩
  rw [hin] at hi
  have hbh : 1 ≤ bh ∧ bh ≤ 4096 := by
    unfold Gl.ins at hin
    simp only [Bool.and_eq_true, decide_eq_true_eq] at hin
    omega
  by_cases h7 : bh % 7 = 0
  · have hr : Gl.scale W H n x y bw bh = (bh / 7, 0) := by unfold Gl.scale; rw [if_neg (by rw [hv]; simp), if_neg (by rw [hin]; simp), if_neg (by omega)]
    rw [hr]
    obtain ⟨B, rfl⟩ : ∃ B : Nat, bh = B := ⟨bh.toNat, by omega⟩
    have d7 : (((B : Int) % 7) != 0) = false := by rw [bne, beq_iff_eq.2 h7]; rfl
    clear hr hv hin
    dsimp only
    go_enter Tryz.func14, Tryz.ntmps14
    go_wp2_with fail
    refine (hc _).mono ?_
    rintro e w1 ⟨rfl, hx1⟩
    obtain ⟨⟨c0, c1, c2⟩, c3, c4, c5, c6⟩ := keep34 hx1
    go_wp2_with fail
    refine (hi _).mono ?_
    rintro e w2 ⟨rfl, hx2⟩
    clear c0 c1 c2 c3 c4 c5 c6
    have hx2 := hx1.trans hx2
    clear hx1
    obtain ⟨-, -, -, -, c6⟩ := keep34 hx2
    go_wp2
    go_ret2
    exact ⟨rfl, (by repeat (first | exact Ext.refl _ | assumption | refine Ext.alloc ?_ _ | refine Ext.drew ?_ | refine Ext.trans ?_ (by assumption)))⟩
  · have hr : Gl.scale W H n x y bw bh = (0, 9) := by unfold Gl.scale; rw [if_neg (by rw [hv]; simp), if_neg (by rw [hin]; simp), if_pos (by omega)]
    rw [hr]
    obtain ⟨B, rfl⟩ : ∃ B : Nat, bh = B := ⟨bh.toNat, by omega⟩
    have d7 : (((B : Int) % 7) != 0) = true := by rw [bne, beq_eq_false_iff_ne.2 h7]; rfl
    clear hr hv hin
    dsimp only
    go_enter Tryz.func14, Tryz.ntmps14
    go_wp2_with fail
    refine (hc _).mono ?_
    rintro e w1 ⟨rfl, hx1⟩
    obtain ⟨⟨c0, c1, c2⟩, c3, c4, c5, c6⟩ := keep34 hx1
    go_wp2_with fail
    refine (hi _).mono ?_
    rintro e w2 ⟨rfl, hx2⟩
    clear c0 c1 c2 c3 c4 c5 c6
    have hx2 := hx1.trans hx2
    clear hx1
    obtain ⟨-, -, -, -, c6⟩ := keep34 hx2
    go_wp2
    go_ret2
    exact ⟨rfl, (by repeat (first | exact Ext.refl _ | assumption | refine Ext.alloc ?_ _ | refine Ext.drew ?_ | refine Ext.trans ?_ (by assumption)))⟩
set_option maxHeartbeats 4000000 in
theorem xscale_any (W H : Int) (a : Option Addr) (n c : Nat) (x y bw bh : Int) (w : World) (hn : n ≤ maxLen) : Calls Tryz.prog 15 #[.agg #[.int .i64 W, .int .i64 H, .slice a n c], .agg #[.int .i64 x, .int .i64 y, .int .i64 bw, .int .i64 bh]] w fun e w' => e = .returned (.tuple #[.int .i64 (Gl.scale W H n x y bw bh).1, .int .i64 (Gl.scale W H n x y bw bh).2]) ∧ Ext w w' := by
  have hc := fun W1 => xcheck_any W H a n c W1 hn
  by_cases hv : Gl.valid W H n = true
  rotate_left
  · have hv : Gl.valid W H n = false := by simpa using hv
    rw [hv, if_neg (by simp)] at hc
    have hr : Gl.scale W H n x y bw bh = (0, 1) := by unfold Gl.scale; rw [if_pos hv]
    rw [hr]
    clear hr hv
    dsimp only
    go_enter Tryz.func15, Tryz.ntmps15
    go_wp2_with fail
    refine (hc _).mono ?_
    rintro e w1 ⟨rfl, hx1⟩
    go_wp2
    go_ret2
    exact ⟨rfl, (by repeat (first | exact Ext.refl _ | assumption | refine Ext.alloc ?_ _ | refine Ext.drew ?_ | refine Ext.trans ?_ (by assumption)))⟩
  rw [hv, if_pos rfl] at hc
  have hpv : Gl.poss W H = true := by
    unfold Gl.valid at hv
    simp only [Bool.and_eq_true, decide_eq_true_eq] at hv
    exact hv.1
  obtain ⟨b1, b2, b3, b4, _⟩ := Gl.poss_parts hpv
  have hi := xinside_any W H (.slice a n c) x y bw bh b1 b2 b3 b4
  by_cases hin : Gl.ins W H x y bw bh = true
  rotate_left
  · have hin : Gl.ins W H x y bw bh = false := by simpa using hin
    rw [hin] at hi
    have hr : Gl.scale W H n x y bw bh = (0, 3) := by unfold Gl.scale; rw [if_neg (by rw [hv]; simp), if_pos hin]
    rw [hr]
    clear hr hv hin
    dsimp only
    go_enter Tryz.func15, Tryz.ntmps15
    go_wp2_with fail
    refine (hc _).mono ?_
    rintro e w1 ⟨rfl, hx1⟩
    obtain ⟨⟨c0, c1, c2⟩, c3, c4, c5, c6⟩ := keep34 hx1
    go_wp2_with fail
    refine (hi _).mono ?_
    rintro e w2 ⟨rfl, hx2⟩
    clear c0 c1 c2 c3 c4 c5 c6
    have hx2 := hx1.trans hx2
    clear hx1
    go_wp2
    go_ret2
    exact ⟨rfl, (by repeat (first | exact Ext.refl _ | assumption | refine Ext.alloc ?_ _ | refine Ext.drew ?_ | refine Ext.trans ?_ (by assumption)))⟩
  rw [hin] at hi
  have hbh : 1 ≤ bh ∧ bh ≤ 4096 := by
    unfold Gl.ins at hin
    simp only [Bool.and_eq_true, decide_eq_true_eq] at hin
    omega
  by_cases h7 : bh % 7 = 0
  · have hr : Gl.scale W H n x y bw bh = (bh / 7, 0) := by unfold Gl.scale; rw [if_neg (by rw [hv]; simp), if_neg (by rw [hin]; simp), if_neg (by omega)]
    rw [hr]
    obtain ⟨B, rfl⟩ : ∃ B : Nat, bh = B := ⟨bh.toNat, by omega⟩
    have d7 : (((B : Int) % 7) != 0) = false := by rw [bne, beq_iff_eq.2 h7]; rfl
    clear hr hv hin
    dsimp only
    go_enter Tryz.func15, Tryz.ntmps15
    go_wp2_with fail
    refine (hc _).mono ?_
    rintro e w1 ⟨rfl, hx1⟩
    obtain ⟨⟨c0, c1, c2⟩, c3, c4, c5, c6⟩ := keep34 hx1
    go_wp2_with fail
    refine (hi _).mono ?_
    rintro e w2 ⟨rfl, hx2⟩
    clear c0 c1 c2 c3 c4 c5 c6
    have hx2 := hx1.trans hx2
    clear hx1
    obtain ⟨-, -, -, -, c6⟩ := keep34 hx2
    go_wp2
    go_ret2
    exact ⟨rfl, (by repeat (first | exact Ext.refl _ | assumption | refine Ext.alloc ?_ _ | refine Ext.drew ?_ | refine Ext.trans ?_ (by assumption)))⟩
  · have hr : Gl.scale W H n x y bw bh = (0, 9) := by unfold Gl.scale; rw [if_neg (by rw [hv]; simp), if_neg (by rw [hin]; simp), if_pos (by omega)]
    rw [hr]
    obtain ⟨B, rfl⟩ : ∃ B : Nat, bh = B := ⟨bh.toNat, by omega⟩
    have d7 : (((B : Int) % 7) != 0) = true := by rw [bne, beq_eq_false_iff_ne.2 h7]; rfl
    clear hr hv hin
    dsimp only
    go_enter Tryz.func15, Tryz.ntmps15
    go_wp2_with fail
    refine (hc _).mono ?_
    rintro e w1 ⟨rfl, hx1⟩
    obtain ⟨⟨c0, c1, c2⟩, c3, c4, c5, c6⟩ := keep34 hx1
    go_wp2_with fail
    refine (hi _).mono ?_
    rintro e w2 ⟨rfl, hx2⟩
    clear c0 c1 c2 c3 c4 c5 c6
    have hx2 := hx1.trans hx2
    clear hx1
    obtain ⟨-, -, -, -, c6⟩ := keep34 hx2
    go_wp2
    go_ret2
    exact ⟨rfl, (by repeat (first | exact Ext.refl _ | assumption | refine Ext.alloc ?_ _ | refine Ext.drew ?_ | refine Ext.trans ?_ (by assumption)))⟩
end Go.Proofs.YtamkgbodifjlaaaGreatDoor
