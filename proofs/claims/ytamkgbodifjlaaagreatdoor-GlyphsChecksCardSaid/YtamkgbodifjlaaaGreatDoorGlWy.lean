/-
  Chapter 48, the program: the order of Match (a closure for slices.SortFunc).
  No condition.
-/
import Derived.Test.YtamkgbodifjlaaaGreatDoorGlWx
import Derived.Test.YtamkgbodifjlaaaGreatDoorRk
import Derived.Test.YtamkgbodifjlaaaGreatDoorRelD
import Derived.Test.YtamkgbodifjlaaaGreatDoorShelfB

/-
  Chapter 48, the program: the order of Match (a closure for slices.SortFunc).
  No condition.
-/
namespace Go.Proofs.YtamkgbodifjlaaaGreatDoor
set_option linter.unusedVariables false
open Go.RowKit Go.Sort RD

/-- A choice's two cells. -/
def encC (x : Gl.Ch) : List Value := [encB x.1, encI x.2]
theorem encC_len (x : Gl.Ch) : (encC x).length = 2 := rfl
theorem encC_one (x : Gl.Ch) : ∀ v ∈ encC x, v.oneCell' = true := by
  intro v hv
  simp only [encC, List.mem_cons, List.not_mem_nil, or_false] at hv
  rcases hv with rfl | rfl <;> rfl

theorem nanI (x : Int) (w : World) : Calls Tryz.prog 69 #[.int .i64 x] w fun e w' => e = .returned (.bool false) ∧ w = w' := by
  have h : (x != x) = false := by simp
  go_enter Tryz.func69, Tryz.ntmps69
  go_wp2
  go_ret
  exact ⟨rfl, rfl⟩
set_option maxRecDepth 100000 in
theorem cmpI (x y : Int) (w : World) : Calls Tryz.prog 42 #[.int .i64 x, .int .i64 y] w fun e w' => e = .returned (.int .i64 (Lib.compareInt x y)) ∧ w = w' := by
  have hx := nanI x
  have hy := nanI y
  unfold Lib.compareInt
  by_cases h1 : x < y
  · have d1 : decide (x < y) = true := decide_eq_true h1
    rw [if_pos h1]
    clear h1
    go_enter Tryz.func42, Tryz.ntmps42
    go_wp2_with (first | (refine (hx _).mono ?_; rintro e w1 ⟨rfl, rfl⟩) | (refine (hy _).mono ?_; rintro e w1 ⟨rfl, rfl⟩))
    go_ret
    exact ⟨rfl, rfl⟩
  · have d1 : decide (x < y) = false := decide_eq_false h1
    rw [if_neg h1]
    by_cases h2 : y < x
    · have d2 : decide (y < x) = true := decide_eq_true h2
      rw [if_pos h2]
      clear h1 h2
      go_enter Tryz.func42, Tryz.ntmps42
      go_wp2_with (first | (refine (hx _).mono ?_; rintro e w1 ⟨rfl, rfl⟩) | (refine (hy _).mono ?_; rintro e w1 ⟨rfl, rfl⟩))
      go_ret
      exact ⟨rfl, rfl⟩
    · have d2 : decide (y < x) = false := decide_eq_false h2
      rw [if_neg h2]
      clear h1 h2
      go_enter Tryz.func42, Tryz.ntmps42
      go_wp2_with (first | (refine (hx _).mono ?_; rintro e w1 ⟨rfl, rfl⟩) | (refine (hy _).mono ?_; rintro e w1 ⟨rfl, rfl⟩))
      go_ret
      exact ⟨rfl, rfl⟩
theorem nanB (x : Int) (w : World) : Calls Tryz.prog 70 #[.int .u8 x] w fun e w' => e = .returned (.bool false) ∧ w = w' := by
  have h : (x != x) = false := by simp
  go_enter Tryz.func70, Tryz.ntmps70
  go_wp2
  go_ret
  exact ⟨rfl, rfl⟩
set_option maxRecDepth 100000 in
theorem cmpB (x y : Int) (w : World) : Calls Tryz.prog 43 #[.int .u8 x, .int .u8 y] w fun e w' => e = .returned (.int .i64 (Lib.compareInt x y)) ∧ w = w' := by
  have hx := nanB x
  have hy := nanB y
  unfold Lib.compareInt
  by_cases h1 : x < y
  · have d1 : decide (x < y) = true := decide_eq_true h1
    rw [if_pos h1]
    clear h1
    go_enter Tryz.func43, Tryz.ntmps43
    go_wp2_with (first | (refine (hx _).mono ?_; rintro e w1 ⟨rfl, rfl⟩) | (refine (hy _).mono ?_; rintro e w1 ⟨rfl, rfl⟩))
    go_ret
    exact ⟨rfl, rfl⟩
  · have d1 : decide (x < y) = false := decide_eq_false h1
    rw [if_neg h1]
    by_cases h2 : y < x
    · have d2 : decide (y < x) = true := decide_eq_true h2
      rw [if_pos h2]
      clear h1 h2
      go_enter Tryz.func43, Tryz.ntmps43
      go_wp2_with (first | (refine (hx _).mono ?_; rintro e w1 ⟨rfl, rfl⟩) | (refine (hy _).mono ?_; rintro e w1 ⟨rfl, rfl⟩))
      go_ret
      exact ⟨rfl, rfl⟩
    · have d2 : decide (y < x) = false := decide_eq_false h2
      rw [if_neg h2]
      clear h1 h2
      go_enter Tryz.func43, Tryz.ntmps43
      go_wp2_with (first | (refine (hx _).mono ?_; rintro e w1 ⟨rfl, rfl⟩) | (refine (hy _).mono ?_; rintro e w1 ⟨rfl, rfl⟩))
      go_ret
      exact ⟨rfl, rfl⟩
/-- cmp.Or at two numbers. -/
def Gl.or2 (x y : Int) : Int := if x ≠ 0 then x else y
set_option maxRecDepth 100000 in
set_option maxHeartbeats 1000000 in
theorem or2_any (x y : Int) (b c : Nat) (w : World) (h0 : w.cell? ⟨b, 0, none⟩ = some (.int .i64 x)) (h1 : w.cell? ⟨b, 1, none⟩ = some (.int .i64 y)) :
    Calls Tryz.prog 41 #[.slice (some ⟨b, 0, none⟩) 2 c] w fun e w' => e = .returned (.int .i64 (Gl.or2 x y)) ∧ w = w' := by
  unfold Gl.or2
  by_cases hx : x = 0
  · rw [if_neg (by simpa using hx)]
    by_cases hy : y = 0
    · subst hx hy
      go_enter Tryz.func41, Tryz.ntmps41
      go_wp2
      refine wp_loop_rounds 3 ?_
      repeat any_goals (rw [rounds_succ]; go_wp2)
      go_ret
      exact ⟨rfl, rfl⟩
    · have d : (y != 0) = true := bne_iff_ne.2 hy
      subst hx
      go_enter Tryz.func41, Tryz.ntmps41
      go_wp2
      refine wp_loop_rounds 3 ?_
      repeat any_goals (rw [rounds_succ]; go_wp2)
      go_ret
      exact ⟨rfl, rfl⟩
  · rw [if_pos hx]
    have d : (x != 0) = true := bne_iff_ne.2 hx
    go_enter Tryz.func41, Tryz.ntmps41
    go_wp2
    refine wp_loop_rounds 3 ?_
    repeat any_goals (rw [rounds_succ]; go_wp2)
    go_ret
    exact ⟨rfl, rfl⟩
/-- A slice of two numbers. -/
def twoAt (x y : Int) (v : Value) (w : World) : Prop := ∃ b c, v = .slice (some ⟨b, 0, none⟩) 2 c ∧ b < w.heap.size ∧ w.cell? ⟨b, 0, none⟩ = some (.int .i64 x) ∧ w.cell? ⟨b, 1, none⟩ = some (.int .i64 y)
theorem twoAt_stable (x y : Int) : Rel.Stable (twoAt x y) := by
  rintro v w w' ⟨b, c, h1, h2, h3, h4⟩ hx
  exact ⟨b, c, h1, Nat.lt_of_lt_of_le h2 hx.toExt.size, cell_keep hx.toExt h2 h3, cell_keep hx.toExt h2 h4⟩
theorem cell_lt {w : World} {b i : Nat} {x : Value} (h : w.cell? ⟨b, i, none⟩ = some x) : b < w.heap.size := by
  rcases Nat.lt_or_ge b w.heap.size with h1 | h1
  · exact h1
  · simp [World.cell?, Array.getElem?_eq_none h1] at h
theorem cfM_or (x y : Gl.Ch) : Gl.cfM x y = Gl.or2 (Lib.compareInt x.2 y.2) (Lib.compareInt (x.1.toNat : Int) (y.1.toNat : Int)) := rfl
set_option maxRecDepth 100000 in
set_option maxHeartbeats 4000000 in
theorem closM (x y : Gl.Ch) (W : World) : Calls Tryz.prog 40 #[.agg (encC x).toArray, .agg (encC y).toArray] W fun e w' => e = .returned (.int .i64 (Gl.cfM x y)) ∧ ∃ q os', w' = grow (W.drewN q) os' := by
  rw [cfM_or]
  obtain ⟨a, n⟩ := x
  obtain ⟨b, m⟩ := y
  show Calls Tryz.prog _ #[.agg #[.int .u8 (a.toNat : Int), .int .i64 n], .agg #[.int .u8 (b.toNat : Int), .int .i64 m]] W _
  dsimp only
  generalize (a.toNat : Int) = ca
  generalize (b.toNat : Int) = cb
  have HI := cmpI n m
  have HB := cmpB ca cb
  have HO := or2_any (Lib.compareInt n m) (Lib.compareInt ca cb)
  generalize Lib.compareInt n m = r1 at *
  generalize Lib.compareInt ca cb = r2 at *
  go_enter Tryz.func40, Tryz.ntmps40
  go_wp2
  have q1 : ((W.alloc (.cells #[.int .u8 ca, .int .i64 n] 67)).alloc (.cells #[.int .u8 cb, .int .i64 m] 67)).cell? ⟨W.heap.size, 0, none⟩ = some (.int .u8 ca) := by simp [go_sem]
  have q2 : ((W.alloc (.cells #[.int .u8 ca, .int .i64 n] 67)).alloc (.cells #[.int .u8 cb, .int .i64 m] 67)).cell? ⟨W.heap.size, 1, none⟩ = some (.int .i64 n) := by simp [go_sem]
  have q3 : ((W.alloc (.cells #[.int .u8 ca, .int .i64 n] 67)).alloc (.cells #[.int .u8 cb, .int .i64 m] 67)).cell? ⟨W.heap.size + 1, 0, none⟩ = some (.int .u8 cb) := by simp [go_sem]
  have q4 : ((W.alloc (.cells #[.int .u8 ca, .int .i64 n] 67)).alloc (.cells #[.int .u8 cb, .int .i64 m] 67)).cell? ⟨W.heap.size + 1, 1, none⟩ = some (.int .i64 m) := by simp [go_sem]
  have hWW : ∃ os', (W.alloc (.cells #[.int .u8 ca, .int .i64 n] 67)).alloc (.cells #[.int .u8 cb, .int .i64 m] 67) = grow (W.drewN 0) os' := ⟨_, by rw [alloc_eq_grow, alloc_eq_grow, grow_grow]; rfl⟩
  generalize (W.alloc (.cells #[.int .u8 ca, .int .i64 n] 67)).alloc (.cells #[.int .u8 cb, .int .i64 m] 67) = W2 at q1 q2 q3 q4 hWW ⊢
  have HWW : Hid (ExtD W W2) := Lib.hid (by obtain ⟨os', h⟩ := hWW; exact ⟨0, os', h⟩)
  clear hWW
  obtain ⟨B1, hB1⟩ : ∃ B1, W.heap.size = B1 := ⟨_, rfl⟩
  rw [hB1] at q1 q2 q3 q4 ⊢
  clear hB1
  have hb1 : B1 < W2.heap.size := cell_lt q1
  have hb2 : B1 + 1 < W2.heap.size := cell_lt q3
  have C0 : Hid (∀ w', ExtD W2 w' → w'.cell? ⟨B1, 0, none⟩ = some (.int .u8 ca)) := Lib.hid (fun w' h => cell_keep h.toExt hb1 q1)
  have C1 : Hid (∀ w', ExtD W2 w' → w'.cell? ⟨B1, 1, none⟩ = some (.int .i64 n)) := Lib.hid (fun w' h => cell_keep h.toExt hb1 q2)
  have C2 : Hid (∀ w', ExtD W2 w' → w'.cell? ⟨B1 + 1, 0, none⟩ = some (.int .u8 cb)) := Lib.hid (fun w' h => cell_keep h.toExt hb2 q3)
  have C3 : Hid (∀ w', ExtD W2 w' → w'.cell? ⟨B1 + 1, 1, none⟩ = some (.int .i64 m)) := Lib.hid (fun w' h => cell_keep h.toExt hb2 q4)
  clear q1 q2 q3 q4
  refine wp_region_rel 12 1 rfl [5, 6, 7, 8, 9, 10, 11, 12, 13, 14, 15, 16] [[], [0], [], [2], [1, 3], [], [5], [], [7], [6, 8], [4, 9], [10]] (by kernel_rfl) (by kernel_rfl) ?_
  apply relPlan_eq'
  · intro V w' hx hf
    with_reducible refine relAt_ops ?_
    intro A ρ hA hρ hcst hfun
    have h2 : ρ (.tmp 2) = .pointer (some ⟨B1, 0, none⟩) := (congrFun hρ _).trans (evalMiss hA 2 rfl)
    simp [relUpon, go_sem, ExtD.refl, h2]
    rfl
  refine relPlan_by (eqv (.int .i64 n)) (eqv_stable _) ?_ ?_
  · intro V w' hx hf
    with_reducible refine relAt_ops ?_
    intro A ρ hA hρ hcst hfun
    obtain ⟨f5, _⟩ := hf
    have h5 : ρ (.tmp 5) = _ := (congrFun hρ _).trans ((evalHit hA 5 rfl).trans f5)
    have q := C1.out w' hx
    simp [relUpon, go_sem, ExtD.refl, h5, q]
    rfl
  apply relPlan_eq'
  · intro V w' hx hf
    with_reducible refine relAt_ops ?_
    intro A ρ hA hρ hcst hfun
    have h3 : ρ (.tmp 3) = .pointer (some ⟨B1 + 1, 0, none⟩) := (congrFun hρ _).trans (evalMiss hA 3 rfl)
    simp [relUpon, go_sem, ExtD.refl, h3]
    rfl
  refine relPlan_by (eqv (.int .i64 m)) (eqv_stable _) ?_ ?_
  · intro V w' hx hf
    with_reducible refine relAt_ops ?_
    intro A ρ hA hρ hcst hfun
    obtain ⟨f7, _⟩ := hf
    have h7 : ρ (.tmp 7) = _ := (congrFun hρ _).trans ((evalHit hA 7 rfl).trans f7)
    have q := C3.out w' hx
    simp [relUpon, go_sem, ExtD.refl, h7, q]
    rfl
  refine relPlan_by (eqv (.int .i64 r1)) (eqv_stable _) ?_ ?_
  · intro V w' hx hf
    with_reducible refine relAt_ops ?_
    intro A ρ hA hρ hcst hfun
    obtain ⟨f6, f8, _⟩ := hf
    have h6 : ρ (.tmp 6) = _ := (congrFun hρ _).trans ((evalHit hA 6 rfl).trans f6)
    have h8 : ρ (.tmp 8) = _ := (congrFun hρ _).trans ((evalHit hA 8 rfl).trans f8)
    simp [relUpon, go_sem, hfun, h6, h8]
    exact (HI w').mono fun e w'' ⟨he, hy⟩ => ⟨_, he, hy ▸ ExtD.refl _, rfl⟩
  apply relPlan_eq'
  · intro V w' hx hf
    with_reducible refine relAt_ops ?_
    intro A ρ hA hρ hcst hfun
    have h2 : ρ (.tmp 2) = .pointer (some ⟨B1, 0, none⟩) := (congrFun hρ _).trans (evalMiss hA 2 rfl)
    simp [relUpon, go_sem, ExtD.refl, h2]
    rfl
  refine relPlan_by (eqv (.int .u8 ca)) (eqv_stable _) ?_ ?_
  · intro V w' hx hf
    with_reducible refine relAt_ops ?_
    intro A ρ hA hρ hcst hfun
    obtain ⟨f10, _⟩ := hf
    have h10 : ρ (.tmp 10) = _ := (congrFun hρ _).trans ((evalHit hA 10 rfl).trans f10)
    have q := C0.out w' hx
    simp [relUpon, go_sem, ExtD.refl, h10, q]
    rfl
  apply relPlan_eq'
  · intro V w' hx hf
    with_reducible refine relAt_ops ?_
    intro A ρ hA hρ hcst hfun
    have h3 : ρ (.tmp 3) = .pointer (some ⟨B1 + 1, 0, none⟩) := (congrFun hρ _).trans (evalMiss hA 3 rfl)
    simp [relUpon, go_sem, ExtD.refl, h3]
    rfl
  refine relPlan_by (eqv (.int .u8 cb)) (eqv_stable _) ?_ ?_
  · intro V w' hx hf
    with_reducible refine relAt_ops ?_
    intro A ρ hA hρ hcst hfun
    obtain ⟨f12, _⟩ := hf
    have h12 : ρ (.tmp 12) = _ := (congrFun hρ _).trans ((evalHit hA 12 rfl).trans f12)
    have q := C2.out w' hx
    simp [relUpon, go_sem, ExtD.refl, h12, q]
    rfl
  refine relPlan_by (eqv (.int .i64 r2)) (eqv_stable _) ?_ ?_
  · intro V w' hx hf
    with_reducible refine relAt_ops ?_
    intro A ρ hA hρ hcst hfun
    obtain ⟨f11, f13, _⟩ := hf
    have h11 : ρ (.tmp 11) = _ := (congrFun hρ _).trans ((evalHit hA 11 rfl).trans f11)
    have h13 : ρ (.tmp 13) = _ := (congrFun hρ _).trans ((evalHit hA 13 rfl).trans f13)
    simp [relUpon, go_sem, hfun, h11, h13]
    exact (HB w').mono fun e w'' ⟨he, hy⟩ => ⟨_, he, hy ▸ ExtD.refl _, rfl⟩
  refine relPlan_by (twoAt r1 r2) (twoAt_stable _ _) ?_ ?_
  · intro V w' hx hf
    with_reducible refine relAt_ops ?_
    intro A ρ hA hρ hcst hfun
    obtain ⟨f9, f14, _⟩ := hf
    have h9 : ρ (.tmp 9) = _ := (congrFun hρ _).trans ((evalHit hA 9 rfl).trans f9)
    have h14 : ρ (.tmp 14) = _ := (congrFun hρ _).trans ((evalHit hA 14 rfl).trans f14)
    simp [relUpon, go_sem, h9, h14]
    exact ⟨(ExtD.refl _).alloc _, ⟨_, 2, rfl, by simp, by simp [go_sem], by simp [go_sem]⟩⟩
  refine relPlan_by (eqv (.int .i64 (Gl.or2 r1 r2))) (eqv_stable _) ?_ ?_
  · intro V w' hx hf
    with_reducible refine relAt_ops ?_
    intro A ρ hA hρ hcst hfun
    obtain ⟨f15, _⟩ := hf
    have h15 : ρ (.tmp 15) = V 15 := (congrFun hρ _).trans (evalHit hA 15 rfl)
    obtain ⟨b, c, e15, hb, u0, u1⟩ := f15
    have e15 : V 15 = _ := e15
    rw [e15] at h15
    simp [relUpon, go_sem, hfun, h15]
    exact (HO b c w' u0 u1).mono fun e w'' ⟨he, hy⟩ => ⟨_, he, hy ▸ ExtD.refl _, rfl⟩
  intro V wT hxT hf
  obtain ⟨g5, g6, g7, g8, g9, g10, g11, g12, g13, g14, g15, g16, _⟩ := hf
  refine wpAny_tail1 12 16 4 _ (by kernel_rfl) rfl rfl (.inr rfl) (by kernel_rfl) rfl rfl ?_
  have q16 : V 16 = _ := g16
  rw [q16]
  simp only [fillA, List.foldl_cons, List.foldl_nil, Act.put, List.setIfInBounds_toArray, List.set_cons_succ, List.set_cons_zero]
  have HWT := Lib.hid (HWW.out.trans hxT)
  go_wp2
  go_ret
  exact ⟨rfl, HWT.out⟩
end Go.Proofs.YtamkgbodifjlaaaGreatDoor

/-
  Chapter 48, the program: slices.SortFunc on the choices of a row of the call's own.
  No condition.
-/
namespace Go.Proofs.YtamkgbodifjlaaaGreatDoor
open Go.RowKit Go.Sort

theorem holds_of_own {w : World} {B g n cap : Nat} {xs : List Gl.Ch} (h : KOwn 67 2 encC w B (.slice (some ⟨g, 0, none⟩) n cap) xs) : HoldsK encC 2 w g 0 xs.toArray := by
  have hn : xs.length = n := by
    rcases h.form with ⟨_, h1⟩ | ⟨g', c', h1, _⟩
    · simp at h1
    · injection h1 with _ h2; exact h2.symm
  subst hn
  have hh := h
  unfold KOwn at hh
  intro j hj
  rw [size_flatK] at hj
  have hj' : j < xs.length * 2 := by simpa using hj
  rw [Nat.zero_add, hh.cellAt j hj', hh.frozenAt j, get_flatK _ _ _ _ hj]
  refine ⟨?_, rfl⟩
  have hq : j / 2 < xs.length := by omega
  have hx : xs[j / 2]? = some xs[j / 2] := List.getElem?_eq_getElem hq
  have h2 := cellsK_at encC_len xs (j / 2) _ hx (j % 2) (by omega)
  have hjd : j / 2 * 2 + j % 2 = j := by omega
  rw [hjd] at h2
  rw [h2]
  have e1 : (xs.toArray)[j / 2]! = xs[j / 2] := by simp [hq]
  rw [e1]
  have hl : j % 2 < (encC xs[j / 2]).length := by rw [encC_len]; omega
  rw [List.getElem?_eq_getElem hl]
  simp [hl]
theorem sl_of_holds {w : World} {g cap : Nat} {d : List Gl.Ch} (h : HoldsK encC 2 w g 0 d.toArray) (hg : g < w.heap.size) : KSl 2 encC w (.slice (some ⟨g, 0, none⟩) d.length cap) d := by
  refine .inr ⟨g, 0, cap, rfl, hg, fun i x hi c hc => ?_⟩
  have hil : i < d.length := (List.getElem?_eq_some_iff.1 hi).1
  have h2 := (h.cell (i := i) (c := c) (by simpa using hil) hc).1
  rw [h2]
  have e1 : (d.toArray)[i]! = x := by
    have := (List.getElem?_eq_some_iff.1 hi).2
    simp [hil, this]
  rw [e1]
  have hl : c < (encC x).length := by rw [encC_len]; exact hc
  rw [List.getElem?_eq_getElem hl]
  simp [hl]
theorem sorted_ext {a w : World} {g n : Nat} {d : Array Gl.Ch} {os : Array Obj} (h : Ext a w) (hg : a.heap.size ≤ g) : Ext a (sortWorldK encC 2 w g 0 n d os) := by
  refine h.ofGrown (row := some g) ?_ (fun k hk => by injection hk with hk; omega)
  refine ⟨rfl, rfl, rfl, by simp [sortWorldK, putRowK, grow], fun k hk hne => ?_⟩
  have hne : k ≠ g := fun e => hne (by rw [e])
  show ((putRowK encC 2 (Sort.ahead w n) g 0 d).heap ++ os)[k]? = _
  rw [Array.getElem?_append_left (by simp [putRowK]; exact hk)]
  simp [putRowK, putRow, mapBlock, Array.getElem?_modify, Ne.symm hne]
/-- slices.SortFunc in Match. -/
theorem sortM_any {w : World} {B g cap : Nat} {xs : List Gl.Ch} (h : KOwn 67 2 encC w B (.slice (some ⟨g, 0, none⟩) xs.length cap) xs) (hs : xs.length ≤ 1000000) :
    Calls Tryz.prog 39 #[.slice (some ⟨g, 0, none⟩) xs.length cap, .func (.func 40) #[] #[]] w fun e w' =>
      e = .returned (.tuple #[]) ∧ (∀ a, Ext a w → a.heap.size ≤ g → Ext a w') ∧ g < w'.heap.size ∧ KSl 2 encC w' (.slice (some ⟨g, 0, none⟩) xs.length cap) (xs.mergeSort fun x y => !(ltOf Gl.cfM y x)) := by
  have hg : g < w.heap.size := by
    rcases h.form with ⟨_, h1⟩ | ⟨g', c', h1, _, h2⟩
    · simp at h1
    · simp only [Value.slice.injEq, Option.some.injEq, Addr.mk.injEq, and_true] at h1
      omega
  have hc := AnyQ.slices_SortFunc_total Tryz.sortCh 2 Tryz.isAgg67 Tryz.sizeOf67 encC encC_len encC_one Gl.cfM Gl.swoM 40 #[] g 0 cap xs.toArray w (enters_of Tryz.func40 (by kernel_rfl) rfl)
    (fun m os dk _ x y => closM x y _) (holds_of_own h) hg (by simp; omega) Gl.totM
  rw [show xs.toArray.size = xs.length by simp, show xs.toArray.toList = xs by simp] at hc
  refine Calls.mono hc ?_
  rintro e w' ⟨rfl, n, os, rfl⟩
  have hlen : (xs.mergeSort fun x y => !(ltOf Gl.cfM y x)).length = xs.length := (List.mergeSort_perm _ _).length_eq
  have hH := holdsK_sortWorldK_c (enc := encC) (k := 2) (w := w) (blk := g) (off := 0) xs.toArray (xs.mergeSort fun x y => !(ltOf Gl.cfM y x)).toArray n os (holds_of_own h) hg (by simp [hlen])
  have hgl : g < (sortWorldK encC 2 w g 0 n (xs.mergeSort fun x y => !(ltOf Gl.cfM y x)).toArray os).heap.size := Nat.lt_of_lt_of_le hg (size_sortWorldK_c _ _ _ _ _ _ _ _)
  refine ⟨rfl, fun a ha hag => sorted_ext ha hag, hgl, ?_⟩
  have := sl_of_holds (cap := cap) hH hgl
  rw [hlen] at this
  exact this
end Go.Proofs.YtamkgbodifjlaaaGreatDoor
