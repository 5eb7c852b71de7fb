/-
  Chapter 48, the law GlyphsReads.
  No condition.
-/
import Derived.Test.YtamkgbodifjlaaaGreatDoorGlL1
namespace Go.Proofs.YtamkgbodifjlaaaGreatDoor
set_option linter.unusedVariables false
open Go.RowKit

theorem noU8 {w : World} {b : Nat} {t : TypeId} {x0 x1 x2 x3 : Int} {x4 : ByteArray} {a : Option Addr} {n c : Nat} (h : w.heap[b]? = some (.cells #[.int .i64 x0, .int .i64 x1, .int .i64 x2, .int .i64 x3, .string x4, .slice a n c] t (0, 0))) (j : Nat) (m : Int) : w.cell? ⟨b, j, none⟩ ≠ some (.int .u8 m) := by
  intro h2
  match j with
  | 0 => rw [cell_at h (i := 0) rfl] at h2; simp at h2
  | 1 => rw [cell_at h (i := 1) rfl] at h2; simp at h2
  | 2 => rw [cell_at h (i := 2) rfl] at h2; simp at h2
  | 3 => rw [cell_at h (i := 3) rfl] at h2; simp at h2
  | 4 => rw [cell_at h (i := 4) rfl] at h2; simp at h2
  | 5 => rw [cell_at h (i := 5) rfl] at h2; simp at h2
  | j + 6 => simp [World.cell?, h] at h2
/-- The glyphs' characters, each with the cost 0. -/
def CharsAt (w : World) (b off : Nat) (l : List UInt8) : Prop := b < w.heap.size ∧ ∀ (i : Nat) x, l[i]? = some x → w.cell? ⟨b, off + i * 7 + 4, none⟩ = some (.int .u8 (x.toNat : Int)) ∧ w.cell? ⟨b, off + i * 7 + 5, none⟩ = some (.int .i64 0)
theorem CharsAt.ext {w w' : World} {b off : Nat} {l : List UInt8} (h : CharsAt w b off l) (hx : Ext w w') : CharsAt w' b off l :=
  ⟨Nat.lt_of_lt_of_le h.1 hx.size, fun i x hi => by
    rw [hx.cell (p := ⟨b, off + i * 7 + 4, none⟩) h.1, hx.cell (p := ⟨b, off + i * 7 + 5, none⟩) h.1]
    exact h.2 i x hi⟩
theorem CharsAt.grown {w w' : World} {b off t : Nat} {l : List UInt8} (h : CharsAt w b off l) (h0 : 0 < l.length) (hu : ∀ j n, w.cell? ⟨t, j, none⟩ ≠ some (.int .u8 n)) (hg : w.grownBy w' (some t)) : CharsAt w' b off l := by
  have hne : b ≠ t := by
    rintro rfl
    exact hu _ _ (h.2 0 l[0] (List.getElem?_eq_getElem h0)).1
  have hb := hg.block b h.1 (fun e => hne (Option.some.inj e))
  refine ⟨Nat.lt_of_lt_of_le h.1 hg.size, fun i x hi => ?_⟩
  rw [World.cell?_of_block (a := ⟨b, off + i * 7 + 4, none⟩) hb, World.cell?_of_block (a := ⟨b, off + i * 7 + 5, none⟩) hb]
  exact h.2 i x hi
theorem grown_set6 (w : World) (b : Nat) (p0 p1 p2 p3 p4 p5 : Value) : w.grownBy ((((((w.setCell ⟨b, 0, none⟩ p0).setCell ⟨b, 1, none⟩ p1).setCell ⟨b, 2, none⟩ p2).setCell ⟨b, 3, none⟩ p3).setCell ⟨b, 4, none⟩ p4).setCell ⟨b, 5, none⟩ p5) (some b) :=
  ((((World.grownBy.trans (grown_set w b 0 p0) (grown_set _ b 1 p1)).trans (grown_set _ b 2 p2)).trans (grown_set _ b 3 p3)).trans (grown_set _ b 4 p4)).trans (grown_set _ b 5 p5)
/-- A text's line as Read hands it back; the line; a new cell for it. -/
def rdT (s : ByteArray) (B H : Nat) (v : Value) (w : World) : Prop := ∃ b off c, v = .tuple #[.agg #[.int .i64 0, .int .i64 0, .int .i64 (B : Int), .int .i64 (H : Int), .string s, .slice (some ⟨b, off, none⟩) s.size c], .int .i64 0] ∧ CharsAt w b off s.data.toList
def lnT (s : ByteArray) (B H : Nat) (v : Value) (w : World) : Prop := ∃ b off c, v = .agg #[.int .i64 0, .int .i64 0, .int .i64 (B : Int), .int .i64 (H : Int), .string s, .slice (some ⟨b, off, none⟩) s.size c] ∧ CharsAt w b off s.data.toList
theorem rdT_stable (s : ByteArray) (B H : Nat) : Rel.Stable (rdT s B H) := fun _ _ _ ⟨b, o, c, h1, h2⟩ hx => ⟨b, o, c, h1, h2.ext hx⟩
theorem lnT_stable (s : ByteArray) (B H : Nat) : Rel.Stable (lnT s B H) := fun _ _ _ ⟨b, o, c, h1, h2⟩ hx => ⟨b, o, c, h1, h2.ext hx⟩
theorem rdT_of {s : ByteArray} {k B H : Nat} {v : Value} {w w' : World} (h0 : 0 < s.size) (hc : ∀ c ∈ s.data.toList, c ∈ Gl.chars) (f : Nat → Nat) (h : OwnsL ((0 : Nat) : Int) ((0 : Nat) : Int) B H 0 k ((List.range s.data.toList.length).map fun i => (f i, Gl.ranked (Gl.pix (s.data.toList.getD i 32)))) w (.returned v) w') : rdT s B H v w' := by
  obtain ⟨vg, he, ⟨gs, h1, h2, h3⟩, _⟩ := h
  injection he with he
  subst he
  have hhd : ∀ i, i < s.data.toList.length → (Gl.ranked (Gl.pix (s.data.toList.getD i 32))).headD (0, 0) = (s.data.toList.getD i 32, 0) := fun i hi => by
    obtain ⟨l, hl⟩ := Gl.ranked_pix (s.data.toList.getD i 32) (hc _ (Gl.getD_mem hi))
    rw [hl]; rfl
  have ht : Gl.textOf ((List.range s.data.toList.length).map fun i => (f i, Gl.ranked (Gl.pix (s.data.toList.getD i 32)))) = s.data.toList := by
    unfold Gl.textOf
    rw [List.map_map]
    refine List.ext_getElem? fun i => ?_
    rw [List.getElem?_map]
    by_cases hi : i < s.data.toList.length
    · rw [List.getElem?_range hi, List.getElem?_eq_getElem hi, Option.map_some]
      simp only [Function.comp]
      rw [hhd i hi, List.getD_eq_getElem?_getD, List.getElem?_eq_getElem hi]
      rfl
    · rw [List.getElem?_eq_none (by simp; simpa using hi), List.getElem?_eq_none (by omega)]; rfl
  rw [List.length_map, List.length_range, len_data] at h2
  obtain ⟨b, off, c, rfl, hb, hcl⟩ := h1.some_ (by omega)
  have hbs : bS s.data.toList = s := mk_toList s
  rw [ht, hbs, h2]
  refine ⟨b, off, c, rfl, hb, fun i x hi => ?_⟩
  have hil : i < s.data.toList.length := (List.getElem?_eq_some_iff.1 hi).1
  obtain ⟨g, cg, hg, _⟩ := h3 i (f i, Gl.ranked (Gl.pix (s.data.toList.getD i 32))) (by rw [List.getElem?_map, List.getElem?_range hil]; rfl)
  have c4 := hcl i _ hg 4 (by omega)
  have c5 := hcl i _ hg 5 (by omega)
  dsimp only at c4 c5
  rw [hhd i hil] at c4 c5
  have hx : s.data.toList.getD i 32 = x := by rw [List.getD_eq_getElem?_getD, hi]; rfl
  rw [hx] at c4 c5
  exact ⟨c4, c5⟩
set_option maxRecDepth 100000 in
set_option maxHeartbeats 8000000 in
theorem law_reads (s : ByteArray) (k0 : Int) (w : World) (hs : s.size ≤ maxLen) (hk0 : 0 ≤ k0) (hk1 : k0 ≤ 255) : Calls Tryz.prog 6 #[.string s, .int .u8 k0] w fun e w' => e = .returned (.bool true) ∧ Ext w w' := by
  obtain ⟨m, rfl⟩ : ∃ m : Nat, k0 = m := ⟨k0.toNat, by omega⟩
  obtain ⟨k, hk⟩ : ∃ k, 1 + m % 5 = k := ⟨_, rfl⟩
  have ek : 1 + ((m : Int) % 5) = (k : Int) := by omega
  have hk2 : 1 ≤ k ∧ k ≤ 5 := by omega
  have HDR := Lib.hid (fun w' => drawable_any s w' hs)
  have HEX := Lib.hid example_any
  have hsz9 : s.size ≤ 9223372036854775807 := by unfold maxLen at hs; omega
  cases hd : Gl.drawable s.data.toList with
  | false =>
    rw [hd] at HDR
    clear hd hs
    go_enter Tryz.func6, Tryz.ntmps6
    go_wp2_with fail
    refine (HDR.out _).mono ?_
    rintro e w1 ⟨rfl, hx1⟩
    go_wp2_with fail
    refine (HEX.out _).mono ?_
    rintro e w2 ⟨rfl, hx2⟩
    go_wp2
    go_ret
    exact ⟨rfl, hx1.trans hx2⟩
  | true =>
    rw [hd] at HDR
    obtain ⟨hl0, hl20, _, _, hall, _⟩ := Gl.drawable_parts hd
    rw [len_data] at hl0 hl20
    obtain ⟨B, hBl, hBW, hB6, hBx⟩ := Gl.lines_drawn s.data.toList k (by omega) hd
    have hrd := Gl.read_drawn s.data.toList k B (by omega) (by rw [len_data]; exact hl0) hBW hB6 hBx
    have hkn : ∀ c ∈ s.data.toList, Gl.known c = true := fun c hc => by rw [Gl.known_mem]; exact decide_eq_true (hall c hc)
    have HD := Lib.hid (fun w' => draw_any s k hkn hl0 hl20 hk2.1 hk2.2 w')
    have hwd : Gl.wid s.data.toList k = (6 * s.size - 1) * k := by unfold Gl.wid; rw [len_data]
    have hW1 : 1 ≤ Gl.wid s.data.toList k := by rw [hwd]; exact Nat.mul_pos (by omega) (by omega)
    have hW2 : Gl.wid s.data.toList k ≤ 119 * 5 := by rw [hwd]; exact Nat.mul_le_mul (by omega) hk2.2
    have hML := Gl.drawn_len s.data.toList k
    have HSL := Lib.hid (fun (w' : World) (b : Nat) (h : w'.rowIs b 4 (Gl.wid s.data.toList k * (7 * k)) (fun p => .bool ((Gl.drawn s.data.toList k).getD p false))) => drawn_slk (s := s.data.toList) (k := k) rfl h)
    have hB0 : 1 ≤ B := by
      have : 6 * (s.data.toList.length - 1) * k < B := hB6
      omega
    obtain ⟨W0, hW0⟩ : ∃ W0, Gl.wid s.data.toList k = W0 := ⟨_, rfl⟩
    obtain ⟨H0, hH0⟩ : ∃ H0, 7 * k = H0 := ⟨_, rfl⟩
    obtain ⟨M, hM⟩ : ∃ M, Gl.drawn s.data.toList k = M := ⟨_, rfl⟩
    rw [hW0, hH0] at HD HSL hML
    rw [hW0] at hBl hBW hW1 hW2 hrd
    rw [hH0] at hBl hrd
    rw [hM] at HD HSL hML hBl hrd
    have hN1 : 1 ≤ W0 * H0 := Nat.mul_pos hW1 (by omega)
    have hN2 : W0 * H0 ≤ 595 * 35 := Nat.mul_le_mul hW2 (by omega)
    obtain ⟨N, hN⟩ : ∃ N, W0 * H0 = N := ⟨_, rfl⟩
    rw [hN] at HD HSL hML hN1 hN2
    have hval : Gl.valid (W0 : Int) (H0 : Int) N = true := by
      unfold Gl.valid Gl.poss
      have e : ((N : Nat) : Int) = (W0 : Int) * (H0 : Int) := by rw [← hN]; simp
      have e2 : (W0 : Int) * (H0 : Int) ≤ 595 * 35 := by rw [← e]; omega
      simp only [Bool.and_eq_true, decide_eq_true_eq]
      omega
    have hins : Gl.ins (W0 : Int) (H0 : Int) 0 0 (B : Int) (H0 : Int) = true := by
      unfold Gl.ins
      simp only [Bool.and_eq_true, decide_eq_true_eq]
      omega
    have hscale : Gl.scale (W0 : Int) (H0 : Int) N 0 0 (B : Int) (H0 : Int) = ((k : Int), 0) := by
      unfold Gl.scale
      rw [if_neg (by rw [hval]; simp), if_neg (by rw [hins]; simp), if_neg (by omega)]
      congr 1
      omega
    have HLN := Lib.hid (fun v w' (h : SlK w' v (M.map encT)) => lines_any v M W0 H0 w' h (by rw [hML, hN]) (by rw [hML]; exact hval))
    rw [hBl] at HLN
    have HSC := Lib.hid (fun b w' => scale_any (W0 : Int) (H0 : Int) (some ⟨b, 0, none⟩) N N 0 0 (B : Int) (H0 : Int) w' (by unfold maxLen; omega))
    rw [hscale] at HSC
    have HRE := Lib.hid (fun v w' (h : SlK w' v (M.map encT)) => read_any v M W0 H0 0 0 B H0 k w' h (by rw [hML, hN]) (by rw [hML]; exact hval) hins (by omega) (by omega))
    rw [hrd] at HRE
    have HRT := Lib.hid (fun v w' w'' => rdT_of (s := s) (k := k) (B := B) (H := H0) (v := v) (w := w') (w' := w'') hl0 hall (fun i => 0 + 6 * i * k))
    have hkI : (k : Int) ≤ 5 := by omega
    have hl0I : 0 < (s.size : Int) := by omega
    clear hd hs hall hBl hBx hrd hkn hwd hM hW0 hH0 hML hval hins hscale hk hB6 hN
    go_enter Tryz.func6, Tryz.ntmps6
    go_wp2_with fail
    refine (HDR.out _).mono ?_
    rintro e w0 ⟨rfl, hx0⟩
    go_wp2_with fail
    refine (HD.out _).mono ?_
    rintro e w1 ⟨b, rfl, _, hrow, hx1⟩
    have HS1 := Lib.hid ((HSL.out w1 b hrow).ext ((Ext.refl w1).alloc (.cells #[.int .i64 (W0 : Int), .int .i64 (H0 : Int), .slice (some ⟨b, 0, none⟩) N N] 24)))
    have HM1 := Lib.hid (heap_alloc_new w1 (.cells #[.int .i64 (W0 : Int), .int .i64 (H0 : Int), .slice (some ⟨b, 0, none⟩) N N] 24))
    have HX1 : Hid (Ext w (w1.alloc (.cells #[.int .i64 (W0 : Int), .int .i64 (H0 : Int), .slice (some ⟨b, 0, none⟩) N N] 24))) := Lib.hid ((hx0.trans hx1).alloc _)
    clear hx0 hx1 hrow HD HDR HSL
    go_wp2_with fail
    refine (HLN.out _ _ HS1.out).mono ?_
    rintro e w2 ⟨vl, rfl, hownl, hx2⟩
    obtain ⟨bm, hbm⟩ : ∃ bm, w1.heap.size = bm := ⟨_, rfl⟩
    rw [hbm] at HM1 ⊢
    have hcl := hownl.sl encX_len
    rcases hownl.form with ⟨h0, _⟩ | ⟨gl, cl, rfl, _, hgl⟩
    · cases h0
    have HBX : Hid (∀ w', Ext w2 w' → w'.cell? ⟨gl, 0, none⟩ = some (.int .i64 0) ∧ w'.cell? ⟨gl, 1, none⟩ = some (.int .i64 0) ∧ w'.cell? ⟨gl, 2, none⟩ = some (.int .i64 (B : Int)) ∧ w'.cell? ⟨gl, 3, none⟩ = some (.int .i64 (H0 : Int))) := Lib.hid (fun w' hx => by
      obtain ⟨b', o', he, hb, hc⟩ := hcl.at_ (i := 0) (x := (0, 0, (B : Int), (H0 : Int))) rfl
      simp only [Option.some.injEq, Addr.mk.injEq, and_true] at he
      obtain ⟨rfl, rfl⟩ := he
      have h0 := hc 0 (by omega)
      have h1 := hc 1 (by omega)
      have h2 := hc 2 (by omega)
      have h3 := hc 3 (by omega)
      rw [← hx.cell (p := ⟨gl, _, none⟩) hgl] at h0 h1 h2 h3
      exact ⟨h0, h1, h2, h3⟩)
    have HM2 := Lib.hid (row_on HM1.out hx2)
    have HS2 := Lib.hid (HS1.out.ext hx2)
    have HX2 := Lib.hid (HX1.out.trans hx2)
    have HM := HM2
    have HS := HS2
    clear hbm hcl hownl hgl hx2 HM1 HS1 HX1
    go_wp2
    refine wp_region_rel 9 1 rfl [42, 43, 44, 45, 46, 41, 47, 48, 10] [[], [], [1], [2], [0, 3], [4], [5], [5], [6]] (by kernel_rfl) (by kernel_rfl) ?_
    refine relPlan_by (eqv (.agg #[.int .i64 (W0 : Int), .int .i64 (H0 : Int), .slice (some ⟨b, 0, none⟩) N N])) (eqv_stable _) ?_ ?_
    · intro V w' hx hf
      with_reducible refine relAt_ops ?_
      intro A ρ hA hρ hcst hfun
      have h6 : ρ (.tmp 6) = .pointer (some ⟨bm, 0, none⟩) := (congrFun hρ _).trans (evalMiss hA 6 rfl)
      have HMw := row_on HM.out hx
      have q0 := cell_at HMw (i := 0) rfl
      have q1 := cell_at HMw (i := 1) rfl
      have q2 := cell_at HMw (i := 2) rfl
      simp [relUpon, go_sem, hcst, hfun, ↓IntWalk.iteOmega, Ext.refl, h6, q0,q1,q2]
      try rfl
    apply relPlan_eq'
    · intro V w' hx hf
      with_reducible refine relAt_ops ?_
      intro A ρ hA hρ hcst hfun
      have h8 : ρ (.tmp 8) = .slice (some ⟨gl, 0, none⟩) 1 cl := (congrFun hρ _).trans (evalMiss hA 8 rfl)
      exact relUpon_move (hk := by rw [h8]; exact ⟨Ext.refl _, rfl⟩)
    apply relPlan_eq'
    · intro V w' hx hf
      with_reducible refine relAt_ops ?_
      intro A ρ hA hρ hcst hfun
      obtain ⟨f43, _⟩ := hf
      have h43 : ρ (.tmp 43) = _ := (congrFun hρ _).trans ((evalHit hA 43 rfl).trans f43)
      simp [relUpon, go_sem, hcst, hfun, ↓IntWalk.iteOmega, Ext.refl, h43]
      rfl
    refine relPlan_by (eqv (.agg #[.int .i64 0, .int .i64 0, .int .i64 (B : Int), .int .i64 (H0 : Int)])) (eqv_stable _) ?_ ?_
    · intro V w' hx hf
      with_reducible refine relAt_ops ?_
      intro A ρ hA hρ hcst hfun
      obtain ⟨f44, _⟩ := hf
      have h44 : ρ (.tmp 44) = _ := (congrFun hρ _).trans ((evalHit hA 44 rfl).trans f44)
      obtain ⟨q0, q1, q2, q3⟩ := HBX.out w' hx
      simp [relUpon, go_sem, hcst, hfun, ↓IntWalk.iteOmega, Ext.refl, h44, q0,q1,q2,q3]
      try rfl
    refine relPlan_by (eqv (.tuple #[.int .i64 (k : Int), .int .i64 0])) (eqv_stable _) ?_ ?_
    · intro V w' hx hf
      with_reducible refine relAt_ops ?_
      intro A ρ hA hρ hcst hfun
      obtain ⟨f42, f45, _⟩ := hf
      have h42 : ρ (.tmp 42) = _ := (congrFun hρ _).trans ((evalHit hA 42 rfl).trans f42)
      have h45 : ρ (.tmp 45) = _ := (congrFun hρ _).trans ((evalHit hA 45 rfl).trans f45)
      simp [relUpon, go_sem, hcst, hfun, h42, h45]
      exact (HSC.out b w').mono fun e w'' ⟨he, hy⟩ => ⟨_, he, hy, rfl⟩
    apply relPlan_eq'
    · intro V w' hx hf
      with_reducible refine relAt_ops ?_
      intro A ρ hA hρ hcst hfun
      obtain ⟨f46, _⟩ := hf
      have h46 : ρ (.tmp 46) = _ := (congrFun hρ _).trans ((evalHit hA 46 rfl).trans f46)
      exact relUpon_move (hk := by rw [h46]; exact ⟨Ext.refl _, rfl⟩)
    apply relPlan_eq'
    · intro V w' hx hf
      with_reducible refine relAt_ops ?_
      intro A ρ hA hρ hcst hfun
      obtain ⟨f41, _⟩ := hf
      have h41 : ρ (.tmp 41) = _ := (congrFun hρ _).trans ((evalHit hA 41 rfl).trans f41)
      simp [relUpon, go_sem, hcst, hfun, ↓IntWalk.iteOmega, Ext.refl, h41]
      rfl
    apply relPlan_eq'
    · intro V w' hx hf
      with_reducible refine relAt_ops ?_
      intro A ρ hA hρ hcst hfun
      obtain ⟨f41, _⟩ := hf
      have h41 : ρ (.tmp 41) = _ := (congrFun hρ _).trans ((evalHit hA 41 rfl).trans f41)
      simp [relUpon, go_sem, hcst, hfun, ↓IntWalk.iteOmega, Ext.refl, h41]
      rfl
    apply relPlan_eq'
    · intro V w' hx hf
      with_reducible refine relAt_ops ?_
      intro A ρ hA hρ hcst hfun
      obtain ⟨f47, _⟩ := hf
      have h47 : ρ (.tmp 47) = _ := (congrFun hρ _).trans ((evalHit hA 47 rfl).trans f47)
      exact relUpon_move (hk := by rw [h47]; exact ⟨Ext.refl _, rfl⟩)
    intro V wT hxT hf
    obtain ⟨g42, g43, g44, g45, g46, g41, g47, g48, g10, _⟩ := hf
    refine wpAny_tail1 9 48 11 _ (by kernel_rfl) rfl rfl (.inr rfl) (by kernel_rfl) rfl rfl ?_
    have q47 : V 10 = .int .i64 (k : Int) := g10
    have q48 : V 48 = .int .i64 0 := g48
    simp only [fillA, List.foldl_cons, List.foldl_nil, Act.put, List.setIfInBounds_toArray, List.set_cons_succ, List.set_cons_zero]
    rw [q47, q48]
    clear HM HS
    go_wp2
    obtain ⟨w3, hw3⟩ : ∃ w3, w3 = wT := ⟨_, rfl⟩
    subst hw3
    have HM := Lib.hid (row_on HM2.out hxT)
    have HS := Lib.hid (HS2.out.ext hxT)
    have HBX := Lib.hid (fun w' (h : Ext w3 w') => HBX.out w' (hxT.trans h))
    have HX3 := Lib.hid (HX2.out.trans hxT)
    clear q47 q48 g42 g43 g44 g45 g46 g41 g47 g48 g10 hxT HM2 HS2 HX2 HLN HSC
    refine wp_region_relL 10 2 8 rfl [50, 51, 52, 53, 54, 55, 49, 56, 57, 12] [[], [], [1], [2], [], [0, 3, 4], [5], [6], [6], []] (by kernel_rfl) (by kernel_rfl) ?_
    refine relPlan_by (eqv (.agg #[.int .i64 (W0 : Int), .int .i64 (H0 : Int), .slice (some ⟨b, 0, none⟩) N N])) (eqv_stable _) ?_ ?_
    · intro V w' hx hf
      with_reducible refine relAt_ops ?_
      intro A ρ hA hρ hcst hfun
      have h6 : ρ (.tmp 6) = .pointer (some ⟨bm, 0, none⟩) := (congrFun hρ _).trans (evalMiss hA 6 rfl)
      have HMw := row_on HM.out hx
      have q0 := cell_at HMw (i := 0) rfl
      have q1 := cell_at HMw (i := 1) rfl
      have q2 := cell_at HMw (i := 2) rfl
      simp [relUpon, go_sem, hcst, hfun, ↓IntWalk.iteOmega, Ext.refl, h6, q0,q1,q2]
      try rfl
    apply relPlan_eq'
    · intro V w' hx hf
      with_reducible refine relAt_ops ?_
      intro A ρ hA hρ hcst hfun
      have h8 : ρ (.tmp 8) = .slice (some ⟨gl, 0, none⟩) 1 cl := (congrFun hρ _).trans (evalMiss hA 8 rfl)
      exact relUpon_move (hk := by rw [h8]; exact ⟨Ext.refl _, rfl⟩)
    apply relPlan_eq'
    · intro V w' hx hf
      with_reducible refine relAt_ops ?_
      intro A ρ hA hρ hcst hfun
      obtain ⟨f51, _⟩ := hf
      have h51 : ρ (.tmp 51) = _ := (congrFun hρ _).trans ((evalHit hA 51 rfl).trans f51)
      simp [relUpon, go_sem, hcst, hfun, ↓IntWalk.iteOmega, Ext.refl, h51]
      rfl
    refine relPlan_by (eqv (.agg #[.int .i64 0, .int .i64 0, .int .i64 (B : Int), .int .i64 (H0 : Int)])) (eqv_stable _) ?_ ?_
    · intro V w' hx hf
      with_reducible refine relAt_ops ?_
      intro A ρ hA hρ hcst hfun
      obtain ⟨f52, _⟩ := hf
      have h52 : ρ (.tmp 52) = _ := (congrFun hρ _).trans ((evalHit hA 52 rfl).trans f52)
      obtain ⟨q0, q1, q2, q3⟩ := HBX.out w' hx
      simp [relUpon, go_sem, hcst, hfun, ↓IntWalk.iteOmega, Ext.refl, h52, q0,q1,q2,q3]
      try rfl
    apply relPlan_eq'
    · intro V w' hx hf
      with_reducible refine relAt_ops ?_
      intro A ρ hA hρ hcst hfun
      have h5 : ρ (.tmp 5) = .int .i64 (k : Int) := (congrFun hρ _).trans (evalMiss hA 5 rfl)
      exact relUpon_move (hk := by rw [h5]; exact ⟨Ext.refl _, rfl⟩)
    refine relPlan_by (rdT s B H0) (rdT_stable s B H0) ?_ ?_
    · intro V w' hx hf
      with_reducible refine relAt_ops ?_
      intro A ρ hA hρ hcst hfun
      obtain ⟨f50, f53, f54, _⟩ := hf
      have h50 : ρ (.tmp 50) = _ := (congrFun hρ _).trans ((evalHit hA 50 rfl).trans f50)
      have h53 : ρ (.tmp 53) = _ := (congrFun hρ _).trans ((evalHit hA 53 rfl).trans f53)
      have h54 : ρ (.tmp 54) = _ := (congrFun hρ _).trans ((evalHit hA 54 rfl).trans f54)
      simp [relUpon, go_sem, hcst, hfun, h50, h53, h54]
      refine (HRE.out _ w' (HS.out.ext hx)).mono fun e w'' h => ?_
      obtain ⟨vg, he, _, hy⟩ := id h
      exact ⟨_, he, hy, HRT.out _ _ _ (he ▸ h)⟩
    refine relPlan_by (rdT s B H0) (rdT_stable s B H0) ?_ ?_
    · intro V w' hx hf
      with_reducible refine relAt_ops ?_
      intro A ρ hA hρ hcst hfun
      obtain ⟨f55, _⟩ := hf
      have h55 : ρ (.tmp 55) = V 55 := (congrFun hρ _).trans (evalHit hA 55 rfl)
      exact relUpon_move (hk := by rw [h55]; exact ⟨Ext.refl _, f55⟩)
    refine relPlan_by (lnT s B H0) (lnT_stable s B H0) ?_ ?_
    · intro V w' hx hf
      with_reducible refine relAt_ops ?_
      intro A ρ hA hρ hcst hfun
      obtain ⟨f49, _⟩ := hf
      have h49 : ρ (.tmp 49) = V 49 := (congrFun hρ _).trans (evalHit hA 49 rfl)
      obtain ⟨a9, o9, c9, e9, hc9⟩ := f49
      have e9 : V 49 = _ := e9
      rw [e9] at h49
      simp [relUpon, go_sem, hcst, hfun, h49]
      exact ⟨Ext.refl _, a9, o9, c9, rfl, hc9⟩
    refine relPlan_by (eqv (.int .i64 0)) (eqv_stable _) ?_ ?_
    · intro V w' hx hf
      with_reducible refine relAt_ops ?_
      intro A ρ hA hρ hcst hfun
      obtain ⟨f49, _⟩ := hf
      have h49 : ρ (.tmp 49) = V 49 := (congrFun hρ _).trans (evalHit hA 49 rfl)
      obtain ⟨a9, o9, c9, e9, hc9⟩ := f49
      have e9 : V 49 = _ := e9
      rw [e9] at h49
      simp [relUpon, go_sem, hcst, hfun, h49]
      exact ⟨Ext.refl _, rfl⟩
    refine relPlan_by (newLn w3.heap.size) (newLn_stable _) ?_ ?_
    · intro V w' hx hf
      with_reducible refine relAt_ops ?_
      intro A ρ hA hρ hcst hfun
      simp [relUpon, go_sem, hcst, hfun]
      exact ⟨(Ext.refl _).alloc _, _, rfl, hx.size, heap_alloc_new _ _⟩
    refine ⟨?_, ?_⟩
    · intro V wT hxT hf
      obtain ⟨g50, g51, g52, g53, g54, g55, g49, g56, g57, g12, _⟩ := hf
      obtain ⟨bt, e12, hbt, hct⟩ := g12
      obtain ⟨a5, o5, c5, e49, _⟩ := g49
      obtain ⟨a6, o6, c6, e56, hch⟩ := g56
      have e49 : V 49 = _ := e49
      have e56 : V 56 = _ := e56
      have q57 : V 57 = .int .i64 0 := g57
      simp only [fillA, List.foldl_cons, List.foldl_nil, Act.put, List.setIfInBounds_toArray, List.set_cons_succ, List.set_cons_zero]
      have e12 : V 12 = _ := e12
      rw [e12, e49, e56, q57]
      have c0' := cell_at hct (i := 0) rfl
      have c1' := cell_at hct (i := 1) rfl
      have c2' := cell_at hct (i := 2) rfl
      have c3' := cell_at hct (i := 3) rfl
      have c4' := cell_at hct (i := 4) rfl
      have c5' := cell_at hct (i := 5) rfl
      have f0 := frz_at (i := 0) hct
      have f1 := frz_at (i := 1) hct
      have f2 := frz_at (i := 2) hct
      have f3 := frz_at (i := 3) hct
      have f4 := frz_at (i := 4) hct
      have f5 := frz_at (i := 5) hct
      clear g50 g51 g52 g53 g54 g55 e49 e56 e12 g57 q57
      refine wpAny_one 10 (by kernel_rfl) rfl (fun K hK => ?_)
      go_simp
      refine hK _ _ ?_
      clear hK K
      refine wpAny_one 11 (by kernel_rfl) rfl (fun K hK => ?_)
      go_simp
      refine hK _ _ ?_
      clear hK K
      refine wpAny_done (by kernel_rfl) ?_ 0
      have HC := Lib.hid (row6_set (p0 := .int .i64 0) (p1 := .int .i64 0) (p2 := .int .i64 (B : Int)) (p3 := .int .i64 (H0 : Int)) (p4 := .string s) (p5 := .slice (some ⟨a6, o6, none⟩) s.size c6) hct)
      have HX := Lib.hid ((HX3.out.trans hxT).set6 (b := bt) (Nat.le_trans HX3.out.size hbt) (.int .i64 0) (.int .i64 0) (.int .i64 (B : Int)) (.int .i64 (H0 : Int)) (.string s) (.slice (some ⟨a6, o6, none⟩) s.size c6))
      have HCH := Lib.hid (hch.grown (by rw [len_data]; exact hl0) (noU8 hct) (grown_set6 wT bt (.int .i64 0) (.int .i64 0) (.int .i64 (B : Int)) (.int .i64 (H0 : Int)) (.string s) (.slice (some ⟨a6, o6, none⟩) s.size c6)))
      generalize (((((wT.setCell ⟨bt, 0, none⟩ (.int .i64 0)).setCell ⟨bt, 1, none⟩ (.int .i64 0)).setCell ⟨bt, 2, none⟩ (.int .i64 (B : Int))).setCell ⟨bt, 3, none⟩ (.int .i64 (H0 : Int))).setCell ⟨bt, 4, none⟩ (.string s)).setCell ⟨bt, 5, none⟩ (.slice (some ⟨a6, o6, none⟩) s.size c6) = w4 at HC HX HCH ⊢
      clear c0' c1' c2' c3' c4' c5' f0 f1 f2 f3 f4 f5 hct hxT HM HS HBX HX3 HRE HRT hch
      have k4 := cell_at HC.out (i := 4) rfl
      have k5 := cell_at HC.out (i := 5) rfl
      go_wp2
      go_loopw [14] (fun v14 wr => ∃ i : Nat, i ≤ s.size ∧ v14 = .int .i64 (i : Int) ∧ ∃ q, wr = w4.drewN q) (fun v14 _ => s.size - (intOf v14).toNat)
      case atStart => exact ⟨0, Nat.zero_le _, rfl, 0, rfl⟩
      case round =>
        obtain ⟨i, hi, rfl, q, rfl⟩ := hrel
        by_cases hlt : i < s.size
        · have hltI : (i : Int) < (s.size : Int) := by omega
          obtain ⟨z4, z5⟩ := HCH.out.2 i s[i] (by rw [List.getElem?_eq_getElem (by rw [len_data]; exact hlt)]; rfl)
          go_wp2
          go_quiet (fail)
          go_wp2
          go_roundw
          case rel => exact ⟨i + 1, hlt, by go_num, _, rfl⟩
          case measure => simp [intOf]; omega
        · have hge : ¬ ((i : Int) < (s.size : Int)) := by omega
          clear hlt
          go_wp2_with fail
          refine (HEX.out _).mono ?_
          rintro e w6 ⟨rfl, hx6⟩
          go_wp2
          go_ret
          exact ⟨rfl, (HX.out.drewN q).trans hx6⟩
    · intro V wT hxT hf
      obtain ⟨g50, g51, g52, g53, g54, g55, g49, g56, g12, _⟩ := hf
      obtain ⟨bt, e12, hbt, hct⟩ := g12
      obtain ⟨a5, o5, c5, e49, _⟩ := g49
      obtain ⟨a6, o6, c6, e56, hch⟩ := g56
      have e49 : V 49 = _ := e49
      have e56 : V 56 = _ := e56
      simp only [fillA, List.foldl_cons, List.foldl_nil, Act.put, List.setIfInBounds_toArray, List.set_cons_succ, List.set_cons_zero]
      have e12 : V 12 = _ := e12
      rw [e12, e49, e56]
      have c0' := cell_at hct (i := 0) rfl
      have c1' := cell_at hct (i := 1) rfl
      have c2' := cell_at hct (i := 2) rfl
      have c3' := cell_at hct (i := 3) rfl
      have c4' := cell_at hct (i := 4) rfl
      have c5' := cell_at hct (i := 5) rfl
      have f0 := frz_at (i := 0) hct
      have f1 := frz_at (i := 1) hct
      have f2 := frz_at (i := 2) hct
      have f3 := frz_at (i := 3) hct
      have f4 := frz_at (i := 4) hct
      have f5 := frz_at (i := 5) hct
      clear g50 g51 g52 g53 g54 g55 e49 e56 e12
      refine wpAny_ready (rs := [8, 10]) (by kernel_rfl) (by simp) (AllReady.cons rfl ?_ (AllReady.cons rfl ?_ AllReady.nil))
      · intro K hK
        go_simp
        refine hK _ _ ?_
        clear hK K
        refine wpAny_one 10 (by kernel_rfl) rfl (fun K hK => ?_)
        go_simp
        refine hK _ _ ?_
        clear hK K
        refine wpAny_one 11 (by kernel_rfl) rfl (fun K hK => ?_)
        go_simp
        refine hK _ _ ?_
        clear hK K
        refine wpAny_done (by kernel_rfl) ?_ 0
        have HC := Lib.hid (row6_set (p0 := .int .i64 0) (p1 := .int .i64 0) (p2 := .int .i64 (B : Int)) (p3 := .int .i64 (H0 : Int)) (p4 := .string s) (p5 := .slice (some ⟨a6, o6, none⟩) s.size c6) hct)
        have HX := Lib.hid ((HX3.out.trans hxT).set6 (b := bt) (Nat.le_trans HX3.out.size hbt) (.int .i64 0) (.int .i64 0) (.int .i64 (B : Int)) (.int .i64 (H0 : Int)) (.string s) (.slice (some ⟨a6, o6, none⟩) s.size c6))
        have HCH := Lib.hid (hch.grown (by rw [len_data]; exact hl0) (noU8 hct) (grown_set6 wT bt (.int .i64 0) (.int .i64 0) (.int .i64 (B : Int)) (.int .i64 (H0 : Int)) (.string s) (.slice (some ⟨a6, o6, none⟩) s.size c6)))
        generalize (((((wT.setCell ⟨bt, 0, none⟩ (.int .i64 0)).setCell ⟨bt, 1, none⟩ (.int .i64 0)).setCell ⟨bt, 2, none⟩ (.int .i64 (B : Int))).setCell ⟨bt, 3, none⟩ (.int .i64 (H0 : Int))).setCell ⟨bt, 4, none⟩ (.string s)).setCell ⟨bt, 5, none⟩ (.slice (some ⟨a6, o6, none⟩) s.size c6) = w4 at HC HX HCH ⊢
        clear c0' c1' c2' c3' c4' c5' f0 f1 f2 f3 f4 f5 hct hxT HM HS HBX HX3 HRE HRT hch
        have k4 := cell_at HC.out (i := 4) rfl
        have k5 := cell_at HC.out (i := 5) rfl
        go_wp2
        go_loopw [14] (fun v14 wr => ∃ i : Nat, i ≤ s.size ∧ v14 = .int .i64 (i : Int) ∧ ∃ q, wr = w4.drewN q) (fun v14 _ => s.size - (intOf v14).toNat)
        case atStart => exact ⟨0, Nat.zero_le _, rfl, 0, rfl⟩
        case round =>
          obtain ⟨i, hi, rfl, q, rfl⟩ := hrel
          by_cases hlt : i < s.size
          · have hltI : (i : Int) < (s.size : Int) := by omega
            obtain ⟨z4, z5⟩ := HCH.out.2 i s[i] (by rw [List.getElem?_eq_getElem (by rw [len_data]; exact hlt)]; rfl)
            go_wp2
            go_quiet (fail)
            go_wp2
            go_roundw
            case rel => exact ⟨i + 1, hlt, by go_num, _, rfl⟩
            case measure => simp [intOf]; omega
          · have hge : ¬ ((i : Int) < (s.size : Int)) := by omega
            clear hlt
            go_wp2_with fail
            refine (HEX.out _).mono ?_
            rintro e w6 ⟨rfl, hx6⟩
            go_wp2
            go_ret
            exact ⟨rfl, (HX.out.drewN q).trans hx6⟩
      · intro K hK
        go_simp
        refine hK _ _ ?_
        clear hK K
        refine wpAny_one 8 (by kernel_rfl) rfl (fun K hK => ?_)
        go_simp
        refine hK _ _ ?_
        clear hK K
        refine wpAny_one 11 (by kernel_rfl) rfl (fun K hK => ?_)
        go_simp
        refine hK _ _ ?_
        clear hK K
        refine wpAny_done (by kernel_rfl) ?_ 0
        have HC := Lib.hid (row6_set (p0 := .int .i64 0) (p1 := .int .i64 0) (p2 := .int .i64 (B : Int)) (p3 := .int .i64 (H0 : Int)) (p4 := .string s) (p5 := .slice (some ⟨a6, o6, none⟩) s.size c6) hct)
        have HX := Lib.hid ((HX3.out.trans hxT).set6 (b := bt) (Nat.le_trans HX3.out.size hbt) (.int .i64 0) (.int .i64 0) (.int .i64 (B : Int)) (.int .i64 (H0 : Int)) (.string s) (.slice (some ⟨a6, o6, none⟩) s.size c6))
        have HCH := Lib.hid (hch.grown (by rw [len_data]; exact hl0) (noU8 hct) (grown_set6 wT bt (.int .i64 0) (.int .i64 0) (.int .i64 (B : Int)) (.int .i64 (H0 : Int)) (.string s) (.slice (some ⟨a6, o6, none⟩) s.size c6)))
        generalize (((((wT.setCell ⟨bt, 0, none⟩ (.int .i64 0)).setCell ⟨bt, 1, none⟩ (.int .i64 0)).setCell ⟨bt, 2, none⟩ (.int .i64 (B : Int))).setCell ⟨bt, 3, none⟩ (.int .i64 (H0 : Int))).setCell ⟨bt, 4, none⟩ (.string s)).setCell ⟨bt, 5, none⟩ (.slice (some ⟨a6, o6, none⟩) s.size c6) = w4 at HC HX HCH ⊢
        clear c0' c1' c2' c3' c4' c5' f0 f1 f2 f3 f4 f5 hct hxT HM HS HBX HX3 HRE HRT hch
        have k4 := cell_at HC.out (i := 4) rfl
        have k5 := cell_at HC.out (i := 5) rfl
        go_wp2
        go_loopw [14] (fun v14 wr => ∃ i : Nat, i ≤ s.size ∧ v14 = .int .i64 (i : Int) ∧ ∃ q, wr = w4.drewN q) (fun v14 _ => s.size - (intOf v14).toNat)
        case atStart => exact ⟨0, Nat.zero_le _, rfl, 0, rfl⟩
        case round =>
          obtain ⟨i, hi, rfl, q, rfl⟩ := hrel
          by_cases hlt : i < s.size
          · have hltI : (i : Int) < (s.size : Int) := by omega
            obtain ⟨z4, z5⟩ := HCH.out.2 i s[i] (by rw [List.getElem?_eq_getElem (by rw [len_data]; exact hlt)]; rfl)
            go_wp2
            go_quiet (fail)
            go_wp2
            go_roundw
            case rel => exact ⟨i + 1, hlt, by go_num, _, rfl⟩
            case measure => simp [intOf]; omega
          · have hge : ¬ ((i : Int) < (s.size : Int)) := by omega
            clear hlt
            go_wp2_with fail
            refine (HEX.out _).mono ?_
            rintro e w6 ⟨rfl, hx6⟩
            go_wp2
            go_ret
            exact ⟨rfl, (HX.out.drewN q).trans hx6⟩
end Go.Proofs.YtamkgbodifjlaaaGreatDoor
