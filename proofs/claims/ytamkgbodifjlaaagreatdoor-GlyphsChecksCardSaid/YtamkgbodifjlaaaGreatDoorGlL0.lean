/-
  Chapter 48: the chapter's examples hold.
  No condition.
-/
import Derived.Test.YtamkgbodifjlaaaGreatDoorGlYB
import Derived.Test.YtamkgbodifjlaaaGreatDoorGlZa
import Derived.Test.YtamkgbodifjlaaaGreatDoorGlX3
import Derived.Test.YtamkgbodifjlaaaGreatDoorRelA
import Derived.Test.YtamkgbodifjlaaaGreatDoorGlWB
namespace Go.Proofs.YtamkgbodifjlaaaGreatDoor
set_option linter.unusedVariables false
open Go.RowKit

theorem drawn_slk {w : World} {b : Nat} {s : List UInt8} {k n : Nat} (hn : n = Gl.wid s k * (7 * k)) (h : w.rowIs b 4 n (fun p => .bool ((Gl.drawn s k).getD p false))) : SlK w (.slice (some ⟨b, 0, none⟩) n n) ((Gl.drawn s k).map encT) := by
  refine (SlK.row h).congr ?_
  refine List.ext_getElem? fun i => ?_
  rw [List.getElem?_map, List.getElem?_map]
  by_cases hi : i < n
  · have hl : i < (Gl.drawn s k).length := by rw [Gl.drawn_len, ← hn]; exact hi
    rw [List.getElem?_range hi, List.getElem?_eq_getElem hl]
    simp [encT, List.getD_eq_getElem?_getD, hl]
  · rw [List.getElem?_eq_none (by simp; omega), List.getElem?_eq_none (by rw [Gl.drawn_len]; omega)]
    rfl
/-- What Draw hands back, read. -/
theorem draw_any (s : ByteArray) (k : Nat) (hs : ∀ c ∈ s.data.toList, Gl.known c = true) (h0 : 0 < s.size) (h20 : s.size ≤ 20) (hk : 1 ≤ k) (hk5 : k ≤ 5) (w : World) :
    Calls Tryz.prog 25 #[.string s, .int .i64 (k : Int)] w fun e w' => ∃ b, e = .returned (.tuple #[.agg #[.int .i64 (Gl.wid s.data.toList k : Int), .int .i64 ((7 * k : Nat) : Int), .slice (some ⟨b, 0, none⟩) (Gl.wid s.data.toList k * (7 * k)) (Gl.wid s.data.toList k * (7 * k))], .int .i64 0]) ∧
      w.heap.size ≤ b ∧ w'.rowIs b 4 (Gl.wid s.data.toList k * (7 * k)) (fun p => .bool ((Gl.drawn s.data.toList k).getD p false)) ∧ Ext w w' := xdraw_any s k hs h0 h20 hk hk5 w
theorem ex_draw (w : World) : Calls Tryz.prog 25 #[.string ⟨#[65, 49]⟩, .int .i64 2] w fun e w' => ∃ b, e = .returned (.tuple #[.agg #[.int .i64 22, .int .i64 14, .slice (some ⟨b, 0, none⟩) 308 308], .int .i64 0]) ∧ SlK w' (.slice (some ⟨b, 0, none⟩) 308 308) ((Gl.drawn [65, 49] 2).map encT) ∧ Ext w w' :=
  (draw_any ⟨#[65, 49]⟩ 2 (by decide) (by decide) (by decide) (by decide) (by decide) w).mono fun e w' ⟨b, he, _, hr, hx⟩ => ⟨b, he, drawn_slk (s := [65, 49]) (k := 2) (by decide) hr, hx⟩
theorem opts_mem {gs : List Gv} {xss : List (List Gl.Ch)} {pat : List UInt8} {w : World} (hr : AllR w gs xss) {l : List Gl.Ch} (h : l ∈ Gl.optsOf gs xss pat) : ∃ x xs k, InR w x xs ∧ l = Gl.chs (x.2.1 :: xs) k := by
  obtain ⟨i, hi, e⟩ := List.getElem_of_mem h
  have hi2 := hi
  unfold Gl.optsOf at hi2
  rw [List.length_zipWith, List.length_zip] at hi2
  have h1 : gs[i]? = some gs[i] := List.getElem?_eq_getElem (by omega)
  have h2 : xss[i]? = some xss[i] := List.getElem?_eq_getElem (by omega)
  have h3 : pat[i]? = some pat[i] := List.getElem?_eq_getElem (by omega)
  have h4 := Gl.optsOf_at h1 h2 h3
  rw [List.getElem?_eq_getElem hi, e] at h4
  exact ⟨_, _, _, hr.2 i _ _ h1 h2, Option.some.inj h4⟩
theorem opts_cost {gs : List Gv} {xss : List (List Gl.Ch)} {pat : List UInt8} {w : World} (hr : AllR w gs xss) : ∀ l ∈ Gl.optsOf gs xss pat, ∀ c ∈ l, 0 ≤ c.2 ∧ c.2 ≤ 35 := fun l hl c hc => by
  obtain ⟨x, xs, k, hin, rfl⟩ := opts_mem hr hl
  have hp : Gl.posb c.2 = true := by
    rcases List.mem_cons.1 (Gl.chs_sub hc).1 with h | h
    · rw [h]; exact hin.2.2.1
    · exact hin.2.2.2 c h
  unfold Gl.posb at hp
  simp only [Bool.and_eq_true, decide_eq_true_eq] at hp
  omega
theorem opts_many {gs : List Gv} {xss : List (List Gl.Ch)} {pat : List UInt8} {w : World} (hr : AllR w gs xss) : ∀ l ∈ Gl.optsOf gs xss pat, l.length ≤ 200000 := fun l hl => by
  obtain ⟨x, xs, k, hin, rfl⟩ := opts_mem hr hl
  have h1 := Gl.chs_len (x.2.1 :: xs) k
  have h2 := hin.2.1
  rw [List.length_cons] at h1
  omega
/-- Resolve of glyphs whose right characters cost least. -/
theorem resolve_least (gs : List Gv) (xss : List (List Gl.Ch)) (pat : List UInt8) (t : List Gl.Ch) (v : Value) (w : World) (hv : KSl 7 encV w v gs) (hr : AllR w gs xss) (h64 : gs.length ≤ 64) (hpl : pat.length = gs.length) (hpat : ∀ c ∈ pat, c = 100 ∨ c = 97 ∨ c = 120) (h0 : 0 < gs.length) (hL : Gl.Least (Gl.optsOf gs xss pat) t) :
    Calls Tryz.prog 26 #[v, .string (bS pat), .int .i64 0] w fun e w' => e = .returned (.tuple #[.string (bS (t.map (·.1))), .int .i64 (Gl.sumC t t.length), .int .i64 0]) ∧ Ext w w' := by
  have hl : t.length = gs.length := by rw [← hL.1, Gl.optsOf_len hr.1 hpl]
  exact resolve0_any 0 gs xss pat t.length (Gl.pref t) (t.map (·.1), Gl.sumC t t.length) v w rfl hv hr h64 hpl hpat (by omega) (by omega) hL.wins hL.ends (opts_cost hr) (opts_many hr)
theorem ex_resolve (g1 g2 : Nat) (w : World) (h1 : w.heap[g1]? = some (.cells #[.int .u8 48, .int .i64 5] 67 (0, 0))) (h2 : w.heap[g2]? = some (.cells #[.int .i64 0, .int .i64 0, .int .i64 0, .int .i64 0, .int .u8 79, .int .i64 0, .slice (some ⟨g1, 0, none⟩) 1 1] 54 (0, 0))) :
    Calls Tryz.prog 26 #[.slice (some ⟨g2, 0, none⟩) 1 1, .string ⟨#[100]⟩, .int .i64 0] w fun e w' => e = .returned (.tuple #[.string ⟨#[48]⟩, .int .i64 5, .int .i64 0]) ∧ Ext w w' := by
  have hk1 : KSl 2 encC w (.slice (some ⟨g1, 0, none⟩) 1 1) [((48, 5) : Gl.Ch)] := .inr ⟨g1, 0, 1, rfl, lt_at h1, fun i x hi c hc => by
    obtain rfl : i = 0 := by have := (List.getElem?_eq_some_iff.1 hi).1; simp at this; omega
    simp only [List.getElem?_cons_zero, Option.some.injEq] at hi
    subst hi
    match c, hc with
    | 0, _ => exact cell_at h1 (i := 0) rfl
    | 1, _ => exact cell_at h1 (i := 1) rfl⟩
  have hk2 : KSl 7 encV w (.slice (some ⟨g2, 0, none⟩) 1 1) [(((0, 0, 0, 0), (79, 0), .slice (some ⟨g1, 0, none⟩) 1 1) : Gv)] := .inr ⟨g2, 0, 1, rfl, lt_at h2, fun i x hi c hc => by
    obtain rfl : i = 0 := by have := (List.getElem?_eq_some_iff.1 hi).1; simp at this; omega
    simp only [List.getElem?_cons_zero, Option.some.injEq] at hi
    subst hi
    match c, hc with
    | 0, _ => exact cell_at h2 (i := 0) rfl
    | 1, _ => exact cell_at h2 (i := 1) rfl
    | 2, _ => exact cell_at h2 (i := 2) rfl
    | 3, _ => exact cell_at h2 (i := 3) rfl
    | 4, _ => exact cell_at h2 (i := 4) rfl
    | 5, _ => exact cell_at h2 (i := 5) rfl
    | 6, _ => exact cell_at h2 (i := 6) rfl⟩
  have hr : AllR w [(((0, 0, 0, 0), (79, 0), .slice (some ⟨g1, 0, none⟩) 1 1) : Gv)] [[(48, 5)]] := ⟨rfl, fun i x xs hx hxs => by
    obtain rfl : i = 0 := by have := (List.getElem?_eq_some_iff.1 hx).1; simp at this; omega
    simp only [List.getElem?_cons_zero, Option.some.injEq] at hx hxs
    subst hx hxs
    exact ⟨hk1, by simp, by rfl, by decide⟩⟩
  refine resolve_least _ _ [100] [(48, 5)] _ w hk2 hr (by simp) rfl (by decide) (by simp) ⟨rfl, fun i l x hl hx => ?_⟩
  obtain rfl : i = 0 := by have := (List.getElem?_eq_some_iff.1 hx).1; simp at this; omega
  simp only [List.getElem?_cons_zero, Option.some.injEq] at hx
  subst hx
  have e : l = Gl.chs [(79, 0), (48, 5)] 100 := (Option.some.inj hl).symm
  subst e
  have hall : ∀ c ∈ Gl.chs [(79, 0), (48, 5)] 100, c = (48, 5) := fun c hc => by
    obtain ⟨h3, h4⟩ := Gl.chs_sub hc
    simp only [List.mem_cons, List.not_mem_nil, or_false] at h3
    rcases h3 with rfl | rfl
    · revert h4; decide
    · rfl
  refine ⟨?_, fun c hc => .inl (hall c hc)⟩
  obtain ⟨y, hy, _⟩ := Gl.chs_least (all := [(79, 0), (48, 5)]) (k := 100) (x := (48, 5)) (by simp) (by decide)
  have e := hall y hy
  subst e; exact hy
theorem Ext.set6 {a w : World} (h : Ext a w) {b : Nat} (hb : a.heap.size ≤ b) (p0 p1 p2 p3 p4 p5 : Value) : Ext a ((((((w.setCell ⟨b, 0, none⟩ p0).setCell ⟨b, 1, none⟩ p1).setCell ⟨b, 2, none⟩ p2).setCell ⟨b, 3, none⟩ p3).setCell ⟨b, 4, none⟩ p4).setCell ⟨b, 5, none⟩ p5) :=
  (((((h.setCell (p := ⟨b, 0, none⟩) hb p0).setCell (p := ⟨b, 1, none⟩) hb p1).setCell (p := ⟨b, 2, none⟩) hb p2).setCell (p := ⟨b, 3, none⟩) hb p3).setCell (p := ⟨b, 4, none⟩) hb p4).setCell (p := ⟨b, 5, none⟩) hb p5
/-- What Read hands back; the line of text; a new cell for it. -/
def rdV (v : Value) (_ : World) : Prop := ∃ a c, v = .tuple #[.agg #[.int .i64 0, .int .i64 0, .int .i64 22, .int .i64 14, .string ⟨#[65, 49]⟩, .slice a 2 c], .int .i64 0]
def lnV (v : Value) (_ : World) : Prop := ∃ a c, v = .agg #[.int .i64 0, .int .i64 0, .int .i64 22, .int .i64 14, .string ⟨#[65, 49]⟩, .slice a 2 c]
def newLn (B : Nat) (v : Value) (w : World) : Prop := ∃ g, v = .pointer (some ⟨g, 0, none⟩) ∧ B ≤ g ∧ w.heap[g]? = some (.cells #[.int .i64 0, .int .i64 0, .int .i64 0, .int .i64 0, .string ⟨#[]⟩, .slice none 0 0] 45 (0, 0))
theorem newLn_stable (B : Nat) : Rel.Stable (newLn B) := fun _ _ _ ⟨g, h1, h2, h3⟩ hx => ⟨g, h1, h2, row_on h3 hx⟩
theorem rdV_of {v : Value} {w w' : World} {R : List (Nat × List Gl.Ch)} (hR : R.map (fun p => (p.1, p.2.headD (0, 0))) = [(0, (65, 0)), (12, (49, 0))]) (h : OwnsL 0 0 22 14 0 2 R w (.returned v) w') : rdV v w' := by
  obtain ⟨vg, he, ⟨gs, h1, h2, _⟩, _⟩ := h
  injection he with he
  subst he
  obtain ⟨a, c, rfl⟩ := h1.form
  have hl : R.length = 2 := by have := congrArg List.length hR; simpa using this
  have ht : Gl.textOf R = [65, 49] := by
    have := congrArg (List.map fun p : Nat × Gl.Ch => p.2.1) hR
    rw [List.map_map] at this
    exact this
  rw [ht, h2, hl]
  exact ⟨a, c, rfl⟩
set_option maxRecDepth 100000 in
set_option maxHeartbeats 4000000 in
theorem example_any (w : World) : Calls Tryz.prog 11 #[] w fun e w' => e = .returned (.bool true) ∧ Ext w w' := by
  have hML : (Gl.drawn [65, 49] 2).length = 22 * 14 := by rw [Gl.drawn_len]; decide
  have HD := Lib.hid ex_draw
  have HRD := Lib.hid Gl.ex_read
  have HLX := Gl.ex_lines
  obtain ⟨M, hM⟩ : ∃ M, Gl.drawn [65, 49] 2 = M := ⟨_, rfl⟩
  rw [hM] at HD HLX hML HRD
  clear hM
  have hval : Gl.valid 22 14 M.length = true := by rw [hML]; decide
  have HLN := Lib.hid (fun v w' (h : SlK w' v (M.map encT)) => lines_any v M 22 14 w' h hML hval)
  rw [HLX] at HLN
  have HSC := Lib.hid (fun b w' => scale_any 22 14 (some ⟨b, 0, none⟩) 308 308 0 0 22 14 w' (by unfold maxLen; omega))
  rw [show Gl.scale 22 14 308 0 0 22 14 = (2, 0) by decide] at HSC
  have HRE := Lib.hid (fun v w' (h : SlK w' v (M.map encT)) => read_any v M 22 14 0 0 22 14 2 w' h hML hval (by decide) (by decide) (by decide))
  have HML := Lib.hid hML
  clear hval HLX hML
  go_enter Tryz.func11, Tryz.ntmps11
  go_wp2_with fail
  refine (HD.out _).mono ?_
  rintro e w1 ⟨b, rfl, hsl, hx1⟩
  have HS1 := Lib.hid (hsl.ext ((Ext.refl w1).alloc (.cells #[.int .i64 22, .int .i64 14, .slice (some ⟨b, 0, none⟩) 308 308] 24)))
  have HM1 := Lib.hid (heap_alloc_new w1 (.cells #[.int .i64 22, .int .i64 14, .slice (some ⟨b, 0, none⟩) 308 308] 24))
  have HX1 : Hid (Ext w (w1.alloc (.cells #[.int .i64 22, .int .i64 14, .slice (some ⟨b, 0, none⟩) 308 308] 24))) := Lib.hid (hx1.alloc _)
  clear hsl hx1 HD
  go_wp2_with fail
  refine (HLN.out _ _ HS1.out).mono ?_
  rintro e w2 ⟨vl, rfl, hownl, hx2⟩
  obtain ⟨bm, hbm⟩ : ∃ bm, w1.heap.size = bm := ⟨_, rfl⟩
  rw [hbm] at HM1 ⊢
  have hcl := hownl.sl encX_len
  rcases hownl.form with ⟨h0, _⟩ | ⟨gl, cl, rfl, _, hgl⟩
  · cases h0
  have HBX : Hid (∀ w', Ext w2 w' → w'.cell? ⟨gl, 0, none⟩ = some (.int .i64 0) ∧ w'.cell? ⟨gl, 1, none⟩ = some (.int .i64 0) ∧ w'.cell? ⟨gl, 2, none⟩ = some (.int .i64 22) ∧ w'.cell? ⟨gl, 3, none⟩ = some (.int .i64 14)) := Lib.hid (fun w' hx => by
    obtain ⟨b', o', he, hb, hc⟩ := hcl.at_ (i := 0) (x := (0, 0, 22, 14)) rfl
    simp only [Option.some.injEq, Addr.mk.injEq, and_true] at he
    obtain ⟨rfl, rfl⟩ := he
    have h0 := hc 0 (by omega)
    have h1 := hc 1 (by omega)
    have h2 := hc 2 (by omega)
    have h3 := hc 3 (by omega)
    rw [← hx.cell (p := ⟨gl, _, none⟩) hgl] at h0 h1 h2 h3
    exact ⟨h0, h1, h2, h3⟩)
  have HM2 := Lib.hid (row_on HM1.out hx2)
  have HS2 := Lib.hid (HS1.out.ext hx2)
  have HX2 := Lib.hid (HX1.out.trans hx2)
  obtain ⟨x0, x1, x2, x3⟩ := HBX.out w2 (Ext.refl _)
  clear hbm hcl hownl hgl hx2 HM1 HS1 HX1
  go_wp2
  have HM := HM2
  have HS := HS2
  clear x0 x1 x2 x3
  refine wp_region_rel 9 1 rfl [43, 44, 45, 46, 47, 42, 48, 49, 5] [[], [], [1], [2], [0, 3], [4], [5], [5], [6]] (by kernel_rfl) (by kernel_rfl) ?_
  refine relPlan_by (eqv (.agg #[.int .i64 22, .int .i64 14, .slice (some ⟨b, 0, none⟩) 308 308])) (eqv_stable _) ?_ ?_
  · intro V w' hx hf
    with_reducible refine relAt_ops ?_
    intro A ρ hA hρ hcst hfun
    have h1 : ρ (.tmp 1) = .pointer (some ⟨bm, 0, none⟩) := (congrFun hρ _).trans (evalMiss hA 1 rfl)
    have HMw := row_on HM.out hx
    have q0 := cell_at HMw (i := 0) rfl
    have q1 := cell_at HMw (i := 1) rfl
    have q2 := cell_at HMw (i := 2) rfl
    simp [relUpon, go_sem, Ext.refl, h1, q0,q1,q2]
    try rfl
  apply relPlan_eq'
  · intro V w' hx hf
    with_reducible refine relAt_ops ?_
    intro A ρ hA hρ hcst hfun
    have h3 : ρ (.tmp 3) = .slice (some ⟨gl, 0, none⟩) 1 cl := (congrFun hρ _).trans (evalMiss hA 3 rfl)
    exact relUpon_move (hk := by rw [h3]; exact ⟨Ext.refl _, rfl⟩)
  apply relPlan_eq'
  · intro V w' hx hf
    with_reducible refine relAt_ops ?_
    intro A ρ hA hρ hcst hfun
    obtain ⟨f44, _⟩ := hf
    have h44 : ρ (.tmp 44) = _ := (congrFun hρ _).trans ((evalHit hA 44 rfl).trans f44)
    simp [relUpon, go_sem, hcst, Ext.refl, h44]
    rfl
  refine relPlan_by (eqv (.agg #[.int .i64 0, .int .i64 0, .int .i64 22, .int .i64 14])) (eqv_stable _) ?_ ?_
  · intro V w' hx hf
    with_reducible refine relAt_ops ?_
    intro A ρ hA hρ hcst hfun
    obtain ⟨f45, _⟩ := hf
    have h45 : ρ (.tmp 45) = _ := (congrFun hρ _).trans ((evalHit hA 45 rfl).trans f45)
    obtain ⟨q0, q1, q2, q3⟩ := HBX.out w' hx
    simp [relUpon, go_sem, Ext.refl, h45, q0,q1,q2,q3]
    try rfl
  refine relPlan_by (eqv (.tuple #[.int .i64 2, .int .i64 0])) (eqv_stable _) ?_ ?_
  · intro V w' hx hf
    with_reducible refine relAt_ops ?_
    intro A ρ hA hρ hcst hfun
    obtain ⟨f43, f46, _⟩ := hf
    have h43 : ρ (.tmp 43) = _ := (congrFun hρ _).trans ((evalHit hA 43 rfl).trans f43)
    have h46 : ρ (.tmp 46) = _ := (congrFun hρ _).trans ((evalHit hA 46 rfl).trans f46)
    simp [relUpon, go_sem, hfun, h43, h46]
    exact (HSC.out b w').mono fun e w'' ⟨he, hy⟩ => ⟨_, he, hy, rfl⟩
  apply relPlan_eq'
  · intro V w' hx hf
    with_reducible refine relAt_ops ?_
    intro A ρ hA hρ hcst hfun
    obtain ⟨f47, _⟩ := hf
    have h47 : ρ (.tmp 47) = _ := (congrFun hρ _).trans ((evalHit hA 47 rfl).trans f47)
    exact relUpon_move (hk := by rw [h47]; exact ⟨Ext.refl _, rfl⟩)
  apply relPlan_eq'
  · intro V w' hx hf
    with_reducible refine relAt_ops ?_
    intro A ρ hA hρ hcst hfun
    obtain ⟨f42, _⟩ := hf
    have h42 : ρ (.tmp 42) = _ := (congrFun hρ _).trans ((evalHit hA 42 rfl).trans f42)
    simp [relUpon, go_sem, Ext.refl, h42]
    rfl
  apply relPlan_eq'
  · intro V w' hx hf
    with_reducible refine relAt_ops ?_
    intro A ρ hA hρ hcst hfun
    obtain ⟨f42, _⟩ := hf
    have h42 : ρ (.tmp 42) = _ := (congrFun hρ _).trans ((evalHit hA 42 rfl).trans f42)
    simp [relUpon, go_sem, Ext.refl, h42]
    rfl
  apply relPlan_eq'
  · intro V w' hx hf
    with_reducible refine relAt_ops ?_
    intro A ρ hA hρ hcst hfun
    obtain ⟨f48, _⟩ := hf
    have h48 : ρ (.tmp 48) = _ := (congrFun hρ _).trans ((evalHit hA 48 rfl).trans f48)
    exact relUpon_move (hk := by rw [h48]; exact ⟨Ext.refl _, rfl⟩)
  intro V wT hxT hf
  obtain ⟨g43, g44, g45, g46, g47, g42, g48, g49, g5, _⟩ := hf
  refine wpAny_tail1 9 49 6 _ (by kernel_rfl) rfl rfl (.inr rfl) (by kernel_rfl) rfl rfl ?_
  have q48 : V 5 = .int .i64 2 := g5
  have q49 : V 49 = .int .i64 0 := g49
  have q42 : V 42 = .tuple #[.int .i64 2, .int .i64 0] := g42
  simp only [fillA, List.foldl_cons, List.foldl_nil, Act.put, List.setIfInBounds_toArray, List.set_cons_succ, List.set_cons_zero]
  rw [q48, q49]
  go_wp2
  obtain ⟨w3, hw3⟩ : ∃ w3, w3 = wT := ⟨_, rfl⟩
  subst hw3
  have HM := Lib.hid (row_on HM2.out hxT)
  have HS := Lib.hid (HS2.out.ext hxT)
  have HBX := Lib.hid (fun w' (h : Ext w3 w') => HBX.out w' (hxT.trans h))
  have HX3 := Lib.hid (HX2.out.trans hxT)
  have HCF := Lib.hid (confus_any 79 (by decide) 5 (by decide))
  have HGL := Lib.hid (xglyph_any 79 (by decide))
  have HMA := Lib.hid match_any
  have HHA := Lib.hid has_any
  clear q48 q49 q42 g43 g44 g45 g46 g47 g42 g48 g49 g5 hxT HM2 HS2 HX2 HLN HSC HML
  refine wp_region_relL 9 2 7 rfl [51, 52, 53, 54, 55, 50, 56, 57, 7] [[], [], [1], [2], [0, 3], [4], [5], [5], []] (by kernel_rfl) (by kernel_rfl) ?_
  refine relPlan_by (eqv (.agg #[.int .i64 22, .int .i64 14, .slice (some ⟨b, 0, none⟩) 308 308])) (eqv_stable _) ?_ ?_
  · intro V w' hx hf
    with_reducible refine relAt_ops ?_
    intro A ρ hA hρ hcst hfun
    have h1 : ρ (.tmp 1) = .pointer (some ⟨bm, 0, none⟩) := (congrFun hρ _).trans (evalMiss hA 1 rfl)
    have HMw := row_on HM.out hx
    have q0 := cell_at HMw (i := 0) rfl
    have q1 := cell_at HMw (i := 1) rfl
    have q2 := cell_at HMw (i := 2) rfl
    simp [relUpon, go_sem, Ext.refl, h1, q0,q1,q2]
    try rfl
  apply relPlan_eq'
  · intro V w' hx hf
    with_reducible refine relAt_ops ?_
    intro A ρ hA hρ hcst hfun
    have h3 : ρ (.tmp 3) = .slice (some ⟨gl, 0, none⟩) 1 cl := (congrFun hρ _).trans (evalMiss hA 3 rfl)
    exact relUpon_move (hk := by rw [h3]; exact ⟨Ext.refl _, rfl⟩)
  apply relPlan_eq'
  · intro V w' hx hf
    with_reducible refine relAt_ops ?_
    intro A ρ hA hρ hcst hfun
    obtain ⟨f52, _⟩ := hf
    have h52 : ρ (.tmp 52) = _ := (congrFun hρ _).trans ((evalHit hA 52 rfl).trans f52)
    simp [relUpon, go_sem, hcst, Ext.refl, h52]
    rfl
  refine relPlan_by (eqv (.agg #[.int .i64 0, .int .i64 0, .int .i64 22, .int .i64 14])) (eqv_stable _) ?_ ?_
  · intro V w' hx hf
    with_reducible refine relAt_ops ?_
    intro A ρ hA hρ hcst hfun
    obtain ⟨f53, _⟩ := hf
    have h53 : ρ (.tmp 53) = _ := (congrFun hρ _).trans ((evalHit hA 53 rfl).trans f53)
    obtain ⟨q0, q1, q2, q3⟩ := HBX.out w' hx
    simp [relUpon, go_sem, Ext.refl, h53, q0,q1,q2,q3]
    try rfl
  refine relPlan_by (rdV) (fun _ _ _ h _ => h) ?_ ?_
  · intro V w' hx hf
    with_reducible refine relAt_ops ?_
    intro A ρ hA hρ hcst hfun
    obtain ⟨f51, f54, _⟩ := hf
    have h51 : ρ (.tmp 51) = _ := (congrFun hρ _).trans ((evalHit hA 51 rfl).trans f51)
    have h54 : ρ (.tmp 54) = _ := (congrFun hρ _).trans ((evalHit hA 54 rfl).trans f54)
    simp [relUpon, go_sem, hcst, hfun, h51, h54]
    refine (HRE.out _ w' (HS.out.ext hx)).mono fun e w'' h => ?_
    obtain ⟨vg, he, _, hy⟩ := id h
    exact ⟨_, he, hy, rdV_of HRD.out (he ▸ h)⟩
  refine relPlan_by (rdV) (fun _ _ _ h _ => h) ?_ ?_
  · intro V w' hx hf
    with_reducible refine relAt_ops ?_
    intro A ρ hA hρ hcst hfun
    obtain ⟨f55, _⟩ := hf
    have h55 : ρ (.tmp 55) = V 55 := (congrFun hρ _).trans (evalHit hA 55 rfl)
    exact relUpon_move (hk := by rw [h55]; exact ⟨Ext.refl _, f55⟩)
  refine relPlan_by (lnV) (fun _ _ _ h _ => h) ?_ ?_
  · intro V w' hx hf
    with_reducible refine relAt_ops ?_
    intro A ρ hA hρ hcst hfun
    obtain ⟨f50, _⟩ := hf
    have h50 : ρ (.tmp 50) = V 50 := (congrFun hρ _).trans (evalHit hA 50 rfl)
    obtain ⟨a9, c9, e9⟩ := f50
    have e9 : V 50 = _ := e9
    rw [e9] at h50
    simp [relUpon, go_sem, h50]
    exact ⟨Ext.refl _, a9, c9, rfl⟩
  refine relPlan_by (eqv (.int .i64 0)) (eqv_stable _) ?_ ?_
  · intro V w' hx hf
    with_reducible refine relAt_ops ?_
    intro A ρ hA hρ hcst hfun
    obtain ⟨f50, _⟩ := hf
    have h50 : ρ (.tmp 50) = V 50 := (congrFun hρ _).trans (evalHit hA 50 rfl)
    obtain ⟨a9, c9, e9⟩ := f50
    have e9 : V 50 = _ := e9
    rw [e9] at h50
    simp [relUpon, go_sem, h50]
    exact ⟨Ext.refl _, rfl⟩
  refine relPlan_by (newLn w3.heap.size) (newLn_stable _) ?_ ?_
  · intro V w' hx hf
    with_reducible refine relAt_ops ?_
    intro A ρ hA hρ hcst hfun
    simp [relUpon, go_sem]
    exact ⟨(Ext.refl _).alloc _, _, rfl, hx.size, heap_alloc_new _ _⟩
  refine ⟨?_, ?_⟩
  · intro V wT hxT hf
    obtain ⟨g51, g52, g53, g54, g55, g50, g56, g57, g7, _⟩ := hf
    obtain ⟨bt, e7, hbt, hct⟩ := g7
    obtain ⟨a5, c5, e50⟩ := g50
    obtain ⟨a6, c6, e56⟩ := g56
    have e50 : V 50 = _ := e50
    have e56 : V 56 = _ := e56
    have q57 : V 57 = .int .i64 0 := g57
    simp only [fillA, List.foldl_cons, List.foldl_nil, Act.put, List.setIfInBounds_toArray, List.set_cons_succ, List.set_cons_zero]
    have e7 : V 7 = _ := e7
    rw [e7, e50, e56, q57]
    have c0' := cell_at hct (i := 0) rfl
    have c1' := cell_at hct (i := 1) rfl
    have c2' := cell_at hct (i := 2) rfl
    have c3' := cell_at hct (i := 3) rfl
    have c4' := cell_at hct (i := 4) rfl
    have c5' := cell_at hct (i := 5) rfl
    have f0 := frz_at (i := 0) hct
    have f1 := frz_at (i := 1) hct
    have f2 := frz_at (i := 2) hct
    have f3 := frz_at (i := 3) hct
    have f4 := frz_at (i := 4) hct
    have f5 := frz_at (i := 5) hct
    clear g51 g52 g53 g54 g55 e50 e56 e7 g57 q57
    refine wpAny_one 9 (by kernel_rfl) rfl (fun K hK => ?_)
    go_simp
    refine hK _ _ ?_
    clear hK K
    refine wpAny_one 10 (by kernel_rfl) rfl (fun K hK => ?_)
    go_simp
    refine hK _ _ ?_
    clear hK K
    refine wpAny_done (by kernel_rfl) ?_ 0
    have HC := Lib.hid (row6_set (p0 := .int .i64 0) (p1 := .int .i64 0) (p2 := .int .i64 22) (p3 := .int .i64 14) (p4 := .string ⟨#[65, 49]⟩) (p5 := .slice a6 2 c6) hct)
    have HX := Lib.hid ((HX3.out.trans hxT).set6 (b := bt) (Nat.le_trans HX3.out.size hbt) (.int .i64 0) (.int .i64 0) (.int .i64 22) (.int .i64 14) (.string ⟨#[65, 49]⟩) (.slice a6 2 c6))
    generalize (((((wT.setCell ⟨bt, 0, none⟩ (.int .i64 0)).setCell ⟨bt, 1, none⟩ (.int .i64 0)).setCell ⟨bt, 2, none⟩ (.int .i64 22)).setCell ⟨bt, 3, none⟩ (.int .i64 14)).setCell ⟨bt, 4, none⟩ (.string ⟨#[65, 49]⟩)).setCell ⟨bt, 5, none⟩ (.slice a6 2 c6) = w4 at HC HX ⊢
    clear c0' c1' c2' c3' c4' c5' f0 f1 f2 f3 f4 f5 hct hxT HM HS HBX HX3 HRE HRD
    go_wp2_with fail
    refine (HCF.out _).mono ?_
    rintro e w5 ⟨v9, rfl, hown9, hx5⟩
    have HS9 := Lib.hid hown9.sl
    have HX5 := Lib.hid hx5
    clear hown9 hx5 HCF
    go_wp2_with fail
    have hr1 := row_on (heap_alloc_new w5 (.cells #[.int .u8 48, .int .i64 5] 67)) ((Ext.refl _).alloc (.cells #[.int .i64 0, .int .i64 0, .int .i64 0, .int .i64 0, .int .u8 79, .int .i64 0, .slice (some ⟨w5.heap.size, 0, none⟩) 1 1] 54))
    have hr2 := heap_alloc_new (w5.alloc (.cells #[.int .u8 48, .int .i64 5] 67)) (.cells #[.int .i64 0, .int .i64 0, .int .i64 0, .int .i64 0, .int .u8 79, .int .i64 0, .slice (some ⟨w5.heap.size, 0, none⟩) 1 1] 54)
    rw [World.size_alloc] at hr2
    refine (ex_resolve _ _ _ hr1 hr2).mono ?_
    rintro e w6 ⟨rfl, hx6⟩
    have HX6 : Hid (Ext w5 w6) := Lib.hid ((((Ext.refl _).alloc _).alloc _).trans hx6)
    clear hr1 hr2 hx6
    go_wp2_with fail
    refine (HGL.out _).mono ?_
    rintro e w7 ⟨v15, rfl, hown15, hx7⟩
    have HO15 := Lib.hid hown15.slk
    obtain ⟨gg, cg, rfl, _, _, _⟩ := hown15.pix
    have HX7 := Lib.hid (HX6.out.trans hx7)
    clear hown15 hx7 HX6 HGL
    go_wp2_with fail
    refine (HMA.out (.slice (some ⟨gg, 0, none⟩) 35 cg) (Gl.pix 79) _ (HO15.out.ext ((Ext.refl _).alloc _)) (Gl.pix_len 79)).mono ?_
    rintro e w8 ⟨g17, c17, rfl, hc17, _, hlt17, hk17, hx8⟩
    have HX8 : Hid (Ext w5 w8) := Lib.hid (HX7.out.trans (((Ext.refl _).alloc _).trans hx8))
    have HX48 := Lib.hid (HX5.out.trans HX8.out)
    have HC8 := row_on HC.out HX48.out
    have k4 := cell_at HC8 (i := 4) rfl
    have k5 := cell_at HC8 (i := 5) rfl
    obtain ⟨l17, hl17⟩ : ∃ l, Gl.ranked (Gl.pix 79) = (79, 0) :: l := Gl.ranked_pix 79 (by decide)
    rw [hl17] at hk17
    obtain ⟨b', o', he, _, hz⟩ := hk17.at_ (i := 0) (x := (79, 0)) rfl
    simp only [Option.some.injEq, Addr.mk.injEq, and_true] at he
    obtain ⟨rfl, rfl⟩ := he
    have z0 : w8.cell? ⟨g17, 0, none⟩ = some (.int .u8 79) := hz 0 (by omega)
    have z1 : w8.cell? ⟨g17, 1, none⟩ = some (.int .i64 0) := hz 1 (by omega)
    have HS8 := Lib.hid (HS9.out.ext HX8.out)
    have HXF := Lib.hid (HX.out.trans HX48.out)
    clear HC8 hz hk17 hl17 hx8 HX7 HO15 HC HX HX5 HX8 HX48 HS9 hc17 hlt17
    have HH := Lib.hid (fun x => HHA.out v9 (Gl.near 79 5) x w8 HS8.out (Nat.le_trans (List.length_filter_le ..) (by decide)))
    have H48 : Hid (Calls Tryz.prog 30 #[v9, .int .u8 48] w8 fun e w' => e = .returned (.bool true) ∧ w8 = w') := Lib.hid (by have := HH.out 48; rw [Gl.ex_near.1] at this; exact this)
    have H71 : Hid (Calls Tryz.prog 30 #[v9, .int .u8 71] w8 fun e w' => e = .returned (.bool true) ∧ w8 = w') := Lib.hid (by have := HH.out 71; rw [Gl.ex_near.2.1] at this; exact this)
    have H81 : Hid (Calls Tryz.prog 30 #[v9, .int .u8 81] w8 fun e w' => e = .returned (.bool true) ∧ w8 = w') := Lib.hid (by have := HH.out 81; rw [Gl.ex_near.2.2.1] at this; exact this)
    have H85 : Hid (Calls Tryz.prog 30 #[v9, .int .u8 85] w8 fun e w' => e = .returned (.bool true) ∧ w8 = w') := Lib.hid (by have := HH.out 85; rw [Gl.ex_near.2.2.2.1] at this; exact this)
    have H68 : Hid (Calls Tryz.prog 30 #[v9, .int .u8 68] w8 fun e w' => e = .returned (.bool false) ∧ w8 = w') := Lib.hid (by have := HH.out 68; rw [Gl.ex_near.2.2.2.2.1] at this; exact this)
    have H79 : Hid (Calls Tryz.prog 30 #[v9, .int .u8 79] w8 fun e w' => e = .returned (.bool false) ∧ w8 = w') := Lib.hid (by have := HH.out 79; rw [Gl.ex_near.2.2.2.2.2] at this; exact this)
    clear HH HHA HS8 HMA
    go_wp2_with fail
    refine H48.out.mono ?_
    rintro e wx ⟨rfl, rfl⟩
    go_wp2_with fail
    refine H71.out.mono ?_
    rintro e wx ⟨rfl, rfl⟩
    go_wp2_with fail
    refine H81.out.mono ?_
    rintro e wx ⟨rfl, rfl⟩
    go_wp2_with fail
    refine H85.out.mono ?_
    rintro e wx ⟨rfl, rfl⟩
    go_wp2_with fail
    refine H68.out.mono ?_
    rintro e wx ⟨rfl, rfl⟩
    go_wp2_with fail
    refine H79.out.mono ?_
    rintro e wx ⟨rfl, rfl⟩
    go_wp2
    go_ret
    exact ⟨rfl, HXF.out⟩
  · intro V wT hxT hf
    obtain ⟨g51, g52, g53, g54, g55, g50, g56, g7, _⟩ := hf
    obtain ⟨bt, e7, hbt, hct⟩ := g7
    obtain ⟨a5, c5, e50⟩ := g50
    obtain ⟨a6, c6, e56⟩ := g56
    have e50 : V 50 = _ := e50
    have e56 : V 56 = _ := e56
    simp only [fillA, List.foldl_cons, List.foldl_nil, Act.put, List.setIfInBounds_toArray, List.set_cons_succ, List.set_cons_zero]
    have e7 : V 7 = _ := e7
    rw [e7, e50, e56]
    have c0' := cell_at hct (i := 0) rfl
    have c1' := cell_at hct (i := 1) rfl
    have c2' := cell_at hct (i := 2) rfl
    have c3' := cell_at hct (i := 3) rfl
    have c4' := cell_at hct (i := 4) rfl
    have c5' := cell_at hct (i := 5) rfl
    have f0 := frz_at (i := 0) hct
    have f1 := frz_at (i := 1) hct
    have f2 := frz_at (i := 2) hct
    have f3 := frz_at (i := 3) hct
    have f4 := frz_at (i := 4) hct
    have f5 := frz_at (i := 5) hct
    clear g51 g52 g53 g54 g55 e50 e56 e7
    refine wpAny_ready (rs := [7, 9]) (by kernel_rfl) (by simp) (AllReady.cons rfl ?_ (AllReady.cons rfl ?_ AllReady.nil))
    · intro K hK
      go_simp
      refine hK _ _ ?_
      clear hK K
      refine wpAny_one 9 (by kernel_rfl) rfl (fun K hK => ?_)
      go_simp
      refine hK _ _ ?_
      clear hK K
      refine wpAny_one 10 (by kernel_rfl) rfl (fun K hK => ?_)
      go_simp
      refine hK _ _ ?_
      clear hK K
      refine wpAny_done (by kernel_rfl) ?_ 0
      have HC := Lib.hid (row6_set (p0 := .int .i64 0) (p1 := .int .i64 0) (p2 := .int .i64 22) (p3 := .int .i64 14) (p4 := .string ⟨#[65, 49]⟩) (p5 := .slice a6 2 c6) hct)
      have HX := Lib.hid ((HX3.out.trans hxT).set6 (b := bt) (Nat.le_trans HX3.out.size hbt) (.int .i64 0) (.int .i64 0) (.int .i64 22) (.int .i64 14) (.string ⟨#[65, 49]⟩) (.slice a6 2 c6))
      generalize (((((wT.setCell ⟨bt, 0, none⟩ (.int .i64 0)).setCell ⟨bt, 1, none⟩ (.int .i64 0)).setCell ⟨bt, 2, none⟩ (.int .i64 22)).setCell ⟨bt, 3, none⟩ (.int .i64 14)).setCell ⟨bt, 4, none⟩ (.string ⟨#[65, 49]⟩)).setCell ⟨bt, 5, none⟩ (.slice a6 2 c6) = w4 at HC HX ⊢
      clear c0' c1' c2' c3' c4' c5' f0 f1 f2 f3 f4 f5 hct hxT HM HS HBX HX3 HRE HRD
      go_wp2_with fail
      refine (HCF.out _).mono ?_
      rintro e w5 ⟨v9, rfl, hown9, hx5⟩
      have HS9 := Lib.hid hown9.sl
      have HX5 := Lib.hid hx5
      clear hown9 hx5 HCF
      go_wp2_with fail
      have hr1 := row_on (heap_alloc_new w5 (.cells #[.int .u8 48, .int .i64 5] 67)) ((Ext.refl _).alloc (.cells #[.int .i64 0, .int .i64 0, .int .i64 0, .int .i64 0, .int .u8 79, .int .i64 0, .slice (some ⟨w5.heap.size, 0, none⟩) 1 1] 54))
      have hr2 := heap_alloc_new (w5.alloc (.cells #[.int .u8 48, .int .i64 5] 67)) (.cells #[.int .i64 0, .int .i64 0, .int .i64 0, .int .i64 0, .int .u8 79, .int .i64 0, .slice (some ⟨w5.heap.size, 0, none⟩) 1 1] 54)
      rw [World.size_alloc] at hr2
      refine (ex_resolve _ _ _ hr1 hr2).mono ?_
      rintro e w6 ⟨rfl, hx6⟩
      have HX6 : Hid (Ext w5 w6) := Lib.hid ((((Ext.refl _).alloc _).alloc _).trans hx6)
      clear hr1 hr2 hx6
      go_wp2_with fail
      refine (HGL.out _).mono ?_
      rintro e w7 ⟨v15, rfl, hown15, hx7⟩
      have HO15 := Lib.hid hown15.slk
      obtain ⟨gg, cg, rfl, _, _, _⟩ := hown15.pix
      have HX7 := Lib.hid (HX6.out.trans hx7)
      clear hown15 hx7 HX6 HGL
      go_wp2_with fail
      refine (HMA.out (.slice (some ⟨gg, 0, none⟩) 35 cg) (Gl.pix 79) _ (HO15.out.ext ((Ext.refl _).alloc _)) (Gl.pix_len 79)).mono ?_
      rintro e w8 ⟨g17, c17, rfl, hc17, _, hlt17, hk17, hx8⟩
      have HX8 : Hid (Ext w5 w8) := Lib.hid (HX7.out.trans (((Ext.refl _).alloc _).trans hx8))
      have HX48 := Lib.hid (HX5.out.trans HX8.out)
      have HC8 := row_on HC.out HX48.out
      have k4 := cell_at HC8 (i := 4) rfl
      have k5 := cell_at HC8 (i := 5) rfl
      obtain ⟨l17, hl17⟩ : ∃ l, Gl.ranked (Gl.pix 79) = (79, 0) :: l := Gl.ranked_pix 79 (by decide)
      rw [hl17] at hk17
      obtain ⟨b', o', he, _, hz⟩ := hk17.at_ (i := 0) (x := (79, 0)) rfl
      simp only [Option.some.injEq, Addr.mk.injEq, and_true] at he
      obtain ⟨rfl, rfl⟩ := he
      have z0 : w8.cell? ⟨g17, 0, none⟩ = some (.int .u8 79) := hz 0 (by omega)
      have z1 : w8.cell? ⟨g17, 1, none⟩ = some (.int .i64 0) := hz 1 (by omega)
      have HS8 := Lib.hid (HS9.out.ext HX8.out)
      have HXF := Lib.hid (HX.out.trans HX48.out)
      clear HC8 hz hk17 hl17 hx8 HX7 HO15 HC HX HX5 HX8 HX48 HS9 hc17 hlt17
      have HH := Lib.hid (fun x => HHA.out v9 (Gl.near 79 5) x w8 HS8.out (Nat.le_trans (List.length_filter_le ..) (by decide)))
      have H48 : Hid (Calls Tryz.prog 30 #[v9, .int .u8 48] w8 fun e w' => e = .returned (.bool true) ∧ w8 = w') := Lib.hid (by have := HH.out 48; rw [Gl.ex_near.1] at this; exact this)
      have H71 : Hid (Calls Tryz.prog 30 #[v9, .int .u8 71] w8 fun e w' => e = .returned (.bool true) ∧ w8 = w') := Lib.hid (by have := HH.out 71; rw [Gl.ex_near.2.1] at this; exact this)
      have H81 : Hid (Calls Tryz.prog 30 #[v9, .int .u8 81] w8 fun e w' => e = .returned (.bool true) ∧ w8 = w') := Lib.hid (by have := HH.out 81; rw [Gl.ex_near.2.2.1] at this; exact this)
      have H85 : Hid (Calls Tryz.prog 30 #[v9, .int .u8 85] w8 fun e w' => e = .returned (.bool true) ∧ w8 = w') := Lib.hid (by have := HH.out 85; rw [Gl.ex_near.2.2.2.1] at this; exact this)
      have H68 : Hid (Calls Tryz.prog 30 #[v9, .int .u8 68] w8 fun e w' => e = .returned (.bool false) ∧ w8 = w') := Lib.hid (by have := HH.out 68; rw [Gl.ex_near.2.2.2.2.1] at this; exact this)
      have H79 : Hid (Calls Tryz.prog 30 #[v9, .int .u8 79] w8 fun e w' => e = .returned (.bool false) ∧ w8 = w') := Lib.hid (by have := HH.out 79; rw [Gl.ex_near.2.2.2.2.2] at this; exact this)
      clear HH HHA HS8 HMA
      go_wp2_with fail
      refine H48.out.mono ?_
      rintro e wx ⟨rfl, rfl⟩
      go_wp2_with fail
      refine H71.out.mono ?_
      rintro e wx ⟨rfl, rfl⟩
      go_wp2_with fail
      refine H81.out.mono ?_
      rintro e wx ⟨rfl, rfl⟩
      go_wp2_with fail
      refine H85.out.mono ?_
      rintro e wx ⟨rfl, rfl⟩
      go_wp2_with fail
      refine H68.out.mono ?_
      rintro e wx ⟨rfl, rfl⟩
      go_wp2_with fail
      refine H79.out.mono ?_
      rintro e wx ⟨rfl, rfl⟩
      go_wp2
      go_ret
      exact ⟨rfl, HXF.out⟩
    · intro K hK
      go_simp
      refine hK _ _ ?_
      clear hK K
      refine wpAny_one 7 (by kernel_rfl) rfl (fun K hK => ?_)
      go_simp
      refine hK _ _ ?_
      clear hK K
      refine wpAny_one 10 (by kernel_rfl) rfl (fun K hK => ?_)
      go_simp
      refine hK _ _ ?_
      clear hK K
      refine wpAny_done (by kernel_rfl) ?_ 0
      have HC := Lib.hid (row6_set (p0 := .int .i64 0) (p1 := .int .i64 0) (p2 := .int .i64 22) (p3 := .int .i64 14) (p4 := .string ⟨#[65, 49]⟩) (p5 := .slice a6 2 c6) hct)
      have HX := Lib.hid ((HX3.out.trans hxT).set6 (b := bt) (Nat.le_trans HX3.out.size hbt) (.int .i64 0) (.int .i64 0) (.int .i64 22) (.int .i64 14) (.string ⟨#[65, 49]⟩) (.slice a6 2 c6))
      generalize (((((wT.setCell ⟨bt, 0, none⟩ (.int .i64 0)).setCell ⟨bt, 1, none⟩ (.int .i64 0)).setCell ⟨bt, 2, none⟩ (.int .i64 22)).setCell ⟨bt, 3, none⟩ (.int .i64 14)).setCell ⟨bt, 4, none⟩ (.string ⟨#[65, 49]⟩)).setCell ⟨bt, 5, none⟩ (.slice a6 2 c6) = w4 at HC HX ⊢
      clear c0' c1' c2' c3' c4' c5' f0 f1 f2 f3 f4 f5 hct hxT HM HS HBX HX3 HRE HRD
      go_wp2_with fail
      refine (HCF.out _).mono ?_
      rintro e w5 ⟨v9, rfl, hown9, hx5⟩
      have HS9 := Lib.hid hown9.sl
      have HX5 := Lib.hid hx5
      clear hown9 hx5 HCF
      go_wp2_with fail
      have hr1 := row_on (heap_alloc_new w5 (.cells #[.int .u8 48, .int .i64 5] 67)) ((Ext.refl _).alloc (.cells #[.int .i64 0, .int .i64 0, .int .i64 0, .int .i64 0, .int .u8 79, .int .i64 0, .slice (some ⟨w5.heap.size, 0, none⟩) 1 1] 54))
      have hr2 := heap_alloc_new (w5.alloc (.cells #[.int .u8 48, .int .i64 5] 67)) (.cells #[.int .i64 0, .int .i64 0, .int .i64 0, .int .i64 0, .int .u8 79, .int .i64 0, .slice (some ⟨w5.heap.size, 0, none⟩) 1 1] 54)
      rw [World.size_alloc] at hr2
      refine (ex_resolve _ _ _ hr1 hr2).mono ?_
      rintro e w6 ⟨rfl, hx6⟩
      have HX6 : Hid (Ext w5 w6) := Lib.hid ((((Ext.refl _).alloc _).alloc _).trans hx6)
      clear hr1 hr2 hx6
      go_wp2_with fail
      refine (HGL.out _).mono ?_
      rintro e w7 ⟨v15, rfl, hown15, hx7⟩
      have HO15 := Lib.hid hown15.slk
      obtain ⟨gg, cg, rfl, _, _, _⟩ := hown15.pix
      have HX7 := Lib.hid (HX6.out.trans hx7)
      clear hown15 hx7 HX6 HGL
      go_wp2_with fail
      refine (HMA.out (.slice (some ⟨gg, 0, none⟩) 35 cg) (Gl.pix 79) _ (HO15.out.ext ((Ext.refl _).alloc _)) (Gl.pix_len 79)).mono ?_
      rintro e w8 ⟨g17, c17, rfl, hc17, _, hlt17, hk17, hx8⟩
      have HX8 : Hid (Ext w5 w8) := Lib.hid (HX7.out.trans (((Ext.refl _).alloc _).trans hx8))
      have HX48 := Lib.hid (HX5.out.trans HX8.out)
      have HC8 := row_on HC.out HX48.out
      have k4 := cell_at HC8 (i := 4) rfl
      have k5 := cell_at HC8 (i := 5) rfl
      obtain ⟨l17, hl17⟩ : ∃ l, Gl.ranked (Gl.pix 79) = (79, 0) :: l := Gl.ranked_pix 79 (by decide)
      rw [hl17] at hk17
      obtain ⟨b', o', he, _, hz⟩ := hk17.at_ (i := 0) (x := (79, 0)) rfl
      simp only [Option.some.injEq, Addr.mk.injEq, and_true] at he
      obtain ⟨rfl, rfl⟩ := he
      have z0 : w8.cell? ⟨g17, 0, none⟩ = some (.int .u8 79) := hz 0 (by omega)
      have z1 : w8.cell? ⟨g17, 1, none⟩ = some (.int .i64 0) := hz 1 (by omega)
      have HS8 := Lib.hid (HS9.out.ext HX8.out)
      have HXF := Lib.hid (HX.out.trans HX48.out)
      clear HC8 hz hk17 hl17 hx8 HX7 HO15 HC HX HX5 HX8 HX48 HS9 hc17 hlt17
      have HH := Lib.hid (fun x => HHA.out v9 (Gl.near 79 5) x w8 HS8.out (Nat.le_trans (List.length_filter_le ..) (by decide)))
      have H48 : Hid (Calls Tryz.prog 30 #[v9, .int .u8 48] w8 fun e w' => e = .returned (.bool true) ∧ w8 = w') := Lib.hid (by have := HH.out 48; rw [Gl.ex_near.1] at this; exact this)
      have H71 : Hid (Calls Tryz.prog 30 #[v9, .int .u8 71] w8 fun e w' => e = .returned (.bool true) ∧ w8 = w') := Lib.hid (by have := HH.out 71; rw [Gl.ex_near.2.1] at this; exact this)
      have H81 : Hid (Calls Tryz.prog 30 #[v9, .int .u8 81] w8 fun e w' => e = .returned (.bool true) ∧ w8 = w') := Lib.hid (by have := HH.out 81; rw [Gl.ex_near.2.2.1] at this; exact this)
      have H85 : Hid (Calls Tryz.prog 30 #[v9, .int .u8 85] w8 fun e w' => e = .returned (.bool true) ∧ w8 = w') := Lib.hid (by have := HH.out 85; rw [Gl.ex_near.2.2.2.1] at this; exact this)
      have H68 : Hid (Calls Tryz.prog 30 #[v9, .int .u8 68] w8 fun e w' => e = .returned (.bool false) ∧ w8 = w') := Lib.hid (by have := HH.out 68; rw [Gl.ex_near.2.2.2.2.1] at this; exact this)
      have H79 : Hid (Calls Tryz.prog 30 #[v9, .int .u8 79] w8 fun e w' => e = .returned (.bool false) ∧ w8 = w') := Lib.hid (by have := HH.out 79; rw [Gl.ex_near.2.2.2.2.2] at this; exact this)
      clear HH HHA HS8 HMA
      go_wp2_with fail
      refine H48.out.mono ?_
      rintro e wx ⟨rfl, rfl⟩
      go_wp2_with fail
      refine H71.out.mono ?_
      rintro e wx ⟨rfl, rfl⟩
      go_wp2_with fail
      refine H81.out.mono ?_
      rintro e wx ⟨rfl, rfl⟩
      go_wp2_with fail
      refine H85.out.mono ?_
      rintro e wx ⟨rfl, rfl⟩
      go_wp2_with fail
      refine H68.out.mono ?_
      rintro e wx ⟨rfl, rfl⟩
      go_wp2_with fail
      refine H79.out.mono ?_
      rintro e wx ⟨rfl, rfl⟩
      go_wp2
      go_ret
      exact ⟨rfl, HXF.out⟩
end Go.Proofs.YtamkgbodifjlaaaGreatDoor
