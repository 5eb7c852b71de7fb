/-
  Chapter 48, the program: Resolve.
  Condition: glyphs in range, a pattern of classes, a text that wins.
-/
import Derived.Test.YtamkgbodifjlaaaGreatDoorGlYc
import Derived.Test.YtamkgbodifjlaaaGreatDoorRelA
import Derived.BigRegion
namespace Go.Proofs.YtamkgbodifjlaaaGreatDoor
open Go.RowKit Go.Maps

theorem info_choices : (Tryz.prog.info? 35).map (fun i => (i.zero, i.size, i.bytes)) = some (some (.slice none 0 0), 1, 24) := by kernel_rfl
/-- What choices hands back; that value in a slice of its own; a new cell for a partial text. -/
def chAt (bg : Nat) (L : List Gl.Ch) (v : Value) (w : World) : Prop := ∃ g cap, v = .slice (some ⟨g, 0, none⟩) L.length cap ∧ bg ≤ g ∧ Row2 w g L
theorem chAt_stable (bg : Nat) (L : List Gl.Ch) : Rel.Stable (chAt bg L) := fun _ _ _ ⟨g, cap, h1, h2, h3⟩ hx => ⟨g, cap, h1, h2, h3.ext hx⟩
def ch1At (bg : Nat) (L : List Gl.Ch) (v : Value) (w : World) : Prop := ∃ (g cap : Nat), oneAt encS ((some ⟨g, 0, none⟩, L.length, cap) : Sv) v w ∧ bg ≤ g ∧ Row2 w g L
theorem ch1At_stable (bg : Nat) (L : List Gl.Ch) : Rel.Stable (ch1At bg L) := fun _ _ _ ⟨g, cap, h1, h2, h3⟩ hx => ⟨g, cap, h1.ext hx, h2, h3.ext hx⟩
def newPt (bp : Nat) (v : Value) (w : World) : Prop := ∃ g, v = .pointer (some ⟨g, 0, none⟩) ∧ bp ≤ g ∧ w.heap[g]? = some (.cells #[.string ⟨#[]⟩, .int .i64 0] 96 (0, 0))
theorem newPt_stable (bp : Nat) : Rel.Stable (newPt bp) := fun _ _ _ ⟨g, h1, h2, h3⟩ hx => ⟨g, h1, h2, row_on h3 hx⟩
/-- A whole text with its cost, and the best of these. -/
def Gl.Cand (os : List (List Gl.Ch)) (check : Int) (n : Nat) (c : Gl.Pt) : Prop := ∃ q m, Gl.Good os n q ∧ (Gl.keyS check q.1 n).2 = true ∧ Gl.rest (os.drop n) (Gl.keyS check q.1 n).1 = some m ∧ c = (q.1 ++ (Gl.keyS check q.1 n).1, q.2 + m)
section
variable {os : List (List Gl.Ch)} {check : Int} {n : Nat} {T : Nat → Gl.Pt} {F c bt : Gl.Pt} {fd : Bool} {A A' : Prop}
theorem Gl.Ends.cand (h : Gl.Ends os check n T F) (hc : Gl.Cand os check n c) : c = F ∨ (Gl.bet F c = true ∧ Gl.bet c F = false) := by
  obtain ⟨q, m, h1, h2, h3, rfl⟩ := hc
  exact h.best q m h1 h2 h3
theorem Gl.Ends.won (h : Gl.Ends os check n T F) {q : Gl.Pt} {m : Int} (hq : q = T n) (hm : Gl.rest (os.drop n) (Gl.keyS check q.1 n).1 = some m) : (q.1 ++ (Gl.keyS check q.1 n).1, q.2 + m) = F := by
  obtain ⟨m', h1, h2⟩ := h.fin
  subst hq
  rw [h1] at hm
  rw [h2, Option.some.inj hm]
theorem Gl.Ends.lost (h : Gl.Ends os check n T F) {q : Gl.Pt} (hq : q = T n) (hm : Gl.rest (os.drop n) (Gl.keyS check q.1 n).1 = none) : False := by
  obtain ⟨m', h1, h2⟩ := h.fin
  subst hq
  rw [h1] at hm
  cases hm
theorem Gl.Ends.take (h : Gl.Ends os check n T F) (hA : A → fd = true ∧ bt = F) (hA' : A' → A ∨ c = F) (hc : Gl.Cand os check n c) (hb : fd = false ∨ Gl.bet c bt = true) : A' → true = true ∧ c = F := fun ha => by
  refine ⟨rfl, ?_⟩
  rcases hA' ha with h1 | h1
  · obtain ⟨h2, h3⟩ := hA h1
    rcases h.cand hc with h4 | ⟨_, h4⟩
    · exact h4
    · exfalso
      rcases hb with hb | hb
      · rw [hb] at h2; cases h2
      · rw [h3, h4] at hb; cases hb
  · exact h1
theorem Gl.Ends.stay (h : Gl.Ends os check n T F) (hA : A → fd = true ∧ bt = F) (hA' : A' → A ∨ c = F) (hc : Gl.Cand os check n bt) (hb : Gl.bet c bt = false) (hf : fd = true) : A' → fd = true ∧ bt = F := fun ha => by
  rcases hA' ha with h1 | h1
  · exact hA h1
  · refine ⟨hf, ?_⟩
    rcases h.cand hc with h4 | ⟨h4, _⟩
    · exact h4
    · exfalso
      rw [h1, h4] at hb; cases hb
end
set_option maxRecDepth 100000 in
set_option maxHeartbeats 8000000 in
theorem resolve0_any (check : Int) (gs : List Gv) (xss : List (List Gl.Ch)) (pat : List UInt8) (n : Nat) (T : Nat → Gl.Pt) (F : Gl.Pt) (v : Value) (w : World) (hck : check = 0) (hv : KSl 7 encV w v gs) (hr : AllR w gs xss) (h64 : gs.length ≤ 64) (hpl : pat.length = gs.length) (hpat : ∀ c ∈ pat, c = 100 ∨ c = 97 ∨ c = 120)
    (hn : n + 0 = gs.length) (hn0 : 0 < n) (HWI : Gl.Wins (Gl.optsOf gs xss pat) check n T) (HEN : Gl.Ends (Gl.optsOf gs xss pat) check n T F) (hcost : ∀ l ∈ Gl.optsOf gs xss pat, ∀ c ∈ l, 0 ≤ c.2 ∧ c.2 ≤ 35) (hmany : ∀ l ∈ Gl.optsOf gs xss pat, l.length ≤ 200000) :
    Calls Tryz.prog 26 #[v, .string (bS pat), .int .i64 check] w fun e w' => e = .returned (.tuple #[.string (bS F.1), .int .i64 F.2, .int .i64 0]) ∧ Ext w w' := by
  have h0 : 0 < gs.length := by omega
  obtain ⟨b, off, cap, rfl, hb, hcl⟩ := hv.some_ h0
  obtain ⟨N, hN⟩ : ∃ N, gs.length = N := ⟨_, rfl⟩
  have HTR := Lib.hid (trimP_any pat (by omega) (by omega) hpat)
  have HNG := Lib.hid (fun w' (h : Ext w w') => noneG_any _ gs xss w' (hv.ext h) (hr.ext h) h0 h64)
  have hopl := Gl.optsOf_len (pat := pat) hr.1 hpl
  have HOA : Hid (∀ (i : Nat) x xs k, gs[i]? = some x → xss[i]? = some xs → pat[i]? = some k → (Gl.optsOf gs xss pat)[i]? = some (Gl.chs (x.2.1 :: xs) k)) := Lib.hid (fun i x xs k h1 h2 h3 => Gl.optsOf_at h1 h2 h3)
  obtain ⟨os, hos⟩ : ∃ os, Gl.optsOf gs xss pat = os := ⟨_, rfl⟩
  rw [hos] at HWI HEN hcost hmany hopl HOA
  have HKZ : Hid (∀ t, (Gl.keyS check t n).2 = true → 0 = (Gl.keyS check t n).1.length) := Lib.hid (fun t h => by
    have := Gl.keyS_size h
    rw [if_pos hck] at this
    exact this)
  obtain ⟨sz, hsz⟩ : ∃ sz, 0 = sz := ⟨_, rfl⟩
  rw [hsz] at hn HKZ
  have hcb : (check != 0) = false := by simp [hck]
  clear hck
  have hsz0 : sz = 0 := hsz.symm
  have hpss : (bS pat).size = N := by rw [bS_size, hpl, hN]
  have HPA : Hid (∀ (i : Nat) k, pat[i]? = some k → ∃ h : i < (bS pat).size, (bS pat)[i] = k) := Lib.hid (fun i k h => by
    have hi := (List.getElem?_eq_some_iff.1 h).1
    refine ⟨by rw [bS_size]; exact hi, ?_⟩
    have := (List.getElem?_eq_some_iff.1 h).2
    rw [← this]; rfl)
  obtain ⟨ps, hps⟩ : ∃ ps, bS pat = ps := ⟨_, rfl⟩
  rw [hps] at hpss HTR HPA ⊢
  have HPL := Lib.hid hpl
  have HCL := Lib.hid hcl
  have HR := Lib.hid hr
  have HCO := Lib.hid hcost
  have HMA := Lib.hid hmany
  have HOL := Lib.hid hopl
  rw [hN] at hn h0 h64 HNG HOL ⊢
  have HN := Lib.hid hN
  have hN0 : ((N : Int) == 0) = false := by simp; omega
  have hpN : ((ps.size : Int) != (N : Int)) = false := by simp [hpss]
  have eN : (N : Int) - (sz : Int) = (n : Int) := by omega
  have HPSS := Lib.hid hpss
  have HBW := Lib.hid hb
  clear hv hr hpl hpat hos hN hps hcl hcost hmany hopl hsz hb hpss
  have eN0 : (N : Int) = (n : Int) := by omega
  have HE0 := Lib.hid (show n = N by omega)
  clear eN hsz0
  go_enter Tryz.func26, Tryz.ntmps26
  go_wp2_with fail
  refine (HTR.out _).mono ?_
  rintro e w1 ⟨rfl, hx1⟩
  have HX1 := Lib.hid hx1
  clear hx1
  go_wp2_with fail
  refine (HNG.out _ HX1.out).mono ?_
  rintro e w2 ⟨rfl, hx2⟩
  have HX2 := Lib.hid (HX1.out.trans hx2)
  clear hx2 HX1 HTR HNG
  go_wp2
  go_loopw [12, 60] (fun v12 v60 wr => ∃ (i : Nat) (vs : List Sv), i ≤ N ∧ v60 = .int .i64 (i : Int) ∧ Hid (KOwn 35 1 encS wr w2.heap.size v12 vs) ∧ vs.length = i ∧ Hid (FamO wr v12 vs os) ∧ Hid (Ext w2 wr)) (fun _ v60 _ => N - (intOf v60).toNat)
  case atStart => exact ⟨0, [], Nat.zero_le _, rfl, Lib.hid (KOwn.nil _ _ _ _ _), rfl, Lib.hid (fun j x l h => by simp at h), Lib.hid (Ext.refl _)⟩
  case round =>
    obtain ⟨i, vs, hi, rfl, HO, hvl, HF, HX⟩ := hrel
    by_cases hlt : i < N
    · obtain ⟨x, hx⟩ : ∃ x, gs[i]? = some x := ⟨_, List.getElem?_eq_getElem (by rw [HN.out]; exact hlt)⟩
      have HXA := Lib.hid (HX2.out.trans HX.out)
      obtain ⟨xs, hxs, hin⟩ := (HR.out.ext HXA.out).at_ hx
      obtain ⟨kc, hk⟩ : ∃ kc, pat[i]? = some kc := ⟨_, List.getElem?_eq_getElem (by rw [HPL.out, HN.out]; exact hlt)⟩
      obtain ⟨hips, hkc0⟩ := HPA.out i kc hk
      have hol := HOA.out i x xs kc hx hxs hk
      have hc := fun c (h : c < 7) => by
        have := HCL.out i x hx c h
        rw [← HXA.out.cell (p := ⟨b, off + i * 7 + c, none⟩) HBW.out] at this
        exact this
      obtain ⟨⟨b0, b1, b2, b3⟩, ⟨ga, gm⟩, gv⟩ := x
      have q0 : wr.cell? ⟨b, off + i * 7, none⟩ = some (.int .i64 b0) := hc 0 (by omega)
      have q1 : wr.cell? ⟨b, off + i * 7 + 1, none⟩ = some (.int .i64 b1) := hc 1 (by omega)
      have q2 : wr.cell? ⟨b, off + i * 7 + 2, none⟩ = some (.int .i64 b2) := hc 2 (by omega)
      have q3 : wr.cell? ⟨b, off + i * 7 + 3, none⟩ = some (.int .i64 b3) := hc 3 (by omega)
      have q4 : wr.cell? ⟨b, off + i * 7 + 4, none⟩ = some (.int .u8 (ga.toNat : Int)) := hc 4 (by omega)
      have q5 : wr.cell? ⟨b, off + i * 7 + 5, none⟩ = some (.int .i64 gm) := hc 5 (by omega)
      have q6 : wr.cell? ⟨b, off + i * 7 + 6, none⟩ = some gv := hc 6 (by omega)
      obtain ⟨va, vc, hgv⟩ := hin.1.form
      obtain ⟨nx, hnx⟩ : ∃ nx, xs.length = nx := ⟨_, rfl⟩
      rw [hnx] at hgv
      dsimp only at hol hgv
      subst hgv
      obtain ⟨L, hL⟩ : ∃ L, Gl.chs ((ga, gm) :: xs) kc = L := ⟨_, rfl⟩
      rw [hL] at hol
      have HOLI := Lib.hid hol
      have hkv := hin.1
      have hxsl := hin.2.1
      have HCH0 := Lib.hid (fun w' (h : Ext wr w') => choices_any b0 b1 b2 b3 ga kc gm (.slice va nx vc) xs w' (hkv.ext h) hxsl)
      rw [hL] at HCH0
      have hltI : (i : Int) < (N : Int) := by omega
      have hipsI : (i : Int) < (ps.size : Int) := by omega
      clear hx hxs hin hk hol hc hkv hxsl hL hnx
      go_wp2
      clear q0 q1 q2 q3 q4 q5 q6
      have HG0 := Lib.hid (heap_alloc_new wr (.cells #[.int .i64 b0, .int .i64 b1, .int .i64 b2, .int .i64 b3, .int .u8 (ga.toNat : Int), .int .i64 gm, .slice va nx vc] 54))
      have HXG : Hid (Ext wr (wr.alloc (.cells #[.int .i64 b0, .int .i64 b1, .int .i64 b2, .int .i64 b3, .int .u8 (ga.toNat : Int), .int .i64 gm, .slice va nx vc] 54))) := Lib.hid ((Ext.refl _).alloc _)
      generalize wr.alloc (.cells #[.int .i64 b0, .int .i64 b1, .int .i64 b2, .int .i64 b3, .int .u8 (ga.toNat : Int), .int .i64 gm, .slice va nx vc] 54) = w3 at HG0 HXG ⊢
      obtain ⟨bg, hbg⟩ : ∃ bg, wr.heap.size = bg := ⟨_, rfl⟩
      rw [hbg] at HG0 ⊢
      have HBG := Lib.hid hbg
      have HG : Hid (w3.heap[bg]? = some (.cells #[.int .i64 b0, .int .i64 b1, .int .i64 b2, .int .i64 b3, .int .u8 (ga.toNat : Int), .int .i64 gm, .slice va nx vc] 54 (0, 0))) := HG0
      have HCH : Hid (∀ w', Ext w3 w' → Calls Tryz.prog 56 #[.agg #[.int .i64 b0, .int .i64 b1, .int .i64 b2, .int .i64 b3, .int .u8 (ga.toNat : Int), .int .i64 gm, .slice va nx vc], .int .u8 (kc.toNat : Int)] w' fun e w'' => ∃ g cap, e = .returned (.slice (some ⟨g, 0, none⟩) L.length cap) ∧ bg ≤ g ∧ Row2 w'' g L ∧ Ext w' w'') :=
        Lib.hid (fun w' h => (HCH0.out w' (HXG.out.trans h)).mono fun e w'' ⟨g, cap, he, hg, hr, hy⟩ => ⟨g, cap, he, Nat.le_trans (by rw [← HBG.out]; exact (HXG.out.trans h).size) hg, hr, hy⟩)
      have hkc : ps[i].toNat = kc.toNat := by rw [hkc0]
      clear HCH0 HG0 hbg hkc0
      refine wp_region_rel 7 2 rfl [65, 66, 67, 68, 69, 70, 71] [[], [], [], [], [2, 3], [1, 4], [5]] (by kernel_rfl) (by kernel_rfl) ?_
      apply relPlan_eq'
      · intro V w' hx hf
        with_reducible refine relAt_ops ?_
        intro A ρ hA hρ hcst hfun
        have h12 : ρ (.tmp 12) = u12 := (congrFun hρ _).trans (evalMiss hA 12 rfl)
        exact relUpon_move (hk := by rw [h12]; exact ⟨Ext.refl _, rfl⟩)
      refine relPlan_by (eqv (.agg #[.int .i64 b0, .int .i64 b1, .int .i64 b2, .int .i64 b3, .int .u8 (ga.toNat : Int), .int .i64 gm, .slice va nx vc])) (eqv_stable _) ?_ ?_
      · intro V w' hx hf
        with_reducible refine relAt_ops ?_
        intro A ρ hA hρ hcst hfun
        have h14 : ρ (.tmp 14) = .pointer (some ⟨bg, 0, none⟩) := (congrFun hρ _).trans (evalMiss hA 14 rfl)
        have HMw := row_on HG.out hx
        have q0 := cell_at HMw (i := 0) rfl
        have q1 := cell_at HMw (i := 1) rfl
        have q2 := cell_at HMw (i := 2) rfl
        have q3 := cell_at HMw (i := 3) rfl
        have q4 := cell_at HMw (i := 4) rfl
        have q5 := cell_at HMw (i := 5) rfl
        have q6 := cell_at HMw (i := 6) rfl
        simp [relUpon, go_sem, Ext.refl, h14, q0,q1,q2,q3,q4,q5,q6]
        try rfl
      apply relPlan_eq'
      · intro V w' hx hf
        with_reducible refine relAt_ops ?_
        intro A ρ hA hρ hcst hfun
        have h1 : ρ (.tmp 1) = .string ps := (congrFun hρ _).trans (evalMiss hA 1 rfl)
        exact relUpon_move (hk := by rw [h1]; exact ⟨Ext.refl _, rfl⟩)
      apply relPlan_eq'
      · intro V w' hx hf
        with_reducible refine relAt_ops ?_
        intro A ρ hA hρ hcst hfun
        have h13 : ρ (.tmp 13) = .int .i64 (i : Int) := (congrFun hρ _).trans (evalMiss hA 13 rfl)
        exact relUpon_move (hk := by rw [h13]; exact ⟨Ext.refl _, rfl⟩)
      refine relPlan_by (eqv (.int .u8 (kc.toNat : Int))) (eqv_stable _) ?_ ?_
      · intro V w' hx hf
        with_reducible refine relAt_ops ?_
        intro A ρ hA hρ hcst hfun
        obtain ⟨f67, f68, _⟩ := hf
        have h67 : ρ (.tmp 67) = _ := (congrFun hρ _).trans ((evalHit hA 67 rfl).trans f67)
        have h68 : ρ (.tmp 68) = _ := (congrFun hρ _).trans ((evalHit hA 68 rfl).trans f68)
        simp [relUpon, go_sem, Ext.refl, h67, h68, hipsI, hkc]
        try rfl
      refine relPlan_by (chAt bg L) (chAt_stable _ _) ?_ ?_
      · intro V w' hx hf
        with_reducible refine relAt_ops ?_
        intro A ρ hA hρ hcst hfun
        obtain ⟨f66, f69, _⟩ := hf
        have h66 : ρ (.tmp 66) = _ := (congrFun hρ _).trans ((evalHit hA 66 rfl).trans f66)
        have h69 : ρ (.tmp 69) = _ := (congrFun hρ _).trans ((evalHit hA 69 rfl).trans f69)
        simp [relUpon, go_sem, hfun, h66, h69]
        exact (HCH.out w' hx).mono fun e w'' ⟨g, cap, he, hg, hr, hy⟩ => ⟨_, he, hy, g, cap, rfl, hg, hr⟩
      refine relPlan_by (ch1At bg L) (ch1At_stable _ _) ?_ ?_
      · intro V w' hx hf
        with_reducible refine relAt_ops ?_
        intro A ρ hA hρ hcst hfun
        obtain ⟨f70, _⟩ := hf
        have h70 : ρ (.tmp 70) = V 70 := (congrFun hρ _).trans (evalHit hA 70 rfl)
        obtain ⟨g, cap, e70, hg, hr⟩ := f70
        have e70 : V 70 = _ := e70
        rw [e70] at h70
        simp [relUpon, go_sem, h70]
        exact ⟨(Ext.refl _).alloc _, g, cap, oneAt.new (u := ((some ⟨g, 0, none⟩, L.length, cap) : Sv)) _ _ _ rfl, hg, hr.ext ((Ext.refl _).alloc _)⟩
      intro V wT hxT hf
      obtain ⟨g65, g66, g67, g68, g69, g70, g71, _⟩ := hf
      refine wpAny_tail2 7 72 12 _ _ (by kernel_rfl) rfl rfl (by kernel_rfl) rfl rfl (.inr rfl) (by kernel_rfl) rfl rfl rfl (fun K hK => ?_)
      obtain ⟨g, cap, ⟨b71, e71, hb71, hc71⟩, hg, hrow⟩ := g71
      refine wp_append_k (.tmp 65) (.tmp 71) 93 35 (.slice none 0 0) 24 rfl Tryz.underlying93 info_choices rfl (by decide) (by decide) encS_len encS_one w2.heap.size u12 vs ((evalHit rfl 65 rfl).trans g65) (HO.out.ext (HXG.out.trans hxT)) b71 (some ⟨g, 0, none⟩, L.length, cap) ((evalHit rfl 71 rfl).trans e71) hc71 (by omega) (Nat.le_trans HX.out.size (HXG.out.trans hxT).size) ?_
      intro v' w5 hown5 hg5 hloc5
      refine hK _ _ ?_
      simp only [fillA, List.foldl_cons, List.foldl_nil, Act.put, List.setIfInBounds_toArray, List.set_cons_succ, List.set_cons_zero]
      have hne : u12.ownBlock ≠ some g := fun h => by
        have h1 := (World.ownsRow.lt HO.out g h).2
        rw [HBG.out] at h1
        omega
      have HO5 := Lib.hid hown5
      have HF5 := Lib.hid ((HF.out.ext (HXG.out.trans hxT)).step (by rw [hvl]; exact HOLI.out) hne hrow hg5 hloc5 (cap := cap))
      have HX5 : Hid (Ext w2 w5) := Lib.hid ((HX.out.trans (HXG.out.trans hxT)).ofGrown hg5 (fun k hk => HO.out.low k hk))
      clear hown5 hg5 hloc5 hne hrow hg e71 hb71 hc71 g65 g66 g67 g68 g69 g70 HG HCH hkc HO HF HX
      go_wp2
      go_roundw
      case rel => exact ⟨i + 1, vs ++ [_], by omega, by go_num, HO5, by rw [List.length_append, hvl]; rfl, HF5, HX5⟩
      case measure => simp [intOf]; omega
    · have eiN : N = i := by omega
      subst eiN
      obtain ⟨wB, hwB⟩ : ∃ wB, wB = wr := ⟨_, rfl⟩
      subst hwB
      clear hlt hi
      have hopt := HF.out.opts HO.out (hvl.trans HOL.out.symm)
      obtain ⟨ao, co, hu12, hco⟩ := hopt.form
      rw [HOL.out] at hu12 hco
      subst hu12
      obtain ⟨vd, hsd, hopd⟩ := opts_drop hopt n (by omega)
      have HSD := Lib.hid hsd
      have HOD := Lib.hid hopd
      have HBE := Lib.hid (fun w' (h : Ext wB w') => begin_any check n os T _ w' (hopt.ext h) (by rw [HOL.out]; omega) (by rw [HOL.out]; omega) HWI HCO.out HMA.out)
      have HXR := Lib.hid (HX2.out.trans HX.out)
      clear hopt hsd hopd HF HO hvl HX HPA HOA HPL HCL HR HPSS HBW HN HX2
      go_wp2_with fail
      refine (HBE.out _ ((Ext.refl _).alloc _)).mono ?_
      rintro e w3 ⟨bm, D, rfl, hbm, hownm, hS, hT, hx3⟩
      have hb0 := row_on (heap_alloc_new wB (.cells #[.string ⟨#[]⟩, .int .i64 0] 96)) hx3
      have HX3 : Hid (Ext wB w3) := Lib.hid (((Ext.refl wB).alloc _).trans hx3)
      rw [World.size_alloc] at hbm
      obtain ⟨bb, hbb⟩ : ∃ bb, wB.heap.size = bb := ⟨_, rfl⟩
      rw [hbb] at hbm hb0 ⊢
      have HBB := Lib.hid hbb
      have HBA := Lib.hid hb0
      have HOW := Lib.hid hownm
      have HS := Lib.hid hS
      have HT := Lib.hid hT
      clear hbb hb0 hownm hS hT hx3 HBE
      go_wp2_with (first | (at_range; refine wpList_range_own _ rfl _ 97 rfl 9 96 strK Tryz.underlying97 partR bm 65793 D rfl HOW.out ?_; intro w4 hrg4 hg4 hs4) | go_in)
      go_frame
      have hbmr := HOW.out.lt
      obtain ⟨br, hbr⟩ : ∃ br, w3.heap.size = br := ⟨_, rfl⟩
      rw [hbr] at hrg4 hs4 hbmr ⊢
      have HRG4 := Lib.hid hrg4
      have HBA4 := Lib.hid ((hg4.block bb (lt_at HBA.out) (by simp)).trans HBA.out)
      have HX4 : Hid (Ext wB w4) := Lib.hid (HX3.out.ofGrown hg4 (fun k hk => by cases hk))
      clear hrg4 hg4 hs4 hbr HOW HX3 HBA
      go_loopw [17, 83] (fun v17 _ wq => ∃ (left : Lit → Bool) (cnt : Nat) (fd : Bool) (bT : List UInt8) (bC : Int), v17 = .bool fd ∧ Hid (wq.ranges Tryz.prog 9 partR bm br 65793 D left cnt) ∧ Hid (wq.heap[bb]? = some (.cells #[.string (bS bT), .int .i64 bC] 96 (0, 0))) ∧ Hid (fd = true → Gl.Cand os check n (bT, bC)) ∧ Hid (left (.string (Gl.keyAt check n n (T n).1)) = false → fd = true ∧ (bT, bC) = F) ∧ Hid (Ext wB wq)) (fun _ _ wq => wq.rangeLeft bm br)
      case atStart => exact ⟨_, _, false, [], 0, rfl, HRG4, HBA4, Lib.hid (fun h => by cases h), Lib.hid (fun h => by rw [HT.out.1] at h; cases h), HX4⟩
      case round =>
        clear HRG4 HBA4 HX4
        obtain ⟨left, cnt, fd, bT, bC, rfl, HRG, HBA, HC, HK, HXQ⟩ := hrel
        go_wp2_with (first | (at_next; refine wpList_next_part _ rfl _ rfl 9 strK Tryz.underlying9 bm br 65793 D left cnt rfl HRG.out ?_ ?_) | go_in)
        · intro _ hl0
          obtain ⟨rfl, hF⟩ := HK.out (hl0 _)
          have c0 := cell_at HBA.out (i := 0) rfl
          have c1 := cell_at HBA.out (i := 1) rfl
          have HXF := Lib.hid (HXR.out.trans HXQ.out)
          have HFF := Lib.hid hF
          clear hl0 hF HRG HK HC HWI HEN
          go_wp2
          go_region
          go_wp2
          go_ret3
          first
            | exact ⟨by rw [← HFF.out]; rfl, HXF.out⟩
            | exact ⟨by rw [← HFF.out]; rfl, HXF.out.drew⟩
        · intro x pt pc w5 cnt5 hlx hat hrg5 hlt5 hg5 hs5 hen
          obtain ⟨p', hgd, hok, hkx, hp'⟩ := HS.out (.string x) (has_true_of_atKey hat)
          obtain rfl : p' = (pt, pc) := Gl.dat_inj ((hp' .nil).symm.trans (hat .nil))
          have hok := hok hn0
          have hxk : x = (Gl.keyS check pt n).1 := by
            injection hkx with hkx
            rw [hkx]; exact if_neg (by omega)
          have hzx : sz = x.length := by rw [hxk]; exact HKZ.out pt hok
          have hxl : x.length ≤ 2 := by rw [hxk]; exact Gl.keyS_len check pt n
          have hptl := hgd.len
          have hpcb := hgd.cost HCO.out
          dsimp only at hptl hpcb
          have HFI0 := Lib.hid (fun w' (h : Ext wB w') => finish_any (pt, pc) x (os.drop n) vd w' (HOD.out.ext h) (by rw [List.length_drop, HOL.out]; omega) (by omega) (by dsimp only; omega) ⟨hpcb.1, by dsimp only; omega⟩ (fun l hl => HCO.out l (List.mem_of_mem_drop hl)) (fun l hl => HMA.out l (List.mem_of_mem_drop hl)))
          have HTP : Hid (Lit.string (Gl.keyAt check n n (T n).1) = .string x → (pt, pc) = T n) := Lib.hid (fun e => by
            have := HT.out.2 .nil
            rw [e, hat .nil] at this
            exact Gl.dat_inj this)
          have HX5 : Hid (Ext wB w5) := Lib.hid (HXQ.out.ofGrown hg5 (fun k hk => by injection hk with hk; have := HBB.out; omega))
          have HB5 := Lib.hid ((hg5.block bb (lt_at HBA.out) (by simp; omega)).trans HBA.out)
          have hbr5 : br < w5.heap.size := hrg5.lt
          have HRG5 := Lib.hid hrg5
          have hlt5' : cnt5 < wr.rangeLeft bm br := by rw [HRG.out.left_eq]; exact hlt5
          have HGD := Lib.hid hgd
          have HOK := Lib.hid hok
          have HXK := Lib.hid hxk
          obtain ⟨pts, hps⟩ : ∃ pts, bS pt = pts := ⟨_, rfl⟩
          obtain ⟨xs, hxs⟩ : ∃ xs, bS x = xs := ⟨_, rfl⟩
          rw [hps, hxs] at hen ⊢
          have HPS := Lib.hid hps
          have HXS := Lib.hid hxs
          clear hgd hok hkx hp' hat hlx hrg5 hg5 hlt5 hps hxs hs5 hxk hzx hxl hptl hpcb HRG HBA HXQ
          have HX5a : Hid (Ext wB (w5.alloc (.cells #[.string pts, .int .i64 pc] 96))) := Lib.hid (HX5.out.alloc _)
          have HRG5a := Lib.hid (HRG5.out.alloc (.cells #[.string pts, .int .i64 pc] 96))
          have HB5a := Lib.hid (row_on HB5.out ((Ext.refl w5).alloc (.cells #[.string pts, .int .i64 pc] 96)))
          have HC5 := Lib.hid (heap_alloc_new w5 (.cells #[.string pts, .int .i64 pc] 96))
          go_wp2
          obtain ⟨bp, hbp⟩ : ∃ bp, w5.heap.size = bp := ⟨_, rfl⟩
          rw [hbp] at HC5 hbr5 ⊢
          clear hen hbp
          generalize w5.alloc (.cells #[.string pts, .int .i64 pc] 96) = w6 at HX5a HRG5a HB5a HC5 ⊢
          have HP : Hid (w6.heap[bp]? = some (.cells #[.string pts, .int .i64 pc] 96 (0, 0))) := HC5
          clear HC5 HX5 HRG5 HB5
          cases hr : Gl.rest (os.drop n) x with
          | none =>
            rw [hr] at HFI0
            have HFI : Hid (∀ w', Ext w6 w' → Calls Tryz.prog 58 #[.agg #[.string pts, .int .i64 pc], .string xs, vd] w' fun e w'' => e = .returned (.tuple #[.agg #[.string ⟨#[]⟩, .int .i64 0], .bool false]) ∧ Ext w' w'') := Lib.hid (fun w' h => by
              have := HFI0.out w' (HX5a.out.trans h)
              rw [← HPS.out, ← HXS.out]
              exact this)
            have HKN : Hid ((left (.string (Gl.keyAt check n n (T n).1)) && !(Lit.string (Gl.keyAt check n n (T n).1)).sameKey (.string x)) = false → fd = true ∧ (bT, bC) = F) := Lib.hid (fun h => by
              cases hl : left (.string (Gl.keyAt check n n (T n).1)) with
              | false => exact HK.out hl
              | true =>
                rw [hl, Bool.true_and, Bool.not_eq_false'] at h
                exact (HEN.lost (HTP.out (WideAt.sameKey_eq h)) (by dsimp only; rw [← HXK.out]; exact hr)).elim)
            clear hr HFI0 HK HTP
            refine wp_region_relL 10 2 8 rfl [89, 90, 91, 92, 93, 94, 88, 95, 96, 20] [[], [], [], [], [2, 3], [0, 1, 4], [5], [6], [6], []] (by kernel_rfl) (by kernel_rfl) ?_
            refine relPlan_by (eqv (.agg #[.string pts, .int .i64 pc])) (eqv_stable _) ?_ ?_
            · intro V w' hx hf
              with_reducible refine relAt_ops ?_
              intro A ρ hA hρ hcst hfun
              have h19 : ρ (.tmp 19) = .pointer (some ⟨bp, 0, none⟩) := (congrFun hρ _).trans (evalMiss hA 19 rfl)
              have HMw := row_on HP.out hx
              have q0 := cell_at HMw (i := 0) rfl
              have q1 := cell_at HMw (i := 1) rfl
              simp [relUpon, go_sem, Ext.refl, h19, q0,q1]
              try rfl
            apply relPlan_eq'
            · intro V w' hx hf
              with_reducible refine relAt_ops ?_
              intro A ρ hA hρ hcst hfun
              have h18 : ρ (.tmp 18) = .string xs := (congrFun hρ _).trans (evalMiss hA 18 rfl)
              exact relUpon_move (hk := by rw [h18]; exact ⟨Ext.refl _, rfl⟩)
            apply relPlan_eq'
            · intro V w' hx hf
              with_reducible refine relAt_ops ?_
              intro A ρ hA hρ hcst hfun
              have h12 : ρ (.tmp 12) = .slice ao N co := (congrFun hρ _).trans (evalMiss hA 12 rfl)
              exact relUpon_move (hk := by rw [h12]; exact ⟨Ext.refl _, rfl⟩)
            apply relPlan_eq'
            · intro V w' hx hf
              with_reducible refine relAt_ops ?_
              intro A ρ hA hρ hcst hfun
              have h15 : ρ (.tmp 15) = .int .i64 (n : Int) := (congrFun hρ _).trans (evalMiss hA 15 rfl)
              exact relUpon_move (hk := by rw [h15]; exact ⟨Ext.refl _, rfl⟩)
            refine relPlan_by (eqv vd) (eqv_stable _) ?_ ?_
            · intro V w' hx hf
              with_reducible refine relAt_ops ?_
              intro A ρ hA hρ hcst hfun
              obtain ⟨f91, f92, _⟩ := hf
              have h91 : ρ (.tmp 91) = _ := (congrFun hρ _).trans ((evalHit hA 91 rfl).trans f91)
              have h92 : ρ (.tmp 92) = _ := (congrFun hρ _).trans ((evalHit hA 92 rfl).trans f92)
              simp [relUpon, go_sem, h91, h92, HSD.out]
              exact ⟨Ext.refl _, rfl⟩
            refine relPlan_by (eqv (.tuple #[.agg #[.string ⟨#[]⟩, .int .i64 0], .bool false])) (eqv_stable _) ?_ ?_
            · intro V w' hx hf
              with_reducible refine relAt_ops ?_
              intro A ρ hA hρ hcst hfun
              obtain ⟨f89, f90, f93, _⟩ := hf
              have h89 : ρ (.tmp 89) = _ := (congrFun hρ _).trans ((evalHit hA 89 rfl).trans f89)
              have h90 : ρ (.tmp 90) = _ := (congrFun hρ _).trans ((evalHit hA 90 rfl).trans f90)
              have h93 : ρ (.tmp 93) = _ := (congrFun hρ _).trans ((evalHit hA 93 rfl).trans f93)
              simp [relUpon, go_sem, hfun, h89, h90, h93]
              exact (HFI.out w' hx).mono fun e w'' ⟨he, hy⟩ => ⟨_, he, hy, rfl⟩
            apply relPlan_eq'
            · intro V w' hx hf
              with_reducible refine relAt_ops ?_
              intro A ρ hA hρ hcst hfun
              obtain ⟨f94, _⟩ := hf
              have h94 : ρ (.tmp 94) = _ := (congrFun hρ _).trans ((evalHit hA 94 rfl).trans f94)
              exact relUpon_move (hk := by rw [h94]; exact ⟨Ext.refl _, rfl⟩)
            apply relPlan_eq'
            · intro V w' hx hf
              with_reducible refine relAt_ops ?_
              intro A ρ hA hρ hcst hfun
              obtain ⟨f88, _⟩ := hf
              have h88 : ρ (.tmp 88) = _ := (congrFun hρ _).trans ((evalHit hA 88 rfl).trans f88)
              simp [relUpon, go_sem, Ext.refl, h88]
              rfl
            apply relPlan_eq'
            · intro V w' hx hf
              with_reducible refine relAt_ops ?_
              intro A ρ hA hρ hcst hfun
              obtain ⟨f88, _⟩ := hf
              have h88 : ρ (.tmp 88) = _ := (congrFun hρ _).trans ((evalHit hA 88 rfl).trans f88)
              simp [relUpon, go_sem, Ext.refl, h88]
              rfl
            refine relPlan_by (newPt bp) (newPt_stable _) ?_ ?_
            · intro V w' hx hf
              with_reducible refine relAt_ops ?_
              intro A ρ hA hρ hcst hfun
              simp [relUpon, go_sem]
              exact ⟨(Ext.refl _).alloc _, _, rfl, Nat.le_trans (Nat.le_of_lt (lt_at HP.out)) hx.size, heap_alloc_new _ _⟩
            refine ⟨?_, ?_⟩
            · intro V wT hxT hf
              obtain ⟨g89, g90, g91, g92, g93, g94, g88, g95, g96, g20, _⟩ := hf
              obtain ⟨bc, e20, hbc, hc20⟩ := g20
              have q88 : V 88 = _ := g88
              have q95 : V 95 = .agg #[.string ⟨#[]⟩, .int .i64 0] := g95
              have q96 : V 96 = .bool false := g96
              simp only [fillA, List.foldl_cons, List.foldl_nil, Act.put, List.setIfInBounds_toArray, List.set_cons_succ, List.set_cons_zero]
              have e20 : V 20 = _ := e20
              rw [e20, q88, q95, q96]
              have c0 := cell_at hc20 (i := 0) rfl
              have c1 := cell_at hc20 (i := 1) rfl
              have f0 := frz_at (i := 0) hc20
              have f1 := frz_at (i := 1) hc20
              clear g89 g90 g91 g92 g93 g94 g88 g95 g96 q96 q95 q88 e20
              refine wpAny_one 10 (by kernel_rfl) rfl (fun K hK => ?_)
              go_simp
              refine hK _ _ ?_
              clear hK K
              refine wpAny_one 11 (by kernel_rfl) rfl (fun K hK => ?_)
              go_simp
              refine hK _ _ ?_
              clear hK K
              refine wpAny_done (by kernel_rfl) ?_ 0
              have HC9 := Lib.hid (row2_set (p0 := .string ⟨#[]⟩) (p1 := .int .i64 0) hc20)
              have HRG9 := Lib.hid (((ranges_ext HRG5a.out hxT).kept (grown_set wT bc 0 (.string ⟨#[]⟩)) (by simp; omega) (by simp; omega)).kept (grown_set _ bc 1 (.int .i64 0)) (by simp; omega) (by simp; omega))
              have HB9 := Lib.hid (far1 (i := 1) (u := .int .i64 0) (show bc ≠ bb by omega) (far1 (i := 0) (u := .string ⟨#[]⟩) (show bc ≠ bb by omega) (row_on HB5a.out hxT)))
              have HX9 := Lib.hid (((HX5a.out.trans hxT).setCell (p := ⟨bc, 0, none⟩) (by rw [HBB.out]; show bb ≤ bc; omega) (.string ⟨#[]⟩)).setCell (p := ⟨bc, 1, none⟩) (by rw [HBB.out]; show bb ≤ bc; omega) (.int .i64 0))
              generalize (wT.setCell ⟨bc, 0, none⟩ (.string ⟨#[]⟩)).setCell ⟨bc, 1, none⟩ (.int .i64 0) = w9 at HC9 HRG9 HB9 HX9 ⊢
              clear c0 c1 f0 f1 hc20 HFI HP hxT HX5a HRG5a HB5a HPS HXS
              go_wp2
              go_roundw
              case rel => exact ⟨_, cnt5, fd, bT, bC, rfl, HRG9, HB9, HC, HKN, HX9⟩
              case measure => rw [HRG9.out.left_eq]; exact hlt5'
            · intro V wT hxT hf
              obtain ⟨g89, g90, g91, g92, g93, g94, g88, g95, g20, _⟩ := hf
              obtain ⟨bc, e20, hbc, hc20⟩ := g20
              have q88 : V 88 = _ := g88
              have q95 : V 95 = .agg #[.string ⟨#[]⟩, .int .i64 0] := g95
              simp only [fillA, List.foldl_cons, List.foldl_nil, Act.put, List.setIfInBounds_toArray, List.set_cons_succ, List.set_cons_zero]
              have e20 : V 20 = _ := e20
              rw [e20, q88, q95]
              have c0 := cell_at hc20 (i := 0) rfl
              have c1 := cell_at hc20 (i := 1) rfl
              have f0 := frz_at (i := 0) hc20
              have f1 := frz_at (i := 1) hc20
              clear g89 g90 g91 g92 g93 g94 g88 g95 q95 q88 e20
              refine wpAny_ready (rs := [8, 10]) (by kernel_rfl) (by simp) (AllReady.cons rfl ?_ (AllReady.cons rfl ?_ AllReady.nil))
              · intro K hK
                go_simp
                refine hK _ _ ?_
                clear hK K
                refine wpAny_one 10 (by kernel_rfl) rfl (fun K hK => ?_)
                go_simp
                refine hK _ _ ?_
                clear hK K
                refine wpAny_one 11 (by kernel_rfl) rfl (fun K hK => ?_)
                go_simp
                refine hK _ _ ?_
                clear hK K
                refine wpAny_done (by kernel_rfl) ?_ 0
                have HC9 := Lib.hid (row2_set (p0 := .string ⟨#[]⟩) (p1 := .int .i64 0) hc20)
                have HRG9 := Lib.hid (((ranges_ext HRG5a.out hxT).kept (grown_set wT bc 0 (.string ⟨#[]⟩)) (by simp; omega) (by simp; omega)).kept (grown_set _ bc 1 (.int .i64 0)) (by simp; omega) (by simp; omega))
                have HB9 := Lib.hid (far1 (i := 1) (u := .int .i64 0) (show bc ≠ bb by omega) (far1 (i := 0) (u := .string ⟨#[]⟩) (show bc ≠ bb by omega) (row_on HB5a.out hxT)))
                have HX9 := Lib.hid (((HX5a.out.trans hxT).setCell (p := ⟨bc, 0, none⟩) (by rw [HBB.out]; show bb ≤ bc; omega) (.string ⟨#[]⟩)).setCell (p := ⟨bc, 1, none⟩) (by rw [HBB.out]; show bb ≤ bc; omega) (.int .i64 0))
                generalize (wT.setCell ⟨bc, 0, none⟩ (.string ⟨#[]⟩)).setCell ⟨bc, 1, none⟩ (.int .i64 0) = w9 at HC9 HRG9 HB9 HX9 ⊢
                clear c0 c1 f0 f1 hc20 HFI HP hxT HX5a HRG5a HB5a HPS HXS
                go_wp2
                go_roundw
                case rel => exact ⟨_, cnt5, fd, bT, bC, rfl, HRG9, HB9, HC, HKN, HX9⟩
                case measure => rw [HRG9.out.left_eq]; exact hlt5'
              · intro K hK
                go_simp
                refine hK _ _ ?_
                clear hK K
                refine wpAny_one 8 (by kernel_rfl) rfl (fun K hK => ?_)
                go_simp
                refine hK _ _ ?_
                clear hK K
                refine wpAny_one 11 (by kernel_rfl) rfl (fun K hK => ?_)
                go_simp
                refine hK _ _ ?_
                clear hK K
                refine wpAny_done (by kernel_rfl) ?_ 0
                have HC9 := Lib.hid (row2_set (p0 := .string ⟨#[]⟩) (p1 := .int .i64 0) hc20)
                have HRG9 := Lib.hid (((ranges_ext HRG5a.out hxT).kept (grown_set wT bc 0 (.string ⟨#[]⟩)) (by simp; omega) (by simp; omega)).kept (grown_set _ bc 1 (.int .i64 0)) (by simp; omega) (by simp; omega))
                have HB9 := Lib.hid (far1 (i := 1) (u := .int .i64 0) (show bc ≠ bb by omega) (far1 (i := 0) (u := .string ⟨#[]⟩) (show bc ≠ bb by omega) (row_on HB5a.out hxT)))
                have HX9 := Lib.hid (((HX5a.out.trans hxT).setCell (p := ⟨bc, 0, none⟩) (by rw [HBB.out]; show bb ≤ bc; omega) (.string ⟨#[]⟩)).setCell (p := ⟨bc, 1, none⟩) (by rw [HBB.out]; show bb ≤ bc; omega) (.int .i64 0))
                generalize (wT.setCell ⟨bc, 0, none⟩ (.string ⟨#[]⟩)).setCell ⟨bc, 1, none⟩ (.int .i64 0) = w9 at HC9 HRG9 HB9 HX9 ⊢
                clear c0 c1 f0 f1 hc20 HFI HP hxT HX5a HRG5a HB5a HPS HXS
                go_wp2
                go_roundw
                case rel => exact ⟨_, cnt5, fd, bT, bC, rfl, HRG9, HB9, HC, HKN, HX9⟩
                case measure => rw [HRG9.out.left_eq]; exact hlt5'
          | some m =>
            rw [hr] at HFI0
            obtain ⟨cs, hcs⟩ : ∃ cs, bS (pt ++ x) = cs := ⟨_, rfl⟩
            obtain ⟨cm, hcm⟩ : ∃ cm, pc + m = cm := ⟨_, rfl⟩
            have HCS := Lib.hid hcs
            have HCM := Lib.hid hcm
            have HFI : Hid (∀ w', Ext w6 w' → Calls Tryz.prog 58 #[.agg #[.string pts, .int .i64 pc], .string xs, vd] w' fun e w'' => e = .returned (.tuple #[.agg #[.string cs, .int .i64 cm], .bool true]) ∧ Ext w' w'') := Lib.hid (fun w' h => by
              have := HFI0.out w' (HX5a.out.trans h)
              rw [← HPS.out, ← HXS.out, ← hcs, ← hcm]
              exact this)
            have HA' : Hid ((left (.string (Gl.keyAt check n n (T n).1)) && !(Lit.string (Gl.keyAt check n n (T n).1)).sameKey (.string x)) = false → left (.string (Gl.keyAt check n n (T n).1)) = false ∨ (pt ++ x, cm) = F) := Lib.hid (fun h => by
              cases hl : left (.string (Gl.keyAt check n n (T n).1)) with
              | false => exact .inl rfl
              | true =>
                rw [hl, Bool.true_and, Bool.not_eq_false'] at h
                refine .inr ?_
                have := HEN.won (HTP.out (WideAt.sameKey_eq h)) (m := m) (by dsimp only; rw [← HXK.out]; exact hr)
                dsimp only at this
                rw [← HXK.out, hcm] at this
                exact this)
            have HCC : Hid (Gl.Cand os check n (pt ++ x, cm)) := Lib.hid ⟨(pt, pc), m, HGD.out, HOK.out, by dsimp only; rw [← HXK.out]; exact hr, by dsimp only; rw [← HXK.out, hcm]⟩
            clear hr HFI0 HTP hcs hcm
            refine wp_region_relL 10 2 8 rfl [89, 90, 91, 92, 93, 94, 88, 95, 96, 20] [[], [], [], [], [2, 3], [0, 1, 4], [5], [6], [6], []] (by kernel_rfl) (by kernel_rfl) ?_
            refine relPlan_by (eqv (.agg #[.string pts, .int .i64 pc])) (eqv_stable _) ?_ ?_
            · intro V w' hx hf
              with_reducible refine relAt_ops ?_
              intro A ρ hA hρ hcst hfun
              have h19 : ρ (.tmp 19) = .pointer (some ⟨bp, 0, none⟩) := (congrFun hρ _).trans (evalMiss hA 19 rfl)
              have HMw := row_on HP.out hx
              have q0 := cell_at HMw (i := 0) rfl
              have q1 := cell_at HMw (i := 1) rfl
              simp [relUpon, go_sem, Ext.refl, h19, q0,q1]
              try rfl
            apply relPlan_eq'
            · intro V w' hx hf
              with_reducible refine relAt_ops ?_
              intro A ρ hA hρ hcst hfun
              have h18 : ρ (.tmp 18) = .string xs := (congrFun hρ _).trans (evalMiss hA 18 rfl)
              exact relUpon_move (hk := by rw [h18]; exact ⟨Ext.refl _, rfl⟩)
            apply relPlan_eq'
            · intro V w' hx hf
              with_reducible refine relAt_ops ?_
              intro A ρ hA hρ hcst hfun
              have h12 : ρ (.tmp 12) = .slice ao N co := (congrFun hρ _).trans (evalMiss hA 12 rfl)
              exact relUpon_move (hk := by rw [h12]; exact ⟨Ext.refl _, rfl⟩)
            apply relPlan_eq'
            · intro V w' hx hf
              with_reducible refine relAt_ops ?_
              intro A ρ hA hρ hcst hfun
              have h15 : ρ (.tmp 15) = .int .i64 (n : Int) := (congrFun hρ _).trans (evalMiss hA 15 rfl)
              exact relUpon_move (hk := by rw [h15]; exact ⟨Ext.refl _, rfl⟩)
            refine relPlan_by (eqv vd) (eqv_stable _) ?_ ?_
            · intro V w' hx hf
              with_reducible refine relAt_ops ?_
              intro A ρ hA hρ hcst hfun
              obtain ⟨f91, f92, _⟩ := hf
              have h91 : ρ (.tmp 91) = _ := (congrFun hρ _).trans ((evalHit hA 91 rfl).trans f91)
              have h92 : ρ (.tmp 92) = _ := (congrFun hρ _).trans ((evalHit hA 92 rfl).trans f92)
              simp [relUpon, go_sem, h91, h92, HSD.out]
              exact ⟨Ext.refl _, rfl⟩
            refine relPlan_by (eqv (.tuple #[.agg #[.string cs, .int .i64 cm], .bool true])) (eqv_stable _) ?_ ?_
            · intro V w' hx hf
              with_reducible refine relAt_ops ?_
              intro A ρ hA hρ hcst hfun
              obtain ⟨f89, f90, f93, _⟩ := hf
              have h89 : ρ (.tmp 89) = _ := (congrFun hρ _).trans ((evalHit hA 89 rfl).trans f89)
              have h90 : ρ (.tmp 90) = _ := (congrFun hρ _).trans ((evalHit hA 90 rfl).trans f90)
              have h93 : ρ (.tmp 93) = _ := (congrFun hρ _).trans ((evalHit hA 93 rfl).trans f93)
              simp [relUpon, go_sem, hfun, h89, h90, h93]
              exact (HFI.out w' hx).mono fun e w'' ⟨he, hy⟩ => ⟨_, he, hy, rfl⟩
            apply relPlan_eq'
            · intro V w' hx hf
              with_reducible refine relAt_ops ?_
              intro A ρ hA hρ hcst hfun
              obtain ⟨f94, _⟩ := hf
              have h94 : ρ (.tmp 94) = _ := (congrFun hρ _).trans ((evalHit hA 94 rfl).trans f94)
              exact relUpon_move (hk := by rw [h94]; exact ⟨Ext.refl _, rfl⟩)
            apply relPlan_eq'
            · intro V w' hx hf
              with_reducible refine relAt_ops ?_
              intro A ρ hA hρ hcst hfun
              obtain ⟨f88, _⟩ := hf
              have h88 : ρ (.tmp 88) = _ := (congrFun hρ _).trans ((evalHit hA 88 rfl).trans f88)
              simp [relUpon, go_sem, Ext.refl, h88]
              rfl
            apply relPlan_eq'
            · intro V w' hx hf
              with_reducible refine relAt_ops ?_
              intro A ρ hA hρ hcst hfun
              obtain ⟨f88, _⟩ := hf
              have h88 : ρ (.tmp 88) = _ := (congrFun hρ _).trans ((evalHit hA 88 rfl).trans f88)
              simp [relUpon, go_sem, Ext.refl, h88]
              rfl
            refine relPlan_by (newPt bp) (newPt_stable _) ?_ ?_
            · intro V w' hx hf
              with_reducible refine relAt_ops ?_
              intro A ρ hA hρ hcst hfun
              simp [relUpon, go_sem]
              exact ⟨(Ext.refl _).alloc _, _, rfl, Nat.le_trans (Nat.le_of_lt (lt_at HP.out)) hx.size, heap_alloc_new _ _⟩
            refine ⟨?_, ?_⟩
            · intro V wT hxT hf
              obtain ⟨g89, g90, g91, g92, g93, g94, g88, g95, g96, g20, _⟩ := hf
              obtain ⟨bc, e20, hbc, hc20⟩ := g20
              have q88 : V 88 = _ := g88
              have q95 : V 95 = .agg #[.string cs, .int .i64 cm] := g95
              have q96 : V 96 = .bool true := g96
              simp only [fillA, List.foldl_cons, List.foldl_nil, Act.put, List.setIfInBounds_toArray, List.set_cons_succ, List.set_cons_zero]
              have e20 : V 20 = _ := e20
              rw [e20, q88, q95, q96]
              have c0 := cell_at hc20 (i := 0) rfl
              have c1 := cell_at hc20 (i := 1) rfl
              have f0 := frz_at (i := 0) hc20
              have f1 := frz_at (i := 1) hc20
              clear g89 g90 g91 g92 g93 g94 g88 g95 g96 q96 q95 q88 e20
              refine wpAny_one 10 (by kernel_rfl) rfl (fun K hK => ?_)
              go_simp
              refine hK _ _ ?_
              clear hK K
              refine wpAny_one 11 (by kernel_rfl) rfl (fun K hK => ?_)
              go_simp
              refine hK _ _ ?_
              clear hK K
              refine wpAny_done (by kernel_rfl) ?_ 0
              have HC9 := Lib.hid (row2_set (p0 := .string cs) (p1 := .int .i64 cm) hc20)
              have HRG9 := Lib.hid (((ranges_ext HRG5a.out hxT).kept (grown_set wT bc 0 (.string cs)) (by simp; omega) (by simp; omega)).kept (grown_set _ bc 1 (.int .i64 cm)) (by simp; omega) (by simp; omega))
              have HB9 := Lib.hid (far1 (i := 1) (u := .int .i64 cm) (show bc ≠ bb by omega) (far1 (i := 0) (u := .string cs) (show bc ≠ bb by omega) (row_on HB5a.out hxT)))
              have HX9 := Lib.hid (((HX5a.out.trans hxT).setCell (p := ⟨bc, 0, none⟩) (by rw [HBB.out]; show bb ≤ bc; omega) (.string cs)).setCell (p := ⟨bc, 1, none⟩) (by rw [HBB.out]; show bb ≤ bc; omega) (.int .i64 cm))
              generalize (wT.setCell ⟨bc, 0, none⟩ (.string cs)).setCell ⟨bc, 1, none⟩ (.int .i64 cm) = w9 at HC9 HRG9 HB9 HX9 ⊢
              clear c0 c1 f0 f1 hc20 HFI HP hxT HX5a HRG5a HB5a HPS HXS
              have d0 := cell_at HC9.out (i := 0) rfl
              have d1 := cell_at HC9.out (i := 1) rfl
              have e0 := cell_at HB9.out (i := 0) rfl
              have e1 := cell_at HB9.out (i := 1) rfl
              have f0 := frz_at (i := 0) HB9.out
              have f1 := frz_at (i := 1) HB9.out
              cases fd with
              | false =>
                have HK9 := Lib.hid (HEN.take HK.out HA'.out HCC.out (.inl rfl))
                have HBw := HB9
                have HRGw := HRG9
                have HXw := HX9
                have HB10 := Lib.hid (row2_set (p0 := .string cs) (p1 := .int .i64 cm) HBw.out)
                have HRG10 := Lib.hid ((HRGw.out.kept (grown_set w9 bb 0 (.string cs)) (by simp; omega) (by simp; omega)).kept (grown_set _ bb 1 (.int .i64 cm)) (by simp; omega) (by simp; omega))
                have HX10 := Lib.hid ((HXw.out.setCell (p := ⟨bb, 0, none⟩) (by rw [HBB.out]; exact Nat.le_refl _) (.string cs)).setCell (p := ⟨bb, 1, none⟩) (by rw [HBB.out]; exact Nat.le_refl _) (.int .i64 cm))
                clear HK HA' HC HBw HRGw HXw
                go_wp2
                go_roundw
                case rel => exact ⟨_, cnt5, true, pt ++ x, cm, rfl, HRG10, by rw [HCS.out]; exact HB10, Lib.hid (fun _ => HCC.out), Lib.hid (fun h => ⟨rfl, (HK9.out h).2⟩), HX10⟩
                case measure => rw [HRG10.out.left_eq]; exact hlt5'
              | true =>
                have HBT := Lib.hid (better_any (pt ++ x, cm) (bT, bC))
                have HQV : Hid (ptV (pt ++ x, cm) = .agg #[.string cs, .int .i64 cm]) := Lib.hid (by rw [← HCS.out]; rfl)
                rw [HQV.out] at HBT
                change Hid (∀ W, Calls _ _ #[.agg #[.string cs, .int .i64 cm], .agg #[.string (bS bT), .int .i64 bC]] W _) at HBT
                obtain ⟨ts, hts⟩ : ∃ ts, bS bT = ts := ⟨_, rfl⟩
                have HTS := Lib.hid hts
                rw [hts] at HBT HB9 e0
                clear hts
                cases hbt : Gl.bet (pt ++ x, cm) (bT, bC) with
                | true =>
                  rw [hbt] at HBT
                  have HK9 := Lib.hid (HEN.take HK.out HA'.out HCC.out (.inr hbt))
                  clear HK HA' HC hbt
                  go_wp2_with fail
                  refine (HBT.out _).mono ?_
                  rintro e w10 ⟨rfl, hx10⟩
                  have hq10 := row_on HC9.out hx10
                  have hb10 := row_on HB9.out hx10
                  have d0' := cell_at hq10 (i := 0) rfl
                  have d1' := cell_at hq10 (i := 1) rfl
                  have e0' := cell_at hb10 (i := 0) rfl
                  have e1' := cell_at hb10 (i := 1) rfl
                  have f0' := frz_at (i := 0) hb10
                  have f1' := frz_at (i := 1) hb10
                  clear hq10
                  have HBw := Lib.hid hb10
                  clear hb10
                  have HRGw := Lib.hid (ranges_ext HRG9.out hx10)
                  have HXw := Lib.hid (HX9.out.trans hx10)
                  clear hx10
                  have HB10 := Lib.hid (row2_set (p0 := .string cs) (p1 := .int .i64 cm) HBw.out)
                  have HRG10 := Lib.hid ((HRGw.out.kept (grown_set w10 bb 0 (.string cs)) (by simp; omega) (by simp; omega)).kept (grown_set _ bb 1 (.int .i64 cm)) (by simp; omega) (by simp; omega))
                  have HX10 := Lib.hid ((HXw.out.setCell (p := ⟨bb, 0, none⟩) (by rw [HBB.out]; exact Nat.le_refl _) (.string cs)).setCell (p := ⟨bb, 1, none⟩) (by rw [HBB.out]; exact Nat.le_refl _) (.int .i64 cm))
                  clear HBw HRGw HXw
                  go_wp2
                  go_roundw
                  case rel => exact ⟨_, cnt5, true, pt ++ x, cm, rfl, HRG10, by rw [HCS.out]; exact HB10, Lib.hid (fun _ => HCC.out), Lib.hid (fun h => ⟨rfl, (HK9.out h).2⟩), HX10⟩
                  case measure => rw [HRG10.out.left_eq]; exact hlt5'
                | false =>
                  rw [hbt] at HBT
                  have HK9 := Lib.hid (HEN.stay HK.out HA'.out (HC.out rfl) hbt rfl)
                  have HC' := HC
                  clear HK HA' HC hbt
                  go_wp2_with fail
                  refine (HBT.out _).mono ?_
                  rintro e w10 ⟨rfl, hx10⟩
                  have HBw := Lib.hid (row_on HB9.out hx10)
                  have HRGw := Lib.hid (ranges_ext HRG9.out hx10)
                  have HXw := Lib.hid (HX9.out.trans hx10)
                  clear hx10
                  go_wp2
                  go_roundw
                  case rel => exact ⟨_, cnt5, true, bT, bC, rfl, HRGw, by rw [HTS.out]; exact HBw, Lib.hid (fun _ => HC'.out (by trivial)), Lib.hid (fun h => ⟨rfl, (HK9.out h).2⟩), HXw⟩
                  case measure => rw [HRGw.out.left_eq]; exact hlt5'
            · intro V wT hxT hf
              obtain ⟨g89, g90, g91, g92, g93, g94, g88, g95, g20, _⟩ := hf
              obtain ⟨bc, e20, hbc, hc20⟩ := g20
              have q88 : V 88 = _ := g88
              have q95 : V 95 = .agg #[.string cs, .int .i64 cm] := g95
              simp only [fillA, List.foldl_cons, List.foldl_nil, Act.put, List.setIfInBounds_toArray, List.set_cons_succ, List.set_cons_zero]
              have e20 : V 20 = _ := e20
              rw [e20, q88, q95]
              have c0 := cell_at hc20 (i := 0) rfl
              have c1 := cell_at hc20 (i := 1) rfl
              have f0 := frz_at (i := 0) hc20
              have f1 := frz_at (i := 1) hc20
              clear g89 g90 g91 g92 g93 g94 g88 g95 q95 q88 e20
              refine wpAny_ready (rs := [8, 10]) (by kernel_rfl) (by simp) (AllReady.cons rfl ?_ (AllReady.cons rfl ?_ AllReady.nil))
              · intro K hK
                go_simp
                refine hK _ _ ?_
                clear hK K
                refine wpAny_one 10 (by kernel_rfl) rfl (fun K hK => ?_)
                go_simp
                refine hK _ _ ?_
                clear hK K
                refine wpAny_one 11 (by kernel_rfl) rfl (fun K hK => ?_)
                go_simp
                refine hK _ _ ?_
                clear hK K
                refine wpAny_done (by kernel_rfl) ?_ 0
                have HC9 := Lib.hid (row2_set (p0 := .string cs) (p1 := .int .i64 cm) hc20)
                have HRG9 := Lib.hid (((ranges_ext HRG5a.out hxT).kept (grown_set wT bc 0 (.string cs)) (by simp; omega) (by simp; omega)).kept (grown_set _ bc 1 (.int .i64 cm)) (by simp; omega) (by simp; omega))
                have HB9 := Lib.hid (far1 (i := 1) (u := .int .i64 cm) (show bc ≠ bb by omega) (far1 (i := 0) (u := .string cs) (show bc ≠ bb by omega) (row_on HB5a.out hxT)))
                have HX9 := Lib.hid (((HX5a.out.trans hxT).setCell (p := ⟨bc, 0, none⟩) (by rw [HBB.out]; show bb ≤ bc; omega) (.string cs)).setCell (p := ⟨bc, 1, none⟩) (by rw [HBB.out]; show bb ≤ bc; omega) (.int .i64 cm))
                generalize (wT.setCell ⟨bc, 0, none⟩ (.string cs)).setCell ⟨bc, 1, none⟩ (.int .i64 cm) = w9 at HC9 HRG9 HB9 HX9 ⊢
                clear c0 c1 f0 f1 hc20 HFI HP hxT HX5a HRG5a HB5a HPS HXS
                have d0 := cell_at HC9.out (i := 0) rfl
                have d1 := cell_at HC9.out (i := 1) rfl
                have e0 := cell_at HB9.out (i := 0) rfl
                have e1 := cell_at HB9.out (i := 1) rfl
                have f0 := frz_at (i := 0) HB9.out
                have f1 := frz_at (i := 1) HB9.out
                cases fd with
                | false =>
                  have HK9 := Lib.hid (HEN.take HK.out HA'.out HCC.out (.inl rfl))
                  have HBw := HB9
                  have HRGw := HRG9
                  have HXw := HX9
                  have HB10 := Lib.hid (row2_set (p0 := .string cs) (p1 := .int .i64 cm) HBw.out)
                  have HRG10 := Lib.hid ((HRGw.out.kept (grown_set w9 bb 0 (.string cs)) (by simp; omega) (by simp; omega)).kept (grown_set _ bb 1 (.int .i64 cm)) (by simp; omega) (by simp; omega))
                  have HX10 := Lib.hid ((HXw.out.setCell (p := ⟨bb, 0, none⟩) (by rw [HBB.out]; exact Nat.le_refl _) (.string cs)).setCell (p := ⟨bb, 1, none⟩) (by rw [HBB.out]; exact Nat.le_refl _) (.int .i64 cm))
                  clear HK HA' HC HBw HRGw HXw
                  go_wp2
                  go_roundw
                  case rel => exact ⟨_, cnt5, true, pt ++ x, cm, rfl, HRG10, by rw [HCS.out]; exact HB10, Lib.hid (fun _ => HCC.out), Lib.hid (fun h => ⟨rfl, (HK9.out h).2⟩), HX10⟩
                  case measure => rw [HRG10.out.left_eq]; exact hlt5'
                | true =>
                  have HBT := Lib.hid (better_any (pt ++ x, cm) (bT, bC))
                  have HQV : Hid (ptV (pt ++ x, cm) = .agg #[.string cs, .int .i64 cm]) := Lib.hid (by rw [← HCS.out]; rfl)
                  rw [HQV.out] at HBT
                  change Hid (∀ W, Calls _ _ #[.agg #[.string cs, .int .i64 cm], .agg #[.string (bS bT), .int .i64 bC]] W _) at HBT
                  obtain ⟨ts, hts⟩ : ∃ ts, bS bT = ts := ⟨_, rfl⟩
                  have HTS := Lib.hid hts
                  rw [hts] at HBT HB9 e0
                  clear hts
                  cases hbt : Gl.bet (pt ++ x, cm) (bT, bC) with
                  | true =>
                    rw [hbt] at HBT
                    have HK9 := Lib.hid (HEN.take HK.out HA'.out HCC.out (.inr hbt))
                    clear HK HA' HC hbt
                    go_wp2_with fail
                    refine (HBT.out _).mono ?_
                    rintro e w10 ⟨rfl, hx10⟩
                    have hq10 := row_on HC9.out hx10
                    have hb10 := row_on HB9.out hx10
                    have d0' := cell_at hq10 (i := 0) rfl
                    have d1' := cell_at hq10 (i := 1) rfl
                    have e0' := cell_at hb10 (i := 0) rfl
                    have e1' := cell_at hb10 (i := 1) rfl
                    have f0' := frz_at (i := 0) hb10
                    have f1' := frz_at (i := 1) hb10
                    clear hq10
                    have HBw := Lib.hid hb10
                    clear hb10
                    have HRGw := Lib.hid (ranges_ext HRG9.out hx10)
                    have HXw := Lib.hid (HX9.out.trans hx10)
                    clear hx10
                    have HB10 := Lib.hid (row2_set (p0 := .string cs) (p1 := .int .i64 cm) HBw.out)
                    have HRG10 := Lib.hid ((HRGw.out.kept (grown_set w10 bb 0 (.string cs)) (by simp; omega) (by simp; omega)).kept (grown_set _ bb 1 (.int .i64 cm)) (by simp; omega) (by simp; omega))
                    have HX10 := Lib.hid ((HXw.out.setCell (p := ⟨bb, 0, none⟩) (by rw [HBB.out]; exact Nat.le_refl _) (.string cs)).setCell (p := ⟨bb, 1, none⟩) (by rw [HBB.out]; exact Nat.le_refl _) (.int .i64 cm))
                    clear HBw HRGw HXw
                    go_wp2
                    go_roundw
                    case rel => exact ⟨_, cnt5, true, pt ++ x, cm, rfl, HRG10, by rw [HCS.out]; exact HB10, Lib.hid (fun _ => HCC.out), Lib.hid (fun h => ⟨rfl, (HK9.out h).2⟩), HX10⟩
                    case measure => rw [HRG10.out.left_eq]; exact hlt5'
                  | false =>
                    rw [hbt] at HBT
                    have HK9 := Lib.hid (HEN.stay HK.out HA'.out (HC.out rfl) hbt rfl)
                    have HC' := HC
                    clear HK HA' HC hbt
                    go_wp2_with fail
                    refine (HBT.out _).mono ?_
                    rintro e w10 ⟨rfl, hx10⟩
                    have HBw := Lib.hid (row_on HB9.out hx10)
                    have HRGw := Lib.hid (ranges_ext HRG9.out hx10)
                    have HXw := Lib.hid (HX9.out.trans hx10)
                    clear hx10
                    go_wp2
                    go_roundw
                    case rel => exact ⟨_, cnt5, true, bT, bC, rfl, HRGw, by rw [HTS.out]; exact HBw, Lib.hid (fun _ => HC'.out (by trivial)), Lib.hid (fun h => ⟨rfl, (HK9.out h).2⟩), HXw⟩
                    case measure => rw [HRGw.out.left_eq]; exact hlt5'
              · intro K hK
                go_simp
                refine hK _ _ ?_
                clear hK K
                refine wpAny_one 8 (by kernel_rfl) rfl (fun K hK => ?_)
                go_simp
                refine hK _ _ ?_
                clear hK K
                refine wpAny_one 11 (by kernel_rfl) rfl (fun K hK => ?_)
                go_simp
                refine hK _ _ ?_
                clear hK K
                refine wpAny_done (by kernel_rfl) ?_ 0
                have HC9 := Lib.hid (row2_set (p0 := .string cs) (p1 := .int .i64 cm) hc20)
                have HRG9 := Lib.hid (((ranges_ext HRG5a.out hxT).kept (grown_set wT bc 0 (.string cs)) (by simp; omega) (by simp; omega)).kept (grown_set _ bc 1 (.int .i64 cm)) (by simp; omega) (by simp; omega))
                have HB9 := Lib.hid (far1 (i := 1) (u := .int .i64 cm) (show bc ≠ bb by omega) (far1 (i := 0) (u := .string cs) (show bc ≠ bb by omega) (row_on HB5a.out hxT)))
                have HX9 := Lib.hid (((HX5a.out.trans hxT).setCell (p := ⟨bc, 0, none⟩) (by rw [HBB.out]; show bb ≤ bc; omega) (.string cs)).setCell (p := ⟨bc, 1, none⟩) (by rw [HBB.out]; show bb ≤ bc; omega) (.int .i64 cm))
                generalize (wT.setCell ⟨bc, 0, none⟩ (.string cs)).setCell ⟨bc, 1, none⟩ (.int .i64 cm) = w9 at HC9 HRG9 HB9 HX9 ⊢
                clear c0 c1 f0 f1 hc20 HFI HP hxT HX5a HRG5a HB5a HPS HXS
                have d0 := cell_at HC9.out (i := 0) rfl
                have d1 := cell_at HC9.out (i := 1) rfl
                have e0 := cell_at HB9.out (i := 0) rfl
                have e1 := cell_at HB9.out (i := 1) rfl
                have f0 := frz_at (i := 0) HB9.out
                have f1 := frz_at (i := 1) HB9.out
                cases fd with
                | false =>
                  have HK9 := Lib.hid (HEN.take HK.out HA'.out HCC.out (.inl rfl))
                  have HBw := HB9
                  have HRGw := HRG9
                  have HXw := HX9
                  have HB10 := Lib.hid (row2_set (p0 := .string cs) (p1 := .int .i64 cm) HBw.out)
                  have HRG10 := Lib.hid ((HRGw.out.kept (grown_set w9 bb 0 (.string cs)) (by simp; omega) (by simp; omega)).kept (grown_set _ bb 1 (.int .i64 cm)) (by simp; omega) (by simp; omega))
                  have HX10 := Lib.hid ((HXw.out.setCell (p := ⟨bb, 0, none⟩) (by rw [HBB.out]; exact Nat.le_refl _) (.string cs)).setCell (p := ⟨bb, 1, none⟩) (by rw [HBB.out]; exact Nat.le_refl _) (.int .i64 cm))
                  clear HK HA' HC HBw HRGw HXw
                  go_wp2
                  go_roundw
                  case rel => exact ⟨_, cnt5, true, pt ++ x, cm, rfl, HRG10, by rw [HCS.out]; exact HB10, Lib.hid (fun _ => HCC.out), Lib.hid (fun h => ⟨rfl, (HK9.out h).2⟩), HX10⟩
                  case measure => rw [HRG10.out.left_eq]; exact hlt5'
                | true =>
                  have HBT := Lib.hid (better_any (pt ++ x, cm) (bT, bC))
                  have HQV : Hid (ptV (pt ++ x, cm) = .agg #[.string cs, .int .i64 cm]) := Lib.hid (by rw [← HCS.out]; rfl)
                  rw [HQV.out] at HBT
                  change Hid (∀ W, Calls _ _ #[.agg #[.string cs, .int .i64 cm], .agg #[.string (bS bT), .int .i64 bC]] W _) at HBT
                  obtain ⟨ts, hts⟩ : ∃ ts, bS bT = ts := ⟨_, rfl⟩
                  have HTS := Lib.hid hts
                  rw [hts] at HBT HB9 e0
                  clear hts
                  cases hbt : Gl.bet (pt ++ x, cm) (bT, bC) with
                  | true =>
                    rw [hbt] at HBT
                    have HK9 := Lib.hid (HEN.take HK.out HA'.out HCC.out (.inr hbt))
                    clear HK HA' HC hbt
                    go_wp2_with fail
                    refine (HBT.out _).mono ?_
                    rintro e w10 ⟨rfl, hx10⟩
                    have hq10 := row_on HC9.out hx10
                    have hb10 := row_on HB9.out hx10
                    have d0' := cell_at hq10 (i := 0) rfl
                    have d1' := cell_at hq10 (i := 1) rfl
                    have e0' := cell_at hb10 (i := 0) rfl
                    have e1' := cell_at hb10 (i := 1) rfl
                    have f0' := frz_at (i := 0) hb10
                    have f1' := frz_at (i := 1) hb10
                    clear hq10
                    have HBw := Lib.hid hb10
                    clear hb10
                    have HRGw := Lib.hid (ranges_ext HRG9.out hx10)
                    have HXw := Lib.hid (HX9.out.trans hx10)
                    clear hx10
                    have HB10 := Lib.hid (row2_set (p0 := .string cs) (p1 := .int .i64 cm) HBw.out)
                    have HRG10 := Lib.hid ((HRGw.out.kept (grown_set w10 bb 0 (.string cs)) (by simp; omega) (by simp; omega)).kept (grown_set _ bb 1 (.int .i64 cm)) (by simp; omega) (by simp; omega))
                    have HX10 := Lib.hid ((HXw.out.setCell (p := ⟨bb, 0, none⟩) (by rw [HBB.out]; exact Nat.le_refl _) (.string cs)).setCell (p := ⟨bb, 1, none⟩) (by rw [HBB.out]; exact Nat.le_refl _) (.int .i64 cm))
                    clear HBw HRGw HXw
                    go_wp2
                    go_roundw
                    case rel => exact ⟨_, cnt5, true, pt ++ x, cm, rfl, HRG10, by rw [HCS.out]; exact HB10, Lib.hid (fun _ => HCC.out), Lib.hid (fun h => ⟨rfl, (HK9.out h).2⟩), HX10⟩
                    case measure => rw [HRG10.out.left_eq]; exact hlt5'
                  | false =>
                    rw [hbt] at HBT
                    have HK9 := Lib.hid (HEN.stay HK.out HA'.out (HC.out rfl) hbt rfl)
                    have HC' := HC
                    clear HK HA' HC hbt
                    go_wp2_with fail
                    refine (HBT.out _).mono ?_
                    rintro e w10 ⟨rfl, hx10⟩
                    have HBw := Lib.hid (row_on HB9.out hx10)
                    have HRGw := Lib.hid (ranges_ext HRG9.out hx10)
                    have HXw := Lib.hid (HX9.out.trans hx10)
                    clear hx10
                    go_wp2
                    go_roundw
                    case rel => exact ⟨_, cnt5, true, bT, bC, rfl, HRGw, by rw [HTS.out]; exact HBw, Lib.hid (fun _ => HC'.out (by trivial)), Lib.hid (fun h => ⟨rfl, (HK9.out h).2⟩), HXw⟩
                    case measure => rw [HRGw.out.left_eq]; exact hlt5'
set_option maxRecDepth 100000 in
set_option maxHeartbeats 8000000 in
theorem resolve1_any (check : Int) (gs : List Gv) (xss : List (List Gl.Ch)) (pat : List UInt8) (n : Nat) (T : Nat → Gl.Pt) (F : Gl.Pt) (v : Value) (w : World) (hck : 1 ≤ check ∧ check ≤ 8) (hv : KSl 7 encV w v gs) (hr : AllR w gs xss) (h64 : gs.length ≤ 64) (hpl : pat.length = gs.length) (hpat : ∀ c ∈ pat, c = 100 ∨ c = 97 ∨ c = 120)
    (hn : n + (Cd.size check.toNat) = gs.length) (hn0 : 0 < n) (HWI : Gl.Wins (Gl.optsOf gs xss pat) check n T) (HEN : Gl.Ends (Gl.optsOf gs xss pat) check n T F) (hcost : ∀ l ∈ Gl.optsOf gs xss pat, ∀ c ∈ l, 0 ≤ c.2 ∧ c.2 ≤ 35) (hmany : ∀ l ∈ Gl.optsOf gs xss pat, l.length ≤ 200000) :
    Calls Tryz.prog 26 #[v, .string (bS pat), .int .i64 check] w fun e w' => e = .returned (.tuple #[.string (bS F.1), .int .i64 F.2, .int .i64 0]) ∧ Ext w w' := by
  have h0 : 0 < gs.length := by omega
  obtain ⟨b, off, cap, rfl, hb, hcl⟩ := hv.some_ h0
  obtain ⟨N, hN⟩ : ∃ N, gs.length = N := ⟨_, rfl⟩
  have HTR := Lib.hid (trimP_any pat (by omega) (by omega) hpat)
  have HNG := Lib.hid (fun w' (h : Ext w w') => noneG_any _ gs xss w' (hv.ext h) (hr.ext h) h0 h64)
  have hopl := Gl.optsOf_len (pat := pat) hr.1 hpl
  have HOA : Hid (∀ (i : Nat) x xs k, gs[i]? = some x → xss[i]? = some xs → pat[i]? = some k → (Gl.optsOf gs xss pat)[i]? = some (Gl.chs (x.2.1 :: xs) k)) := Lib.hid (fun i x xs k h1 h2 h3 => Gl.optsOf_at h1 h2 h3)
  obtain ⟨os, hos⟩ : ∃ os, Gl.optsOf gs xss pat = os := ⟨_, rfl⟩
  rw [hos] at HWI HEN hcost hmany hopl HOA
  have HKZ : Hid (∀ t, (Gl.keyS check t n).2 = true → (Cd.size check.toNat) = (Gl.keyS check t n).1.length) := Lib.hid (fun t h => by
    have := Gl.keyS_size h
    rw [if_neg (by omega)] at this
    exact this)
  obtain ⟨sz, hsz⟩ : ∃ sz, (Cd.size check.toNat) = sz := ⟨_, rfl⟩
  rw [hsz] at hn HKZ
  have hszb : 1 ≤ sz ∧ sz ≤ 2 := by rw [← hsz]; unfold Cd.size; split <;> omega
  have HSI := Lib.hid (size_any check)
  rw [if_neg (by omega), if_neg (by omega), hsz] at HSI
  have hcb : (check != 0) = true := by simp; omega
  clear hck
  have hsn : ¬ ((N : Int) ≤ (sz : Int)) := by omega
  have hpss : (bS pat).size = N := by rw [bS_size, hpl, hN]
  have HPA : Hid (∀ (i : Nat) k, pat[i]? = some k → ∃ h : i < (bS pat).size, (bS pat)[i] = k) := Lib.hid (fun i k h => by
    have hi := (List.getElem?_eq_some_iff.1 h).1
    refine ⟨by rw [bS_size]; exact hi, ?_⟩
    have := (List.getElem?_eq_some_iff.1 h).2
    rw [← this]; rfl)
  obtain ⟨ps, hps⟩ : ∃ ps, bS pat = ps := ⟨_, rfl⟩
  rw [hps] at hpss HTR HPA ⊢
  have HPL := Lib.hid hpl
  have HCL := Lib.hid hcl
  have HR := Lib.hid hr
  have HCO := Lib.hid hcost
  have HMA := Lib.hid hmany
  have HOL := Lib.hid hopl
  rw [hN] at hn h0 h64 HNG HOL ⊢
  have HN := Lib.hid hN
  have hN0 : ((N : Int) == 0) = false := by simp; omega
  have hpN : ((ps.size : Int) != (N : Int)) = false := by simp [hpss]
  have eN : (N : Int) - (sz : Int) = (n : Int) := by omega
  have HPSS := Lib.hid hpss
  have HBW := Lib.hid hb
  clear hv hr hpl hpat hos hN hps hcl hcost hmany hopl hsz hb hpss
  go_enter Tryz.func26, Tryz.ntmps26
  go_wp2_with fail
  refine (HSI.out _).mono ?_
  rintro e w0 ⟨rfl, hx0⟩
  go_wp2_with fail
  refine (HTR.out _).mono ?_
  rintro e w1 ⟨rfl, hx1⟩
  have HX1 := Lib.hid (hx0.trans hx1)
  clear hx0 hx1
  go_wp2_with fail
  refine (HNG.out _ HX1.out).mono ?_
  rintro e w2 ⟨rfl, hx2⟩
  have HX2 := Lib.hid (HX1.out.trans hx2)
  clear hx2 HX1 HTR HNG
  go_wp2
  go_loopw [12, 60] (fun v12 v60 wr => ∃ (i : Nat) (vs : List Sv), i ≤ N ∧ v60 = .int .i64 (i : Int) ∧ Hid (KOwn 35 1 encS wr w2.heap.size v12 vs) ∧ vs.length = i ∧ Hid (FamO wr v12 vs os) ∧ Hid (Ext w2 wr)) (fun _ v60 _ => N - (intOf v60).toNat)
  case atStart => exact ⟨0, [], Nat.zero_le _, rfl, Lib.hid (KOwn.nil _ _ _ _ _), rfl, Lib.hid (fun j x l h => by simp at h), Lib.hid (Ext.refl _)⟩
  case round =>
    obtain ⟨i, vs, hi, rfl, HO, hvl, HF, HX⟩ := hrel
    by_cases hlt : i < N
    · obtain ⟨x, hx⟩ : ∃ x, gs[i]? = some x := ⟨_, List.getElem?_eq_getElem (by rw [HN.out]; exact hlt)⟩
      have HXA := Lib.hid (HX2.out.trans HX.out)
      obtain ⟨xs, hxs, hin⟩ := (HR.out.ext HXA.out).at_ hx
      obtain ⟨kc, hk⟩ : ∃ kc, pat[i]? = some kc := ⟨_, List.getElem?_eq_getElem (by rw [HPL.out, HN.out]; exact hlt)⟩
      obtain ⟨hips, hkc0⟩ := HPA.out i kc hk
      have hol := HOA.out i x xs kc hx hxs hk
      have hc := fun c (h : c < 7) => by
        have := HCL.out i x hx c h
        rw [← HXA.out.cell (p := ⟨b, off + i * 7 + c, none⟩) HBW.out] at this
        exact this
      obtain ⟨⟨b0, b1, b2, b3⟩, ⟨ga, gm⟩, gv⟩ := x
      have q0 : wr.cell? ⟨b, off + i * 7, none⟩ = some (.int .i64 b0) := hc 0 (by omega)
      have q1 : wr.cell? ⟨b, off + i * 7 + 1, none⟩ = some (.int .i64 b1) := hc 1 (by omega)
      have q2 : wr.cell? ⟨b, off + i * 7 + 2, none⟩ = some (.int .i64 b2) := hc 2 (by omega)
      have q3 : wr.cell? ⟨b, off + i * 7 + 3, none⟩ = some (.int .i64 b3) := hc 3 (by omega)
      have q4 : wr.cell? ⟨b, off + i * 7 + 4, none⟩ = some (.int .u8 (ga.toNat : Int)) := hc 4 (by omega)
      have q5 : wr.cell? ⟨b, off + i * 7 + 5, none⟩ = some (.int .i64 gm) := hc 5 (by omega)
      have q6 : wr.cell? ⟨b, off + i * 7 + 6, none⟩ = some gv := hc 6 (by omega)
      obtain ⟨va, vc, hgv⟩ := hin.1.form
      obtain ⟨nx, hnx⟩ : ∃ nx, xs.length = nx := ⟨_, rfl⟩
      rw [hnx] at hgv
      dsimp only at hol hgv
      subst hgv
      obtain ⟨L, hL⟩ : ∃ L, Gl.chs ((ga, gm) :: xs) kc = L := ⟨_, rfl⟩
      rw [hL] at hol
      have HOLI := Lib.hid hol
      have hkv := hin.1
      have hxsl := hin.2.1
      have HCH0 := Lib.hid (fun w' (h : Ext wr w') => choices_any b0 b1 b2 b3 ga kc gm (.slice va nx vc) xs w' (hkv.ext h) hxsl)
      rw [hL] at HCH0
      have hltI : (i : Int) < (N : Int) := by omega
      have hipsI : (i : Int) < (ps.size : Int) := by omega
      clear hx hxs hin hk hol hc hkv hxsl hL hnx
      go_wp2
      clear q0 q1 q2 q3 q4 q5 q6
      have HG0 := Lib.hid (heap_alloc_new wr (.cells #[.int .i64 b0, .int .i64 b1, .int .i64 b2, .int .i64 b3, .int .u8 (ga.toNat : Int), .int .i64 gm, .slice va nx vc] 54))
      have HXG : Hid (Ext wr (wr.alloc (.cells #[.int .i64 b0, .int .i64 b1, .int .i64 b2, .int .i64 b3, .int .u8 (ga.toNat : Int), .int .i64 gm, .slice va nx vc] 54))) := Lib.hid ((Ext.refl _).alloc _)
      generalize wr.alloc (.cells #[.int .i64 b0, .int .i64 b1, .int .i64 b2, .int .i64 b3, .int .u8 (ga.toNat : Int), .int .i64 gm, .slice va nx vc] 54) = w3 at HG0 HXG ⊢
      obtain ⟨bg, hbg⟩ : ∃ bg, wr.heap.size = bg := ⟨_, rfl⟩
      rw [hbg] at HG0 ⊢
      have HBG := Lib.hid hbg
      have HG : Hid (w3.heap[bg]? = some (.cells #[.int .i64 b0, .int .i64 b1, .int .i64 b2, .int .i64 b3, .int .u8 (ga.toNat : Int), .int .i64 gm, .slice va nx vc] 54 (0, 0))) := HG0
      have HCH : Hid (∀ w', Ext w3 w' → Calls Tryz.prog 56 #[.agg #[.int .i64 b0, .int .i64 b1, .int .i64 b2, .int .i64 b3, .int .u8 (ga.toNat : Int), .int .i64 gm, .slice va nx vc], .int .u8 (kc.toNat : Int)] w' fun e w'' => ∃ g cap, e = .returned (.slice (some ⟨g, 0, none⟩) L.length cap) ∧ bg ≤ g ∧ Row2 w'' g L ∧ Ext w' w'') :=
        Lib.hid (fun w' h => (HCH0.out w' (HXG.out.trans h)).mono fun e w'' ⟨g, cap, he, hg, hr, hy⟩ => ⟨g, cap, he, Nat.le_trans (by rw [← HBG.out]; exact (HXG.out.trans h).size) hg, hr, hy⟩)
      have hkc : ps[i].toNat = kc.toNat := by rw [hkc0]
      clear HCH0 HG0 hbg hkc0
      refine wp_region_rel 7 2 rfl [65, 66, 67, 68, 69, 70, 71] [[], [], [], [], [2, 3], [1, 4], [5]] (by kernel_rfl) (by kernel_rfl) ?_
      apply relPlan_eq'
      · intro V w' hx hf
        with_reducible refine relAt_ops ?_
        intro A ρ hA hρ hcst hfun
        have h12 : ρ (.tmp 12) = u12 := (congrFun hρ _).trans (evalMiss hA 12 rfl)
        exact relUpon_move (hk := by rw [h12]; exact ⟨Ext.refl _, rfl⟩)
      refine relPlan_by (eqv (.agg #[.int .i64 b0, .int .i64 b1, .int .i64 b2, .int .i64 b3, .int .u8 (ga.toNat : Int), .int .i64 gm, .slice va nx vc])) (eqv_stable _) ?_ ?_
      · intro V w' hx hf
        with_reducible refine relAt_ops ?_
        intro A ρ hA hρ hcst hfun
        have h14 : ρ (.tmp 14) = .pointer (some ⟨bg, 0, none⟩) := (congrFun hρ _).trans (evalMiss hA 14 rfl)
        have HMw := row_on HG.out hx
        have q0 := cell_at HMw (i := 0) rfl
        have q1 := cell_at HMw (i := 1) rfl
        have q2 := cell_at HMw (i := 2) rfl
        have q3 := cell_at HMw (i := 3) rfl
        have q4 := cell_at HMw (i := 4) rfl
        have q5 := cell_at HMw (i := 5) rfl
        have q6 := cell_at HMw (i := 6) rfl
        simp [relUpon, go_sem, Ext.refl, h14, q0,q1,q2,q3,q4,q5,q6]
        try rfl
      apply relPlan_eq'
      · intro V w' hx hf
        with_reducible refine relAt_ops ?_
        intro A ρ hA hρ hcst hfun
        have h1 : ρ (.tmp 1) = .string ps := (congrFun hρ _).trans (evalMiss hA 1 rfl)
        exact relUpon_move (hk := by rw [h1]; exact ⟨Ext.refl _, rfl⟩)
      apply relPlan_eq'
      · intro V w' hx hf
        with_reducible refine relAt_ops ?_
        intro A ρ hA hρ hcst hfun
        have h13 : ρ (.tmp 13) = .int .i64 (i : Int) := (congrFun hρ _).trans (evalMiss hA 13 rfl)
        exact relUpon_move (hk := by rw [h13]; exact ⟨Ext.refl _, rfl⟩)
      refine relPlan_by (eqv (.int .u8 (kc.toNat : Int))) (eqv_stable _) ?_ ?_
      · intro V w' hx hf
        with_reducible refine relAt_ops ?_
        intro A ρ hA hρ hcst hfun
        obtain ⟨f67, f68, _⟩ := hf
        have h67 : ρ (.tmp 67) = _ := (congrFun hρ _).trans ((evalHit hA 67 rfl).trans f67)
        have h68 : ρ (.tmp 68) = _ := (congrFun hρ _).trans ((evalHit hA 68 rfl).trans f68)
        simp [relUpon, go_sem, Ext.refl, h67, h68, hipsI, hkc]
        try rfl
      refine relPlan_by (chAt bg L) (chAt_stable _ _) ?_ ?_
      · intro V w' hx hf
        with_reducible refine relAt_ops ?_
        intro A ρ hA hρ hcst hfun
        obtain ⟨f66, f69, _⟩ := hf
        have h66 : ρ (.tmp 66) = _ := (congrFun hρ _).trans ((evalHit hA 66 rfl).trans f66)
        have h69 : ρ (.tmp 69) = _ := (congrFun hρ _).trans ((evalHit hA 69 rfl).trans f69)
        simp [relUpon, go_sem, hfun, h66, h69]
        exact (HCH.out w' hx).mono fun e w'' ⟨g, cap, he, hg, hr, hy⟩ => ⟨_, he, hy, g, cap, rfl, hg, hr⟩
      refine relPlan_by (ch1At bg L) (ch1At_stable _ _) ?_ ?_
      · intro V w' hx hf
        with_reducible refine relAt_ops ?_
        intro A ρ hA hρ hcst hfun
        obtain ⟨f70, _⟩ := hf
        have h70 : ρ (.tmp 70) = V 70 := (congrFun hρ _).trans (evalHit hA 70 rfl)
        obtain ⟨g, cap, e70, hg, hr⟩ := f70
        have e70 : V 70 = _ := e70
        rw [e70] at h70
        simp [relUpon, go_sem, h70]
        exact ⟨(Ext.refl _).alloc _, g, cap, oneAt.new (u := ((some ⟨g, 0, none⟩, L.length, cap) : Sv)) _ _ _ rfl, hg, hr.ext ((Ext.refl _).alloc _)⟩
      intro V wT hxT hf
      obtain ⟨g65, g66, g67, g68, g69, g70, g71, _⟩ := hf
      refine wpAny_tail2 7 72 12 _ _ (by kernel_rfl) rfl rfl (by kernel_rfl) rfl rfl (.inr rfl) (by kernel_rfl) rfl rfl rfl (fun K hK => ?_)
      obtain ⟨g, cap, ⟨b71, e71, hb71, hc71⟩, hg, hrow⟩ := g71
      refine wp_append_k (.tmp 65) (.tmp 71) 93 35 (.slice none 0 0) 24 rfl Tryz.underlying93 info_choices rfl (by decide) (by decide) encS_len encS_one w2.heap.size u12 vs ((evalHit rfl 65 rfl).trans g65) (HO.out.ext (HXG.out.trans hxT)) b71 (some ⟨g, 0, none⟩, L.length, cap) ((evalHit rfl 71 rfl).trans e71) hc71 (by omega) (Nat.le_trans HX.out.size (HXG.out.trans hxT).size) ?_
      intro v' w5 hown5 hg5 hloc5
      refine hK _ _ ?_
      simp only [fillA, List.foldl_cons, List.foldl_nil, Act.put, List.setIfInBounds_toArray, List.set_cons_succ, List.set_cons_zero]
      have hne : u12.ownBlock ≠ some g := fun h => by
        have h1 := (World.ownsRow.lt HO.out g h).2
        rw [HBG.out] at h1
        omega
      have HO5 := Lib.hid hown5
      have HF5 := Lib.hid ((HF.out.ext (HXG.out.trans hxT)).step (by rw [hvl]; exact HOLI.out) hne hrow hg5 hloc5 (cap := cap))
      have HX5 : Hid (Ext w2 w5) := Lib.hid ((HX.out.trans (HXG.out.trans hxT)).ofGrown hg5 (fun k hk => HO.out.low k hk))
      clear hown5 hg5 hloc5 hne hrow hg e71 hb71 hc71 g65 g66 g67 g68 g69 g70 HG HCH hkc HO HF HX
      go_wp2
      go_roundw
      case rel => exact ⟨i + 1, vs ++ [_], by omega, by go_num, HO5, by rw [List.length_append, hvl]; rfl, HF5, HX5⟩
      case measure => simp [intOf]; omega
    · have eiN : N = i := by omega
      subst eiN
      obtain ⟨wB, hwB⟩ : ∃ wB, wB = wr := ⟨_, rfl⟩
      subst hwB
      clear hlt hi
      have hopt := HF.out.opts HO.out (hvl.trans HOL.out.symm)
      obtain ⟨ao, co, hu12, hco⟩ := hopt.form
      rw [HOL.out] at hu12 hco
      subst hu12
      obtain ⟨vd, hsd, hopd⟩ := opts_drop hopt n (by omega)
      have HSD := Lib.hid hsd
      have HOD := Lib.hid hopd
      have HBE := Lib.hid (fun w' (h : Ext wB w') => begin_any check n os T _ w' (hopt.ext h) (by rw [HOL.out]; omega) (by rw [HOL.out]; omega) HWI HCO.out HMA.out)
      have HXR := Lib.hid (HX2.out.trans HX.out)
      clear hopt hsd hopd HF HO hvl HX HPA HOA HPL HCL HR HPSS HBW HN HX2
      go_wp2_with fail
      refine (HBE.out _ ((Ext.refl _).alloc _)).mono ?_
      rintro e w3 ⟨bm, D, rfl, hbm, hownm, hS, hT, hx3⟩
      have hb0 := row_on (heap_alloc_new wB (.cells #[.string ⟨#[]⟩, .int .i64 0] 96)) hx3
      have HX3 : Hid (Ext wB w3) := Lib.hid (((Ext.refl wB).alloc _).trans hx3)
      rw [World.size_alloc] at hbm
      obtain ⟨bb, hbb⟩ : ∃ bb, wB.heap.size = bb := ⟨_, rfl⟩
      rw [hbb] at hbm hb0 ⊢
      have HBB := Lib.hid hbb
      have HBA := Lib.hid hb0
      have HOW := Lib.hid hownm
      have HS := Lib.hid hS
      have HT := Lib.hid hT
      clear hbb hb0 hownm hS hT hx3 HBE
      go_wp2_with (first | (at_range; refine wpList_range_own _ rfl _ 97 rfl 9 96 strK Tryz.underlying97 partR bm 65793 D rfl HOW.out ?_; intro w4 hrg4 hg4 hs4) | go_in)
      go_frame
      have hbmr := HOW.out.lt
      obtain ⟨br, hbr⟩ : ∃ br, w3.heap.size = br := ⟨_, rfl⟩
      rw [hbr] at hrg4 hs4 hbmr ⊢
      have HRG4 := Lib.hid hrg4
      have HBA4 := Lib.hid ((hg4.block bb (lt_at HBA.out) (by simp)).trans HBA.out)
      have HX4 : Hid (Ext wB w4) := Lib.hid (HX3.out.ofGrown hg4 (fun k hk => by cases hk))
      clear hrg4 hg4 hs4 hbr HOW HX3 HBA
      go_loopw [17, 83] (fun v17 _ wq => ∃ (left : Lit → Bool) (cnt : Nat) (fd : Bool) (bT : List UInt8) (bC : Int), v17 = .bool fd ∧ Hid (wq.ranges Tryz.prog 9 partR bm br 65793 D left cnt) ∧ Hid (wq.heap[bb]? = some (.cells #[.string (bS bT), .int .i64 bC] 96 (0, 0))) ∧ Hid (fd = true → Gl.Cand os check n (bT, bC)) ∧ Hid (left (.string (Gl.keyAt check n n (T n).1)) = false → fd = true ∧ (bT, bC) = F) ∧ Hid (Ext wB wq)) (fun _ _ wq => wq.rangeLeft bm br)
      case atStart => exact ⟨_, _, false, [], 0, rfl, HRG4, HBA4, Lib.hid (fun h => by cases h), Lib.hid (fun h => by rw [HT.out.1] at h; cases h), HX4⟩
      case round =>
        clear HRG4 HBA4 HX4
        obtain ⟨left, cnt, fd, bT, bC, rfl, HRG, HBA, HC, HK, HXQ⟩ := hrel
        go_wp2_with (first | (at_next; refine wpList_next_part _ rfl _ rfl 9 strK Tryz.underlying9 bm br 65793 D left cnt rfl HRG.out ?_ ?_) | go_in)
        · intro _ hl0
          obtain ⟨rfl, hF⟩ := HK.out (hl0 _)
          have c0 := cell_at HBA.out (i := 0) rfl
          have c1 := cell_at HBA.out (i := 1) rfl
          have HXF := Lib.hid (HXR.out.trans HXQ.out)
          have HFF := Lib.hid hF
          clear hl0 hF HRG HK HC HWI HEN
          go_wp2
          go_region
          go_wp2
          go_ret3
          first
            | exact ⟨by rw [← HFF.out]; rfl, HXF.out⟩
            | exact ⟨by rw [← HFF.out]; rfl, HXF.out.drew⟩
        · intro x pt pc w5 cnt5 hlx hat hrg5 hlt5 hg5 hs5 hen
          obtain ⟨p', hgd, hok, hkx, hp'⟩ := HS.out (.string x) (has_true_of_atKey hat)
          obtain rfl : p' = (pt, pc) := Gl.dat_inj ((hp' .nil).symm.trans (hat .nil))
          have hok := hok hn0
          have hxk : x = (Gl.keyS check pt n).1 := by
            injection hkx with hkx
            rw [hkx]; exact if_neg (by omega)
          have hzx : sz = x.length := by rw [hxk]; exact HKZ.out pt hok
          have hxl : x.length ≤ 2 := by rw [hxk]; exact Gl.keyS_len check pt n
          have hptl := hgd.len
          have hpcb := hgd.cost HCO.out
          dsimp only at hptl hpcb
          have HFI0 := Lib.hid (fun w' (h : Ext wB w') => finish_any (pt, pc) x (os.drop n) vd w' (HOD.out.ext h) (by rw [List.length_drop, HOL.out]; omega) (by omega) (by dsimp only; omega) ⟨hpcb.1, by dsimp only; omega⟩ (fun l hl => HCO.out l (List.mem_of_mem_drop hl)) (fun l hl => HMA.out l (List.mem_of_mem_drop hl)))
          have HTP : Hid (Lit.string (Gl.keyAt check n n (T n).1) = .string x → (pt, pc) = T n) := Lib.hid (fun e => by
            have := HT.out.2 .nil
            rw [e, hat .nil] at this
            exact Gl.dat_inj this)
          have HX5 : Hid (Ext wB w5) := Lib.hid (HXQ.out.ofGrown hg5 (fun k hk => by injection hk with hk; have := HBB.out; omega))
          have HB5 := Lib.hid ((hg5.block bb (lt_at HBA.out) (by simp; omega)).trans HBA.out)
          have hbr5 : br < w5.heap.size := hrg5.lt
          have HRG5 := Lib.hid hrg5
          have hlt5' : cnt5 < wr.rangeLeft bm br := by rw [HRG.out.left_eq]; exact hlt5
          have HGD := Lib.hid hgd
          have HOK := Lib.hid hok
          have HXK := Lib.hid hxk
          obtain ⟨pts, hps⟩ : ∃ pts, bS pt = pts := ⟨_, rfl⟩
          obtain ⟨xs, hxs⟩ : ∃ xs, bS x = xs := ⟨_, rfl⟩
          rw [hps, hxs] at hen ⊢
          have HPS := Lib.hid hps
          have HXS := Lib.hid hxs
          clear hgd hok hkx hp' hat hlx hrg5 hg5 hlt5 hps hxs hs5 hxk hzx hxl hptl hpcb HRG HBA HXQ
          have HX5a : Hid (Ext wB (w5.alloc (.cells #[.string pts, .int .i64 pc] 96))) := Lib.hid (HX5.out.alloc _)
          have HRG5a := Lib.hid (HRG5.out.alloc (.cells #[.string pts, .int .i64 pc] 96))
          have HB5a := Lib.hid (row_on HB5.out ((Ext.refl w5).alloc (.cells #[.string pts, .int .i64 pc] 96)))
          have HC5 := Lib.hid (heap_alloc_new w5 (.cells #[.string pts, .int .i64 pc] 96))
          go_wp2
          obtain ⟨bp, hbp⟩ : ∃ bp, w5.heap.size = bp := ⟨_, rfl⟩
          rw [hbp] at HC5 hbr5 ⊢
          clear hen hbp
          generalize w5.alloc (.cells #[.string pts, .int .i64 pc] 96) = w6 at HX5a HRG5a HB5a HC5 ⊢
          have HP : Hid (w6.heap[bp]? = some (.cells #[.string pts, .int .i64 pc] 96 (0, 0))) := HC5
          clear HC5 HX5 HRG5 HB5
          cases hr : Gl.rest (os.drop n) x with
          | none =>
            rw [hr] at HFI0
            have HFI : Hid (∀ w', Ext w6 w' → Calls Tryz.prog 58 #[.agg #[.string pts, .int .i64 pc], .string xs, vd] w' fun e w'' => e = .returned (.tuple #[.agg #[.string ⟨#[]⟩, .int .i64 0], .bool false]) ∧ Ext w' w'') := Lib.hid (fun w' h => by
              have := HFI0.out w' (HX5a.out.trans h)
              rw [← HPS.out, ← HXS.out]
              exact this)
            have HKN : Hid ((left (.string (Gl.keyAt check n n (T n).1)) && !(Lit.string (Gl.keyAt check n n (T n).1)).sameKey (.string x)) = false → fd = true ∧ (bT, bC) = F) := Lib.hid (fun h => by
              cases hl : left (.string (Gl.keyAt check n n (T n).1)) with
              | false => exact HK.out hl
              | true =>
                rw [hl, Bool.true_and, Bool.not_eq_false'] at h
                exact (HEN.lost (HTP.out (WideAt.sameKey_eq h)) (by dsimp only; rw [← HXK.out]; exact hr)).elim)
            clear hr HFI0 HK HTP
            refine wp_region_relL 10 2 8 rfl [89, 90, 91, 92, 93, 94, 88, 95, 96, 20] [[], [], [], [], [2, 3], [0, 1, 4], [5], [6], [6], []] (by kernel_rfl) (by kernel_rfl) ?_
            refine relPlan_by (eqv (.agg #[.string pts, .int .i64 pc])) (eqv_stable _) ?_ ?_
            · intro V w' hx hf
              with_reducible refine relAt_ops ?_
              intro A ρ hA hρ hcst hfun
              have h19 : ρ (.tmp 19) = .pointer (some ⟨bp, 0, none⟩) := (congrFun hρ _).trans (evalMiss hA 19 rfl)
              have HMw := row_on HP.out hx
              have q0 := cell_at HMw (i := 0) rfl
              have q1 := cell_at HMw (i := 1) rfl
              simp [relUpon, go_sem, Ext.refl, h19, q0,q1]
              try rfl
            apply relPlan_eq'
            · intro V w' hx hf
              with_reducible refine relAt_ops ?_
              intro A ρ hA hρ hcst hfun
              have h18 : ρ (.tmp 18) = .string xs := (congrFun hρ _).trans (evalMiss hA 18 rfl)
              exact relUpon_move (hk := by rw [h18]; exact ⟨Ext.refl _, rfl⟩)
            apply relPlan_eq'
            · intro V w' hx hf
              with_reducible refine relAt_ops ?_
              intro A ρ hA hρ hcst hfun
              have h12 : ρ (.tmp 12) = .slice ao N co := (congrFun hρ _).trans (evalMiss hA 12 rfl)
              exact relUpon_move (hk := by rw [h12]; exact ⟨Ext.refl _, rfl⟩)
            apply relPlan_eq'
            · intro V w' hx hf
              with_reducible refine relAt_ops ?_
              intro A ρ hA hρ hcst hfun
              have h15 : ρ (.tmp 15) = .int .i64 (n : Int) := (congrFun hρ _).trans (evalMiss hA 15 rfl)
              exact relUpon_move (hk := by rw [h15]; exact ⟨Ext.refl _, rfl⟩)
            refine relPlan_by (eqv vd) (eqv_stable _) ?_ ?_
            · intro V w' hx hf
              with_reducible refine relAt_ops ?_
              intro A ρ hA hρ hcst hfun
              obtain ⟨f91, f92, _⟩ := hf
              have h91 : ρ (.tmp 91) = _ := (congrFun hρ _).trans ((evalHit hA 91 rfl).trans f91)
              have h92 : ρ (.tmp 92) = _ := (congrFun hρ _).trans ((evalHit hA 92 rfl).trans f92)
              simp [relUpon, go_sem, h91, h92, HSD.out]
              exact ⟨Ext.refl _, rfl⟩
            refine relPlan_by (eqv (.tuple #[.agg #[.string ⟨#[]⟩, .int .i64 0], .bool false])) (eqv_stable _) ?_ ?_
            · intro V w' hx hf
              with_reducible refine relAt_ops ?_
              intro A ρ hA hρ hcst hfun
              obtain ⟨f89, f90, f93, _⟩ := hf
              have h89 : ρ (.tmp 89) = _ := (congrFun hρ _).trans ((evalHit hA 89 rfl).trans f89)
              have h90 : ρ (.tmp 90) = _ := (congrFun hρ _).trans ((evalHit hA 90 rfl).trans f90)
              have h93 : ρ (.tmp 93) = _ := (congrFun hρ _).trans ((evalHit hA 93 rfl).trans f93)
              simp [relUpon, go_sem, hfun, h89, h90, h93]
              exact (HFI.out w' hx).mono fun e w'' ⟨he, hy⟩ => ⟨_, he, hy, rfl⟩
            apply relPlan_eq'
            · intro V w' hx hf
              with_reducible refine relAt_ops ?_
              intro A ρ hA hρ hcst hfun
              obtain ⟨f94, _⟩ := hf
              have h94 : ρ (.tmp 94) = _ := (congrFun hρ _).trans ((evalHit hA 94 rfl).trans f94)
              exact relUpon_move (hk := by rw [h94]; exact ⟨Ext.refl _, rfl⟩)
            apply relPlan_eq'
            · intro V w' hx hf
              with_reducible refine relAt_ops ?_
              intro A ρ hA hρ hcst hfun
              obtain ⟨f88, _⟩ := hf
              have h88 : ρ (.tmp 88) = _ := (congrFun hρ _).trans ((evalHit hA 88 rfl).trans f88)
              simp [relUpon, go_sem, Ext.refl, h88]
              rfl
            apply relPlan_eq'
            · intro V w' hx hf
              with_reducible refine relAt_ops ?_
              intro A ρ hA hρ hcst hfun
              obtain ⟨f88, _⟩ := hf
              have h88 : ρ (.tmp 88) = _ := (congrFun hρ _).trans ((evalHit hA 88 rfl).trans f88)
              simp [relUpon, go_sem, Ext.refl, h88]
              rfl
            refine relPlan_by (newPt bp) (newPt_stable _) ?_ ?_
            · intro V w' hx hf
              with_reducible refine relAt_ops ?_
              intro A ρ hA hρ hcst hfun
              simp [relUpon, go_sem]
              exact ⟨(Ext.refl _).alloc _, _, rfl, Nat.le_trans (Nat.le_of_lt (lt_at HP.out)) hx.size, heap_alloc_new _ _⟩
            refine ⟨?_, ?_⟩
            · intro V wT hxT hf
              obtain ⟨g89, g90, g91, g92, g93, g94, g88, g95, g96, g20, _⟩ := hf
              obtain ⟨bc, e20, hbc, hc20⟩ := g20
              have q88 : V 88 = _ := g88
              have q95 : V 95 = .agg #[.string ⟨#[]⟩, .int .i64 0] := g95
              have q96 : V 96 = .bool false := g96
              simp only [fillA, List.foldl_cons, List.foldl_nil, Act.put, List.setIfInBounds_toArray, List.set_cons_succ, List.set_cons_zero]
              have e20 : V 20 = _ := e20
              rw [e20, q88, q95, q96]
              have c0 := cell_at hc20 (i := 0) rfl
              have c1 := cell_at hc20 (i := 1) rfl
              have f0 := frz_at (i := 0) hc20
              have f1 := frz_at (i := 1) hc20
              clear g89 g90 g91 g92 g93 g94 g88 g95 g96 q96 q95 q88 e20
              refine wpAny_one 10 (by kernel_rfl) rfl (fun K hK => ?_)
              go_simp
              refine hK _ _ ?_
              clear hK K
              refine wpAny_one 11 (by kernel_rfl) rfl (fun K hK => ?_)
              go_simp
              refine hK _ _ ?_
              clear hK K
              refine wpAny_done (by kernel_rfl) ?_ 0
              have HC9 := Lib.hid (row2_set (p0 := .string ⟨#[]⟩) (p1 := .int .i64 0) hc20)
              have HRG9 := Lib.hid (((ranges_ext HRG5a.out hxT).kept (grown_set wT bc 0 (.string ⟨#[]⟩)) (by simp; omega) (by simp; omega)).kept (grown_set _ bc 1 (.int .i64 0)) (by simp; omega) (by simp; omega))
              have HB9 := Lib.hid (far1 (i := 1) (u := .int .i64 0) (show bc ≠ bb by omega) (far1 (i := 0) (u := .string ⟨#[]⟩) (show bc ≠ bb by omega) (row_on HB5a.out hxT)))
              have HX9 := Lib.hid (((HX5a.out.trans hxT).setCell (p := ⟨bc, 0, none⟩) (by rw [HBB.out]; show bb ≤ bc; omega) (.string ⟨#[]⟩)).setCell (p := ⟨bc, 1, none⟩) (by rw [HBB.out]; show bb ≤ bc; omega) (.int .i64 0))
              generalize (wT.setCell ⟨bc, 0, none⟩ (.string ⟨#[]⟩)).setCell ⟨bc, 1, none⟩ (.int .i64 0) = w9 at HC9 HRG9 HB9 HX9 ⊢
              clear c0 c1 f0 f1 hc20 HFI HP hxT HX5a HRG5a HB5a HPS HXS
              go_wp2
              go_roundw
              case rel => exact ⟨_, cnt5, fd, bT, bC, rfl, HRG9, HB9, HC, HKN, HX9⟩
              case measure => rw [HRG9.out.left_eq]; exact hlt5'
            · intro V wT hxT hf
              obtain ⟨g89, g90, g91, g92, g93, g94, g88, g95, g20, _⟩ := hf
              obtain ⟨bc, e20, hbc, hc20⟩ := g20
              have q88 : V 88 = _ := g88
              have q95 : V 95 = .agg #[.string ⟨#[]⟩, .int .i64 0] := g95
              simp only [fillA, List.foldl_cons, List.foldl_nil, Act.put, List.setIfInBounds_toArray, List.set_cons_succ, List.set_cons_zero]
              have e20 : V 20 = _ := e20
              rw [e20, q88, q95]
              have c0 := cell_at hc20 (i := 0) rfl
              have c1 := cell_at hc20 (i := 1) rfl
              have f0 := frz_at (i := 0) hc20
              have f1 := frz_at (i := 1) hc20
              clear g89 g90 g91 g92 g93 g94 g88 g95 q95 q88 e20
              refine wpAny_ready (rs := [8, 10]) (by kernel_rfl) (by simp) (AllReady.cons rfl ?_ (AllReady.cons rfl ?_ AllReady.nil))
              · intro K hK
                go_simp
                refine hK _ _ ?_
                clear hK K
                refine wpAny_one 10 (by kernel_rfl) rfl (fun K hK => ?_)
                go_simp
                refine hK _ _ ?_
                clear hK K
                refine wpAny_one 11 (by kernel_rfl) rfl (fun K hK => ?_)
                go_simp
                refine hK _ _ ?_
                clear hK K
                refine wpAny_done (by kernel_rfl) ?_ 0
                have HC9 := Lib.hid (row2_set (p0 := .string ⟨#[]⟩) (p1 := .int .i64 0) hc20)
                have HRG9 := Lib.hid (((ranges_ext HRG5a.out hxT).kept (grown_set wT bc 0 (.string ⟨#[]⟩)) (by simp; omega) (by simp; omega)).kept (grown_set _ bc 1 (.int .i64 0)) (by simp; omega) (by simp; omega))
                have HB9 := Lib.hid (far1 (i := 1) (u := .int .i64 0) (show bc ≠ bb by omega) (far1 (i := 0) (u := .string ⟨#[]⟩) (show bc ≠ bb by omega) (row_on HB5a.out hxT)))
                have HX9 := Lib.hid (((HX5a.out.trans hxT).setCell (p := ⟨bc, 0, none⟩) (by rw [HBB.out]; show bb ≤ bc; omega) (.string ⟨#[]⟩)).setCell (p := ⟨bc, 1, none⟩) (by rw [HBB.out]; show bb ≤ bc; omega) (.int .i64 0))
                generalize (wT.setCell ⟨bc, 0, none⟩ (.string ⟨#[]⟩)).setCell ⟨bc, 1, none⟩ (.int .i64 0) = w9 at HC9 HRG9 HB9 HX9 ⊢
                clear c0 c1 f0 f1 hc20 HFI HP hxT HX5a HRG5a HB5a HPS HXS
                go_wp2
                go_roundw
                case rel => exact ⟨_, cnt5, fd, bT, bC, rfl, HRG9, HB9, HC, HKN, HX9⟩
                case measure => rw [HRG9.out.left_eq]; exact hlt5'
              · intro K hK
                go_simp
                refine hK _ _ ?_
                clear hK K
                refine wpAny_one 8 (by kernel_rfl) rfl (fun K hK => ?_)
                go_simp
                refine hK _ _ ?_
                clear hK K
                refine wpAny_one 11 (by kernel_rfl) rfl (fun K hK => ?_)
                go_simp
                refine hK _ _ ?_
                clear hK K
                refine wpAny_done (by kernel_rfl) ?_ 0
                have HC9 := Lib.hid (row2_set (p0 := .string ⟨#[]⟩) (p1 := .int .i64 0) hc20)
                have HRG9 := Lib.hid (((ranges_ext HRG5a.out hxT).kept (grown_set wT bc 0 (.string ⟨#[]⟩)) (by simp; omega) (by simp; omega)).kept (grown_set _ bc 1 (.int .i64 0)) (by simp; omega) (by simp; omega))
                have HB9 := Lib.hid (far1 (i := 1) (u := .int .i64 0) (show bc ≠ bb by omega) (far1 (i := 0) (u := .string ⟨#[]⟩) (show bc ≠ bb by omega) (row_on HB5a.out hxT)))
                have HX9 := Lib.hid (((HX5a.out.trans hxT).setCell (p := ⟨bc, 0, none⟩) (by rw [HBB.out]; show bb ≤ bc; omega) (.string ⟨#[]⟩)).setCell (p := ⟨bc, 1, none⟩) (by rw [HBB.out]; show bb ≤ bc; omega) (.int .i64 0))
                generalize (wT.setCell ⟨bc, 0, none⟩ (.string ⟨#[]⟩)).setCell ⟨bc, 1, none⟩ (.int .i64 0) = w9 at HC9 HRG9 HB9 HX9 ⊢
                clear c0 c1 f0 f1 hc20 HFI HP hxT HX5a HRG5a HB5a HPS HXS
                go_wp2
                go_roundw
                case rel => exact ⟨_, cnt5, fd, bT, bC, rfl, HRG9, HB9, HC, HKN, HX9⟩
                case measure => rw [HRG9.out.left_eq]; exact hlt5'
          | some m =>
            rw [hr] at HFI0
            obtain ⟨cs, hcs⟩ : ∃ cs, bS (pt ++ x) = cs := ⟨_, rfl⟩
            obtain ⟨cm, hcm⟩ : ∃ cm, pc + m = cm := ⟨_, rfl⟩
            have HCS := Lib.hid hcs
            have HCM := Lib.hid hcm
            have HFI : Hid (∀ w', Ext w6 w' → Calls Tryz.prog 58 #[.agg #[.string pts, .int .i64 pc], .string xs, vd] w' fun e w'' => e = .returned (.tuple #[.agg #[.string cs, .int .i64 cm], .bool true]) ∧ Ext w' w'') := Lib.hid (fun w' h => by
              have := HFI0.out w' (HX5a.out.trans h)
              rw [← HPS.out, ← HXS.out, ← hcs, ← hcm]
              exact this)
            have HA' : Hid ((left (.string (Gl.keyAt check n n (T n).1)) && !(Lit.string (Gl.keyAt check n n (T n).1)).sameKey (.string x)) = false → left (.string (Gl.keyAt check n n (T n).1)) = false ∨ (pt ++ x, cm) = F) := Lib.hid (fun h => by
              cases hl : left (.string (Gl.keyAt check n n (T n).1)) with
              | false => exact .inl rfl
              | true =>
                rw [hl, Bool.true_and, Bool.not_eq_false'] at h
                refine .inr ?_
                have := HEN.won (HTP.out (WideAt.sameKey_eq h)) (m := m) (by dsimp only; rw [← HXK.out]; exact hr)
                dsimp only at this
                rw [← HXK.out, hcm] at this
                exact this)
            have HCC : Hid (Gl.Cand os check n (pt ++ x, cm)) := Lib.hid ⟨(pt, pc), m, HGD.out, HOK.out, by dsimp only; rw [← HXK.out]; exact hr, by dsimp only; rw [← HXK.out, hcm]⟩
            clear hr HFI0 HTP hcs hcm
            refine wp_region_relL 10 2 8 rfl [89, 90, 91, 92, 93, 94, 88, 95, 96, 20] [[], [], [], [], [2, 3], [0, 1, 4], [5], [6], [6], []] (by kernel_rfl) (by kernel_rfl) ?_
            refine relPlan_by (eqv (.agg #[.string pts, .int .i64 pc])) (eqv_stable _) ?_ ?_
            · intro V w' hx hf
              with_reducible refine relAt_ops ?_
              intro A ρ hA hρ hcst hfun
              have h19 : ρ (.tmp 19) = .pointer (some ⟨bp, 0, none⟩) := (congrFun hρ _).trans (evalMiss hA 19 rfl)
              have HMw := row_on HP.out hx
              have q0 := cell_at HMw (i := 0) rfl
              have q1 := cell_at HMw (i := 1) rfl
              simp [relUpon, go_sem, Ext.refl, h19, q0,q1]
              try rfl
            apply relPlan_eq'
            · intro V w' hx hf
              with_reducible refine relAt_ops ?_
              intro A ρ hA hρ hcst hfun
              have h18 : ρ (.tmp 18) = .string xs := (congrFun hρ _).trans (evalMiss hA 18 rfl)
              exact relUpon_move (hk := by rw [h18]; exact ⟨Ext.refl _, rfl⟩)
            apply relPlan_eq'
            · intro V w' hx hf
              with_reducible refine relAt_ops ?_
              intro A ρ hA hρ hcst hfun
              have h12 : ρ (.tmp 12) = .slice ao N co := (congrFun hρ _).trans (evalMiss hA 12 rfl)
              exact relUpon_move (hk := by rw [h12]; exact ⟨Ext.refl _, rfl⟩)
            apply relPlan_eq'
            · intro V w' hx hf
              with_reducible refine relAt_ops ?_
              intro A ρ hA hρ hcst hfun
              have h15 : ρ (.tmp 15) = .int .i64 (n : Int) := (congrFun hρ _).trans (evalMiss hA 15 rfl)
              exact relUpon_move (hk := by rw [h15]; exact ⟨Ext.refl _, rfl⟩)
            refine relPlan_by (eqv vd) (eqv_stable _) ?_ ?_
            · intro V w' hx hf
              with_reducible refine relAt_ops ?_
              intro A ρ hA hρ hcst hfun
              obtain ⟨f91, f92, _⟩ := hf
              have h91 : ρ (.tmp 91) = _ := (congrFun hρ _).trans ((evalHit hA 91 rfl).trans f91)
              have h92 : ρ (.tmp 92) = _ := (congrFun hρ _).trans ((evalHit hA 92 rfl).trans f92)
              simp [relUpon, go_sem, h91, h92, HSD.out]
              exact ⟨Ext.refl _, rfl⟩
            refine relPlan_by (eqv (.tuple #[.agg #[.string cs, .int .i64 cm], .bool true])) (eqv_stable _) ?_ ?_
            · intro V w' hx hf
              with_reducible refine relAt_ops ?_
              intro A ρ hA hρ hcst hfun
              obtain ⟨f89, f90, f93, _⟩ := hf
              have h89 : ρ (.tmp 89) = _ := (congrFun hρ _).trans ((evalHit hA 89 rfl).trans f89)
              have h90 : ρ (.tmp 90) = _ := (congrFun hρ _).trans ((evalHit hA 90 rfl).trans f90)
              have h93 : ρ (.tmp 93) = _ := (congrFun hρ _).trans ((evalHit hA 93 rfl).trans f93)
              simp [relUpon, go_sem, hfun, h89, h90, h93]
              exact (HFI.out w' hx).mono fun e w'' ⟨he, hy⟩ => ⟨_, he, hy, rfl⟩
            apply relPlan_eq'
            · intro V w' hx hf
              with_reducible refine relAt_ops ?_
              intro A ρ hA hρ hcst hfun
              obtain ⟨f94, _⟩ := hf
              have h94 : ρ (.tmp 94) = _ := (congrFun hρ _).trans ((evalHit hA 94 rfl).trans f94)
              exact relUpon_move (hk := by rw [h94]; exact ⟨Ext.refl _, rfl⟩)
            apply relPlan_eq'
            · intro V w' hx hf
              with_reducible refine relAt_ops ?_
              intro A ρ hA hρ hcst hfun
              obtain ⟨f88, _⟩ := hf
              have h88 : ρ (.tmp 88) = _ := (congrFun hρ _).trans ((evalHit hA 88 rfl).trans f88)
              simp [relUpon, go_sem, Ext.refl, h88]
              rfl
            apply relPlan_eq'
            · intro V w' hx hf
              with_reducible refine relAt_ops ?_
              intro A ρ hA hρ hcst hfun
              obtain ⟨f88, _⟩ := hf
              have h88 : ρ (.tmp 88) = _ := (congrFun hρ _).trans ((evalHit hA 88 rfl).trans f88)
              simp [relUpon, go_sem, Ext.refl, h88]
              rfl
            refine relPlan_by (newPt bp) (newPt_stable _) ?_ ?_
            · intro V w' hx hf
              with_reducible refine relAt_ops ?_
              intro A ρ hA hρ hcst hfun
              simp [relUpon, go_sem]
              exact ⟨(Ext.refl _).alloc _, _, rfl, Nat.le_trans (Nat.le_of_lt (lt_at HP.out)) hx.size, heap_alloc_new _ _⟩
            refine ⟨?_, ?_⟩
            · intro V wT hxT hf
              obtain ⟨g89, g90, g91, g92, g93, g94, g88, g95, g96, g20, _⟩ := hf
              obtain ⟨bc, e20, hbc, hc20⟩ := g20
              have q88 : V 88 = _ := g88
              have q95 : V 95 = .agg #[.string cs, .int .i64 cm] := g95
              have q96 : V 96 = .bool true := g96
              simp only [fillA, List.foldl_cons, List.foldl_nil, Act.put, List.setIfInBounds_toArray, List.set_cons_succ, List.set_cons_zero]
              have e20 : V 20 = _ := e20
              rw [e20, q88, q95, q96]
              have c0 := cell_at hc20 (i := 0) rfl
              have c1 := cell_at hc20 (i := 1) rfl
              have f0 := frz_at (i := 0) hc20
              have f1 := frz_at (i := 1) hc20
              clear g89 g90 g91 g92 g93 g94 g88 g95 g96 q96 q95 q88 e20
              refine wpAny_one 10 (by kernel_rfl) rfl (fun K hK => ?_)
              go_simp
              refine hK _ _ ?_
              clear hK K
              refine wpAny_one 11 (by kernel_rfl) rfl (fun K hK => ?_)
              go_simp
              refine hK _ _ ?_
              clear hK K
              refine wpAny_done (by kernel_rfl) ?_ 0
              have HC9 := Lib.hid (row2_set (p0 := .string cs) (p1 := .int .i64 cm) hc20)
              have HRG9 := Lib.hid (((ranges_ext HRG5a.out hxT).kept (grown_set wT bc 0 (.string cs)) (by simp; omega) (by simp; omega)).kept (grown_set _ bc 1 (.int .i64 cm)) (by simp; omega) (by simp; omega))
              have HB9 := Lib.hid (far1 (i := 1) (u := .int .i64 cm) (show bc ≠ bb by omega) (far1 (i := 0) (u := .string cs) (show bc ≠ bb by omega) (row_on HB5a.out hxT)))
              have HX9 := Lib.hid (((HX5a.out.trans hxT).setCell (p := ⟨bc, 0, none⟩) (by rw [HBB.out]; show bb ≤ bc; omega) (.string cs)).setCell (p := ⟨bc, 1, none⟩) (by rw [HBB.out]; show bb ≤ bc; omega) (.int .i64 cm))
              generalize (wT.setCell ⟨bc, 0, none⟩ (.string cs)).setCell ⟨bc, 1, none⟩ (.int .i64 cm) = w9 at HC9 HRG9 HB9 HX9 ⊢
              clear c0 c1 f0 f1 hc20 HFI HP hxT HX5a HRG5a HB5a HPS HXS
              have d0 := cell_at HC9.out (i := 0) rfl
              have d1 := cell_at HC9.out (i := 1) rfl
              have e0 := cell_at HB9.out (i := 0) rfl
              have e1 := cell_at HB9.out (i := 1) rfl
              have f0 := frz_at (i := 0) HB9.out
              have f1 := frz_at (i := 1) HB9.out
              cases fd with
              | false =>
                have HK9 := Lib.hid (HEN.take HK.out HA'.out HCC.out (.inl rfl))
                have HBw := HB9
                have HRGw := HRG9
                have HXw := HX9
                have HB10 := Lib.hid (row2_set (p0 := .string cs) (p1 := .int .i64 cm) HBw.out)
                have HRG10 := Lib.hid ((HRGw.out.kept (grown_set w9 bb 0 (.string cs)) (by simp; omega) (by simp; omega)).kept (grown_set _ bb 1 (.int .i64 cm)) (by simp; omega) (by simp; omega))
                have HX10 := Lib.hid ((HXw.out.setCell (p := ⟨bb, 0, none⟩) (by rw [HBB.out]; exact Nat.le_refl _) (.string cs)).setCell (p := ⟨bb, 1, none⟩) (by rw [HBB.out]; exact Nat.le_refl _) (.int .i64 cm))
                clear HK HA' HC HBw HRGw HXw
                go_wp2
                go_roundw
                case rel => exact ⟨_, cnt5, true, pt ++ x, cm, rfl, HRG10, by rw [HCS.out]; exact HB10, Lib.hid (fun _ => HCC.out), Lib.hid (fun h => ⟨rfl, (HK9.out h).2⟩), HX10⟩
                case measure => rw [HRG10.out.left_eq]; exact hlt5'
              | true =>
                have HBT := Lib.hid (better_any (pt ++ x, cm) (bT, bC))
                have HQV : Hid (ptV (pt ++ x, cm) = .agg #[.string cs, .int .i64 cm]) := Lib.hid (by rw [← HCS.out]; rfl)
                rw [HQV.out] at HBT
                change Hid (∀ W, Calls _ _ #[.agg #[.string cs, .int .i64 cm], .agg #[.string (bS bT), .int .i64 bC]] W _) at HBT
                obtain ⟨ts, hts⟩ : ∃ ts, bS bT = ts := ⟨_, rfl⟩
                have HTS := Lib.hid hts
                rw [hts] at HBT HB9 e0
                clear hts
                cases hbt : Gl.bet (pt ++ x, cm) (bT, bC) with
                | true =>
                  rw [hbt] at HBT
                  have HK9 := Lib.hid (HEN.take HK.out HA'.out HCC.out (.inr hbt))
                  clear HK HA' HC hbt
                  go_wp2_with fail
                  refine (HBT.out _).mono ?_
                  rintro e w10 ⟨rfl, hx10⟩
                  have hq10 := row_on HC9.out hx10
                  have hb10 := row_on HB9.out hx10
                  have d0' := cell_at hq10 (i := 0) rfl
                  have d1' := cell_at hq10 (i := 1) rfl
                  have e0' := cell_at hb10 (i := 0) rfl
                  have e1' := cell_at hb10 (i := 1) rfl
                  have f0' := frz_at (i := 0) hb10
                  have f1' := frz_at (i := 1) hb10
                  clear hq10
                  have HBw := Lib.hid hb10
                  clear hb10
                  have HRGw := Lib.hid (ranges_ext HRG9.out hx10)
                  have HXw := Lib.hid (HX9.out.trans hx10)
                  clear hx10
                  have HB10 := Lib.hid (row2_set (p0 := .string cs) (p1 := .int .i64 cm) HBw.out)
                  have HRG10 := Lib.hid ((HRGw.out.kept (grown_set w10 bb 0 (.string cs)) (by simp; omega) (by simp; omega)).kept (grown_set _ bb 1 (.int .i64 cm)) (by simp; omega) (by simp; omega))
                  have HX10 := Lib.hid ((HXw.out.setCell (p := ⟨bb, 0, none⟩) (by rw [HBB.out]; exact Nat.le_refl _) (.string cs)).setCell (p := ⟨bb, 1, none⟩) (by rw [HBB.out]; exact Nat.le_refl _) (.int .i64 cm))
                  clear HBw HRGw HXw
                  go_wp2
                  go_roundw
                  case rel => exact ⟨_, cnt5, true, pt ++ x, cm, rfl, HRG10, by rw [HCS.out]; exact HB10, Lib.hid (fun _ => HCC.out), Lib.hid (fun h => ⟨rfl, (HK9.out h).2⟩), HX10⟩
                  case measure => rw [HRG10.out.left_eq]; exact hlt5'
                | false =>
                  rw [hbt] at HBT
                  have HK9 := Lib.hid (HEN.stay HK.out HA'.out (HC.out rfl) hbt rfl)
                  have HC' := HC
                  clear HK HA' HC hbt
                  go_wp2_with fail
                  refine (HBT.out _).mono ?_
                  rintro e w10 ⟨rfl, hx10⟩
                  have HBw := Lib.hid (row_on HB9.out hx10)
                  have HRGw := Lib.hid (ranges_ext HRG9.out hx10)
                  have HXw := Lib.hid (HX9.out.trans hx10)
                  clear hx10
                  go_wp2
                  go_roundw
                  case rel => exact ⟨_, cnt5, true, bT, bC, rfl, HRGw, by rw [HTS.out]; exact HBw, Lib.hid (fun _ => HC'.out (by trivial)), Lib.hid (fun h => ⟨rfl, (HK9.out h).2⟩), HXw⟩
                  case measure => rw [HRGw.out.left_eq]; exact hlt5'
            · intro V wT hxT hf
              obtain ⟨g89, g90, g91, g92, g93, g94, g88, g95, g20, _⟩ := hf
              obtain ⟨bc, e20, hbc, hc20⟩ := g20
              have q88 : V 88 = _ := g88
              have q95 : V 95 = .agg #[.string cs, .int .i64 cm] := g95
              simp only [fillA, List.foldl_cons, List.foldl_nil, Act.put, List.setIfInBounds_toArray, List.set_cons_succ, List.set_cons_zero]
              have e20 : V 20 = _ := e20
              rw [e20, q88, q95]
              have c0 := cell_at hc20 (i := 0) rfl
              have c1 := cell_at hc20 (i := 1) rfl
              have f0 := frz_at (i := 0) hc20
              have f1 := frz_at (i := 1) hc20
              clear g89 g90 g91 g92 g93 g94 g88 g95 q95 q88 e20
              refine wpAny_ready (rs := [8, 10]) (by kernel_rfl) (by simp) (AllReady.cons rfl ?_ (AllReady.cons rfl ?_ AllReady.nil))
              · intro K hK
                go_simp
                refine hK _ _ ?_
                clear hK K
                refine wpAny_one 10 (by kernel_rfl) rfl (fun K hK => ?_)
                go_simp
                refine hK _ _ ?_
                clear hK K
                refine wpAny_one 11 (by kernel_rfl) rfl (fun K hK => ?_)
                go_simp
                refine hK _ _ ?_
                clear hK K
                refine wpAny_done (by kernel_rfl) ?_ 0
                have HC9 := Lib.hid (row2_set (p0 := .string cs) (p1 := .int .i64 cm) hc20)
                have HRG9 := Lib.hid (((ranges_ext HRG5a.out hxT).kept (grown_set wT bc 0 (.string cs)) (by simp; omega) (by simp; omega)).kept (grown_set _ bc 1 (.int .i64 cm)) (by simp; omega) (by simp; omega))
                have HB9 := Lib.hid (far1 (i := 1) (u := .int .i64 cm) (show bc ≠ bb by omega) (far1 (i := 0) (u := .string cs) (show bc ≠ bb by omega) (row_on HB5a.out hxT)))
                have HX9 := Lib.hid (((HX5a.out.trans hxT).setCell (p := ⟨bc, 0, none⟩) (by rw [HBB.out]; show bb ≤ bc; omega) (.string cs)).setCell (p := ⟨bc, 1, none⟩) (by rw [HBB.out]; show bb ≤ bc; omega) (.int .i64 cm))
                generalize (wT.setCell ⟨bc, 0, none⟩ (.string cs)).setCell ⟨bc, 1, none⟩ (.int .i64 cm) = w9 at HC9 HRG9 HB9 HX9 ⊢
                clear c0 c1 f0 f1 hc20 HFI HP hxT HX5a HRG5a HB5a HPS HXS
                have d0 := cell_at HC9.out (i := 0) rfl
                have d1 := cell_at HC9.out (i := 1) rfl
                have e0 := cell_at HB9.out (i := 0) rfl
                have e1 := cell_at HB9.out (i := 1) rfl
                have f0 := frz_at (i := 0) HB9.out
                have f1 := frz_at (i := 1) HB9.out
                cases fd with
                | false =>
                  have HK9 := Lib.hid (HEN.take HK.out HA'.out HCC.out (.inl rfl))
                  have HBw := HB9
                  have HRGw := HRG9
                  have HXw := HX9
                  have HB10 := Lib.hid (row2_set (p0 := .string cs) (p1 := .int .i64 cm) HBw.out)
                  have HRG10 := Lib.hid ((HRGw.out.kept (grown_set w9 bb 0 (.string cs)) (by simp; omega) (by simp; omega)).kept (grown_set _ bb 1 (.int .i64 cm)) (by simp; omega) (by simp; omega))
                  have HX10 := Lib.hid ((HXw.out.setCell (p := ⟨bb, 0, none⟩) (by rw [HBB.out]; exact Nat.le_refl _) (.string cs)).setCell (p := ⟨bb, 1, none⟩) (by rw [HBB.out]; exact Nat.le_refl _) (.int .i64 cm))
                  clear HK HA' HC HBw HRGw HXw
                  go_wp2
                  go_roundw
                  case rel => exact ⟨_, cnt5, true, pt ++ x, cm, rfl, HRG10, by rw [HCS.out]; exact HB10, Lib.hid (fun _ => HCC.out), Lib.hid (fun h => ⟨rfl, (HK9.out h).2⟩), HX10⟩
                  case measure => rw [HRG10.out.left_eq]; exact hlt5'
                | true =>
                  have HBT := Lib.hid (better_any (pt ++ x, cm) (bT, bC))
                  have HQV : Hid (ptV (pt ++ x, cm) = .agg #[.string cs, .int .i64 cm]) := Lib.hid (by rw [← HCS.out]; rfl)
                  rw [HQV.out] at HBT
                  change Hid (∀ W, Calls _ _ #[.agg #[.string cs, .int .i64 cm], .agg #[.string (bS bT), .int .i64 bC]] W _) at HBT
                  obtain ⟨ts, hts⟩ : ∃ ts, bS bT = ts := ⟨_, rfl⟩
                  have HTS := Lib.hid hts
                  rw [hts] at HBT HB9 e0
                  clear hts
                  cases hbt : Gl.bet (pt ++ x, cm) (bT, bC) with
                  | true =>
                    rw [hbt] at HBT
                    have HK9 := Lib.hid (HEN.take HK.out HA'.out HCC.out (.inr hbt))
                    clear HK HA' HC hbt
                    go_wp2_with fail
                    refine (HBT.out _).mono ?_
                    rintro e w10 ⟨rfl, hx10⟩
                    have hq10 := row_on HC9.out hx10
                    have hb10 := row_on HB9.out hx10
                    have d0' := cell_at hq10 (i := 0) rfl
                    have d1' := cell_at hq10 (i := 1) rfl
                    have e0' := cell_at hb10 (i := 0) rfl
                    have e1' := cell_at hb10 (i := 1) rfl
                    have f0' := frz_at (i := 0) hb10
                    have f1' := frz_at (i := 1) hb10
                    clear hq10
                    have HBw := Lib.hid hb10
                    clear hb10
                    have HRGw := Lib.hid (ranges_ext HRG9.out hx10)
                    have HXw := Lib.hid (HX9.out.trans hx10)
                    clear hx10
                    have HB10 := Lib.hid (row2_set (p0 := .string cs) (p1 := .int .i64 cm) HBw.out)
                    have HRG10 := Lib.hid ((HRGw.out.kept (grown_set w10 bb 0 (.string cs)) (by simp; omega) (by simp; omega)).kept (grown_set _ bb 1 (.int .i64 cm)) (by simp; omega) (by simp; omega))
                    have HX10 := Lib.hid ((HXw.out.setCell (p := ⟨bb, 0, none⟩) (by rw [HBB.out]; exact Nat.le_refl _) (.string cs)).setCell (p := ⟨bb, 1, none⟩) (by rw [HBB.out]; exact Nat.le_refl _) (.int .i64 cm))
                    clear HBw HRGw HXw
                    go_wp2
                    go_roundw
                    case rel => exact ⟨_, cnt5, true, pt ++ x, cm, rfl, HRG10, by rw [HCS.out]; exact HB10, Lib.hid (fun _ => HCC.out), Lib.hid (fun h => ⟨rfl, (HK9.out h).2⟩), HX10⟩
                    case measure => rw [HRG10.out.left_eq]; exact hlt5'
                  | false =>
                    rw [hbt] at HBT
                    have HK9 := Lib.hid (HEN.stay HK.out HA'.out (HC.out rfl) hbt rfl)
                    have HC' := HC
                    clear HK HA' HC hbt
                    go_wp2_with fail
                    refine (HBT.out _).mono ?_
                    rintro e w10 ⟨rfl, hx10⟩
                    have HBw := Lib.hid (row_on HB9.out hx10)
                    have HRGw := Lib.hid (ranges_ext HRG9.out hx10)
                    have HXw := Lib.hid (HX9.out.trans hx10)
                    clear hx10
                    go_wp2
                    go_roundw
                    case rel => exact ⟨_, cnt5, true, bT, bC, rfl, HRGw, by rw [HTS.out]; exact HBw, Lib.hid (fun _ => HC'.out (by trivial)), Lib.hid (fun h => ⟨rfl, (HK9.out h).2⟩), HXw⟩
                    case measure => rw [HRGw.out.left_eq]; exact hlt5'
              · intro K hK
                go_simp
                refine hK _ _ ?_
                clear hK K
                refine wpAny_one 8 (by kernel_rfl) rfl (fun K hK => ?_)
                go_simp
                refine hK _ _ ?_
                clear hK K
                refine wpAny_one 11 (by kernel_rfl) rfl (fun K hK => ?_)
                go_simp
                refine hK _ _ ?_
                clear hK K
                refine wpAny_done (by kernel_rfl) ?_ 0
                have HC9 := Lib.hid (row2_set (p0 := .string cs) (p1 := .int .i64 cm) hc20)
                have HRG9 := Lib.hid (((ranges_ext HRG5a.out hxT).kept (grown_set wT bc 0 (.string cs)) (by simp; omega) (by simp; omega)).kept (grown_set _ bc 1 (.int .i64 cm)) (by simp; omega) (by simp; omega))
                have HB9 := Lib.hid (far1 (i := 1) (u := .int .i64 cm) (show bc ≠ bb by omega) (far1 (i := 0) (u := .string cs) (show bc ≠ bb by omega) (row_on HB5a.out hxT)))
                have HX9 := Lib.hid (((HX5a.out.trans hxT).setCell (p := ⟨bc, 0, none⟩) (by rw [HBB.out]; show bb ≤ bc; omega) (.string cs)).setCell (p := ⟨bc, 1, none⟩) (by rw [HBB.out]; show bb ≤ bc; omega) (.int .i64 cm))
                generalize (wT.setCell ⟨bc, 0, none⟩ (.string cs)).setCell ⟨bc, 1, none⟩ (.int .i64 cm) = w9 at HC9 HRG9 HB9 HX9 ⊢
                clear c0 c1 f0 f1 hc20 HFI HP hxT HX5a HRG5a HB5a HPS HXS
                have d0 := cell_at HC9.out (i := 0) rfl
                have d1 := cell_at HC9.out (i := 1) rfl
                have e0 := cell_at HB9.out (i := 0) rfl
                have e1 := cell_at HB9.out (i := 1) rfl
                have f0 := frz_at (i := 0) HB9.out
                have f1 := frz_at (i := 1) HB9.out
                cases fd with
                | false =>
                  have HK9 := Lib.hid (HEN.take HK.out HA'.out HCC.out (.inl rfl))
                  have HBw := HB9
                  have HRGw := HRG9
                  have HXw := HX9
                  have HB10 := Lib.hid (row2_set (p0 := .string cs) (p1 := .int .i64 cm) HBw.out)
                  have HRG10 := Lib.hid ((HRGw.out.kept (grown_set w9 bb 0 (.string cs)) (by simp; omega) (by simp; omega)).kept (grown_set _ bb 1 (.int .i64 cm)) (by simp; omega) (by simp; omega))
                  have HX10 := Lib.hid ((HXw.out.setCell (p := ⟨bb, 0, none⟩) (by rw [HBB.out]; exact Nat.le_refl _) (.string cs)).setCell (p := ⟨bb, 1, none⟩) (by rw [HBB.out]; exact Nat.le_refl _) (.int .i64 cm))
                  clear HK HA' HC HBw HRGw HXw
                  go_wp2
                  go_roundw
                  case rel => exact ⟨_, cnt5, true, pt ++ x, cm, rfl, HRG10, by rw [HCS.out]; exact HB10, Lib.hid (fun _ => HCC.out), Lib.hid (fun h => ⟨rfl, (HK9.out h).2⟩), HX10⟩
                  case measure => rw [HRG10.out.left_eq]; exact hlt5'
                | true =>
                  have HBT := Lib.hid (better_any (pt ++ x, cm) (bT, bC))
                  have HQV : Hid (ptV (pt ++ x, cm) = .agg #[.string cs, .int .i64 cm]) := Lib.hid (by rw [← HCS.out]; rfl)
                  rw [HQV.out] at HBT
                  change Hid (∀ W, Calls _ _ #[.agg #[.string cs, .int .i64 cm], .agg #[.string (bS bT), .int .i64 bC]] W _) at HBT
                  obtain ⟨ts, hts⟩ : ∃ ts, bS bT = ts := ⟨_, rfl⟩
                  have HTS := Lib.hid hts
                  rw [hts] at HBT HB9 e0
                  clear hts
                  cases hbt : Gl.bet (pt ++ x, cm) (bT, bC) with
                  | true =>
                    rw [hbt] at HBT
                    have HK9 := Lib.hid (HEN.take HK.out HA'.out HCC.out (.inr hbt))
                    clear HK HA' HC hbt
                    go_wp2_with fail
                    refine (HBT.out _).mono ?_
                    rintro e w10 ⟨rfl, hx10⟩
                    have hq10 := row_on HC9.out hx10
                    have hb10 := row_on HB9.out hx10
                    have d0' := cell_at hq10 (i := 0) rfl
                    have d1' := cell_at hq10 (i := 1) rfl
                    have e0' := cell_at hb10 (i := 0) rfl
                    have e1' := cell_at hb10 (i := 1) rfl
                    have f0' := frz_at (i := 0) hb10
                    have f1' := frz_at (i := 1) hb10
                    clear hq10
                    have HBw := Lib.hid hb10
                    clear hb10
                    have HRGw := Lib.hid (ranges_ext HRG9.out hx10)
                    have HXw := Lib.hid (HX9.out.trans hx10)
                    clear hx10
                    have HB10 := Lib.hid (row2_set (p0 := .string cs) (p1 := .int .i64 cm) HBw.out)
                    have HRG10 := Lib.hid ((HRGw.out.kept (grown_set w10 bb 0 (.string cs)) (by simp; omega) (by simp; omega)).kept (grown_set _ bb 1 (.int .i64 cm)) (by simp; omega) (by simp; omega))
                    have HX10 := Lib.hid ((HXw.out.setCell (p := ⟨bb, 0, none⟩) (by rw [HBB.out]; exact Nat.le_refl _) (.string cs)).setCell (p := ⟨bb, 1, none⟩) (by rw [HBB.out]; exact Nat.le_refl _) (.int .i64 cm))
                    clear HBw HRGw HXw
                    go_wp2
                    go_roundw
                    case rel => exact ⟨_, cnt5, true, pt ++ x, cm, rfl, HRG10, by rw [HCS.out]; exact HB10, Lib.hid (fun _ => HCC.out), Lib.hid (fun h => ⟨rfl, (HK9.out h).2⟩), HX10⟩
                    case measure => rw [HRG10.out.left_eq]; exact hlt5'
                  | false =>
                    rw [hbt] at HBT
                    have HK9 := Lib.hid (HEN.stay HK.out HA'.out (HC.out rfl) hbt rfl)
                    have HC' := HC
                    clear HK HA' HC hbt
                    go_wp2_with fail
                    refine (HBT.out _).mono ?_
                    rintro e w10 ⟨rfl, hx10⟩
                    have HBw := Lib.hid (row_on HB9.out hx10)
                    have HRGw := Lib.hid (ranges_ext HRG9.out hx10)
                    have HXw := Lib.hid (HX9.out.trans hx10)
                    clear hx10
                    go_wp2
                    go_roundw
                    case rel => exact ⟨_, cnt5, true, bT, bC, rfl, HRGw, by rw [HTS.out]; exact HBw, Lib.hid (fun _ => HC'.out (by trivial)), Lib.hid (fun h => ⟨rfl, (HK9.out h).2⟩), HXw⟩
                    case measure => rw [HRGw.out.left_eq]; exact hlt5'
end Go.Proofs.YtamkgbodifjlaaaGreatDoor
