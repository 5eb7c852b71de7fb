/-
  Chapter 11: the reference's readSymbol, walked.
  Condition: rows of 95, 67 or 51 modules.
-/
import Derived.Test.YtfpliihglgjijaaGreatEaXp
namespace Go.Proofs.YtfpliihglgjijaaGreat
set_option linter.unusedVariables false
open Go.RowKit

/-- A comparison of a part with modules that have just been made. -/
def EqTo (w : World) (pv : Value) (md : List Bool) (b : Bool) : Prop := ∀ w' B u, Ext w w' → Own 4 w' B u (md.map encT) → Calls Tryz.prog 42 #[pv, u] w' fun e w'' => e = .returned (.bool b) ∧ Ext w' w''
theorem eqTo_of {w : World} {pv : Value} {p md : List Bool} (h : SlK w pv (p.map encT)) (hp : p.length ≤ 1000000) (hm : md.length ≤ 1000000) : EqTo w pv md (decide (p = md)) :=
  fun w' _ u hx ho => xEqual_any pv u p md w' (h.ext hx) ho.slk hp hm
theorem rcg_facts {both : Bool} {t gap : Nat} (ht : t < 3) : ∀ {n : Nat} {s : List Bool} {l : List UInt8} {us : List Nat}, Ea.rcg both t gap n s = some (l, us) → l.length = n ∧ us.length = n ∧ Ea.digs l = true ∧ ∀ u ∈ us, u < 3 := by
  intro n
  induction n with
  | zero => intro s l u h; cases h; exact ⟨rfl, rfl, rfl, by simp⟩
  | succ n ih =>
    intro s l u h
    rw [Ea.rcg] at h
    cases h1 : Ea.look both t (s.take 7) with
    | none => rw [h1] at h; cases h
    | some p =>
      obtain ⟨d, x⟩ := p
      rw [h1] at h
      dsimp only at h
      cases h2 : Ea.rcg both t gap n (s.drop (7 + gap)) with
      | none => rw [h2] at h; cases h
      | some q =>
        obtain ⟨ds, us⟩ := q
        rw [h2] at h
        cases h
        obtain ⟨i1, i2, i3, i4⟩ := ih h2
        obtain ⟨j1, _, j3⟩ := Ea.look_some ht h1
        refine ⟨by simp [i1], by simp [i2], Ea.digs_cons (by rw [Ea.chr_nat j1]; omega) i3, ?_⟩
        intro z hz
        rcases List.mem_cons.1 hz with rfl | hz
        · exact Ea.may_lt ht j3
        · exact i4 z hz
def xsymV (r : (Int × List UInt8) × Int) : Value := .tuple #[.int .i64 r.1.1, .string (Ea.bS r.1.2), .int .i64 r.2]
theorem readV_form (r : Option (List UInt8 × List Nat)) (n : Nat) (hn : 0 < n) (h : ∀ l u, r = some (l, u) → l.length = n) :
    ∃ L U, readV r = .tuple #[.string L, .string U] ∧ L.toList.isEmpty = r.isNone ∧ L.size ≤ n ∧ (∀ l u, r = some (l, u) → L.data.toList = l ∧ U.data.toList = zS u) ∧ (r = none → U.data.toList = zS []) := by
  cases r with
  | none => exact ⟨_, _, rfl, by rw [Lib.toList_data]; rfl, Nat.zero_le _, fun l u e => by (cases e), fun _ => rfl⟩
  | some q =>
    obtain ⟨l, u⟩ := q
    have hl := h l u rfl
    refine ⟨_, _, rfl, ?_, ?_, fun l' u' e => by cases e; exact ⟨rfl, rfl⟩, fun e => by cases e⟩
    · rw [Lib.toList_data, Ea.bS_list]
      cases l with
      | nil => rw [← hl] at hn; cases hn
      | cons x l => rfl
    · rw [size_of_toList (Ea.bS_list l), hl]; exact Nat.le_refl _

set_option maxRecDepth 100000 in
set_option maxHeartbeats 3000000 in
theorem xsym95_any (v : Value) (m : List Bool) (w : World) (hv : SlK w v (m.map encT)) (hm : m.length = 95) :
    Calls Tryz.prog 79 #[v] w fun e w' => e = .returned (xsymV (Ea.rdSym 95 m)) ∧ Ext w w' := by
  obtain ⟨res, hres⟩ : ∃ res, Ea.rdSym 95 m = res := ⟨_, rfl⟩
  rw [hres]
  have HX := Lib.hid hres
  unfold Ea.rdSym at HX
  rw [show (Ea.stp 95).length = 3 from rfl, show Ea.stp 95 = Ea.gd from rfl, show (95 - 3 : Nat) = 92 from rfl, show Ea.kindOf 95 = 1 from rfl, show Ea.rdK 95 m = Ea.rd13 m from rfl] at HX
  obtain ⟨p1, hp1, hq1⟩ := cut_bools_h hv 3 (by rw [List.length_map]; omega)
  obtain ⟨p2, hp2, hq2⟩ := cut_bools_l hv 92 (by rw [List.length_map]; omega)
  rw [← List.map_take] at hq1
  rw [← List.map_drop] at hq2
  have HE1 := Lib.hid (eqTo_of (md := Ea.gd) hq1 (by rw [List.length_take]; omega) (by decide))
  have HE2 := Lib.hid (eqTo_of (md := Ea.gd) hq2 (by rw [List.length_drop]; omega) (by decide))
  have HMG := Lib.hid (fun w => xmodules_any ⟨#[49, 48, 49]⟩ Ea.gd rfl (by decide) w)
  have HMS := Lib.hid (fun w => xmodules_any ⟨#[49, 48, 49]⟩ Ea.gd rfl (by decide) w)
  obtain ⟨p3, hp3, hq3⟩ := slice_bools hv 45 50 (by omega) (by rw [List.length_map]; omega)
  rw [← List.map_drop, ← List.map_take] at hq3
  have HE3 := Lib.hid (eqTo_of (md := Ea.md) hq3 (by rw [List.length_take]; omega) (by decide))
  have HMM := Lib.hid (fun w => xmodules_any ⟨#[48, 49, 48, 49, 48]⟩ Ea.md rfl (by decide) w)
  have HRL := Lib.hid (fun w' (h : Ext w w') => xread_any v m 3 6 0 0 0 1 true w' (hv.ext h) (by omega) (by omega) (by omega) ⟨rfl, rfl⟩ (by omega) (by omega))
  have HRR := Lib.hid (fun w' (h : Ext w w') => xread_any v m 50 6 0 2 2 2 false w' (hv.ext h) (by omega) (by omega) (by omega) ⟨rfl, rfl⟩ (by omega) (by omega))
  obtain ⟨_, a, c, rfl, hc⟩ := hv
  rw [List.length_map] at hp1 hp2 hp3 HRL HRR ⊢
  rw [show ((3 : Nat) : Int) = 3 from rfl] at hp1 HRL
  rw [show ((92 : Nat) : Int) = 92 from rfl] at hp2
  rw [show ((45 : Nat) : Int) = 45 from rfl, show ((50 : Nat) : Int) = 50 from rfl] at hp3
  rw [show ((6 : Nat) : Int) = 6 from rfl, show ((1 : Nat) : Int) = 1 from rfl, show ((0 : Nat) : Int) = 0 from rfl] at HRL
  rw [show ((50 : Nat) : Int) = 50 from rfl, show ((6 : Nat) : Int) = 6 from rfl, show ((2 : Nat) : Int) = 2 from rfl, show ((0 : Nat) : Int) = 0 from rfl] at HRR
  have b51 : ((m.length : Int) == 51) = false := by rw [hm]; rfl
  have b95 : ((m.length : Int) == 95) = true := by rw [hm]; rfl
  have b67 : ((m.length : Int) == 67) = false := by rw [hm]; rfl
  have e92 : (m.length : Int) - 3 = 92 := by omega
  have w92 : IntKind.i64.wrap (92 : Int) = 92 := IntWalk.i64_in _ (by omega)
  have HLN := Lib.hid hm
  clear hq1 hq2 hq3 hres hc hm
  have HW : Hid (Ext w w) := Lib.hid (Ext.refl w)
  by_cases g1 : m.take 3 = Ea.gd
  · rw [if_neg (fun h => h g1)] at HX
    rw [decide_eq_true g1] at HE1
    by_cases g2 : m.drop 92 = Ea.gd
    · rw [if_neg (fun h => h g2)] at HX
      rw [decide_eq_true g2] at HE2
      clear g1 g2
      unfold Ea.rd13 at HX
      obtain ⟨lo, hlo⟩ : ∃ lo, Ea.rcg true 0 0 6 (m.drop 3) = lo := ⟨_, rfl⟩
      obtain ⟨ro, hro⟩ : ∃ ro, Ea.rcg false 2 0 6 (m.drop 50) = ro := ⟨_, rfl⟩
      have HLF := Lib.hid (fun l u (e : lo = some (l, u)) => rcg_facts (by omega) (hlo.trans e))
      have HRF := Lib.hid (fun l u (e : ro = some (l, u)) => rcg_facts (by omega) (hro.trans e))
      rw [hlo] at HX HRL
      rw [hro] at HX HRR
      obtain ⟨L, U, hLU, hLe, hLs, hL1, hL0⟩ := readV_form lo 6 (by omega) (fun l u e => (HLF.out l u e).1)
      obtain ⟨R, U2, hRU, hRe, hRs, hR1, _⟩ := readV_form ro 6 (by omega) (fun l u e => (HRF.out l u e).1)
      rw [hLU] at HRL
      rw [hRU] at HRR
      have HL1 := Lib.hid hL1
      have HR1 := Lib.hid hR1
      clear hlo hro hLU hRU hL1 hL0 hR1
      obtain ⟨b3, hb3⟩ : ∃ b, decide ((m.drop 45).take 5 = Ea.md) = b := ⟨_, rfl⟩
      rw [show (50 - 45 : Nat) = 5 from rfl, hb3] at HE3
      have HB3 := Lib.hid hb3
      clear hb3
      have HN : Hid (b3 = false ∨ lo.isNone = true ∨ ro.isNone = true → res = ((0, []), 18)) := Lib.hid (fun h => by
        rw [← HX.out]
        cases lo with
        | none => rfl
        | some q => cases ro with
          | none => rfl
          | some r =>
            rcases h with h | h | h
            · have := HB3.out
              rw [h] at this
              dsimp only
              rw [if_neg (of_decide_eq_false this)]
            · cases h
            · cases h)
      cases b3 with
      | false =>
        have HG := Lib.hid (HN.out (.inl rfl))
        clear HN HX
        go_enter Tryz.func79, Tryz.ntmps79
        go_wp2_with fail
        refine wp_region_rel 4 1 rfl [25, 26, 27, 28] [[], [0], [], [1, 2]] (by kernel_rfl) (by kernel_rfl) ?_
        apply relPlan_eq'
        · intro V w' hx hf
          with_reducible refine relAt_ops ?_
          intro A ρ hA hρ hcst hfun
          have h0 : ρ (.tmp 0) = .slice a m.length c := (congrFun hρ _).trans (evalMiss hA 0 rfl)
          exact relUpon_move (hk := by rw [h0]; exact ⟨Ext.refl _, rfl⟩)
        apply relPlan_eq'
        · intro V w' hx hf
          with_reducible refine relAt_ops ?_
          intro A ρ hA hρ hcst hfun
          obtain ⟨f25, _⟩ := hf
          have h25 : ρ (.tmp 25) = _ := (congrFun hρ _).trans ((evalHit hA 25 rfl).trans f25)
          simp [relUpon, go_sem, hcst, Ext.refl, h25, hp1]
          rfl
        refine relPlan_by (fun v w => Own 4 w 0 v (Ea.gd.map encT)) (fun _ _ _ h hx => h.ext hx) ?_ ?_
        · intro V w' hx hf
          with_reducible refine relAt_ops ?_
          intro A ρ hA hρ hcst hfun
          simp [relUpon, go_sem, hcst, hfun]
          exact (HMG.out w').mono fun e w'' ⟨v, he, ho, hy⟩ => ⟨v, he, hy, ho.mono (Nat.zero_le _)⟩
        refine relPlan_by (eqv (.bool true)) (eqv_stable _) ?_ ?_
        · intro V w' hx hf
          with_reducible refine relAt_ops ?_
          intro A ρ hA hρ hcst hfun
          obtain ⟨f26, f27, _⟩ := hf
          have h26 : ρ (.tmp 26) = _ := (congrFun hρ _).trans ((evalHit hA 26 rfl).trans f26)
          have h27 : ρ (.tmp 27) = V 27 := (congrFun hρ _).trans (evalHit hA 27 rfl)
          simp [relUpon, go_sem, hfun, h26, h27]
          exact (HE1.out w' _ _ (HW.out.trans hx) f27).mono fun e w'' ⟨he, hy⟩ => ⟨_, he, hy, rfl⟩
        intro V wT hxT hf
        obtain ⟨g25, g26, g27, g28, _⟩ := hf
        simp only [fillA, List.foldl_cons, List.foldl_nil, Act.put, List.setIfInBounds_toArray, List.set_cons_succ, List.set_cons_zero]
        have q28 : V 28 = _ := g28
        rw [q28]
        have HW2 := Lib.hid (HW.out.trans hxT)
        refine wpAny_solo 4 (by kernel_rfl) rfl (fun K hK => ?_)
        go_simp
        refine hK _ _ ?_
        clear hK K
        refine ⟨rfl, ?_⟩
        clear HW
        have HW := HW2
        clear HW2
        go_wp2_with fail
        refine wp_region_rel 9 1 rfl [30, 31, 32, 33, 34, 35, 36, 37, 38] [[], [], [], [2], [1, 3], [0, 4], [], [6], [5, 7]] (by kernel_rfl) (by kernel_rfl) ?_
        apply relPlan_eq'
        · intro V w' hx hf
          with_reducible refine relAt_ops ?_
          intro A ρ hA hρ hcst hfun
          have h0 : ρ (.tmp 0) = .slice a m.length c := (congrFun hρ _).trans (evalMiss hA 0 rfl)
          exact relUpon_move (hk := by rw [h0]; exact ⟨Ext.refl _, rfl⟩)
        apply relPlan_eq'
        · intro V w' hx hf
          with_reducible refine relAt_ops ?_
          intro A ρ hA hρ hcst hfun
          have h5 : ρ (.tmp 5) = .int .i64 (m.length : Int) := (congrFun hρ _).trans (evalMiss hA 5 rfl)
          exact relUpon_move (hk := by rw [h5]; exact ⟨Ext.refl _, rfl⟩)
        apply relPlan_eq'
        · intro V w' hx hf
          with_reducible refine relAt_ops ?_
          intro A ρ hA hρ hcst hfun
          have h6 : ρ (.tmp 6) = .string ⟨#[49, 48, 49]⟩ := (congrFun hρ _).trans (evalMiss hA 6 rfl)
          exact relUpon_move (hk := by rw [h6]; exact ⟨Ext.refl _, rfl⟩)
        apply relPlan_eq'
        · intro V w' hx hf
          with_reducible refine relAt_ops ?_
          intro A ρ hA hρ hcst hfun
          obtain ⟨f32, _⟩ := hf
          have h32 : ρ (.tmp 32) = _ := (congrFun hρ _).trans ((evalHit hA 32 rfl).trans f32)
          simp [relUpon, go_sem, Ext.refl, h32]
          rfl
        apply relPlan_eq'
        · intro V w' hx hf
          with_reducible refine relAt_ops ?_
          intro A ρ hA hρ hcst hfun
          obtain ⟨f31, f33, _⟩ := hf
          have h31 : ρ (.tmp 31) = _ := (congrFun hρ _).trans ((evalHit hA 31 rfl).trans f31)
          have h33 : ρ (.tmp 33) = _ := (congrFun hρ _).trans ((evalHit hA 33 rfl).trans f33)
          simp [relUpon, go_sem, Ext.refl, h31, h33, e92, w92]
          rfl
        apply relPlan_eq'
        · intro V w' hx hf
          with_reducible refine relAt_ops ?_
          intro A ρ hA hρ hcst hfun
          obtain ⟨f30, f34, _⟩ := hf
          have h30 : ρ (.tmp 30) = _ := (congrFun hρ _).trans ((evalHit hA 30 rfl).trans f30)
          have h34 : ρ (.tmp 34) = _ := (congrFun hρ _).trans ((evalHit hA 34 rfl).trans f34)
          simp [relUpon, go_sem, Ext.refl, h30, h34, hp2]
          rfl
        apply relPlan_eq'
        · intro V w' hx hf
          with_reducible refine relAt_ops ?_
          intro A ρ hA hρ hcst hfun
          have h6 : ρ (.tmp 6) = .string ⟨#[49, 48, 49]⟩ := (congrFun hρ _).trans (evalMiss hA 6 rfl)
          exact relUpon_move (hk := by rw [h6]; exact ⟨Ext.refl _, rfl⟩)
        refine relPlan_by (fun v w => Own 4 w 0 v (Ea.gd.map encT)) (fun _ _ _ h hx => h.ext hx) ?_ ?_
        · intro V w' hx hf
          with_reducible refine relAt_ops ?_
          intro A ρ hA hρ hcst hfun
          obtain ⟨f36, _⟩ := hf
          have h36 : ρ (.tmp 36) = _ := (congrFun hρ _).trans ((evalHit hA 36 rfl).trans f36)
          simp [relUpon, go_sem, hfun, h36]
          exact (HMS.out w').mono fun e w'' ⟨v, he, ho, hy⟩ => ⟨v, he, hy, ho.mono (Nat.zero_le _)⟩
        refine relPlan_by (eqv (.bool true)) (eqv_stable _) ?_ ?_
        · intro V w' hx hf
          with_reducible refine relAt_ops ?_
          intro A ρ hA hρ hcst hfun
          obtain ⟨f35, f37, _⟩ := hf
          have h35 : ρ (.tmp 35) = _ := (congrFun hρ _).trans ((evalHit hA 35 rfl).trans f35)
          have h37 : ρ (.tmp 37) = V 37 := (congrFun hρ _).trans (evalHit hA 37 rfl)
          simp [relUpon, go_sem, hfun, h35, h37]
          exact (HE2.out w' _ _ (HW.out.trans hx) f37).mono fun e w'' ⟨he, hy⟩ => ⟨_, he, hy, rfl⟩
        intro V wT hxT hf
        obtain ⟨g30, g31, g32, g33, g34, g35, g36, g37, g38, _⟩ := hf
        simp only [fillA, List.foldl_cons, List.foldl_nil, Act.put, List.setIfInBounds_toArray, List.set_cons_succ, List.set_cons_zero]
        have q38 : V 38 = _ := g38
        rw [q38]
        have HW2 := Lib.hid (HW.out.trans hxT)
        refine wpAny_solo 9 (by kernel_rfl) rfl (fun K hK => ?_)
        go_simp
        refine hK _ _ ?_
        clear hK K
        refine ⟨rfl, ?_⟩
        clear HW
        have HW := HW2
        clear HW2
        go_wp2_with fail
        refine (HRL.out _ HW.out).mono ?_
        rintro e w5 ⟨rfl, hx5⟩
        have HW2 := Lib.hid (HW.out.trans hx5)
        clear HW hx5
        have HW := HW2
        clear HW2
        go_wp2_with fail
        refine (HRR.out _ HW.out).mono ?_
        rintro e w5 ⟨rfl, hx5⟩
        have HW2 := Lib.hid (HW.out.trans hx5)
        clear HW hx5
        have HW := HW2
        clear HW2
        go_wp2_with fail
        refine wp_region_rel 4 14 rfl [76, 77, 78, 79] [[], [0], [], [1, 2]] (by kernel_rfl) (by kernel_rfl) ?_
        apply relPlan_eq'
        · intro V w' hx hf
          with_reducible refine relAt_ops ?_
          intro A ρ hA hρ hcst hfun
          have h0 : ρ (.tmp 0) = .slice a m.length c := (congrFun hρ _).trans (evalMiss hA 0 rfl)
          exact relUpon_move (hk := by rw [h0]; exact ⟨Ext.refl _, rfl⟩)
        apply relPlan_eq'
        · intro V w' hx hf
          with_reducible refine relAt_ops ?_
          intro A ρ hA hρ hcst hfun
          obtain ⟨f76, _⟩ := hf
          have h76 : ρ (.tmp 76) = _ := (congrFun hρ _).trans ((evalHit hA 76 rfl).trans f76)
          simp [relUpon, go_sem, hcst, Ext.refl, h76, hp3]
          rfl
        refine relPlan_by (fun v w => Own 4 w 0 v (Ea.md.map encT)) (fun _ _ _ h hx => h.ext hx) ?_ ?_
        · intro V w' hx hf
          with_reducible refine relAt_ops ?_
          intro A ρ hA hρ hcst hfun
          simp [relUpon, go_sem, hcst, hfun]
          exact (HMM.out w').mono fun e w'' ⟨v, he, ho, hy⟩ => ⟨v, he, hy, ho.mono (Nat.zero_le _)⟩
        refine relPlan_by (eqv (.bool false)) (eqv_stable _) ?_ ?_
        · intro V w' hx hf
          with_reducible refine relAt_ops ?_
          intro A ρ hA hρ hcst hfun
          obtain ⟨f77, f78, _⟩ := hf
          have h77 : ρ (.tmp 77) = _ := (congrFun hρ _).trans ((evalHit hA 77 rfl).trans f77)
          have h78 : ρ (.tmp 78) = V 78 := (congrFun hρ _).trans (evalHit hA 78 rfl)
          simp [relUpon, go_sem, hfun, h77, h78]
          exact (HE3.out w' _ _ (HW.out.trans hx) f78).mono fun e w'' ⟨he, hy⟩ => ⟨_, he, hy, rfl⟩
        intro V wT hxT hf
        obtain ⟨g76, g77, g78, g79, _⟩ := hf
        simp only [fillA, List.foldl_cons, List.foldl_nil, Act.put, List.setIfInBounds_toArray, List.set_cons_succ, List.set_cons_zero]
        have q79 : V 79 = _ := g79
        rw [q79]
        have HW2 := Lib.hid (HW.out.trans hxT)
        refine wpAny_solo 4 (by kernel_rfl) rfl (fun K hK => ?_)
        go_simp
        refine hK _ _ ?_
        clear hK K
        refine wpAny_solo 5 (by kernel_rfl) rfl (fun K hK => ?_)
        go_simp
        refine hK _ _ ?_
        clear hK K
        refine wpAny_solo 6 (by kernel_rfl) rfl (fun K hK => ?_)
        go_simp
        refine hK _ _ ?_
        clear hK K
        refine wpAny_solo 7 (by kernel_rfl) rfl (fun K hK => ?_)
        go_simp
        refine hK _ _ ?_
        clear hK K
        refine wpAny_solo 8 (by kernel_rfl) rfl (fun K hK => ?_)
        go_simp
        refine hK _ _ ?_
        clear hK K
        refine wpAny_solo 9 (by kernel_rfl) rfl (fun K hK => ?_)
        go_simp
        refine hK _ _ ?_
        clear hK K
        refine wpAny_solo 10 (by kernel_rfl) rfl (fun K hK => ?_)
        go_simp
        refine hK _ _ ?_
        clear hK K
        refine wpAny_solo 11 (by kernel_rfl) rfl (fun K hK => ?_)
        go_simp
        refine hK _ _ ?_
        clear hK K
        refine wpAny_solo 12 (by kernel_rfl) rfl (fun K hK => ?_)
        go_simp
        refine hK _ _ ?_
        clear hK K
        refine wpAny_solo 13 (by kernel_rfl) rfl (fun K hK => ?_)
        go_simp
        refine hK _ _ ?_
        clear hK K
        refine wpAny_solo 14 (by kernel_rfl) rfl (fun K hK => ?_)
        go_simp
        refine hK _ _ ?_
        clear hK K
        refine wpAny_solo 15 (by kernel_rfl) rfl (fun K hK => ?_)
        go_simp
        refine hK _ _ ?_
        clear hK K
        refine wpAny_solo 16 (by kernel_rfl) rfl (fun K hK => ?_)
        go_simp
        refine hK _ _ ?_
        clear hK K
        refine wpAny_solo 17 (by kernel_rfl) rfl (fun K hK => ?_)
        go_simp
        refine hK _ _ ?_
        clear hK K
        refine ⟨rfl, ?_⟩
        clear HW
        have HW := HW2
        clear HW2
        go_wp2
        go_ret3
        exact ⟨by rw [HG.out]; rfl, HW.out⟩
      | true =>
        cases hln : lo.isNone with
        | true =>
          rw [hln] at hLe
          have HG := Lib.hid (HN.out (.inr (.inl hln)))
          clear HN HX hln
          go_enter Tryz.func79, Tryz.ntmps79
          go_wp2_with fail
          refine wp_region_rel 4 1 rfl [25, 26, 27, 28] [[], [0], [], [1, 2]] (by kernel_rfl) (by kernel_rfl) ?_
          apply relPlan_eq'
          · intro V w' hx hf
            with_reducible refine relAt_ops ?_
            intro A ρ hA hρ hcst hfun
            have h0 : ρ (.tmp 0) = .slice a m.length c := (congrFun hρ _).trans (evalMiss hA 0 rfl)
            exact relUpon_move (hk := by rw [h0]; exact ⟨Ext.refl _, rfl⟩)
          apply relPlan_eq'
          · intro V w' hx hf
            with_reducible refine relAt_ops ?_
            intro A ρ hA hρ hcst hfun
            obtain ⟨f25, _⟩ := hf
            have h25 : ρ (.tmp 25) = _ := (congrFun hρ _).trans ((evalHit hA 25 rfl).trans f25)
            simp [relUpon, go_sem, hcst, Ext.refl, h25, hp1]
            rfl
          refine relPlan_by (fun v w => Own 4 w 0 v (Ea.gd.map encT)) (fun _ _ _ h hx => h.ext hx) ?_ ?_
          · intro V w' hx hf
            with_reducible refine relAt_ops ?_
            intro A ρ hA hρ hcst hfun
            simp [relUpon, go_sem, hcst, hfun]
            exact (HMG.out w').mono fun e w'' ⟨v, he, ho, hy⟩ => ⟨v, he, hy, ho.mono (Nat.zero_le _)⟩
          refine relPlan_by (eqv (.bool true)) (eqv_stable _) ?_ ?_
          · intro V w' hx hf
            with_reducible refine relAt_ops ?_
            intro A ρ hA hρ hcst hfun
            obtain ⟨f26, f27, _⟩ := hf
            have h26 : ρ (.tmp 26) = _ := (congrFun hρ _).trans ((evalHit hA 26 rfl).trans f26)
            have h27 : ρ (.tmp 27) = V 27 := (congrFun hρ _).trans (evalHit hA 27 rfl)
            simp [relUpon, go_sem, hfun, h26, h27]
            exact (HE1.out w' _ _ (HW.out.trans hx) f27).mono fun e w'' ⟨he, hy⟩ => ⟨_, he, hy, rfl⟩
          intro V wT hxT hf
          obtain ⟨g25, g26, g27, g28, _⟩ := hf
          simp only [fillA, List.foldl_cons, List.foldl_nil, Act.put, List.setIfInBounds_toArray, List.set_cons_succ, List.set_cons_zero]
          have q28 : V 28 = _ := g28
          rw [q28]
          have HW2 := Lib.hid (HW.out.trans hxT)
          refine wpAny_solo 4 (by kernel_rfl) rfl (fun K hK => ?_)
          go_simp
          refine hK _ _ ?_
          clear hK K
          refine ⟨rfl, ?_⟩
          clear HW
          have HW := HW2
          clear HW2
          go_wp2_with fail
          refine wp_region_rel 9 1 rfl [30, 31, 32, 33, 34, 35, 36, 37, 38] [[], [], [], [2], [1, 3], [0, 4], [], [6], [5, 7]] (by kernel_rfl) (by kernel_rfl) ?_
          apply relPlan_eq'
          · intro V w' hx hf
            with_reducible refine relAt_ops ?_
            intro A ρ hA hρ hcst hfun
            have h0 : ρ (.tmp 0) = .slice a m.length c := (congrFun hρ _).trans (evalMiss hA 0 rfl)
            exact relUpon_move (hk := by rw [h0]; exact ⟨Ext.refl _, rfl⟩)
          apply relPlan_eq'
          · intro V w' hx hf
            with_reducible refine relAt_ops ?_
            intro A ρ hA hρ hcst hfun
            have h5 : ρ (.tmp 5) = .int .i64 (m.length : Int) := (congrFun hρ _).trans (evalMiss hA 5 rfl)
            exact relUpon_move (hk := by rw [h5]; exact ⟨Ext.refl _, rfl⟩)
          apply relPlan_eq'
          · intro V w' hx hf
            with_reducible refine relAt_ops ?_
            intro A ρ hA hρ hcst hfun
            have h6 : ρ (.tmp 6) = .string ⟨#[49, 48, 49]⟩ := (congrFun hρ _).trans (evalMiss hA 6 rfl)
            exact relUpon_move (hk := by rw [h6]; exact ⟨Ext.refl _, rfl⟩)
          apply relPlan_eq'
          · intro V w' hx hf
            with_reducible refine relAt_ops ?_
            intro A ρ hA hρ hcst hfun
            obtain ⟨f32, _⟩ := hf
            have h32 : ρ (.tmp 32) = _ := (congrFun hρ _).trans ((evalHit hA 32 rfl).trans f32)
            simp [relUpon, go_sem, Ext.refl, h32]
            rfl
          apply relPlan_eq'
          · intro V w' hx hf
            with_reducible refine relAt_ops ?_
            intro A ρ hA hρ hcst hfun
            obtain ⟨f31, f33, _⟩ := hf
            have h31 : ρ (.tmp 31) = _ := (congrFun hρ _).trans ((evalHit hA 31 rfl).trans f31)
            have h33 : ρ (.tmp 33) = _ := (congrFun hρ _).trans ((evalHit hA 33 rfl).trans f33)
            simp [relUpon, go_sem, Ext.refl, h31, h33, e92, w92]
            rfl
          apply relPlan_eq'
          · intro V w' hx hf
            with_reducible refine relAt_ops ?_
            intro A ρ hA hρ hcst hfun
            obtain ⟨f30, f34, _⟩ := hf
            have h30 : ρ (.tmp 30) = _ := (congrFun hρ _).trans ((evalHit hA 30 rfl).trans f30)
            have h34 : ρ (.tmp 34) = _ := (congrFun hρ _).trans ((evalHit hA 34 rfl).trans f34)
            simp [relUpon, go_sem, Ext.refl, h30, h34, hp2]
            rfl
          apply relPlan_eq'
          · intro V w' hx hf
            with_reducible refine relAt_ops ?_
            intro A ρ hA hρ hcst hfun
            have h6 : ρ (.tmp 6) = .string ⟨#[49, 48, 49]⟩ := (congrFun hρ _).trans (evalMiss hA 6 rfl)
            exact relUpon_move (hk := by rw [h6]; exact ⟨Ext.refl _, rfl⟩)
          refine relPlan_by (fun v w => Own 4 w 0 v (Ea.gd.map encT)) (fun _ _ _ h hx => h.ext hx) ?_ ?_
          · intro V w' hx hf
            with_reducible refine relAt_ops ?_
            intro A ρ hA hρ hcst hfun
            obtain ⟨f36, _⟩ := hf
            have h36 : ρ (.tmp 36) = _ := (congrFun hρ _).trans ((evalHit hA 36 rfl).trans f36)
            simp [relUpon, go_sem, hfun, h36]
            exact (HMS.out w').mono fun e w'' ⟨v, he, ho, hy⟩ => ⟨v, he, hy, ho.mono (Nat.zero_le _)⟩
          refine relPlan_by (eqv (.bool true)) (eqv_stable _) ?_ ?_
          · intro V w' hx hf
            with_reducible refine relAt_ops ?_
            intro A ρ hA hρ hcst hfun
            obtain ⟨f35, f37, _⟩ := hf
            have h35 : ρ (.tmp 35) = _ := (congrFun hρ _).trans ((evalHit hA 35 rfl).trans f35)
            have h37 : ρ (.tmp 37) = V 37 := (congrFun hρ _).trans (evalHit hA 37 rfl)
            simp [relUpon, go_sem, hfun, h35, h37]
            exact (HE2.out w' _ _ (HW.out.trans hx) f37).mono fun e w'' ⟨he, hy⟩ => ⟨_, he, hy, rfl⟩
          intro V wT hxT hf
          obtain ⟨g30, g31, g32, g33, g34, g35, g36, g37, g38, _⟩ := hf
          simp only [fillA, List.foldl_cons, List.foldl_nil, Act.put, List.setIfInBounds_toArray, List.set_cons_succ, List.set_cons_zero]
          have q38 : V 38 = _ := g38
          rw [q38]
          have HW2 := Lib.hid (HW.out.trans hxT)
          refine wpAny_solo 9 (by kernel_rfl) rfl (fun K hK => ?_)
          go_simp
          refine hK _ _ ?_
          clear hK K
          refine ⟨rfl, ?_⟩
          clear HW
          have HW := HW2
          clear HW2
          go_wp2_with fail
          refine (HRL.out _ HW.out).mono ?_
          rintro e w5 ⟨rfl, hx5⟩
          have HW2 := Lib.hid (HW.out.trans hx5)
          clear HW hx5
          have HW := HW2
          clear HW2
          go_wp2_with fail
          refine (HRR.out _ HW.out).mono ?_
          rintro e w5 ⟨rfl, hx5⟩
          have HW2 := Lib.hid (HW.out.trans hx5)
          clear HW hx5
          have HW := HW2
          clear HW2
          go_wp2_with fail
          refine wp_region_rel 4 14 rfl [76, 77, 78, 79] [[], [0], [], [1, 2]] (by kernel_rfl) (by kernel_rfl) ?_
          apply relPlan_eq'
          · intro V w' hx hf
            with_reducible refine relAt_ops ?_
            intro A ρ hA hρ hcst hfun
            have h0 : ρ (.tmp 0) = .slice a m.length c := (congrFun hρ _).trans (evalMiss hA 0 rfl)
            exact relUpon_move (hk := by rw [h0]; exact ⟨Ext.refl _, rfl⟩)
          apply relPlan_eq'
          · intro V w' hx hf
            with_reducible refine relAt_ops ?_
            intro A ρ hA hρ hcst hfun
            obtain ⟨f76, _⟩ := hf
            have h76 : ρ (.tmp 76) = _ := (congrFun hρ _).trans ((evalHit hA 76 rfl).trans f76)
            simp [relUpon, go_sem, hcst, Ext.refl, h76, hp3]
            rfl
          refine relPlan_by (fun v w => Own 4 w 0 v (Ea.md.map encT)) (fun _ _ _ h hx => h.ext hx) ?_ ?_
          · intro V w' hx hf
            with_reducible refine relAt_ops ?_
            intro A ρ hA hρ hcst hfun
            simp [relUpon, go_sem, hcst, hfun]
            exact (HMM.out w').mono fun e w'' ⟨v, he, ho, hy⟩ => ⟨v, he, hy, ho.mono (Nat.zero_le _)⟩
          refine relPlan_by (eqv (.bool true)) (eqv_stable _) ?_ ?_
          · intro V w' hx hf
            with_reducible refine relAt_ops ?_
            intro A ρ hA hρ hcst hfun
            obtain ⟨f77, f78, _⟩ := hf
            have h77 : ρ (.tmp 77) = _ := (congrFun hρ _).trans ((evalHit hA 77 rfl).trans f77)
            have h78 : ρ (.tmp 78) = V 78 := (congrFun hρ _).trans (evalHit hA 78 rfl)
            simp [relUpon, go_sem, hfun, h77, h78]
            exact (HE3.out w' _ _ (HW.out.trans hx) f78).mono fun e w'' ⟨he, hy⟩ => ⟨_, he, hy, rfl⟩
          intro V wT hxT hf
          obtain ⟨g76, g77, g78, g79, _⟩ := hf
          simp only [fillA, List.foldl_cons, List.foldl_nil, Act.put, List.setIfInBounds_toArray, List.set_cons_succ, List.set_cons_zero]
          have q79 : V 79 = _ := g79
          rw [q79]
          have HW2 := Lib.hid (HW.out.trans hxT)
          refine wpAny_solo 4 (by kernel_rfl) rfl (fun K hK => ?_)
          go_simp
          refine hK _ _ ?_
          clear hK K
          refine wpAny_solo 5 (by kernel_rfl) rfl (fun K hK => ?_)
          go_simp
          refine hK _ _ ?_
          clear hK K
          refine wpAny_solo 6 (by kernel_rfl) rfl (fun K hK => ?_)
          go_simp
          refine hK _ _ ?_
          clear hK K
          refine wpAny_solo 7 (by kernel_rfl) rfl (fun K hK => ?_)
          go_simp
          refine hK _ _ ?_
          clear hK K
          refine wpAny_solo 8 (by kernel_rfl) rfl (fun K hK => ?_)
          go_simp
          refine hK _ _ ?_
          clear hK K
          refine wpAny_solo 9 (by kernel_rfl) rfl (fun K hK => ?_)
          go_simp
          refine hK _ _ ?_
          clear hK K
          refine wpAny_solo 10 (by kernel_rfl) rfl (fun K hK => ?_)
          go_simp
          refine hK _ _ ?_
          clear hK K
          refine wpAny_solo 11 (by kernel_rfl) rfl (fun K hK => ?_)
          go_simp
          refine hK _ _ ?_
          clear hK K
          refine wpAny_solo 12 (by kernel_rfl) rfl (fun K hK => ?_)
          go_simp
          refine hK _ _ ?_
          clear hK K
          refine wpAny_solo 13 (by kernel_rfl) rfl (fun K hK => ?_)
          go_simp
          refine hK _ _ ?_
          clear hK K
          refine wpAny_solo 14 (by kernel_rfl) rfl (fun K hK => ?_)
          go_simp
          refine hK _ _ ?_
          clear hK K
          refine wpAny_solo 15 (by kernel_rfl) rfl (fun K hK => ?_)
          go_simp
          refine hK _ _ ?_
          clear hK K
          refine wpAny_solo 16 (by kernel_rfl) rfl (fun K hK => ?_)
          go_simp
          refine hK _ _ ?_
          clear hK K
          refine wpAny_solo 17 (by kernel_rfl) rfl (fun K hK => ?_)
          go_simp
          refine hK _ _ ?_
          clear hK K
          refine ⟨rfl, ?_⟩
          clear HW
          have HW := HW2
          clear HW2
          go_wp2
          go_ret3
          exact ⟨by rw [HG.out]; rfl, HW.out⟩
        | false =>
          rw [hln] at hLe
          cases hrn : ro.isNone with
          | true =>
            rw [hrn] at hRe
            have HG := Lib.hid (HN.out (.inr (.inr hrn)))
            clear HN HX hrn hln
            go_enter Tryz.func79, Tryz.ntmps79
            go_wp2_with fail
            refine wp_region_rel 4 1 rfl [25, 26, 27, 28] [[], [0], [], [1, 2]] (by kernel_rfl) (by kernel_rfl) ?_
            apply relPlan_eq'
            · intro V w' hx hf
              with_reducible refine relAt_ops ?_
              intro A ρ hA hρ hcst hfun
              have h0 : ρ (.tmp 0) = .slice a m.length c := (congrFun hρ _).trans (evalMiss hA 0 rfl)
              exact relUpon_move (hk := by rw [h0]; exact ⟨Ext.refl _, rfl⟩)
            apply relPlan_eq'
            · intro V w' hx hf
              with_reducible refine relAt_ops ?_
              intro A ρ hA hρ hcst hfun
              obtain ⟨f25, _⟩ := hf
              have h25 : ρ (.tmp 25) = _ := (congrFun hρ _).trans ((evalHit hA 25 rfl).trans f25)
              simp [relUpon, go_sem, hcst, Ext.refl, h25, hp1]
              rfl
            refine relPlan_by (fun v w => Own 4 w 0 v (Ea.gd.map encT)) (fun _ _ _ h hx => h.ext hx) ?_ ?_
            · intro V w' hx hf
              with_reducible refine relAt_ops ?_
              intro A ρ hA hρ hcst hfun
              simp [relUpon, go_sem, hcst, hfun]
              exact (HMG.out w').mono fun e w'' ⟨v, he, ho, hy⟩ => ⟨v, he, hy, ho.mono (Nat.zero_le _)⟩
            refine relPlan_by (eqv (.bool true)) (eqv_stable _) ?_ ?_
            · intro V w' hx hf
              with_reducible refine relAt_ops ?_
              intro A ρ hA hρ hcst hfun
              obtain ⟨f26, f27, _⟩ := hf
              have h26 : ρ (.tmp 26) = _ := (congrFun hρ _).trans ((evalHit hA 26 rfl).trans f26)
              have h27 : ρ (.tmp 27) = V 27 := (congrFun hρ _).trans (evalHit hA 27 rfl)
              simp [relUpon, go_sem, hfun, h26, h27]
              exact (HE1.out w' _ _ (HW.out.trans hx) f27).mono fun e w'' ⟨he, hy⟩ => ⟨_, he, hy, rfl⟩
            intro V wT hxT hf
            obtain ⟨g25, g26, g27, g28, _⟩ := hf
            simp only [fillA, List.foldl_cons, List.foldl_nil, Act.put, List.setIfInBounds_toArray, List.set_cons_succ, List.set_cons_zero]
            have q28 : V 28 = _ := g28
            rw [q28]
            have HW2 := Lib.hid (HW.out.trans hxT)
            refine wpAny_solo 4 (by kernel_rfl) rfl (fun K hK => ?_)
            go_simp
            refine hK _ _ ?_
            clear hK K
            refine ⟨rfl, ?_⟩
            clear HW
            have HW := HW2
            clear HW2
            go_wp2_with fail
            refine wp_region_rel 9 1 rfl [30, 31, 32, 33, 34, 35, 36, 37, 38] [[], [], [], [2], [1, 3], [0, 4], [], [6], [5, 7]] (by kernel_rfl) (by kernel_rfl) ?_
            apply relPlan_eq'
            · intro V w' hx hf
              with_reducible refine relAt_ops ?_
              intro A ρ hA hρ hcst hfun
              have h0 : ρ (.tmp 0) = .slice a m.length c := (congrFun hρ _).trans (evalMiss hA 0 rfl)
              exact relUpon_move (hk := by rw [h0]; exact ⟨Ext.refl _, rfl⟩)
            apply relPlan_eq'
            · intro V w' hx hf
              with_reducible refine relAt_ops ?_
              intro A ρ hA hρ hcst hfun
              have h5 : ρ (.tmp 5) = .int .i64 (m.length : Int) := (congrFun hρ _).trans (evalMiss hA 5 rfl)
              exact relUpon_move (hk := by rw [h5]; exact ⟨Ext.refl _, rfl⟩)
            apply relPlan_eq'
            · intro V w' hx hf
              with_reducible refine relAt_ops ?_
              intro A ρ hA hρ hcst hfun
              have h6 : ρ (.tmp 6) = .string ⟨#[49, 48, 49]⟩ := (congrFun hρ _).trans (evalMiss hA 6 rfl)
              exact relUpon_move (hk := by rw [h6]; exact ⟨Ext.refl _, rfl⟩)
            apply relPlan_eq'
            · intro V w' hx hf
              with_reducible refine relAt_ops ?_
              intro A ρ hA hρ hcst hfun
              obtain ⟨f32, _⟩ := hf
              have h32 : ρ (.tmp 32) = _ := (congrFun hρ _).trans ((evalHit hA 32 rfl).trans f32)
              simp [relUpon, go_sem, Ext.refl, h32]
              rfl
            apply relPlan_eq'
            · intro V w' hx hf
              with_reducible refine relAt_ops ?_
              intro A ρ hA hρ hcst hfun
              obtain ⟨f31, f33, _⟩ := hf
              have h31 : ρ (.tmp 31) = _ := (congrFun hρ _).trans ((evalHit hA 31 rfl).trans f31)
              have h33 : ρ (.tmp 33) = _ := (congrFun hρ _).trans ((evalHit hA 33 rfl).trans f33)
              simp [relUpon, go_sem, Ext.refl, h31, h33, e92, w92]
              rfl
            apply relPlan_eq'
            · intro V w' hx hf
              with_reducible refine relAt_ops ?_
              intro A ρ hA hρ hcst hfun
              obtain ⟨f30, f34, _⟩ := hf
              have h30 : ρ (.tmp 30) = _ := (congrFun hρ _).trans ((evalHit hA 30 rfl).trans f30)
              have h34 : ρ (.tmp 34) = _ := (congrFun hρ _).trans ((evalHit hA 34 rfl).trans f34)
              simp [relUpon, go_sem, Ext.refl, h30, h34, hp2]
              rfl
            apply relPlan_eq'
            · intro V w' hx hf
              with_reducible refine relAt_ops ?_
              intro A ρ hA hρ hcst hfun
              have h6 : ρ (.tmp 6) = .string ⟨#[49, 48, 49]⟩ := (congrFun hρ _).trans (evalMiss hA 6 rfl)
              exact relUpon_move (hk := by rw [h6]; exact ⟨Ext.refl _, rfl⟩)
            refine relPlan_by (fun v w => Own 4 w 0 v (Ea.gd.map encT)) (fun _ _ _ h hx => h.ext hx) ?_ ?_
            · intro V w' hx hf
              with_reducible refine relAt_ops ?_
              intro A ρ hA hρ hcst hfun
              obtain ⟨f36, _⟩ := hf
              have h36 : ρ (.tmp 36) = _ := (congrFun hρ _).trans ((evalHit hA 36 rfl).trans f36)
              simp [relUpon, go_sem, hfun, h36]
              exact (HMS.out w').mono fun e w'' ⟨v, he, ho, hy⟩ => ⟨v, he, hy, ho.mono (Nat.zero_le _)⟩
            refine relPlan_by (eqv (.bool true)) (eqv_stable _) ?_ ?_
            · intro V w' hx hf
              with_reducible refine relAt_ops ?_
              intro A ρ hA hρ hcst hfun
              obtain ⟨f35, f37, _⟩ := hf
              have h35 : ρ (.tmp 35) = _ := (congrFun hρ _).trans ((evalHit hA 35 rfl).trans f35)
              have h37 : ρ (.tmp 37) = V 37 := (congrFun hρ _).trans (evalHit hA 37 rfl)
              simp [relUpon, go_sem, hfun, h35, h37]
              exact (HE2.out w' _ _ (HW.out.trans hx) f37).mono fun e w'' ⟨he, hy⟩ => ⟨_, he, hy, rfl⟩
            intro V wT hxT hf
            obtain ⟨g30, g31, g32, g33, g34, g35, g36, g37, g38, _⟩ := hf
            simp only [fillA, List.foldl_cons, List.foldl_nil, Act.put, List.setIfInBounds_toArray, List.set_cons_succ, List.set_cons_zero]
            have q38 : V 38 = _ := g38
            rw [q38]
            have HW2 := Lib.hid (HW.out.trans hxT)
            refine wpAny_solo 9 (by kernel_rfl) rfl (fun K hK => ?_)
            go_simp
            refine hK _ _ ?_
            clear hK K
            refine ⟨rfl, ?_⟩
            clear HW
            have HW := HW2
            clear HW2
            go_wp2_with fail
            refine (HRL.out _ HW.out).mono ?_
            rintro e w5 ⟨rfl, hx5⟩
            have HW2 := Lib.hid (HW.out.trans hx5)
            clear HW hx5
            have HW := HW2
            clear HW2
            go_wp2_with fail
            refine (HRR.out _ HW.out).mono ?_
            rintro e w5 ⟨rfl, hx5⟩
            have HW2 := Lib.hid (HW.out.trans hx5)
            clear HW hx5
            have HW := HW2
            clear HW2
            go_wp2_with fail
            refine wp_region_rel 4 14 rfl [76, 77, 78, 79] [[], [0], [], [1, 2]] (by kernel_rfl) (by kernel_rfl) ?_
            apply relPlan_eq'
            · intro V w' hx hf
              with_reducible refine relAt_ops ?_
              intro A ρ hA hρ hcst hfun
              have h0 : ρ (.tmp 0) = .slice a m.length c := (congrFun hρ _).trans (evalMiss hA 0 rfl)
              exact relUpon_move (hk := by rw [h0]; exact ⟨Ext.refl _, rfl⟩)
            apply relPlan_eq'
            · intro V w' hx hf
              with_reducible refine relAt_ops ?_
              intro A ρ hA hρ hcst hfun
              obtain ⟨f76, _⟩ := hf
              have h76 : ρ (.tmp 76) = _ := (congrFun hρ _).trans ((evalHit hA 76 rfl).trans f76)
              simp [relUpon, go_sem, hcst, Ext.refl, h76, hp3]
              rfl
            refine relPlan_by (fun v w => Own 4 w 0 v (Ea.md.map encT)) (fun _ _ _ h hx => h.ext hx) ?_ ?_
            · intro V w' hx hf
              with_reducible refine relAt_ops ?_
              intro A ρ hA hρ hcst hfun
              simp [relUpon, go_sem, hcst, hfun]
              exact (HMM.out w').mono fun e w'' ⟨v, he, ho, hy⟩ => ⟨v, he, hy, ho.mono (Nat.zero_le _)⟩
            refine relPlan_by (eqv (.bool true)) (eqv_stable _) ?_ ?_
            · intro V w' hx hf
              with_reducible refine relAt_ops ?_
              intro A ρ hA hρ hcst hfun
              obtain ⟨f77, f78, _⟩ := hf
              have h77 : ρ (.tmp 77) = _ := (congrFun hρ _).trans ((evalHit hA 77 rfl).trans f77)
              have h78 : ρ (.tmp 78) = V 78 := (congrFun hρ _).trans (evalHit hA 78 rfl)
              simp [relUpon, go_sem, hfun, h77, h78]
              exact (HE3.out w' _ _ (HW.out.trans hx) f78).mono fun e w'' ⟨he, hy⟩ => ⟨_, he, hy, rfl⟩
            intro V wT hxT hf
            obtain ⟨g76, g77, g78, g79, _⟩ := hf
            simp only [fillA, List.foldl_cons, List.foldl_nil, Act.put, List.setIfInBounds_toArray, List.set_cons_succ, List.set_cons_zero]
            have q79 : V 79 = _ := g79
            rw [q79]
            have HW2 := Lib.hid (HW.out.trans hxT)
            refine wpAny_solo 4 (by kernel_rfl) rfl (fun K hK => ?_)
            go_simp
            refine hK _ _ ?_
            clear hK K
            refine wpAny_solo 5 (by kernel_rfl) rfl (fun K hK => ?_)
            go_simp
            refine hK _ _ ?_
            clear hK K
            refine wpAny_solo 6 (by kernel_rfl) rfl (fun K hK => ?_)
            go_simp
            refine hK _ _ ?_
            clear hK K
            refine wpAny_solo 7 (by kernel_rfl) rfl (fun K hK => ?_)
            go_simp
            refine hK _ _ ?_
            clear hK K
            refine wpAny_solo 8 (by kernel_rfl) rfl (fun K hK => ?_)
            go_simp
            refine hK _ _ ?_
            clear hK K
            refine wpAny_solo 9 (by kernel_rfl) rfl (fun K hK => ?_)
            go_simp
            refine hK _ _ ?_
            clear hK K
            refine wpAny_solo 10 (by kernel_rfl) rfl (fun K hK => ?_)
            go_simp
            refine hK _ _ ?_
            clear hK K
            refine wpAny_solo 11 (by kernel_rfl) rfl (fun K hK => ?_)
            go_simp
            refine hK _ _ ?_
            clear hK K
            refine wpAny_solo 12 (by kernel_rfl) rfl (fun K hK => ?_)
            go_simp
            refine hK _ _ ?_
            clear hK K
            refine wpAny_solo 13 (by kernel_rfl) rfl (fun K hK => ?_)
            go_simp
            refine hK _ _ ?_
            clear hK K
            refine wpAny_solo 14 (by kernel_rfl) rfl (fun K hK => ?_)
            go_simp
            refine hK _ _ ?_
            clear hK K
            refine wpAny_solo 15 (by kernel_rfl) rfl (fun K hK => ?_)
            go_simp
            refine hK _ _ ?_
            clear hK K
            refine wpAny_solo 16 (by kernel_rfl) rfl (fun K hK => ?_)
            go_simp
            refine hK _ _ ?_
            clear hK K
            refine wpAny_solo 17 (by kernel_rfl) rfl (fun K hK => ?_)
            go_simp
            refine hK _ _ ?_
            clear hK K
            refine ⟨rfl, ?_⟩
            clear HW
            have HW := HW2
            clear HW2
            go_wp2
            go_ret3
            exact ⟨by rw [HG.out]; rfl, HW.out⟩
          | false =>
            rw [hrn] at hRe
            obtain ⟨q, rfl⟩ := Option.isSome_iff_exists.1 (show lo.isSome = true by cases lo with | none => cases hln | some q => rfl)
            obtain ⟨q2, rfl⟩ := Option.isSome_iff_exists.1 (show ro.isSome = true by cases ro with | none => cases hrn | some q => rfl)
            obtain ⟨l, u⟩ := q
            obtain ⟨r, u2⟩ := q2
            obtain ⟨hLl, hUl⟩ := HL1.out l u rfl
            obtain ⟨hRl, _⟩ := HR1.out r u2 rfl
            obtain ⟨f1, f2, f3, f4⟩ := HLF.out l u rfl
            obtain ⟨k1, k2, k3, k4⟩ := HRF.out r u2 rfl
            have HF13 := Lib.hid (fun w => xfind13_any U u hUl (fun x hx => by have := f4 x hx; omega) w)
            have HX2 := Lib.hid HX.out
            dsimp only at HX2
            rw [if_pos (of_decide_eq_true HB3.out)] at HX2
            clear HX HN hln hrn HL1 HR1 HLF HRF
            have HTX := Lib.hid (And.intro hLl (And.intro hRl (And.intro f1 k1)))
            clear hUl hLl hRl f1 f2 f3 f4 k1 k2 k3 k4
            cases hfd : Ea.find13 u with
            | none =>
              rw [hfd] at HX2 HF13
              have HG : Hid (res = ((0, []), 18)) := Lib.hid (by rw [← HX2.out]; rfl)
              rw [show noV none = -1 from rfl] at HF13
              clear HX2 hfd
              go_enter Tryz.func79, Tryz.ntmps79
              go_wp2_with fail
              refine wp_region_rel 4 1 rfl [25, 26, 27, 28] [[], [0], [], [1, 2]] (by kernel_rfl) (by kernel_rfl) ?_
              apply relPlan_eq'
              · intro V w' hx hf
                with_reducible refine relAt_ops ?_
                intro A ρ hA hρ hcst hfun
                have h0 : ρ (.tmp 0) = .slice a m.length c := (congrFun hρ _).trans (evalMiss hA 0 rfl)
                exact relUpon_move (hk := by rw [h0]; exact ⟨Ext.refl _, rfl⟩)
              apply relPlan_eq'
              · intro V w' hx hf
                with_reducible refine relAt_ops ?_
                intro A ρ hA hρ hcst hfun
                obtain ⟨f25, _⟩ := hf
                have h25 : ρ (.tmp 25) = _ := (congrFun hρ _).trans ((evalHit hA 25 rfl).trans f25)
                simp [relUpon, go_sem, hcst, Ext.refl, h25, hp1]
                rfl
              refine relPlan_by (fun v w => Own 4 w 0 v (Ea.gd.map encT)) (fun _ _ _ h hx => h.ext hx) ?_ ?_
              · intro V w' hx hf
                with_reducible refine relAt_ops ?_
                intro A ρ hA hρ hcst hfun
                simp [relUpon, go_sem, hcst, hfun]
                exact (HMG.out w').mono fun e w'' ⟨v, he, ho, hy⟩ => ⟨v, he, hy, ho.mono (Nat.zero_le _)⟩
              refine relPlan_by (eqv (.bool true)) (eqv_stable _) ?_ ?_
              · intro V w' hx hf
                with_reducible refine relAt_ops ?_
                intro A ρ hA hρ hcst hfun
                obtain ⟨f26, f27, _⟩ := hf
                have h26 : ρ (.tmp 26) = _ := (congrFun hρ _).trans ((evalHit hA 26 rfl).trans f26)
                have h27 : ρ (.tmp 27) = V 27 := (congrFun hρ _).trans (evalHit hA 27 rfl)
                simp [relUpon, go_sem, hfun, h26, h27]
                exact (HE1.out w' _ _ (HW.out.trans hx) f27).mono fun e w'' ⟨he, hy⟩ => ⟨_, he, hy, rfl⟩
              intro V wT hxT hf
              obtain ⟨g25, g26, g27, g28, _⟩ := hf
              simp only [fillA, List.foldl_cons, List.foldl_nil, Act.put, List.setIfInBounds_toArray, List.set_cons_succ, List.set_cons_zero]
              have q28 : V 28 = _ := g28
              rw [q28]
              have HW2 := Lib.hid (HW.out.trans hxT)
              refine wpAny_solo 4 (by kernel_rfl) rfl (fun K hK => ?_)
              go_simp
              refine hK _ _ ?_
              clear hK K
              refine ⟨rfl, ?_⟩
              clear HW
              have HW := HW2
              clear HW2
              go_wp2_with fail
              refine wp_region_rel 9 1 rfl [30, 31, 32, 33, 34, 35, 36, 37, 38] [[], [], [], [2], [1, 3], [0, 4], [], [6], [5, 7]] (by kernel_rfl) (by kernel_rfl) ?_
              apply relPlan_eq'
              · intro V w' hx hf
                with_reducible refine relAt_ops ?_
                intro A ρ hA hρ hcst hfun
                have h0 : ρ (.tmp 0) = .slice a m.length c := (congrFun hρ _).trans (evalMiss hA 0 rfl)
                exact relUpon_move (hk := by rw [h0]; exact ⟨Ext.refl _, rfl⟩)
              apply relPlan_eq'
              · intro V w' hx hf
                with_reducible refine relAt_ops ?_
                intro A ρ hA hρ hcst hfun
                have h5 : ρ (.tmp 5) = .int .i64 (m.length : Int) := (congrFun hρ _).trans (evalMiss hA 5 rfl)
                exact relUpon_move (hk := by rw [h5]; exact ⟨Ext.refl _, rfl⟩)
              apply relPlan_eq'
              · intro V w' hx hf
                with_reducible refine relAt_ops ?_
                intro A ρ hA hρ hcst hfun
                have h6 : ρ (.tmp 6) = .string ⟨#[49, 48, 49]⟩ := (congrFun hρ _).trans (evalMiss hA 6 rfl)
                exact relUpon_move (hk := by rw [h6]; exact ⟨Ext.refl _, rfl⟩)
              apply relPlan_eq'
              · intro V w' hx hf
                with_reducible refine relAt_ops ?_
                intro A ρ hA hρ hcst hfun
                obtain ⟨f32, _⟩ := hf
                have h32 : ρ (.tmp 32) = _ := (congrFun hρ _).trans ((evalHit hA 32 rfl).trans f32)
                simp [relUpon, go_sem, Ext.refl, h32]
                rfl
              apply relPlan_eq'
              · intro V w' hx hf
                with_reducible refine relAt_ops ?_
                intro A ρ hA hρ hcst hfun
                obtain ⟨f31, f33, _⟩ := hf
                have h31 : ρ (.tmp 31) = _ := (congrFun hρ _).trans ((evalHit hA 31 rfl).trans f31)
                have h33 : ρ (.tmp 33) = _ := (congrFun hρ _).trans ((evalHit hA 33 rfl).trans f33)
                simp [relUpon, go_sem, Ext.refl, h31, h33, e92, w92]
                rfl
              apply relPlan_eq'
              · intro V w' hx hf
                with_reducible refine relAt_ops ?_
                intro A ρ hA hρ hcst hfun
                obtain ⟨f30, f34, _⟩ := hf
                have h30 : ρ (.tmp 30) = _ := (congrFun hρ _).trans ((evalHit hA 30 rfl).trans f30)
                have h34 : ρ (.tmp 34) = _ := (congrFun hρ _).trans ((evalHit hA 34 rfl).trans f34)
                simp [relUpon, go_sem, Ext.refl, h30, h34, hp2]
                rfl
              apply relPlan_eq'
              · intro V w' hx hf
                with_reducible refine relAt_ops ?_
                intro A ρ hA hρ hcst hfun
                have h6 : ρ (.tmp 6) = .string ⟨#[49, 48, 49]⟩ := (congrFun hρ _).trans (evalMiss hA 6 rfl)
                exact relUpon_move (hk := by rw [h6]; exact ⟨Ext.refl _, rfl⟩)
              refine relPlan_by (fun v w => Own 4 w 0 v (Ea.gd.map encT)) (fun _ _ _ h hx => h.ext hx) ?_ ?_
              · intro V w' hx hf
                with_reducible refine relAt_ops ?_
                intro A ρ hA hρ hcst hfun
                obtain ⟨f36, _⟩ := hf
                have h36 : ρ (.tmp 36) = _ := (congrFun hρ _).trans ((evalHit hA 36 rfl).trans f36)
                simp [relUpon, go_sem, hfun, h36]
                exact (HMS.out w').mono fun e w'' ⟨v, he, ho, hy⟩ => ⟨v, he, hy, ho.mono (Nat.zero_le _)⟩
              refine relPlan_by (eqv (.bool true)) (eqv_stable _) ?_ ?_
              · intro V w' hx hf
                with_reducible refine relAt_ops ?_
                intro A ρ hA hρ hcst hfun
                obtain ⟨f35, f37, _⟩ := hf
                have h35 : ρ (.tmp 35) = _ := (congrFun hρ _).trans ((evalHit hA 35 rfl).trans f35)
                have h37 : ρ (.tmp 37) = V 37 := (congrFun hρ _).trans (evalHit hA 37 rfl)
                simp [relUpon, go_sem, hfun, h35, h37]
                exact (HE2.out w' _ _ (HW.out.trans hx) f37).mono fun e w'' ⟨he, hy⟩ => ⟨_, he, hy, rfl⟩
              intro V wT hxT hf
              obtain ⟨g30, g31, g32, g33, g34, g35, g36, g37, g38, _⟩ := hf
              simp only [fillA, List.foldl_cons, List.foldl_nil, Act.put, List.setIfInBounds_toArray, List.set_cons_succ, List.set_cons_zero]
              have q38 : V 38 = _ := g38
              rw [q38]
              have HW2 := Lib.hid (HW.out.trans hxT)
              refine wpAny_solo 9 (by kernel_rfl) rfl (fun K hK => ?_)
              go_simp
              refine hK _ _ ?_
              clear hK K
              refine ⟨rfl, ?_⟩
              clear HW
              have HW := HW2
              clear HW2
              go_wp2_with fail
              refine (HRL.out _ HW.out).mono ?_
              rintro e w5 ⟨rfl, hx5⟩
              have HW2 := Lib.hid (HW.out.trans hx5)
              clear HW hx5
              have HW := HW2
              clear HW2
              go_wp2_with fail
              refine (HRR.out _ HW.out).mono ?_
              rintro e w5 ⟨rfl, hx5⟩
              have HW2 := Lib.hid (HW.out.trans hx5)
              clear HW hx5
              have HW := HW2
              clear HW2
              go_wp2_with fail
              refine wp_region_rel 4 14 rfl [76, 77, 78, 79] [[], [0], [], [1, 2]] (by kernel_rfl) (by kernel_rfl) ?_
              apply relPlan_eq'
              · intro V w' hx hf
                with_reducible refine relAt_ops ?_
                intro A ρ hA hρ hcst hfun
                have h0 : ρ (.tmp 0) = .slice a m.length c := (congrFun hρ _).trans (evalMiss hA 0 rfl)
                exact relUpon_move (hk := by rw [h0]; exact ⟨Ext.refl _, rfl⟩)
              apply relPlan_eq'
              · intro V w' hx hf
                with_reducible refine relAt_ops ?_
                intro A ρ hA hρ hcst hfun
                obtain ⟨f76, _⟩ := hf
                have h76 : ρ (.tmp 76) = _ := (congrFun hρ _).trans ((evalHit hA 76 rfl).trans f76)
                simp [relUpon, go_sem, hcst, Ext.refl, h76, hp3]
                rfl
              refine relPlan_by (fun v w => Own 4 w 0 v (Ea.md.map encT)) (fun _ _ _ h hx => h.ext hx) ?_ ?_
              · intro V w' hx hf
                with_reducible refine relAt_ops ?_
                intro A ρ hA hρ hcst hfun
                simp [relUpon, go_sem, hcst, hfun]
                exact (HMM.out w').mono fun e w'' ⟨v, he, ho, hy⟩ => ⟨v, he, hy, ho.mono (Nat.zero_le _)⟩
              refine relPlan_by (eqv (.bool true)) (eqv_stable _) ?_ ?_
              · intro V w' hx hf
                with_reducible refine relAt_ops ?_
                intro A ρ hA hρ hcst hfun
                obtain ⟨f77, f78, _⟩ := hf
                have h77 : ρ (.tmp 77) = _ := (congrFun hρ _).trans ((evalHit hA 77 rfl).trans f77)
                have h78 : ρ (.tmp 78) = V 78 := (congrFun hρ _).trans (evalHit hA 78 rfl)
                simp [relUpon, go_sem, hfun, h77, h78]
                exact (HE3.out w' _ _ (HW.out.trans hx) f78).mono fun e w'' ⟨he, hy⟩ => ⟨_, he, hy, rfl⟩
              intro V wT hxT hf
              obtain ⟨g76, g77, g78, g79, _⟩ := hf
              simp only [fillA, List.foldl_cons, List.foldl_nil, Act.put, List.setIfInBounds_toArray, List.set_cons_succ, List.set_cons_zero]
              have q79 : V 79 = _ := g79
              rw [q79]
              have HW2 := Lib.hid (HW.out.trans hxT)
              refine wpAny_solo 4 (by kernel_rfl) rfl (fun K hK => ?_)
              go_simp
              refine hK _ _ ?_
              clear hK K
              refine wpAny_solo 5 (by kernel_rfl) rfl (fun K hK => ?_)
              go_simp
              refine hK _ _ ?_
              clear hK K
              refine wpAny_solo 6 (by kernel_rfl) rfl (fun K hK => ?_)
              go_simp
              refine hK _ _ ?_
              clear hK K
              refine wpAny_solo 7 (by kernel_rfl) rfl (fun K hK => ?_)
              go_simp
              refine hK _ _ ?_
              clear hK K
              refine wpAny_solo 8 (by kernel_rfl) rfl (fun K hK => ?_)
              go_simp
              refine hK _ _ ?_
              clear hK K
              refine wpAny_solo 9 (by kernel_rfl) rfl (fun K hK => ?_)
              go_simp
              refine hK _ _ ?_
              clear hK K
              refine wpAny_solo 10 (by kernel_rfl) rfl (fun K hK => ?_)
              go_simp
              refine hK _ _ ?_
              clear hK K
              refine wpAny_solo 11 (by kernel_rfl) rfl (fun K hK => ?_)
              go_simp
              refine hK _ _ ?_
              clear hK K
              refine wpAny_solo 12 (by kernel_rfl) rfl (fun K hK => ?_)
              go_simp
              refine hK _ _ ?_
              clear hK K
              refine wpAny_solo 13 (by kernel_rfl) rfl (fun K hK => ?_)
              go_simp
              refine hK _ _ ?_
              clear hK K
              refine wpAny_solo 14 (by kernel_rfl) rfl (fun K hK => ?_)
              go_simp
              refine hK _ _ ?_
              clear hK K
              refine wpAny_solo 15 (by kernel_rfl) rfl (fun K hK => ?_)
              go_simp
              refine (HF13.out _).mono ?_
              rintro e w6 ⟨rfl, hx6⟩
              refine hK _ _ ?_
              clear hK K
              have HW3 := Lib.hid (HW2.out.trans hx6)
              clear HW2 hx6
              have HW2 := HW3
              clear HW3
              refine wpAny_solo 16 (by kernel_rfl) rfl (fun K hK => ?_)
              go_simp
              refine hK _ _ ?_
              clear hK K
              refine wpAny_solo 17 (by kernel_rfl) rfl (fun K hK => ?_)
              go_simp
              refine hK _ _ ?_
              clear hK K
              refine ⟨rfl, ?_⟩
              clear HW
              have HW := HW2
              clear HW2
              go_wp2
              go_ret3
              exact ⟨by rw [HG.out]; rfl, HW.out⟩
            | some d =>
              have hd10 := (Ea.find13_some hfd).1
              rw [hfd] at HX2 HF13
              rw [show noV (some d) = (d : Int) from rfl] at HF13
              have HDG := Lib.hid (fun w => xdigit_any d hd10 w)
              have HD10 := Lib.hid hd10
              obtain ⟨DG, hDG⟩ : ∃ DG, Ea.bS [Ea.chr d] = DG := ⟨_, rfl⟩
              have hDs : DG.size ≤ 1 := by rw [← hDG]; exact Nat.le_refl _
              rw [hDG] at HDG
              obtain ⟨T, hT⟩ : ∃ T, DG ++ L ++ R = T := ⟨_, rfl⟩
              have HTL : Hid (T.data.toList = Ea.chr d :: (l ++ r)) := Lib.hid (by rw [← hT, ← hDG]; simp only [ByteArray.data_append, Array.toList_append, HTX.out.1, HTX.out.2.1, Ea.bS_list]; simp)
              have hTz : T.size = 13 := by rw [size_of_toList HTL.out]; simp [HTX.out.2.2.1, HTX.out.2.2.2]
              dsimp only [Option.map] at HX2
              obtain ⟨tl, htl⟩ : ∃ tl, Ea.chr d :: (l ++ r) = tl := ⟨_, rfl⟩
              have H0 : Hid (tl.getD 0 0 = Ea.chr d) := Lib.hid (by rw [← htl]; rfl)
              rw [htl] at HX2 HTL
              have HT := Lib.hid hT
              clear htl hDG hfd HTX hT hd10
              have HFU := Lib.hid (fun w => xfull_any 1 T (by omega) w)
              rw [HTL.out] at HFU
              obtain ⟨fe, hfe⟩ : ∃ fe, Ea.full 1 tl = fe := ⟨_, rfl⟩
              rw [hfe] at HFU HX2
              have hTl : 13 ≤ T.size := by omega
              have hTu : T.size ≤ 13 := by omega
              clear hfe hTz
              by_cases hf0 : fe = 0
              · rw [if_neg (fun h => h hf0)] at HX2
                have hfb : (fe != 0) = false := by rw [hf0]; rfl
                clear hf0
                have hT0 : 0 < T.size := by omega
                have e0 : T[0] = Ea.chr d := by
                  rw [← H0.out, ← HTL.out, List.getD_eq_getElem?_getD, List.getElem?_eq_getElem (by rw [len_data]; exact hT0)]; rfl
                by_cases hd0 : d = 0
                · have hb0 : ((T[0].toNat : Int) == 48) = true := by rw [e0, hd0]; rfl
                  have HG : Hid (res = ((3, tl.drop 1), 0)) := Lib.hid (by rw [← HX2.out, if_pos ⟨rfl, by rw [H0.out, hd0]; rfl⟩])
                  have HE : Hid (T.extract 1 T.size = Ea.bS (tl.drop 1)) := Lib.hid (by rw [← HTL.out, ← cut_back, Ea.bS_of])
                  clear e0 hd0 HX2
                  go_enter Tryz.func79, Tryz.ntmps79
                  go_wp2_with fail
                  refine wp_region_rel 4 1 rfl [25, 26, 27, 28] [[], [0], [], [1, 2]] (by kernel_rfl) (by kernel_rfl) ?_
                  apply relPlan_eq'
                  · intro V w' hx hf
                    with_reducible refine relAt_ops ?_
                    intro A ρ hA hρ hcst hfun
                    have h0 : ρ (.tmp 0) = .slice a m.length c := (congrFun hρ _).trans (evalMiss hA 0 rfl)
                    exact relUpon_move (hk := by rw [h0]; exact ⟨Ext.refl _, rfl⟩)
                  apply relPlan_eq'
                  · intro V w' hx hf
                    with_reducible refine relAt_ops ?_
                    intro A ρ hA hρ hcst hfun
                    obtain ⟨f25, _⟩ := hf
                    have h25 : ρ (.tmp 25) = _ := (congrFun hρ _).trans ((evalHit hA 25 rfl).trans f25)
                    simp [relUpon, go_sem, hcst, Ext.refl, h25, hp1]
                    rfl
                  refine relPlan_by (fun v w => Own 4 w 0 v (Ea.gd.map encT)) (fun _ _ _ h hx => h.ext hx) ?_ ?_
                  · intro V w' hx hf
                    with_reducible refine relAt_ops ?_
                    intro A ρ hA hρ hcst hfun
                    simp [relUpon, go_sem, hcst, hfun]
                    exact (HMG.out w').mono fun e w'' ⟨v, he, ho, hy⟩ => ⟨v, he, hy, ho.mono (Nat.zero_le _)⟩
                  refine relPlan_by (eqv (.bool true)) (eqv_stable _) ?_ ?_
                  · intro V w' hx hf
                    with_reducible refine relAt_ops ?_
                    intro A ρ hA hρ hcst hfun
                    obtain ⟨f26, f27, _⟩ := hf
                    have h26 : ρ (.tmp 26) = _ := (congrFun hρ _).trans ((evalHit hA 26 rfl).trans f26)
                    have h27 : ρ (.tmp 27) = V 27 := (congrFun hρ _).trans (evalHit hA 27 rfl)
                    simp [relUpon, go_sem, hfun, h26, h27]
                    exact (HE1.out w' _ _ (HW.out.trans hx) f27).mono fun e w'' ⟨he, hy⟩ => ⟨_, he, hy, rfl⟩
                  intro V wT hxT hf
                  obtain ⟨g25, g26, g27, g28, _⟩ := hf
                  simp only [fillA, List.foldl_cons, List.foldl_nil, Act.put, List.setIfInBounds_toArray, List.set_cons_succ, List.set_cons_zero]
                  have q28 : V 28 = _ := g28
                  rw [q28]
                  have HW2 := Lib.hid (HW.out.trans hxT)
                  refine wpAny_solo 4 (by kernel_rfl) rfl (fun K hK => ?_)
                  go_simp
                  refine hK _ _ ?_
                  clear hK K
                  refine ⟨rfl, ?_⟩
                  clear HW
                  have HW := HW2
                  clear HW2
                  go_wp2_with fail
                  refine wp_region_rel 9 1 rfl [30, 31, 32, 33, 34, 35, 36, 37, 38] [[], [], [], [2], [1, 3], [0, 4], [], [6], [5, 7]] (by kernel_rfl) (by kernel_rfl) ?_
                  apply relPlan_eq'
                  · intro V w' hx hf
                    with_reducible refine relAt_ops ?_
                    intro A ρ hA hρ hcst hfun
                    have h0 : ρ (.tmp 0) = .slice a m.length c := (congrFun hρ _).trans (evalMiss hA 0 rfl)
                    exact relUpon_move (hk := by rw [h0]; exact ⟨Ext.refl _, rfl⟩)
                  apply relPlan_eq'
                  · intro V w' hx hf
                    with_reducible refine relAt_ops ?_
                    intro A ρ hA hρ hcst hfun
                    have h5 : ρ (.tmp 5) = .int .i64 (m.length : Int) := (congrFun hρ _).trans (evalMiss hA 5 rfl)
                    exact relUpon_move (hk := by rw [h5]; exact ⟨Ext.refl _, rfl⟩)
                  apply relPlan_eq'
                  · intro V w' hx hf
                    with_reducible refine relAt_ops ?_
                    intro A ρ hA hρ hcst hfun
                    have h6 : ρ (.tmp 6) = .string ⟨#[49, 48, 49]⟩ := (congrFun hρ _).trans (evalMiss hA 6 rfl)
                    exact relUpon_move (hk := by rw [h6]; exact ⟨Ext.refl _, rfl⟩)
                  apply relPlan_eq'
                  · intro V w' hx hf
                    with_reducible refine relAt_ops ?_
                    intro A ρ hA hρ hcst hfun
                    obtain ⟨f32, _⟩ := hf
                    have h32 : ρ (.tmp 32) = _ := (congrFun hρ _).trans ((evalHit hA 32 rfl).trans f32)
                    simp [relUpon, go_sem, Ext.refl, h32]
                    rfl
                  apply relPlan_eq'
                  · intro V w' hx hf
                    with_reducible refine relAt_ops ?_
                    intro A ρ hA hρ hcst hfun
                    obtain ⟨f31, f33, _⟩ := hf
                    have h31 : ρ (.tmp 31) = _ := (congrFun hρ _).trans ((evalHit hA 31 rfl).trans f31)
                    have h33 : ρ (.tmp 33) = _ := (congrFun hρ _).trans ((evalHit hA 33 rfl).trans f33)
                    simp [relUpon, go_sem, Ext.refl, h31, h33, e92, w92]
                    rfl
                  apply relPlan_eq'
                  · intro V w' hx hf
                    with_reducible refine relAt_ops ?_
                    intro A ρ hA hρ hcst hfun
                    obtain ⟨f30, f34, _⟩ := hf
                    have h30 : ρ (.tmp 30) = _ := (congrFun hρ _).trans ((evalHit hA 30 rfl).trans f30)
                    have h34 : ρ (.tmp 34) = _ := (congrFun hρ _).trans ((evalHit hA 34 rfl).trans f34)
                    simp [relUpon, go_sem, Ext.refl, h30, h34, hp2]
                    rfl
                  apply relPlan_eq'
                  · intro V w' hx hf
                    with_reducible refine relAt_ops ?_
                    intro A ρ hA hρ hcst hfun
                    have h6 : ρ (.tmp 6) = .string ⟨#[49, 48, 49]⟩ := (congrFun hρ _).trans (evalMiss hA 6 rfl)
                    exact relUpon_move (hk := by rw [h6]; exact ⟨Ext.refl _, rfl⟩)
                  refine relPlan_by (fun v w => Own 4 w 0 v (Ea.gd.map encT)) (fun _ _ _ h hx => h.ext hx) ?_ ?_
                  · intro V w' hx hf
                    with_reducible refine relAt_ops ?_
                    intro A ρ hA hρ hcst hfun
                    obtain ⟨f36, _⟩ := hf
                    have h36 : ρ (.tmp 36) = _ := (congrFun hρ _).trans ((evalHit hA 36 rfl).trans f36)
                    simp [relUpon, go_sem, hfun, h36]
                    exact (HMS.out w').mono fun e w'' ⟨v, he, ho, hy⟩ => ⟨v, he, hy, ho.mono (Nat.zero_le _)⟩
                  refine relPlan_by (eqv (.bool true)) (eqv_stable _) ?_ ?_
                  · intro V w' hx hf
                    with_reducible refine relAt_ops ?_
                    intro A ρ hA hρ hcst hfun
                    obtain ⟨f35, f37, _⟩ := hf
                    have h35 : ρ (.tmp 35) = _ := (congrFun hρ _).trans ((evalHit hA 35 rfl).trans f35)
                    have h37 : ρ (.tmp 37) = V 37 := (congrFun hρ _).trans (evalHit hA 37 rfl)
                    simp [relUpon, go_sem, hfun, h35, h37]
                    exact (HE2.out w' _ _ (HW.out.trans hx) f37).mono fun e w'' ⟨he, hy⟩ => ⟨_, he, hy, rfl⟩
                  intro V wT hxT hf
                  obtain ⟨g30, g31, g32, g33, g34, g35, g36, g37, g38, _⟩ := hf
                  simp only [fillA, List.foldl_cons, List.foldl_nil, Act.put, List.setIfInBounds_toArray, List.set_cons_succ, List.set_cons_zero]
                  have q38 : V 38 = _ := g38
                  rw [q38]
                  have HW2 := Lib.hid (HW.out.trans hxT)
                  refine wpAny_solo 9 (by kernel_rfl) rfl (fun K hK => ?_)
                  go_simp
                  refine hK _ _ ?_
                  clear hK K
                  refine ⟨rfl, ?_⟩
                  clear HW
                  have HW := HW2
                  clear HW2
                  go_wp2_with fail
                  refine (HRL.out _ HW.out).mono ?_
                  rintro e w5 ⟨rfl, hx5⟩
                  have HW2 := Lib.hid (HW.out.trans hx5)
                  clear HW hx5
                  have HW := HW2
                  clear HW2
                  go_wp2_with fail
                  refine (HRR.out _ HW.out).mono ?_
                  rintro e w5 ⟨rfl, hx5⟩
                  have HW2 := Lib.hid (HW.out.trans hx5)
                  clear HW hx5
                  have HW := HW2
                  clear HW2
                  go_wp2_with fail
                  refine wp_region_rel 4 14 rfl [76, 77, 78, 79] [[], [0], [], [1, 2]] (by kernel_rfl) (by kernel_rfl) ?_
                  apply relPlan_eq'
                  · intro V w' hx hf
                    with_reducible refine relAt_ops ?_
                    intro A ρ hA hρ hcst hfun
                    have h0 : ρ (.tmp 0) = .slice a m.length c := (congrFun hρ _).trans (evalMiss hA 0 rfl)
                    exact relUpon_move (hk := by rw [h0]; exact ⟨Ext.refl _, rfl⟩)
                  apply relPlan_eq'
                  · intro V w' hx hf
                    with_reducible refine relAt_ops ?_
                    intro A ρ hA hρ hcst hfun
                    obtain ⟨f76, _⟩ := hf
                    have h76 : ρ (.tmp 76) = _ := (congrFun hρ _).trans ((evalHit hA 76 rfl).trans f76)
                    simp [relUpon, go_sem, hcst, Ext.refl, h76, hp3]
                    rfl
                  refine relPlan_by (fun v w => Own 4 w 0 v (Ea.md.map encT)) (fun _ _ _ h hx => h.ext hx) ?_ ?_
                  · intro V w' hx hf
                    with_reducible refine relAt_ops ?_
                    intro A ρ hA hρ hcst hfun
                    simp [relUpon, go_sem, hcst, hfun]
                    exact (HMM.out w').mono fun e w'' ⟨v, he, ho, hy⟩ => ⟨v, he, hy, ho.mono (Nat.zero_le _)⟩
                  refine relPlan_by (eqv (.bool true)) (eqv_stable _) ?_ ?_
                  · intro V w' hx hf
                    with_reducible refine relAt_ops ?_
                    intro A ρ hA hρ hcst hfun
                    obtain ⟨f77, f78, _⟩ := hf
                    have h77 : ρ (.tmp 77) = _ := (congrFun hρ _).trans ((evalHit hA 77 rfl).trans f77)
                    have h78 : ρ (.tmp 78) = V 78 := (congrFun hρ _).trans (evalHit hA 78 rfl)
                    simp [relUpon, go_sem, hfun, h77, h78]
                    exact (HE3.out w' _ _ (HW.out.trans hx) f78).mono fun e w'' ⟨he, hy⟩ => ⟨_, he, hy, rfl⟩
                  intro V wT hxT hf
                  obtain ⟨g76, g77, g78, g79, _⟩ := hf
                  simp only [fillA, List.foldl_cons, List.foldl_nil, Act.put, List.setIfInBounds_toArray, List.set_cons_succ, List.set_cons_zero]
                  have q79 : V 79 = _ := g79
                  rw [q79]
                  have HW2 := Lib.hid (HW.out.trans hxT)
                  refine wpAny_solo 4 (by kernel_rfl) rfl (fun K hK => ?_)
                  go_simp
                  refine hK _ _ ?_
                  clear hK K
                  refine wpAny_solo 5 (by kernel_rfl) rfl (fun K hK => ?_)
                  go_simp
                  refine hK _ _ ?_
                  clear hK K
                  refine wpAny_solo 6 (by kernel_rfl) rfl (fun K hK => ?_)
                  go_simp
                  refine hK _ _ ?_
                  clear hK K
                  refine wpAny_solo 7 (by kernel_rfl) rfl (fun K hK => ?_)
                  go_simp
                  refine hK _ _ ?_
                  clear hK K
                  refine wpAny_solo 8 (by kernel_rfl) rfl (fun K hK => ?_)
                  go_simp
                  refine hK _ _ ?_
                  clear hK K
                  refine wpAny_solo 9 (by kernel_rfl) rfl (fun K hK => ?_)
                  go_simp
                  refine hK _ _ ?_
                  clear hK K
                  refine wpAny_solo 10 (by kernel_rfl) rfl (fun K hK => ?_)
                  go_simp
                  refine hK _ _ ?_
                  clear hK K
                  refine wpAny_solo 11 (by kernel_rfl) rfl (fun K hK => ?_)
                  go_simp
                  refine hK _ _ ?_
                  clear hK K
                  refine wpAny_solo 12 (by kernel_rfl) rfl (fun K hK => ?_)
                  go_simp
                  refine hK _ _ ?_
                  clear hK K
                  refine wpAny_solo 13 (by kernel_rfl) rfl (fun K hK => ?_)
                  go_simp
                  refine hK _ _ ?_
                  clear hK K
                  refine wpAny_solo 14 (by kernel_rfl) rfl (fun K hK => ?_)
                  go_simp
                  refine hK _ _ ?_
                  clear hK K
                  refine wpAny_solo 15 (by kernel_rfl) rfl (fun K hK => ?_)
                  go_simp
                  refine (HF13.out _).mono ?_
                  rintro e w6 ⟨rfl, hx6⟩
                  refine hK _ _ ?_
                  clear hK K
                  have HW3 := Lib.hid (HW2.out.trans hx6)
                  clear HW2 hx6
                  have HW2 := HW3
                  clear HW3
                  refine wpAny_solo 16 (by kernel_rfl) rfl (fun K hK => ?_)
                  go_simp
                  refine hK _ _ ?_
                  clear hK K
                  refine wpAny_solo 17 (by kernel_rfl) rfl (fun K hK => ?_)
                  go_simp
                  refine hK _ _ ?_
                  clear hK K
                  refine ⟨rfl, ?_⟩
                  clear HW
                  have HW := HW2
                  clear HW2
                  go_wp2_with fail
                  refine (HF13.out _).mono ?_
                  rintro e w7 ⟨rfl, hx7⟩
                  go_wp2_with fail
                  refine (HDG.out _).mono ?_
                  rintro e w8 ⟨rfl, hx8⟩
                  have HW2 := Lib.hid (HW.out.trans (hx7.trans hx8))
                  clear HW hx7 hx8
                  have HW := HW2
                  clear HW2
                  go_wp2_with fail
                  rw [HT.out]
                  refine (HFU.out _).mono ?_
                  rintro e w9 ⟨rfl, hx9⟩
                  have HW2 := Lib.hid (HW.out.trans hx9)
                  clear HW hx9
                  have HW := HW2
                  clear HW2
                  go_wp2_with fail
                  go_quiet (fail)
                  go_wp2
                  go_ret3
                  exact ⟨by rw [HG.out]; unfold xsymV; dsimp only; rw [← HE.out]; rfl, HW.out.drewN _⟩
                · have hb0 : ((T[0].toNat : Int) == 48) = false := by
                    rw [e0, beq_eq_false_iff_ne]
                    have := Ea.chr_nat HD10.out
                    unfold Ea.chr
                    omega
                  have HG : Hid (res = ((1, tl), 0)) := Lib.hid (by
                    rw [← HX2.out, if_neg]
                    rintro ⟨_, h⟩
                    rw [H0.out] at h
                    have := congrArg UInt8.toNat h
                    have h2 := Ea.chr_nat HD10.out
                    unfold Ea.chr at this
                    rw [h2, show (48 : UInt8).toNat = 48 from rfl] at this
                    exact hd0 (by omega))
                  have HE : Hid (T = Ea.bS tl) := Lib.hid (by rw [← HTL.out, Ea.bS_of])
                  clear e0 hd0 HX2
                  go_enter Tryz.func79, Tryz.ntmps79
                  go_wp2_with fail
                  refine wp_region_rel 4 1 rfl [25, 26, 27, 28] [[], [0], [], [1, 2]] (by kernel_rfl) (by kernel_rfl) ?_
                  apply relPlan_eq'
                  · intro V w' hx hf
                    with_reducible refine relAt_ops ?_
                    intro A ρ hA hρ hcst hfun
                    have h0 : ρ (.tmp 0) = .slice a m.length c := (congrFun hρ _).trans (evalMiss hA 0 rfl)
                    exact relUpon_move (hk := by rw [h0]; exact ⟨Ext.refl _, rfl⟩)
                  apply relPlan_eq'
                  · intro V w' hx hf
                    with_reducible refine relAt_ops ?_
                    intro A ρ hA hρ hcst hfun
                    obtain ⟨f25, _⟩ := hf
                    have h25 : ρ (.tmp 25) = _ := (congrFun hρ _).trans ((evalHit hA 25 rfl).trans f25)
                    simp [relUpon, go_sem, hcst, Ext.refl, h25, hp1]
                    rfl
                  refine relPlan_by (fun v w => Own 4 w 0 v (Ea.gd.map encT)) (fun _ _ _ h hx => h.ext hx) ?_ ?_
                  · intro V w' hx hf
                    with_reducible refine relAt_ops ?_
                    intro A ρ hA hρ hcst hfun
                    simp [relUpon, go_sem, hcst, hfun]
                    exact (HMG.out w').mono fun e w'' ⟨v, he, ho, hy⟩ => ⟨v, he, hy, ho.mono (Nat.zero_le _)⟩
                  refine relPlan_by (eqv (.bool true)) (eqv_stable _) ?_ ?_
                  · intro V w' hx hf
                    with_reducible refine relAt_ops ?_
                    intro A ρ hA hρ hcst hfun
                    obtain ⟨f26, f27, _⟩ := hf
                    have h26 : ρ (.tmp 26) = _ := (congrFun hρ _).trans ((evalHit hA 26 rfl).trans f26)
                    have h27 : ρ (.tmp 27) = V 27 := (congrFun hρ _).trans (evalHit hA 27 rfl)
                    simp [relUpon, go_sem, hfun, h26, h27]
                    exact (HE1.out w' _ _ (HW.out.trans hx) f27).mono fun e w'' ⟨he, hy⟩ => ⟨_, he, hy, rfl⟩
                  intro V wT hxT hf
                  obtain ⟨g25, g26, g27, g28, _⟩ := hf
                  simp only [fillA, List.foldl_cons, List.foldl_nil, Act.put, List.setIfInBounds_toArray, List.set_cons_succ, List.set_cons_zero]
                  have q28 : V 28 = _ := g28
                  rw [q28]
                  have HW2 := Lib.hid (HW.out.trans hxT)
                  refine wpAny_solo 4 (by kernel_rfl) rfl (fun K hK => ?_)
                  go_simp
                  refine hK _ _ ?_
                  clear hK K
                  refine ⟨rfl, ?_⟩
                  clear HW
                  have HW := HW2
                  clear HW2
                  go_wp2_with fail
                  refine wp_region_rel 9 1 rfl [30, 31, 32, 33, 34, 35, 36, 37, 38] [[], [], [], [2], [1, 3], [0, 4], [], [6], [5, 7]] (by kernel_rfl) (by kernel_rfl) ?_
                  apply relPlan_eq'
                  · intro V w' hx hf
                    with_reducible refine relAt_ops ?_
                    intro A ρ hA hρ hcst hfun
                    have h0 : ρ (.tmp 0) = .slice a m.length c := (congrFun hρ _).trans (evalMiss hA 0 rfl)
                    exact relUpon_move (hk := by rw [h0]; exact ⟨Ext.refl _, rfl⟩)
                  apply relPlan_eq'
                  · intro V w' hx hf
                    with_reducible refine relAt_ops ?_
                    intro A ρ hA hρ hcst hfun
                    have h5 : ρ (.tmp 5) = .int .i64 (m.length : Int) := (congrFun hρ _).trans (evalMiss hA 5 rfl)
                    exact relUpon_move (hk := by rw [h5]; exact ⟨Ext.refl _, rfl⟩)
                  apply relPlan_eq'
                  · intro V w' hx hf
                    with_reducible refine relAt_ops ?_
                    intro A ρ hA hρ hcst hfun
                    have h6 : ρ (.tmp 6) = .string ⟨#[49, 48, 49]⟩ := (congrFun hρ _).trans (evalMiss hA 6 rfl)
                    exact relUpon_move (hk := by rw [h6]; exact ⟨Ext.refl _, rfl⟩)
                  apply relPlan_eq'
                  · intro V w' hx hf
                    with_reducible refine relAt_ops ?_
                    intro A ρ hA hρ hcst hfun
                    obtain ⟨f32, _⟩ := hf
                    have h32 : ρ (.tmp 32) = _ := (congrFun hρ _).trans ((evalHit hA 32 rfl).trans f32)
                    simp [relUpon, go_sem, Ext.refl, h32]
                    rfl
                  apply relPlan_eq'
                  · intro V w' hx hf
                    with_reducible refine relAt_ops ?_
                    intro A ρ hA hρ hcst hfun
                    obtain ⟨f31, f33, _⟩ := hf
                    have h31 : ρ (.tmp 31) = _ := (congrFun hρ _).trans ((evalHit hA 31 rfl).trans f31)
                    have h33 : ρ (.tmp 33) = _ := (congrFun hρ _).trans ((evalHit hA 33 rfl).trans f33)
                    simp [relUpon, go_sem, Ext.refl, h31, h33, e92, w92]
                    rfl
                  apply relPlan_eq'
                  · intro V w' hx hf
                    with_reducible refine relAt_ops ?_
                    intro A ρ hA hρ hcst hfun
                    obtain ⟨f30, f34, _⟩ := hf
                    have h30 : ρ (.tmp 30) = _ := (congrFun hρ _).trans ((evalHit hA 30 rfl).trans f30)
                    have h34 : ρ (.tmp 34) = _ := (congrFun hρ _).trans ((evalHit hA 34 rfl).trans f34)
                    simp [relUpon, go_sem, Ext.refl, h30, h34, hp2]
                    rfl
                  apply relPlan_eq'
                  · intro V w' hx hf
                    with_reducible refine relAt_ops ?_
                    intro A ρ hA hρ hcst hfun
                    have h6 : ρ (.tmp 6) = .string ⟨#[49, 48, 49]⟩ := (congrFun hρ _).trans (evalMiss hA 6 rfl)
                    exact relUpon_move (hk := by rw [h6]; exact ⟨Ext.refl _, rfl⟩)
                  refine relPlan_by (fun v w => Own 4 w 0 v (Ea.gd.map encT)) (fun _ _ _ h hx => h.ext hx) ?_ ?_
                  · intro V w' hx hf
                    with_reducible refine relAt_ops ?_
                    intro A ρ hA hρ hcst hfun
                    obtain ⟨f36, _⟩ := hf
                    have h36 : ρ (.tmp 36) = _ := (congrFun hρ _).trans ((evalHit hA 36 rfl).trans f36)
                    simp [relUpon, go_sem, hfun, h36]
                    exact (HMS.out w').mono fun e w'' ⟨v, he, ho, hy⟩ => ⟨v, he, hy, ho.mono (Nat.zero_le _)⟩
                  refine relPlan_by (eqv (.bool true)) (eqv_stable _) ?_ ?_
                  · intro V w' hx hf
                    with_reducible refine relAt_ops ?_
                    intro A ρ hA hρ hcst hfun
                    obtain ⟨f35, f37, _⟩ := hf
                    have h35 : ρ (.tmp 35) = _ := (congrFun hρ _).trans ((evalHit hA 35 rfl).trans f35)
                    have h37 : ρ (.tmp 37) = V 37 := (congrFun hρ _).trans (evalHit hA 37 rfl)
                    simp [relUpon, go_sem, hfun, h35, h37]
                    exact (HE2.out w' _ _ (HW.out.trans hx) f37).mono fun e w'' ⟨he, hy⟩ => ⟨_, he, hy, rfl⟩
                  intro V wT hxT hf
                  obtain ⟨g30, g31, g32, g33, g34, g35, g36, g37, g38, _⟩ := hf
                  simp only [fillA, List.foldl_cons, List.foldl_nil, Act.put, List.setIfInBounds_toArray, List.set_cons_succ, List.set_cons_zero]
                  have q38 : V 38 = _ := g38
                  rw [q38]
                  have HW2 := Lib.hid (HW.out.trans hxT)
                  refine wpAny_solo 9 (by kernel_rfl) rfl (fun K hK => ?_)
                  go_simp
                  refine hK _ _ ?_
                  clear hK K
                  refine ⟨rfl, ?_⟩
                  clear HW
                  have HW := HW2
                  clear HW2
                  go_wp2_with fail
                  refine (HRL.out _ HW.out).mono ?_
                  rintro e w5 ⟨rfl, hx5⟩
                  have HW2 := Lib.hid (HW.out.trans hx5)
                  clear HW hx5
                  have HW := HW2
                  clear HW2
                  go_wp2_with fail
                  refine (HRR.out _ HW.out).mono ?_
                  rintro e w5 ⟨rfl, hx5⟩
                  have HW2 := Lib.hid (HW.out.trans hx5)
                  clear HW hx5
                  have HW := HW2
                  clear HW2
                  go_wp2_with fail
                  refine wp_region_rel 4 14 rfl [76, 77, 78, 79] [[], [0], [], [1, 2]] (by kernel_rfl) (by kernel_rfl) ?_
                  apply relPlan_eq'
                  · intro V w' hx hf
                    with_reducible refine relAt_ops ?_
                    intro A ρ hA hρ hcst hfun
                    have h0 : ρ (.tmp 0) = .slice a m.length c := (congrFun hρ _).trans (evalMiss hA 0 rfl)
                    exact relUpon_move (hk := by rw [h0]; exact ⟨Ext.refl _, rfl⟩)
                  apply relPlan_eq'
                  · intro V w' hx hf
                    with_reducible refine relAt_ops ?_
                    intro A ρ hA hρ hcst hfun
                    obtain ⟨f76, _⟩ := hf
                    have h76 : ρ (.tmp 76) = _ := (congrFun hρ _).trans ((evalHit hA 76 rfl).trans f76)
                    simp [relUpon, go_sem, hcst, Ext.refl, h76, hp3]
                    rfl
                  refine relPlan_by (fun v w => Own 4 w 0 v (Ea.md.map encT)) (fun _ _ _ h hx => h.ext hx) ?_ ?_
                  · intro V w' hx hf
                    with_reducible refine relAt_ops ?_
                    intro A ρ hA hρ hcst hfun
                    simp [relUpon, go_sem, hcst, hfun]
                    exact (HMM.out w').mono fun e w'' ⟨v, he, ho, hy⟩ => ⟨v, he, hy, ho.mono (Nat.zero_le _)⟩
                  refine relPlan_by (eqv (.bool true)) (eqv_stable _) ?_ ?_
                  · intro V w' hx hf
                    with_reducible refine relAt_ops ?_
                    intro A ρ hA hρ hcst hfun
                    obtain ⟨f77, f78, _⟩ := hf
                    have h77 : ρ (.tmp 77) = _ := (congrFun hρ _).trans ((evalHit hA 77 rfl).trans f77)
                    have h78 : ρ (.tmp 78) = V 78 := (congrFun hρ _).trans (evalHit hA 78 rfl)
                    simp [relUpon, go_sem, hfun, h77, h78]
                    exact (HE3.out w' _ _ (HW.out.trans hx) f78).mono fun e w'' ⟨he, hy⟩ => ⟨_, he, hy, rfl⟩
                  intro V wT hxT hf
                  obtain ⟨g76, g77, g78, g79, _⟩ := hf
                  simp only [fillA, List.foldl_cons, List.foldl_nil, Act.put, List.setIfInBounds_toArray, List.set_cons_succ, List.set_cons_zero]
                  have q79 : V 79 = _ := g79
                  rw [q79]
                  have HW2 := Lib.hid (HW.out.trans hxT)
                  refine wpAny_solo 4 (by kernel_rfl) rfl (fun K hK => ?_)
                  go_simp
                  refine hK _ _ ?_
                  clear hK K
                  refine wpAny_solo 5 (by kernel_rfl) rfl (fun K hK => ?_)
                  go_simp
                  refine hK _ _ ?_
                  clear hK K
                  refine wpAny_solo 6 (by kernel_rfl) rfl (fun K hK => ?_)
                  go_simp
                  refine hK _ _ ?_
                  clear hK K
                  refine wpAny_solo 7 (by kernel_rfl) rfl (fun K hK => ?_)
                  go_simp
                  refine hK _ _ ?_
                  clear hK K
                  refine wpAny_solo 8 (by kernel_rfl) rfl (fun K hK => ?_)
                  go_simp
                  refine hK _ _ ?_
                  clear hK K
                  refine wpAny_solo 9 (by kernel_rfl) rfl (fun K hK => ?_)
                  go_simp
                  refine hK _ _ ?_
                  clear hK K
                  refine wpAny_solo 10 (by kernel_rfl) rfl (fun K hK => ?_)
                  go_simp
                  refine hK _ _ ?_
                  clear hK K
                  refine wpAny_solo 11 (by kernel_rfl) rfl (fun K hK => ?_)
                  go_simp
                  refine hK _ _ ?_
                  clear hK K
                  refine wpAny_solo 12 (by kernel_rfl) rfl (fun K hK => ?_)
                  go_simp
                  refine hK _ _ ?_
                  clear hK K
                  refine wpAny_solo 13 (by kernel_rfl) rfl (fun K hK => ?_)
                  go_simp
                  refine hK _ _ ?_
                  clear hK K
                  refine wpAny_solo 14 (by kernel_rfl) rfl (fun K hK => ?_)
                  go_simp
                  refine hK _ _ ?_
                  clear hK K
                  refine wpAny_solo 15 (by kernel_rfl) rfl (fun K hK => ?_)
                  go_simp
                  refine (HF13.out _).mono ?_
                  rintro e w6 ⟨rfl, hx6⟩
                  refine hK _ _ ?_
                  clear hK K
                  have HW3 := Lib.hid (HW2.out.trans hx6)
                  clear HW2 hx6
                  have HW2 := HW3
                  clear HW3
                  refine wpAny_solo 16 (by kernel_rfl) rfl (fun K hK => ?_)
                  go_simp
                  refine hK _ _ ?_
                  clear hK K
                  refine wpAny_solo 17 (by kernel_rfl) rfl (fun K hK => ?_)
                  go_simp
                  refine hK _ _ ?_
                  clear hK K
                  refine ⟨rfl, ?_⟩
                  clear HW
                  have HW := HW2
                  clear HW2
                  go_wp2_with fail
                  refine (HF13.out _).mono ?_
                  rintro e w7 ⟨rfl, hx7⟩
                  go_wp2_with fail
                  refine (HDG.out _).mono ?_
                  rintro e w8 ⟨rfl, hx8⟩
                  have HW2 := Lib.hid (HW.out.trans (hx7.trans hx8))
                  clear HW hx7 hx8
                  have HW := HW2
                  clear HW2
                  go_wp2_with fail
                  rw [HT.out]
                  refine (HFU.out _).mono ?_
                  rintro e w9 ⟨rfl, hx9⟩
                  have HW2 := Lib.hid (HW.out.trans hx9)
                  clear HW hx9
                  have HW := HW2
                  clear HW2
                  go_wp2
                  go_ret3
                  exact ⟨by rw [HG.out]; unfold xsymV; dsimp only; rw [← HE.out]; rfl, HW.out⟩
              · rw [if_pos hf0] at HX2
                have HG : Hid (res = ((0, []), 8)) := Lib.hid (HX2.out.symm)
                have hfb : (fe != 0) = true := bne_iff_ne.2 hf0
                clear hf0 HX2
                go_enter Tryz.func79, Tryz.ntmps79
                go_wp2_with fail
                refine wp_region_rel 4 1 rfl [25, 26, 27, 28] [[], [0], [], [1, 2]] (by kernel_rfl) (by kernel_rfl) ?_
                apply relPlan_eq'
                · intro V w' hx hf
                  with_reducible refine relAt_ops ?_
                  intro A ρ hA hρ hcst hfun
                  have h0 : ρ (.tmp 0) = .slice a m.length c := (congrFun hρ _).trans (evalMiss hA 0 rfl)
                  exact relUpon_move (hk := by rw [h0]; exact ⟨Ext.refl _, rfl⟩)
                apply relPlan_eq'
                · intro V w' hx hf
                  with_reducible refine relAt_ops ?_
                  intro A ρ hA hρ hcst hfun
                  obtain ⟨f25, _⟩ := hf
                  have h25 : ρ (.tmp 25) = _ := (congrFun hρ _).trans ((evalHit hA 25 rfl).trans f25)
                  simp [relUpon, go_sem, hcst, Ext.refl, h25, hp1]
                  rfl
                refine relPlan_by (fun v w => Own 4 w 0 v (Ea.gd.map encT)) (fun _ _ _ h hx => h.ext hx) ?_ ?_
                · intro V w' hx hf
                  with_reducible refine relAt_ops ?_
                  intro A ρ hA hρ hcst hfun
                  simp [relUpon, go_sem, hcst, hfun]
                  exact (HMG.out w').mono fun e w'' ⟨v, he, ho, hy⟩ => ⟨v, he, hy, ho.mono (Nat.zero_le _)⟩
                refine relPlan_by (eqv (.bool true)) (eqv_stable _) ?_ ?_
                · intro V w' hx hf
                  with_reducible refine relAt_ops ?_
                  intro A ρ hA hρ hcst hfun
                  obtain ⟨f26, f27, _⟩ := hf
                  have h26 : ρ (.tmp 26) = _ := (congrFun hρ _).trans ((evalHit hA 26 rfl).trans f26)
                  have h27 : ρ (.tmp 27) = V 27 := (congrFun hρ _).trans (evalHit hA 27 rfl)
                  simp [relUpon, go_sem, hfun, h26, h27]
                  exact (HE1.out w' _ _ (HW.out.trans hx) f27).mono fun e w'' ⟨he, hy⟩ => ⟨_, he, hy, rfl⟩
                intro V wT hxT hf
                obtain ⟨g25, g26, g27, g28, _⟩ := hf
                simp only [fillA, List.foldl_cons, List.foldl_nil, Act.put, List.setIfInBounds_toArray, List.set_cons_succ, List.set_cons_zero]
                have q28 : V 28 = _ := g28
                rw [q28]
                have HW2 := Lib.hid (HW.out.trans hxT)
                refine wpAny_solo 4 (by kernel_rfl) rfl (fun K hK => ?_)
                go_simp
                refine hK _ _ ?_
                clear hK K
                refine ⟨rfl, ?_⟩
                clear HW
                have HW := HW2
                clear HW2
                go_wp2_with fail
                refine wp_region_rel 9 1 rfl [30, 31, 32, 33, 34, 35, 36, 37, 38] [[], [], [], [2], [1, 3], [0, 4], [], [6], [5, 7]] (by kernel_rfl) (by kernel_rfl) ?_
                apply relPlan_eq'
                · intro V w' hx hf
                  with_reducible refine relAt_ops ?_
                  intro A ρ hA hρ hcst hfun
                  have h0 : ρ (.tmp 0) = .slice a m.length c := (congrFun hρ _).trans (evalMiss hA 0 rfl)
                  exact relUpon_move (hk := by rw [h0]; exact ⟨Ext.refl _, rfl⟩)
                apply relPlan_eq'
                · intro V w' hx hf
                  with_reducible refine relAt_ops ?_
                  intro A ρ hA hρ hcst hfun
                  have h5 : ρ (.tmp 5) = .int .i64 (m.length : Int) := (congrFun hρ _).trans (evalMiss hA 5 rfl)
                  exact relUpon_move (hk := by rw [h5]; exact ⟨Ext.refl _, rfl⟩)
                apply relPlan_eq'
                · intro V w' hx hf
                  with_reducible refine relAt_ops ?_
                  intro A ρ hA hρ hcst hfun
                  have h6 : ρ (.tmp 6) = .string ⟨#[49, 48, 49]⟩ := (congrFun hρ _).trans (evalMiss hA 6 rfl)
                  exact relUpon_move (hk := by rw [h6]; exact ⟨Ext.refl _, rfl⟩)
                apply relPlan_eq'
                · intro V w' hx hf
                  with_reducible refine relAt_ops ?_
                  intro A ρ hA hρ hcst hfun
                  obtain ⟨f32, _⟩ := hf
                  have h32 : ρ (.tmp 32) = _ := (congrFun hρ _).trans ((evalHit hA 32 rfl).trans f32)
                  simp [relUpon, go_sem, Ext.refl, h32]
                  rfl
                apply relPlan_eq'
                · intro V w' hx hf
                  with_reducible refine relAt_ops ?_
                  intro A ρ hA hρ hcst hfun
                  obtain ⟨f31, f33, _⟩ := hf
                  have h31 : ρ (.tmp 31) = _ := (congrFun hρ _).trans ((evalHit hA 31 rfl).trans f31)
                  have h33 : ρ (.tmp 33) = _ := (congrFun hρ _).trans ((evalHit hA 33 rfl).trans f33)
                  simp [relUpon, go_sem, Ext.refl, h31, h33, e92, w92]
                  rfl
                apply relPlan_eq'
                · intro V w' hx hf
                  with_reducible refine relAt_ops ?_
                  intro A ρ hA hρ hcst hfun
                  obtain ⟨f30, f34, _⟩ := hf
                  have h30 : ρ (.tmp 30) = _ := (congrFun hρ _).trans ((evalHit hA 30 rfl).trans f30)
                  have h34 : ρ (.tmp 34) = _ := (congrFun hρ _).trans ((evalHit hA 34 rfl).trans f34)
                  simp [relUpon, go_sem, Ext.refl, h30, h34, hp2]
                  rfl
                apply relPlan_eq'
                · intro V w' hx hf
                  with_reducible refine relAt_ops ?_
                  intro A ρ hA hρ hcst hfun
                  have h6 : ρ (.tmp 6) = .string ⟨#[49, 48, 49]⟩ := (congrFun hρ _).trans (evalMiss hA 6 rfl)
                  exact relUpon_move (hk := by rw [h6]; exact ⟨Ext.refl _, rfl⟩)
                refine relPlan_by (fun v w => Own 4 w 0 v (Ea.gd.map encT)) (fun _ _ _ h hx => h.ext hx) ?_ ?_
                · intro V w' hx hf
                  with_reducible refine relAt_ops ?_
                  intro A ρ hA hρ hcst hfun
                  obtain ⟨f36, _⟩ := hf
                  have h36 : ρ (.tmp 36) = _ := (congrFun hρ _).trans ((evalHit hA 36 rfl).trans f36)
                  simp [relUpon, go_sem, hfun, h36]
                  exact (HMS.out w').mono fun e w'' ⟨v, he, ho, hy⟩ => ⟨v, he, hy, ho.mono (Nat.zero_le _)⟩
                refine relPlan_by (eqv (.bool true)) (eqv_stable _) ?_ ?_
                · intro V w' hx hf
                  with_reducible refine relAt_ops ?_
                  intro A ρ hA hρ hcst hfun
                  obtain ⟨f35, f37, _⟩ := hf
                  have h35 : ρ (.tmp 35) = _ := (congrFun hρ _).trans ((evalHit hA 35 rfl).trans f35)
                  have h37 : ρ (.tmp 37) = V 37 := (congrFun hρ _).trans (evalHit hA 37 rfl)
                  simp [relUpon, go_sem, hfun, h35, h37]
                  exact (HE2.out w' _ _ (HW.out.trans hx) f37).mono fun e w'' ⟨he, hy⟩ => ⟨_, he, hy, rfl⟩
                intro V wT hxT hf
                obtain ⟨g30, g31, g32, g33, g34, g35, g36, g37, g38, _⟩ := hf
                simp only [fillA, List.foldl_cons, List.foldl_nil, Act.put, List.setIfInBounds_toArray, List.set_cons_succ, List.set_cons_zero]
                have q38 : V 38 = _ := g38
                rw [q38]
                have HW2 := Lib.hid (HW.out.trans hxT)
                refine wpAny_solo 9 (by kernel_rfl) rfl (fun K hK => ?_)
                go_simp
                refine hK _ _ ?_
                clear hK K
                refine ⟨rfl, ?_⟩
                clear HW
                have HW := HW2
                clear HW2
                go_wp2_with fail
                refine (HRL.out _ HW.out).mono ?_
                rintro e w5 ⟨rfl, hx5⟩
                have HW2 := Lib.hid (HW.out.trans hx5)
                clear HW hx5
                have HW := HW2
                clear HW2
                go_wp2_with fail
                refine (HRR.out _ HW.out).mono ?_
                rintro e w5 ⟨rfl, hx5⟩
                have HW2 := Lib.hid (HW.out.trans hx5)
                clear HW hx5
                have HW := HW2
                clear HW2
                go_wp2_with fail
                refine wp_region_rel 4 14 rfl [76, 77, 78, 79] [[], [0], [], [1, 2]] (by kernel_rfl) (by kernel_rfl) ?_
                apply relPlan_eq'
                · intro V w' hx hf
                  with_reducible refine relAt_ops ?_
                  intro A ρ hA hρ hcst hfun
                  have h0 : ρ (.tmp 0) = .slice a m.length c := (congrFun hρ _).trans (evalMiss hA 0 rfl)
                  exact relUpon_move (hk := by rw [h0]; exact ⟨Ext.refl _, rfl⟩)
                apply relPlan_eq'
                · intro V w' hx hf
                  with_reducible refine relAt_ops ?_
                  intro A ρ hA hρ hcst hfun
                  obtain ⟨f76, _⟩ := hf
                  have h76 : ρ (.tmp 76) = _ := (congrFun hρ _).trans ((evalHit hA 76 rfl).trans f76)
                  simp [relUpon, go_sem, hcst, Ext.refl, h76, hp3]
                  rfl
                refine relPlan_by (fun v w => Own 4 w 0 v (Ea.md.map encT)) (fun _ _ _ h hx => h.ext hx) ?_ ?_
                · intro V w' hx hf
                  with_reducible refine relAt_ops ?_
                  intro A ρ hA hρ hcst hfun
                  simp [relUpon, go_sem, hcst, hfun]
                  exact (HMM.out w').mono fun e w'' ⟨v, he, ho, hy⟩ => ⟨v, he, hy, ho.mono (Nat.zero_le _)⟩
                refine relPlan_by (eqv (.bool true)) (eqv_stable _) ?_ ?_
                · intro V w' hx hf
                  with_reducible refine relAt_ops ?_
                  intro A ρ hA hρ hcst hfun
                  obtain ⟨f77, f78, _⟩ := hf
                  have h77 : ρ (.tmp 77) = _ := (congrFun hρ _).trans ((evalHit hA 77 rfl).trans f77)
                  have h78 : ρ (.tmp 78) = V 78 := (congrFun hρ _).trans (evalHit hA 78 rfl)
                  simp [relUpon, go_sem, hfun, h77, h78]
                  exact (HE3.out w' _ _ (HW.out.trans hx) f78).mono fun e w'' ⟨he, hy⟩ => ⟨_, he, hy, rfl⟩
                intro V wT hxT hf
                obtain ⟨g76, g77, g78, g79, _⟩ := hf
                simp only [fillA, List.foldl_cons, List.foldl_nil, Act.put, List.setIfInBounds_toArray, List.set_cons_succ, List.set_cons_zero]
                have q79 : V 79 = _ := g79
                rw [q79]
                have HW2 := Lib.hid (HW.out.trans hxT)
                refine wpAny_solo 4 (by kernel_rfl) rfl (fun K hK => ?_)
                go_simp
                refine hK _ _ ?_
                clear hK K
                refine wpAny_solo 5 (by kernel_rfl) rfl (fun K hK => ?_)
                go_simp
                refine hK _ _ ?_
                clear hK K
                refine wpAny_solo 6 (by kernel_rfl) rfl (fun K hK => ?_)
                go_simp
                refine hK _ _ ?_
                clear hK K
                refine wpAny_solo 7 (by kernel_rfl) rfl (fun K hK => ?_)
                go_simp
                refine hK _ _ ?_
                clear hK K
                refine wpAny_solo 8 (by kernel_rfl) rfl (fun K hK => ?_)
                go_simp
                refine hK _ _ ?_
                clear hK K
                refine wpAny_solo 9 (by kernel_rfl) rfl (fun K hK => ?_)
                go_simp
                refine hK _ _ ?_
                clear hK K
                refine wpAny_solo 10 (by kernel_rfl) rfl (fun K hK => ?_)
                go_simp
                refine hK _ _ ?_
                clear hK K
                refine wpAny_solo 11 (by kernel_rfl) rfl (fun K hK => ?_)
                go_simp
                refine hK _ _ ?_
                clear hK K
                refine wpAny_solo 12 (by kernel_rfl) rfl (fun K hK => ?_)
                go_simp
                refine hK _ _ ?_
                clear hK K
                refine wpAny_solo 13 (by kernel_rfl) rfl (fun K hK => ?_)
                go_simp
                refine hK _ _ ?_
                clear hK K
                refine wpAny_solo 14 (by kernel_rfl) rfl (fun K hK => ?_)
                go_simp
                refine hK _ _ ?_
                clear hK K
                refine wpAny_solo 15 (by kernel_rfl) rfl (fun K hK => ?_)
                go_simp
                refine (HF13.out _).mono ?_
                rintro e w6 ⟨rfl, hx6⟩
                refine hK _ _ ?_
                clear hK K
                have HW3 := Lib.hid (HW2.out.trans hx6)
                clear HW2 hx6
                have HW2 := HW3
                clear HW3
                refine wpAny_solo 16 (by kernel_rfl) rfl (fun K hK => ?_)
                go_simp
                refine hK _ _ ?_
                clear hK K
                refine wpAny_solo 17 (by kernel_rfl) rfl (fun K hK => ?_)
                go_simp
                refine hK _ _ ?_
                clear hK K
                refine ⟨rfl, ?_⟩
                clear HW
                have HW := HW2
                clear HW2
                go_wp2_with fail
                refine (HF13.out _).mono ?_
                rintro e w7 ⟨rfl, hx7⟩
                go_wp2_with fail
                refine (HDG.out _).mono ?_
                rintro e w8 ⟨rfl, hx8⟩
                have HW2 := Lib.hid (HW.out.trans (hx7.trans hx8))
                clear HW hx7 hx8
                have HW := HW2
                clear HW2
                go_wp2_with fail
                rw [HT.out]
                refine (HFU.out _).mono ?_
                rintro e w9 ⟨rfl, hx9⟩
                have HW2 := Lib.hid (HW.out.trans hx9)
                clear HW hx9
                have HW := HW2
                clear HW2
                go_wp2
                go_ret3
                exact ⟨by rw [HG.out]; rfl, HW.out⟩
    · rw [if_pos g2] at HX
      rw [decide_eq_false g2] at HE2
      clear g1 g2
      go_enter Tryz.func79, Tryz.ntmps79
      go_wp2_with fail
      refine wp_region_rel 4 1 rfl [25, 26, 27, 28] [[], [0], [], [1, 2]] (by kernel_rfl) (by kernel_rfl) ?_
      apply relPlan_eq'
      · intro V w' hx hf
        with_reducible refine relAt_ops ?_
        intro A ρ hA hρ hcst hfun
        have h0 : ρ (.tmp 0) = .slice a m.length c := (congrFun hρ _).trans (evalMiss hA 0 rfl)
        exact relUpon_move (hk := by rw [h0]; exact ⟨Ext.refl _, rfl⟩)
      apply relPlan_eq'
      · intro V w' hx hf
        with_reducible refine relAt_ops ?_
        intro A ρ hA hρ hcst hfun
        obtain ⟨f25, _⟩ := hf
        have h25 : ρ (.tmp 25) = _ := (congrFun hρ _).trans ((evalHit hA 25 rfl).trans f25)
        simp [relUpon, go_sem, hcst, Ext.refl, h25, hp1]
        rfl
      refine relPlan_by (fun v w => Own 4 w 0 v (Ea.gd.map encT)) (fun _ _ _ h hx => h.ext hx) ?_ ?_
      · intro V w' hx hf
        with_reducible refine relAt_ops ?_
        intro A ρ hA hρ hcst hfun
        simp [relUpon, go_sem, hcst, hfun]
        exact (HMG.out w').mono fun e w'' ⟨v, he, ho, hy⟩ => ⟨v, he, hy, ho.mono (Nat.zero_le _)⟩
      refine relPlan_by (eqv (.bool true)) (eqv_stable _) ?_ ?_
      · intro V w' hx hf
        with_reducible refine relAt_ops ?_
        intro A ρ hA hρ hcst hfun
        obtain ⟨f26, f27, _⟩ := hf
        have h26 : ρ (.tmp 26) = _ := (congrFun hρ _).trans ((evalHit hA 26 rfl).trans f26)
        have h27 : ρ (.tmp 27) = V 27 := (congrFun hρ _).trans (evalHit hA 27 rfl)
        simp [relUpon, go_sem, hfun, h26, h27]
        exact (HE1.out w' _ _ (HW.out.trans hx) f27).mono fun e w'' ⟨he, hy⟩ => ⟨_, he, hy, rfl⟩
      intro V wT hxT hf
      obtain ⟨g25, g26, g27, g28, _⟩ := hf
      simp only [fillA, List.foldl_cons, List.foldl_nil, Act.put, List.setIfInBounds_toArray, List.set_cons_succ, List.set_cons_zero]
      have q28 : V 28 = _ := g28
      rw [q28]
      have HW2 := Lib.hid (HW.out.trans hxT)
      refine wpAny_solo 4 (by kernel_rfl) rfl (fun K hK => ?_)
      go_simp
      refine hK _ _ ?_
      clear hK K
      refine ⟨rfl, ?_⟩
      clear HW
      have HW := HW2
      clear HW2
      go_wp2_with fail
      refine wp_region_rel 9 1 rfl [30, 31, 32, 33, 34, 35, 36, 37, 38] [[], [], [], [2], [1, 3], [0, 4], [], [6], [5, 7]] (by kernel_rfl) (by kernel_rfl) ?_
      apply relPlan_eq'
      · intro V w' hx hf
        with_reducible refine relAt_ops ?_
        intro A ρ hA hρ hcst hfun
        have h0 : ρ (.tmp 0) = .slice a m.length c := (congrFun hρ _).trans (evalMiss hA 0 rfl)
        exact relUpon_move (hk := by rw [h0]; exact ⟨Ext.refl _, rfl⟩)
      apply relPlan_eq'
      · intro V w' hx hf
        with_reducible refine relAt_ops ?_
        intro A ρ hA hρ hcst hfun
        have h5 : ρ (.tmp 5) = .int .i64 (m.length : Int) := (congrFun hρ _).trans (evalMiss hA 5 rfl)
        exact relUpon_move (hk := by rw [h5]; exact ⟨Ext.refl _, rfl⟩)
      apply relPlan_eq'
      · intro V w' hx hf
        with_reducible refine relAt_ops ?_
        intro A ρ hA hρ hcst hfun
        have h6 : ρ (.tmp 6) = .string ⟨#[49, 48, 49]⟩ := (congrFun hρ _).trans (evalMiss hA 6 rfl)
        exact relUpon_move (hk := by rw [h6]; exact ⟨Ext.refl _, rfl⟩)
      apply relPlan_eq'
      · intro V w' hx hf
        with_reducible refine relAt_ops ?_
        intro A ρ hA hρ hcst hfun
        obtain ⟨f32, _⟩ := hf
        have h32 : ρ (.tmp 32) = _ := (congrFun hρ _).trans ((evalHit hA 32 rfl).trans f32)
        simp [relUpon, go_sem, Ext.refl, h32]
        rfl
      apply relPlan_eq'
      · intro V w' hx hf
        with_reducible refine relAt_ops ?_
        intro A ρ hA hρ hcst hfun
        obtain ⟨f31, f33, _⟩ := hf
        have h31 : ρ (.tmp 31) = _ := (congrFun hρ _).trans ((evalHit hA 31 rfl).trans f31)
        have h33 : ρ (.tmp 33) = _ := (congrFun hρ _).trans ((evalHit hA 33 rfl).trans f33)
        simp [relUpon, go_sem, Ext.refl, h31, h33, e92, w92]
        rfl
      apply relPlan_eq'
      · intro V w' hx hf
        with_reducible refine relAt_ops ?_
        intro A ρ hA hρ hcst hfun
        obtain ⟨f30, f34, _⟩ := hf
        have h30 : ρ (.tmp 30) = _ := (congrFun hρ _).trans ((evalHit hA 30 rfl).trans f30)
        have h34 : ρ (.tmp 34) = _ := (congrFun hρ _).trans ((evalHit hA 34 rfl).trans f34)
        simp [relUpon, go_sem, Ext.refl, h30, h34, hp2]
        rfl
      apply relPlan_eq'
      · intro V w' hx hf
        with_reducible refine relAt_ops ?_
        intro A ρ hA hρ hcst hfun
        have h6 : ρ (.tmp 6) = .string ⟨#[49, 48, 49]⟩ := (congrFun hρ _).trans (evalMiss hA 6 rfl)
        exact relUpon_move (hk := by rw [h6]; exact ⟨Ext.refl _, rfl⟩)
      refine relPlan_by (fun v w => Own 4 w 0 v (Ea.gd.map encT)) (fun _ _ _ h hx => h.ext hx) ?_ ?_
      · intro V w' hx hf
        with_reducible refine relAt_ops ?_
        intro A ρ hA hρ hcst hfun
        obtain ⟨f36, _⟩ := hf
        have h36 : ρ (.tmp 36) = _ := (congrFun hρ _).trans ((evalHit hA 36 rfl).trans f36)
        simp [relUpon, go_sem, hfun, h36]
        exact (HMS.out w').mono fun e w'' ⟨v, he, ho, hy⟩ => ⟨v, he, hy, ho.mono (Nat.zero_le _)⟩
      refine relPlan_by (eqv (.bool false)) (eqv_stable _) ?_ ?_
      · intro V w' hx hf
        with_reducible refine relAt_ops ?_
        intro A ρ hA hρ hcst hfun
        obtain ⟨f35, f37, _⟩ := hf
        have h35 : ρ (.tmp 35) = _ := (congrFun hρ _).trans ((evalHit hA 35 rfl).trans f35)
        have h37 : ρ (.tmp 37) = V 37 := (congrFun hρ _).trans (evalHit hA 37 rfl)
        simp [relUpon, go_sem, hfun, h35, h37]
        exact (HE2.out w' _ _ (HW.out.trans hx) f37).mono fun e w'' ⟨he, hy⟩ => ⟨_, he, hy, rfl⟩
      intro V wT hxT hf
      obtain ⟨g30, g31, g32, g33, g34, g35, g36, g37, g38, _⟩ := hf
      simp only [fillA, List.foldl_cons, List.foldl_nil, Act.put, List.setIfInBounds_toArray, List.set_cons_succ, List.set_cons_zero]
      have q38 : V 38 = _ := g38
      rw [q38]
      have HW2 := Lib.hid (HW.out.trans hxT)
      refine wpAny_solo 9 (by kernel_rfl) rfl (fun K hK => ?_)
      go_simp
      refine hK _ _ ?_
      clear hK K
      refine ⟨rfl, ?_⟩
      clear HW
      have HW := HW2
      clear HW2
      go_wp2
      go_ret3
      exact ⟨by rw [← HX.out]; rfl, HW.out⟩
  · rw [if_pos g1] at HX
    rw [decide_eq_false g1] at HE1
    clear g1
    go_enter Tryz.func79, Tryz.ntmps79
    go_wp2_with fail
    refine wp_region_rel 4 1 rfl [25, 26, 27, 28] [[], [0], [], [1, 2]] (by kernel_rfl) (by kernel_rfl) ?_
    apply relPlan_eq'
    · intro V w' hx hf
      with_reducible refine relAt_ops ?_
      intro A ρ hA hρ hcst hfun
      have h0 : ρ (.tmp 0) = .slice a m.length c := (congrFun hρ _).trans (evalMiss hA 0 rfl)
      exact relUpon_move (hk := by rw [h0]; exact ⟨Ext.refl _, rfl⟩)
    apply relPlan_eq'
    · intro V w' hx hf
      with_reducible refine relAt_ops ?_
      intro A ρ hA hρ hcst hfun
      obtain ⟨f25, _⟩ := hf
      have h25 : ρ (.tmp 25) = _ := (congrFun hρ _).trans ((evalHit hA 25 rfl).trans f25)
      simp [relUpon, go_sem, hcst, Ext.refl, h25, hp1]
      rfl
    refine relPlan_by (fun v w => Own 4 w 0 v (Ea.gd.map encT)) (fun _ _ _ h hx => h.ext hx) ?_ ?_
    · intro V w' hx hf
      with_reducible refine relAt_ops ?_
      intro A ρ hA hρ hcst hfun
      simp [relUpon, go_sem, hcst, hfun]
      exact (HMG.out w').mono fun e w'' ⟨v, he, ho, hy⟩ => ⟨v, he, hy, ho.mono (Nat.zero_le _)⟩
    refine relPlan_by (eqv (.bool false)) (eqv_stable _) ?_ ?_
    · intro V w' hx hf
      with_reducible refine relAt_ops ?_
      intro A ρ hA hρ hcst hfun
      obtain ⟨f26, f27, _⟩ := hf
      have h26 : ρ (.tmp 26) = _ := (congrFun hρ _).trans ((evalHit hA 26 rfl).trans f26)
      have h27 : ρ (.tmp 27) = V 27 := (congrFun hρ _).trans (evalHit hA 27 rfl)
      simp [relUpon, go_sem, hfun, h26, h27]
      exact (HE1.out w' _ _ (HW.out.trans hx) f27).mono fun e w'' ⟨he, hy⟩ => ⟨_, he, hy, rfl⟩
    intro V wT hxT hf
    obtain ⟨g25, g26, g27, g28, _⟩ := hf
    simp only [fillA, List.foldl_cons, List.foldl_nil, Act.put, List.setIfInBounds_toArray, List.set_cons_succ, List.set_cons_zero]
    have q28 : V 28 = _ := g28
    rw [q28]
    have HW2 := Lib.hid (HW.out.trans hxT)
    refine wpAny_solo 4 (by kernel_rfl) rfl (fun K hK => ?_)
    go_simp
    refine hK _ _ ?_
    clear hK K
    refine ⟨rfl, ?_⟩
    clear HW
    have HW := HW2
    clear HW2
    go_wp2
    go_ret3
    exact ⟨by rw [← HX.out]; rfl, HW.out⟩
end Go.Proofs.YtfpliihglgjijaaGreat
