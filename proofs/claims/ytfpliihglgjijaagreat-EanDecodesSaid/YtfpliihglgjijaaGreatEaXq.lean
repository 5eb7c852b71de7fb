/-
  Chapter 11: the reference's readSymbol at 67 modules, walked.
  Condition: rows of 67 modules.
-/
import Derived.Test.YtfpliihglgjijaaGreatEaXH

/-
  Chapter 11: the reference's readSymbol at 67 modules, walked.
  Condition: rows of 67 modules.
-/
namespace Go.Proofs.YtfpliihglgjijaaGreat
set_option linter.unusedVariables false
open Go.RowKit

set_option maxRecDepth 100000 in
set_option maxHeartbeats 3000000 in
theorem xsym67_any (v : Value) (m : List Bool) (w : World) (hv : SlK w v (m.map encT)) (hm : m.length = 67) :
    Calls Tryz.prog 79 #[v] w fun e w' => e = .returned (xsymV (Ea.rdSym 67 m)) ∧ Ext w w' := by
  obtain ⟨res, hres⟩ : ∃ res, Ea.rdSym 67 m = res := ⟨_, rfl⟩
  rw [hres]
  have HX := Lib.hid hres
  unfold Ea.rdSym at HX
  rw [show (Ea.stp 67).length = 3 from rfl, show Ea.stp 67 = Ea.gd from rfl, show (67 - 3 : Nat) = 64 from rfl, show Ea.kindOf 67 = 2 from rfl, show Ea.rdK 67 m = Ea.rd8 m from rfl] at HX
  obtain ⟨p1, hp1, hq1⟩ := cut_bools_h hv 3 (by rw [List.length_map]; omega)
  obtain ⟨p2, hp2, hq2⟩ := cut_bools_l hv 64 (by rw [List.length_map]; omega)
  rw [← List.map_take] at hq1
  rw [← List.map_drop] at hq2
  have HE1 := Lib.hid (eqTo_of (md := Ea.gd) hq1 (by rw [List.length_take]; omega) (by decide))
  have HE2 := Lib.hid (eqTo_of (md := Ea.gd) hq2 (by rw [List.length_drop]; omega) (by decide))
  have HMG := Lib.hid (fun w => xmodules_any ⟨#[49, 48, 49]⟩ Ea.gd rfl (by decide) w)
  have HMS := Lib.hid (fun w => xmodules_any ⟨#[49, 48, 49]⟩ Ea.gd rfl (by decide) w)
  obtain ⟨p3, hp3, hq3⟩ := slice_bools hv 31 36 (by omega) (by rw [List.length_map]; omega)
  rw [← List.map_drop, ← List.map_take] at hq3
  have HE3 := Lib.hid (eqTo_of (md := Ea.md) hq3 (by rw [List.length_take]; omega) (by decide))
  have HMM := Lib.hid (fun w => xmodules_any ⟨#[48, 49, 48, 49, 48]⟩ Ea.md rfl (by decide) w)
  have HRL := Lib.hid (fun w' (h : Ext w w') => xread_any v m 3 4 0 0 0 0 false w' (hv.ext h) (by omega) (by omega) (by omega) ⟨rfl, rfl⟩ (by omega) (by omega))
  have HRR := Lib.hid (fun w' (h : Ext w w') => xread_any v m 36 4 0 2 2 2 false w' (hv.ext h) (by omega) (by omega) (by omega) ⟨rfl, rfl⟩ (by omega) (by omega))
  obtain ⟨_, a, c, rfl, hc⟩ := hv
  rw [List.length_map] at hp1 hp2 hp3 HRL HRR ⊢
  rw [show ((3 : Nat) : Int) = 3 from rfl] at hp1 HRL
  rw [show ((64 : Nat) : Int) = 64 from rfl] at hp2
  rw [show ((31 : Nat) : Int) = 31 from rfl, show ((36 : Nat) : Int) = 36 from rfl] at hp3
  rw [show ((4 : Nat) : Int) = 4 from rfl, show ((0 : Nat) : Int) = 0 from rfl] at HRL
  rw [show ((36 : Nat) : Int) = 36 from rfl, show ((4 : Nat) : Int) = 4 from rfl, show ((2 : Nat) : Int) = 2 from rfl, show ((0 : Nat) : Int) = 0 from rfl] at HRR
  have b51 : ((m.length : Int) == 51) = false := by rw [hm]; rfl
  have b95 : ((m.length : Int) == 95) = false := by rw [hm]; rfl
  have b67 : ((m.length : Int) == 67) = true := by rw [hm]; rfl
  have e92 : (m.length : Int) - 3 = 64 := by omega
  have w92 : IntKind.i64.wrap (64 : Int) = 64 := IntWalk.i64_in _ (by omega)
  have HLN := Lib.hid hm
  clear hq1 hq2 hq3 hres hc hm
  have HW : Hid (Ext w w) := Lib.hid (Ext.refl w)
  by_cases g1 : m.take 3 = Ea.gd
  · rw [if_neg (fun h => h g1)] at HX
    rw [decide_eq_true g1] at HE1
    by_cases g2 : m.drop 64 = Ea.gd
    · rw [if_neg (fun h => h g2)] at HX
      rw [decide_eq_true g2] at HE2
      clear g1 g2
      unfold Ea.rd8 at HX
      obtain ⟨lo, hlo⟩ : ∃ lo, Ea.rcg false 0 0 4 (m.drop 3) = lo := ⟨_, rfl⟩
      obtain ⟨ro, hro⟩ : ∃ ro, Ea.rcg false 2 0 4 (m.drop 36) = ro := ⟨_, rfl⟩
      have HLF := Lib.hid (fun l u (e : lo = some (l, u)) => rcg_facts (by omega) (hlo.trans e))
      have HRF := Lib.hid (fun l u (e : ro = some (l, u)) => rcg_facts (by omega) (hro.trans e))
      rw [hlo] at HX HRL
      rw [hro] at HX HRR
      obtain ⟨L, U, hLU, hLe, hLs, hL1, hL0⟩ := readV_form lo 4 (by omega) (fun l u e => (HLF.out l u e).1)
      obtain ⟨R, U2, hRU, hRe, hRs, hR1, _⟩ := readV_form ro 4 (by omega) (fun l u e => (HRF.out l u e).1)
      rw [hLU] at HRL
      rw [hRU] at HRR
      have HL1 := Lib.hid hL1
      have HR1 := Lib.hid hR1
      clear hlo hro hLU hRU hL1 hL0 hR1
      obtain ⟨b3, hb3⟩ : ∃ b, decide ((m.drop 31).take 5 = Ea.md) = b := ⟨_, rfl⟩
      rw [show (36 - 31 : Nat) = 5 from rfl, hb3] at HE3
      have HB3 := Lib.hid hb3
      clear hb3
      have HN : Hid (b3 = false ∨ lo.isNone = true ∨ ro.isNone = true → res = ((0, []), 18)) := Lib.hid (fun h => by
        rw [← HX.out]
        cases lo with
        | none => rfl
        | some q => cases ro with
          | none => rfl
          | some r =>
            rcases h with h | h | h
            · have := HB3.out
              rw [h] at this
              dsimp only
              rw [if_neg (of_decide_eq_false this)]
            · cases h
            · cases h)
      cases b3 with
      | false =>
        have HG := Lib.hid (HN.out (.inl rfl))
        clear HN HX
        go_enter Tryz.func79, Tryz.ntmps79
        go_wp2_with fail
        refine wp_region_rel 4 1 rfl [25, 26, 27, 28] [[], [0], [], [1, 2]] (by kernel_rfl) (by kernel_rfl) ?_
        apply relPlan_eq'
        · intro V w' hx hf
          with_reducible refine relAt_ops ?_
          intro A ρ hA hρ hcst hfun
          have h0 : ρ (.tmp 0) = .slice a m.length c := (congrFun hρ _).trans (evalMiss hA 0 rfl)
          exact relUpon_move (hk := by rw [h0]; exact ⟨Ext.refl _, rfl⟩)
        apply relPlan_eq'
        · intro V w' hx hf
          with_reducible refine relAt_ops ?_
          intro A ρ hA hρ hcst hfun
          obtain ⟨f25, _⟩ := hf
          have h25 : ρ (.tmp 25) = _ := (congrFun hρ _).trans ((evalHit hA 25 rfl).trans f25)
          simp [relUpon, go_sem, hcst, Ext.refl, h25, hp1]
          rfl
        refine relPlan_by (fun v w => Own 4 w 0 v (Ea.gd.map encT)) (fun _ _ _ h hx => h.ext hx) ?_ ?_
        · intro V w' hx hf
          with_reducible refine relAt_ops ?_
          intro A ρ hA hρ hcst hfun
          simp [relUpon, go_sem, hcst, hfun]
          exact (HMG.out w').mono fun e w'' ⟨v, he, ho, hy⟩ => ⟨v, he, hy, ho.mono (Nat.zero_le _)⟩
        refine relPlan_by (eqv (.bool true)) (eqv_stable _) ?_ ?_
        · intro V w' hx hf
          with_reducible refine relAt_ops ?_
          intro A ρ hA hρ hcst hfun
          obtain ⟨f26, f27, _⟩ := hf
          have h26 : ρ (.tmp 26) = _ := (congrFun hρ _).trans ((evalHit hA 26 rfl).trans f26)
          have h27 : ρ (.tmp 27) = V 27 := (congrFun hρ _).trans (evalHit hA 27 rfl)
          simp [relUpon, go_sem, hfun, h26, h27]
          exact (HE1.out w' _ _ (HW.out.trans hx) f27).mono fun e w'' ⟨he, hy⟩ => ⟨_, he, hy, rfl⟩
        intro V wT hxT hf
        obtain ⟨g25, g26, g27, g28, _⟩ := hf
        simp only [fillA, List.foldl_cons, List.foldl_nil, Act.put, List.setIfInBounds_toArray, List.set_cons_succ, List.set_cons_zero]
        have q28 : V 28 = _ := g28
        rw [q28]
        have HW2 := Lib.hid (HW.out.trans hxT)
        refine wpAny_solo 4 (by kernel_rfl) rfl (fun K hK => ?_)
        go_simp
        refine hK _ _ ?_
        clear hK K
        refine ⟨rfl, ?_⟩
        clear HW
        have HW := HW2
        clear HW2
        go_wp2_with fail
        refine wp_region_rel 9 1 rfl [30, 31, 32, 33, 34, 35, 36, 37, 38] [[], [], [], [2], [1, 3], [0, 4], [], [6], [5, 7]] (by kernel_rfl) (by kernel_rfl) ?_
        apply relPlan_eq'
        · intro V w' hx hf
          with_reducible refine relAt_ops ?_
          intro A ρ hA hρ hcst hfun
          have h0 : ρ (.tmp 0) = .slice a m.length c := (congrFun hρ _).trans (evalMiss hA 0 rfl)
          exact relUpon_move (hk := by rw [h0]; exact ⟨Ext.refl _, rfl⟩)
        apply relPlan_eq'
        · intro V w' hx hf
          with_reducible refine relAt_ops ?_
          intro A ρ hA hρ hcst hfun
          have h5 : ρ (.tmp 5) = .int .i64 (m.length : Int) := (congrFun hρ _).trans (evalMiss hA 5 rfl)
          exact relUpon_move (hk := by rw [h5]; exact ⟨Ext.refl _, rfl⟩)
        apply relPlan_eq'
        · intro V w' hx hf
          with_reducible refine relAt_ops ?_
          intro A ρ hA hρ hcst hfun
          have h6 : ρ (.tmp 6) = .string ⟨#[49, 48, 49]⟩ := (congrFun hρ _).trans (evalMiss hA 6 rfl)
          exact relUpon_move (hk := by rw [h6]; exact ⟨Ext.refl _, rfl⟩)
        apply relPlan_eq'
        · intro V w' hx hf
          with_reducible refine relAt_ops ?_
          intro A ρ hA hρ hcst hfun
          obtain ⟨f32, _⟩ := hf
          have h32 : ρ (.tmp 32) = _ := (congrFun hρ _).trans ((evalHit hA 32 rfl).trans f32)
          simp [relUpon, go_sem, Ext.refl, h32]
          rfl
        apply relPlan_eq'
        · intro V w' hx hf
          with_reducible refine relAt_ops ?_
          intro A ρ hA hρ hcst hfun
          obtain ⟨f31, f33, _⟩ := hf
          have h31 : ρ (.tmp 31) = _ := (congrFun hρ _).trans ((evalHit hA 31 rfl).trans f31)
          have h33 : ρ (.tmp 33) = _ := (congrFun hρ _).trans ((evalHit hA 33 rfl).trans f33)
          simp [relUpon, go_sem, Ext.refl, h31, h33, e92, w92]
          rfl
        apply relPlan_eq'
        · intro V w' hx hf
          with_reducible refine relAt_ops ?_
          intro A ρ hA hρ hcst hfun
          obtain ⟨f30, f34, _⟩ := hf
          have h30 : ρ (.tmp 30) = _ := (congrFun hρ _).trans ((evalHit hA 30 rfl).trans f30)
          have h34 : ρ (.tmp 34) = _ := (congrFun hρ _).trans ((evalHit hA 34 rfl).trans f34)
          simp [relUpon, go_sem, Ext.refl, h30, h34, hp2]
          rfl
        apply relPlan_eq'
        · intro V w' hx hf
          with_reducible refine relAt_ops ?_
          intro A ρ hA hρ hcst hfun
          have h6 : ρ (.tmp 6) = .string ⟨#[49, 48, 49]⟩ := (congrFun hρ _).trans (evalMiss hA 6 rfl)
          exact relUpon_move (hk := by rw [h6]; exact ⟨Ext.refl _, rfl⟩)
        refine relPlan_by (fun v w => Own 4 w 0 v (Ea.gd.map encT)) (fun _ _ _ h hx => h.ext hx) ?_ ?_
        · intro V w' hx hf
          with_reducible refine relAt_ops ?_
          intro A ρ hA hρ hcst hfun
          obtain ⟨f36, _⟩ := hf
          have h36 : ρ (.tmp 36) = _ := (congrFun hρ _).trans ((evalHit hA 36 rfl).trans f36)
          simp [relUpon, go_sem, hfun, h36]
          exact (HMS.out w').mono fun e w'' ⟨v, he, ho, hy⟩ => ⟨v, he, hy, ho.mono (Nat.zero_le _)⟩
        refine relPlan_by (eqv (.bool true)) (eqv_stable _) ?_ ?_
        · intro V w' hx hf
          with_reducible refine relAt_ops ?_
          intro A ρ hA hρ hcst hfun
          obtain ⟨f35, f37, _⟩ := hf
          have h35 : ρ (.tmp 35) = _ := (congrFun hρ _).trans ((evalHit hA 35 rfl).trans f35)
          have h37 : ρ (.tmp 37) = V 37 := (congrFun hρ _).trans (evalHit hA 37 rfl)
          simp [relUpon, go_sem, hfun, h35, h37]
          exact (HE2.out w' _ _ (HW.out.trans hx) f37).mono fun e w'' ⟨he, hy⟩ => ⟨_, he, hy, rfl⟩
        intro V wT hxT hf
        obtain ⟨g30, g31, g32, g33, g34, g35, g36, g37, g38, _⟩ := hf
        simp only [fillA, List.foldl_cons, List.foldl_nil, Act.put, List.setIfInBounds_toArray, List.set_cons_succ, List.set_cons_zero]
        have q38 : V 38 = _ := g38
        rw [q38]
        have HW2 := Lib.hid (HW.out.trans hxT)
        refine wpAny_solo 9 (by kernel_rfl) rfl (fun K hK => ?_)
        go_simp
        refine hK _ _ ?_
        clear hK K
        refine ⟨rfl, ?_⟩
        clear HW
        have HW := HW2
        clear HW2
        go_wp2_with fail
        refine (HRL.out _ HW.out).mono ?_
        rintro e w5 ⟨rfl, hx5⟩
        have HW2 := Lib.hid (HW.out.trans hx5)
        clear HW hx5
        have HW := HW2
        clear HW2
        go_wp2_with fail
        refine (HRR.out _ HW.out).mono ?_
        rintro e w5 ⟨rfl, hx5⟩
        have HW2 := Lib.hid (HW.out.trans hx5)
        clear HW hx5
        have HW := HW2
        clear HW2
        go_wp2_with fail
        refine wp_region_rel 4 9 rfl [113, 114, 115, 116] [[], [0], [], [1, 2]] (by kernel_rfl) (by kernel_rfl) ?_
        apply relPlan_eq'
        · intro V w' hx hf
          with_reducible refine relAt_ops ?_
          intro A ρ hA hρ hcst hfun
          have h0 : ρ (.tmp 0) = .slice a m.length c := (congrFun hρ _).trans (evalMiss hA 0 rfl)
          exact relUpon_move (hk := by rw [h0]; exact ⟨Ext.refl _, rfl⟩)
        apply relPlan_eq'
        · intro V w' hx hf
          with_reducible refine relAt_ops ?_
          intro A ρ hA hρ hcst hfun
          obtain ⟨f113, _⟩ := hf
          have h113 : ρ (.tmp 113) = _ := (congrFun hρ _).trans ((evalHit hA 113 rfl).trans f113)
          simp [relUpon, go_sem, hcst, Ext.refl, h113, hp3]
          rfl
        refine relPlan_by (fun v w => Own 4 w 0 v (Ea.md.map encT)) (fun _ _ _ h hx => h.ext hx) ?_ ?_
        · intro V w' hx hf
          with_reducible refine relAt_ops ?_
          intro A ρ hA hρ hcst hfun
          simp [relUpon, go_sem, hcst, hfun]
          exact (HMM.out w').mono fun e w'' ⟨v, he, ho, hy⟩ => ⟨v, he, hy, ho.mono (Nat.zero_le _)⟩
        refine relPlan_by (eqv (.bool false)) (eqv_stable _) ?_ ?_
        · intro V w' hx hf
          with_reducible refine relAt_ops ?_
          intro A ρ hA hρ hcst hfun
          obtain ⟨f114, f115, _⟩ := hf
          have h114 : ρ (.tmp 114) = _ := (congrFun hρ _).trans ((evalHit hA 114 rfl).trans f114)
          have h115 : ρ (.tmp 115) = V 115 := (congrFun hρ _).trans (evalHit hA 115 rfl)
          simp [relUpon, go_sem, hfun, h114, h115]
          exact (HE3.out w' _ _ (HW.out.trans hx) f115).mono fun e w'' ⟨he, hy⟩ => ⟨_, he, hy, rfl⟩
        intro V wT hxT hf
        obtain ⟨g113, g114, g115, g116, _⟩ := hf
        simp only [fillA, List.foldl_cons, List.foldl_nil, Act.put, List.setIfInBounds_toArray, List.set_cons_succ, List.set_cons_zero]
        have q116 : V 116 = _ := g116
        rw [q116]
        have HW2 := Lib.hid (HW.out.trans hxT)
        refine wpAny_solo 4 (by kernel_rfl) rfl (fun K hK => ?_)
        go_simp
        refine hK _ _ ?_
        clear hK K
        refine wpAny_solo 5 (by kernel_rfl) rfl (fun K hK => ?_)
        go_simp
        refine hK _ _ ?_
        clear hK K
        refine wpAny_solo 6 (by kernel_rfl) rfl (fun K hK => ?_)
        go_simp
        refine hK _ _ ?_
        clear hK K
        refine wpAny_solo 7 (by kernel_rfl) rfl (fun K hK => ?_)
        go_simp
        refine hK _ _ ?_
        clear hK K
        refine wpAny_solo 8 (by kernel_rfl) rfl (fun K hK => ?_)
        go_simp
        refine hK _ _ ?_
        clear hK K
        refine wpAny_solo 9 (by kernel_rfl) rfl (fun K hK => ?_)
        go_simp
        refine hK _ _ ?_
        clear hK K
        refine wpAny_solo 10 (by kernel_rfl) rfl (fun K hK => ?_)
        go_simp
        refine hK _ _ ?_
        clear hK K
        refine wpAny_solo 11 (by kernel_rfl) rfl (fun K hK => ?_)
        go_simp
        refine hK _ _ ?_
        clear hK K
        refine wpAny_solo 12 (by kernel_rfl) rfl (fun K hK => ?_)
        go_simp
        refine hK _ _ ?_
        clear hK K
        refine ⟨rfl, ?_⟩
        clear HW
        have HW := HW2
        clear HW2
        go_wp2
        go_ret3
        exact ⟨by rw [HG.out]; rfl, HW.out⟩
      | true =>
        cases hln : lo.isNone with
        | true =>
          rw [hln] at hLe
          have HG := Lib.hid (HN.out (.inr (.inl hln)))
          clear HN HX hln
          go_enter Tryz.func79, Tryz.ntmps79
          go_wp2_with fail
          refine wp_region_rel 4 1 rfl [25, 26, 27, 28] [[], [0], [], [1, 2]] (by kernel_rfl) (by kernel_rfl) ?_
          apply relPlan_eq'
          · intro V w' hx hf
            with_reducible refine relAt_ops ?_
            intro A ρ hA hρ hcst hfun
            have h0 : ρ (.tmp 0) = .slice a m.length c := (congrFun hρ _).trans (evalMiss hA 0 rfl)
            exact relUpon_move (hk := by rw [h0]; exact ⟨Ext.refl _, rfl⟩)
          apply relPlan_eq'
          · intro V w' hx hf
            with_reducible refine relAt_ops ?_
            intro A ρ hA hρ hcst hfun
            obtain ⟨f25, _⟩ := hf
            have h25 : ρ (.tmp 25) = _ := (congrFun hρ _).trans ((evalHit hA 25 rfl).trans f25)
            simp [relUpon, go_sem, hcst, Ext.refl, h25, hp1]
            rfl
          refine relPlan_by (fun v w => Own 4 w 0 v (Ea.gd.map encT)) (fun _ _ _ h hx => h.ext hx) ?_ ?_
          · intro V w' hx hf
            with_reducible refine relAt_ops ?_
            intro A ρ hA hρ hcst hfun
            simp [relUpon, go_sem, hcst, hfun]
            exact (HMG.out w').mono fun e w'' ⟨v, he, ho, hy⟩ => ⟨v, he, hy, ho.mono (Nat.zero_le _)⟩
          refine relPlan_by (eqv (.bool true)) (eqv_stable _) ?_ ?_
          · intro V w' hx hf
            with_reducible refine relAt_ops ?_
            intro A ρ hA hρ hcst hfun
            obtain ⟨f26, f27, _⟩ := hf
            have h26 : ρ (.tmp 26) = _ := (congrFun hρ _).trans ((evalHit hA 26 rfl).trans f26)
            have h27 : ρ (.tmp 27) = V 27 := (congrFun hρ _).trans (evalHit hA 27 rfl)
            simp [relUpon, go_sem, hfun, h26, h27]
            exact (HE1.out w' _ _ (HW.out.trans hx) f27).mono fun e w'' ⟨he, hy⟩ => ⟨_, he, hy, rfl⟩
          intro V wT hxT hf
          obtain ⟨g25, g26, g27, g28, _⟩ := hf
          simp only [fillA, List.foldl_cons, List.foldl_nil, Act.put, List.setIfInBounds_toArray, List.set_cons_succ, List.set_cons_zero]
          have q28 : V 28 = _ := g28
          rw [q28]
          have HW2 := Lib.hid (HW.out.trans hxT)
          refine wpAny_solo 4 (by kernel_rfl) rfl (fun K hK => ?_)
          go_simp
          refine hK _ _ ?_
          clear hK K
          refine ⟨rfl, ?_⟩
          clear HW
          have HW := HW2
          clear HW2
          go_wp2_with fail
          refine wp_region_rel 9 1 rfl [30, 31, 32, 33, 34, 35, 36, 37, 38] [[], [], [], [2], [1, 3], [0, 4], [], [6], [5, 7]] (by kernel_rfl) (by kernel_rfl) ?_
          apply relPlan_eq'
          · intro V w' hx hf
            with_reducible refine relAt_ops ?_
            intro A ρ hA hρ hcst hfun
            have h0 : ρ (.tmp 0) = .slice a m.length c := (congrFun hρ _).trans (evalMiss hA 0 rfl)
            exact relUpon_move (hk := by rw [h0]; exact ⟨Ext.refl _, rfl⟩)
          apply relPlan_eq'
          · intro V w' hx hf
            with_reducible refine relAt_ops ?_
            intro A ρ hA hρ hcst hfun
            have h5 : ρ (.tmp 5) = .int .i64 (m.length : Int) := (congrFun hρ _).trans (evalMiss hA 5 rfl)
            exact relUpon_move (hk := by rw [h5]; exact ⟨Ext.refl _, rfl⟩)
          apply relPlan_eq'
          · intro V w' hx hf
            with_reducible refine relAt_ops ?_
            intro A ρ hA hρ hcst hfun
            have h6 : ρ (.tmp 6) = .string ⟨#[49, 48, 49]⟩ := (congrFun hρ _).trans (evalMiss hA 6 rfl)
            exact relUpon_move (hk := by rw [h6]; exact ⟨Ext.refl _, rfl⟩)
          apply relPlan_eq'
          · intro V w' hx hf
            with_reducible refine relAt_ops ?_
            intro A ρ hA hρ hcst hfun
            obtain ⟨f32, _⟩ := hf
            have h32 : ρ (.tmp 32) = _ := (congrFun hρ _).trans ((evalHit hA 32 rfl).trans f32)
            simp [relUpon, go_sem, Ext.refl, h32]
            rfl
          apply relPlan_eq'
          · intro V w' hx hf
            with_reducible refine relAt_ops ?_
            intro A ρ hA hρ hcst hfun
            obtain ⟨f31, f33, _⟩ := hf
            have h31 : ρ (.tmp 31) = _ := (congrFun hρ _).trans ((evalHit hA 31 rfl).trans f31)
            have h33 : ρ (.tmp 33) = _ := (congrFun hρ _).trans ((evalHit hA 33 rfl).trans f33)
            simp [relUpon, go_sem, Ext.refl, h31, h33, e92, w92]
            rfl
          apply relPlan_eq'
          · intro V w' hx hf
            with_reducible refine relAt_ops ?_
            intro A ρ hA hρ hcst hfun
            obtain ⟨f30, f34, _⟩ := hf
            have h30 : ρ (.tmp 30) = _ := (congrFun hρ _).trans ((evalHit hA 30 rfl).trans f30)
            have h34 : ρ (.tmp 34) = _ := (congrFun hρ _).trans ((evalHit hA 34 rfl).trans f34)
            simp [relUpon, go_sem, Ext.refl, h30, h34, hp2]
            rfl
          apply relPlan_eq'
          · intro V w' hx hf
            with_reducible refine relAt_ops ?_
            intro A ρ hA hρ hcst hfun
            have h6 : ρ (.tmp 6) = .string ⟨#[49, 48, 49]⟩ := (congrFun hρ _).trans (evalMiss hA 6 rfl)
            exact relUpon_move (hk := by rw [h6]; exact ⟨Ext.refl _, rfl⟩)
          refine relPlan_by (fun v w => Own 4 w 0 v (Ea.gd.map encT)) (fun _ _ _ h hx => h.ext hx) ?_ ?_
          · intro V w' hx hf
            with_reducible refine relAt_ops ?_
            intro A ρ hA hρ hcst hfun
            obtain ⟨f36, _⟩ := hf
            have h36 : ρ (.tmp 36) = _ := (congrFun hρ _).trans ((evalHit hA 36 rfl).trans f36)
            simp [relUpon, go_sem, hfun, h36]
            exact (HMS.out w').mono fun e w'' ⟨v, he, ho, hy⟩ => ⟨v, he, hy, ho.mono (Nat.zero_le _)⟩
          refine relPlan_by (eqv (.bool true)) (eqv_stable _) ?_ ?_
          · intro V w' hx hf
            with_reducible refine relAt_ops ?_
            intro A ρ hA hρ hcst hfun
            obtain ⟨f35, f37, _⟩ := hf
            have h35 : ρ (.tmp 35) = _ := (congrFun hρ _).trans ((evalHit hA 35 rfl).trans f35)
            have h37 : ρ (.tmp 37) = V 37 := (congrFun hρ _).trans (evalHit hA 37 rfl)
            simp [relUpon, go_sem, hfun, h35, h37]
            exact (HE2.out w' _ _ (HW.out.trans hx) f37).mono fun e w'' ⟨he, hy⟩ => ⟨_, he, hy, rfl⟩
          intro V wT hxT hf
          obtain ⟨g30, g31, g32, g33, g34, g35, g36, g37, g38, _⟩ := hf
          simp only [fillA, List.foldl_cons, List.foldl_nil, Act.put, List.setIfInBounds_toArray, List.set_cons_succ, List.set_cons_zero]
          have q38 : V 38 = _ := g38
          rw [q38]
          have HW2 := Lib.hid (HW.out.trans hxT)
          refine wpAny_solo 9 (by kernel_rfl) rfl (fun K hK => ?_)
          go_simp
          refine hK _ _ ?_
          clear hK K
          refine ⟨rfl, ?_⟩
          clear HW
          have HW := HW2
          clear HW2
          go_wp2_with fail
          refine (HRL.out _ HW.out).mono ?_
          rintro e w5 ⟨rfl, hx5⟩
          have HW2 := Lib.hid (HW.out.trans hx5)
          clear HW hx5
          have HW := HW2
          clear HW2
          go_wp2_with fail
          refine (HRR.out _ HW.out).mono ?_
          rintro e w5 ⟨rfl, hx5⟩
          have HW2 := Lib.hid (HW.out.trans hx5)
          clear HW hx5
          have HW := HW2
          clear HW2
          go_wp2_with fail
          refine wp_region_rel 4 9 rfl [113, 114, 115, 116] [[], [0], [], [1, 2]] (by kernel_rfl) (by kernel_rfl) ?_
          apply relPlan_eq'
          · intro V w' hx hf
            with_reducible refine relAt_ops ?_
            intro A ρ hA hρ hcst hfun
            have h0 : ρ (.tmp 0) = .slice a m.length c := (congrFun hρ _).trans (evalMiss hA 0 rfl)
            exact relUpon_move (hk := by rw [h0]; exact ⟨Ext.refl _, rfl⟩)
          apply relPlan_eq'
          · intro V w' hx hf
            with_reducible refine relAt_ops ?_
            intro A ρ hA hρ hcst hfun
            obtain ⟨f113, _⟩ := hf
            have h113 : ρ (.tmp 113) = _ := (congrFun hρ _).trans ((evalHit hA 113 rfl).trans f113)
            simp [relUpon, go_sem, hcst, Ext.refl, h113, hp3]
            rfl
          refine relPlan_by (fun v w => Own 4 w 0 v (Ea.md.map encT)) (fun _ _ _ h hx => h.ext hx) ?_ ?_
          · intro V w' hx hf
            with_reducible refine relAt_ops ?_
            intro A ρ hA hρ hcst hfun
            simp [relUpon, go_sem, hcst, hfun]
            exact (HMM.out w').mono fun e w'' ⟨v, he, ho, hy⟩ => ⟨v, he, hy, ho.mono (Nat.zero_le _)⟩
          refine relPlan_by (eqv (.bool true)) (eqv_stable _) ?_ ?_
          · intro V w' hx hf
            with_reducible refine relAt_ops ?_
            intro A ρ hA hρ hcst hfun
            obtain ⟨f114, f115, _⟩ := hf
            have h114 : ρ (.tmp 114) = _ := (congrFun hρ _).trans ((evalHit hA 114 rfl).trans f114)
            have h115 : ρ (.tmp 115) = V 115 := (congrFun hρ _).trans (evalHit hA 115 rfl)
            simp [relUpon, go_sem, hfun, h114, h115]
            exact (HE3.out w' _ _ (HW.out.trans hx) f115).mono fun e w'' ⟨he, hy⟩ => ⟨_, he, hy, rfl⟩
          intro V wT hxT hf
          obtain ⟨g113, g114, g115, g116, _⟩ := hf
          simp only [fillA, List.foldl_cons, List.foldl_nil, Act.put, List.setIfInBounds_toArray, List.set_cons_succ, List.set_cons_zero]
          have q116 : V 116 = _ := g116
          rw [q116]
          have HW2 := Lib.hid (HW.out.trans hxT)
          refine wpAny_solo 4 (by kernel_rfl) rfl (fun K hK => ?_)
          go_simp
          refine hK _ _ ?_
          clear hK K
          refine wpAny_solo 5 (by kernel_rfl) rfl (fun K hK => ?_)
          go_simp
          refine hK _ _ ?_
          clear hK K
          refine wpAny_solo 6 (by kernel_rfl) rfl (fun K hK => ?_)
          go_simp
          refine hK _ _ ?_
          clear hK K
          refine wpAny_solo 7 (by kernel_rfl) rfl (fun K hK => ?_)
          go_simp
          refine hK _ _ ?_
          clear hK K
          refine wpAny_solo 8 (by kernel_rfl) rfl (fun K hK => ?_)
          go_simp
          refine hK _ _ ?_
          clear hK K
          refine wpAny_solo 9 (by kernel_rfl) rfl (fun K hK => ?_)
          go_simp
          refine hK _ _ ?_
          clear hK K
          refine wpAny_solo 10 (by kernel_rfl) rfl (fun K hK => ?_)
          go_simp
          refine hK _ _ ?_
          clear hK K
          refine wpAny_solo 11 (by kernel_rfl) rfl (fun K hK => ?_)
          go_simp
          refine hK _ _ ?_
          clear hK K
          refine wpAny_solo 12 (by kernel_rfl) rfl (fun K hK => ?_)
          go_simp
          refine hK _ _ ?_
          clear hK K
          refine ⟨rfl, ?_⟩
          clear HW
          have HW := HW2
          clear HW2
          go_wp2
          go_ret3
          exact ⟨by rw [HG.out]; rfl, HW.out⟩
        | false =>
          rw [hln] at hLe
          cases hrn : ro.isNone with
          | true =>
            rw [hrn] at hRe
            have HG := Lib.hid (HN.out (.inr (.inr hrn)))
            clear HN HX hrn hln
            go_enter Tryz.func79, Tryz.ntmps79
            go_wp2_with fail
            refine wp_region_rel 4 1 rfl [25, 26, 27, 28] [[], [0], [], [1, 2]] (by kernel_rfl) (by kernel_rfl) ?_
            apply relPlan_eq'
            · intro V w' hx hf
              with_reducible refine relAt_ops ?_
              intro A ρ hA hρ hcst hfun
              have h0 : ρ (.tmp 0) = .slice a m.length c := (congrFun hρ _).trans (evalMiss hA 0 rfl)
              exact relUpon_move (hk := by rw [h0]; exact ⟨Ext.refl _, rfl⟩)
            apply relPlan_eq'
            · intro V w' hx hf
              with_reducible refine relAt_ops ?_
              intro A ρ hA hρ hcst hfun
              obtain ⟨f25, _⟩ := hf
              have h25 : ρ (.tmp 25) = _ := (congrFun hρ _).trans ((evalHit hA 25 rfl).trans f25)
              simp [relUpon, go_sem, hcst, Ext.refl, h25, hp1]
              rfl
            refine relPlan_by (fun v w => Own 4 w 0 v (Ea.gd.map encT)) (fun _ _ _ h hx => h.ext hx) ?_ ?_
            · intro V w' hx hf
              with_reducible refine relAt_ops ?_
              intro A ρ hA hρ hcst hfun
              simp [relUpon, go_sem, hcst, hfun]
              exact (HMG.out w').mono fun e w'' ⟨v, he, ho, hy⟩ => ⟨v, he, hy, ho.mono (Nat.zero_le _)⟩
            refine relPlan_by (eqv (.bool true)) (eqv_stable _) ?_ ?_
            · intro V w' hx hf
              with_reducible refine relAt_ops ?_
              intro A ρ hA hρ hcst hfun
              obtain ⟨f26, f27, _⟩ := hf
              have h26 : ρ (.tmp 26) = _ := (congrFun hρ _).trans ((evalHit hA 26 rfl).trans f26)
              have h27 : ρ (.tmp 27) = V 27 := (congrFun hρ _).trans (evalHit hA 27 rfl)
              simp [relUpon, go_sem, hfun, h26, h27]
              exact (HE1.out w' _ _ (HW.out.trans hx) f27).mono fun e w'' ⟨he, hy⟩ => ⟨_, he, hy, rfl⟩
            intro V wT hxT hf
            obtain ⟨g25, g26, g27, g28, _⟩ := hf
            simp only [fillA, List.foldl_cons, List.foldl_nil, Act.put, List.setIfInBounds_toArray, List.set_cons_succ, List.set_cons_zero]
            have q28 : V 28 = _ := g28
            rw [q28]
            have HW2 := Lib.hid (HW.out.trans hxT)
            refine wpAny_solo 4 (by kernel_rfl) rfl (fun K hK => ?_)
            go_simp
            refine hK _ _ ?_
            clear hK K
            refine ⟨rfl, ?_⟩
            clear HW
            have HW := HW2
            clear HW2
            go_wp2_with fail
            refine wp_region_rel 9 1 rfl [30, 31, 32, 33, 34, 35, 36, 37, 38] [[], [], [], [2], [1, 3], [0, 4], [], [6], [5, 7]] (by kernel_rfl) (by kernel_rfl) ?_
            apply relPlan_eq'
            · intro V w' hx hf
              with_reducible refine relAt_ops ?_
              intro A ρ hA hρ hcst hfun
              have h0 : ρ (.tmp 0) = .slice a m.length c := (congrFun hρ _).trans (evalMiss hA 0 rfl)
              exact relUpon_move (hk := by rw [h0]; exact ⟨Ext.refl _, rfl⟩)
            apply relPlan_eq'
            · intro V w' hx hf
              with_reducible refine relAt_ops ?_
              intro A ρ hA hρ hcst hfun
              have h5 : ρ (.tmp 5) = .int .i64 (m.length : Int) := (congrFun hρ _).trans (evalMiss hA 5 rfl)
              exact relUpon_move (hk := by rw [h5]; exact ⟨Ext.refl _, rfl⟩)
            apply relPlan_eq'
            · intro V w' hx hf
              with_reducible refine relAt_ops ?_
              intro A ρ hA hρ hcst hfun
              have h6 : ρ (.tmp 6) = .string ⟨#[49, 48, 49]⟩ := (congrFun hρ _).trans (evalMiss hA 6 rfl)
              exact relUpon_move (hk := by rw [h6]; exact ⟨Ext.refl _, rfl⟩)
            apply relPlan_eq'
            · intro V w' hx hf
              with_reducible refine relAt_ops ?_
              intro A ρ hA hρ hcst hfun
              obtain ⟨f32, _⟩ := hf
              have h32 : ρ (.tmp 32) = _ := (congrFun hρ _).trans ((evalHit hA 32 rfl).trans f32)
              simp [relUpon, go_sem, Ext.refl, h32]
              rfl
            apply relPlan_eq'
            · intro V w' hx hf
              with_reducible refine relAt_ops ?_
              intro A ρ hA hρ hcst hfun
              obtain ⟨f31, f33, _⟩ := hf
              have h31 : ρ (.tmp 31) = _ := (congrFun hρ _).trans ((evalHit hA 31 rfl).trans f31)
              have h33 : ρ (.tmp 33) = _ := (congrFun hρ _).trans ((evalHit hA 33 rfl).trans f33)
              simp [relUpon, go_sem, Ext.refl, h31, h33, e92, w92]
              rfl
            apply relPlan_eq'
            · intro V w' hx hf
              with_reducible refine relAt_ops ?_
              intro A ρ hA hρ hcst hfun
              obtain ⟨f30, f34, _⟩ := hf
              have h30 : ρ (.tmp 30) = _ := (congrFun hρ _).trans ((evalHit hA 30 rfl).trans f30)
              have h34 : ρ (.tmp 34) = _ := (congrFun hρ _).trans ((evalHit hA 34 rfl).trans f34)
              simp [relUpon, go_sem, Ext.refl, h30, h34, hp2]
              rfl
            apply relPlan_eq'
            · intro V w' hx hf
              with_reducible refine relAt_ops ?_
              intro A ρ hA hρ hcst hfun
              have h6 : ρ (.tmp 6) = .string ⟨#[49, 48, 49]⟩ := (congrFun hρ _).trans (evalMiss hA 6 rfl)
              exact relUpon_move (hk := by rw [h6]; exact ⟨Ext.refl _, rfl⟩)
            refine relPlan_by (fun v w => Own 4 w 0 v (Ea.gd.map encT)) (fun _ _ _ h hx => h.ext hx) ?_ ?_
            · intro V w' hx hf
              with_reducible refine relAt_ops ?_
              intro A ρ hA hρ hcst hfun
              obtain ⟨f36, _⟩ := hf
              have h36 : ρ (.tmp 36) = _ := (congrFun hρ _).trans ((evalHit hA 36 rfl).trans f36)
              simp [relUpon, go_sem, hfun, h36]
              exact (HMS.out w').mono fun e w'' ⟨v, he, ho, hy⟩ => ⟨v, he, hy, ho.mono (Nat.zero_le _)⟩
            refine relPlan_by (eqv (.bool true)) (eqv_stable _) ?_ ?_
            · intro V w' hx hf
              with_reducible refine relAt_ops ?_
              intro A ρ hA hρ hcst hfun
              obtain ⟨f35, f37, _⟩ := hf
              have h35 : ρ (.tmp 35) = _ := (congrFun hρ _).trans ((evalHit hA 35 rfl).trans f35)
              have h37 : ρ (.tmp 37) = V 37 := (congrFun hρ _).trans (evalHit hA 37 rfl)
              simp [relUpon, go_sem, hfun, h35, h37]
              exact (HE2.out w' _ _ (HW.out.trans hx) f37).mono fun e w'' ⟨he, hy⟩ => ⟨_, he, hy, rfl⟩
            intro V wT hxT hf
            obtain ⟨g30, g31, g32, g33, g34, g35, g36, g37, g38, _⟩ := hf
            simp only [fillA, List.foldl_cons, List.foldl_nil, Act.put, List.setIfInBounds_toArray, List.set_cons_succ, List.set_cons_zero]
            have q38 : V 38 = _ := g38
            rw [q38]
            have HW2 := Lib.hid (HW.out.trans hxT)
            refine wpAny_solo 9 (by kernel_rfl) rfl (fun K hK => ?_)
            go_simp
            refine hK _ _ ?_
            clear hK K
            refine ⟨rfl, ?_⟩
            clear HW
            have HW := HW2
            clear HW2
            go_wp2_with fail
            refine (HRL.out _ HW.out).mono ?_
            rintro e w5 ⟨rfl, hx5⟩
            have HW2 := Lib.hid (HW.out.trans hx5)
            clear HW hx5
            have HW := HW2
            clear HW2
            go_wp2_with fail
            refine (HRR.out _ HW.out).mono ?_
            rintro e w5 ⟨rfl, hx5⟩
            have HW2 := Lib.hid (HW.out.trans hx5)
            clear HW hx5
            have HW := HW2
            clear HW2
            go_wp2_with fail
            refine wp_region_rel 4 9 rfl [113, 114, 115, 116] [[], [0], [], [1, 2]] (by kernel_rfl) (by kernel_rfl) ?_
            apply relPlan_eq'
            · intro V w' hx hf
              with_reducible refine relAt_ops ?_
              intro A ρ hA hρ hcst hfun
              have h0 : ρ (.tmp 0) = .slice a m.length c := (congrFun hρ _).trans (evalMiss hA 0 rfl)
              exact relUpon_move (hk := by rw [h0]; exact ⟨Ext.refl _, rfl⟩)
            apply relPlan_eq'
            · intro V w' hx hf
              with_reducible refine relAt_ops ?_
              intro A ρ hA hρ hcst hfun
              obtain ⟨f113, _⟩ := hf
              have h113 : ρ (.tmp 113) = _ := (congrFun hρ _).trans ((evalHit hA 113 rfl).trans f113)
              simp [relUpon, go_sem, hcst, Ext.refl, h113, hp3]
              rfl
            refine relPlan_by (fun v w => Own 4 w 0 v (Ea.md.map encT)) (fun _ _ _ h hx => h.ext hx) ?_ ?_
            · intro V w' hx hf
              with_reducible refine relAt_ops ?_
              intro A ρ hA hρ hcst hfun
              simp [relUpon, go_sem, hcst, hfun]
              exact (HMM.out w').mono fun e w'' ⟨v, he, ho, hy⟩ => ⟨v, he, hy, ho.mono (Nat.zero_le _)⟩
            refine relPlan_by (eqv (.bool true)) (eqv_stable _) ?_ ?_
            · intro V w' hx hf
              with_reducible refine relAt_ops ?_
              intro A ρ hA hρ hcst hfun
              obtain ⟨f114, f115, _⟩ := hf
              have h114 : ρ (.tmp 114) = _ := (congrFun hρ _).trans ((evalHit hA 114 rfl).trans f114)
              have h115 : ρ (.tmp 115) = V 115 := (congrFun hρ _).trans (evalHit hA 115 rfl)
              simp [relUpon, go_sem, hfun, h114, h115]
              exact (HE3.out w' _ _ (HW.out.trans hx) f115).mono fun e w'' ⟨he, hy⟩ => ⟨_, he, hy, rfl⟩
            intro V wT hxT hf
            obtain ⟨g113, g114, g115, g116, _⟩ := hf
            simp only [fillA, List.foldl_cons, List.foldl_nil, Act.put, List.setIfInBounds_toArray, List.set_cons_succ, List.set_cons_zero]
            have q116 : V 116 = _ := g116
            rw [q116]
            have HW2 := Lib.hid (HW.out.trans hxT)
            refine wpAny_solo 4 (by kernel_rfl) rfl (fun K hK => ?_)
            go_simp
            refine hK _ _ ?_
            clear hK K
            refine wpAny_solo 5 (by kernel_rfl) rfl (fun K hK => ?_)
            go_simp
            refine hK _ _ ?_
            clear hK K
            refine wpAny_solo 6 (by kernel_rfl) rfl (fun K hK => ?_)
            go_simp
            refine hK _ _ ?_
            clear hK K
            refine wpAny_solo 7 (by kernel_rfl) rfl (fun K hK => ?_)
            go_simp
            refine hK _ _ ?_
            clear hK K
            refine wpAny_solo 8 (by kernel_rfl) rfl (fun K hK => ?_)
            go_simp
            refine hK _ _ ?_
            clear hK K
            refine wpAny_solo 9 (by kernel_rfl) rfl (fun K hK => ?_)
            go_simp
            refine hK _ _ ?_
            clear hK K
            refine wpAny_solo 10 (by kernel_rfl) rfl (fun K hK => ?_)
            go_simp
            refine hK _ _ ?_
            clear hK K
            refine wpAny_solo 11 (by kernel_rfl) rfl (fun K hK => ?_)
            go_simp
            refine hK _ _ ?_
            clear hK K
            refine wpAny_solo 12 (by kernel_rfl) rfl (fun K hK => ?_)
            go_simp
            refine hK _ _ ?_
            clear hK K
            refine ⟨rfl, ?_⟩
            clear HW
            have HW := HW2
            clear HW2
            go_wp2
            go_ret3
            exact ⟨by rw [HG.out]; rfl, HW.out⟩
          | false =>
            rw [hrn] at hRe
            obtain ⟨q, rfl⟩ := Option.isSome_iff_exists.1 (show lo.isSome = true by cases lo with | none => cases hln | some q => rfl)
            obtain ⟨q2, rfl⟩ := Option.isSome_iff_exists.1 (show ro.isSome = true by cases ro with | none => cases hrn | some q => rfl)
            obtain ⟨l, u⟩ := q
            obtain ⟨r, u2⟩ := q2
            obtain ⟨hLl, hUl⟩ := HL1.out l u rfl
            obtain ⟨hRl, _⟩ := HR1.out r u2 rfl
            obtain ⟨f1, f2, f3, f4⟩ := HLF.out l u rfl
            obtain ⟨k1, k2, k3, k4⟩ := HRF.out r u2 rfl
            have HX2 := Lib.hid HX.out
            dsimp only at HX2
            rw [if_pos (of_decide_eq_true HB3.out)] at HX2
            clear HX HN hln hrn HL1 HR1 HLF HRF
            have HTX := Lib.hid (And.intro hLl (And.intro hRl (And.intro f1 k1)))
            clear hUl hLl hRl f1 f2 f3 f4 k1 k2 k3 k4
            obtain ⟨T, hT⟩ : ∃ T, L ++ R = T := ⟨_, rfl⟩
            have HTL : Hid (T.data.toList = l ++ r) := Lib.hid (by rw [← hT]; simp only [ByteArray.data_append, Array.toList_append, HTX.out.1, HTX.out.2.1])
            have hTz : T.size = 8 := by rw [size_of_toList HTL.out]; simp [HTX.out.2.2.1, HTX.out.2.2.2]
            obtain ⟨tl, htl⟩ : ∃ tl, l ++ r = tl := ⟨_, rfl⟩
            dsimp only at HX2
            rw [htl] at HX2 HTL
            have HT := Lib.hid hT
            clear htl HTX hT
            have HFU := Lib.hid (fun w => xfull_any 2 T (by omega) w)
            rw [HTL.out] at HFU
            obtain ⟨fe, hfe⟩ : ∃ fe, Ea.full 2 tl = fe := ⟨_, rfl⟩
            rw [hfe] at HFU HX2
            have hTl : 8 ≤ T.size := by omega
            have hTu : T.size ≤ 8 := by omega
            clear hfe hTz
            by_cases hf0 : fe = 0
            · rw [if_neg (fun h => h hf0)] at HX2
              have hfb : (fe != 0) = false := by rw [hf0]; rfl
              clear hf0
              have HG : Hid (res = ((2, tl), 0)) := Lib.hid (by rw [← HX2.out, if_neg (fun h => absurd h.1 (by decide))])
              have HE : Hid (T = Ea.bS tl) := Lib.hid (by rw [← HTL.out, Ea.bS_of])
              clear HX2
              go_enter Tryz.func79, Tryz.ntmps79
              go_wp2_with fail
              refine wp_region_rel 4 1 rfl [25, 26, 27, 28] [[], [0], [], [1, 2]] (by kernel_rfl) (by kernel_rfl) ?_
              apply relPlan_eq'
              · intro V w' hx hf
                with_reducible refine relAt_ops ?_
                intro A ρ hA hρ hcst hfun
                have h0 : ρ (.tmp 0) = .slice a m.length c := (congrFun hρ _).trans (evalMiss hA 0 rfl)
                exact relUpon_move (hk := by rw [h0]; exact ⟨Ext.refl _, rfl⟩)
              apply relPlan_eq'
              · intro V w' hx hf
                with_reducible refine relAt_ops ?_
                intro A ρ hA hρ hcst hfun
                obtain ⟨f25, _⟩ := hf
                have h25 : ρ (.tmp 25) = _ := (congrFun hρ _).trans ((evalHit hA 25 rfl).trans f25)
                simp [relUpon, go_sem, hcst, Ext.refl, h25, hp1]
                rfl
              refine relPlan_by (fun v w => Own 4 w 0 v (Ea.gd.map encT)) (fun _ _ _ h hx => h.ext hx) ?_ ?_
              · intro V w' hx hf
                with_reducible refine relAt_ops ?_
                intro A ρ hA hρ hcst hfun
                simp [relUpon, go_sem, hcst, hfun]
                exact (HMG.out w').mono fun e w'' ⟨v, he, ho, hy⟩ => ⟨v, he, hy, ho.mono (Nat.zero_le _)⟩
              refine relPlan_by (eqv (.bool true)) (eqv_stable _) ?_ ?_
              · intro V w' hx hf
                with_reducible refine relAt_ops ?_
                intro A ρ hA hρ hcst hfun
                obtain ⟨f26, f27, _⟩ := hf
                have h26 : ρ (.tmp 26) = _ := (congrFun hρ _).trans ((evalHit hA 26 rfl).trans f26)
                have h27 : ρ (.tmp 27) = V 27 := (congrFun hρ _).trans (evalHit hA 27 rfl)
                simp [relUpon, go_sem, hfun, h26, h27]
                exact (HE1.out w' _ _ (HW.out.trans hx) f27).mono fun e w'' ⟨he, hy⟩ => ⟨_, he, hy, rfl⟩
              intro V wT hxT hf
              obtain ⟨g25, g26, g27, g28, _⟩ := hf
              simp only [fillA, List.foldl_cons, List.foldl_nil, Act.put, List.setIfInBounds_toArray, List.set_cons_succ, List.set_cons_zero]
              have q28 : V 28 = _ := g28
              rw [q28]
              have HW2 := Lib.hid (HW.out.trans hxT)
              refine wpAny_solo 4 (by kernel_rfl) rfl (fun K hK => ?_)
              go_simp
              refine hK _ _ ?_
              clear hK K
              refine ⟨rfl, ?_⟩
              clear HW
              have HW := HW2
              clear HW2
              go_wp2_with fail
              refine wp_region_rel 9 1 rfl [30, 31, 32, 33, 34, 35, 36, 37, 38] [[], [], [], [2], [1, 3], [0, 4], [], [6], [5, 7]] (by kernel_rfl) (by kernel_rfl) ?_
              apply relPlan_eq'
              · intro V w' hx hf
                with_reducible refine relAt_ops ?_
                intro A ρ hA hρ hcst hfun
                have h0 : ρ (.tmp 0) = .slice a m.length c := (congrFun hρ _).trans (evalMiss hA 0 rfl)
                exact relUpon_move (hk := by rw [h0]; exact ⟨Ext.refl _, rfl⟩)
              apply relPlan_eq'
              · intro V w' hx hf
                with_reducible refine relAt_ops ?_
                intro A ρ hA hρ hcst hfun
                have h5 : ρ (.tmp 5) = .int .i64 (m.length : Int) := (congrFun hρ _).trans (evalMiss hA 5 rfl)
                exact relUpon_move (hk := by rw [h5]; exact ⟨Ext.refl _, rfl⟩)
              apply relPlan_eq'
              · intro V w' hx hf
                with_reducible refine relAt_ops ?_
                intro A ρ hA hρ hcst hfun
                have h6 : ρ (.tmp 6) = .string ⟨#[49, 48, 49]⟩ := (congrFun hρ _).trans (evalMiss hA 6 rfl)
                exact relUpon_move (hk := by rw [h6]; exact ⟨Ext.refl _, rfl⟩)
              apply relPlan_eq'
              · intro V w' hx hf
                with_reducible refine relAt_ops ?_
                intro A ρ hA hρ hcst hfun
                obtain ⟨f32, _⟩ := hf
                have h32 : ρ (.tmp 32) = _ := (congrFun hρ _).trans ((evalHit hA 32 rfl).trans f32)
                simp [relUpon, go_sem, Ext.refl, h32]
                rfl
              apply relPlan_eq'
              · intro V w' hx hf
                with_reducible refine relAt_ops ?_
                intro A ρ hA hρ hcst hfun
                obtain ⟨f31, f33, _⟩ := hf
                have h31 : ρ (.tmp 31) = _ := (congrFun hρ _).trans ((evalHit hA 31 rfl).trans f31)
                have h33 : ρ (.tmp 33) = _ := (congrFun hρ _).trans ((evalHit hA 33 rfl).trans f33)
                simp [relUpon, go_sem, Ext.refl, h31, h33, e92, w92]
                rfl
              apply relPlan_eq'
              · intro V w' hx hf
                with_reducible refine relAt_ops ?_
                intro A ρ hA hρ hcst hfun
                obtain ⟨f30, f34, _⟩ := hf
                have h30 : ρ (.tmp 30) = _ := (congrFun hρ _).trans ((evalHit hA 30 rfl).trans f30)
                have h34 : ρ (.tmp 34) = _ := (congrFun hρ _).trans ((evalHit hA 34 rfl).trans f34)
                simp [relUpon, go_sem, Ext.refl, h30, h34, hp2]
                rfl
              apply relPlan_eq'
              · intro V w' hx hf
                with_reducible refine relAt_ops ?_
                intro A ρ hA hρ hcst hfun
                have h6 : ρ (.tmp 6) = .string ⟨#[49, 48, 49]⟩ := (congrFun hρ _).trans (evalMiss hA 6 rfl)
                exact relUpon_move (hk := by rw [h6]; exact ⟨Ext.refl _, rfl⟩)
              refine relPlan_by (fun v w => Own 4 w 0 v (Ea.gd.map encT)) (fun _ _ _ h hx => h.ext hx) ?_ ?_
              · intro V w' hx hf
                with_reducible refine relAt_ops ?_
                intro A ρ hA hρ hcst hfun
                obtain ⟨f36, _⟩ := hf
                have h36 : ρ (.tmp 36) = _ := (congrFun hρ _).trans ((evalHit hA 36 rfl).trans f36)
                simp [relUpon, go_sem, hfun, h36]
                exact (HMS.out w').mono fun e w'' ⟨v, he, ho, hy⟩ => ⟨v, he, hy, ho.mono (Nat.zero_le _)⟩
              refine relPlan_by (eqv (.bool true)) (eqv_stable _) ?_ ?_
              · intro V w' hx hf
                with_reducible refine relAt_ops ?_
                intro A ρ hA hρ hcst hfun
                obtain ⟨f35, f37, _⟩ := hf
                have h35 : ρ (.tmp 35) = _ := (congrFun hρ _).trans ((evalHit hA 35 rfl).trans f35)
                have h37 : ρ (.tmp 37) = V 37 := (congrFun hρ _).trans (evalHit hA 37 rfl)
                simp [relUpon, go_sem, hfun, h35, h37]
                exact (HE2.out w' _ _ (HW.out.trans hx) f37).mono fun e w'' ⟨he, hy⟩ => ⟨_, he, hy, rfl⟩
              intro V wT hxT hf
              obtain ⟨g30, g31, g32, g33, g34, g35, g36, g37, g38, _⟩ := hf
              simp only [fillA, List.foldl_cons, List.foldl_nil, Act.put, List.setIfInBounds_toArray, List.set_cons_succ, List.set_cons_zero]
              have q38 : V 38 = _ := g38
              rw [q38]
              have HW2 := Lib.hid (HW.out.trans hxT)
              refine wpAny_solo 9 (by kernel_rfl) rfl (fun K hK => ?_)
              go_simp
              refine hK _ _ ?_
              clear hK K
              refine ⟨rfl, ?_⟩
              clear HW
              have HW := HW2
              clear HW2
              go_wp2_with fail
              refine (HRL.out _ HW.out).mono ?_
              rintro e w5 ⟨rfl, hx5⟩
              have HW2 := Lib.hid (HW.out.trans hx5)
              clear HW hx5
              have HW := HW2
              clear HW2
              go_wp2_with fail
              refine (HRR.out _ HW.out).mono ?_
              rintro e w5 ⟨rfl, hx5⟩
              have HW2 := Lib.hid (HW.out.trans hx5)
              clear HW hx5
              have HW := HW2
              clear HW2
              go_wp2_with fail
              refine wp_region_rel 4 9 rfl [113, 114, 115, 116] [[], [0], [], [1, 2]] (by kernel_rfl) (by kernel_rfl) ?_
              apply relPlan_eq'
              · intro V w' hx hf
                with_reducible refine relAt_ops ?_
                intro A ρ hA hρ hcst hfun
                have h0 : ρ (.tmp 0) = .slice a m.length c := (congrFun hρ _).trans (evalMiss hA 0 rfl)
                exact relUpon_move (hk := by rw [h0]; exact ⟨Ext.refl _, rfl⟩)
              apply relPlan_eq'
              · intro V w' hx hf
                with_reducible refine relAt_ops ?_
                intro A ρ hA hρ hcst hfun
                obtain ⟨f113, _⟩ := hf
                have h113 : ρ (.tmp 113) = _ := (congrFun hρ _).trans ((evalHit hA 113 rfl).trans f113)
                simp [relUpon, go_sem, hcst, Ext.refl, h113, hp3]
                rfl
              refine relPlan_by (fun v w => Own 4 w 0 v (Ea.md.map encT)) (fun _ _ _ h hx => h.ext hx) ?_ ?_
              · intro V w' hx hf
                with_reducible refine relAt_ops ?_
                intro A ρ hA hρ hcst hfun
                simp [relUpon, go_sem, hcst, hfun]
                exact (HMM.out w').mono fun e w'' ⟨v, he, ho, hy⟩ => ⟨v, he, hy, ho.mono (Nat.zero_le _)⟩
              refine relPlan_by (eqv (.bool true)) (eqv_stable _) ?_ ?_
              · intro V w' hx hf
                with_reducible refine relAt_ops ?_
                intro A ρ hA hρ hcst hfun
                obtain ⟨f114, f115, _⟩ := hf
                have h114 : ρ (.tmp 114) = _ := (congrFun hρ _).trans ((evalHit hA 114 rfl).trans f114)
                have h115 : ρ (.tmp 115) = V 115 := (congrFun hρ _).trans (evalHit hA 115 rfl)
                simp [relUpon, go_sem, hfun, h114, h115]
                exact (HE3.out w' _ _ (HW.out.trans hx) f115).mono fun e w'' ⟨he, hy⟩ => ⟨_, he, hy, rfl⟩
              intro V wT hxT hf
              obtain ⟨g113, g114, g115, g116, _⟩ := hf
              simp only [fillA, List.foldl_cons, List.foldl_nil, Act.put, List.setIfInBounds_toArray, List.set_cons_succ, List.set_cons_zero]
              have q116 : V 116 = _ := g116
              rw [q116]
              have HW2 := Lib.hid (HW.out.trans hxT)
              refine wpAny_solo 4 (by kernel_rfl) rfl (fun K hK => ?_)
              go_simp
              refine hK _ _ ?_
              clear hK K
              refine wpAny_solo 5 (by kernel_rfl) rfl (fun K hK => ?_)
              go_simp
              refine hK _ _ ?_
              clear hK K
              refine wpAny_solo 6 (by kernel_rfl) rfl (fun K hK => ?_)
              go_simp
              refine hK _ _ ?_
              clear hK K
              refine wpAny_solo 7 (by kernel_rfl) rfl (fun K hK => ?_)
              go_simp
              refine hK _ _ ?_
              clear hK K
              refine wpAny_solo 8 (by kernel_rfl) rfl (fun K hK => ?_)
              go_simp
              refine hK _ _ ?_
              clear hK K
              refine wpAny_solo 9 (by kernel_rfl) rfl (fun K hK => ?_)
              go_simp
              refine hK _ _ ?_
              clear hK K
              refine wpAny_solo 10 (by kernel_rfl) rfl (fun K hK => ?_)
              go_simp
              refine hK _ _ ?_
              clear hK K
              refine wpAny_solo 11 (by kernel_rfl) rfl (fun K hK => ?_)
              go_simp
              refine hK _ _ ?_
              clear hK K
              refine wpAny_solo 12 (by kernel_rfl) rfl (fun K hK => ?_)
              go_simp
              refine hK _ _ ?_
              clear hK K
              refine ⟨rfl, ?_⟩
              clear HW
              have HW := HW2
              clear HW2
              go_wp2_with fail
              rw [HT.out]
              refine (HFU.out _).mono ?_
              rintro e w9 ⟨rfl, hx9⟩
              have HW2 := Lib.hid (HW.out.trans hx9)
              clear HW hx9
              have HW := HW2
              clear HW2
              go_wp2
              go_ret3
              exact ⟨by rw [HG.out]; unfold xsymV; dsimp only; rw [← HE.out]; rfl, HW.out⟩
            · rw [if_pos hf0] at HX2
              have HG : Hid (res = ((0, []), 8)) := Lib.hid (HX2.out.symm)
              have hfb : (fe != 0) = true := bne_iff_ne.2 hf0
              clear hf0 HX2
              go_enter Tryz.func79, Tryz.ntmps79
              go_wp2_with fail
              refine wp_region_rel 4 1 rfl [25, 26, 27, 28] [[], [0], [], [1, 2]] (by kernel_rfl) (by kernel_rfl) ?_
              apply relPlan_eq'
              · intro V w' hx hf
                with_reducible refine relAt_ops ?_
                intro A ρ hA hρ hcst hfun
                have h0 : ρ (.tmp 0) = .slice a m.length c := (congrFun hρ _).trans (evalMiss hA 0 rfl)
                exact relUpon_move (hk := by rw [h0]; exact ⟨Ext.refl _, rfl⟩)
              apply relPlan_eq'
              · intro V w' hx hf
                with_reducible refine relAt_ops ?_
                intro A ρ hA hρ hcst hfun
                obtain ⟨f25, _⟩ := hf
                have h25 : ρ (.tmp 25) = _ := (congrFun hρ _).trans ((evalHit hA 25 rfl).trans f25)
                simp [relUpon, go_sem, hcst, Ext.refl, h25, hp1]
                rfl
              refine relPlan_by (fun v w => Own 4 w 0 v (Ea.gd.map encT)) (fun _ _ _ h hx => h.ext hx) ?_ ?_
              · intro V w' hx hf
                with_reducible refine relAt_ops ?_
                intro A ρ hA hρ hcst hfun
                simp [relUpon, go_sem, hcst, hfun]
                exact (HMG.out w').mono fun e w'' ⟨v, he, ho, hy⟩ => ⟨v, he, hy, ho.mono (Nat.zero_le _)⟩
              refine relPlan_by (eqv (.bool true)) (eqv_stable _) ?_ ?_
              · intro V w' hx hf
                with_reducible refine relAt_ops ?_
                intro A ρ hA hρ hcst hfun
                obtain ⟨f26, f27, _⟩ := hf
                have h26 : ρ (.tmp 26) = _ := (congrFun hρ _).trans ((evalHit hA 26 rfl).trans f26)
                have h27 : ρ (.tmp 27) = V 27 := (congrFun hρ _).trans (evalHit hA 27 rfl)
                simp [relUpon, go_sem, hfun, h26, h27]
                exact (HE1.out w' _ _ (HW.out.trans hx) f27).mono fun e w'' ⟨he, hy⟩ => ⟨_, he, hy, rfl⟩
              intro V wT hxT hf
              obtain ⟨g25, g26, g27, g28, _⟩ := hf
              simp only [fillA, List.foldl_cons, List.foldl_nil, Act.put, List.setIfInBounds_toArray, List.set_cons_succ, List.set_cons_zero]
              have q28 : V 28 = _ := g28
              rw [q28]
              have HW2 := Lib.hid (HW.out.trans hxT)
              refine wpAny_solo 4 (by kernel_rfl) rfl (fun K hK => ?_)
              go_simp
              refine hK _ _ ?_
              clear hK K
              refine ⟨rfl, ?_⟩
              clear HW
              have HW := HW2
              clear HW2
              go_wp2_with fail
              refine wp_region_rel 9 1 rfl [30, 31, 32, 33, 34, 35, 36, 37, 38] [[], [], [], [2], [1, 3], [0, 4], [], [6], [5, 7]] (by kernel_rfl) (by kernel_rfl) ?_
              apply relPlan_eq'
              · intro V w' hx hf
                with_reducible refine relAt_ops ?_
                intro A ρ hA hρ hcst hfun
                have h0 : ρ (.tmp 0) = .slice a m.length c := (congrFun hρ _).trans (evalMiss hA 0 rfl)
                exact relUpon_move (hk := by rw [h0]; exact ⟨Ext.refl _, rfl⟩)
              apply relPlan_eq'
              · intro V w' hx hf
                with_reducible refine relAt_ops ?_
                intro A ρ hA hρ hcst hfun
                have h5 : ρ (.tmp 5) = .int .i64 (m.length : Int) := (congrFun hρ _).trans (evalMiss hA 5 rfl)
                exact relUpon_move (hk := by rw [h5]; exact ⟨Ext.refl _, rfl⟩)
              apply relPlan_eq'
              · intro V w' hx hf
                with_reducible refine relAt_ops ?_
                intro A ρ hA hρ hcst hfun
                have h6 : ρ (.tmp 6) = .string ⟨#[49, 48, 49]⟩ := (congrFun hρ _).trans (evalMiss hA 6 rfl)
                exact relUpon_move (hk := by rw [h6]; exact ⟨Ext.refl _, rfl⟩)
              apply relPlan_eq'
              · intro V w' hx hf
                with_reducible refine relAt_ops ?_
                intro A ρ hA hρ hcst hfun
                obtain ⟨f32, _⟩ := hf
                have h32 : ρ (.tmp 32) = _ := (congrFun hρ _).trans ((evalHit hA 32 rfl).trans f32)
                simp [relUpon, go_sem, Ext.refl, h32]
                rfl
              apply relPlan_eq'
              · intro V w' hx hf
                with_reducible refine relAt_ops ?_
                intro A ρ hA hρ hcst hfun
                obtain ⟨f31, f33, _⟩ := hf
                have h31 : ρ (.tmp 31) = _ := (congrFun hρ _).trans ((evalHit hA 31 rfl).trans f31)
                have h33 : ρ (.tmp 33) = _ := (congrFun hρ _).trans ((evalHit hA 33 rfl).trans f33)
                simp [relUpon, go_sem, Ext.refl, h31, h33, e92, w92]
                rfl
              apply relPlan_eq'
              · intro V w' hx hf
                with_reducible refine relAt_ops ?_
                intro A ρ hA hρ hcst hfun
                obtain ⟨f30, f34, _⟩ := hf
                have h30 : ρ (.tmp 30) = _ := (congrFun hρ _).trans ((evalHit hA 30 rfl).trans f30)
                have h34 : ρ (.tmp 34) = _ := (congrFun hρ _).trans ((evalHit hA 34 rfl).trans f34)
                simp [relUpon, go_sem, Ext.refl, h30, h34, hp2]
                rfl
              apply relPlan_eq'
              · intro V w' hx hf
                with_reducible refine relAt_ops ?_
                intro A ρ hA hρ hcst hfun
                have h6 : ρ (.tmp 6) = .string ⟨#[49, 48, 49]⟩ := (congrFun hρ _).trans (evalMiss hA 6 rfl)
                exact relUpon_move (hk := by rw [h6]; exact ⟨Ext.refl _, rfl⟩)
              refine relPlan_by (fun v w => Own 4 w 0 v (Ea.gd.map encT)) (fun _ _ _ h hx => h.ext hx) ?_ ?_
              · intro V w' hx hf
                with_reducible refine relAt_ops ?_
                intro A ρ hA hρ hcst hfun
                obtain ⟨f36, _⟩ := hf
                have h36 : ρ (.tmp 36) = _ := (congrFun hρ _).trans ((evalHit hA 36 rfl).trans f36)
                simp [relUpon, go_sem, hfun, h36]
                exact (HMS.out w').mono fun e w'' ⟨v, he, ho, hy⟩ => ⟨v, he, hy, ho.mono (Nat.zero_le _)⟩
              refine relPlan_by (eqv (.bool true)) (eqv_stable _) ?_ ?_
              · intro V w' hx hf
                with_reducible refine relAt_ops ?_
                intro A ρ hA hρ hcst hfun
                obtain ⟨f35, f37, _⟩ := hf
                have h35 : ρ (.tmp 35) = _ := (congrFun hρ _).trans ((evalHit hA 35 rfl).trans f35)
                have h37 : ρ (.tmp 37) = V 37 := (congrFun hρ _).trans (evalHit hA 37 rfl)
                simp [relUpon, go_sem, hfun, h35, h37]
                exact (HE2.out w' _ _ (HW.out.trans hx) f37).mono fun e w'' ⟨he, hy⟩ => ⟨_, he, hy, rfl⟩
              intro V wT hxT hf
              obtain ⟨g30, g31, g32, g33, g34, g35, g36, g37, g38, _⟩ := hf
              simp only [fillA, List.foldl_cons, List.foldl_nil, Act.put, List.setIfInBounds_toArray, List.set_cons_succ, List.set_cons_zero]
              have q38 : V 38 = _ := g38
              rw [q38]
              have HW2 := Lib.hid (HW.out.trans hxT)
              refine wpAny_solo 9 (by kernel_rfl) rfl (fun K hK => ?_)
              go_simp
              refine hK _ _ ?_
              clear hK K
              refine ⟨rfl, ?_⟩
              clear HW
              have HW := HW2
              clear HW2
              go_wp2_with fail
              refine (HRL.out _ HW.out).mono ?_
              rintro e w5 ⟨rfl, hx5⟩
              have HW2 := Lib.hid (HW.out.trans hx5)
              clear HW hx5
              have HW := HW2
              clear HW2
              go_wp2_with fail
              refine (HRR.out _ HW.out).mono ?_
              rintro e w5 ⟨rfl, hx5⟩
              have HW2 := Lib.hid (HW.out.trans hx5)
              clear HW hx5
              have HW := HW2
              clear HW2
              go_wp2_with fail
              refine wp_region_rel 4 9 rfl [113, 114, 115, 116] [[], [0], [], [1, 2]] (by kernel_rfl) (by kernel_rfl) ?_
              apply relPlan_eq'
              · intro V w' hx hf
                with_reducible refine relAt_ops ?_
                intro A ρ hA hρ hcst hfun
                have h0 : ρ (.tmp 0) = .slice a m.length c := (congrFun hρ _).trans (evalMiss hA 0 rfl)
                exact relUpon_move (hk := by rw [h0]; exact ⟨Ext.refl _, rfl⟩)
              apply relPlan_eq'
              · intro V w' hx hf
                with_reducible refine relAt_ops ?_
                intro A ρ hA hρ hcst hfun
                obtain ⟨f113, _⟩ := hf
                have h113 : ρ (.tmp 113) = _ := (congrFun hρ _).trans ((evalHit hA 113 rfl).trans f113)
                simp [relUpon, go_sem, hcst, Ext.refl, h113, hp3]
                rfl
              refine relPlan_by (fun v w => Own 4 w 0 v (Ea.md.map encT)) (fun _ _ _ h hx => h.ext hx) ?_ ?_
              · intro V w' hx hf
                with_reducible refine relAt_ops ?_
                intro A ρ hA hρ hcst hfun
                simp [relUpon, go_sem, hcst, hfun]
                exact (HMM.out w').mono fun e w'' ⟨v, he, ho, hy⟩ => ⟨v, he, hy, ho.mono (Nat.zero_le _)⟩
              refine relPlan_by (eqv (.bool true)) (eqv_stable _) ?_ ?_
              · intro V w' hx hf
                with_reducible refine relAt_ops ?_
                intro A ρ hA hρ hcst hfun
                obtain ⟨f114, f115, _⟩ := hf
                have h114 : ρ (.tmp 114) = _ := (congrFun hρ _).trans ((evalHit hA 114 rfl).trans f114)
                have h115 : ρ (.tmp 115) = V 115 := (congrFun hρ _).trans (evalHit hA 115 rfl)
                simp [relUpon, go_sem, hfun, h114, h115]
                exact (HE3.out w' _ _ (HW.out.trans hx) f115).mono fun e w'' ⟨he, hy⟩ => ⟨_, he, hy, rfl⟩
              intro V wT hxT hf
              obtain ⟨g113, g114, g115, g116, _⟩ := hf
              simp only [fillA, List.foldl_cons, List.foldl_nil, Act.put, List.setIfInBounds_toArray, List.set_cons_succ, List.set_cons_zero]
              have q116 : V 116 = _ := g116
              rw [q116]
              have HW2 := Lib.hid (HW.out.trans hxT)
              refine wpAny_solo 4 (by kernel_rfl) rfl (fun K hK => ?_)
              go_simp
              refine hK _ _ ?_
              clear hK K
              refine wpAny_solo 5 (by kernel_rfl) rfl (fun K hK => ?_)
              go_simp
              refine hK _ _ ?_
              clear hK K
              refine wpAny_solo 6 (by kernel_rfl) rfl (fun K hK => ?_)
              go_simp
              refine hK _ _ ?_
              clear hK K
              refine wpAny_solo 7 (by kernel_rfl) rfl (fun K hK => ?_)
              go_simp
              refine hK _ _ ?_
              clear hK K
              refine wpAny_solo 8 (by kernel_rfl) rfl (fun K hK => ?_)
              go_simp
              refine hK _ _ ?_
              clear hK K
              refine wpAny_solo 9 (by kernel_rfl) rfl (fun K hK => ?_)
              go_simp
              refine hK _ _ ?_
              clear hK K
              refine wpAny_solo 10 (by kernel_rfl) rfl (fun K hK => ?_)
              go_simp
              refine hK _ _ ?_
              clear hK K
              refine wpAny_solo 11 (by kernel_rfl) rfl (fun K hK => ?_)
              go_simp
              refine hK _ _ ?_
              clear hK K
              refine wpAny_solo 12 (by kernel_rfl) rfl (fun K hK => ?_)
              go_simp
              refine hK _ _ ?_
              clear hK K
              refine ⟨rfl, ?_⟩
              clear HW
              have HW := HW2
              clear HW2
              go_wp2_with fail
              rw [HT.out]
              refine (HFU.out _).mono ?_
              rintro e w9 ⟨rfl, hx9⟩
              have HW2 := Lib.hid (HW.out.trans hx9)
              clear HW hx9
              have HW := HW2
              clear HW2
              go_wp2
              go_ret3
              exact ⟨by rw [HG.out]; rfl, HW.out⟩
    · rw [if_pos g2] at HX
      rw [decide_eq_false g2] at HE2
      clear g1 g2
      go_enter Tryz.func79, Tryz.ntmps79
      go_wp2_with fail
      refine wp_region_rel 4 1 rfl [25, 26, 27, 28] [[], [0], [], [1, 2]] (by kernel_rfl) (by kernel_rfl) ?_
      apply relPlan_eq'
      · intro V w' hx hf
        with_reducible refine relAt_ops ?_
        intro A ρ hA hρ hcst hfun
        have h0 : ρ (.tmp 0) = .slice a m.length c := (congrFun hρ _).trans (evalMiss hA 0 rfl)
        exact relUpon_move (hk := by rw [h0]; exact ⟨Ext.refl _, rfl⟩)
      apply relPlan_eq'
      · intro V w' hx hf
        with_reducible refine relAt_ops ?_
        intro A ρ hA hρ hcst hfun
        obtain ⟨f25, _⟩ := hf
        have h25 : ρ (.tmp 25) = _ := (congrFun hρ _).trans ((evalHit hA 25 rfl).trans f25)
        simp [relUpon, go_sem, hcst, Ext.refl, h25, hp1]
        rfl
      refine relPlan_by (fun v w => Own 4 w 0 v (Ea.gd.map encT)) (fun _ _ _ h hx => h.ext hx) ?_ ?_
      · intro V w' hx hf
        with_reducible refine relAt_ops ?_
        intro A ρ hA hρ hcst hfun
        simp [relUpon, go_sem, hcst, hfun]
        exact (HMG.out w').mono fun e w'' ⟨v, he, ho, hy⟩ => ⟨v, he, hy, ho.mono (Nat.zero_le _)⟩
      refine relPlan_by (eqv (.bool true)) (eqv_stable _) ?_ ?_
      · intro V w' hx hf
        with_reducible refine relAt_ops ?_
        intro A ρ hA hρ hcst hfun
        obtain ⟨f26, f27, _⟩ := hf
        have h26 : ρ (.tmp 26) = _ := (congrFun hρ _).trans ((evalHit hA 26 rfl).trans f26)
        have h27 : ρ (.tmp 27) = V 27 := (congrFun hρ _).trans (evalHit hA 27 rfl)
        simp [relUpon, go_sem, hfun, h26, h27]
        exact (HE1.out w' _ _ (HW.out.trans hx) f27).mono fun e w'' ⟨he, hy⟩ => ⟨_, he, hy, rfl⟩
      intro V wT hxT hf
      obtain ⟨g25, g26, g27, g28, _⟩ := hf
      simp only [fillA, List.foldl_cons, List.foldl_nil, Act.put, List.setIfInBounds_toArray, List.set_cons_succ, List.set_cons_zero]
      have q28 : V 28 = _ := g28
      rw [q28]
      have HW2 := Lib.hid (HW.out.trans hxT)
      refine wpAny_solo 4 (by kernel_rfl) rfl (fun K hK => ?_)
      go_simp
      refine hK _ _ ?_
      clear hK K
      refine ⟨rfl, ?_⟩
      clear HW
      have HW := HW2
      clear HW2
      go_wp2_with fail
      refine wp_region_rel 9 1 rfl [30, 31, 32, 33, 34, 35, 36, 37, 38] [[], [], [], [2], [1, 3], [0, 4], [], [6], [5, 7]] (by kernel_rfl) (by kernel_rfl) ?_
      apply relPlan_eq'
      · intro V w' hx hf
        with_reducible refine relAt_ops ?_
        intro A ρ hA hρ hcst hfun
        have h0 : ρ (.tmp 0) = .slice a m.length c := (congrFun hρ _).trans (evalMiss hA 0 rfl)
        exact relUpon_move (hk := by rw [h0]; exact ⟨Ext.refl _, rfl⟩)
      apply relPlan_eq'
      · intro V w' hx hf
        with_reducible refine relAt_ops ?_
        intro A ρ hA hρ hcst hfun
        have h5 : ρ (.tmp 5) = .int .i64 (m.length : Int) := (congrFun hρ _).trans (evalMiss hA 5 rfl)
        exact relUpon_move (hk := by rw [h5]; exact ⟨Ext.refl _, rfl⟩)
      apply relPlan_eq'
      · intro V w' hx hf
        with_reducible refine relAt_ops ?_
        intro A ρ hA hρ hcst hfun
        have h6 : ρ (.tmp 6) = .string ⟨#[49, 48, 49]⟩ := (congrFun hρ _).trans (evalMiss hA 6 rfl)
        exact relUpon_move (hk := by rw [h6]; exact ⟨Ext.refl _, rfl⟩)
      apply relPlan_eq'
      · intro V w' hx hf
        with_reducible refine relAt_ops ?_
        intro A ρ hA hρ hcst hfun
        obtain ⟨f32, _⟩ := hf
        have h32 : ρ (.tmp 32) = _ := (congrFun hρ _).trans ((evalHit hA 32 rfl).trans f32)
        simp [relUpon, go_sem, Ext.refl, h32]
        rfl
      apply relPlan_eq'
      · intro V w' hx hf
        with_reducible refine relAt_ops ?_
        intro A ρ hA hρ hcst hfun
        obtain ⟨f31, f33, _⟩ := hf
        have h31 : ρ (.tmp 31) = _ := (congrFun hρ _).trans ((evalHit hA 31 rfl).trans f31)
        have h33 : ρ (.tmp 33) = _ := (congrFun hρ _).trans ((evalHit hA 33 rfl).trans f33)
        simp [relUpon, go_sem, Ext.refl, h31, h33, e92, w92]
        rfl
      apply relPlan_eq'
      · intro V w' hx hf
        with_reducible refine relAt_ops ?_
        intro A ρ hA hρ hcst hfun
        obtain ⟨f30, f34, _⟩ := hf
        have h30 : ρ (.tmp 30) = _ := (congrFun hρ _).trans ((evalHit hA 30 rfl).trans f30)
        have h34 : ρ (.tmp 34) = _ := (congrFun hρ _).trans ((evalHit hA 34 rfl).trans f34)
        simp [relUpon, go_sem, Ext.refl, h30, h34, hp2]
        rfl
      apply relPlan_eq'
      · intro V w' hx hf
        with_reducible refine relAt_ops ?_
        intro A ρ hA hρ hcst hfun
        have h6 : ρ (.tmp 6) = .string ⟨#[49, 48, 49]⟩ := (congrFun hρ _).trans (evalMiss hA 6 rfl)
        exact relUpon_move (hk := by rw [h6]; exact ⟨Ext.refl _, rfl⟩)
      refine relPlan_by (fun v w => Own 4 w 0 v (Ea.gd.map encT)) (fun _ _ _ h hx => h.ext hx) ?_ ?_
      · intro V w' hx hf
        with_reducible refine relAt_ops ?_
        intro A ρ hA hρ hcst hfun
        obtain ⟨f36, _⟩ := hf
        have h36 : ρ (.tmp 36) = _ := (congrFun hρ _).trans ((evalHit hA 36 rfl).trans f36)
        simp [relUpon, go_sem, hfun, h36]
        exact (HMS.out w').mono fun e w'' ⟨v, he, ho, hy⟩ => ⟨v, he, hy, ho.mono (Nat.zero_le _)⟩
      refine relPlan_by (eqv (.bool false)) (eqv_stable _) ?_ ?_
      · intro V w' hx hf
        with_reducible refine relAt_ops ?_
        intro A ρ hA hρ hcst hfun
        obtain ⟨f35, f37, _⟩ := hf
        have h35 : ρ (.tmp 35) = _ := (congrFun hρ _).trans ((evalHit hA 35 rfl).trans f35)
        have h37 : ρ (.tmp 37) = V 37 := (congrFun hρ _).trans (evalHit hA 37 rfl)
        simp [relUpon, go_sem, hfun, h35, h37]
        exact (HE2.out w' _ _ (HW.out.trans hx) f37).mono fun e w'' ⟨he, hy⟩ => ⟨_, he, hy, rfl⟩
      intro V wT hxT hf
      obtain ⟨g30, g31, g32, g33, g34, g35, g36, g37, g38, _⟩ := hf
      simp only [fillA, List.foldl_cons, List.foldl_nil, Act.put, List.setIfInBounds_toArray, List.set_cons_succ, List.set_cons_zero]
      have q38 : V 38 = _ := g38
      rw [q38]
      have HW2 := Lib.hid (HW.out.trans hxT)
      refine wpAny_solo 9 (by kernel_rfl) rfl (fun K hK => ?_)
      go_simp
      refine hK _ _ ?_
      clear hK K
      refine ⟨rfl, ?_⟩
      clear HW
      have HW := HW2
      clear HW2
      go_wp2
      go_ret3
      exact ⟨by rw [← HX.out]; rfl, HW.out⟩
  · rw [if_pos g1] at HX
    rw [decide_eq_false g1] at HE1
    clear g1
    go_enter Tryz.func79, Tryz.ntmps79
    go_wp2_with fail
    refine wp_region_rel 4 1 rfl [25, 26, 27, 28] [[], [0], [], [1, 2]] (by kernel_rfl) (by kernel_rfl) ?_
    apply relPlan_eq'
    · intro V w' hx hf
      with_reducible refine relAt_ops ?_
      intro A ρ hA hρ hcst hfun
      have h0 : ρ (.tmp 0) = .slice a m.length c := (congrFun hρ _).trans (evalMiss hA 0 rfl)
      exact relUpon_move (hk := by rw [h0]; exact ⟨Ext.refl _, rfl⟩)
    apply relPlan_eq'
    · intro V w' hx hf
      with_reducible refine relAt_ops ?_
      intro A ρ hA hρ hcst hfun
      obtain ⟨f25, _⟩ := hf
      have h25 : ρ (.tmp 25) = _ := (congrFun hρ _).trans ((evalHit hA 25 rfl).trans f25)
      simp [relUpon, go_sem, hcst, Ext.refl, h25, hp1]
      rfl
    refine relPlan_by (fun v w => Own 4 w 0 v (Ea.gd.map encT)) (fun _ _ _ h hx => h.ext hx) ?_ ?_
    · intro V w' hx hf
      with_reducible refine relAt_ops ?_
      intro A ρ hA hρ hcst hfun
      simp [relUpon, go_sem, hcst, hfun]
      exact (HMG.out w').mono fun e w'' ⟨v, he, ho, hy⟩ => ⟨v, he, hy, ho.mono (Nat.zero_le _)⟩
    refine relPlan_by (eqv (.bool false)) (eqv_stable _) ?_ ?_
    · intro V w' hx hf
      with_reducible refine relAt_ops ?_
      intro A ρ hA hρ hcst hfun
      obtain ⟨f26, f27, _⟩ := hf
      have h26 : ρ (.tmp 26) = _ := (congrFun hρ _).trans ((evalHit hA 26 rfl).trans f26)
      have h27 : ρ (.tmp 27) = V 27 := (congrFun hρ _).trans (evalHit hA 27 rfl)
      simp [relUpon, go_sem, hfun, h26, h27]
      exact (HE1.out w' _ _ (HW.out.trans hx) f27).mono fun e w'' ⟨he, hy⟩ => ⟨_, he, hy, rfl⟩
    intro V wT hxT hf
    obtain ⟨g25, g26, g27, g28, _⟩ := hf
    simp only [fillA, List.foldl_cons, List.foldl_nil, Act.put, List.setIfInBounds_toArray, List.set_cons_succ, List.set_cons_zero]
    have q28 : V 28 = _ := g28
    rw [q28]
    have HW2 := Lib.hid (HW.out.trans hxT)
    refine wpAny_solo 4 (by kernel_rfl) rfl (fun K hK => ?_)
    go_simp
    refine hK _ _ ?_
    clear hK K
    refine ⟨rfl, ?_⟩
    clear HW
    have HW := HW2
    clear HW2
    go_wp2
    go_ret3
    exact ⟨by rw [← HX.out]; rfl, HW.out⟩
end Go.Proofs.YtfpliihglgjijaaGreat

/-
  Chapter 11: the reference's readSymbol at 51 modules, walked.
  Condition: rows of 51 modules.
-/
namespace Go.Proofs.YtfpliihglgjijaaGreat
open Go.RowKit

set_option maxRecDepth 100000 in
set_option maxHeartbeats 3000000 in
theorem xsym51_any (v : Value) (m : List Bool) (w : World) (hv : SlK w v (m.map encT)) (hm : m.length = 51) :
    Calls Tryz.prog 79 #[v] w fun e w' => e = .returned (xsymV (Ea.rdSym 51 m)) ∧ Ext w w' := by
  obtain ⟨res, hres⟩ : ∃ res, Ea.rdSym 51 m = res := ⟨_, rfl⟩
  rw [hres]
  have HX := Lib.hid hres
  unfold Ea.rdSym at HX
  rw [show (Ea.stp 51).length = 6 from rfl, show Ea.stp 51 = Ea.eE from rfl, show (51 - 6 : Nat) = 45 from rfl, show Ea.kindOf 51 = 4 from rfl, show Ea.rdK 51 m = Ea.rdE m from rfl] at HX
  obtain ⟨p1, hp1, hq1⟩ := cut_bools_h hv 3 (by rw [List.length_map]; omega)
  obtain ⟨p2, hp2, hq2⟩ := cut_bools_l hv 45 (by rw [List.length_map]; omega)
  rw [← List.map_take] at hq1
  rw [← List.map_drop] at hq2
  have HE1 := Lib.hid (eqTo_of (md := Ea.gd) hq1 (by rw [List.length_take]; omega) (by decide))
  have HE2 := Lib.hid (eqTo_of (md := Ea.eE) hq2 (by rw [List.length_drop]; omega) (by decide))
  have HMG := Lib.hid (fun w => xmodules_any ⟨#[49, 48, 49]⟩ Ea.gd rfl (by decide) w)
  have HMS := Lib.hid (fun w => xmodules_any ⟨#[48, 49, 48, 49, 48, 49]⟩ Ea.eE rfl (by decide) w)
  have HRL := Lib.hid (fun w' (h : Ext w w') => xread_any v m 3 6 0 0 0 1 true w' (hv.ext h) (by omega) (by omega) (by omega) ⟨rfl, rfl⟩ (by omega) (by omega))
  obtain ⟨_, a, c, rfl, hc⟩ := hv
  rw [List.length_map] at hp1 hp2 HRL ⊢
  rw [show ((3 : Nat) : Int) = 3 from rfl] at hp1 HRL
  rw [show ((45 : Nat) : Int) = 45 from rfl] at hp2
  rw [show ((6 : Nat) : Int) = 6 from rfl, show ((1 : Nat) : Int) = 1 from rfl, show ((0 : Nat) : Int) = 0 from rfl] at HRL
  have b51 : ((m.length : Int) == 51) = true := by rw [hm]; rfl
  have b95 : ((m.length : Int) == 95) = false := by rw [hm]; rfl
  have b67 : ((m.length : Int) == 67) = false := by rw [hm]; rfl
  have e92 : (m.length : Int) - 6 = 45 := by omega
  have w92 : IntKind.i64.wrap (45 : Int) = 45 := IntWalk.i64_in _ (by omega)
  have HLN := Lib.hid hm
  clear hq1 hq2 hres hc hm
  have HW : Hid (Ext w w) := Lib.hid (Ext.refl w)
  by_cases g1 : m.take 3 = Ea.gd
  · rw [if_neg (fun h => h g1)] at HX
    rw [decide_eq_true g1] at HE1
    by_cases g2 : m.drop 45 = Ea.eE
    · rw [if_neg (fun h => h g2)] at HX
      rw [decide_eq_true g2] at HE2
      clear g1 g2
      unfold Ea.rdE at HX
      obtain ⟨lo, hlo⟩ : ∃ lo, Ea.rcg true 0 0 6 (m.drop 3) = lo := ⟨_, rfl⟩
      have HLF := Lib.hid (fun l u (e : lo = some (l, u)) => rcg_facts (by omega) (hlo.trans e))
      rw [hlo] at HX HRL
      obtain ⟨L, U, hLU, hLe, hLs, hL1, hL0⟩ := readV_form lo 6 (by omega) (fun l u e => (HLF.out l u e).1)
      rw [hLU] at HRL
      have HL1 := Lib.hid hL1
      have HL0 := Lib.hid hL0
      clear hlo hLU hL1 hL0
      cases lo with
      | none =>
        have HFE := Lib.hid (fun w => xfindE_any U [] (HL0.out rfl) (by simp) w)
        rw [show Ea.findE [] = none from by decide, show noE none = .tuple #[.int .i64 (-1), .int .i64 (-1)] from rfl] at HFE
        rw [show (none : Option (List UInt8 × List Nat)).isNone = true from rfl] at hLe
        have HG : Hid (res = ((0, []), 18)) := Lib.hid (by rw [← HX.out])
        clear HX
        go_enter Tryz.func79, Tryz.ntmps79
        go_wp2_with fail
        refine wp_region_rel 4 1 rfl [25, 26, 27, 28] [[], [0], [], [1, 2]] (by kernel_rfl) (by kernel_rfl) ?_
        apply relPlan_eq'
        · intro V w' hx hf
          with_reducible refine relAt_ops ?_
          intro A ρ hA hρ hcst hfun
          have h0 : ρ (.tmp 0) = .slice a m.length c := (congrFun hρ _).trans (evalMiss hA 0 rfl)
          exact relUpon_move (hk := by rw [h0]; exact ⟨Ext.refl _, rfl⟩)
        apply relPlan_eq'
        · intro V w' hx hf
          with_reducible refine relAt_ops ?_
          intro A ρ hA hρ hcst hfun
          obtain ⟨f25, _⟩ := hf
          have h25 : ρ (.tmp 25) = _ := (congrFun hρ _).trans ((evalHit hA 25 rfl).trans f25)
          simp [relUpon, go_sem, hcst, Ext.refl, h25, hp1]
          rfl
        refine relPlan_by (fun v w => Own 4 w 0 v (Ea.gd.map encT)) (fun _ _ _ h hx => h.ext hx) ?_ ?_
        · intro V w' hx hf
          with_reducible refine relAt_ops ?_
          intro A ρ hA hρ hcst hfun
          simp [relUpon, go_sem, hcst, hfun]
          exact (HMG.out w').mono fun e w'' ⟨v, he, ho, hy⟩ => ⟨v, he, hy, ho.mono (Nat.zero_le _)⟩
        refine relPlan_by (eqv (.bool true)) (eqv_stable _) ?_ ?_
        · intro V w' hx hf
          with_reducible refine relAt_ops ?_
          intro A ρ hA hρ hcst hfun
          obtain ⟨f26, f27, _⟩ := hf
          have h26 : ρ (.tmp 26) = _ := (congrFun hρ _).trans ((evalHit hA 26 rfl).trans f26)
          have h27 : ρ (.tmp 27) = V 27 := (congrFun hρ _).trans (evalHit hA 27 rfl)
          simp [relUpon, go_sem, hfun, h26, h27]
          exact (HE1.out w' _ _ (HW.out.trans hx) f27).mono fun e w'' ⟨he, hy⟩ => ⟨_, he, hy, rfl⟩
        intro V wT hxT hf
        obtain ⟨g25, g26, g27, g28, _⟩ := hf
        simp only [fillA, List.foldl_cons, List.foldl_nil, Act.put, List.setIfInBounds_toArray, List.set_cons_succ, List.set_cons_zero]
        have q28 : V 28 = _ := g28
        rw [q28]
        have HW2 := Lib.hid (HW.out.trans hxT)
        refine wpAny_solo 4 (by kernel_rfl) rfl (fun K hK => ?_)
        go_simp
        refine hK _ _ ?_
        clear hK K
        refine ⟨rfl, ?_⟩
        clear HW
        have HW := HW2
        clear HW2
        go_wp2_with fail
        refine wp_region_rel 9 1 rfl [30, 31, 32, 33, 34, 35, 36, 37, 38] [[], [], [], [2], [1, 3], [0, 4], [], [6], [5, 7]] (by kernel_rfl) (by kernel_rfl) ?_
        apply relPlan_eq'
        · intro V w' hx hf
          with_reducible refine relAt_ops ?_
          intro A ρ hA hρ hcst hfun
          have h0 : ρ (.tmp 0) = .slice a m.length c := (congrFun hρ _).trans (evalMiss hA 0 rfl)
          exact relUpon_move (hk := by rw [h0]; exact ⟨Ext.refl _, rfl⟩)
        apply relPlan_eq'
        · intro V w' hx hf
          with_reducible refine relAt_ops ?_
          intro A ρ hA hρ hcst hfun
          have h5 : ρ (.tmp 5) = .int .i64 (m.length : Int) := (congrFun hρ _).trans (evalMiss hA 5 rfl)
          exact relUpon_move (hk := by rw [h5]; exact ⟨Ext.refl _, rfl⟩)
        apply relPlan_eq'
        · intro V w' hx hf
          with_reducible refine relAt_ops ?_
          intro A ρ hA hρ hcst hfun
          have h6 : ρ (.tmp 6) = .string ⟨#[48, 49, 48, 49, 48, 49]⟩ := (congrFun hρ _).trans (evalMiss hA 6 rfl)
          exact relUpon_move (hk := by rw [h6]; exact ⟨Ext.refl _, rfl⟩)
        apply relPlan_eq'
        · intro V w' hx hf
          with_reducible refine relAt_ops ?_
          intro A ρ hA hρ hcst hfun
          obtain ⟨f32, _⟩ := hf
          have h32 : ρ (.tmp 32) = _ := (congrFun hρ _).trans ((evalHit hA 32 rfl).trans f32)
          simp [relUpon, go_sem, Ext.refl, h32]
          rfl
        apply relPlan_eq'
        · intro V w' hx hf
          with_reducible refine relAt_ops ?_
          intro A ρ hA hρ hcst hfun
          obtain ⟨f31, f33, _⟩ := hf
          have h31 : ρ (.tmp 31) = _ := (congrFun hρ _).trans ((evalHit hA 31 rfl).trans f31)
          have h33 : ρ (.tmp 33) = _ := (congrFun hρ _).trans ((evalHit hA 33 rfl).trans f33)
          simp [relUpon, go_sem, Ext.refl, h31, h33, e92, w92]
          rfl
        apply relPlan_eq'
        · intro V w' hx hf
          with_reducible refine relAt_ops ?_
          intro A ρ hA hρ hcst hfun
          obtain ⟨f30, f34, _⟩ := hf
          have h30 : ρ (.tmp 30) = _ := (congrFun hρ _).trans ((evalHit hA 30 rfl).trans f30)
          have h34 : ρ (.tmp 34) = _ := (congrFun hρ _).trans ((evalHit hA 34 rfl).trans f34)
          simp [relUpon, go_sem, Ext.refl, h30, h34, hp2]
          rfl
        apply relPlan_eq'
        · intro V w' hx hf
          with_reducible refine relAt_ops ?_
          intro A ρ hA hρ hcst hfun
          have h6 : ρ (.tmp 6) = .string ⟨#[48, 49, 48, 49, 48, 49]⟩ := (congrFun hρ _).trans (evalMiss hA 6 rfl)
          exact relUpon_move (hk := by rw [h6]; exact ⟨Ext.refl _, rfl⟩)
        refine relPlan_by (fun v w => Own 4 w 0 v (Ea.eE.map encT)) (fun _ _ _ h hx => h.ext hx) ?_ ?_
        · intro V w' hx hf
          with_reducible refine relAt_ops ?_
          intro A ρ hA hρ hcst hfun
          obtain ⟨f36, _⟩ := hf
          have h36 : ρ (.tmp 36) = _ := (congrFun hρ _).trans ((evalHit hA 36 rfl).trans f36)
          simp [relUpon, go_sem, hfun, h36]
          exact (HMS.out w').mono fun e w'' ⟨v, he, ho, hy⟩ => ⟨v, he, hy, ho.mono (Nat.zero_le _)⟩
        refine relPlan_by (eqv (.bool true)) (eqv_stable _) ?_ ?_
        · intro V w' hx hf
          with_reducible refine relAt_ops ?_
          intro A ρ hA hρ hcst hfun
          obtain ⟨f35, f37, _⟩ := hf
          have h35 : ρ (.tmp 35) = _ := (congrFun hρ _).trans ((evalHit hA 35 rfl).trans f35)
          have h37 : ρ (.tmp 37) = V 37 := (congrFun hρ _).trans (evalHit hA 37 rfl)
          simp [relUpon, go_sem, hfun, h35, h37]
          exact (HE2.out w' _ _ (HW.out.trans hx) f37).mono fun e w'' ⟨he, hy⟩ => ⟨_, he, hy, rfl⟩
        intro V wT hxT hf
        obtain ⟨g30, g31, g32, g33, g34, g35, g36, g37, g38, _⟩ := hf
        simp only [fillA, List.foldl_cons, List.foldl_nil, Act.put, List.setIfInBounds_toArray, List.set_cons_succ, List.set_cons_zero]
        have q38 : V 38 = _ := g38
        rw [q38]
        have HW2 := Lib.hid (HW.out.trans hxT)
        refine wpAny_solo 9 (by kernel_rfl) rfl (fun K hK => ?_)
        go_simp
        refine hK _ _ ?_
        clear hK K
        refine ⟨rfl, ?_⟩
        clear HW
        have HW := HW2
        clear HW2
        go_wp2_with fail
        refine (HRL.out _ HW.out).mono ?_
        rintro e w5 ⟨rfl, hx5⟩
        have HW2 := Lib.hid (HW.out.trans hx5)
        clear HW hx5
        have HW := HW2
        clear HW2
        go_wp2_with fail
        refine (HFE.out _).mono ?_
        rintro e w5 ⟨rfl, hx5⟩
        have HW2 := Lib.hid (HW.out.trans hx5)
        clear HW hx5
        have HW := HW2
        clear HW2
        go_wp2_with fail
        go_wp2
        go_ret3
        exact ⟨by rw [HG.out]; rfl, HW.out⟩
      | some q =>
        obtain ⟨l, u⟩ := q
        obtain ⟨hLl, hUl⟩ := HL1.out l u rfl
        obtain ⟨f1, f2, f3, f4⟩ := HLF.out l u rfl
        rw [show (some (l, u) : Option (List UInt8 × List Nat)).isNone = false from rfl] at hLe
        have HFE := Lib.hid (fun w => xfindE_any U u hUl (fun x hx => by have := f4 x hx; omega) w)
        have HX2 := Lib.hid HX.out
        dsimp only at HX2
        clear HX HL1 HL0 HLF
        have HTX := Lib.hid (And.intro hLl f1)
        clear hUl hLl f1 f2 f3 f4
        cases hfd : Ea.findE u with
        | none =>
          rw [hfd] at HX2 HFE
          have HG : Hid (res = ((0, []), 18)) := Lib.hid (by rw [← HX2.out]; rfl)
          rw [show noE none = .tuple #[.int .i64 (-1), .int .i64 (-1)] from rfl] at HFE
          clear HX2 hfd
          go_enter Tryz.func79, Tryz.ntmps79
          go_wp2_with fail
          refine wp_region_rel 4 1 rfl [25, 26, 27, 28] [[], [0], [], [1, 2]] (by kernel_rfl) (by kernel_rfl) ?_
          apply relPlan_eq'
          · intro V w' hx hf
            with_reducible refine relAt_ops ?_
            intro A ρ hA hρ hcst hfun
            have h0 : ρ (.tmp 0) = .slice a m.length c := (congrFun hρ _).trans (evalMiss hA 0 rfl)
            exact relUpon_move (hk := by rw [h0]; exact ⟨Ext.refl _, rfl⟩)
          apply relPlan_eq'
          · intro V w' hx hf
            with_reducible refine relAt_ops ?_
            intro A ρ hA hρ hcst hfun
            obtain ⟨f25, _⟩ := hf
            have h25 : ρ (.tmp 25) = _ := (congrFun hρ _).trans ((evalHit hA 25 rfl).trans f25)
            simp [relUpon, go_sem, hcst, Ext.refl, h25, hp1]
            rfl
          refine relPlan_by (fun v w => Own 4 w 0 v (Ea.gd.map encT)) (fun _ _ _ h hx => h.ext hx) ?_ ?_
          · intro V w' hx hf
            with_reducible refine relAt_ops ?_
            intro A ρ hA hρ hcst hfun
            simp [relUpon, go_sem, hcst, hfun]
            exact (HMG.out w').mono fun e w'' ⟨v, he, ho, hy⟩ => ⟨v, he, hy, ho.mono (Nat.zero_le _)⟩
          refine relPlan_by (eqv (.bool true)) (eqv_stable _) ?_ ?_
          · intro V w' hx hf
            with_reducible refine relAt_ops ?_
            intro A ρ hA hρ hcst hfun
            obtain ⟨f26, f27, _⟩ := hf
            have h26 : ρ (.tmp 26) = _ := (congrFun hρ _).trans ((evalHit hA 26 rfl).trans f26)
            have h27 : ρ (.tmp 27) = V 27 := (congrFun hρ _).trans (evalHit hA 27 rfl)
            simp [relUpon, go_sem, hfun, h26, h27]
            exact (HE1.out w' _ _ (HW.out.trans hx) f27).mono fun e w'' ⟨he, hy⟩ => ⟨_, he, hy, rfl⟩
          intro V wT hxT hf
          obtain ⟨g25, g26, g27, g28, _⟩ := hf
          simp only [fillA, List.foldl_cons, List.foldl_nil, Act.put, List.setIfInBounds_toArray, List.set_cons_succ, List.set_cons_zero]
          have q28 : V 28 = _ := g28
          rw [q28]
          have HW2 := Lib.hid (HW.out.trans hxT)
          refine wpAny_solo 4 (by kernel_rfl) rfl (fun K hK => ?_)
          go_simp
          refine hK _ _ ?_
          clear hK K
          refine ⟨rfl, ?_⟩
          clear HW
          have HW := HW2
          clear HW2
          go_wp2_with fail
          refine wp_region_rel 9 1 rfl [30, 31, 32, 33, 34, 35, 36, 37, 38] [[], [], [], [2], [1, 3], [0, 4], [], [6], [5, 7]] (by kernel_rfl) (by kernel_rfl) ?_
          apply relPlan_eq'
          · intro V w' hx hf
            with_reducible refine relAt_ops ?_
            intro A ρ hA hρ hcst hfun
            have h0 : ρ (.tmp 0) = .slice a m.length c := (congrFun hρ _).trans (evalMiss hA 0 rfl)
            exact relUpon_move (hk := by rw [h0]; exact ⟨Ext.refl _, rfl⟩)
          apply relPlan_eq'
          · intro V w' hx hf
            with_reducible refine relAt_ops ?_
            intro A ρ hA hρ hcst hfun
            have h5 : ρ (.tmp 5) = .int .i64 (m.length : Int) := (congrFun hρ _).trans (evalMiss hA 5 rfl)
            exact relUpon_move (hk := by rw [h5]; exact ⟨Ext.refl _, rfl⟩)
          apply relPlan_eq'
          · intro V w' hx hf
            with_reducible refine relAt_ops ?_
            intro A ρ hA hρ hcst hfun
            have h6 : ρ (.tmp 6) = .string ⟨#[48, 49, 48, 49, 48, 49]⟩ := (congrFun hρ _).trans (evalMiss hA 6 rfl)
            exact relUpon_move (hk := by rw [h6]; exact ⟨Ext.refl _, rfl⟩)
          apply relPlan_eq'
          · intro V w' hx hf
            with_reducible refine relAt_ops ?_
            intro A ρ hA hρ hcst hfun
            obtain ⟨f32, _⟩ := hf
            have h32 : ρ (.tmp 32) = _ := (congrFun hρ _).trans ((evalHit hA 32 rfl).trans f32)
            simp [relUpon, go_sem, Ext.refl, h32]
            rfl
          apply relPlan_eq'
          · intro V w' hx hf
            with_reducible refine relAt_ops ?_
            intro A ρ hA hρ hcst hfun
            obtain ⟨f31, f33, _⟩ := hf
            have h31 : ρ (.tmp 31) = _ := (congrFun hρ _).trans ((evalHit hA 31 rfl).trans f31)
            have h33 : ρ (.tmp 33) = _ := (congrFun hρ _).trans ((evalHit hA 33 rfl).trans f33)
            simp [relUpon, go_sem, Ext.refl, h31, h33, e92, w92]
            rfl
          apply relPlan_eq'
          · intro V w' hx hf
            with_reducible refine relAt_ops ?_
            intro A ρ hA hρ hcst hfun
            obtain ⟨f30, f34, _⟩ := hf
            have h30 : ρ (.tmp 30) = _ := (congrFun hρ _).trans ((evalHit hA 30 rfl).trans f30)
            have h34 : ρ (.tmp 34) = _ := (congrFun hρ _).trans ((evalHit hA 34 rfl).trans f34)
            simp [relUpon, go_sem, Ext.refl, h30, h34, hp2]
            rfl
          apply relPlan_eq'
          · intro V w' hx hf
            with_reducible refine relAt_ops ?_
            intro A ρ hA hρ hcst hfun
            have h6 : ρ (.tmp 6) = .string ⟨#[48, 49, 48, 49, 48, 49]⟩ := (congrFun hρ _).trans (evalMiss hA 6 rfl)
            exact relUpon_move (hk := by rw [h6]; exact ⟨Ext.refl _, rfl⟩)
          refine relPlan_by (fun v w => Own 4 w 0 v (Ea.eE.map encT)) (fun _ _ _ h hx => h.ext hx) ?_ ?_
          · intro V w' hx hf
            with_reducible refine relAt_ops ?_
            intro A ρ hA hρ hcst hfun
            obtain ⟨f36, _⟩ := hf
            have h36 : ρ (.tmp 36) = _ := (congrFun hρ _).trans ((evalHit hA 36 rfl).trans f36)
            simp [relUpon, go_sem, hfun, h36]
            exact (HMS.out w').mono fun e w'' ⟨v, he, ho, hy⟩ => ⟨v, he, hy, ho.mono (Nat.zero_le _)⟩
          refine relPlan_by (eqv (.bool true)) (eqv_stable _) ?_ ?_
          · intro V w' hx hf
            with_reducible refine relAt_ops ?_
            intro A ρ hA hρ hcst hfun
            obtain ⟨f35, f37, _⟩ := hf
            have h35 : ρ (.tmp 35) = _ := (congrFun hρ _).trans ((evalHit hA 35 rfl).trans f35)
            have h37 : ρ (.tmp 37) = V 37 := (congrFun hρ _).trans (evalHit hA 37 rfl)
            simp [relUpon, go_sem, hfun, h35, h37]
            exact (HE2.out w' _ _ (HW.out.trans hx) f37).mono fun e w'' ⟨he, hy⟩ => ⟨_, he, hy, rfl⟩
          intro V wT hxT hf
          obtain ⟨g30, g31, g32, g33, g34, g35, g36, g37, g38, _⟩ := hf
          simp only [fillA, List.foldl_cons, List.foldl_nil, Act.put, List.setIfInBounds_toArray, List.set_cons_succ, List.set_cons_zero]
          have q38 : V 38 = _ := g38
          rw [q38]
          have HW2 := Lib.hid (HW.out.trans hxT)
          refine wpAny_solo 9 (by kernel_rfl) rfl (fun K hK => ?_)
          go_simp
          refine hK _ _ ?_
          clear hK K
          refine ⟨rfl, ?_⟩
          clear HW
          have HW := HW2
          clear HW2
          go_wp2_with fail
          refine (HRL.out _ HW.out).mono ?_
          rintro e w5 ⟨rfl, hx5⟩
          have HW2 := Lib.hid (HW.out.trans hx5)
          clear HW hx5
          have HW := HW2
          clear HW2
          go_wp2_with fail
          refine (HFE.out _).mono ?_
          rintro e w5 ⟨rfl, hx5⟩
          have HW2 := Lib.hid (HW.out.trans hx5)
          clear HW hx5
          have HW := HW2
          clear HW2
          go_wp2_with fail
          go_wp2
          go_ret3
          exact ⟨by rw [HG.out]; rfl, HW.out⟩
        | some yc =>
          obtain ⟨y, c2⟩ := yc
          have hyc := Ea.findE_some hfd
          rw [hfd] at HX2 HFE
          rw [show noE (some (y, c2)) = .tuple #[.int .i64 (y : Int), .int .i64 (c2 : Int)] from rfl] at HFE
          have HDA := Lib.hid (fun w => xdigit_any y (by omega) w)
          have HDB := Lib.hid (fun w => xdigit_any c2 (by omega) w)
          have d0 : decide ((y : Int) < 0) = false := decide_eq_false (by omega)
          obtain ⟨DA, hDA⟩ : ∃ DG, Ea.bS [Ea.chr y] = DG := ⟨_, rfl⟩
          obtain ⟨DB, hDB⟩ : ∃ DG, Ea.bS [Ea.chr c2] = DG := ⟨_, rfl⟩
          have hDs : DA.size ≤ 1 := by rw [← hDA]; exact Nat.le_refl _
          have hDs2 : DB.size ≤ 1 := by rw [← hDB]; exact Nat.le_refl _
          rw [hDA] at HDA
          rw [hDB] at HDB
          obtain ⟨T, hT⟩ : ∃ T, DA ++ L ++ DB = T := ⟨_, rfl⟩
          have HTL : Hid (T.data.toList = Ea.chr y :: (l ++ [Ea.chr c2])) := Lib.hid (by rw [← hT, ← hDA, ← hDB]; simp only [ByteArray.data_append, Array.toList_append, HTX.out.1, Ea.bS_list]; simp)
          have hTz : T.size = 8 := by rw [size_of_toList HTL.out]; simp [HTX.out.2]
          dsimp only [Option.map] at HX2
          obtain ⟨tl, htl⟩ : ∃ tl, Ea.chr y :: (l ++ [Ea.chr c2]) = tl := ⟨_, rfl⟩
          rw [htl] at HX2 HTL
          have HT := Lib.hid hT
          clear htl hDA hDB hfd HTX hT hyc
          have HFU := Lib.hid (fun w => xfull_any 4 T (by omega) w)
          rw [HTL.out] at HFU
          obtain ⟨fe, hfe⟩ : ∃ fe, Ea.full 4 tl = fe := ⟨_, rfl⟩
          rw [hfe] at HFU HX2
          have hTl : 8 ≤ T.size := by omega
          have hTu : T.size ≤ 8 := by omega
          clear hfe hTz
          by_cases hf0 : fe = 0
          · rw [if_neg (fun h => h hf0)] at HX2
            have hfb : (fe != 0) = false := by rw [hf0]; rfl
            clear hf0
            have HG : Hid (res = ((4, tl), 0)) := Lib.hid (by rw [← HX2.out, if_neg (fun h => absurd h.1 (by decide))])
            have HE : Hid (T = Ea.bS tl) := Lib.hid (by rw [← HTL.out, Ea.bS_of])
            clear HX2
            go_enter Tryz.func79, Tryz.ntmps79
            go_wp2_with fail
            refine wp_region_rel 4 1 rfl [25, 26, 27, 28] [[], [0], [], [1, 2]] (by kernel_rfl) (by kernel_rfl) ?_
            apply relPlan_eq'
            · intro V w' hx hf
              with_reducible refine relAt_ops ?_
              intro A ρ hA hρ hcst hfun
              have h0 : ρ (.tmp 0) = .slice a m.length c := (congrFun hρ _).trans (evalMiss hA 0 rfl)
              exact relUpon_move (hk := by rw [h0]; exact ⟨Ext.refl _, rfl⟩)
            apply relPlan_eq'
            · intro V w' hx hf
              with_reducible refine relAt_ops ?_
              intro A ρ hA hρ hcst hfun
              obtain ⟨f25, _⟩ := hf
              have h25 : ρ (.tmp 25) = _ := (congrFun hρ _).trans ((evalHit hA 25 rfl).trans f25)
              simp [relUpon, go_sem, hcst, Ext.refl, h25, hp1]
              rfl
            refine relPlan_by (fun v w => Own 4 w 0 v (Ea.gd.map encT)) (fun _ _ _ h hx => h.ext hx) ?_ ?_
            · intro V w' hx hf
              with_reducible refine relAt_ops ?_
              intro A ρ hA hρ hcst hfun
              simp [relUpon, go_sem, hcst, hfun]
              exact (HMG.out w').mono fun e w'' ⟨v, he, ho, hy⟩ => ⟨v, he, hy, ho.mono (Nat.zero_le _)⟩
            refine relPlan_by (eqv (.bool true)) (eqv_stable _) ?_ ?_
            · intro V w' hx hf
              with_reducible refine relAt_ops ?_
              intro A ρ hA hρ hcst hfun
              obtain ⟨f26, f27, _⟩ := hf
              have h26 : ρ (.tmp 26) = _ := (congrFun hρ _).trans ((evalHit hA 26 rfl).trans f26)
              have h27 : ρ (.tmp 27) = V 27 := (congrFun hρ _).trans (evalHit hA 27 rfl)
              simp [relUpon, go_sem, hfun, h26, h27]
              exact (HE1.out w' _ _ (HW.out.trans hx) f27).mono fun e w'' ⟨he, hy⟩ => ⟨_, he, hy, rfl⟩
            intro V wT hxT hf
            obtain ⟨g25, g26, g27, g28, _⟩ := hf
            simp only [fillA, List.foldl_cons, List.foldl_nil, Act.put, List.setIfInBounds_toArray, List.set_cons_succ, List.set_cons_zero]
            have q28 : V 28 = _ := g28
            rw [q28]
            have HW2 := Lib.hid (HW.out.trans hxT)
            refine wpAny_solo 4 (by kernel_rfl) rfl (fun K hK => ?_)
            go_simp
            refine hK _ _ ?_
            clear hK K
            refine ⟨rfl, ?_⟩
            clear HW
            have HW := HW2
            clear HW2
            go_wp2_with fail
            refine wp_region_rel 9 1 rfl [30, 31, 32, 33, 34, 35, 36, 37, 38] [[], [], [], [2], [1, 3], [0, 4], [], [6], [5, 7]] (by kernel_rfl) (by kernel_rfl) ?_
            apply relPlan_eq'
            · intro V w' hx hf
              with_reducible refine relAt_ops ?_
              intro A ρ hA hρ hcst hfun
              have h0 : ρ (.tmp 0) = .slice a m.length c := (congrFun hρ _).trans (evalMiss hA 0 rfl)
              exact relUpon_move (hk := by rw [h0]; exact ⟨Ext.refl _, rfl⟩)
            apply relPlan_eq'
            · intro V w' hx hf
              with_reducible refine relAt_ops ?_
              intro A ρ hA hρ hcst hfun
              have h5 : ρ (.tmp 5) = .int .i64 (m.length : Int) := (congrFun hρ _).trans (evalMiss hA 5 rfl)
              exact relUpon_move (hk := by rw [h5]; exact ⟨Ext.refl _, rfl⟩)
            apply relPlan_eq'
            · intro V w' hx hf
              with_reducible refine relAt_ops ?_
              intro A ρ hA hρ hcst hfun
              have h6 : ρ (.tmp 6) = .string ⟨#[48, 49, 48, 49, 48, 49]⟩ := (congrFun hρ _).trans (evalMiss hA 6 rfl)
              exact relUpon_move (hk := by rw [h6]; exact ⟨Ext.refl _, rfl⟩)
            apply relPlan_eq'
            · intro V w' hx hf
              with_reducible refine relAt_ops ?_
              intro A ρ hA hρ hcst hfun
              obtain ⟨f32, _⟩ := hf
              have h32 : ρ (.tmp 32) = _ := (congrFun hρ _).trans ((evalHit hA 32 rfl).trans f32)
              simp [relUpon, go_sem, Ext.refl, h32]
              rfl
            apply relPlan_eq'
            · intro V w' hx hf
              with_reducible refine relAt_ops ?_
              intro A ρ hA hρ hcst hfun
              obtain ⟨f31, f33, _⟩ := hf
              have h31 : ρ (.tmp 31) = _ := (congrFun hρ _).trans ((evalHit hA 31 rfl).trans f31)
              have h33 : ρ (.tmp 33) = _ := (congrFun hρ _).trans ((evalHit hA 33 rfl).trans f33)
              simp [relUpon, go_sem, Ext.refl, h31, h33, e92, w92]
              rfl
            apply relPlan_eq'
            · intro V w' hx hf
              with_reducible refine relAt_ops ?_
              intro A ρ hA hρ hcst hfun
              obtain ⟨f30, f34, _⟩ := hf
              have h30 : ρ (.tmp 30) = _ := (congrFun hρ _).trans ((evalHit hA 30 rfl).trans f30)
              have h34 : ρ (.tmp 34) = _ := (congrFun hρ _).trans ((evalHit hA 34 rfl).trans f34)
              simp [relUpon, go_sem, Ext.refl, h30, h34, hp2]
              rfl
            apply relPlan_eq'
            · intro V w' hx hf
              with_reducible refine relAt_ops ?_
              intro A ρ hA hρ hcst hfun
              have h6 : ρ (.tmp 6) = .string ⟨#[48, 49, 48, 49, 48, 49]⟩ := (congrFun hρ _).trans (evalMiss hA 6 rfl)
              exact relUpon_move (hk := by rw [h6]; exact ⟨Ext.refl _, rfl⟩)
            refine relPlan_by (fun v w => Own 4 w 0 v (Ea.eE.map encT)) (fun _ _ _ h hx => h.ext hx) ?_ ?_
            · intro V w' hx hf
              with_reducible refine relAt_ops ?_
              intro A ρ hA hρ hcst hfun
              obtain ⟨f36, _⟩ := hf
              have h36 : ρ (.tmp 36) = _ := (congrFun hρ _).trans ((evalHit hA 36 rfl).trans f36)
              simp [relUpon, go_sem, hfun, h36]
              exact (HMS.out w').mono fun e w'' ⟨v, he, ho, hy⟩ => ⟨v, he, hy, ho.mono (Nat.zero_le _)⟩
            refine relPlan_by (eqv (.bool true)) (eqv_stable _) ?_ ?_
            · intro V w' hx hf
              with_reducible refine relAt_ops ?_
              intro A ρ hA hρ hcst hfun
              obtain ⟨f35, f37, _⟩ := hf
              have h35 : ρ (.tmp 35) = _ := (congrFun hρ _).trans ((evalHit hA 35 rfl).trans f35)
              have h37 : ρ (.tmp 37) = V 37 := (congrFun hρ _).trans (evalHit hA 37 rfl)
              simp [relUpon, go_sem, hfun, h35, h37]
              exact (HE2.out w' _ _ (HW.out.trans hx) f37).mono fun e w'' ⟨he, hy⟩ => ⟨_, he, hy, rfl⟩
            intro V wT hxT hf
            obtain ⟨g30, g31, g32, g33, g34, g35, g36, g37, g38, _⟩ := hf
            simp only [fillA, List.foldl_cons, List.foldl_nil, Act.put, List.setIfInBounds_toArray, List.set_cons_succ, List.set_cons_zero]
            have q38 : V 38 = _ := g38
            rw [q38]
            have HW2 := Lib.hid (HW.out.trans hxT)
            refine wpAny_solo 9 (by kernel_rfl) rfl (fun K hK => ?_)
            go_simp
            refine hK _ _ ?_
            clear hK K
            refine ⟨rfl, ?_⟩
            clear HW
            have HW := HW2
            clear HW2
            go_wp2_with fail
            refine (HRL.out _ HW.out).mono ?_
            rintro e w5 ⟨rfl, hx5⟩
            have HW2 := Lib.hid (HW.out.trans hx5)
            clear HW hx5
            have HW := HW2
            clear HW2
            go_wp2_with fail
            refine (HFE.out _).mono ?_
            rintro e w5 ⟨rfl, hx5⟩
            have HW2 := Lib.hid (HW.out.trans hx5)
            clear HW hx5
            have HW := HW2
            clear HW2
            go_wp2_with fail
            refine (HDA.out _).mono ?_
            rintro e w7 ⟨rfl, hx7⟩
            go_wp2_with fail
            refine (HDB.out _).mono ?_
            rintro e w8 ⟨rfl, hx8⟩
            have HW2 := Lib.hid (HW.out.trans (hx7.trans hx8))
            clear HW hx7 hx8
            have HW := HW2
            clear HW2
            go_wp2_with fail
            rw [HT.out]
            refine (HFU.out _).mono ?_
            rintro e w9 ⟨rfl, hx9⟩
            have HW2 := Lib.hid (HW.out.trans hx9)
            clear HW hx9
            have HW := HW2
            clear HW2
            go_wp2
            go_ret3
            exact ⟨by rw [HG.out]; unfold xsymV; dsimp only; rw [← HE.out]; rfl, HW.out⟩
          · rw [if_pos hf0] at HX2
            have HG : Hid (res = ((0, []), 8)) := Lib.hid (HX2.out.symm)
            have hfb : (fe != 0) = true := bne_iff_ne.2 hf0
            clear hf0 HX2
            go_enter Tryz.func79, Tryz.ntmps79
            go_wp2_with fail
            refine wp_region_rel 4 1 rfl [25, 26, 27, 28] [[], [0], [], [1, 2]] (by kernel_rfl) (by kernel_rfl) ?_
            apply relPlan_eq'
            · intro V w' hx hf
              with_reducible refine relAt_ops ?_
              intro A ρ hA hρ hcst hfun
              have h0 : ρ (.tmp 0) = .slice a m.length c := (congrFun hρ _).trans (evalMiss hA 0 rfl)
              exact relUpon_move (hk := by rw [h0]; exact ⟨Ext.refl _, rfl⟩)
            apply relPlan_eq'
            · intro V w' hx hf
              with_reducible refine relAt_ops ?_
              intro A ρ hA hρ hcst hfun
              obtain ⟨f25, _⟩ := hf
              have h25 : ρ (.tmp 25) = _ := (congrFun hρ _).trans ((evalHit hA 25 rfl).trans f25)
              simp [relUpon, go_sem, hcst, Ext.refl, h25, hp1]
              rfl
            refine relPlan_by (fun v w => Own 4 w 0 v (Ea.gd.map encT)) (fun _ _ _ h hx => h.ext hx) ?_ ?_
            · intro V w' hx hf
              with_reducible refine relAt_ops ?_
              intro A ρ hA hρ hcst hfun
              simp [relUpon, go_sem, hcst, hfun]
              exact (HMG.out w').mono fun e w'' ⟨v, he, ho, hy⟩ => ⟨v, he, hy, ho.mono (Nat.zero_le _)⟩
            refine relPlan_by (eqv (.bool true)) (eqv_stable _) ?_ ?_
            · intro V w' hx hf
              with_reducible refine relAt_ops ?_
              intro A ρ hA hρ hcst hfun
              obtain ⟨f26, f27, _⟩ := hf
              have h26 : ρ (.tmp 26) = _ := (congrFun hρ _).trans ((evalHit hA 26 rfl).trans f26)
              have h27 : ρ (.tmp 27) = V 27 := (congrFun hρ _).trans (evalHit hA 27 rfl)
              simp [relUpon, go_sem, hfun, h26, h27]
              exact (HE1.out w' _ _ (HW.out.trans hx) f27).mono fun e w'' ⟨he, hy⟩ => ⟨_, he, hy, rfl⟩
            intro V wT hxT hf
            obtain ⟨g25, g26, g27, g28, _⟩ := hf
            simp only [fillA, List.foldl_cons, List.foldl_nil, Act.put, List.setIfInBounds_toArray, List.set_cons_succ, List.set_cons_zero]
            have q28 : V 28 = _ := g28
            rw [q28]
            have HW2 := Lib.hid (HW.out.trans hxT)
            refine wpAny_solo 4 (by kernel_rfl) rfl (fun K hK => ?_)
            go_simp
            refine hK _ _ ?_
            clear hK K
            refine ⟨rfl, ?_⟩
            clear HW
            have HW := HW2
            clear HW2
            go_wp2_with fail
            refine wp_region_rel 9 1 rfl [30, 31, 32, 33, 34, 35, 36, 37, 38] [[], [], [], [2], [1, 3], [0, 4], [], [6], [5, 7]] (by kernel_rfl) (by kernel_rfl) ?_
            apply relPlan_eq'
            · intro V w' hx hf
              with_reducible refine relAt_ops ?_
              intro A ρ hA hρ hcst hfun
              have h0 : ρ (.tmp 0) = .slice a m.length c := (congrFun hρ _).trans (evalMiss hA 0 rfl)
              exact relUpon_move (hk := by rw [h0]; exact ⟨Ext.refl _, rfl⟩)
            apply relPlan_eq'
            · intro V w' hx hf
              with_reducible refine relAt_ops ?_
              intro A ρ hA hρ hcst hfun
              have h5 : ρ (.tmp 5) = .int .i64 (m.length : Int) := (congrFun hρ _).trans (evalMiss hA 5 rfl)
              exact relUpon_move (hk := by rw [h5]; exact ⟨Ext.refl _, rfl⟩)
            apply relPlan_eq'
            · intro V w' hx hf
              with_reducible refine relAt_ops ?_
              intro A ρ hA hρ hcst hfun
              have h6 : ρ (.tmp 6) = .string ⟨#[48, 49, 48, 49, 48, 49]⟩ := (congrFun hρ _).trans (evalMiss hA 6 rfl)
              exact relUpon_move (hk := by rw [h6]; exact ⟨Ext.refl _, rfl⟩)
            apply relPlan_eq'
            · intro V w' hx hf
              with_reducible refine relAt_ops ?_
              intro A ρ hA hρ hcst hfun
              obtain ⟨f32, _⟩ := hf
              have h32 : ρ (.tmp 32) = _ := (congrFun hρ _).trans ((evalHit hA 32 rfl).trans f32)
              simp [relUpon, go_sem, Ext.refl, h32]
              rfl
            apply relPlan_eq'
            · intro V w' hx hf
              with_reducible refine relAt_ops ?_
              intro A ρ hA hρ hcst hfun
              obtain ⟨f31, f33, _⟩ := hf
              have h31 : ρ (.tmp 31) = _ := (congrFun hρ _).trans ((evalHit hA 31 rfl).trans f31)
              have h33 : ρ (.tmp 33) = _ := (congrFun hρ _).trans ((evalHit hA 33 rfl).trans f33)
              simp [relUpon, go_sem, Ext.refl, h31, h33, e92, w92]
              rfl
            apply relPlan_eq'
            · intro V w' hx hf
              with_reducible refine relAt_ops ?_
              intro A ρ hA hρ hcst hfun
              obtain ⟨f30, f34, _⟩ := hf
              have h30 : ρ (.tmp 30) = _ := (congrFun hρ _).trans ((evalHit hA 30 rfl).trans f30)
              have h34 : ρ (.tmp 34) = _ := (congrFun hρ _).trans ((evalHit hA 34 rfl).trans f34)
              simp [relUpon, go_sem, Ext.refl, h30, h34, hp2]
              rfl
            apply relPlan_eq'
            · intro V w' hx hf
              with_reducible refine relAt_ops ?_
              intro A ρ hA hρ hcst hfun
              have h6 : ρ (.tmp 6) = .string ⟨#[48, 49, 48, 49, 48, 49]⟩ := (congrFun hρ _).trans (evalMiss hA 6 rfl)
              exact relUpon_move (hk := by rw [h6]; exact ⟨Ext.refl _, rfl⟩)
            refine relPlan_by (fun v w => Own 4 w 0 v (Ea.eE.map encT)) (fun _ _ _ h hx => h.ext hx) ?_ ?_
            · intro V w' hx hf
              with_reducible refine relAt_ops ?_
              intro A ρ hA hρ hcst hfun
              obtain ⟨f36, _⟩ := hf
              have h36 : ρ (.tmp 36) = _ := (congrFun hρ _).trans ((evalHit hA 36 rfl).trans f36)
              simp [relUpon, go_sem, hfun, h36]
              exact (HMS.out w').mono fun e w'' ⟨v, he, ho, hy⟩ => ⟨v, he, hy, ho.mono (Nat.zero_le _)⟩
            refine relPlan_by (eqv (.bool true)) (eqv_stable _) ?_ ?_
            · intro V w' hx hf
              with_reducible refine relAt_ops ?_
              intro A ρ hA hρ hcst hfun
              obtain ⟨f35, f37, _⟩ := hf
              have h35 : ρ (.tmp 35) = _ := (congrFun hρ _).trans ((evalHit hA 35 rfl).trans f35)
              have h37 : ρ (.tmp 37) = V 37 := (congrFun hρ _).trans (evalHit hA 37 rfl)
              simp [relUpon, go_sem, hfun, h35, h37]
              exact (HE2.out w' _ _ (HW.out.trans hx) f37).mono fun e w'' ⟨he, hy⟩ => ⟨_, he, hy, rfl⟩
            intro V wT hxT hf
            obtain ⟨g30, g31, g32, g33, g34, g35, g36, g37, g38, _⟩ := hf
            simp only [fillA, List.foldl_cons, List.foldl_nil, Act.put, List.setIfInBounds_toArray, List.set_cons_succ, List.set_cons_zero]
            have q38 : V 38 = _ := g38
            rw [q38]
            have HW2 := Lib.hid (HW.out.trans hxT)
            refine wpAny_solo 9 (by kernel_rfl) rfl (fun K hK => ?_)
            go_simp
            refine hK _ _ ?_
            clear hK K
            refine ⟨rfl, ?_⟩
            clear HW
            have HW := HW2
            clear HW2
            go_wp2_with fail
            refine (HRL.out _ HW.out).mono ?_
            rintro e w5 ⟨rfl, hx5⟩
            have HW2 := Lib.hid (HW.out.trans hx5)
            clear HW hx5
            have HW := HW2
            clear HW2
            go_wp2_with fail
            refine (HFE.out _).mono ?_
            rintro e w5 ⟨rfl, hx5⟩
            have HW2 := Lib.hid (HW.out.trans hx5)
            clear HW hx5
            have HW := HW2
            clear HW2
            go_wp2_with fail
            refine (HDA.out _).mono ?_
            rintro e w7 ⟨rfl, hx7⟩
            go_wp2_with fail
            refine (HDB.out _).mono ?_
            rintro e w8 ⟨rfl, hx8⟩
            have HW2 := Lib.hid (HW.out.trans (hx7.trans hx8))
            clear HW hx7 hx8
            have HW := HW2
            clear HW2
            go_wp2_with fail
            rw [HT.out]
            refine (HFU.out _).mono ?_
            rintro e w9 ⟨rfl, hx9⟩
            have HW2 := Lib.hid (HW.out.trans hx9)
            clear HW hx9
            have HW := HW2
            clear HW2
            go_wp2
            go_ret3
            exact ⟨by rw [HG.out]; rfl, HW.out⟩
    · rw [if_pos g2] at HX
      rw [decide_eq_false g2] at HE2
      clear g1 g2
      go_enter Tryz.func79, Tryz.ntmps79
      go_wp2_with fail
      refine wp_region_rel 4 1 rfl [25, 26, 27, 28] [[], [0], [], [1, 2]] (by kernel_rfl) (by kernel_rfl) ?_
      apply relPlan_eq'
      · intro V w' hx hf
        with_reducible refine relAt_ops ?_
        intro A ρ hA hρ hcst hfun
        have h0 : ρ (.tmp 0) = .slice a m.length c := (congrFun hρ _).trans (evalMiss hA 0 rfl)
        exact relUpon_move (hk := by rw [h0]; exact ⟨Ext.refl _, rfl⟩)
      apply relPlan_eq'
      · intro V w' hx hf
        with_reducible refine relAt_ops ?_
        intro A ρ hA hρ hcst hfun
        obtain ⟨f25, _⟩ := hf
        have h25 : ρ (.tmp 25) = _ := (congrFun hρ _).trans ((evalHit hA 25 rfl).trans f25)
        simp [relUpon, go_sem, hcst, Ext.refl, h25, hp1]
        rfl
      refine relPlan_by (fun v w => Own 4 w 0 v (Ea.gd.map encT)) (fun _ _ _ h hx => h.ext hx) ?_ ?_
      · intro V w' hx hf
        with_reducible refine relAt_ops ?_
        intro A ρ hA hρ hcst hfun
        simp [relUpon, go_sem, hcst, hfun]
        exact (HMG.out w').mono fun e w'' ⟨v, he, ho, hy⟩ => ⟨v, he, hy, ho.mono (Nat.zero_le _)⟩
      refine relPlan_by (eqv (.bool true)) (eqv_stable _) ?_ ?_
      · intro V w' hx hf
        with_reducible refine relAt_ops ?_
        intro A ρ hA hρ hcst hfun
        obtain ⟨f26, f27, _⟩ := hf
        have h26 : ρ (.tmp 26) = _ := (congrFun hρ _).trans ((evalHit hA 26 rfl).trans f26)
        have h27 : ρ (.tmp 27) = V 27 := (congrFun hρ _).trans (evalHit hA 27 rfl)
        simp [relUpon, go_sem, hfun, h26, h27]
        exact (HE1.out w' _ _ (HW.out.trans hx) f27).mono fun e w'' ⟨he, hy⟩ => ⟨_, he, hy, rfl⟩
      intro V wT hxT hf
      obtain ⟨g25, g26, g27, g28, _⟩ := hf
      simp only [fillA, List.foldl_cons, List.foldl_nil, Act.put, List.setIfInBounds_toArray, List.set_cons_succ, List.set_cons_zero]
      have q28 : V 28 = _ := g28
      rw [q28]
      have HW2 := Lib.hid (HW.out.trans hxT)
      refine wpAny_solo 4 (by kernel_rfl) rfl (fun K hK => ?_)
      go_simp
      refine hK _ _ ?_
      clear hK K
      refine ⟨rfl, ?_⟩
      clear HW
      have HW := HW2
      clear HW2
      go_wp2_with fail
      refine wp_region_rel 9 1 rfl [30, 31, 32, 33, 34, 35, 36, 37, 38] [[], [], [], [2], [1, 3], [0, 4], [], [6], [5, 7]] (by kernel_rfl) (by kernel_rfl) ?_
      apply relPlan_eq'
      · intro V w' hx hf
        with_reducible refine relAt_ops ?_
        intro A ρ hA hρ hcst hfun
        have h0 : ρ (.tmp 0) = .slice a m.length c := (congrFun hρ _).trans (evalMiss hA 0 rfl)
        exact relUpon_move (hk := by rw [h0]; exact ⟨Ext.refl _, rfl⟩)
      apply relPlan_eq'
      · intro V w' hx hf
        with_reducible refine relAt_ops ?_
        intro A ρ hA hρ hcst hfun
        have h5 : ρ (.tmp 5) = .int .i64 (m.length : Int) := (congrFun hρ _).trans (evalMiss hA 5 rfl)
        exact relUpon_move (hk := by rw [h5]; exact ⟨Ext.refl _, rfl⟩)
      apply relPlan_eq'
      · intro V w' hx hf
        with_reducible refine relAt_ops ?_
        intro A ρ hA hρ hcst hfun
        have h6 : ρ (.tmp 6) = .string ⟨#[48, 49, 48, 49, 48, 49]⟩ := (congrFun hρ _).trans (evalMiss hA 6 rfl)
        exact relUpon_move (hk := by rw [h6]; exact ⟨Ext.refl _, rfl⟩)
      apply relPlan_eq'
      · intro V w' hx hf
        with_reducible refine relAt_ops ?_
        intro A ρ hA hρ hcst hfun
        obtain ⟨f32, _⟩ := hf
        have h32 : ρ (.tmp 32) = _ := (congrFun hρ _).trans ((evalHit hA 32 rfl).trans f32)
        simp [relUpon, go_sem, Ext.refl, h32]
        rfl
      apply relPlan_eq'
      · intro V w' hx hf
        with_reducible refine relAt_ops ?_
        intro A ρ hA hρ hcst hfun
        obtain ⟨f31, f33, _⟩ := hf
        have h31 : ρ (.tmp 31) = _ := (congrFun hρ _).trans ((evalHit hA 31 rfl).trans f31)
        have h33 : ρ (.tmp 33) = _ := (congrFun hρ _).trans ((evalHit hA 33 rfl).trans f33)
        simp [relUpon, go_sem, Ext.refl, h31, h33, e92, w92]
        rfl
      apply relPlan_eq'
      · intro V w' hx hf
        with_reducible refine relAt_ops ?_
        intro A ρ hA hρ hcst hfun
        obtain ⟨f30, f34, _⟩ := hf
        have h30 : ρ (.tmp 30) = _ := (congrFun hρ _).trans ((evalHit hA 30 rfl).trans f30)
        have h34 : ρ (.tmp 34) = _ := (congrFun hρ _).trans ((evalHit hA 34 rfl).trans f34)
        simp [relUpon, go_sem, Ext.refl, h30, h34, hp2]
        rfl
      apply relPlan_eq'
      · intro V w' hx hf
        with_reducible refine relAt_ops ?_
        intro A ρ hA hρ hcst hfun
        have h6 : ρ (.tmp 6) = .string ⟨#[48, 49, 48, 49, 48, 49]⟩ := (congrFun hρ _).trans (evalMiss hA 6 rfl)
        exact relUpon_move (hk := by rw [h6]; exact ⟨Ext.refl _, rfl⟩)
      refine relPlan_by (fun v w => Own 4 w 0 v (Ea.eE.map encT)) (fun _ _ _ h hx => h.ext hx) ?_ ?_
      · intro V w' hx hf
        with_reducible refine relAt_ops ?_
        intro A ρ hA hρ hcst hfun
        obtain ⟨f36, _⟩ := hf
        have h36 : ρ (.tmp 36) = _ := (congrFun hρ _).trans ((evalHit hA 36 rfl).trans f36)
        simp [relUpon, go_sem, hfun, h36]
        exact (HMS.out w').mono fun e w'' ⟨v, he, ho, hy⟩ => ⟨v, he, hy, ho.mono (Nat.zero_le _)⟩
      refine relPlan_by (eqv (.bool false)) (eqv_stable _) ?_ ?_
      · intro V w' hx hf
        with_reducible refine relAt_ops ?_
        intro A ρ hA hρ hcst hfun
        obtain ⟨f35, f37, _⟩ := hf
        have h35 : ρ (.tmp 35) = _ := (congrFun hρ _).trans ((evalHit hA 35 rfl).trans f35)
        have h37 : ρ (.tmp 37) = V 37 := (congrFun hρ _).trans (evalHit hA 37 rfl)
        simp [relUpon, go_sem, hfun, h35, h37]
        exact (HE2.out w' _ _ (HW.out.trans hx) f37).mono fun e w'' ⟨he, hy⟩ => ⟨_, he, hy, rfl⟩
      intro V wT hxT hf
      obtain ⟨g30, g31, g32, g33, g34, g35, g36, g37, g38, _⟩ := hf
      simp only [fillA, List.foldl_cons, List.foldl_nil, Act.put, List.setIfInBounds_toArray, List.set_cons_succ, List.set_cons_zero]
      have q38 : V 38 = _ := g38
      rw [q38]
      have HW2 := Lib.hid (HW.out.trans hxT)
      refine wpAny_solo 9 (by kernel_rfl) rfl (fun K hK => ?_)
      go_simp
      refine hK _ _ ?_
      clear hK K
      refine ⟨rfl, ?_⟩
      clear HW
      have HW := HW2
      clear HW2
      go_wp2
      go_ret3
      exact ⟨by rw [← HX.out]; rfl, HW.out⟩
  · rw [if_pos g1] at HX
    rw [decide_eq_false g1] at HE1
    clear g1
    go_enter Tryz.func79, Tryz.ntmps79
    go_wp2_with fail
    refine wp_region_rel 4 1 rfl [25, 26, 27, 28] [[], [0], [], [1, 2]] (by kernel_rfl) (by kernel_rfl) ?_
    apply relPlan_eq'
    · intro V w' hx hf
      with_reducible refine relAt_ops ?_
      intro A ρ hA hρ hcst hfun
      have h0 : ρ (.tmp 0) = .slice a m.length c := (congrFun hρ _).trans (evalMiss hA 0 rfl)
      exact relUpon_move (hk := by rw [h0]; exact ⟨Ext.refl _, rfl⟩)
    apply relPlan_eq'
    · intro V w' hx hf
      with_reducible refine relAt_ops ?_
      intro A ρ hA hρ hcst hfun
      obtain ⟨f25, _⟩ := hf
      have h25 : ρ (.tmp 25) = _ := (congrFun hρ _).trans ((evalHit hA 25 rfl).trans f25)
      simp [relUpon, go_sem, hcst, Ext.refl, h25, hp1]
      rfl
    refine relPlan_by (fun v w => Own 4 w 0 v (Ea.gd.map encT)) (fun _ _ _ h hx => h.ext hx) ?_ ?_
    · intro V w' hx hf
      with_reducible refine relAt_ops ?_
      intro A ρ hA hρ hcst hfun
      simp [relUpon, go_sem, hcst, hfun]
      exact (HMG.out w').mono fun e w'' ⟨v, he, ho, hy⟩ => ⟨v, he, hy, ho.mono (Nat.zero_le _)⟩
    refine relPlan_by (eqv (.bool false)) (eqv_stable _) ?_ ?_
    · intro V w' hx hf
      with_reducible refine relAt_ops ?_
      intro A ρ hA hρ hcst hfun
      obtain ⟨f26, f27, _⟩ := hf
      have h26 : ρ (.tmp 26) = _ := (congrFun hρ _).trans ((evalHit hA 26 rfl).trans f26)
      have h27 : ρ (.tmp 27) = V 27 := (congrFun hρ _).trans (evalHit hA 27 rfl)
      simp [relUpon, go_sem, hfun, h26, h27]
      exact (HE1.out w' _ _ (HW.out.trans hx) f27).mono fun e w'' ⟨he, hy⟩ => ⟨_, he, hy, rfl⟩
    intro V wT hxT hf
    obtain ⟨g25, g26, g27, g28, _⟩ := hf
    simp only [fillA, List.foldl_cons, List.foldl_nil, Act.put, List.setIfInBounds_toArray, List.set_cons_succ, List.set_cons_zero]
    have q28 : V 28 = _ := g28
    rw [q28]
    have HW2 := Lib.hid (HW.out.trans hxT)
    refine wpAny_solo 4 (by kernel_rfl) rfl (fun K hK => ?_)
    go_simp
    refine hK _ _ ?_
    clear hK K
    refine ⟨rfl, ?_⟩
    clear HW
    have HW := HW2
    clear HW2
    go_wp2
    go_ret3
    exact ⟨by rw [← HX.out]; rfl, HW.out⟩
end Go.Proofs.YtfpliihglgjijaaGreat
