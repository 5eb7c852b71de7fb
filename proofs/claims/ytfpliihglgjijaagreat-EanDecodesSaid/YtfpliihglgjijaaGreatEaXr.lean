/-
  Chapter 11: the reference's dark and Trim, walked.
  Condition: a row within the reach.
-/
import Derived.Test.YtfpliihglgjijaaGreatEaLp
import Derived.Test.YtfpliihglgjijaaGreatEaXH
import Derived.Test.YtfpliihglgjijaaGreatEaWy
import Derived.Test.YtfpliihglgjijaaGreatEaXq
import Derived.Test.YtfpliihglgjijaaGreatEaWz

/-
  Chapter 11: the reference's dark and Trim, walked.
  Condition: a row within the reach.
-/
namespace Go.Proofs.YtfpliihglgjijaaGreat
set_option linter.unusedVariables false
open Go.RowKit

set_option maxRecDepth 100000 in
set_option maxHeartbeats 1000000 in
theorem xdark_any (v : Value) (m : List Bool) (w : World) (hv : SlK w v (m.map encT)) (hm : m.length ≤ 1000000) :
    Calls Tryz.prog 78 #[v] w fun e w' => e = .returned (.bool (m.any id)) ∧ w = w' := by
  have HV := Lib.hid hv.1
  obtain ⟨_, a, c, rfl, _⟩ := hv
  rw [List.length_map] at HV ⊢
  go_enter Tryz.func78, Tryz.ntmps78
  go_wp2
  go_loop [3] (fun i => ∃ k : Nat, k ≤ m.length ∧ i = .int .i64 (k : Int) ∧ Hid (m.any id = (m.drop k).any id)) (fun i => m.length - (intOf i).toNat)
  case atStart => exact ⟨0, Nat.zero_le _, rfl, Lib.hid rfl⟩
  case round =>
    obtain ⟨k, hk, rfl, hl⟩ := hrel
    by_cases hlt : k < m.length
    · obtain ⟨bb0, off0, ha0, hbl0, hc00⟩ := HV.out.at_ (k := k) (by rw [List.length_map]; exact hlt)
      subst ha0
      rw [List.getElem_map] at hc00
      unfold encT at hc00
      obtain ⟨b, hb⟩ : ∃ b, m[k] = b := ⟨_, rfl⟩
      rw [hb] at hc00
      have hl2 := hl.out
      rw [List.drop_eq_getElem_cons hlt, hb, List.any_cons] at hl2
      have hkd : decide ((k : Int) < (m.length : Int)) = true := decide_eq_true (by omega)
      clear hb hl
      cases b with
      | true =>
        have HA := Lib.hid (show m.any id = true by rw [hl2]; rfl)
        clear hl2
        go_wp2
        go_ret
        exact ⟨by rw [HA.out]; rfl, rfl⟩
      | false =>
        have HA := Lib.hid (show m.any id = (m.drop (k + 1)).any id by rw [hl2]; rfl)
        clear hl2
        go_wp2
        go_round
        case rel => exact ⟨k + 1, by omega, by go_num, HA⟩
        case measure => simp [intOf]; omega
    · obtain rfl : k = m.length := by omega
      have HA := Lib.hid (show m.any id = false by rw [hl.out, List.drop_length]; rfl)
      have hkd : decide ((m.length : Int) < (m.length : Int)) = false := decide_eq_false (by omega)
      clear hk hlt hl
      go_wp2
      go_ret
      exact ⟨by rw [HA.out]; rfl, rfl⟩
set_option maxRecDepth 100000 in
set_option maxHeartbeats 1000000 in
theorem xtrim_any (v : Value) (m : List Bool) (w : World) (hv : SlK w v (m.map encT)) (hm : m.length ≤ 1000000) :
    Calls Tryz.prog 47 #[v] w fun e w' => e = .returned (.tuple #[.int .i64 (Ea.ldg m : Int), .int .i64 ((Ea.ldg m + (m.length - Ea.trl m - Ea.ldg m) : Nat) : Int)]) ∧ w = w' := by
  obtain ⟨tt, ht⟩ : ∃ t, Ea.ldg m + (m.length - Ea.trl m - Ea.ldg m) = t := ⟨_, rfl⟩
  obtain ⟨ll, hll⟩ : ∃ t, Ea.ldg m = t := ⟨_, rfl⟩
  rw [ht, hll]
  have HTT := Lib.hid ht
  have HLL := Lib.hid hll
  clear ht hll
  obtain ⟨hsl, a, c, rfl, _⟩ := hv
  rw [List.length_map] at hsl ⊢
  have HV := Lib.hid hsl
  clear hsl
  go_enter Tryz.func47, Tryz.ntmps47
  go_wp2
  go_loop [4] (fun i => ∃ k : Nat, k ≤ m.length ∧ i = .int .i64 (k : Int) ∧ Hid (Ea.ldg (m.drop k) + k = Ea.ldg m)) (fun i => m.length - (intOf i).toNat)
  case atStart => exact ⟨0, Nat.zero_le _, rfl, Lib.hid rfl⟩
  case round =>
    obtain ⟨k, hk, rfl, hl⟩ := hrel
    by_cases hlt : k < m.length
    · obtain ⟨bb0, off0, ha0, hbl0, hc00⟩ := HV.out.at_ (k := k) (by rw [List.length_map]; exact hlt)
      subst ha0
      rw [List.getElem_map] at hc00
      unfold encT at hc00
      obtain ⟨b, hb⟩ : ∃ b, m[k] = b := ⟨_, rfl⟩
      rw [hb] at hc00
      have hl2 := hl.out
      rw [List.drop_eq_getElem_cons hlt, hb] at hl2
      have HL2 := Lib.hid hl2
      have HB := Lib.hid hb
      have hkd : decide ((k : Int) < (m.length : Int)) = true := decide_eq_true (by omega)
      clear hl2 hl hb
      cases b with
      | true =>
        have HL : Hid (Ea.ldg m = k) := Lib.hid (by have := HL2.out; simp only [Ea.ldg, if_true] at this; omega)
        clear HL2
        go_wp2
        go_loop [5] (fun i => ∃ j : Nat, k ≤ j ∧ j ≤ m.length ∧ i = .int .i64 (j : Int) ∧ Hid (∀ t, j ≤ t → t < m.length → m[t]? = some false)) (fun i => (intOf i).toNat)
        case atStart => exact ⟨m.length, hk, Nat.le_refl _, rfl, Lib.hid (fun t h1 h2 => by omega)⟩
        case round =>
          obtain ⟨j, hkj, hj, rfl, hr⟩ := hrel
          have hgt : k < j := by
            rcases Nat.lt_or_ge k j with h | h
            · exact h
            · have := hr.out k (by omega) hlt
              rw [List.getElem?_eq_getElem hlt, HB.out] at this
              cases this
          obtain ⟨q, hq⟩ : ∃ q, j - 1 = q := ⟨_, rfl⟩
          have hqi : (j : Int) - 1 = (q : Int) := by omega
          have hqm : q < m.length := by omega
          have HQ : Hid (q + 1 = j) := Lib.hid (by omega)
          obtain ⟨bb, off, ha, hbl, hc0⟩ := HV.out.at_ (k := q) (by rw [List.length_map]; exact hqm)
          simp only [Option.some.injEq, Addr.mk.injEq, and_true] at ha
          obtain ⟨rfl, rfl⟩ := ha
          rw [List.getElem_map] at hc0
          unfold encT at hc0
          obtain ⟨b, hb⟩ : ∃ b, m[q] = b := ⟨_, rfl⟩
          rw [hb] at hc0
          have HB2 := Lib.hid hb
          have hkd2 : decide ((k : Int) < (j : Int)) = true := decide_eq_true (by omega)
          clear hb hq
          cases b with
          | true =>
            have HT : Hid (Ea.trl m = m.length - j) := Lib.hid (trl_at m j hj (by omega) (by
              rw [show j - 1 = q by have := HQ.out; omega, List.getElem?_eq_getElem hqm, HB2.out]) hr.out)
            go_wp2
            go_ret2
            have e1 : tt = j := by have h1 := HTT.out; have h2 := HT.out; have h3 := HL.out; omega
            have e2 : ll = k := by rw [← HLL.out]; exact HL.out
            subst e1 e2
            exact ⟨rfl, rfl⟩
          | false =>
            have HR2 : Hid (∀ t, q ≤ t → t < m.length → m[t]? = some false) := Lib.hid (fun t h1 h2 => by
              rcases Nat.lt_or_ge t j with h | h
              · have : t = q := by have := HQ.out; omega
                subst this
                rw [List.getElem?_eq_getElem hqm, HB2.out]
              · exact hr.out t h h2)
            have hkq : k ≤ q := by have := HQ.out; omega
            clear hr
            go_wp2
            go_round
            case rel => exact ⟨q, hkq, by omega, by first | rfl | (congr 1), HR2⟩
            case measure => have := HQ.out; simp [intOf]; omega
      | false =>
        have HL : Hid (Ea.ldg (m.drop (k + 1)) + (k + 1) = Ea.ldg m) := Lib.hid (by have := HL2.out; simp only [Ea.ldg, Bool.false_eq_true, if_false] at this; omega)
        clear HL2
        go_wp2
        go_round
        case rel => exact ⟨k + 1, by omega, by go_num, HL⟩
        case measure => simp [intOf]; omega
    · obtain rfl : k = m.length := by omega
      have HL : Hid (Ea.ldg m = m.length) := Lib.hid (by have := hl.out; rw [List.drop_length] at this; simp only [Ea.ldg] at this; omega)
      have hkd : decide ((m.length : Int) < (m.length : Int)) = false := decide_eq_false (by omega)
      clear hk hlt hl
      go_wp2
      go_loop [5] (fun i => i = .int .i64 (m.length : Int)) (fun i => (intOf i).toNat)
      case atStart => rfl
      case round =>
        obtain rfl := hrel
        go_wp2
        go_ret2
        have e1 : tt = m.length := by have h1 := HTT.out; have h3 := HL.out; omega
        have e2 : ll = m.length := by rw [← HLL.out]; exact HL.out
        subst e1 e2
        exact ⟨rfl, rfl⟩
end Go.Proofs.YtfpliihglgjijaaGreat

/-
  Chapter 11: the reference's readAddOn, walked.
  Condition: a row of 20 or 47 modules.
-/
namespace Go.Proofs.YtfpliihglgjijaaGreat
open Go.RowKit

theorem add_gaps {m : List Bool} {n : Nat} (h : ∀ i, i + 1 < n → (m.drop (11 + 9 * i)).take 2 = Ea.gA) : (List.range (n - 1)).all (fun i => (m.drop (11 + 9 * i)).take 2 == Ea.gA) = true := by
  rw [List.all_eq_true]
  intro i hi
  rw [beq_iff_eq]
  exact h i (by have := List.mem_range.1 hi; omega)
theorem add_nogap {m : List Bool} {n i : Nat} (hi : i + 1 < n) (h : (m.drop (11 + 9 * i)).take 2 ≠ Ea.gA) : (List.range (n - 1)).all (fun i => (m.drop (11 + 9 * i)).take 2 == Ea.gA) = false := by
  rw [List.all_eq_false]
  exact ⟨i, List.mem_range.2 (by omega), by simpa using h⟩

set_option maxRecDepth 100000 in
set_option maxHeartbeats 3000000 in
theorem xreadAddOn_any (n : Nat) (hn : n = 2 ∨ n = 5) (v : Value) (m : List Bool) (w : World) (hv : SlK w v (m.map encT)) (hm : m.length = Ea.wAdd n) :
    Calls Tryz.prog 80 #[v] w fun e w' => e = .returned (addV (Ea.rdAdd n m)) ∧ Ext w w' := by
  have hm2 : m.length = 9 * n + 2 := by rw [hm]; rcases hn with rfl | rfl <;> rfl
  obtain ⟨res, hres⟩ : ∃ res, Ea.rdAdd n m = res := ⟨_, rfl⟩
  rw [hres]
  have HX := Lib.hid hres
  unfold Ea.rdAdd at HX
  obtain ⟨p1, hp1, hq1⟩ := cut_bools_h hv 4 (by rw [List.length_map]; omega)
  rw [← List.map_take] at hq1
  have HE1 := Lib.hid (eqTo_of (md := Ea.sA) hq1 (by rw [List.length_take]; omega) (by decide))
  have HMA := Lib.hid (fun w => xmodules_any ⟨#[49, 48, 49, 49]⟩ Ea.sA rfl (by decide) w)
  have HMG := Lib.hid (fun w => xmodules_any ⟨#[48, 49]⟩ Ea.gA rfl (by decide) w)
  have HRD := Lib.hid (fun w' (h : Ext w w') => xread_any v m 4 n 2 0 0 1 true w' (hv.ext h) (by omega) (by omega) (by omega) ⟨rfl, rfl⟩ (by omega) (by omega))
  have HV := Lib.hid hv
  obtain ⟨_, a, c, rfl, hc⟩ := hv
  rw [List.length_map] at hp1 HRD HV ⊢
  rw [show ((4 : Nat) : Int) = 4 from rfl] at hp1 HRD
  rw [show ((2 : Nat) : Int) = 2 from rfl, show ((0 : Nat) : Int) = 0 from rfl, show ((1 : Nat) : Int) = 1 from rfl] at HRD
  have hn5 : ((m.length : Int) == 47) = true ∧ n = 5 ∨ ((m.length : Int) == 47) = false ∧ n = 2 := by
    rcases hn with rfl | rfl
    · exact .inr ⟨by rw [hm2]; rfl, rfl⟩
    · exact .inl ⟨by rw [hm2]; rfl, rfl⟩
  have HLN := Lib.hid hm2
  have HW : Hid (Ext w w) := Lib.hid (Ext.refl w)
  have HNN : Hid (n = 2 ∨ n = 5) := Lib.hid hn
  clear hq1 hres hc hm hm2 hn
  by_cases g1 : m.take 4 = Ea.sA
  · rw [if_neg (fun h => h g1)] at HX
    rw [decide_eq_true g1] at HE1
    clear g1
    rcases hn5 with ⟨hb, rfl⟩ | ⟨hb, rfl⟩
    · rw [show ((5 : Nat) : Int) = 5 from rfl] at HRD
      go_enter Tryz.func80, Tryz.ntmps80
      go_wp2_with fail
      refine wp_region_rel 4 1 rfl [11, 12, 13, 14] [[], [0], [], [1, 2]] (by kernel_rfl) (by kernel_rfl) ?_
      apply relPlan_eq'
      · intro V w' hx hf
        with_reducible refine relAt_ops ?_
        intro A ρ hA hρ hcst hfun
        have h0 : ρ (.tmp 0) = .slice a m.length c := (congrFun hρ _).trans (evalMiss hA 0 rfl)
        exact relUpon_move (hk := by rw [h0]; exact ⟨Ext.refl _, rfl⟩)
      apply relPlan_eq'
      · intro V w' hx hf
        with_reducible refine relAt_ops ?_
        intro A ρ hA hρ hcst hfun
        obtain ⟨f11, _⟩ := hf
        have h11 : ρ (.tmp 11) = _ := (congrFun hρ _).trans ((evalHit hA 11 rfl).trans f11)
        simp [relUpon, go_sem, hcst, Ext.refl, h11, hp1]
        rfl
      refine relPlan_by (fun v w => Own 4 w 0 v (Ea.sA.map encT)) (fun _ _ _ h hx => h.ext hx) ?_ ?_
      · intro V w' hx hf
        with_reducible refine relAt_ops ?_
        intro A ρ hA hρ hcst hfun
        simp [relUpon, go_sem, hcst, hfun]
        exact (HMA.out w').mono fun e w'' ⟨v, he, ho, hy⟩ => ⟨v, he, hy, ho.mono (Nat.zero_le _)⟩
      refine relPlan_by (eqv (.bool true)) (eqv_stable _) ?_ ?_
      · intro V w' hx hf
        with_reducible refine relAt_ops ?_
        intro A ρ hA hρ hcst hfun
        obtain ⟨f12, f13, _⟩ := hf
        have h12 : ρ (.tmp 12) = _ := (congrFun hρ _).trans ((evalHit hA 12 rfl).trans f12)
        have h13 : ρ (.tmp 13) = V 13 := (congrFun hρ _).trans (evalHit hA 13 rfl)
        simp [relUpon, go_sem, hfun, h12, h13]
        exact (HE1.out w' _ _ (HW.out.trans hx) f13).mono fun e w'' ⟨he, hy⟩ => ⟨_, he, hy, rfl⟩
      intro V wT hxT hf
      obtain ⟨g11, g12, g13, g14, _⟩ := hf
      simp only [fillA, List.foldl_cons, List.foldl_nil, Act.put, List.setIfInBounds_toArray, List.set_cons_succ, List.set_cons_zero]
      have q14 : V 14 = _ := g14
      rw [q14]
      have HW2 := Lib.hid (HW.out.trans hxT)
      refine wpAny_solo 4 (by kernel_rfl) rfl (fun K hK => ?_)
      go_simp
      refine hK _ _ ?_
      clear hK K
      refine ⟨rfl, ?_⟩
      clear HW
      have HW := HW2
      clear HW2
      go_wp2_with fail
      go_loopw [5] (fun v5 wr => ∃ k : Nat, 1 ≤ k ∧ k ≤ 5 ∧ v5 = .int .i64 (k : Int) ∧ Hid (∀ i, i + 1 < k → (m.drop (11 + 9 * i)).take 2 = Ea.gA) ∧ Hid (Ext w wr)) (fun v5 _ => 5 - (intOf v5).toNat)
      case atStart => exact ⟨1, Nat.le_refl _, by decide, rfl, Lib.hid (fun i hi => absurd hi (by omega)), HW⟩
      case round =>
        clear HW
        obtain ⟨k, hk1, hk2, rfl, HG0, HW⟩ := hrel
        by_cases hlt : k < 5
        · obtain ⟨x, hx⟩ : ∃ x, 9 * k = x := ⟨_, rfl⟩
          obtain ⟨y, hy⟩ : ∃ y, 4 + x = y := ⟨_, rfl⟩
          obtain ⟨z, hz⟩ : ∃ z, y - 2 = z := ⟨_, rfl⟩
          have e1 : (9 : Int) * (k : Int) = (x : Int) := by omega
          have e2 : (4 : Int) + (x : Int) = (y : Int) := by omega
          have e3 : (y : Int) - 2 = (z : Int) := by omega
          have w1 : IntKind.i64.wrap (x : Int) = (x : Int) := IntWalk.i64_in _ (by omega)
          have w2 : IntKind.i64.wrap (y : Int) = (y : Int) := IntWalk.i64_in _ (by omega)
          have w3 : IntKind.i64.wrap (z : Int) = (z : Int) := IntWalk.i64_in _ (by omega)
          have hz2 : z = 11 + 9 * (k - 1) := by omega
          obtain ⟨p2, hp2, hq2⟩ := slice_bools HV.out z y (by omega) (by rw [List.length_map]; have := HLN.out; omega)
          rw [← List.map_drop, ← List.map_take, show y - z = 2 by omega, hz2] at hq2
          have HE2 := Lib.hid (eqTo_of (md := Ea.gA) hq2 (by rw [List.length_take]; omega) (by decide))
          have hkd : decide ((k : Int) < 5) = true := decide_eq_true (by omega)
          have HKK := Lib.hid (And.intro hlt hk1)
          clear hx hy hz hz2 hq2
          by_cases g2 : (m.drop (11 + 9 * (k - 1))).take 2 = Ea.gA
          · rw [decide_eq_true g2] at HE2
            have HG1 : Hid (∀ i, i + 1 < k + 1 → (m.drop (11 + 9 * i)).take 2 = Ea.gA) := Lib.hid (fun i hi => by
              rcases Nat.lt_or_ge (i + 1) k with h | h
              · exact HG0.out i h
              · obtain rfl : i = k - 1 := by omega
                exact g2)
            clear g2 HG0
            go_wp2_with fail
            refine wp_region_rel 11 1 rfl [21, 22, 23, 24, 25, 26, 27, 28, 29, 30, 31] [[], [], [1], [2], [3], [], [5], [6], [0, 4, 7], [], [8, 9]] (by kernel_rfl) (by kernel_rfl) ?_
            apply relPlan_eq'
            · intro V w' hx hf
              with_reducible refine relAt_ops ?_
              intro A ρ hA hρ hcst hfun
              have h0 : ρ (.tmp 0) = .slice a m.length c := (congrFun hρ _).trans (evalMiss hA 0 rfl)
              exact relUpon_move (hk := by rw [h0]; exact ⟨Ext.refl _, rfl⟩)
            apply relPlan_eq'
            · intro V w' hx hf
              with_reducible refine relAt_ops ?_
              intro A ρ hA hρ hcst hfun
              have h5 : ρ (.tmp 5) = .int .i64 (k : Int) := (congrFun hρ _).trans (evalMiss hA 5 rfl)
              exact relUpon_move (hk := by rw [h5]; exact ⟨Ext.refl _, rfl⟩)
            apply relPlan_eq'
            · intro V w' hx hf
              with_reducible refine relAt_ops ?_
              intro A ρ hA hρ hcst hfun
              obtain ⟨f22, _⟩ := hf
              have h22 : ρ (.tmp 22) = _ := (congrFun hρ _).trans ((evalHit hA 22 rfl).trans f22)
              simp [relUpon, go_sem, hcst, Ext.refl, h22, e1, w1]
              rfl
            apply relPlan_eq'
            · intro V w' hx hf
              with_reducible refine relAt_ops ?_
              intro A ρ hA hρ hcst hfun
              obtain ⟨f23, _⟩ := hf
              have h23 : ρ (.tmp 23) = _ := (congrFun hρ _).trans ((evalHit hA 23 rfl).trans f23)
              simp [relUpon, go_sem, hcst, Ext.refl, h23, e2, w2]
              rfl
            apply relPlan_eq'
            · intro V w' hx hf
              with_reducible refine relAt_ops ?_
              intro A ρ hA hρ hcst hfun
              obtain ⟨f24, _⟩ := hf
              have h24 : ρ (.tmp 24) = _ := (congrFun hρ _).trans ((evalHit hA 24 rfl).trans f24)
              simp [relUpon, go_sem, hcst, Ext.refl, h24, e3, w3]
              rfl
            apply relPlan_eq'
            · intro V w' hx hf
              with_reducible refine relAt_ops ?_
              intro A ρ hA hρ hcst hfun
              have h5 : ρ (.tmp 5) = .int .i64 (k : Int) := (congrFun hρ _).trans (evalMiss hA 5 rfl)
              exact relUpon_move (hk := by rw [h5]; exact ⟨Ext.refl _, rfl⟩)
            apply relPlan_eq'
            · intro V w' hx hf
              with_reducible refine relAt_ops ?_
              intro A ρ hA hρ hcst hfun
              obtain ⟨f26, _⟩ := hf
              have h26 : ρ (.tmp 26) = _ := (congrFun hρ _).trans ((evalHit hA 26 rfl).trans f26)
              simp [relUpon, go_sem, hcst, Ext.refl, h26, e1, w1]
              rfl
            apply relPlan_eq'
            · intro V w' hx hf
              with_reducible refine relAt_ops ?_
              intro A ρ hA hρ hcst hfun
              obtain ⟨f27, _⟩ := hf
              have h27 : ρ (.tmp 27) = _ := (congrFun hρ _).trans ((evalHit hA 27 rfl).trans f27)
              simp [relUpon, go_sem, hcst, Ext.refl, h27, e2, w2]
              rfl
            apply relPlan_eq'
            · intro V w' hx hf
              with_reducible refine relAt_ops ?_
              intro A ρ hA hρ hcst hfun
              obtain ⟨f21, f25, f28, _⟩ := hf
              have h21 : ρ (.tmp 21) = _ := (congrFun hρ _).trans ((evalHit hA 21 rfl).trans f21)
              have h25 : ρ (.tmp 25) = _ := (congrFun hρ _).trans ((evalHit hA 25 rfl).trans f25)
              have h28 : ρ (.tmp 28) = _ := (congrFun hρ _).trans ((evalHit hA 28 rfl).trans f28)
              simp [relUpon, go_sem, Ext.refl, h21, h25, h28, hp2]
              rfl
            refine relPlan_by (fun v w => Own 4 w 0 v (Ea.gA.map encT)) (fun _ _ _ h hx => h.ext hx) ?_ ?_
            · intro V w' hx hf
              with_reducible refine relAt_ops ?_
              intro A ρ hA hρ hcst hfun
              simp [relUpon, go_sem, hcst, hfun]
              exact (HMG.out w').mono fun e w'' ⟨v, he, ho, hy⟩ => ⟨v, he, hy, ho.mono (Nat.zero_le _)⟩
            refine relPlan_by (eqv (.bool true)) (eqv_stable _) ?_ ?_
            · intro V w' hx hf
              with_reducible refine relAt_ops ?_
              intro A ρ hA hρ hcst hfun
              obtain ⟨f29, f30, _⟩ := hf
              have h29 : ρ (.tmp 29) = _ := (congrFun hρ _).trans ((evalHit hA 29 rfl).trans f29)
              have h30 : ρ (.tmp 30) = V 30 := (congrFun hρ _).trans (evalHit hA 30 rfl)
              simp [relUpon, go_sem, hfun, h29, h30]
              exact (HE2.out w' _ _ (HW.out.trans hx) f30).mono fun e w'' ⟨he, hy⟩ => ⟨_, he, hy, rfl⟩
            intro V wT hxT hf
            obtain ⟨g21, g22, g23, g24, g25, g26, g27, g28, g29, g30, g31, _⟩ := hf
            simp only [fillA, List.foldl_cons, List.foldl_nil, Act.put, List.setIfInBounds_toArray, List.set_cons_succ, List.set_cons_zero]
            have q31 : V 31 = _ := g31
            rw [q31]
            have HW2 := Lib.hid (HW.out.trans hxT)
            refine wpAny_solo 11 (by kernel_rfl) rfl (fun K hK => ?_)
            go_simp
            refine hK _ _ ?_
            clear hK K
            refine ⟨rfl, ?_⟩
            clear HW
            have HW := HW2
            clear HW2
            go_wp2
            go_roundw
            case rel => exact ⟨k + 1, by omega, by have := HKK.out.1; omega, by go_num, HG1, HW⟩
            case measure => have := HKK.out.1; simp [intOf]; omega
          · rw [decide_eq_false g2] at HE2
            have HG : Hid (res = ([], 18)) := Lib.hid (by rw [← HX.out, if_pos (add_nogap (by have := HKK.out; omega) g2)])
            clear g2
            go_wp2_with fail
            refine wp_region_rel 11 1 rfl [21, 22, 23, 24, 25, 26, 27, 28, 29, 30, 31] [[], [], [1], [2], [3], [], [5], [6], [0, 4, 7], [], [8, 9]] (by kernel_rfl) (by kernel_rfl) ?_
            apply relPlan_eq'
            · intro V w' hx hf
              with_reducible refine relAt_ops ?_
              intro A ρ hA hρ hcst hfun
              have h0 : ρ (.tmp 0) = .slice a m.length c := (congrFun hρ _).trans (evalMiss hA 0 rfl)
              exact relUpon_move (hk := by rw [h0]; exact ⟨Ext.refl _, rfl⟩)
            apply relPlan_eq'
            · intro V w' hx hf
              with_reducible refine relAt_ops ?_
              intro A ρ hA hρ hcst hfun
              have h5 : ρ (.tmp 5) = .int .i64 (k : Int) := (congrFun hρ _).trans (evalMiss hA 5 rfl)
              exact relUpon_move (hk := by rw [h5]; exact ⟨Ext.refl _, rfl⟩)
            apply relPlan_eq'
            · intro V w' hx hf
              with_reducible refine relAt_ops ?_
              intro A ρ hA hρ hcst hfun
              obtain ⟨f22, _⟩ := hf
              have h22 : ρ (.tmp 22) = _ := (congrFun hρ _).trans ((evalHit hA 22 rfl).trans f22)
              simp [relUpon, go_sem, hcst, Ext.refl, h22, e1, w1]
              rfl
            apply relPlan_eq'
            · intro V w' hx hf
              with_reducible refine relAt_ops ?_
              intro A ρ hA hρ hcst hfun
              obtain ⟨f23, _⟩ := hf
              have h23 : ρ (.tmp 23) = _ := (congrFun hρ _).trans ((evalHit hA 23 rfl).trans f23)
              simp [relUpon, go_sem, hcst, Ext.refl, h23, e2, w2]
              rfl
            apply relPlan_eq'
            · intro V w' hx hf
              with_reducible refine relAt_ops ?_
              intro A ρ hA hρ hcst hfun
              obtain ⟨f24, _⟩ := hf
              have h24 : ρ (.tmp 24) = _ := (congrFun hρ _).trans ((evalHit hA 24 rfl).trans f24)
              simp [relUpon, go_sem, hcst, Ext.refl, h24, e3, w3]
              rfl
            apply relPlan_eq'
            · intro V w' hx hf
              with_reducible refine relAt_ops ?_
              intro A ρ hA hρ hcst hfun
              have h5 : ρ (.tmp 5) = .int .i64 (k : Int) := (congrFun hρ _).trans (evalMiss hA 5 rfl)
              exact relUpon_move (hk := by rw [h5]; exact ⟨Ext.refl _, rfl⟩)
            apply relPlan_eq'
            · intro V w' hx hf
              with_reducible refine relAt_ops ?_
              intro A ρ hA hρ hcst hfun
              obtain ⟨f26, _⟩ := hf
              have h26 : ρ (.tmp 26) = _ := (congrFun hρ _).trans ((evalHit hA 26 rfl).trans f26)
              simp [relUpon, go_sem, hcst, Ext.refl, h26, e1, w1]
              rfl
            apply relPlan_eq'
            · intro V w' hx hf
              with_reducible refine relAt_ops ?_
              intro A ρ hA hρ hcst hfun
              obtain ⟨f27, _⟩ := hf
              have h27 : ρ (.tmp 27) = _ := (congrFun hρ _).trans ((evalHit hA 27 rfl).trans f27)
              simp [relUpon, go_sem, hcst, Ext.refl, h27, e2, w2]
              rfl
            apply relPlan_eq'
            · intro V w' hx hf
              with_reducible refine relAt_ops ?_
              intro A ρ hA hρ hcst hfun
              obtain ⟨f21, f25, f28, _⟩ := hf
              have h21 : ρ (.tmp 21) = _ := (congrFun hρ _).trans ((evalHit hA 21 rfl).trans f21)
              have h25 : ρ (.tmp 25) = _ := (congrFun hρ _).trans ((evalHit hA 25 rfl).trans f25)
              have h28 : ρ (.tmp 28) = _ := (congrFun hρ _).trans ((evalHit hA 28 rfl).trans f28)
              simp [relUpon, go_sem, Ext.refl, h21, h25, h28, hp2]
              rfl
            refine relPlan_by (fun v w => Own 4 w 0 v (Ea.gA.map encT)) (fun _ _ _ h hx => h.ext hx) ?_ ?_
            · intro V w' hx hf
              with_reducible refine relAt_ops ?_
              intro A ρ hA hρ hcst hfun
              simp [relUpon, go_sem, hcst, hfun]
              exact (HMG.out w').mono fun e w'' ⟨v, he, ho, hy⟩ => ⟨v, he, hy, ho.mono (Nat.zero_le _)⟩
            refine relPlan_by (eqv (.bool false)) (eqv_stable _) ?_ ?_
            · intro V w' hx hf
              with_reducible refine relAt_ops ?_
              intro A ρ hA hρ hcst hfun
              obtain ⟨f29, f30, _⟩ := hf
              have h29 : ρ (.tmp 29) = _ := (congrFun hρ _).trans ((evalHit hA 29 rfl).trans f29)
              have h30 : ρ (.tmp 30) = V 30 := (congrFun hρ _).trans (evalHit hA 30 rfl)
              simp [relUpon, go_sem, hfun, h29, h30]
              exact (HE2.out w' _ _ (HW.out.trans hx) f30).mono fun e w'' ⟨he, hy⟩ => ⟨_, he, hy, rfl⟩
            intro V wT hxT hf
            obtain ⟨g21, g22, g23, g24, g25, g26, g27, g28, g29, g30, g31, _⟩ := hf
            simp only [fillA, List.foldl_cons, List.foldl_nil, Act.put, List.setIfInBounds_toArray, List.set_cons_succ, List.set_cons_zero]
            have q31 : V 31 = _ := g31
            rw [q31]
            have HW2 := Lib.hid (HW.out.trans hxT)
            refine wpAny_solo 11 (by kernel_rfl) rfl (fun K hK => ?_)
            go_simp
            refine hK _ _ ?_
            clear hK K
            refine ⟨rfl, ?_⟩
            clear HW
            have HW := HW2
            clear HW2
            go_wp2
            go_ret2
            exact ⟨by rw [HG.out]; rfl, HW.out⟩
        · obtain rfl : k = 5 := by omega
          have HX2 := Lib.hid HX.out
          rw [if_neg (by rw [add_gaps HG0.out]; exact Bool.noConfusion)] at HX2
          obtain ⟨lo, hlo⟩ : ∃ lo, Ea.rcg true 0 2 5 (m.drop 4) = lo := ⟨_, rfl⟩
          have HLF := Lib.hid (fun l u (e : lo = some (l, u)) => rcg_facts (by omega) (hlo.trans e))
          rw [hlo] at HX2 HRD
          obtain ⟨L, U, hLU, hLe, hLs, hL1, hL0⟩ := readV_form lo 5 (by omega) (fun l u e => (HLF.out l u e).1)
          rw [hLU] at HRD
          clear hlo hLU hL0 HX HG0 hk1 hk2 hlt
          cases lo with
          | none =>
            rw [show (none : Option (List UInt8 × List Nat)).isNone = true from rfl] at hLe
            have HG : Hid (res = ([], 18)) := Lib.hid (by rw [← HX2.out])
            clear HX2
            go_wp2_with fail
            refine (HRD.out _ HW.out).mono ?_
            rintro e w5 ⟨rfl, hx5⟩
            go_wp2
            go_ret2
            exact ⟨by rw [HG.out]; rfl, HW.out.trans hx5⟩
          | some q =>
            obtain ⟨l, u⟩ := q
            rw [show (some (l, u) : Option (List UInt8 × List Nat)).isNone = false from rfl] at hLe
            obtain ⟨hLl, hUl⟩ := hL1 l u rfl
            obtain ⟨f1, f2, f3, f4⟩ := HLF.out l u rfl
            have hLz : L.size = 5 := by rw [size_of_toList hLl, f1]
            have HAS := Lib.hid (fun w => xsetsAdd_any L (by omega) (by rw [hLl]; exact f3) w)
            rw [hLl] at HAS
            obtain ⟨X, hX⟩ : ∃ X, Ea.bS (zS (Ea.setsAdd l)) = X := ⟨_, rfl⟩
            have HC : Hid ((X.toList == U.toList) = decide (Ea.setsAdd l = u)) := Lib.hid (by
              rw [Bool.eq_iff_iff, beq_iff_eq, decide_eq_true_eq, ← hX, Lib.toList_data, Lib.toList_data, hUl, Ea.bS_list]
              constructor
              · intro h
                exact zS_inj (fun x hx => by have := (Ea.setsAdd_ok (a := l) (by rw [f1]; decide)).2 x hx; omega) (fun x hx => by have := f4 x hx; omega) h
              · intro h; rw [h])
            have HE : Hid (L = Ea.bS l) := Lib.hid (by rw [← hLl, Ea.bS_of])
            rw [hX] at HAS
            have HX3 := Lib.hid HX2.out
            dsimp only at HX3
            clear hX hLl hUl f1 f2 f3 f4 HX2 HLF hL1 hLz
            cases hc : (X.toList == U.toList)
            · have HG : Hid (res = ([], 8)) := Lib.hid (by
                have h := HC.out
                rw [hc] at h
                rw [← HX3.out, if_pos (of_decide_eq_false h.symm)])
              clear HX3 HC
              go_wp2_with fail
              refine (HRD.out _ HW.out).mono ?_
              rintro e w5 ⟨rfl, hx5⟩
              go_wp2_with fail
              refine (HAS.out _).mono ?_
              rintro e w6 ⟨rfl, hx6⟩
              go_wp2
              go_ret2
              exact ⟨by rw [HG.out]; rfl, HW.out.trans (hx5.trans hx6)⟩
            · have HG : Hid (res = (l, 0)) := Lib.hid (by
                have h := HC.out
                rw [hc] at h
                rw [← HX3.out, if_neg (fun hh => hh (of_decide_eq_true h.symm))])
              clear HX3 HC
              go_wp2_with fail
              refine (HRD.out _ HW.out).mono ?_
              rintro e w5 ⟨rfl, hx5⟩
              go_wp2_with fail
              refine (HAS.out _).mono ?_
              rintro e w6 ⟨rfl, hx6⟩
              go_wp2
              go_ret2
              exact ⟨by rw [HG.out]; unfold addV; dsimp only; rw [← HE.out]; rfl, HW.out.trans (hx5.trans hx6)⟩
    · rw [show ((2 : Nat) : Int) = 2 from rfl] at HRD
      go_enter Tryz.func80, Tryz.ntmps80
      go_wp2_with fail
      refine wp_region_rel 4 1 rfl [11, 12, 13, 14] [[], [0], [], [1, 2]] (by kernel_rfl) (by kernel_rfl) ?_
      apply relPlan_eq'
      · intro V w' hx hf
        with_reducible refine relAt_ops ?_
        intro A ρ hA hρ hcst hfun
        have h0 : ρ (.tmp 0) = .slice a m.length c := (congrFun hρ _).trans (evalMiss hA 0 rfl)
        exact relUpon_move (hk := by rw [h0]; exact ⟨Ext.refl _, rfl⟩)
      apply relPlan_eq'
      · intro V w' hx hf
        with_reducible refine relAt_ops ?_
        intro A ρ hA hρ hcst hfun
        obtain ⟨f11, _⟩ := hf
        have h11 : ρ (.tmp 11) = _ := (congrFun hρ _).trans ((evalHit hA 11 rfl).trans f11)
        simp [relUpon, go_sem, hcst, Ext.refl, h11, hp1]
        rfl
      refine relPlan_by (fun v w => Own 4 w 0 v (Ea.sA.map encT)) (fun _ _ _ h hx => h.ext hx) ?_ ?_
      · intro V w' hx hf
        with_reducible refine relAt_ops ?_
        intro A ρ hA hρ hcst hfun
        simp [relUpon, go_sem, hcst, hfun]
        exact (HMA.out w').mono fun e w'' ⟨v, he, ho, hy⟩ => ⟨v, he, hy, ho.mono (Nat.zero_le _)⟩
      refine relPlan_by (eqv (.bool true)) (eqv_stable _) ?_ ?_
      · intro V w' hx hf
        with_reducible refine relAt_ops ?_
        intro A ρ hA hρ hcst hfun
        obtain ⟨f12, f13, _⟩ := hf
        have h12 : ρ (.tmp 12) = _ := (congrFun hρ _).trans ((evalHit hA 12 rfl).trans f12)
        have h13 : ρ (.tmp 13) = V 13 := (congrFun hρ _).trans (evalHit hA 13 rfl)
        simp [relUpon, go_sem, hfun, h12, h13]
        exact (HE1.out w' _ _ (HW.out.trans hx) f13).mono fun e w'' ⟨he, hy⟩ => ⟨_, he, hy, rfl⟩
      intro V wT hxT hf
      obtain ⟨g11, g12, g13, g14, _⟩ := hf
      simp only [fillA, List.foldl_cons, List.foldl_nil, Act.put, List.setIfInBounds_toArray, List.set_cons_succ, List.set_cons_zero]
      have q14 : V 14 = _ := g14
      rw [q14]
      have HW2 := Lib.hid (HW.out.trans hxT)
      refine wpAny_solo 4 (by kernel_rfl) rfl (fun K hK => ?_)
      go_simp
      refine hK _ _ ?_
      clear hK K
      refine ⟨rfl, ?_⟩
      clear HW
      have HW := HW2
      clear HW2
      go_wp2_with fail
      go_loopw [5] (fun v5 wr => ∃ k : Nat, 1 ≤ k ∧ k ≤ 2 ∧ v5 = .int .i64 (k : Int) ∧ Hid (∀ i, i + 1 < k → (m.drop (11 + 9 * i)).take 2 = Ea.gA) ∧ Hid (Ext w wr)) (fun v5 _ => 2 - (intOf v5).toNat)
      case atStart => exact ⟨1, Nat.le_refl _, by decide, rfl, Lib.hid (fun i hi => absurd hi (by omega)), HW⟩
      case round =>
        clear HW
        obtain ⟨k, hk1, hk2, rfl, HG0, HW⟩ := hrel
        by_cases hlt : k < 2
        · obtain ⟨x, hx⟩ : ∃ x, 9 * k = x := ⟨_, rfl⟩
          obtain ⟨y, hy⟩ : ∃ y, 4 + x = y := ⟨_, rfl⟩
          obtain ⟨z, hz⟩ : ∃ z, y - 2 = z := ⟨_, rfl⟩
          have e1 : (9 : Int) * (k : Int) = (x : Int) := by omega
          have e2 : (4 : Int) + (x : Int) = (y : Int) := by omega
          have e3 : (y : Int) - 2 = (z : Int) := by omega
          have w1 : IntKind.i64.wrap (x : Int) = (x : Int) := IntWalk.i64_in _ (by omega)
          have w2 : IntKind.i64.wrap (y : Int) = (y : Int) := IntWalk.i64_in _ (by omega)
          have w3 : IntKind.i64.wrap (z : Int) = (z : Int) := IntWalk.i64_in _ (by omega)
          have hz2 : z = 11 + 9 * (k - 1) := by omega
          obtain ⟨p2, hp2, hq2⟩ := slice_bools HV.out z y (by omega) (by rw [List.length_map]; have := HLN.out; omega)
          rw [← List.map_drop, ← List.map_take, show y - z = 2 by omega, hz2] at hq2
          have HE2 := Lib.hid (eqTo_of (md := Ea.gA) hq2 (by rw [List.length_take]; omega) (by decide))
          have hkd : decide ((k : Int) < 2) = true := decide_eq_true (by omega)
          have HKK := Lib.hid (And.intro hlt hk1)
          clear hx hy hz hz2 hq2
          by_cases g2 : (m.drop (11 + 9 * (k - 1))).take 2 = Ea.gA
          · rw [decide_eq_true g2] at HE2
            have HG1 : Hid (∀ i, i + 1 < k + 1 → (m.drop (11 + 9 * i)).take 2 = Ea.gA) := Lib.hid (fun i hi => by
              rcases Nat.lt_or_ge (i + 1) k with h | h
              · exact HG0.out i h
              · obtain rfl : i = k - 1 := by omega
                exact g2)
            clear g2 HG0
            go_wp2_with fail
            refine wp_region_rel 11 1 rfl [21, 22, 23, 24, 25, 26, 27, 28, 29, 30, 31] [[], [], [1], [2], [3], [], [5], [6], [0, 4, 7], [], [8, 9]] (by kernel_rfl) (by kernel_rfl) ?_
            apply relPlan_eq'
            · intro V w' hx hf
              with_reducible refine relAt_ops ?_
              intro A ρ hA hρ hcst hfun
              have h0 : ρ (.tmp 0) = .slice a m.length c := (congrFun hρ _).trans (evalMiss hA 0 rfl)
              exact relUpon_move (hk := by rw [h0]; exact ⟨Ext.refl _, rfl⟩)
            apply relPlan_eq'
            · intro V w' hx hf
              with_reducible refine relAt_ops ?_
              intro A ρ hA hρ hcst hfun
              have h5 : ρ (.tmp 5) = .int .i64 (k : Int) := (congrFun hρ _).trans (evalMiss hA 5 rfl)
              exact relUpon_move (hk := by rw [h5]; exact ⟨Ext.refl _, rfl⟩)
            apply relPlan_eq'
            · intro V w' hx hf
              with_reducible refine relAt_ops ?_
              intro A ρ hA hρ hcst hfun
              obtain ⟨f22, _⟩ := hf
              have h22 : ρ (.tmp 22) = _ := (congrFun hρ _).trans ((evalHit hA 22 rfl).trans f22)
              simp [relUpon, go_sem, hcst, Ext.refl, h22, e1, w1]
              rfl
            apply relPlan_eq'
            · intro V w' hx hf
              with_reducible refine relAt_ops ?_
              intro A ρ hA hρ hcst hfun
              obtain ⟨f23, _⟩ := hf
              have h23 : ρ (.tmp 23) = _ := (congrFun hρ _).trans ((evalHit hA 23 rfl).trans f23)
              simp [relUpon, go_sem, hcst, Ext.refl, h23, e2, w2]
              rfl
            apply relPlan_eq'
            · intro V w' hx hf
              with_reducible refine relAt_ops ?_
              intro A ρ hA hρ hcst hfun
              obtain ⟨f24, _⟩ := hf
              have h24 : ρ (.tmp 24) = _ := (congrFun hρ _).trans ((evalHit hA 24 rfl).trans f24)
              simp [relUpon, go_sem, hcst, Ext.refl, h24, e3, w3]
              rfl
            apply relPlan_eq'
            · intro V w' hx hf
              with_reducible refine relAt_ops ?_
              intro A ρ hA hρ hcst hfun
              have h5 : ρ (.tmp 5) = .int .i64 (k : Int) := (congrFun hρ _).trans (evalMiss hA 5 rfl)
              exact relUpon_move (hk := by rw [h5]; exact ⟨Ext.refl _, rfl⟩)
            apply relPlan_eq'
            · intro V w' hx hf
              with_reducible refine relAt_ops ?_
              intro A ρ hA hρ hcst hfun
              obtain ⟨f26, _⟩ := hf
              have h26 : ρ (.tmp 26) = _ := (congrFun hρ _).trans ((evalHit hA 26 rfl).trans f26)
              simp [relUpon, go_sem, hcst, Ext.refl, h26, e1, w1]
              rfl
            apply relPlan_eq'
            · intro V w' hx hf
              with_reducible refine relAt_ops ?_
              intro A ρ hA hρ hcst hfun
              obtain ⟨f27, _⟩ := hf
              have h27 : ρ (.tmp 27) = _ := (congrFun hρ _).trans ((evalHit hA 27 rfl).trans f27)
              simp [relUpon, go_sem, hcst, Ext.refl, h27, e2, w2]
              rfl
            apply relPlan_eq'
            · intro V w' hx hf
              with_reducible refine relAt_ops ?_
              intro A ρ hA hρ hcst hfun
              obtain ⟨f21, f25, f28, _⟩ := hf
              have h21 : ρ (.tmp 21) = _ := (congrFun hρ _).trans ((evalHit hA 21 rfl).trans f21)
              have h25 : ρ (.tmp 25) = _ := (congrFun hρ _).trans ((evalHit hA 25 rfl).trans f25)
              have h28 : ρ (.tmp 28) = _ := (congrFun hρ _).trans ((evalHit hA 28 rfl).trans f28)
              simp [relUpon, go_sem, Ext.refl, h21, h25, h28, hp2]
              rfl
            refine relPlan_by (fun v w => Own 4 w 0 v (Ea.gA.map encT)) (fun _ _ _ h hx => h.ext hx) ?_ ?_
            · intro V w' hx hf
              with_reducible refine relAt_ops ?_
              intro A ρ hA hρ hcst hfun
              simp [relUpon, go_sem, hcst, hfun]
              exact (HMG.out w').mono fun e w'' ⟨v, he, ho, hy⟩ => ⟨v, he, hy, ho.mono (Nat.zero_le _)⟩
            refine relPlan_by (eqv (.bool true)) (eqv_stable _) ?_ ?_
            · intro V w' hx hf
              with_reducible refine relAt_ops ?_
              intro A ρ hA hρ hcst hfun
              obtain ⟨f29, f30, _⟩ := hf
              have h29 : ρ (.tmp 29) = _ := (congrFun hρ _).trans ((evalHit hA 29 rfl).trans f29)
              have h30 : ρ (.tmp 30) = V 30 := (congrFun hρ _).trans (evalHit hA 30 rfl)
              simp [relUpon, go_sem, hfun, h29, h30]
              exact (HE2.out w' _ _ (HW.out.trans hx) f30).mono fun e w'' ⟨he, hy⟩ => ⟨_, he, hy, rfl⟩
            intro V wT hxT hf
            obtain ⟨g21, g22, g23, g24, g25, g26, g27, g28, g29, g30, g31, _⟩ := hf
            simp only [fillA, List.foldl_cons, List.foldl_nil, Act.put, List.setIfInBounds_toArray, List.set_cons_succ, List.set_cons_zero]
            have q31 : V 31 = _ := g31
            rw [q31]
            have HW2 := Lib.hid (HW.out.trans hxT)
            refine wpAny_solo 11 (by kernel_rfl) rfl (fun K hK => ?_)
            go_simp
            refine hK _ _ ?_
            clear hK K
            refine ⟨rfl, ?_⟩
            clear HW
            have HW := HW2
            clear HW2
            go_wp2
            go_roundw
            case rel => exact ⟨k + 1, by omega, by have := HKK.out.1; omega, by go_num, HG1, HW⟩
            case measure => have := HKK.out.1; simp [intOf]; omega
          · rw [decide_eq_false g2] at HE2
            have HG : Hid (res = ([], 18)) := Lib.hid (by rw [← HX.out, if_pos (add_nogap (by have := HKK.out; omega) g2)])
            clear g2
            go_wp2_with fail
            refine wp_region_rel 11 1 rfl [21, 22, 23, 24, 25, 26, 27, 28, 29, 30, 31] [[], [], [1], [2], [3], [], [5], [6], [0, 4, 7], [], [8, 9]] (by kernel_rfl) (by kernel_rfl) ?_
            apply relPlan_eq'
            · intro V w' hx hf
              with_reducible refine relAt_ops ?_
              intro A ρ hA hρ hcst hfun
              have h0 : ρ (.tmp 0) = .slice a m.length c := (congrFun hρ _).trans (evalMiss hA 0 rfl)
              exact relUpon_move (hk := by rw [h0]; exact ⟨Ext.refl _, rfl⟩)
            apply relPlan_eq'
            · intro V w' hx hf
              with_reducible refine relAt_ops ?_
              intro A ρ hA hρ hcst hfun
              have h5 : ρ (.tmp 5) = .int .i64 (k : Int) := (congrFun hρ _).trans (evalMiss hA 5 rfl)
              exact relUpon_move (hk := by rw [h5]; exact ⟨Ext.refl _, rfl⟩)
            apply relPlan_eq'
            · intro V w' hx hf
              with_reducible refine relAt_ops ?_
              intro A ρ hA hρ hcst hfun
              obtain ⟨f22, _⟩ := hf
              have h22 : ρ (.tmp 22) = _ := (congrFun hρ _).trans ((evalHit hA 22 rfl).trans f22)
              simp [relUpon, go_sem, hcst, Ext.refl, h22, e1, w1]
              rfl
            apply relPlan_eq'
            · intro V w' hx hf
              with_reducible refine relAt_ops ?_
              intro A ρ hA hρ hcst hfun
              obtain ⟨f23, _⟩ := hf
              have h23 : ρ (.tmp 23) = _ := (congrFun hρ _).trans ((evalHit hA 23 rfl).trans f23)
              simp [relUpon, go_sem, hcst, Ext.refl, h23, e2, w2]
              rfl
            apply relPlan_eq'
            · intro V w' hx hf
              with_reducible refine relAt_ops ?_
              intro A ρ hA hρ hcst hfun
              obtain ⟨f24, _⟩ := hf
              have h24 : ρ (.tmp 24) = _ := (congrFun hρ _).trans ((evalHit hA 24 rfl).trans f24)
              simp [relUpon, go_sem, hcst, Ext.refl, h24, e3, w3]
              rfl
            apply relPlan_eq'
            · intro V w' hx hf
              with_reducible refine relAt_ops ?_
              intro A ρ hA hρ hcst hfun
              have h5 : ρ (.tmp 5) = .int .i64 (k : Int) := (congrFun hρ _).trans (evalMiss hA 5 rfl)
              exact relUpon_move (hk := by rw [h5]; exact ⟨Ext.refl _, rfl⟩)
            apply relPlan_eq'
            · intro V w' hx hf
              with_reducible refine relAt_ops ?_
              intro A ρ hA hρ hcst hfun
              obtain ⟨f26, _⟩ := hf
              have h26 : ρ (.tmp 26) = _ := (congrFun hρ _).trans ((evalHit hA 26 rfl).trans f26)
              simp [relUpon, go_sem, hcst, Ext.refl, h26, e1, w1]
              rfl
            apply relPlan_eq'
            · intro V w' hx hf
              with_reducible refine relAt_ops ?_
              intro A ρ hA hρ hcst hfun
              obtain ⟨f27, _⟩ := hf
              have h27 : ρ (.tmp 27) = _ := (congrFun hρ _).trans ((evalHit hA 27 rfl).trans f27)
              simp [relUpon, go_sem, hcst, Ext.refl, h27, e2, w2]
              rfl
            apply relPlan_eq'
            · intro V w' hx hf
              with_reducible refine relAt_ops ?_
              intro A ρ hA hρ hcst hfun
              obtain ⟨f21, f25, f28, _⟩ := hf
              have h21 : ρ (.tmp 21) = _ := (congrFun hρ _).trans ((evalHit hA 21 rfl).trans f21)
              have h25 : ρ (.tmp 25) = _ := (congrFun hρ _).trans ((evalHit hA 25 rfl).trans f25)
              have h28 : ρ (.tmp 28) = _ := (congrFun hρ _).trans ((evalHit hA 28 rfl).trans f28)
              simp [relUpon, go_sem, Ext.refl, h21, h25, h28, hp2]
              rfl
            refine relPlan_by (fun v w => Own 4 w 0 v (Ea.gA.map encT)) (fun _ _ _ h hx => h.ext hx) ?_ ?_
            · intro V w' hx hf
              with_reducible refine relAt_ops ?_
              intro A ρ hA hρ hcst hfun
              simp [relUpon, go_sem, hcst, hfun]
              exact (HMG.out w').mono fun e w'' ⟨v, he, ho, hy⟩ => ⟨v, he, hy, ho.mono (Nat.zero_le _)⟩
            refine relPlan_by (eqv (.bool false)) (eqv_stable _) ?_ ?_
            · intro V w' hx hf
              with_reducible refine relAt_ops ?_
              intro A ρ hA hρ hcst hfun
              obtain ⟨f29, f30, _⟩ := hf
              have h29 : ρ (.tmp 29) = _ := (congrFun hρ _).trans ((evalHit hA 29 rfl).trans f29)
              have h30 : ρ (.tmp 30) = V 30 := (congrFun hρ _).trans (evalHit hA 30 rfl)
              simp [relUpon, go_sem, hfun, h29, h30]
              exact (HE2.out w' _ _ (HW.out.trans hx) f30).mono fun e w'' ⟨he, hy⟩ => ⟨_, he, hy, rfl⟩
            intro V wT hxT hf
            obtain ⟨g21, g22, g23, g24, g25, g26, g27, g28, g29, g30, g31, _⟩ := hf
            simp only [fillA, List.foldl_cons, List.foldl_nil, Act.put, List.setIfInBounds_toArray, List.set_cons_succ, List.set_cons_zero]
            have q31 : V 31 = _ := g31
            rw [q31]
            have HW2 := Lib.hid (HW.out.trans hxT)
            refine wpAny_solo 11 (by kernel_rfl) rfl (fun K hK => ?_)
            go_simp
            refine hK _ _ ?_
            clear hK K
            refine ⟨rfl, ?_⟩
            clear HW
            have HW := HW2
            clear HW2
            go_wp2
            go_ret2
            exact ⟨by rw [HG.out]; rfl, HW.out⟩
        · obtain rfl : k = 2 := by omega
          have HX2 := Lib.hid HX.out
          rw [if_neg (by rw [add_gaps HG0.out]; exact Bool.noConfusion)] at HX2
          obtain ⟨lo, hlo⟩ : ∃ lo, Ea.rcg true 0 2 2 (m.drop 4) = lo := ⟨_, rfl⟩
          have HLF := Lib.hid (fun l u (e : lo = some (l, u)) => rcg_facts (by omega) (hlo.trans e))
          rw [hlo] at HX2 HRD
          obtain ⟨L, U, hLU, hLe, hLs, hL1, hL0⟩ := readV_form lo 2 (by omega) (fun l u e => (HLF.out l u e).1)
          rw [hLU] at HRD
          clear hlo hLU hL0 HX HG0 hk1 hk2 hlt
          cases lo with
          | none =>
            rw [show (none : Option (List UInt8 × List Nat)).isNone = true from rfl] at hLe
            have HG : Hid (res = ([], 18)) := Lib.hid (by rw [← HX2.out])
            clear HX2
            go_wp2_with fail
            refine (HRD.out _ HW.out).mono ?_
            rintro e w5 ⟨rfl, hx5⟩
            go_wp2
            go_ret2
            exact ⟨by rw [HG.out]; rfl, HW.out.trans hx5⟩
          | some q =>
            obtain ⟨l, u⟩ := q
            rw [show (some (l, u) : Option (List UInt8 × List Nat)).isNone = false from rfl] at hLe
            obtain ⟨hLl, hUl⟩ := hL1 l u rfl
            obtain ⟨f1, f2, f3, f4⟩ := HLF.out l u rfl
            have hLz : L.size = 2 := by rw [size_of_toList hLl, f1]
            have HAS := Lib.hid (fun w => xsetsAdd_any L (by omega) (by rw [hLl]; exact f3) w)
            rw [hLl] at HAS
            obtain ⟨X, hX⟩ : ∃ X, Ea.bS (zS (Ea.setsAdd l)) = X := ⟨_, rfl⟩
            have HC : Hid ((X.toList == U.toList) = decide (Ea.setsAdd l = u)) := Lib.hid (by
              rw [Bool.eq_iff_iff, beq_iff_eq, decide_eq_true_eq, ← hX, Lib.toList_data, Lib.toList_data, hUl, Ea.bS_list]
              constructor
              · intro h
                exact zS_inj (fun x hx => by have := (Ea.setsAdd_ok (a := l) (by rw [f1]; decide)).2 x hx; omega) (fun x hx => by have := f4 x hx; omega) h
              · intro h; rw [h])
            have HE : Hid (L = Ea.bS l) := Lib.hid (by rw [← hLl, Ea.bS_of])
            rw [hX] at HAS
            have HX3 := Lib.hid HX2.out
            dsimp only at HX3
            clear hX hLl hUl f1 f2 f3 f4 HX2 HLF hL1 hLz
            cases hc : (X.toList == U.toList)
            · have HG : Hid (res = ([], 8)) := Lib.hid (by
                have h := HC.out
                rw [hc] at h
                rw [← HX3.out, if_pos (of_decide_eq_false h.symm)])
              clear HX3 HC
              go_wp2_with fail
              refine (HRD.out _ HW.out).mono ?_
              rintro e w5 ⟨rfl, hx5⟩
              go_wp2_with fail
              refine (HAS.out _).mono ?_
              rintro e w6 ⟨rfl, hx6⟩
              go_wp2
              go_ret2
              exact ⟨by rw [HG.out]; rfl, HW.out.trans (hx5.trans hx6)⟩
            · have HG : Hid (res = (l, 0)) := Lib.hid (by
                have h := HC.out
                rw [hc] at h
                rw [← HX3.out, if_neg (fun hh => hh (of_decide_eq_true h.symm))])
              clear HX3 HC
              go_wp2_with fail
              refine (HRD.out _ HW.out).mono ?_
              rintro e w5 ⟨rfl, hx5⟩
              go_wp2_with fail
              refine (HAS.out _).mono ?_
              rintro e w6 ⟨rfl, hx6⟩
              go_wp2
              go_ret2
              exact ⟨by rw [HG.out]; unfold addV; dsimp only; rw [← HE.out]; rfl, HW.out.trans (hx5.trans hx6)⟩
  · rw [if_pos g1] at HX
    rw [decide_eq_false g1] at HE1
    clear g1
    rcases hn5 with ⟨hb, rfl⟩ | ⟨hb, rfl⟩
    · go_enter Tryz.func80, Tryz.ntmps80
      go_wp2_with fail
      refine wp_region_rel 4 1 rfl [11, 12, 13, 14] [[], [0], [], [1, 2]] (by kernel_rfl) (by kernel_rfl) ?_
      apply relPlan_eq'
      · intro V w' hx hf
        with_reducible refine relAt_ops ?_
        intro A ρ hA hρ hcst hfun
        have h0 : ρ (.tmp 0) = .slice a m.length c := (congrFun hρ _).trans (evalMiss hA 0 rfl)
        exact relUpon_move (hk := by rw [h0]; exact ⟨Ext.refl _, rfl⟩)
      apply relPlan_eq'
      · intro V w' hx hf
        with_reducible refine relAt_ops ?_
        intro A ρ hA hρ hcst hfun
        obtain ⟨f11, _⟩ := hf
        have h11 : ρ (.tmp 11) = _ := (congrFun hρ _).trans ((evalHit hA 11 rfl).trans f11)
        simp [relUpon, go_sem, hcst, Ext.refl, h11, hp1]
        rfl
      refine relPlan_by (fun v w => Own 4 w 0 v (Ea.sA.map encT)) (fun _ _ _ h hx => h.ext hx) ?_ ?_
      · intro V w' hx hf
        with_reducible refine relAt_ops ?_
        intro A ρ hA hρ hcst hfun
        simp [relUpon, go_sem, hcst, hfun]
        exact (HMA.out w').mono fun e w'' ⟨v, he, ho, hy⟩ => ⟨v, he, hy, ho.mono (Nat.zero_le _)⟩
      refine relPlan_by (eqv (.bool false)) (eqv_stable _) ?_ ?_
      · intro V w' hx hf
        with_reducible refine relAt_ops ?_
        intro A ρ hA hρ hcst hfun
        obtain ⟨f12, f13, _⟩ := hf
        have h12 : ρ (.tmp 12) = _ := (congrFun hρ _).trans ((evalHit hA 12 rfl).trans f12)
        have h13 : ρ (.tmp 13) = V 13 := (congrFun hρ _).trans (evalHit hA 13 rfl)
        simp [relUpon, go_sem, hfun, h12, h13]
        exact (HE1.out w' _ _ (HW.out.trans hx) f13).mono fun e w'' ⟨he, hy⟩ => ⟨_, he, hy, rfl⟩
      intro V wT hxT hf
      obtain ⟨g11, g12, g13, g14, _⟩ := hf
      simp only [fillA, List.foldl_cons, List.foldl_nil, Act.put, List.setIfInBounds_toArray, List.set_cons_succ, List.set_cons_zero]
      have q14 : V 14 = _ := g14
      rw [q14]
      have HW2 := Lib.hid (HW.out.trans hxT)
      refine wpAny_solo 4 (by kernel_rfl) rfl (fun K hK => ?_)
      go_simp
      refine hK _ _ ?_
      clear hK K
      refine ⟨rfl, ?_⟩
      clear HW
      have HW := HW2
      clear HW2
      go_wp2
      go_ret2
      exact ⟨by rw [← HX.out]; rfl, HW.out⟩
    · go_enter Tryz.func80, Tryz.ntmps80
      go_wp2_with fail
      refine wp_region_rel 4 1 rfl [11, 12, 13, 14] [[], [0], [], [1, 2]] (by kernel_rfl) (by kernel_rfl) ?_
      apply relPlan_eq'
      · intro V w' hx hf
        with_reducible refine relAt_ops ?_
        intro A ρ hA hρ hcst hfun
        have h0 : ρ (.tmp 0) = .slice a m.length c := (congrFun hρ _).trans (evalMiss hA 0 rfl)
        exact relUpon_move (hk := by rw [h0]; exact ⟨Ext.refl _, rfl⟩)
      apply relPlan_eq'
      · intro V w' hx hf
        with_reducible refine relAt_ops ?_
        intro A ρ hA hρ hcst hfun
        obtain ⟨f11, _⟩ := hf
        have h11 : ρ (.tmp 11) = _ := (congrFun hρ _).trans ((evalHit hA 11 rfl).trans f11)
        simp [relUpon, go_sem, hcst, Ext.refl, h11, hp1]
        rfl
      refine relPlan_by (fun v w => Own 4 w 0 v (Ea.sA.map encT)) (fun _ _ _ h hx => h.ext hx) ?_ ?_
      · intro V w' hx hf
        with_reducible refine relAt_ops ?_
        intro A ρ hA hρ hcst hfun
        simp [relUpon, go_sem, hcst, hfun]
        exact (HMA.out w').mono fun e w'' ⟨v, he, ho, hy⟩ => ⟨v, he, hy, ho.mono (Nat.zero_le _)⟩
      refine relPlan_by (eqv (.bool false)) (eqv_stable _) ?_ ?_
      · intro V w' hx hf
        with_reducible refine relAt_ops ?_
        intro A ρ hA hρ hcst hfun
        obtain ⟨f12, f13, _⟩ := hf
        have h12 : ρ (.tmp 12) = _ := (congrFun hρ _).trans ((evalHit hA 12 rfl).trans f12)
        have h13 : ρ (.tmp 13) = V 13 := (congrFun hρ _).trans (evalHit hA 13 rfl)
        simp [relUpon, go_sem, hfun, h12, h13]
        exact (HE1.out w' _ _ (HW.out.trans hx) f13).mono fun e w'' ⟨he, hy⟩ => ⟨_, he, hy, rfl⟩
      intro V wT hxT hf
      obtain ⟨g11, g12, g13, g14, _⟩ := hf
      simp only [fillA, List.foldl_cons, List.foldl_nil, Act.put, List.setIfInBounds_toArray, List.set_cons_succ, List.set_cons_zero]
      have q14 : V 14 = _ := g14
      rw [q14]
      have HW2 := Lib.hid (HW.out.trans hxT)
      refine wpAny_solo 4 (by kernel_rfl) rfl (fun K hK => ?_)
      go_simp
      refine hK _ _ ?_
      clear hK K
      refine ⟨rfl, ?_⟩
      clear HW
      have HW := HW2
      clear HW2
      go_wp2
      go_ret2
      exact ⟨by rw [← HX.out]; rfl, HW.out⟩
end Go.Proofs.YtfpliihglgjijaaGreat

/-
  Chapter 11: the reference's shape, walked.
  Condition: a row of at most 65536 modules.
-/
namespace Go.Proofs.YtfpliihglgjijaaGreat
open Go.RowKit

theorem xsym_any (n : Nat) (hn : n = 95 ∨ n = 67 ∨ n = 51) (v : Value) (m : List Bool) (w : World) (hv : SlK w v (m.map encT)) (hm : m.length = n) :
    Calls Tryz.prog 79 #[v] w fun e w' => e = .returned (xsymV (Ea.rdSym n m)) ∧ Ext w w' := by
  rcases hn with rfl | rfl | rfl
  · exact xsym95_any v m w hv hm
  · exact xsym67_any v m w hv hm
  · exact xsym51_any v m w hv hm
def shapeV (f : Bool) (r : Ea.Got) : Value := if f = true then .tuple #[linV r.1.1 r.1.2.1 r.1.2.2, .int .i64 r.2, .bool true] else .tuple #[linV 0 [] [], .int .i64 0, .bool false]
theorem results_lin3 {fn : Func} {p u z : Tmp} (h : fn.results = #[.cell p 31, .tmp u, .tmp z]) {tmps : Array Value} {w : World} {g : Nat} {t : TypeId} {x y q e f : Value}
    (hp : tmps.getD p undef = .pointer (some ⟨g, 0, none⟩)) (hg : w.heap[g]? = some (.cells #[x, y, q] t (0, 0))) (he : tmps.getD u undef = e) (hf : tmps.getD z undef = f) :
    (results fn tmps).run Tryz.prog w = .ok (.tuple #[.agg #[x, y, q], e, f]) w := by
  have h1 : (results fn tmps).run Tryz.prog w = ((asAddr (tmps.getD p undef)).run Tryz.prog w).andThen fun a w₁ => ((loadVar 31 a).run Tryz.prog w₁).andThen fun v w₂ => .ok (.tuple #[v, tmps.getD u undef, tmps.getD z undef]) w₂ := by
    simp only [results, h]
    simp [Sem.run_bind, Result.andThen]
  rw [h1, hp, he, hf]
  simp only [asAddr, Sem.run_pure, Result.andThen_ok]
  rw [run_loadVar_row w g t _ #[x, y, q] (0, 0) _ hg Tryz.underlying31 rfl (by kernel_rfl)]
  rfl
theorem rdSym_err2 {n : Nat} {s : List Bool} {k : Int} {t : List UInt8} {er : Int} (hr : Ea.rdSym n s = ((k, t), er)) (h : er ≠ 0) : k = 0 ∧ t = [] := by
  have := rdSym_err n s (by rw [hr]; exact h)
  rw [hr] at this
  injection this with h1 h2
  exact ⟨h1, h2⟩

set_option maxRecDepth 100000 in
set_option maxHeartbeats 2000000 in
theorem xshape_none (n : Nat) (hn : n = 95 ∨ n = 67 ∨ n = 51) (v : Value) (m : List Bool) (w : World) (hv : SlK w v (m.map encT)) (hm : m.length ≤ 65536) :
    Calls Tryz.prog 48 #[v, .int .i64 (n : Int), .int .i64 0] w fun e w' => e = .returned (shapeV (Ea.fits m n 0) (Ea.rdShape m n 0)) ∧ Ext w w' := by
  have hn95 : n ≤ 95 := by omega
  have HF : Ea.fits m n 0 = (m.length == n) := by unfold Ea.fits; rw [if_pos rfl]
  obtain ⟨G1, hG1⟩ : ∃ G : Int, (m.length : Int) - (n : Int) = G := ⟨_, rfl⟩
  have hG2 : G1 - 0 = G1 := Int.sub_zero _
  by_cases hfit : m.length = n
  · have hg0 : (G1 != 0) = false := by rw [bne_eq_false_iff_eq]; omega
    obtain ⟨p1, hp1, hq1⟩ := cut_bools_h hv n (by rw [List.length_map]; omega)
    rw [← List.map_take] at hq1
    have HS := Lib.hid (fun w' (h : Ext w w') => xsym_any n hn p1 (m.take n) w' (hq1.ext h) (by rw [List.length_take]; omega))
    rw [HF, show (m.length == n) = true from beq_iff_eq.2 hfit]
    unfold shapeV Ea.rdShape
    rw [if_pos rfl]
    obtain ⟨⟨⟨k, t⟩, er⟩, hr⟩ : ∃ r, Ea.rdSym n (m.take n) = r := ⟨_, rfl⟩
    have HZ := Lib.hid (fun h => rdSym_err2 hr h)
    rw [hr] at HS ⊢
    unfold xsymV at HS
    dsimp only at HS ⊢
    rw [if_pos rfl]
    obtain ⟨T, hT⟩ : ∃ T, Ea.bS t = T := ⟨_, rfl⟩
    have HT := Lib.hid hT
    rw [hT] at HS
    obtain ⟨_, a, c, rfl, hc⟩ := hv
    rw [List.length_map] at hp1 ⊢
    clear hr hT hc hq1 hn HF hfit
    by_cases h0 : er = 0
    · subst h0
      rw [if_neg (fun h => h rfl)]
      go_enter Tryz.func48, Tryz.ntmps48
      go_wp2_with fail
      refine (HS.out _ (by repeat (first | exact Ext.refl _ | assumption | refine Ext.alloc ?_ _ | refine Ext.drew ?_ | refine Ext.drewN ?_ _ | refine Ext.setCell ?_ (Nat.le_refl _) _ | refine Ext.trans ?_ (by assumption)))).mono ?_
      rintro e w1 ⟨rfl, hx⟩
      obtain ⟨z0, z1, z2, z3, z4, z5, z6, HB⟩ := row3_of (row3_new rfl hx)
      have hxw := hx.before
      clear hx
      go_wp2
      refine bodyPost_ret (results_lin3 Tryz.results48 rfl (row3_set HB) rfl rfl) rfl ?_
      exact ⟨by unfold linV; dsimp only; rw [HT.out]; rfl, ((hxw.setCell (Nat.le_refl _) _).setCell (Nat.le_refl _) _).setCell (Nat.le_refl _) _⟩
    · rw [if_pos h0]
      have hb : (er != 0) = true := bne_iff_ne.2 h0
      clear h0 HZ
      go_enter Tryz.func48, Tryz.ntmps48
      go_wp2_with fail
      refine (HS.out _ (by repeat (first | exact Ext.refl _ | assumption | refine Ext.alloc ?_ _ | refine Ext.drew ?_ | refine Ext.drewN ?_ _ | refine Ext.setCell ?_ (Nat.le_refl _) _ | refine Ext.trans ?_ (by assumption)))).mono ?_
      rintro e w1 ⟨rfl, hx⟩
      obtain ⟨z0, z1, z2, z3, z4, z5, z6, HB⟩ := row3_of (row3_new rfl hx)
      have hxw := hx.before
      clear hx
      go_wp2
      refine bodyPost_ret (results_lin3 Tryz.results48 rfl (row3_set HB) rfl rfl) rfl ?_
      exact ⟨rfl, ((hxw.setCell (Nat.le_refl _) _).setCell (Nat.le_refl _) _).setCell (Nat.le_refl _) _⟩
  · have hg0 : (G1 != 0) = true := by rw [bne_iff_ne]; omega
    rw [HF, show (m.length == n) = false from beq_eq_false_iff_ne.2 hfit]
    unfold shapeV
    rw [if_neg Bool.noConfusion]
    obtain ⟨_, a, c, rfl, hc⟩ := hv
    rw [List.length_map]
    clear hc hn HF hfit
    go_enter Tryz.func48, Tryz.ntmps48
    go_wp2
    refine bodyPost_ret (results_lin3 Tryz.results48 rfl (heap_alloc_new _ _) rfl rfl) rfl ?_
    exact ⟨rfl, (by repeat (first | exact Ext.refl _ | assumption | refine Ext.alloc ?_ _ | refine Ext.drew ?_ | refine Ext.drewN ?_ _ | refine Ext.setCell ?_ (Nat.le_refl _) _ | refine Ext.trans ?_ (by assumption)))⟩
theorem all_not (l : List Bool) : l.all (fun b => !b) = !l.any id := by
  induction l with
  | nil => rfl
  | cons b l ih => rw [List.all_cons, List.any_cons, ih]; cases b <;> rfl

set_option maxRecDepth 100000 in
set_option maxHeartbeats 2000000 in
theorem xshape_two (n : Nat) (hn : n = 95 ∨ n = 67 ∨ n = 51) (v : Value) (m : List Bool) (w : World) (hv : SlK w v (m.map encT)) (hm : m.length ≤ 65536) :
    Calls Tryz.prog 48 #[v, .int .i64 (n : Int), .int .i64 20] w fun e w' => e = .returned (shapeV (Ea.fits m n 2) (Ea.rdShape m n 2)) ∧ Ext w w' := by
  have hn95 : n ≤ 95 := by omega
  have HF : Ea.fits m n 2 = (decide (n + 20 + 7 ≤ m.length) && decide (m.length ≤ n + 20 + 12) && !((m.drop n).take (m.length - n - 20)).any id) := by
    unfold Ea.fits
    rw [if_neg (by decide), all_not]; rfl
  obtain ⟨G1, hG1⟩ : ∃ G : Int, (m.length : Int) - (n : Int) = G := ⟨_, rfl⟩
  by_cases h7 : m.length < n + 20 + 7
  · obtain ⟨G, hG⟩ : ∃ G : Int, G1 - 20 = G := ⟨_, rfl⟩
    have hb7 : decide (G < 7) = true := decide_eq_true (by omega)
    rw [HF, show decide (n + 20 + 7 ≤ m.length) = false from decide_eq_false (by omega), Bool.false_and, Bool.false_and]
    unfold shapeV
    rw [if_neg Bool.noConfusion]
    obtain ⟨_, a, c, rfl, hc⟩ := hv
    rw [List.length_map]
    clear hc hn HF h7
    go_enter Tryz.func48, Tryz.ntmps48
    go_wp2
    refine bodyPost_ret (results_lin3 Tryz.results48 rfl (heap_alloc_new _ _) rfl rfl) rfl ?_
    exact ⟨rfl, (by repeat (first | exact Ext.refl _ | assumption | refine Ext.alloc ?_ _ | refine Ext.drew ?_ | refine Ext.drewN ?_ _ | refine Ext.setCell ?_ (Nat.le_refl _) _ | refine Ext.trans ?_ (by assumption)))⟩
  by_cases h12 : n + 20 + 12 < m.length
  · obtain ⟨G, hG⟩ : ∃ G : Int, G1 - 20 = G := ⟨_, rfl⟩
    have hb7 : decide (G < 7) = false := decide_eq_false (by omega)
    have hb12 : decide (12 < G) = true := decide_eq_true (by omega)
    rw [HF, show decide (m.length ≤ n + 20 + 12) = false from decide_eq_false (by omega), Bool.and_false, Bool.false_and]
    unfold shapeV
    rw [if_neg Bool.noConfusion]
    obtain ⟨_, a, c, rfl, hc⟩ := hv
    rw [List.length_map]
    clear hc hn HF h7 h12
    go_enter Tryz.func48, Tryz.ntmps48
    go_wp2
    refine bodyPost_ret (results_lin3 Tryz.results48 rfl (heap_alloc_new _ _) rfl rfl) rfl ?_
    exact ⟨rfl, (by repeat (first | exact Ext.refl _ | assumption | refine Ext.alloc ?_ _ | refine Ext.drew ?_ | refine Ext.drewN ?_ _ | refine Ext.setCell ?_ (Nat.le_refl _) _ | refine Ext.trans ?_ (by assumption)))⟩
  obtain ⟨g, hg⟩ : ∃ g, m.length - n - 20 = g := ⟨_, rfl⟩
  have hgi : G1 - 20 = (g : Int) := by omega
  obtain ⟨e, he⟩ : ∃ e, n + g = e := ⟨_, rfl⟩
  have hei : (n : Int) + (g : Int) = (e : Int) := by omega
  obtain ⟨p3, hp3, hq3⟩ := slice_bools hv n e (by omega) (by rw [List.length_map]; omega)
  rw [← List.map_drop, ← List.map_take, show e - n = g by omega] at hq3
  have HD := Lib.hid (fun w' (h : Ext w w') => xdark_any p3 ((m.drop n).take g) w' (hq3.ext h) (by rw [List.length_take, List.length_drop]; omega))
  have hb7 : decide ((g : Int) < 7) = false := decide_eq_false (by omega)
  have hb12 : decide (12 < (g : Int)) = false := decide_eq_false (by omega)
  rw [HF, show decide (n + 20 + 7 ≤ m.length) = true from decide_eq_true (by omega), show decide (m.length ≤ n + 20 + 12) = true from decide_eq_true (by omega), hg, Bool.true_and, Bool.true_and]
  have hg12 : g ≤ 12 := by omega
  have hem : e ≤ m.length := by omega
  cases hdk : ((m.drop n).take g).any id with
  | true =>
    rw [hdk] at HD
    unfold shapeV
    rw [if_neg (show ¬ ((!true) = true) from Bool.noConfusion)]
    obtain ⟨_, a, c, rfl, hc⟩ := hv
    rw [List.length_map] at hp3 ⊢
    clear hc hn HF hq3 hg he hdk h7 h12
    go_enter Tryz.func48, Tryz.ntmps48
    go_wp2_with fail
    refine (HD.out _ (by repeat (first | exact Ext.refl _ | assumption | refine Ext.alloc ?_ _ | refine Ext.drew ?_ | refine Ext.drewN ?_ _ | refine Ext.setCell ?_ (Nat.le_refl _) _ | refine Ext.trans ?_ (by assumption)))).mono ?_
    rintro e w1 ⟨rfl, rfl⟩
    go_wp2
    refine bodyPost_ret (results_lin3 Tryz.results48 rfl (heap_alloc_new _ _) rfl rfl) rfl ?_
    exact ⟨rfl, (by repeat (first | exact Ext.refl _ | assumption | refine Ext.alloc ?_ _ | refine Ext.drew ?_ | refine Ext.drewN ?_ _ | refine Ext.setCell ?_ (Nat.le_refl _) _ | refine Ext.trans ?_ (by assumption)))⟩
  | false =>
    rw [hdk] at HD
    obtain ⟨p1, hp1, hq1⟩ := cut_bools_h hv n (by rw [List.length_map]; omega)
    rw [← List.map_take] at hq1
    have HS := Lib.hid (fun w' (h : Ext w w') => xsym_any n hn p1 (m.take n) w' (hq1.ext h) (by rw [List.length_take]; omega))
    obtain ⟨p2, hp2, hq2⟩ := cut_bools_l hv e (by rw [List.length_map]; omega)
    rw [← List.map_drop] at hq2
    have HA := Lib.hid (fun w' (h : Ext w w') => xreadAddOn_any 2 (by decide) p2 (m.drop e) w' (hq2.ext h) (by rw [List.length_drop]; show _ = 20; omega))
    unfold shapeV Ea.rdShape
    rw [if_pos (show (!false) = true from rfl)]
    have e2 : m.length - Ea.wAdd 2 = e := by show m.length - 20 = e; omega
    rw [e2]
    obtain ⟨⟨⟨k, t⟩, er⟩, hr⟩ : ∃ r, Ea.rdSym n (m.take n) = r := ⟨_, rfl⟩
    rw [hr] at HS ⊢
    unfold xsymV at HS
    obtain ⟨⟨al, ae⟩, hra⟩ : ∃ r, Ea.rdAdd 2 (m.drop e) = r := ⟨_, rfl⟩
    rw [hra] at HA ⊢
    unfold addV at HA
    dsimp only at HS HA ⊢
    rw [if_neg (show ¬ 2 = 0 by decide)]
    obtain ⟨T, hT⟩ : ∃ T, Ea.bS t = T := ⟨_, rfl⟩
    have HT := Lib.hid hT
    rw [hT] at HS
    obtain ⟨AL, hAL⟩ : ∃ T, Ea.bS al = T := ⟨_, rfl⟩
    have HAL := Lib.hid hAL
    rw [hAL] at HA
    obtain ⟨_, a, c, rfl, hc⟩ := hv
    rw [List.length_map] at hp1 hp2 hp3 ⊢
    clear hr hra hT hAL hc hq1 hq2 hq3 hn HF hg he hdk e2 h7 h12
    by_cases h0 : er = 0
    · subst h0
      rw [if_neg (fun h => h rfl)]
      by_cases ha0 : ae = 0
      · subst ha0
        rw [if_neg (fun h => h rfl)]
        go_enter Tryz.func48, Tryz.ntmps48
        go_wp2_with fail
        refine (HD.out _ (by repeat (first | exact Ext.refl _ | assumption | refine Ext.alloc ?_ _ | refine Ext.drew ?_ | refine Ext.drewN ?_ _ | refine Ext.setCell ?_ (Nat.le_refl _) _ | refine Ext.trans ?_ (by assumption)))).mono ?_
        rintro e w1 ⟨rfl, rfl⟩
        go_wp2_with fail
        refine (HS.out _ (by repeat (first | exact Ext.refl _ | assumption | refine Ext.alloc ?_ _ | refine Ext.drew ?_ | refine Ext.drewN ?_ _ | refine Ext.setCell ?_ (Nat.le_refl _) _ | refine Ext.trans ?_ (by assumption)))).mono ?_
        rintro e w2 ⟨rfl, hx⟩
        go_wp2_with fail
        refine (HA.out _ (Ext.before hx)).mono ?_
        rintro e w3 ⟨rfl, hx3⟩
        have hx4 := hx.trans hx3
        obtain ⟨z0, z1, z2, z3, z4, z5, z6, HB⟩ := row3_of (row3_new rfl hx4)
        have hxw := hx4.before
        clear hx hx3 hx4
        go_wp2
        refine bodyPost_ret (results_lin3 Tryz.results48 rfl (row3_set HB) rfl rfl) rfl ?_
        exact ⟨by unfold linV; dsimp only; rw [HT.out, HAL.out]; rfl, ((hxw.setCell (Nat.le_refl _) _).setCell (Nat.le_refl _) _).setCell (Nat.le_refl _) _⟩
      · rw [if_pos ha0]
        have hb : (ae != 0) = true := bne_iff_ne.2 ha0
        clear ha0
        go_enter Tryz.func48, Tryz.ntmps48
        go_wp2_with fail
        refine (HD.out _ (by repeat (first | exact Ext.refl _ | assumption | refine Ext.alloc ?_ _ | refine Ext.drew ?_ | refine Ext.drewN ?_ _ | refine Ext.setCell ?_ (Nat.le_refl _) _ | refine Ext.trans ?_ (by assumption)))).mono ?_
        rintro e w1 ⟨rfl, rfl⟩
        go_wp2_with fail
        refine (HS.out _ (by repeat (first | exact Ext.refl _ | assumption | refine Ext.alloc ?_ _ | refine Ext.drew ?_ | refine Ext.drewN ?_ _ | refine Ext.setCell ?_ (Nat.le_refl _) _ | refine Ext.trans ?_ (by assumption)))).mono ?_
        rintro e w2 ⟨rfl, hx⟩
        go_wp2_with fail
        refine (HA.out _ (Ext.before hx)).mono ?_
        rintro e w3 ⟨rfl, hx3⟩
        have hx4 := hx.trans hx3
        obtain ⟨z0, z1, z2, z3, z4, z5, z6, HB⟩ := row3_of (row3_new rfl hx4)
        have hxw := hx4.before
        clear hx hx3 hx4
        go_wp2
        refine bodyPost_ret (results_lin3 Tryz.results48 rfl (row3_set HB) rfl rfl) rfl ?_
        exact ⟨rfl, ((hxw.setCell (Nat.le_refl _) _).setCell (Nat.le_refl _) _).setCell (Nat.le_refl _) _⟩
    · rw [if_pos h0]
      have hb : (er != 0) = true := bne_iff_ne.2 h0
      clear h0
      go_enter Tryz.func48, Tryz.ntmps48
      go_wp2_with fail
      refine (HD.out _ (by repeat (first | exact Ext.refl _ | assumption | refine Ext.alloc ?_ _ | refine Ext.drew ?_ | refine Ext.drewN ?_ _ | refine Ext.setCell ?_ (Nat.le_refl _) _ | refine Ext.trans ?_ (by assumption)))).mono ?_
      rintro e w1 ⟨rfl, rfl⟩
      go_wp2_with fail
      refine (HS.out _ (by repeat (first | exact Ext.refl _ | assumption | refine Ext.alloc ?_ _ | refine Ext.drew ?_ | refine Ext.drewN ?_ _ | refine Ext.setCell ?_ (Nat.le_refl _) _ | refine Ext.trans ?_ (by assumption)))).mono ?_
      rintro e w2 ⟨rfl, hx⟩
      obtain ⟨z0, z1, z2, z3, z4, z5, z6, HB⟩ := row3_of (row3_new rfl hx)
      have hxw := hx.before
      clear hx
      go_wp2
      refine bodyPost_ret (results_lin3 Tryz.results48 rfl (row3_set HB) rfl rfl) rfl ?_
      exact ⟨rfl, ((hxw.setCell (Nat.le_refl _) _).setCell (Nat.le_refl _) _).setCell (Nat.le_refl _) _⟩
set_option maxRecDepth 100000 in
set_option maxHeartbeats 2000000 in
theorem xshape_five (n : Nat) (hn : n = 95 ∨ n = 67 ∨ n = 51) (v : Value) (m : List Bool) (w : World) (hv : SlK w v (m.map encT)) (hm : m.length ≤ 65536) :
    Calls Tryz.prog 48 #[v, .int .i64 (n : Int), .int .i64 47] w fun e w' => e = .returned (shapeV (Ea.fits m n 5) (Ea.rdShape m n 5)) ∧ Ext w w' := by
  have hn95 : n ≤ 95 := by omega
  have HF : Ea.fits m n 5 = (decide (n + 47 + 7 ≤ m.length) && decide (m.length ≤ n + 47 + 12) && !((m.drop n).take (m.length - n - 47)).any id) := by
    unfold Ea.fits
    rw [if_neg (by decide), all_not]; rfl
  obtain ⟨G1, hG1⟩ : ∃ G : Int, (m.length : Int) - (n : Int) = G := ⟨_, rfl⟩
  by_cases h7 : m.length < n + 47 + 7
  · obtain ⟨G, hG⟩ : ∃ G : Int, G1 - 47 = G := ⟨_, rfl⟩
    have hb7 : decide (G < 7) = true := decide_eq_true (by omega)
    rw [HF, show decide (n + 47 + 7 ≤ m.length) = false from decide_eq_false (by omega), Bool.false_and, Bool.false_and]
    unfold shapeV
    rw [if_neg Bool.noConfusion]
    obtain ⟨_, a, c, rfl, hc⟩ := hv
    rw [List.length_map]
    clear hc hn HF h7
    go_enter Tryz.func48, Tryz.ntmps48
    go_wp2
    refine bodyPost_ret (results_lin3 Tryz.results48 rfl (heap_alloc_new _ _) rfl rfl) rfl ?_
    exact ⟨rfl, (by repeat (first | exact Ext.refl _ | assumption | refine Ext.alloc ?_ _ | refine Ext.drew ?_ | refine Ext.drewN ?_ _ | refine Ext.setCell ?_ (Nat.le_refl _) _ | refine Ext.trans ?_ (by assumption)))⟩
  by_cases h12 : n + 47 + 12 < m.length
  · obtain ⟨G, hG⟩ : ∃ G : Int, G1 - 47 = G := ⟨_, rfl⟩
    have hb7 : decide (G < 7) = false := decide_eq_false (by omega)
    have hb12 : decide (12 < G) = true := decide_eq_true (by omega)
    rw [HF, show decide (m.length ≤ n + 47 + 12) = false from decide_eq_false (by omega), Bool.and_false, Bool.false_and]
    unfold shapeV
    rw [if_neg Bool.noConfusion]
    obtain ⟨_, a, c, rfl, hc⟩ := hv
    rw [List.length_map]
    clear hc hn HF h7 h12
    go_enter Tryz.func48, Tryz.ntmps48
    go_wp2
    refine bodyPost_ret (results_lin3 Tryz.results48 rfl (heap_alloc_new _ _) rfl rfl) rfl ?_
    exact ⟨rfl, (by repeat (first | exact Ext.refl _ | assumption | refine Ext.alloc ?_ _ | refine Ext.drew ?_ | refine Ext.drewN ?_ _ | refine Ext.setCell ?_ (Nat.le_refl _) _ | refine Ext.trans ?_ (by assumption)))⟩
  obtain ⟨g, hg⟩ : ∃ g, m.length - n - 47 = g := ⟨_, rfl⟩
  have hgi : G1 - 47 = (g : Int) := by omega
  obtain ⟨e, he⟩ : ∃ e, n + g = e := ⟨_, rfl⟩
  have hei : (n : Int) + (g : Int) = (e : Int) := by omega
  obtain ⟨p3, hp3, hq3⟩ := slice_bools hv n e (by omega) (by rw [List.length_map]; omega)
  rw [← List.map_drop, ← List.map_take, show e - n = g by omega] at hq3
  have HD := Lib.hid (fun w' (h : Ext w w') => xdark_any p3 ((m.drop n).take g) w' (hq3.ext h) (by rw [List.length_take, List.length_drop]; omega))
  have hb7 : decide ((g : Int) < 7) = false := decide_eq_false (by omega)
  have hb12 : decide (12 < (g : Int)) = false := decide_eq_false (by omega)
  rw [HF, show decide (n + 47 + 7 ≤ m.length) = true from decide_eq_true (by omega), show decide (m.length ≤ n + 47 + 12) = true from decide_eq_true (by omega), hg, Bool.true_and, Bool.true_and]
  have hg12 : g ≤ 12 := by omega
  have hem : e ≤ m.length := by omega
  cases hdk : ((m.drop n).take g).any id with
  | true =>
    rw [hdk] at HD
    unfold shapeV
    rw [if_neg (show ¬ ((!true) = true) from Bool.noConfusion)]
    obtain ⟨_, a, c, rfl, hc⟩ := hv
    rw [List.length_map] at hp3 ⊢
    clear hc hn HF hq3 hg he hdk h7 h12
    go_enter Tryz.func48, Tryz.ntmps48
    go_wp2_with fail
    refine (HD.out _ (by repeat (first | exact Ext.refl _ | assumption | refine Ext.alloc ?_ _ | refine Ext.drew ?_ | refine Ext.drewN ?_ _ | refine Ext.setCell ?_ (Nat.le_refl _) _ | refine Ext.trans ?_ (by assumption)))).mono ?_
    rintro e w1 ⟨rfl, rfl⟩
    go_wp2
    refine bodyPost_ret (results_lin3 Tryz.results48 rfl (heap_alloc_new _ _) rfl rfl) rfl ?_
    exact ⟨rfl, (by repeat (first | exact Ext.refl _ | assumption | refine Ext.alloc ?_ _ | refine Ext.drew ?_ | refine Ext.drewN ?_ _ | refine Ext.setCell ?_ (Nat.le_refl _) _ | refine Ext.trans ?_ (by assumption)))⟩
  | false =>
    rw [hdk] at HD
    obtain ⟨p1, hp1, hq1⟩ := cut_bools_h hv n (by rw [List.length_map]; omega)
    rw [← List.map_take] at hq1
    have HS := Lib.hid (fun w' (h : Ext w w') => xsym_any n hn p1 (m.take n) w' (hq1.ext h) (by rw [List.length_take]; omega))
    obtain ⟨p2, hp2, hq2⟩ := cut_bools_l hv e (by rw [List.length_map]; omega)
    rw [← List.map_drop] at hq2
    have HA := Lib.hid (fun w' (h : Ext w w') => xreadAddOn_any 5 (by decide) p2 (m.drop e) w' (hq2.ext h) (by rw [List.length_drop]; show _ = 47; omega))
    unfold shapeV Ea.rdShape
    rw [if_pos (show (!false) = true from rfl)]
    have e2 : m.length - Ea.wAdd 5 = e := by show m.length - 47 = e; omega
    rw [e2]
    obtain ⟨⟨⟨k, t⟩, er⟩, hr⟩ : ∃ r, Ea.rdSym n (m.take n) = r := ⟨_, rfl⟩
    rw [hr] at HS ⊢
    unfold xsymV at HS
    obtain ⟨⟨al, ae⟩, hra⟩ : ∃ r, Ea.rdAdd 5 (m.drop e) = r := ⟨_, rfl⟩
    rw [hra] at HA ⊢
    unfold addV at HA
    dsimp only at HS HA ⊢
    rw [if_neg (show ¬ 5 = 0 by decide)]
    obtain ⟨T, hT⟩ : ∃ T, Ea.bS t = T := ⟨_, rfl⟩
    have HT := Lib.hid hT
    rw [hT] at HS
    obtain ⟨AL, hAL⟩ : ∃ T, Ea.bS al = T := ⟨_, rfl⟩
    have HAL := Lib.hid hAL
    rw [hAL] at HA
    obtain ⟨_, a, c, rfl, hc⟩ := hv
    rw [List.length_map] at hp1 hp2 hp3 ⊢
    clear hr hra hT hAL hc hq1 hq2 hq3 hn HF hg he hdk e2 h7 h12
    by_cases h0 : er = 0
    · subst h0
      rw [if_neg (fun h => h rfl)]
      by_cases ha0 : ae = 0
      · subst ha0
        rw [if_neg (fun h => h rfl)]
        go_enter Tryz.func48, Tryz.ntmps48
        go_wp2_with fail
        refine (HD.out _ (by repeat (first | exact Ext.refl _ | assumption | refine Ext.alloc ?_ _ | refine Ext.drew ?_ | refine Ext.drewN ?_ _ | refine Ext.setCell ?_ (Nat.le_refl _) _ | refine Ext.trans ?_ (by assumption)))).mono ?_
        rintro e w1 ⟨rfl, rfl⟩
        go_wp2_with fail
        refine (HS.out _ (by repeat (first | exact Ext.refl _ | assumption | refine Ext.alloc ?_ _ | refine Ext.drew ?_ | refine Ext.drewN ?_ _ | refine Ext.setCell ?_ (Nat.le_refl _) _ | refine Ext.trans ?_ (by assumption)))).mono ?_
        rintro e w2 ⟨rfl, hx⟩
        go_wp2_with fail
        refine (HA.out _ (Ext.before hx)).mono ?_
        rintro e w3 ⟨rfl, hx3⟩
        have hx4 := hx.trans hx3
        obtain ⟨z0, z1, z2, z3, z4, z5, z6, HB⟩ := row3_of (row3_new rfl hx4)
        have hxw := hx4.before
        clear hx hx3 hx4
        go_wp2
        refine bodyPost_ret (results_lin3 Tryz.results48 rfl (row3_set HB) rfl rfl) rfl ?_
        exact ⟨by unfold linV; dsimp only; rw [HT.out, HAL.out]; rfl, ((hxw.setCell (Nat.le_refl _) _).setCell (Nat.le_refl _) _).setCell (Nat.le_refl _) _⟩
      · rw [if_pos ha0]
        have hb : (ae != 0) = true := bne_iff_ne.2 ha0
        clear ha0
        go_enter Tryz.func48, Tryz.ntmps48
        go_wp2_with fail
        refine (HD.out _ (by repeat (first | exact Ext.refl _ | assumption | refine Ext.alloc ?_ _ | refine Ext.drew ?_ | refine Ext.drewN ?_ _ | refine Ext.setCell ?_ (Nat.le_refl _) _ | refine Ext.trans ?_ (by assumption)))).mono ?_
        rintro e w1 ⟨rfl, rfl⟩
        go_wp2_with fail
        refine (HS.out _ (by repeat (first | exact Ext.refl _ | assumption | refine Ext.alloc ?_ _ | refine Ext.drew ?_ | refine Ext.drewN ?_ _ | refine Ext.setCell ?_ (Nat.le_refl _) _ | refine Ext.trans ?_ (by assumption)))).mono ?_
        rintro e w2 ⟨rfl, hx⟩
        go_wp2_with fail
        refine (HA.out _ (Ext.before hx)).mono ?_
        rintro e w3 ⟨rfl, hx3⟩
        have hx4 := hx.trans hx3
        obtain ⟨z0, z1, z2, z3, z4, z5, z6, HB⟩ := row3_of (row3_new rfl hx4)
        have hxw := hx4.before
        clear hx hx3 hx4
        go_wp2
        refine bodyPost_ret (results_lin3 Tryz.results48 rfl (row3_set HB) rfl rfl) rfl ?_
        exact ⟨rfl, ((hxw.setCell (Nat.le_refl _) _).setCell (Nat.le_refl _) _).setCell (Nat.le_refl _) _⟩
    · rw [if_pos h0]
      have hb : (er != 0) = true := bne_iff_ne.2 h0
      clear h0
      go_enter Tryz.func48, Tryz.ntmps48
      go_wp2_with fail
      refine (HD.out _ (by repeat (first | exact Ext.refl _ | assumption | refine Ext.alloc ?_ _ | refine Ext.drew ?_ | refine Ext.drewN ?_ _ | refine Ext.setCell ?_ (Nat.le_refl _) _ | refine Ext.trans ?_ (by assumption)))).mono ?_
      rintro e w1 ⟨rfl, rfl⟩
      go_wp2_with fail
      refine (HS.out _ (by repeat (first | exact Ext.refl _ | assumption | refine Ext.alloc ?_ _ | refine Ext.drew ?_ | refine Ext.drewN ?_ _ | refine Ext.setCell ?_ (Nat.le_refl _) _ | refine Ext.trans ?_ (by assumption)))).mono ?_
      rintro e w2 ⟨rfl, hx⟩
      obtain ⟨z0, z1, z2, z3, z4, z5, z6, HB⟩ := row3_of (row3_new rfl hx)
      have hxw := hx.before
      clear hx
      go_wp2
      refine bodyPost_ret (results_lin3 Tryz.results48 rfl (row3_set HB) rfl rfl) rfl ?_
      exact ⟨rfl, ((hxw.setCell (Nat.le_refl _) _).setCell (Nat.le_refl _) _).setCell (Nat.le_refl _) _⟩
theorem xshape_any (n a : Nat) (hn : n = 95 ∨ n = 67 ∨ n = 51) (ha : a = 0 ∨ a = 2 ∨ a = 5) (v : Value) (m : List Bool) (w : World) (hv : SlK w v (m.map encT)) (hm : m.length ≤ 65536) :
    Calls Tryz.prog 48 #[v, .int .i64 (n : Int), .int .i64 (Ea.wAdd a : Int)] w fun e w' => e = .returned (shapeV (Ea.fits m n a) (Ea.rdShape m n a)) ∧ Ext w w' := by
  rcases ha with rfl | rfl | rfl
  · exact xshape_none n hn v m w hv hm
  · exact xshape_two n hn v m w hv hm
  · exact xshape_five n hn v m w hv hm
end Go.Proofs.YtfpliihglgjijaaGreat

/-
  Chapter 11: the reference's Decode, walked, and EanDecodes.
  Condition: a row within the reach.
-/
namespace Go.Proofs.YtfpliihglgjijaaGreat
open Go.RowKit

theorem ldg_trl_lt {l : List Bool} (h : Ea.ldg l ≠ l.length) : Ea.ldg l + Ea.trl l < l.length := by
  have hle := Ea.ldg_le l
  obtain ⟨r, hr⟩ := Ea.ldg_split l (by omega)
  have h2 : Ea.trl l ≤ r.length := by
    unfold Ea.trl
    rw [hr, List.reverse_append, List.reverse_cons, List.append_assoc]
    have := ldg_app r.reverse (Ea.lgt (Ea.ldg l)).reverse
    rw [List.length_reverse] at this
    exact this
  have h3 : l.length = Ea.ldg l + (r.length + 1) := by
    rw [hr, List.length_append, List.length_cons, ← hr]; simp [Ea.lgt]
  omega
def mrL : List Nat := [0, 20, 47]
theorem mr_of {i : Nat} (h : i < 3) : mrL.getD i 0 = Ea.wAdd (dsL.getD i 0) := by
  have h' : i = 0 ∨ i = 1 ∨ i = 2 := by omega
  rcases h' with rfl | rfl | rfl <;> rfl

set_option maxRecDepth 100000 in
set_option maxHeartbeats 1000000 in
theorem xdecode_long (v : Value) (m : List Bool) (w : World) (hv : SlK w v (m.map encT)) (hm : m.length ≤ 9223372036854775807) (hl : 65536 < m.length) :
    Calls Tryz.prog 16 #[v] w fun e w' => e = .returned (gotV (Ea.dec m)) ∧ Ext w w' := by
  have HX : Hid (Ea.dec m = ((0, [], []), 4)) := Lib.hid (by unfold Ea.dec; rw [if_pos hl])
  obtain ⟨_, a, c, rfl, _⟩ := hv
  rw [List.length_map]
  rw [HX.out]
  go_enter Tryz.func16, Tryz.ntmps16
  go_wp2
  refine bodyPost_ret (results_lin Tryz.results16 rfl (heap_alloc_new _ _) rfl) rfl ?_
  exact ⟨rfl, (by repeat (first | exact Ext.refl _ | assumption | refine Ext.alloc ?_ _ | refine Ext.drew ?_ | refine Ext.drewN ?_ _ | refine Ext.setCell ?_ (Nat.le_refl _) _ | refine Ext.trans ?_ (by assumption)))⟩

set_option maxRecDepth 100000 in
set_option maxHeartbeats 3000000 in
theorem xdecode_any (v : Value) (m : List Bool) (w : World) (hv : SlK w v (m.map encT)) (hm6 : m.length ≤ 65536) :
    Calls Tryz.prog 16 #[v] w fun e w' => e = .returned (gotV (Ea.dec m)) ∧ Ext w w' := by
  obtain ⟨res, hres⟩ : ∃ res, Ea.dec m = res := ⟨_, rfl⟩
  rw [hres]
  have HX := Lib.hid hres
  unfold Ea.dec at HX
  rw [if_neg (by omega)] at HX
  have HM := Lib.hid (fun w' (h : Ext w w') => xtrim_any v m w' (hv.ext h) (by omega))
  have HV := Lib.hid hv
  obtain ⟨a, c, rfl, hc⟩ := hv.2
  rw [List.length_map] at HM HV ⊢
  clear hres hv hc
  have hlt1 : Ea.ldg m ≠ m.length → Ea.ldg m + Ea.trl m < m.length := ldg_trl_lt
  have hle1 := Ea.ldg_le m
  obtain ⟨L, hL⟩ : ∃ L, Ea.ldg m = L := ⟨_, rfl⟩
  obtain ⟨R, hR⟩ : ∃ R, Ea.trl m = R := ⟨_, rfl⟩
  rw [hL, hR] at HX HM hlt1
  rw [hL] at hle1
  obtain ⟨t, ht⟩ : ∃ t, L + (m.length - R - L) = t := ⟨_, rfl⟩
  rw [ht] at HM
  by_cases h2 : L = m.length
  · rw [if_pos h2] at HX
    have b2 : ((L : Int) == (t : Int)) = true := beq_iff_eq.2 (by omega)
    clear hL hR h2 ht hlt1 hle1
    go_enter Tryz.func16, Tryz.ntmps16
    go_wp2_with fail
    refine (HM.out _ (by repeat (first | exact Ext.refl _ | assumption | refine Ext.alloc ?_ _ | refine Ext.drew ?_ | refine Ext.drewN ?_ _ | refine Ext.setCell ?_ (Nat.le_refl _) _ | refine Ext.trans ?_ (by assumption)))).mono ?_
    rintro e w1 ⟨rfl, rfl⟩
    go_wp2
    refine bodyPost_ret (results_lin Tryz.results16 rfl (heap_alloc_new _ _) rfl) rfl ?_
    exact ⟨by rw [← HX.out]; rfl, (by repeat (first | exact Ext.refl _ | assumption | refine Ext.alloc ?_ _ | refine Ext.drew ?_ | refine Ext.drewN ?_ _ | refine Ext.setCell ?_ (Nat.le_refl _) _ | refine Ext.trans ?_ (by assumption)))⟩
  · rw [if_neg h2] at HX
    have hlt := hlt1 h2
    have b2 : ((L : Int) == (t : Int)) = false := beq_eq_false_iff_ne.2 (by omega)
    have hti : (m.length : Int) - (t : Int) = (R : Int) := by omega
    by_cases h3 : L < 7 ∨ R < 7
    · rw [if_pos h3] at HX
      have b3 : (decide ((L : Int) < 7) = true) ∨ (decide ((L : Int) < 7) = false ∧ decide ((R : Int) < 7) = true) := by
        by_cases h : L < 7
        · exact .inl (decide_eq_true (by omega))
        · exact .inr ⟨decide_eq_false (by omega), decide_eq_true (by omega)⟩
      clear hL hR h2 h3 ht hlt1
      rcases b3 with b3 | ⟨b3, b4⟩
      all_goals
        go_enter Tryz.func16, Tryz.ntmps16
        go_wp2_with fail
        refine (HM.out _ (by repeat (first | exact Ext.refl _ | assumption | refine Ext.alloc ?_ _ | refine Ext.drew ?_ | refine Ext.drewN ?_ _ | refine Ext.setCell ?_ (Nat.le_refl _) _ | refine Ext.trans ?_ (by assumption)))).mono ?_
        rintro e w1 ⟨rfl, rfl⟩
        go_wp2
        refine bodyPost_ret (results_lin Tryz.results16 rfl (heap_alloc_new _ _) rfl) rfl ?_
        exact ⟨by rw [← HX.out]; rfl, (by repeat (first | exact Ext.refl _ | assumption | refine Ext.alloc ?_ _ | refine Ext.drew ?_ | refine Ext.drewN ?_ _ | refine Ext.setCell ?_ (Nat.le_refl _) _ | refine Ext.trans ?_ (by assumption)))⟩
    · rw [if_neg h3] at HX
      have b3 : decide ((L : Int) < 7) = false := decide_eq_false (by omega)
      have b4 : decide ((R : Int) < 7) = false := decide_eq_false (by omega)
      obtain ⟨S, hS⟩ : ∃ S, (m.drop L).take (m.length - R - L) = S := ⟨_, rfl⟩
      rw [hS] at HX
      have hSl : S.length ≤ 65536 := by rw [← hS, List.length_take, List.length_drop]; omega
      obtain ⟨v', hv1, hv2⟩ := slice_bools HV.out L t (by omega) (by rw [List.length_map]; omega)
      rw [← List.map_drop, ← List.map_take, show t - L = m.length - R - L by omega, hS] at hv2
      have HS2 := Lib.hid hv2
      have HSL := Lib.hid hSl
      have htm : t ≤ m.length := by omega
      clear hL hR h2 h3 hS hv2 hSl ht hlt1 hlt hle1
      go_enter Tryz.func16, Tryz.ntmps16
      go_wp2_with fail
      refine (HM.out _ (by repeat (first | exact Ext.refl _ | assumption | refine Ext.alloc ?_ _ | refine Ext.drew ?_ | refine Ext.drewN ?_ _ | refine Ext.setCell ?_ (Nat.le_refl _) _ | refine Ext.trans ?_ (by assumption)))).mono ?_
      rintro e w1 ⟨rfl, rfl⟩
      obtain ⟨w1, hw1⟩ : ∃ w1, w.alloc (.cells #[.int .i64 0, .string ⟨#[]⟩, .string ⟨#[]⟩] 31) = w1 := ⟨_, rfl⟩
      rw [hw1]
      have HB0 := Lib.hid (row3_new rfl (by rw [hw1]; exact Ext.refl w1) : w1.heap[w.heap.size]? = some (.cells #[.int .i64 0, .string ⟨#[]⟩, .string ⟨#[]⟩] 31 (0, 0)))
      have hxw : Ext w w1 := by rw [← hw1]; exact (Ext.refl w).alloc _
      clear HM hw1
      go_wp2_with fail
      clear b2 b3 b4 hti
      have HC3 := Lib.hid (fun (w' : World) (x : Ext (w1.alloc (.cells #[.int .i64 95, .int .i64 67, .int .i64 51] 3)) w') (i : Nat) (hi : i < 3) => row3i (f := fun i => ((wsL.getD i 0 : Nat) : Int)) rfl rfl rfl x hi)
      go_loopw [6, 39] (fun v6 v39 wr => ∃ (i : Nat) (fe : Int), i ≤ 3 ∧ v39 = .int .i64 (i : Int) ∧ v6 = .int .i64 fe ∧ Hid (res = Ea.decF S fe (leftS i 0)) ∧ Ext (w1.alloc (.cells #[.int .i64 95, .int .i64 67, .int .i64 51] 3)) wr) (fun _ v39 _ => 3 - (intOf v39).toNat)
      case atStart => exact ⟨0, 7, by omega, rfl, rfl, Lib.hid HX.out.symm, Ext.refl _⟩
      case round =>
        obtain ⟨i, fe, hi, rfl, rfl, HR, hxr⟩ := hrel
        by_cases hlt : i < 3
        · have hcell := HC3.out wr hxr i hlt
          obtain ⟨wo, rfl⟩ : ∃ wo : World, wo = wr := ⟨_, rfl⟩
          have HW3 := Lib.hid (ws_of hlt)
          have HLA := Lib.hid (fun j (hj : j < 3) => leftS_at i j hlt hj)
          obtain ⟨n, hn⟩ : ∃ n, wsL.getD i 0 = n := ⟨_, rfl⟩
          rw [hn] at HW3 HLA hcell
          have hi3 : decide ((i : Int) < 3) = true := decide_eq_true (by omega)
          clear hn
          go_wp2_with fail
          have HD3 := Lib.hid (fun (w' : World) (x : Ext (wo.alloc (.cells #[.int .i64 0, .int .i64 20, .int .i64 47] 3)) w') (i : Nat) (hi : i < 3) => row3i (f := fun i => ((mrL.getD i 0 : Nat) : Int)) rfl rfl rfl x hi)
          go_loopw [6, 45] (fun v6 v45 wq => ∃ (j : Nat) (fe : Int), j ≤ 3 ∧ v45 = .int .i64 (j : Int) ∧ v6 = .int .i64 fe ∧ Hid (res = Ea.decF S fe (leftS i j)) ∧ Ext (wo.alloc (.cells #[.int .i64 0, .int .i64 20, .int .i64 47] 3)) wq) (fun _ v45 _ => 3 - (intOf v45).toNat)
          case atStart => exact ⟨0, fe, by omega, rfl, rfl, HR, Ext.refl _⟩
          case round =>
            clear HR
            obtain ⟨j, fe, hj, rfl, rfl, HR, hxq⟩ := hrel
            by_cases hjt : j < 3
            · have hcel2 := HD3.out wr hxq j hjt
              rw [mr_of hjt] at hcel2
              have HA3 := Lib.hid (ds_of hjt)
              have HLJ := Lib.hid (HLA.out j hjt)
              obtain ⟨a2, ha2⟩ : ∃ a2, dsL.getD j 0 = a2 := ⟨_, rfl⟩
              rw [ha2] at HA3 HLJ hcel2
              have HST : Hid (res = if Ea.fits S n a2 = false then Ea.decF S fe (leftS i (j + 1)) else if (Ea.rdShape S n a2).2 = 0 then Ea.rdShape S n a2 else Ea.decF S (if fe = 7 then (Ea.rdShape S n a2).2 else fe) (leftS i (j + 1))) := Lib.hid (by rw [HR.out, HLJ.out]; rfl)
              have hxo := hxw.trans ((Ext.before hxr).trans (Ext.before hxq))
              have HSH := Lib.hid (fun w' (h : Ext w w') => xshape_any n a2 HW3.out HA3.out v' S w' (HS2.out.ext h) HSL.out)
              obtain ⟨q2, hq2⟩ : ∃ q, Ea.wAdd a2 = q := ⟨_, rfl⟩
              rw [hq2] at HSH hcel2
              clear ha2 hq2
              have HXQ := Lib.hid hxq
              have HXO := Lib.hid hxo
              cases hf : Ea.fits S n a2
              · rw [hf, show shapeV false (Ea.rdShape S n a2) = .tuple #[.agg #[.int .i64 0, .string ⟨#[]⟩, .string ⟨#[]⟩], .int .i64 0, .bool false] from rfl] at HSH
                have HST2 : Hid (res = Ea.decF S fe (leftS i (j + 1))) := Lib.hid (by rw [HST.out, if_pos hf])
                clear hf HST HR HLJ hxq hxo
                go_wp2_with fail
                refine (HSH.out _ HXO.out).mono ?_
                rintro e w4 ⟨rfl, hx4⟩
                have HXX := Lib.hid ((HXQ.out.trans hx4).alloc (.cells #[.int .i64 0, .string ⟨#[]⟩, .string ⟨#[]⟩] 31))
                clear hx4
                go_wp2
                go_roundw
                case rel => exact ⟨j + 1, fe, by omega, by go_num, rfl, HST2, HXX.out⟩
                case measure => simp [intOf]; omega
              · rw [hf] at HSH
                have HST2 := Lib.hid (HST.out)
                rw [if_neg (by rw [hf]; exact Bool.noConfusion)] at HST2
                obtain ⟨⟨⟨k, t, al⟩, er⟩, hr⟩ : ∃ r, Ea.rdShape S n a2 = r := ⟨_, rfl⟩
                rw [hr] at HSH HST2
                rw [show shapeV true ((k, t, al), er) = .tuple #[.agg #[.int .i64 k, .string (Ea.bS t), .string (Ea.bS al)], .int .i64 er, .bool true] from rfl] at HSH
                dsimp only at HST2
                obtain ⟨TB, hTB⟩ : ∃ TB, Ea.bS t = TB := ⟨_, rfl⟩
                obtain ⟨AB, hAB⟩ : ∃ AB, Ea.bS al = AB := ⟨_, rfl⟩
                have HTA := Lib.hid (And.intro hTB hAB)
                rw [hTB, hAB] at HSH
                clear hf HST HR HLJ hxq hr hTB hAB
                by_cases h0 : er = 0
                · have HG : Hid (res = ((k, t, al), 0)) := Lib.hid (by rw [HST2.out, if_pos h0, h0])
                  subst h0
                  clear HST2
                  go_wp2_with fail
                  refine (HSH.out _ HXO.out).mono ?_
                  rintro e w4 ⟨rfl, hx4⟩
                  have HB1 := Lib.hid (row3_on HB0.out ((Ext.before hxr).trans ((Ext.before HXQ.out).trans hx4)))
                  obtain ⟨z0, z1, z2, z3, z4, z5, z6, HB⟩ := row3_of HB1.out
                  have HXX := Lib.hid (HXO.out.trans hx4)
                  clear HB0 HB1 hx4 hxr hxo
                  go_wp2
                  refine bodyPost_ret (results_lin Tryz.results16 rfl (row3_on (row3_set HB) ((Ext.refl _).alloc _)) rfl) rfl ?_
                  exact ⟨by rw [HG.out]; unfold gotV linV; dsimp only; rw [HTA.out.1, HTA.out.2]; rfl, (((HXX.out.setCell (Nat.le_refl _) _).setCell (Nat.le_refl _) _).setCell (Nat.le_refl _) _).alloc _⟩
                · rw [if_neg h0] at HST2
                  have hb0 : (er == 0) = false := beq_eq_false_iff_ne.2 h0
                  by_cases h7 : fe = 7
                  · rw [if_pos h7] at HST2
                    have hb7 : (fe == 7) = true := beq_iff_eq.2 h7
                    clear h0 h7 hxo
                    go_wp2_with fail
                    refine (HSH.out _ HXO.out).mono ?_
                    rintro e w4 ⟨rfl, hx4⟩
                    have HXX := Lib.hid ((HXQ.out.trans hx4).alloc (.cells #[.int .i64 k, .string TB, .string AB] 31))
                    clear hx4
                    go_wp2
                    go_roundw
                    case rel => exact ⟨j + 1, er, by omega, by go_num, rfl, HST2, HXX.out⟩
                    case measure => simp [intOf]; omega
                  · rw [if_neg h7] at HST2
                    have hb7 : (fe == 7) = false := beq_eq_false_iff_ne.2 h7
                    clear h0 h7 hxo
                    go_wp2_with fail
                    refine (HSH.out _ HXO.out).mono ?_
                    rintro e w4 ⟨rfl, hx4⟩
                    have HXX := Lib.hid ((HXQ.out.trans hx4).alloc (.cells #[.int .i64 k, .string TB, .string AB] 31))
                    clear hx4
                    go_wp2
                    go_roundw
                    case rel => exact ⟨j + 1, fe, by omega, by go_num, rfl, HST2, HXX.out⟩
                    case measure => simp [intOf]; omega
            · obtain rfl : j = 3 := by omega
              have HXQ := Lib.hid (hxr.trans (Ext.before hxq))
              have HST2 : Hid (res = Ea.decF S fe (leftS (i + 1) 0)) := Lib.hid (by rw [HR.out, leftS_next])
              clear hjt hj hxq hxr HR
              go_wp2
              go_roundw
              case rel => exact ⟨i + 1, fe, by omega, by go_num, rfl, HST2, HXQ.out⟩
              case measure => simp [intOf]; omega
        · obtain rfl : i = 3 := by omega
          have HG : Hid (res = ((0, [], []), fe)) := Lib.hid (by rw [HR.out]; rfl)
          have hxx := hxw.trans (Ext.before hxr)
          have HB1 := Lib.hid (row3_on HB0.out (Ext.before hxr))
          obtain ⟨z0, z1, z2, z3, z4, z5, z6, HB⟩ := row3_of HB1.out
          clear hi hlt HB0 HB1
          go_wp2
          refine bodyPost_ret (results_lin Tryz.results16 rfl (row3_set HB) rfl) rfl ?_
          exact ⟨by rw [HG.out]; rfl, ((hxx.setCell (Nat.le_refl _) _).setCell (Nat.le_refl _) _).setCell (Nat.le_refl _) _⟩
theorem xdecode_all (v : Value) (m : List Bool) (w : World) (hv : SlK w v (m.map encT)) (hm : m.length ≤ 9223372036854775807) :
    Calls Tryz.prog 16 #[v] w fun e w' => e = .returned (gotV (Ea.dec m)) ∧ Ext w w' := by
  by_cases hl : 65536 < m.length
  · exact xdecode_long v m w hv hm hl
  · exact xdecode_any v m w hv (by omega)

set_option maxRecDepth 100000 in
set_option maxHeartbeats 1000000 in
theorem law_decodes (v : Value) (m : List Bool) (w : World) (hv : SlK w v (m.map encT)) (hm : m.length ≤ 9223372036854775807) :
    Calls Tryz.prog 4 #[v] w fun e w' => e = .returned (.bool true) ∧ Ext w w' := by
  have H1 := Lib.hid (fun w' (h : Ext w w') => decode_all v m w' (hv.ext h) hm)
  have H2 := Lib.hid (fun w' (h : Ext w w') => xdecode_all v m w' (hv.ext h) hm)
  obtain ⟨⟨⟨k, t, al⟩, er⟩, hr⟩ : ∃ r, Ea.dec m = r := ⟨_, rfl⟩
  rw [hr] at H1 H2
  rw [show gotV ((k, t, al), er) = .tuple #[.agg #[.int .i64 k, .string (Ea.bS t), .string (Ea.bS al)], .int .i64 er] from rfl] at H1 H2
  obtain ⟨TB, hTB⟩ : ∃ TB, Ea.bS t = TB := ⟨_, rfl⟩
  obtain ⟨AB, hAB⟩ : ∃ AB, Ea.bS al = AB := ⟨_, rfl⟩
  rw [hTB, hAB] at H1 H2
  have HX := Lib.hid examples_any
  obtain ⟨_, a, c, rfl, _⟩ := hv
  rw [List.length_map] at H1 H2 ⊢
  clear hr hTB hAB hm
  go_enter Tryz.func4, Tryz.ntmps4
  go_wp2_with fail
  refine (H1.out _ (Ext.refl _)).mono ?_
  rintro e w1 ⟨rfl, hx1⟩
  go_wp2_with fail
  refine (H2.out _ (hx1.alloc _)).mono ?_
  rintro e w2 ⟨rfl, hx2⟩
  obtain ⟨z0, z1, z2, z3, z4, z5, z6, HB⟩ := row3 hx2
  have hn : ∀ w', (binOp .eql 31 (.agg #[.int .i64 k, .string TB, .string AB]) (.agg #[.int .i64 k, .string TB, .string AB])).run Tryz.prog w' = .ok (.bool true) w' := fun w' => by
    rw [lin_eq w' k k TB AB TB AB]; simp
  have HXX := Lib.hid ((hx1.alloc (.cells #[.int .i64 k, .string TB, .string AB] 31)).trans (hx2.alloc (.cells #[.int .i64 k, .string TB, .string AB] 31)))
  clear hx1 hx2
  go_wp2_with fail
  refine (HX.out _).mono ?_
  rintro e w4 ⟨rfl, hx4⟩
  go_wp2
  go_ret
  exact ⟨rfl, HXX.out.trans hx4⟩
end Go.Proofs.YtfpliihglgjijaaGreat
