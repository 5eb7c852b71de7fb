/-
  Chapter 11, the reference: symbol of EAN-8.
  Condition: complete texts.
-/
import Derived.Test.YtfpliihglgjijaaGreatEaXm

/-
  Chapter 11, the reference: symbol of EAN-8.
  Condition: complete texts.
-/
namespace Go.Proofs.YtfpliihglgjijaaGreat
set_option linter.unusedVariables false
open Go.RowKit

set_option maxRecDepth 100000 in
set_option maxHeartbeats 2000000 in
theorem xsym8_any (s : ByteArray) (h8 : s.size = 8) (hd : Ea.digs s.data.toList = true) (w : World) :
    Calls Tryz.prog 40 #[.int .i64 2, .string s] w (OwnsR (Ea.sym8 s.data.toList) w) := by
  have hsz1 : 8 ≤ s.size := by omega
  have hsz : s.size ≤ 8 := by omega
  have HMG := Lib.hid (fun w => xmodules_any ⟨#[49, 48, 49]⟩ Ea.gd rfl (by decide) w)
  have HMM := Lib.hid (fun w => xmodules_any ⟨#[48, 49, 48, 49, 48]⟩ Ea.md rfl (by decide) w)
  have HRA := Lib.hid (fun w => xrow_any (s.extract 0 4) ⟨#[48, 48, 48, 48]⟩ ⟨#[]⟩ [0, 0, 0, 0] [] (by rw [cut_front]; exact Ea.digs_take hd 4) rfl (by decide) rfl (by rw [ByteArray.size_extract]; simp; omega) (by rw [ByteArray.size_extract]; omega) (by decide) w)
  have HRB := Lib.hid (fun w => xrow_any (s.extract 4 s.size) ⟨#[50, 50, 50, 50]⟩ ⟨#[]⟩ [2, 2, 2, 2] [] (by rw [cut_back]; exact Ea.digs_drop hd 4) rfl (by decide) rfl (by rw [ByteArray.size_extract]; simp; omega) (by rw [ByteArray.size_extract]; omega) (by decide) w)
  rw [cut_front] at HRA
  rw [cut_back] at HRB
  have l1 : (Ea.drw [] (s.data.toList.take 4) [0, 0, 0, 0]).length = 28 := Ea.drw4_len (Ea.digs_take hd 4) (by rw [List.length_take, len_data]; omega) rfl (by decide)
  have l2 : (Ea.drw [] (s.data.toList.drop 4) [2, 2, 2, 2]).length = 28 := Ea.drw4_len (Ea.digs_drop hd 4) (by rw [List.length_drop, len_data]; omega) rfl (by decide)
  have HE := Lib.hid (Ea.sym8.eq_1 s.data.toList)
  generalize Ea.sym8 s.data.toList = res at *
  generalize Ea.drw [] (s.data.toList.take 4) [0, 0, 0, 0] = ra at *
  generalize Ea.drw [] (s.data.toList.drop 4) [2, 2, 2, 2] = rb at *
  have HFL : Hid ((List.flatten [Ea.gd, ra, Ea.md, rb, Ea.gd]).length ≤ 1000000) := Lib.hid (by simp [Ea.gd, Ea.md, Ea.bits]; omega)
  have HFE : Hid (List.flatten [Ea.gd, ra, Ea.md, rb, Ea.gd] = res) := Lib.hid (by rw [HE.out]; simp [List.append_assoc])
  clear HE l1 l2 hd h8
  go_enter Tryz.func40, Tryz.ntmps40
  go_wp2_with fail
  refine wp_region_rel 11 1 rfl [8, 9, 10, 11, 12, 13, 14, 15, 16, 17, 18] [[], [], [1], [2], [], [], [5], [6], [], [0, 3, 4, 7, 8], [9]] (by kernel_rfl) (by kernel_rfl) ?_
  refine relPlan_by (fun v w => Own 4 w 0 v (Ea.gd.map encT)) (fun _ _ _ h hx => h.ext hx) ?_ ?_
  · intro V w' hx hf
    with_reducible refine relAt_ops ?_
    intro A ρ hA hρ hcst hfun
    simp [relUpon, go_sem, hcst, hfun]
    exact (HMG.out w').mono fun e w'' ⟨v, he, ho, hy⟩ => ⟨v, he, hy, ho.mono (Nat.zero_le _)⟩
  apply relPlan_eq'
  · intro V w' hx hf
    with_reducible refine relAt_ops ?_
    intro A ρ hA hρ hcst hfun
    have h1 : ρ (.tmp 1) = .string s := (congrFun hρ _).trans (evalMiss hA 1 rfl)
    exact relUpon_move (hk := by rw [h1]; exact ⟨Ext.refl _, rfl⟩)
  apply relPlan_eq'
  · intro V w' hx hf
    with_reducible refine relAt_ops ?_
    intro A ρ hA hρ hcst hfun
    obtain ⟨f9, _⟩ := hf
    have h9 : ρ (.tmp 9) = _ := (congrFun hρ _).trans ((evalHit hA 9 rfl).trans f9)
    simp [relUpon, go_sem, hcst, ↓IntWalk.iteOmega, Ext.refl, h9]
    rfl
  refine relPlan_by (fun v w => Own 4 w 0 v (ra.map encT)) (fun _ _ _ h hx => h.ext hx) ?_ ?_
  · intro V w' hx hf
    with_reducible refine relAt_ops ?_
    intro A ρ hA hρ hcst hfun
    obtain ⟨f10, _⟩ := hf
    have h10 : ρ (.tmp 10) = _ := (congrFun hρ _).trans ((evalHit hA 10 rfl).trans f10)
    simp [relUpon, go_sem, hcst, hfun, h10]
    exact (HRA.out w').mono fun e w'' ⟨v, he, ho, hy⟩ => ⟨v, he, hy, ho.mono (Nat.zero_le _)⟩
  refine relPlan_by (fun v w => Own 4 w 0 v (Ea.md.map encT)) (fun _ _ _ h hx => h.ext hx) ?_ ?_
  · intro V w' hx hf
    with_reducible refine relAt_ops ?_
    intro A ρ hA hρ hcst hfun
    simp [relUpon, go_sem, hcst, hfun]
    exact (HMM.out w').mono fun e w'' ⟨v, he, ho, hy⟩ => ⟨v, he, hy, ho.mono (Nat.zero_le _)⟩
  apply relPlan_eq'
  · intro V w' hx hf
    with_reducible refine relAt_ops ?_
    intro A ρ hA hρ hcst hfun
    have h1 : ρ (.tmp 1) = .string s := (congrFun hρ _).trans (evalMiss hA 1 rfl)
    exact relUpon_move (hk := by rw [h1]; exact ⟨Ext.refl _, rfl⟩)
  apply relPlan_eq'
  · intro V w' hx hf
    with_reducible refine relAt_ops ?_
    intro A ρ hA hρ hcst hfun
    obtain ⟨f13, _⟩ := hf
    have h13 : ρ (.tmp 13) = _ := (congrFun hρ _).trans ((evalHit hA 13 rfl).trans f13)
    simp [relUpon, go_sem, hcst, ↓IntWalk.iteOmega, Ext.refl, h13]
    rfl
  refine relPlan_by (fun v w => Own 4 w 0 v (rb.map encT)) (fun _ _ _ h hx => h.ext hx) ?_ ?_
  · intro V w' hx hf
    with_reducible refine relAt_ops ?_
    intro A ρ hA hρ hcst hfun
    obtain ⟨f14, _⟩ := hf
    have h14 : ρ (.tmp 14) = _ := (congrFun hρ _).trans ((evalHit hA 14 rfl).trans f14)
    simp [relUpon, go_sem, hcst, hfun, h14]
    exact (HRB.out w').mono fun e w'' ⟨v, he, ho, hy⟩ => ⟨v, he, hy, ho.mono (Nat.zero_le _)⟩
  refine relPlan_by (fun v w => Own 4 w 0 v (Ea.gd.map encT)) (fun _ _ _ h hx => h.ext hx) ?_ ?_
  · intro V w' hx hf
    with_reducible refine relAt_ops ?_
    intro A ρ hA hρ hcst hfun
    simp [relUpon, go_sem, hcst, hfun]
    exact (HMG.out w').mono fun e w'' ⟨v, he, ho, hy⟩ => ⟨v, he, hy, ho.mono (Nat.zero_le _)⟩
  refine relPlan_by (fun v w => RowsA w v [Ea.gd, ra, Ea.md, rb, Ea.gd]) (fun _ _ _ h hx => h.ext hx) ?_ ?_
  · intro V w' hx hf
    with_reducible refine relAt_ops ?_
    intro A ρ hA hρ hcst hfun
    obtain ⟨f8, f11, f12, f15, f16, _⟩ := hf
    have h8 : ρ (.tmp 8) = V 8 := (congrFun hρ _).trans (evalHit hA 8 rfl)
    have h11 : ρ (.tmp 11) = V 11 := (congrFun hρ _).trans (evalHit hA 11 rfl)
    have h12 : ρ (.tmp 12) = V 12 := (congrFun hρ _).trans (evalHit hA 12 rfl)
    have h15 : ρ (.tmp 15) = V 15 := (congrFun hρ _).trans (evalHit hA 15 rfl)
    have h16 : ρ (.tmp 16) = V 16 := (congrFun hρ _).trans (evalHit hA 16 rfl)
    have k8 : Own 4 w' 0 (V 8) _ := f8
    obtain ⟨_, a8, c8, e8, _⟩ := k8.slk
    have h8 := h8.trans e8
    rw [e8, List.length_map] at k8
    have k11 : Own 4 w' 0 (V 11) _ := f11
    obtain ⟨_, a11, c11, e11, _⟩ := k11.slk
    have h11 := h11.trans e11
    rw [e11, List.length_map] at k11
    have k12 : Own 4 w' 0 (V 12) _ := f12
    obtain ⟨_, a12, c12, e12, _⟩ := k12.slk
    have h12 := h12.trans e12
    rw [e12, List.length_map] at k12
    have k15 : Own 4 w' 0 (V 15) _ := f15
    obtain ⟨_, a15, c15, e15, _⟩ := k15.slk
    have h15 := h15.trans e15
    rw [e15, List.length_map] at k15
    have k16 : Own 4 w' 0 (V 16) _ := f16
    obtain ⟨_, a16, c16, e16, _⟩ := k16.slk
    have h16 := h16.trans e16
    rw [e16, List.length_map] at k16
    simp [relUpon, go_sem, h8, h11, h12, h15, h16]
    exact ⟨(Ext.refl w').alloc _, rowsA_mk w' _ [Ea.gd, ra, Ea.md, rb, Ea.gd] _ rfl (by simp) (fun i hi => by
      have hi' : i = 0 ∨ i = 1 ∨ i = 2 ∨ i = 3 ∨ i = 4 := by simp at hi; omega
      rcases hi' with rfl | rfl | rfl | rfl | rfl
      · exact k8
      · exact k11
      · exact k12
      · exact k15
      · exact k16
      )⟩
  refine relPlan_by (fun v x => Own 4 x w.heap.size v (res.map encT)) (fun _ _ _ h hx => h.ext hx) ?_ ?_
  · intro V w' hx hf
    with_reducible refine relAt_ops ?_
    intro A ρ hA hρ hcst hfun
    obtain ⟨f17, _⟩ := hf
    have h17 : ρ (.tmp 17) = V 17 := (congrFun hρ _).trans (evalHit hA 17 rfl)
    simp [relUpon, go_sem, hfun, h17]
    exact (xjoin_any _ [Ea.gd, ra, Ea.md, rb, Ea.gd] w' f17 (by simp) HFL.out).mono fun e w'' ⟨v, he, ho, hy⟩ => ⟨v, he, hy, by rw [← HFE.out]; exact ho.mono hx.size⟩
  intro V wT hxT hf
  obtain ⟨g8, g9, g10, g11, g12, g13, g14, g15, g16, g17, g18, _⟩ := hf
  refine wpAny_tail1 11 18 4 _ (by kernel_rfl) rfl rfl (.inr rfl) (by kernel_rfl) rfl rfl ?_
  simp only [fillA, List.foldl_cons, List.foldl_nil, Act.put, List.setIfInBounds_toArray, List.set_cons_succ, List.set_cons_zero]
  have HO : Own 4 wT w.heap.size (V 18) (List.map encT res) := g18
  clear HFE HFL HMG HMM HRA HRB
  go_wp2
  go_ret
  exact ⟨_, rfl, HO, hxT⟩
end Go.Proofs.YtfpliihglgjijaaGreat

/-
  Chapter 11, the reference: symbol of UPC-E.
  Condition: complete texts.
-/
namespace Go.Proofs.YtfpliihglgjijaaGreat
open Go.RowKit

set_option maxRecDepth 100000 in
set_option maxHeartbeats 2000000 in
theorem xsymE_any (s : ByteArray) (h8 : s.size = 8) (hd : Ea.digs s.data.toList = true) (hy : Ea.dv s.data.toList 0 < 2) (w : World) :
    Calls Tryz.prog 40 #[.int .i64 4, .string s] w (OwnsR (Ea.symE s.data.toList) w) := by
  have hsz1 : 8 ≤ s.size := by omega
  have hsz : s.size ≤ 8 := by omega
  have hz0 : 0 < s.size := by omega
  have hz7 : 7 < s.size := by omega
  obtain ⟨d0, e0, l0, v0⟩ := dig_of hd 0 hz0
  obtain ⟨hk0, hu0, hi0, hs0⟩ := dig_facts e0 l0
  obtain ⟨d7, e7, l7, v7⟩ := dig_of hd 7 hz7
  obtain ⟨hk7, hu7, hi7, hs7⟩ := dig_facts e7 l7
  rw [v0] at hy
  have HMG := Lib.hid (fun w => xmodules_any ⟨#[49, 48, 49]⟩ Ea.gd rfl (by decide) w)
  have HME := Lib.hid (fun w => xmodules_any ⟨#[48, 49, 48, 49, 48, 49]⟩ Ea.eE rfl (by decide) w)
  have hso : (Ea.setsE d0 d7).length = 6 ∧ ∀ x ∈ Ea.setsE d0 d7, x < 2 := ⟨(Ea.setsE_ok ⟨d0, hy⟩ ⟨d7, by omega⟩).1, (Ea.setsE_ok ⟨d0, hy⟩ ⟨d7, by omega⟩).2.1⟩
  obtain ⟨SE, hSE⟩ : ∃ SE, Ea.bS (zS (Ea.setsE d0 d7)) = SE := ⟨_, rfl⟩
  have HSE := Lib.hid (fun w => xsetsE_any d0 d7 hy (by omega) w)
  rw [hSE] at HSE
  have HRA := Lib.hid (fun w => xrow_any (s.extract 1 7) SE ⟨#[]⟩ (Ea.setsE d0 d7) [] (by rw [cut_mid]; exact Ea.digs_take (Ea.digs_drop hd 1) _) (by rw [← hSE, Ea.bS_list]) (fun x hx => by have := hso.2 x hx; omega) rfl (by rw [ByteArray.size_extract, hso.1]; omega) (by rw [ByteArray.size_extract]; omega) (by decide) w)
  rw [cut_mid] at HRA
  have l1 : (Ea.drw [] ((s.data.toList.drop 1).take (7 - 1)) (Ea.setsE d0 d7)).length = 42 := Ea.drw6_len (Ea.digs_take (Ea.digs_drop hd 1) _) (by rw [List.length_take, List.length_drop, len_data]; omega) hso.1 (fun x hx => by have := hso.2 x hx; omega)
  have HE := Lib.hid (Ea.symE.eq_1 s.data.toList)
  rw [v0, v7] at HE
  generalize Ea.symE s.data.toList = res at *
  generalize Ea.drw [] ((s.data.toList.drop 1).take (7 - 1)) (Ea.setsE d0 d7) = ra at *
  have HFL : Hid ((List.flatten [Ea.gd, ra, Ea.eE]).length ≤ 1000000) := Lib.hid (by simp [Ea.gd, Ea.eE, Ea.bits]; omega)
  have HFE : Hid (List.flatten [Ea.gd, ra, Ea.eE] = res) := Lib.hid (by
    rw [HE.out]
    simp [List.append_assoc])
  clear HE l1 hd h8 hSE hso e0 v0 e7 v7
  go_enter Tryz.func40, Tryz.ntmps40
  go_wp2_with fail
  refine wp_region_rel 16 1 rfl [21, 22, 23, 24, 25, 26, 27, 28, 29, 30, 31, 32, 33, 34, 35, 36] [[], [], [1], [], [3], [4], [5], [], [7], [8], [9], [6, 10], [2, 11], [], [0, 12, 13], [14]] (by kernel_rfl) (by kernel_rfl) ?_
  refine relPlan_by (fun v w => Own 4 w 0 v (Ea.gd.map encT)) (fun _ _ _ h hx => h.ext hx) ?_ ?_
  · intro V w' hx hf
    with_reducible refine relAt_ops ?_
    intro A ρ hA hρ hcst hfun
    simp [relUpon, go_sem, hcst, hfun]
    exact (HMG.out w').mono fun e w'' ⟨v, he, ho, hy⟩ => ⟨v, he, hy, ho.mono (Nat.zero_le _)⟩
  apply relPlan_eq'
  · intro V w' hx hf
    with_reducible refine relAt_ops ?_
    intro A ρ hA hρ hcst hfun
    have h1 : ρ (.tmp 1) = .string s := (congrFun hρ _).trans (evalMiss hA 1 rfl)
    exact relUpon_move (hk := by rw [h1]; exact ⟨Ext.refl _, rfl⟩)
  apply relPlan_eq'
  · intro V w' hx hf
    with_reducible refine relAt_ops ?_
    intro A ρ hA hρ hcst hfun
    obtain ⟨f22, _⟩ := hf
    have h22 : ρ (.tmp 22) = _ := (congrFun hρ _).trans ((evalHit hA 22 rfl).trans f22)
    simp [relUpon, go_sem, hcst, ↓IntWalk.iteOmega, Ext.refl, h22]
    rfl
  apply relPlan_eq'
  · intro V w' hx hf
    with_reducible refine relAt_ops ?_
    intro A ρ hA hρ hcst hfun
    have h1 : ρ (.tmp 1) = .string s := (congrFun hρ _).trans (evalMiss hA 1 rfl)
    exact relUpon_move (hk := by rw [h1]; exact ⟨Ext.refl _, rfl⟩)
  apply relPlan_eq'
  · intro V w' hx hf
    with_reducible refine relAt_ops ?_
    intro A ρ hA hρ hcst hfun
    obtain ⟨f24, _⟩ := hf
    have h24 : ρ (.tmp 24) = _ := (congrFun hρ _).trans ((evalHit hA 24 rfl).trans f24)
    simp [relUpon, go_sem, hcst, ↓IntWalk.iteOmega, Ext.refl, h24, hk0]
    rfl
  apply relPlan_eq'
  · intro V w' hx hf
    with_reducible refine relAt_ops ?_
    intro A ρ hA hρ hcst hfun
    obtain ⟨f25, _⟩ := hf
    have h25 : ρ (.tmp 25) = _ := (congrFun hρ _).trans ((evalHit hA 25 rfl).trans f25)
    simp [relUpon, go_sem, hcst, Ext.refl, h25, hu0, hs0]
    rfl
  apply relPlan_eq'
  · intro V w' hx hf
    with_reducible refine relAt_ops ?_
    intro A ρ hA hρ hcst hfun
    obtain ⟨f26, _⟩ := hf
    have h26 : ρ (.tmp 26) = _ := (congrFun hρ _).trans ((evalHit hA 26 rfl).trans f26)
    simp [relUpon, go_sem, Ext.refl, h26, hi0]
    rfl
  apply relPlan_eq'
  · intro V w' hx hf
    with_reducible refine relAt_ops ?_
    intro A ρ hA hρ hcst hfun
    have h1 : ρ (.tmp 1) = .string s := (congrFun hρ _).trans (evalMiss hA 1 rfl)
    exact relUpon_move (hk := by rw [h1]; exact ⟨Ext.refl _, rfl⟩)
  apply relPlan_eq'
  · intro V w' hx hf
    with_reducible refine relAt_ops ?_
    intro A ρ hA hρ hcst hfun
    obtain ⟨f28, _⟩ := hf
    have h28 : ρ (.tmp 28) = _ := (congrFun hρ _).trans ((evalHit hA 28 rfl).trans f28)
    simp [relUpon, go_sem, hcst, ↓IntWalk.iteOmega, Ext.refl, h28, hk7]
    rfl
  apply relPlan_eq'
  · intro V w' hx hf
    with_reducible refine relAt_ops ?_
    intro A ρ hA hρ hcst hfun
    obtain ⟨f29, _⟩ := hf
    have h29 : ρ (.tmp 29) = _ := (congrFun hρ _).trans ((evalHit hA 29 rfl).trans f29)
    simp [relUpon, go_sem, hcst, Ext.refl, h29, hu7, hs7]
    rfl
  apply relPlan_eq'
  · intro V w' hx hf
    with_reducible refine relAt_ops ?_
    intro A ρ hA hρ hcst hfun
    obtain ⟨f30, _⟩ := hf
    have h30 : ρ (.tmp 30) = _ := (congrFun hρ _).trans ((evalHit hA 30 rfl).trans f30)
    simp [relUpon, go_sem, Ext.refl, h30, hi7]
    rfl
  refine relPlan_by (eqv (.string SE)) (eqv_stable _) ?_ ?_
  · intro V w' hx hf
    with_reducible refine relAt_ops ?_
    intro A ρ hA hρ hcst hfun
    obtain ⟨f27, f31, _⟩ := hf
    have h27 : ρ (.tmp 27) = _ := (congrFun hρ _).trans ((evalHit hA 27 rfl).trans f27)
    have h31 : ρ (.tmp 31) = _ := (congrFun hρ _).trans ((evalHit hA 31 rfl).trans f31)
    simp [relUpon, go_sem, hfun, h27, h31]
    exact (HSE.out w').mono fun e w'' ⟨he, hy⟩ => ⟨_, he, hy, rfl⟩
  refine relPlan_by (fun v w => Own 4 w 0 v (ra.map encT)) (fun _ _ _ h hx => h.ext hx) ?_ ?_
  · intro V w' hx hf
    with_reducible refine relAt_ops ?_
    intro A ρ hA hρ hcst hfun
    obtain ⟨f23, f32, _⟩ := hf
    have h23 : ρ (.tmp 23) = _ := (congrFun hρ _).trans ((evalHit hA 23 rfl).trans f23)
    have h32 : ρ (.tmp 32) = _ := (congrFun hρ _).trans ((evalHit hA 32 rfl).trans f32)
    simp [relUpon, go_sem, hcst, hfun, h23, h32]
    exact (HRA.out w').mono fun e w'' ⟨v, he, ho, hy⟩ => ⟨v, he, hy, ho.mono (Nat.zero_le _)⟩
  refine relPlan_by (fun v w => Own 4 w 0 v (Ea.eE.map encT)) (fun _ _ _ h hx => h.ext hx) ?_ ?_
  · intro V w' hx hf
    with_reducible refine relAt_ops ?_
    intro A ρ hA hρ hcst hfun
    simp [relUpon, go_sem, hcst, hfun]
    exact (HME.out w').mono fun e w'' ⟨v, he, ho, hy⟩ => ⟨v, he, hy, ho.mono (Nat.zero_le _)⟩
  refine relPlan_by (fun v w => RowsA w v [Ea.gd, ra, Ea.eE]) (fun _ _ _ h hx => h.ext hx) ?_ ?_
  · intro V w' hx hf
    with_reducible refine relAt_ops ?_
    intro A ρ hA hρ hcst hfun
    obtain ⟨f21, f33, f34, _⟩ := hf
    have h21 : ρ (.tmp 21) = V 21 := (congrFun hρ _).trans (evalHit hA 21 rfl)
    have h33 : ρ (.tmp 33) = V 33 := (congrFun hρ _).trans (evalHit hA 33 rfl)
    have h34 : ρ (.tmp 34) = V 34 := (congrFun hρ _).trans (evalHit hA 34 rfl)
    have k21 : Own 4 w' 0 (V 21) _ := f21
    obtain ⟨_, a21, c21, e21, _⟩ := k21.slk
    have h21 := h21.trans e21
    rw [e21, List.length_map] at k21
    have k33 : Own 4 w' 0 (V 33) _ := f33
    obtain ⟨_, a33, c33, e33, _⟩ := k33.slk
    have h33 := h33.trans e33
    rw [e33, List.length_map] at k33
    have k34 : Own 4 w' 0 (V 34) _ := f34
    obtain ⟨_, a34, c34, e34, _⟩ := k34.slk
    have h34 := h34.trans e34
    rw [e34, List.length_map] at k34
    simp [relUpon, go_sem, h21, h33, h34]
    exact ⟨(Ext.refl w').alloc _, rowsA_mk w' _ [Ea.gd, ra, Ea.eE] _ rfl (by simp) (fun i hi => by
      have hi' : i = 0 ∨ i = 1 ∨ i = 2 := by simp at hi; omega
      rcases hi' with rfl | rfl | rfl
      · exact k21
      · exact k33
      · exact k34
      )⟩
  refine relPlan_by (fun v x => Own 4 x w.heap.size v (res.map encT)) (fun _ _ _ h hx => h.ext hx) ?_ ?_
  · intro V w' hx hf
    with_reducible refine relAt_ops ?_
    intro A ρ hA hρ hcst hfun
    obtain ⟨f35, _⟩ := hf
    have h35 : ρ (.tmp 35) = V 35 := (congrFun hρ _).trans (evalHit hA 35 rfl)
    simp [relUpon, go_sem, hfun, h35]
    exact (xjoin_any _ [Ea.gd, ra, Ea.eE] w' f35 (by simp) HFL.out).mono fun e w'' ⟨v, he, ho, hy⟩ => ⟨v, he, hy, by rw [← HFE.out]; exact ho.mono hx.size⟩
  intro V wT hxT hf
  obtain ⟨g21, g22, g23, g24, g25, g26, g27, g28, g29, g30, g31, g32, g33, g34, g35, g36, _⟩ := hf
  refine wpAny_tail1 16 36 4 _ (by kernel_rfl) rfl rfl (.inr rfl) (by kernel_rfl) rfl rfl ?_
  simp only [fillA, List.foldl_cons, List.foldl_nil, Act.put, List.setIfInBounds_toArray, List.set_cons_succ, List.set_cons_zero]
  have HO : Own 4 wT w.heap.size (V 36) (List.map encT res) := g36
  clear HFE HFL HMG HME HRA HSE
  go_wp2
  go_ret
  exact ⟨_, rfl, HO, hxT⟩
end Go.Proofs.YtfpliihglgjijaaGreat

/-
  Chapter 11, the reference: symbol of EAN-13 and UPC-A.
  Condition: complete texts.
-/
namespace Go.Proofs.YtfpliihglgjijaaGreat
open Go.RowKit

set_option maxRecDepth 100000 in
set_option maxHeartbeats 2000000 in
theorem xsym13_any (s : ByteArray) (h13 : s.size = 13) (hd0 : Ea.digs s.data.toList = true) (w : World) :
    Calls Tryz.prog 40 #[.int .i64 1, .string s] w (OwnsR (Ea.sym13 s.data.toList) w) := by
  have hd := hd0
  have hsz1 : 13 ≤ s.size := by omega
  have hsz : s.size ≤ 13 := by omega
  have hz0 : 0 < s.size := by omega
  obtain ⟨d0, e0, l0, v0⟩ := dig_of hd 0 hz0
  obtain ⟨hk0, hu0, hi0, hs0⟩ := dig_facts e0 l0
  have HMG := Lib.hid (fun w => xmodules_any ⟨#[49, 48, 49]⟩ Ea.gd rfl (by decide) w)
  have HMM := Lib.hid (fun w => xmodules_any ⟨#[48, 49, 48, 49, 48]⟩ Ea.md rfl (by decide) w)
  have hso : (Ea.sets13 d0).length = 6 ∧ ∀ x ∈ Ea.sets13 d0, x < 2 := ⟨(Ea.sets13_ok ⟨d0, by omega⟩).1, (Ea.sets13_ok ⟨d0, by omega⟩).2.1⟩
  obtain ⟨SE, hSE⟩ : ∃ SE, Ea.bS (zS (Ea.sets13 d0)) = SE := ⟨_, rfl⟩
  have HSE := Lib.hid (fun w => xsets13_any d0 (by omega) w)
  rw [hSE] at HSE
  have HRA := Lib.hid (fun w => xrow_any (s.extract 1 7) SE ⟨#[]⟩ (Ea.sets13 d0) [] (by rw [cut_mid]; exact Ea.digs_take (Ea.digs_drop hd 1) _) (by rw [← hSE, Ea.bS_list]) (fun x hx => by have := hso.2 x hx; omega) rfl (by rw [ByteArray.size_extract, hso.1]; omega) (by rw [ByteArray.size_extract]; omega) (by decide) w)
  have HRB := Lib.hid (fun w => xrow_any (s.extract 7 s.size) ⟨#[50, 50, 50, 50, 50, 50]⟩ ⟨#[]⟩ [2, 2, 2, 2, 2, 2] [] (by rw [cut_back]; exact Ea.digs_drop hd 7) rfl (by decide) rfl (by rw [ByteArray.size_extract]; simp; omega) (by rw [ByteArray.size_extract]; omega) (by decide) w)
  rw [cut_mid] at HRA
  rw [cut_back] at HRB
  have l1 : (Ea.drw [] ((s.data.toList.drop 1).take (7 - 1)) (Ea.sets13 d0)).length = 42 := Ea.drw6_len (Ea.digs_take (Ea.digs_drop hd 1) _) (by rw [List.length_take, List.length_drop, len_data]; omega) hso.1 (fun x hx => by have := hso.2 x hx; omega)
  have l2 : (Ea.drw [] (s.data.toList.drop 7) [2, 2, 2, 2, 2, 2]).length = 42 := Ea.drw6_len (Ea.digs_drop hd 7) (by rw [List.length_drop, len_data]; omega) rfl (by decide)
  have HE := Lib.hid (Ea.sym13.eq_1 s.data.toList)
  rw [v0] at HE
  have HRES : Hid (Ea.sym13 s.data.toList = Ea.sym13 s.data.toList) := Lib.hid (by rfl)
  generalize Ea.sym13 s.data.toList = res at *
  rw [HRES.out] at HE
  generalize Ea.drw [] ((s.data.toList.drop 1).take (7 - 1)) (Ea.sets13 d0) = ra at *
  generalize Ea.drw [] (s.data.toList.drop 7) [2, 2, 2, 2, 2, 2] = rb at *
  have HFL : Hid ((List.flatten [Ea.gd, ra, Ea.md, rb, Ea.gd]).length ≤ 1000000) := Lib.hid (by simp [Ea.gd, Ea.md, Ea.bits]; omega)
  have HFE : Hid (List.flatten [Ea.gd, ra, Ea.md, rb, Ea.gd] = res) := Lib.hid (by
    rw [HE.out]
    simp [List.append_assoc])
  clear HE l1 l2 hd hd0 h13 hSE hso e0 v0 HRES
  go_enter Tryz.func40, Tryz.ntmps40
  go_wp2_with fail
  refine wp_region_rel 16 1 rfl [41, 42, 43, 44, 45, 46, 47, 48, 49, 50, 51, 52, 53, 54, 55, 56] [[], [], [1], [], [3], [4], [5], [6], [2, 7], [], [], [10], [11], [], [0, 8, 9, 12, 13], [14]] (by kernel_rfl) (by kernel_rfl) ?_
  refine relPlan_by (fun v w => Own 4 w 0 v (Ea.gd.map encT)) (fun _ _ _ h hx => h.ext hx) ?_ ?_
  · intro V w' hx hf
    with_reducible refine relAt_ops ?_
    intro A ρ hA hρ hcst hfun
    simp [relUpon, go_sem, hcst, hfun]
    exact (HMG.out w').mono fun e w'' ⟨v, he, ho, hy⟩ => ⟨v, he, hy, ho.mono (Nat.zero_le _)⟩
  apply relPlan_eq'
  · intro V w' hx hf
    with_reducible refine relAt_ops ?_
    intro A ρ hA hρ hcst hfun
    have h1 : ρ (.tmp 1) = .string s := (congrFun hρ _).trans (evalMiss hA 1 rfl)
    exact relUpon_move (hk := by rw [h1]; exact ⟨Ext.refl _, rfl⟩)
  apply relPlan_eq'
  · intro V w' hx hf
    with_reducible refine relAt_ops ?_
    intro A ρ hA hρ hcst hfun
    obtain ⟨f42, _⟩ := hf
    have h42 : ρ (.tmp 42) = _ := (congrFun hρ _).trans ((evalHit hA 42 rfl).trans f42)
    simp [relUpon, go_sem, hcst, ↓IntWalk.iteOmega, Ext.refl, h42]
    rfl
  apply relPlan_eq'
  · intro V w' hx hf
    with_reducible refine relAt_ops ?_
    intro A ρ hA hρ hcst hfun
    have h1 : ρ (.tmp 1) = .string s := (congrFun hρ _).trans (evalMiss hA 1 rfl)
    exact relUpon_move (hk := by rw [h1]; exact ⟨Ext.refl _, rfl⟩)
  apply relPlan_eq'
  · intro V w' hx hf
    with_reducible refine relAt_ops ?_
    intro A ρ hA hρ hcst hfun
    obtain ⟨f44, _⟩ := hf
    have h44 : ρ (.tmp 44) = _ := (congrFun hρ _).trans ((evalHit hA 44 rfl).trans f44)
    simp [relUpon, go_sem, hcst, ↓IntWalk.iteOmega, Ext.refl, h44, hk0]
    rfl
  apply relPlan_eq'
  · intro V w' hx hf
    with_reducible refine relAt_ops ?_
    intro A ρ hA hρ hcst hfun
    obtain ⟨f45, _⟩ := hf
    have h45 : ρ (.tmp 45) = _ := (congrFun hρ _).trans ((evalHit hA 45 rfl).trans f45)
    simp [relUpon, go_sem, hcst, Ext.refl, h45, hu0, hs0]
    rfl
  apply relPlan_eq'
  · intro V w' hx hf
    with_reducible refine relAt_ops ?_
    intro A ρ hA hρ hcst hfun
    obtain ⟨f46, _⟩ := hf
    have h46 : ρ (.tmp 46) = _ := (congrFun hρ _).trans ((evalHit hA 46 rfl).trans f46)
    simp [relUpon, go_sem, Ext.refl, h46, hi0]
    rfl
  refine relPlan_by (eqv (.string SE)) (eqv_stable _) ?_ ?_
  · intro V w' hx hf
    with_reducible refine relAt_ops ?_
    intro A ρ hA hρ hcst hfun
    obtain ⟨f47, _⟩ := hf
    have h47 : ρ (.tmp 47) = _ := (congrFun hρ _).trans ((evalHit hA 47 rfl).trans f47)
    simp [relUpon, go_sem, hfun, h47]
    exact (HSE.out w').mono fun e w'' ⟨he, hy⟩ => ⟨_, he, hy, rfl⟩
  refine relPlan_by (fun v w => Own 4 w 0 v (ra.map encT)) (fun _ _ _ h hx => h.ext hx) ?_ ?_
  · intro V w' hx hf
    with_reducible refine relAt_ops ?_
    intro A ρ hA hρ hcst hfun
    obtain ⟨f43, f48, _⟩ := hf
    have h43 : ρ (.tmp 43) = _ := (congrFun hρ _).trans ((evalHit hA 43 rfl).trans f43)
    have h48 : ρ (.tmp 48) = _ := (congrFun hρ _).trans ((evalHit hA 48 rfl).trans f48)
    simp [relUpon, go_sem, hcst, hfun, h43, h48]
    exact (HRA.out w').mono fun e w'' ⟨v, he, ho, hy⟩ => ⟨v, he, hy, ho.mono (Nat.zero_le _)⟩
  refine relPlan_by (fun v w => Own 4 w 0 v (Ea.md.map encT)) (fun _ _ _ h hx => h.ext hx) ?_ ?_
  · intro V w' hx hf
    with_reducible refine relAt_ops ?_
    intro A ρ hA hρ hcst hfun
    simp [relUpon, go_sem, hcst, hfun]
    exact (HMM.out w').mono fun e w'' ⟨v, he, ho, hy⟩ => ⟨v, he, hy, ho.mono (Nat.zero_le _)⟩
  apply relPlan_eq'
  · intro V w' hx hf
    with_reducible refine relAt_ops ?_
    intro A ρ hA hρ hcst hfun
    have h1 : ρ (.tmp 1) = .string s := (congrFun hρ _).trans (evalMiss hA 1 rfl)
    exact relUpon_move (hk := by rw [h1]; exact ⟨Ext.refl _, rfl⟩)
  apply relPlan_eq'
  · intro V w' hx hf
    with_reducible refine relAt_ops ?_
    intro A ρ hA hρ hcst hfun
    obtain ⟨f51, _⟩ := hf
    have h51 : ρ (.tmp 51) = _ := (congrFun hρ _).trans ((evalHit hA 51 rfl).trans f51)
    simp [relUpon, go_sem, hcst, ↓IntWalk.iteOmega, Ext.refl, h51]
    rfl
  refine relPlan_by (fun v w => Own 4 w 0 v (rb.map encT)) (fun _ _ _ h hx => h.ext hx) ?_ ?_
  · intro V w' hx hf
    with_reducible refine relAt_ops ?_
    intro A ρ hA hρ hcst hfun
    obtain ⟨f52, _⟩ := hf
    have h52 : ρ (.tmp 52) = _ := (congrFun hρ _).trans ((evalHit hA 52 rfl).trans f52)
    simp [relUpon, go_sem, hcst, hfun, h52]
    exact (HRB.out w').mono fun e w'' ⟨v, he, ho, hy⟩ => ⟨v, he, hy, ho.mono (Nat.zero_le _)⟩
  refine relPlan_by (fun v w => Own 4 w 0 v (Ea.gd.map encT)) (fun _ _ _ h hx => h.ext hx) ?_ ?_
  · intro V w' hx hf
    with_reducible refine relAt_ops ?_
    intro A ρ hA hρ hcst hfun
    simp [relUpon, go_sem, hcst, hfun]
    exact (HMG.out w').mono fun e w'' ⟨v, he, ho, hy⟩ => ⟨v, he, hy, ho.mono (Nat.zero_le _)⟩
  refine relPlan_by (fun v w => RowsA w v [Ea.gd, ra, Ea.md, rb, Ea.gd]) (fun _ _ _ h hx => h.ext hx) ?_ ?_
  · intro V w' hx hf
    with_reducible refine relAt_ops ?_
    intro A ρ hA hρ hcst hfun
    obtain ⟨f41, f49, f50, f53, f54, _⟩ := hf
    have h41 : ρ (.tmp 41) = V 41 := (congrFun hρ _).trans (evalHit hA 41 rfl)
    have h49 : ρ (.tmp 49) = V 49 := (congrFun hρ _).trans (evalHit hA 49 rfl)
    have h50 : ρ (.tmp 50) = V 50 := (congrFun hρ _).trans (evalHit hA 50 rfl)
    have h53 : ρ (.tmp 53) = V 53 := (congrFun hρ _).trans (evalHit hA 53 rfl)
    have h54 : ρ (.tmp 54) = V 54 := (congrFun hρ _).trans (evalHit hA 54 rfl)
    have k41 : Own 4 w' 0 (V 41) _ := f41
    obtain ⟨_, a41, c41, e41, _⟩ := k41.slk
    have h41 := h41.trans e41
    rw [e41, List.length_map] at k41
    have k49 : Own 4 w' 0 (V 49) _ := f49
    obtain ⟨_, a49, c49, e49, _⟩ := k49.slk
    have h49 := h49.trans e49
    rw [e49, List.length_map] at k49
    have k50 : Own 4 w' 0 (V 50) _ := f50
    obtain ⟨_, a50, c50, e50, _⟩ := k50.slk
    have h50 := h50.trans e50
    rw [e50, List.length_map] at k50
    have k53 : Own 4 w' 0 (V 53) _ := f53
    obtain ⟨_, a53, c53, e53, _⟩ := k53.slk
    have h53 := h53.trans e53
    rw [e53, List.length_map] at k53
    have k54 : Own 4 w' 0 (V 54) _ := f54
    obtain ⟨_, a54, c54, e54, _⟩ := k54.slk
    have h54 := h54.trans e54
    rw [e54, List.length_map] at k54
    simp [relUpon, go_sem, h41, h49, h50, h53, h54]
    exact ⟨(Ext.refl w').alloc _, rowsA_mk w' _ [Ea.gd, ra, Ea.md, rb, Ea.gd] _ rfl (by simp) (fun i hi => by
      have hi' : i = 0 ∨ i = 1 ∨ i = 2 ∨ i = 3 ∨ i = 4 := by simp at hi; omega
      rcases hi' with rfl | rfl | rfl | rfl | rfl
      · exact k41
      · exact k49
      · exact k50
      · exact k53
      · exact k54
      )⟩
  refine relPlan_by (fun v x => Own 4 x w.heap.size v (res.map encT)) (fun _ _ _ h hx => h.ext hx) ?_ ?_
  · intro V w' hx hf
    with_reducible refine relAt_ops ?_
    intro A ρ hA hρ hcst hfun
    obtain ⟨f55, _⟩ := hf
    have h55 : ρ (.tmp 55) = V 55 := (congrFun hρ _).trans (evalHit hA 55 rfl)
    simp [relUpon, go_sem, hfun, h55]
    exact (xjoin_any _ [Ea.gd, ra, Ea.md, rb, Ea.gd] w' f55 (by simp) HFL.out).mono fun e w'' ⟨v, he, ho, hy⟩ => ⟨v, he, hy, by rw [← HFE.out]; exact ho.mono hx.size⟩
  intro V wT hxT hf
  obtain ⟨g41, g42, g43, g44, g45, g46, g47, g48, g49, g50, g51, g52, g53, g54, g55, g56, _⟩ := hf
  refine wpAny_tail1 16 56 4 _ (by kernel_rfl) rfl rfl (.inr rfl) (by kernel_rfl) rfl rfl ?_
  simp only [fillA, List.foldl_cons, List.foldl_nil, Act.put, List.setIfInBounds_toArray, List.set_cons_succ, List.set_cons_zero]
  have HO : Own 4 wT w.heap.size (V 56) (List.map encT res) := g56
  clear HFE HFL HMG HMM HRA HRB HSE
  go_wp2
  go_ret
  exact ⟨_, rfl, HO, hxT⟩

set_option maxRecDepth 100000 in
set_option maxHeartbeats 2000000 in
theorem xsymA_any (s : ByteArray) (h13 : s.size = 12) (hd0 : Ea.digs s.data.toList = true) (w : World) :
    Calls Tryz.prog 40 #[.int .i64 3, .string s] w (OwnsR (Ea.sym13 (48 :: s.data.toList)) w) := by
  obtain ⟨S, hS⟩ : ∃ S : ByteArray, ⟨#[48]⟩ ++ s = S := ⟨_, rfl⟩
  have hSl : S.data.toList = 48 :: s.data.toList := by rw [← hS, ByteArray.data_append, Array.toList_append]; rfl
  have hd : Ea.digs S.data.toList = true := by rw [hSl]; exact Ea.digs_cons (by decide) hd0
  have hSz : S.size = 13 := by rw [size_of_toList hSl, List.length_cons, len_data, h13]
  have hs12 : s.size ≤ 12 := by omega
  have hsz1 : 13 ≤ S.size := by omega
  have hsz : S.size ≤ 13 := by omega
  have hz0 : 0 < S.size := by omega
  obtain ⟨d0, e0, l0, v0⟩ := dig_of hd 0 hz0
  obtain ⟨hk0, hu0, hi0, hs0⟩ := dig_facts e0 l0
  have HMG := Lib.hid (fun w => xmodules_any ⟨#[49, 48, 49]⟩ Ea.gd rfl (by decide) w)
  have HMM := Lib.hid (fun w => xmodules_any ⟨#[48, 49, 48, 49, 48]⟩ Ea.md rfl (by decide) w)
  have hso : (Ea.sets13 d0).length = 6 ∧ ∀ x ∈ Ea.sets13 d0, x < 2 := ⟨(Ea.sets13_ok ⟨d0, by omega⟩).1, (Ea.sets13_ok ⟨d0, by omega⟩).2.1⟩
  obtain ⟨SE, hSE⟩ : ∃ SE, Ea.bS (zS (Ea.sets13 d0)) = SE := ⟨_, rfl⟩
  have HSE := Lib.hid (fun w => xsets13_any d0 (by omega) w)
  rw [hSE] at HSE
  have HRA := Lib.hid (fun w => xrow_any (S.extract 1 7) SE ⟨#[]⟩ (Ea.sets13 d0) [] (by rw [cut_mid]; exact Ea.digs_take (Ea.digs_drop hd 1) _) (by rw [← hSE, Ea.bS_list]) (fun x hx => by have := hso.2 x hx; omega) rfl (by rw [ByteArray.size_extract, hso.1]; omega) (by rw [ByteArray.size_extract]; omega) (by decide) w)
  have HRB := Lib.hid (fun w => xrow_any (S.extract 7 S.size) ⟨#[50, 50, 50, 50, 50, 50]⟩ ⟨#[]⟩ [2, 2, 2, 2, 2, 2] [] (by rw [cut_back]; exact Ea.digs_drop hd 7) rfl (by decide) rfl (by rw [ByteArray.size_extract]; simp; omega) (by rw [ByteArray.size_extract]; omega) (by decide) w)
  rw [cut_mid] at HRA
  rw [cut_back] at HRB
  have l1 : (Ea.drw [] ((S.data.toList.drop 1).take (7 - 1)) (Ea.sets13 d0)).length = 42 := Ea.drw6_len (Ea.digs_take (Ea.digs_drop hd 1) _) (by rw [List.length_take, List.length_drop, len_data]; omega) hso.1 (fun x hx => by have := hso.2 x hx; omega)
  have l2 : (Ea.drw [] (S.data.toList.drop 7) [2, 2, 2, 2, 2, 2]).length = 42 := Ea.drw6_len (Ea.digs_drop hd 7) (by rw [List.length_drop, len_data]; omega) rfl (by decide)
  have HE := Lib.hid (Ea.sym13.eq_1 S.data.toList)
  rw [v0] at HE
  have HRES : Hid (Ea.sym13 S.data.toList = Ea.sym13 (48 :: s.data.toList)) := Lib.hid (by rw [hSl])
  generalize Ea.sym13 (48 :: s.data.toList) = res at *
  rw [HRES.out] at HE
  generalize Ea.drw [] ((S.data.toList.drop 1).take (7 - 1)) (Ea.sets13 d0) = ra at *
  generalize Ea.drw [] (S.data.toList.drop 7) [2, 2, 2, 2, 2, 2] = rb at *
  have HFL : Hid ((List.flatten [Ea.gd, ra, Ea.md, rb, Ea.gd]).length ≤ 1000000) := Lib.hid (by simp [Ea.gd, Ea.md, Ea.bits]; omega)
  have HFE : Hid (List.flatten [Ea.gd, ra, Ea.md, rb, Ea.gd] = res) := Lib.hid (by
    rw [HE.out]
    simp [List.append_assoc])
  clear HE l1 l2 hd hd0 h13 hSE hso e0 v0 HRES
  have HS := Lib.hid hS
  clear hSz hSl hS
  go_enter Tryz.func40, Tryz.ntmps40
  go_wp2_with fail
  rw [HS.out]
  refine wp_region_rel 16 1 rfl [41, 42, 43, 44, 45, 46, 47, 48, 49, 50, 51, 52, 53, 54, 55, 56] [[], [], [1], [], [3], [4], [5], [6], [2, 7], [], [], [10], [11], [], [0, 8, 9, 12, 13], [14]] (by kernel_rfl) (by kernel_rfl) ?_
  refine relPlan_by (fun v w => Own 4 w 0 v (Ea.gd.map encT)) (fun _ _ _ h hx => h.ext hx) ?_ ?_
  · intro V w' hx hf
    with_reducible refine relAt_ops ?_
    intro A ρ hA hρ hcst hfun
    simp [relUpon, go_sem, hcst, hfun]
    exact (HMG.out w').mono fun e w'' ⟨v, he, ho, hy⟩ => ⟨v, he, hy, ho.mono (Nat.zero_le _)⟩
  apply relPlan_eq'
  · intro V w' hx hf
    with_reducible refine relAt_ops ?_
    intro A ρ hA hρ hcst hfun
    have h1 : ρ (.tmp 1) = .string S := (congrFun hρ _).trans (evalMiss hA 1 rfl)
    exact relUpon_move (hk := by rw [h1]; exact ⟨Ext.refl _, rfl⟩)
  apply relPlan_eq'
  · intro V w' hx hf
    with_reducible refine relAt_ops ?_
    intro A ρ hA hρ hcst hfun
    obtain ⟨f42, _⟩ := hf
    have h42 : ρ (.tmp 42) = _ := (congrFun hρ _).trans ((evalHit hA 42 rfl).trans f42)
    simp [relUpon, go_sem, hcst, ↓IntWalk.iteOmega, Ext.refl, h42]
    rfl
  apply relPlan_eq'
  · intro V w' hx hf
    with_reducible refine relAt_ops ?_
    intro A ρ hA hρ hcst hfun
    have h1 : ρ (.tmp 1) = .string S := (congrFun hρ _).trans (evalMiss hA 1 rfl)
    exact relUpon_move (hk := by rw [h1]; exact ⟨Ext.refl _, rfl⟩)
  apply relPlan_eq'
  · intro V w' hx hf
    with_reducible refine relAt_ops ?_
    intro A ρ hA hρ hcst hfun
    obtain ⟨f44, _⟩ := hf
    have h44 : ρ (.tmp 44) = _ := (congrFun hρ _).trans ((evalHit hA 44 rfl).trans f44)
    simp [relUpon, go_sem, hcst, ↓IntWalk.iteOmega, Ext.refl, h44, hk0]
    rfl
  apply relPlan_eq'
  · intro V w' hx hf
    with_reducible refine relAt_ops ?_
    intro A ρ hA hρ hcst hfun
    obtain ⟨f45, _⟩ := hf
    have h45 : ρ (.tmp 45) = _ := (congrFun hρ _).trans ((evalHit hA 45 rfl).trans f45)
    simp [relUpon, go_sem, hcst, Ext.refl, h45, hu0, hs0]
    rfl
  apply relPlan_eq'
  · intro V w' hx hf
    with_reducible refine relAt_ops ?_
    intro A ρ hA hρ hcst hfun
    obtain ⟨f46, _⟩ := hf
    have h46 : ρ (.tmp 46) = _ := (congrFun hρ _).trans ((evalHit hA 46 rfl).trans f46)
    simp [relUpon, go_sem, Ext.refl, h46, hi0]
    rfl
  refine relPlan_by (eqv (.string SE)) (eqv_stable _) ?_ ?_
  · intro V w' hx hf
    with_reducible refine relAt_ops ?_
    intro A ρ hA hρ hcst hfun
    obtain ⟨f47, _⟩ := hf
    have h47 : ρ (.tmp 47) = _ := (congrFun hρ _).trans ((evalHit hA 47 rfl).trans f47)
    simp [relUpon, go_sem, hfun, h47]
    exact (HSE.out w').mono fun e w'' ⟨he, hy⟩ => ⟨_, he, hy, rfl⟩
  refine relPlan_by (fun v w => Own 4 w 0 v (ra.map encT)) (fun _ _ _ h hx => h.ext hx) ?_ ?_
  · intro V w' hx hf
    with_reducible refine relAt_ops ?_
    intro A ρ hA hρ hcst hfun
    obtain ⟨f43, f48, _⟩ := hf
    have h43 : ρ (.tmp 43) = _ := (congrFun hρ _).trans ((evalHit hA 43 rfl).trans f43)
    have h48 : ρ (.tmp 48) = _ := (congrFun hρ _).trans ((evalHit hA 48 rfl).trans f48)
    simp [relUpon, go_sem, hcst, hfun, h43, h48]
    exact (HRA.out w').mono fun e w'' ⟨v, he, ho, hy⟩ => ⟨v, he, hy, ho.mono (Nat.zero_le _)⟩
  refine relPlan_by (fun v w => Own 4 w 0 v (Ea.md.map encT)) (fun _ _ _ h hx => h.ext hx) ?_ ?_
  · intro V w' hx hf
    with_reducible refine relAt_ops ?_
    intro A ρ hA hρ hcst hfun
    simp [relUpon, go_sem, hcst, hfun]
    exact (HMM.out w').mono fun e w'' ⟨v, he, ho, hy⟩ => ⟨v, he, hy, ho.mono (Nat.zero_le _)⟩
  apply relPlan_eq'
  · intro V w' hx hf
    with_reducible refine relAt_ops ?_
    intro A ρ hA hρ hcst hfun
    have h1 : ρ (.tmp 1) = .string S := (congrFun hρ _).trans (evalMiss hA 1 rfl)
    exact relUpon_move (hk := by rw [h1]; exact ⟨Ext.refl _, rfl⟩)
  apply relPlan_eq'
  · intro V w' hx hf
    with_reducible refine relAt_ops ?_
    intro A ρ hA hρ hcst hfun
    obtain ⟨f51, _⟩ := hf
    have h51 : ρ (.tmp 51) = _ := (congrFun hρ _).trans ((evalHit hA 51 rfl).trans f51)
    simp [relUpon, go_sem, hcst, ↓IntWalk.iteOmega, Ext.refl, h51]
    rfl
  refine relPlan_by (fun v w => Own 4 w 0 v (rb.map encT)) (fun _ _ _ h hx => h.ext hx) ?_ ?_
  · intro V w' hx hf
    with_reducible refine relAt_ops ?_
    intro A ρ hA hρ hcst hfun
    obtain ⟨f52, _⟩ := hf
    have h52 : ρ (.tmp 52) = _ := (congrFun hρ _).trans ((evalHit hA 52 rfl).trans f52)
    simp [relUpon, go_sem, hcst, hfun, h52]
    exact (HRB.out w').mono fun e w'' ⟨v, he, ho, hy⟩ => ⟨v, he, hy, ho.mono (Nat.zero_le _)⟩
  refine relPlan_by (fun v w => Own 4 w 0 v (Ea.gd.map encT)) (fun _ _ _ h hx => h.ext hx) ?_ ?_
  · intro V w' hx hf
    with_reducible refine relAt_ops ?_
    intro A ρ hA hρ hcst hfun
    simp [relUpon, go_sem, hcst, hfun]
    exact (HMG.out w').mono fun e w'' ⟨v, he, ho, hy⟩ => ⟨v, he, hy, ho.mono (Nat.zero_le _)⟩
  refine relPlan_by (fun v w => RowsA w v [Ea.gd, ra, Ea.md, rb, Ea.gd]) (fun _ _ _ h hx => h.ext hx) ?_ ?_
  · intro V w' hx hf
    with_reducible refine relAt_ops ?_
    intro A ρ hA hρ hcst hfun
    obtain ⟨f41, f49, f50, f53, f54, _⟩ := hf
    have h41 : ρ (.tmp 41) = V 41 := (congrFun hρ _).trans (evalHit hA 41 rfl)
    have h49 : ρ (.tmp 49) = V 49 := (congrFun hρ _).trans (evalHit hA 49 rfl)
    have h50 : ρ (.tmp 50) = V 50 := (congrFun hρ _).trans (evalHit hA 50 rfl)
    have h53 : ρ (.tmp 53) = V 53 := (congrFun hρ _).trans (evalHit hA 53 rfl)
    have h54 : ρ (.tmp 54) = V 54 := (congrFun hρ _).trans (evalHit hA 54 rfl)
    have k41 : Own 4 w' 0 (V 41) _ := f41
    obtain ⟨_, a41, c41, e41, _⟩ := k41.slk
    have h41 := h41.trans e41
    rw [e41, List.length_map] at k41
    have k49 : Own 4 w' 0 (V 49) _ := f49
    obtain ⟨_, a49, c49, e49, _⟩ := k49.slk
    have h49 := h49.trans e49
    rw [e49, List.length_map] at k49
    have k50 : Own 4 w' 0 (V 50) _ := f50
    obtain ⟨_, a50, c50, e50, _⟩ := k50.slk
    have h50 := h50.trans e50
    rw [e50, List.length_map] at k50
    have k53 : Own 4 w' 0 (V 53) _ := f53
    obtain ⟨_, a53, c53, e53, _⟩ := k53.slk
    have h53 := h53.trans e53
    rw [e53, List.length_map] at k53
    have k54 : Own 4 w' 0 (V 54) _ := f54
    obtain ⟨_, a54, c54, e54, _⟩ := k54.slk
    have h54 := h54.trans e54
    rw [e54, List.length_map] at k54
    simp [relUpon, go_sem, h41, h49, h50, h53, h54]
    exact ⟨(Ext.refl w').alloc _, rowsA_mk w' _ [Ea.gd, ra, Ea.md, rb, Ea.gd] _ rfl (by simp) (fun i hi => by
      have hi' : i = 0 ∨ i = 1 ∨ i = 2 ∨ i = 3 ∨ i = 4 := by simp at hi; omega
      rcases hi' with rfl | rfl | rfl | rfl | rfl
      · exact k41
      · exact k49
      · exact k50
      · exact k53
      · exact k54
      )⟩
  refine relPlan_by (fun v x => Own 4 x w.heap.size v (res.map encT)) (fun _ _ _ h hx => h.ext hx) ?_ ?_
  · intro V w' hx hf
    with_reducible refine relAt_ops ?_
    intro A ρ hA hρ hcst hfun
    obtain ⟨f55, _⟩ := hf
    have h55 : ρ (.tmp 55) = V 55 := (congrFun hρ _).trans (evalHit hA 55 rfl)
    simp [relUpon, go_sem, hfun, h55]
    exact (xjoin_any _ [Ea.gd, ra, Ea.md, rb, Ea.gd] w' f55 (by simp) HFL.out).mono fun e w'' ⟨v, he, ho, hy⟩ => ⟨v, he, hy, by rw [← HFE.out]; exact ho.mono hx.size⟩
  intro V wT hxT hf
  obtain ⟨g41, g42, g43, g44, g45, g46, g47, g48, g49, g50, g51, g52, g53, g54, g55, g56, _⟩ := hf
  refine wpAny_tail1 16 56 4 _ (by kernel_rfl) rfl rfl (.inr rfl) (by kernel_rfl) rfl rfl ?_
  simp only [fillA, List.foldl_cons, List.foldl_nil, Act.put, List.setIfInBounds_toArray, List.set_cons_succ, List.set_cons_zero]
  have HO : Own 4 wT w.heap.size (V 56) (List.map encT res) := g56
  clear HFE HFL HMG HMM HRA HRB HSE
  go_wp2
  go_ret
  exact ⟨_, rfl, HO, hxT⟩
end Go.Proofs.YtfpliihglgjijaaGreat
