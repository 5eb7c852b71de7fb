/-
  Chapter 51: the words of a field's line: the program.
  No condition.
-/
import Derived.Test.YtkpfehfcgpapiaaGreatDoorFmVe
import Derived.Test.YtkpfehfcgpapiaaGreatDoorFmPa

/-
  Chapter 51: the words of a field's line: the program.
  No condition.
-/
namespace Go.Proofs.YtkpfehfcgpapiaaGreatDoor
open Go.RowKit

set_option maxRecDepth 100000 in
set_option maxHeartbeats 1000000 in
theorem formatField_any (nm : ByteArray) (op mn mx ck : Int) (a : Option Addr) (n c : Nat) (opt : Bool) (l : List Fm.S) (w : World) (hl : StrsR w (.slice a n c) l) (hP : Pow w) (h1 : 1 ≤ op) (h5 : op ≤ 5) (hc0 : 0 ≤ ck) (hc8 : ck ≤ 8) (hm : -9223372036854775808 ≤ mn ∧ mn ≤ 9223372036854775807 ∧ -9223372036854775808 ≤ mx ∧ mx ≤ 9223372036854775807) (hn : l.length ≤ 1000) (h4 : op = 4 → 0 < l.length) :
    Calls Tryz.prog 36 #[.agg #[.string nm, .int .i64 op, .int .i64 mn, .int .i64 mx, .int .i64 ck, .slice a n c, .bool opt]] w fun e w' => ∃ v, e = .returned v ∧ KOwn 9 1 enc1 w' w.heap.size v (Fm.fldWords ⟨nm.data.toList, op, mn, mx, ck, l, opt⟩) ∧ Ext w w' := by
  have HR : Hid (Fm.fldWords ⟨nm.data.toList, op, mn, mx, ck, l, opt⟩ = [Fm.kindNm op, nm.data.toList] ++ (if op = 4 then l else [Lib.itoa mn, Lib.itoa mx]) ++ (if ck = 0 then [] else [Fm.tChk, Fm.sysNm ck]) ++ (if opt then [Fm.tOpt] else [])) := Lib.hid rfl
  generalize Fm.fldWords ⟨nm.data.toList, op, mn, mx, ck, l, opt⟩ = res at *
  have HKN := Lib.hid (fun w' => kindName_any op h1 h5 w')
  obtain ⟨KN, hKN⟩ : ∃ KN : ByteArray, (⟨(Fm.kindNm op).toArray⟩ : ByteArray) = KN := ⟨_, rfl⟩
  rw [hKN] at HKN
  rw [show Fm.kindNm op = KN.data.toList by rw [← hKN]] at HR
  have HMN := Lib.hid (fun (w' : World) (hx : Ext (w.alloc (.cells #[.string nm, .int .i64 op, .int .i64 mn, .int .i64 mx, .int .i64 ck, .slice a n c, .bool opt] 39)) w') => itoa_any mn hm.1 hm.2.1 w' (hP.ext hx.before))
  have HMX := Lib.hid (fun (w' : World) (hx : Ext (w.alloc (.cells #[.string nm, .int .i64 op, .int .i64 mn, .int .i64 mx, .int .i64 ck, .slice a n c, .bool opt] 39)) w') => itoa_any mx hm.2.2.1 hm.2.2.2 w' (hP.ext hx.before))
  obtain ⟨MN, hMN⟩ : ∃ MN : ByteArray, (⟨(Lib.itoa mn).toArray⟩ : ByteArray) = MN := ⟨_, rfl⟩
  obtain ⟨MX, hMX⟩ : ∃ MX : ByteArray, (⟨(Lib.itoa mx).toArray⟩ : ByteArray) = MX := ⟨_, rfl⟩
  rw [hMN] at HMN
  rw [hMX] at HMX
  rw [show Lib.itoa mn = MN.data.toList by rw [← hMN], show Lib.itoa mx = MX.data.toList by rw [← hMX]] at HR
  have HSN : Hid (ck ≠ 0 → ∀ w', Calls Tryz.prog 72 #[.int .i64 ck] w' fun e w'' => e = .returned (.string ⟨(Fm.sysNm ck).toArray⟩) ∧ w' = w'') := Lib.hid (fun h w' => systemName_any ck (by omega) hc8 w')
  obtain ⟨SN, hSN⟩ : ∃ SN : ByteArray, (⟨(Fm.sysNm ck).toArray⟩ : ByteArray) = SN := ⟨_, rfl⟩
  rw [hSN] at HSN
  rw [show Fm.sysNm ck = SN.data.toList by rw [← hSN]] at HR
  have HL := Lib.hid hl
  have H4 := Lib.hid h4
  clear hKN hMN hMX hSN hl hP h1 h5 hc0 hc8 hm h4

  go_enter Tryz.func36, Tryz.ntmps36
  go_wp2
  refine wp_region_rel 6 1 rfl [4, 5, 6, 7, 8, 9] [[], [0], [1], [], [3], [2, 4]] (by kernel_rfl) (by kernel_rfl) ?_
  apply relPlan_eq'
  · intro V w' hx hf
    with_reducible refine relAt_ops ?_
    intro A ρ hA hρ hcst hfun
    have h1 : ρ (.tmp 1) = .pointer (some ⟨w.heap.size, 0, none⟩) := (congrFun hρ _).trans (evalMiss hA 1 rfl)
    simp [relUpon, go_sem, Ext.refl, h1]
    rfl
  refine relPlan_by (eqv (.int .i64 op)) (eqv_stable _) ?_ ?_
  · intro V w' hx hf
    with_reducible refine relAt_ops ?_
    intro A ρ hA hρ hcst hfun
    obtain ⟨f4, _⟩ := hf
    have h4 : ρ (.tmp 4) = _ := (congrFun hρ _).trans ((evalHit hA 4 rfl).trans f4)
    have q := (kept7 hx).2.1
    simp [relUpon, go_sem, Ext.refl, h4, q]
    rfl
  refine relPlan_by (eqv (.string KN)) (eqv_stable _) ?_ ?_
  · intro V w' hx hf
    with_reducible refine relAt_ops ?_
    intro A ρ hA hρ hcst hfun
    obtain ⟨f5, _⟩ := hf
    have h5 : ρ (.tmp 5) = _ := (congrFun hρ _).trans ((evalHit hA 5 rfl).trans f5)
    simp [relUpon, go_sem, hfun, h5]
    exact (HKN.out w').mono fun e w'' ⟨he, hy⟩ => ⟨_, he, hy ▸ Ext.refl _, rfl⟩
  apply relPlan_eq'
  · intro V w' hx hf
    with_reducible refine relAt_ops ?_
    intro A ρ hA hρ hcst hfun
    have h1 : ρ (.tmp 1) = .pointer (some ⟨w.heap.size, 0, none⟩) := (congrFun hρ _).trans (evalMiss hA 1 rfl)
    simp [relUpon, go_sem, Ext.refl, h1]
    rfl
  refine relPlan_by (eqv (.string nm)) (eqv_stable _) ?_ ?_
  · intro V w' hx hf
    with_reducible refine relAt_ops ?_
    intro A ρ hA hρ hcst hfun
    obtain ⟨f7, _⟩ := hf
    have h7 : ρ (.tmp 7) = _ := (congrFun hρ _).trans ((evalHit hA 7 rfl).trans f7)
    have q := (kept7 hx).1
    simp [relUpon, go_sem, Ext.refl, h7, q]
    rfl
  refine relPlan_by (litO (w.heap.size + 1) [KN.data.toList, nm.data.toList]) (fun _ _ _ h hx => h.ext hx) ?_ ?_
  · intro V w' hx hf
    with_reducible refine relAt_ops ?_
    intro A ρ hA hρ hcst hfun
    obtain ⟨f6, f8, _⟩ := hf
    have h6 : ρ (.tmp 6) = _ := (congrFun hρ _).trans ((evalHit hA 6 rfl).trans f6)
    have h8 : ρ (.tmp 8) = _ := (congrFun hρ _).trans ((evalHit hA 8 rfl).trans f8)
    simp [relUpon, go_sem, h6, h8]
    exact ⟨(Ext.refl _).alloc _, litO.new (w.heap.size + 1) [KN.data.toList, nm.data.toList] _ _ (by simp [strV_mk]) (by have := hx.size; simp at this; omega) (by simp)⟩
  intro V wT hxT hf
  obtain ⟨g4, g5, g6, g7, g8, g9, _⟩ := hf
  refine wpAny_tail1 6 9 3 _ (by kernel_rfl) rfl rfl (.inr rfl) (by kernel_rfl) rfl (by kernel_rfl) ?_
  simp only [fillA, List.foldl_cons, List.foldl_nil, Act.put, List.setIfInBounds_toArray, List.set_cons_succ, List.set_cons_zero]
  have G9 : litO (w.heap.size + 1) [KN.data.toList, nm.data.toList] (V 9) wT := g9
  clear g4 g5 g6 g7 g8 g9
  generalize V 9 = v0 at *
  obtain ⟨-, t1, -, -, -, t5, -⟩ := kept7 hxT
  have hwT : w.heap.size < wT.heap.size := by have := hxT.size; rw [World.size_alloc] at this; omega
  by_cases h4 : op = 4
  · rw [if_pos h4] at HR
    have z4 : (op == 4) = true := beq_iff_eq.2 h4
    have hl0 := H4.out h4
    obtain ⟨v1, w1, hrun1, ho1, hg1⟩ := run_append_sl (w := wT) (w.heap.size + 1) v0 [KN.data.toList, nm.data.toList] G9.1 a n c l (HL.out.ext hxT.before) hl0 (by simp; omega) (by omega)
    have HLN : Hid (([KN.data.toList, nm.data.toList] ++ l).length ≤ 1002) := Lib.hid (by simp; omega)
    have hx1 : Ext (w.alloc (.cells #[.string nm, .int .i64 op, .int .i64 mn, .int .i64 mx, .int .i64 ck, .slice a n c, .bool opt] 39)) w1 := hxT.ofGrown hg1 (fun k hk => by have := G9.1.low k hk; simp; omega)
    have HO1 := Lib.hid ho1
    clear ho1 hg1 G9 hl0 h4 hxT
    obtain ⟨-, -, -, -, m4, -, m6⟩ := kept7 hx1
    have hw1 : w.heap.size < w1.heap.size := by have := hx1.size; rw [World.size_alloc] at this; omega
    by_cases hc : ck = 0
    · have z0 : (ck == 0) = true := beq_iff_eq.2 hc
      rw [if_pos hc, List.append_nil] at HR
      clear hc
      have hzw1 : w.heap.size < w1.heap.size := by have := hx1.size; rw [World.size_alloc] at this; omega
      cases opt with
      | false =>
        rw [if_neg (by decide), List.append_nil] at HR
        go_wp2_with ((at_builtin; refine wpList_append_run rfl _ _ 37 rfl rfl _ _ rfl rfl _ _ hrun1 ?_))
        try go_wp2
        go_ret
        exact ⟨_, rfl, by rw [HR.out]; exact HO1.out.mono (Nat.le_succ _), hx1.before⟩
      | true =>
        rw [if_pos rfl] at HR
        obtain ⟨v5, w5, hrun5, ho5, hg5⟩ := run_append_lit (w := w1.alloc (.cells #[.string ⟨#[111, 112, 116, 105, 111, 110, 97, 108]⟩] 9)) (w.heap.size + 1) v1 _ (HO1.out.ext ((Ext.refl _).alloc _)) (w.heap.size + 1) [Fm.tOpt] _ (litO.new (w.heap.size + 1) [Fm.tOpt] #[.string ⟨#[111, 112, 116, 105, 111, 110, 97, 108]⟩] w1 rfl (by omega) (by simp)) (by have := HLN.out; simp only [List.length_append, List.length_cons, List.length_nil] at this ⊢; omega) (by simp; omega)
        replace hrun5 : (Builtin.append_ #[37, 37] 37 #[v1, .slice (some ⟨w1.heap.size, 0, none⟩) 1 1]).run Tryz.prog (w1.alloc (.cells #[.string ⟨#[111, 112, 116, 105, 111, 110, 97, 108]⟩] 9)) = .ok v5 w5 := hrun5
        have hlo5 := HO1.out.low
        have hx5 : Ext w w5 := (hx1.before.alloc _).ofGrown hg5 (fun k hk => by have := hlo5 k hk; omega)
        have HO5 := Lib.hid ho5
        clear ho5 hg5 hlo5
        go_wp2_with (first | (at_builtin; refine wpList_append_run rfl _ _ 37 rfl rfl _ _ rfl rfl _ _ hrun1 ?_) | (at_builtin; refine wpList_append_run rfl _ _ 37 rfl rfl _ _ rfl rfl _ _ hrun5 ?_))
        try go_wp2
        go_ret
        exact ⟨_, rfl, by rw [HR.out]; exact HO5.out.mono (Nat.le_succ _), hx5⟩
    · have z0 : (ck == 0) = false := beq_eq_false_iff_ne.2 hc
      have HS := Lib.hid (HSN.out hc)
      rw [if_neg hc] at HR
      clear hc
      obtain ⟨v2, w2, hrun, ho2, hg2⟩ := run_append_lit (w := w1.alloc (.cells #[.string ⟨#[99, 104, 101, 99, 107]⟩, .string SN] 9)) (w.heap.size + 1) v1 _ (HO1.out.ext ((Ext.refl _).alloc _)) (w.heap.size + 1) [Fm.tChk, SN.data.toList] _ (litO.new (w.heap.size + 1) [Fm.tChk, SN.data.toList] #[.string ⟨#[99, 104, 101, 99, 107]⟩, .string SN] w1 (by simp [strV_mk]; rfl) (by omega) (by simp)) (by have := HLN.out; simp only [List.length_append, List.length_cons, List.length_nil] at this ⊢; omega) (by simp; omega)
      replace hrun : (Builtin.append_ #[37, 37] 37 #[v1, .slice (some ⟨w1.heap.size, 0, none⟩) 2 2]).run Tryz.prog (w1.alloc (.cells #[.string ⟨#[99, 104, 101, 99, 107]⟩, .string SN] 9)) = .ok v2 w2 := hrun
      have hx2 : Ext (w.alloc (.cells #[.string nm, .int .i64 op, .int .i64 mn, .int .i64 mx, .int .i64 ck, .slice a n c, .bool opt] 39)) w2 := (hx1.alloc _).ofGrown hg2 (fun k hk => by have h1 := HO1.out.low k hk; simp; omega)
      have HO2 := Lib.hid ho2
      obtain ⟨-, -, -, -, -, -, j6⟩ := kept7 hx2
      clear ho2 hg2
      go_wp2_with ((at_builtin; refine wpList_append_run rfl _ _ 37 rfl rfl _ _ rfl rfl _ _ hrun1 ?_))
      refine (HS.out _).mono ?_
      rintro e w3 ⟨rfl, rfl⟩
      have hzw2 : w.heap.size < w2.heap.size := by have := hx2.size; rw [World.size_alloc] at this; omega
      cases opt with
      | false =>
        rw [if_neg (by decide), List.append_nil] at HR
        go_wp2_with ((at_builtin; refine wpList_append_run rfl _ _ 37 rfl rfl _ _ rfl rfl _ _ hrun ?_))
        try go_wp2
        go_ret
        exact ⟨_, rfl, by rw [HR.out]; exact HO2.out.mono (Nat.le_succ _), hx2.before⟩
      | true =>
        rw [if_pos rfl] at HR
        obtain ⟨v5, w5, hrun5, ho5, hg5⟩ := run_append_lit (w := w2.alloc (.cells #[.string ⟨#[111, 112, 116, 105, 111, 110, 97, 108]⟩] 9)) (w.heap.size + 1) v2 _ (HO2.out.ext ((Ext.refl _).alloc _)) (w.heap.size + 1) [Fm.tOpt] _ (litO.new (w.heap.size + 1) [Fm.tOpt] #[.string ⟨#[111, 112, 116, 105, 111, 110, 97, 108]⟩] w2 rfl (by omega) (by simp)) (by have := HLN.out; simp only [List.length_append, List.length_cons, List.length_nil] at this ⊢; omega) (by simp; omega)
        replace hrun5 : (Builtin.append_ #[37, 37] 37 #[v2, .slice (some ⟨w2.heap.size, 0, none⟩) 1 1]).run Tryz.prog (w2.alloc (.cells #[.string ⟨#[111, 112, 116, 105, 111, 110, 97, 108]⟩] 9)) = .ok v5 w5 := hrun5
        have hlo5 := HO2.out.low
        have hx5 : Ext w w5 := (hx2.before.alloc _).ofGrown hg5 (fun k hk => by have := hlo5 k hk; omega)
        have HO5 := Lib.hid ho5
        clear ho5 hg5 hlo5
        go_wp2_with (first | (at_builtin; refine wpList_append_run rfl _ _ 37 rfl rfl _ _ rfl rfl _ _ hrun ?_) | (at_builtin; refine wpList_append_run rfl _ _ 37 rfl rfl _ _ rfl rfl _ _ hrun5 ?_))
        try go_wp2
        go_ret
        exact ⟨_, rfl, by rw [HR.out]; exact HO5.out.mono (Nat.le_succ _), hx5⟩
  · rw [if_neg h4] at HR
    have z4 : (op == 4) = false := beq_eq_false_iff_ne.2 h4
    have HLN : Hid (([KN.data.toList, nm.data.toList] ++ [MN.data.toList, MX.data.toList]).length ≤ 1002) := Lib.hid (by simp)
    clear h4
    go_wp2
    refine wp_region_rel 8 2 rfl [17, 18, 19, 20, 21, 22, 23, 24] [[], [], [1], [2], [], [4], [5], [3, 6]] (by kernel_rfl) (by kernel_rfl) ?_
    apply relPlan_eq'
    · intro V w' hx hf
      with_reducible refine relAt_ops ?_
      intro A ρ hA hρ hcst hfun
      have h3 : ρ (.tmp 3) = v0 := (congrFun hρ _).trans (evalMiss hA 3 rfl)
      exact relUpon_move (hk := by rw [h3]; exact ⟨Ext.refl _, rfl⟩)
    apply relPlan_eq'
    · intro V w' hx hf
      with_reducible refine relAt_ops ?_
      intro A ρ hA hρ hcst hfun
      have h1 : ρ (.tmp 1) = .pointer (some ⟨w.heap.size, 0, none⟩) := (congrFun hρ _).trans (evalMiss hA 1 rfl)
      simp [relUpon, go_sem, Ext.refl, h1]
      rfl
    refine relPlan_by (eqv (.int .i64 mn)) (eqv_stable _) ?_ ?_
    · intro V w' hx hf
      with_reducible refine relAt_ops ?_
      intro A ρ hA hρ hcst hfun
      obtain ⟨f18, _⟩ := hf
      have h18 : ρ (.tmp 18) = _ := (congrFun hρ _).trans ((evalHit hA 18 rfl).trans f18)
      have q := (kept7 (hxT.trans hx)).2.2.1
      simp [relUpon, go_sem, Ext.refl, h18, q]
      rfl
    refine relPlan_by (eqv (.string MN)) (eqv_stable _) ?_ ?_
    · intro V w' hx hf
      with_reducible refine relAt_ops ?_
      intro A ρ hA hρ hcst hfun
      obtain ⟨f19, _⟩ := hf
      have h19 : ρ (.tmp 19) = _ := (congrFun hρ _).trans ((evalHit hA 19 rfl).trans f19)
      simp [relUpon, go_sem, hfun, h19]
      exact (HMN.out w' (hxT.trans hx)).mono fun e w'' ⟨he, hy⟩ => ⟨_, he, hy, rfl⟩
    apply relPlan_eq'
    · intro V w' hx hf
      with_reducible refine relAt_ops ?_
      intro A ρ hA hρ hcst hfun
      have h1 : ρ (.tmp 1) = .pointer (some ⟨w.heap.size, 0, none⟩) := (congrFun hρ _).trans (evalMiss hA 1 rfl)
      simp [relUpon, go_sem, hcst, hfun, ↓IntWalk.iteOmega, Ext.refl, h1]
      rfl
    refine relPlan_by (eqv (.int .i64 mx)) (eqv_stable _) ?_ ?_
    · intro V w' hx hf
      with_reducible refine relAt_ops ?_
      intro A ρ hA hρ hcst hfun
      obtain ⟨f21, _⟩ := hf
      have h21 : ρ (.tmp 21) = _ := (congrFun hρ _).trans ((evalHit hA 21 rfl).trans f21)
      have q := (kept7 (hxT.trans hx)).2.2.2.1
      simp [relUpon, go_sem, hcst, hfun, ↓IntWalk.iteOmega, Ext.refl, h21, q]
      rfl
    refine relPlan_by (eqv (.string MX)) (eqv_stable _) ?_ ?_
    · intro V w' hx hf
      with_reducible refine relAt_ops ?_
      intro A ρ hA hρ hcst hfun
      obtain ⟨f22, _⟩ := hf
      have h22 : ρ (.tmp 22) = _ := (congrFun hρ _).trans ((evalHit hA 22 rfl).trans f22)
      simp [relUpon, go_sem, hcst, hfun, h22]
      exact (HMX.out w' (hxT.trans hx)).mono fun e w'' ⟨he, hy⟩ => ⟨_, he, hy, rfl⟩
    refine relPlan_by (litO (w.heap.size + 1) [MN.data.toList, MX.data.toList]) (fun _ _ _ h hx => h.ext hx) ?_ ?_
    · intro V w' hx hf
      with_reducible refine relAt_ops ?_
      intro A ρ hA hρ hcst hfun
      obtain ⟨f20, f23, _⟩ := hf
      have h20 : ρ (.tmp 20) = _ := (congrFun hρ _).trans ((evalHit hA 20 rfl).trans f20)
      have h23 : ρ (.tmp 23) = _ := (congrFun hρ _).trans ((evalHit hA 23 rfl).trans f23)
      simp [relUpon, go_sem, h20, h23]
      exact ⟨(Ext.refl _).alloc _, litO.new (w.heap.size + 1) [MN.data.toList, MX.data.toList] _ _ (by simp [strV_mk]) (by have := (hxT.trans hx).size; simp at this; omega) (by simp)⟩
    intro V2 wU hxU hf
    obtain ⟨g17, g18, g19, g20, g21, g22, g23, g24, _⟩ := hf
    refine wpAny_tail2 8 25 3 _ _ (by kernel_rfl) rfl rfl (by kernel_rfl) rfl rfl (.inr rfl) (by kernel_rfl) rfl rfl rfl (fun K hK => ?_)
    refine wp_append_lit (.tmp 17) (.tmp 24) rfl rfl (w.heap.size + 1) v0 _ ((evalHit rfl 17 rfl).trans g17) (G9.1.ext hxU) (w.heap.size + 1) _ _ (evalHit rfl 24 rfl) g24 (by simp) (by have := (hxT.trans hxU).size; simp at this; omega) ?_
    intro v1 w1 ho1 hg1
    refine hK _ _ ?_
    simp only [fillA, List.foldl_cons, List.foldl_nil, Act.put, List.setIfInBounds_toArray, List.set_cons_succ, List.set_cons_zero]
    have hx1 : Ext (w.alloc (.cells #[.string nm, .int .i64 op, .int .i64 mn, .int .i64 mx, .int .i64 ck, .slice a n c, .bool opt] 39)) w1 := (hxT.trans hxU).ofGrown hg1 (fun k hk => by have := G9.1.low k hk; simp; omega)
    have HO1 := Lib.hid ho1
    clear g17 g18 g19 g20 g21 g22 g23 g24 G9 ho1 hg1 hxU hxT
    clear t1 t5
    obtain ⟨-, -, -, -, m4, -, m6⟩ := kept7 hx1
    have hw1 : w.heap.size < w1.heap.size := by have := hx1.size; rw [World.size_alloc] at this; omega
    by_cases hc : ck = 0
    · have z0 : (ck == 0) = true := beq_iff_eq.2 hc
      rw [if_pos hc, List.append_nil] at HR
      clear hc
      have hzw1 : w.heap.size < w1.heap.size := by have := hx1.size; rw [World.size_alloc] at this; omega
      cases opt with
      | false =>
        rw [if_neg (by decide), List.append_nil] at HR
        go_wp2
        try go_wp2
        go_ret
        exact ⟨_, rfl, by rw [HR.out]; exact HO1.out.mono (Nat.le_succ _), hx1.before⟩
      | true =>
        rw [if_pos rfl] at HR
        obtain ⟨v5, w5, hrun5, ho5, hg5⟩ := run_append_lit (w := w1.alloc (.cells #[.string ⟨#[111, 112, 116, 105, 111, 110, 97, 108]⟩] 9)) (w.heap.size + 1) v1 _ (HO1.out.ext ((Ext.refl _).alloc _)) (w.heap.size + 1) [Fm.tOpt] _ (litO.new (w.heap.size + 1) [Fm.tOpt] #[.string ⟨#[111, 112, 116, 105, 111, 110, 97, 108]⟩] w1 rfl (by omega) (by simp)) (by have := HLN.out; simp only [List.length_append, List.length_cons, List.length_nil] at this ⊢; omega) (by simp; omega)
        replace hrun5 : (Builtin.append_ #[37, 37] 37 #[v1, .slice (some ⟨w1.heap.size, 0, none⟩) 1 1]).run Tryz.prog (w1.alloc (.cells #[.string ⟨#[111, 112, 116, 105, 111, 110, 97, 108]⟩] 9)) = .ok v5 w5 := hrun5
        have hlo5 := HO1.out.low
        have hx5 : Ext w w5 := (hx1.before.alloc _).ofGrown hg5 (fun k hk => by have := hlo5 k hk; omega)
        have HO5 := Lib.hid ho5
        clear ho5 hg5 hlo5
        go_wp2_with ((at_builtin; refine wpList_append_run rfl _ _ 37 rfl rfl _ _ rfl rfl _ _ hrun5 ?_))
        try go_wp2
        go_ret
        exact ⟨_, rfl, by rw [HR.out]; exact HO5.out.mono (Nat.le_succ _), hx5⟩
    · have z0 : (ck == 0) = false := beq_eq_false_iff_ne.2 hc
      have HS := Lib.hid (HSN.out hc)
      rw [if_neg hc] at HR
      clear hc
      obtain ⟨v2, w2, hrun, ho2, hg2⟩ := run_append_lit (w := w1.alloc (.cells #[.string ⟨#[99, 104, 101, 99, 107]⟩, .string SN] 9)) (w.heap.size + 1) v1 _ (HO1.out.ext ((Ext.refl _).alloc _)) (w.heap.size + 1) [Fm.tChk, SN.data.toList] _ (litO.new (w.heap.size + 1) [Fm.tChk, SN.data.toList] #[.string ⟨#[99, 104, 101, 99, 107]⟩, .string SN] w1 (by simp [strV_mk]; rfl) (by omega) (by simp)) (by have := HLN.out; simp only [List.length_append, List.length_cons, List.length_nil] at this ⊢; omega) (by simp; omega)
      replace hrun : (Builtin.append_ #[37, 37] 37 #[v1, .slice (some ⟨w1.heap.size, 0, none⟩) 2 2]).run Tryz.prog (w1.alloc (.cells #[.string ⟨#[99, 104, 101, 99, 107]⟩, .string SN] 9)) = .ok v2 w2 := hrun
      have hx2 : Ext (w.alloc (.cells #[.string nm, .int .i64 op, .int .i64 mn, .int .i64 mx, .int .i64 ck, .slice a n c, .bool opt] 39)) w2 := (hx1.alloc _).ofGrown hg2 (fun k hk => by have h1 := HO1.out.low k hk; simp; omega)
      have HO2 := Lib.hid ho2
      obtain ⟨-, -, -, -, -, -, j6⟩ := kept7 hx2
      clear ho2 hg2
      go_wp2_with fail
      refine (HS.out _).mono ?_
      rintro e w3 ⟨rfl, rfl⟩
      have hzw2 : w.heap.size < w2.heap.size := by have := hx2.size; rw [World.size_alloc] at this; omega
      cases opt with
      | false =>
        rw [if_neg (by decide), List.append_nil] at HR
        go_wp2_with ((at_builtin; refine wpList_append_run rfl _ _ 37 rfl rfl _ _ rfl rfl _ _ hrun ?_))
        try go_wp2
        go_ret
        exact ⟨_, rfl, by rw [HR.out]; exact HO2.out.mono (Nat.le_succ _), hx2.before⟩
      | true =>
        rw [if_pos rfl] at HR
        obtain ⟨v5, w5, hrun5, ho5, hg5⟩ := run_append_lit (w := w2.alloc (.cells #[.string ⟨#[111, 112, 116, 105, 111, 110, 97, 108]⟩] 9)) (w.heap.size + 1) v2 _ (HO2.out.ext ((Ext.refl _).alloc _)) (w.heap.size + 1) [Fm.tOpt] _ (litO.new (w.heap.size + 1) [Fm.tOpt] #[.string ⟨#[111, 112, 116, 105, 111, 110, 97, 108]⟩] w2 rfl (by omega) (by simp)) (by have := HLN.out; simp only [List.length_append, List.length_cons, List.length_nil] at this ⊢; omega) (by simp; omega)
        replace hrun5 : (Builtin.append_ #[37, 37] 37 #[v2, .slice (some ⟨w2.heap.size, 0, none⟩) 1 1]).run Tryz.prog (w2.alloc (.cells #[.string ⟨#[111, 112, 116, 105, 111, 110, 97, 108]⟩] 9)) = .ok v5 w5 := hrun5
        have hlo5 := HO2.out.low
        have hx5 : Ext w w5 := (hx2.before.alloc _).ofGrown hg5 (fun k hk => by have := hlo5 k hk; omega)
        have HO5 := Lib.hid ho5
        clear ho5 hg5 hlo5
        go_wp2_with (first | (at_builtin; refine wpList_append_run rfl _ _ 37 rfl rfl _ _ rfl rfl _ _ hrun ?_) | (at_builtin; refine wpList_append_run rfl _ _ 37 rfl rfl _ _ rfl rfl _ _ hrun5 ?_))
        try go_wp2
        go_ret
        exact ⟨_, rfl, by rw [HR.out]; exact HO5.out.mono (Nat.le_succ _), hx5⟩
end Go.Proofs.YtkpfehfcgpapiaaGreatDoor

/-
  Chapter 51: Format: the program.
  No condition.
-/
namespace Go.Proofs.YtkpfehfcgpapiaaGreatDoor
open Go.RowKit

/-- strings.Join of some strings. -/
theorem join_any (v : Value) (l : List Fm.S) (sep : ByteArray) (w : World) (hl : StrsR w v l) (h0 : 0 < l.length) (hlen : (Lib.join l sep.data.toList).length ≤ 140737488355328) (hn : l.length ≤ 140737488355328) :
    Calls Tryz.prog 35 #[v, .string sep] w fun e w' => e = .returned (.string ⟨(Lib.join l sep.data.toList).toArray⟩) ∧ Ext w w' := by
  obtain ⟨hk, a, c, rfl, hc⟩ := hl
  obtain ⟨b, off, cap, he, hb, hcell⟩ := hk.some_ h0
  injection he with h1 h2 h3
  subst h1 h3
  have hmap : (l.map fun x => (⟨x.toArray⟩ : ByteArray)).map (·.data.toList) = l := by rw [List.map_map]; exact List.map_id _
  have hlen' : (l.map fun x => (⟨x.toArray⟩ : ByteArray)).length = l.length := List.length_map _
  have := Tryz.strings_Join b off c (l.map fun x => (⟨x.toArray⟩ : ByteArray)) sep w (fun j x hj => by
    rw [List.getElem?_map] at hj
    obtain ⟨y, hy, rfl⟩ := Option.map_eq_some_iff.1 hj
    have := hcell j y hy 0 (by decide)
    rw [Nat.mul_one, Nat.add_zero] at this
    exact this) hb (by rw [hlen']; exact hn) (by rw [hlen']; exact hc) (by rw [hmap]; exact hlen)
  rw [hmap, hlen'] at this
  exact this
theorem kept2' {V wr : World} {b : Nat} {x0 x1 : Value} {t : TypeId} (r : V.heap[b]? = some (.cells #[x0, x1] t (0, 0))) (h : Ext V wr) : wr.cell? ⟨b, 0, none⟩ = some x0 ∧ wr.cell? ⟨b, 1, none⟩ = some x1 := by
  have r := row_on r h
  exact ⟨cell_at r rfl, cell_at r rfl⟩
/-- The lines, each with its end. -/
def lns (nm : Fm.S) (fs : List Fm.Fld) (ss : List Fm.Sm) : List Fm.S := (Fm.tForm ++ 32 :: nm ++ [10]) :: (fs.map (fun f => Fm.fldLine f ++ [10]) ++ ss.map (fun r => Fm.sumLine r ++ [10]))
theorem lns_text (nm : Fm.S) (fs : List Fm.Fld) (ss : List Fm.Sm) : (lns nm fs ss).flatten = Fm.text ⟨nm, fs, ss⟩ := by
  unfold lns Fm.text Fm.lines
  rw [List.flatMap_cons, List.flatMap_append, List.flatten_cons, List.flatten_append, List.flatMap_map, List.flatMap_map]
  rfl
theorem lns_fld {nm : Fm.S} {fs : List Fm.Fld} {k : Nat} {f : Fm.Fld} (h : fs[k]? = some f) : lns nm (fs.take (k + 1)) [] = lns nm (fs.take k) [] ++ [Fm.fldLine f ++ [10]] := by
  unfold lns; rw [snoc_take h]; simp
theorem lns_sum {nm : Fm.S} {fs : List Fm.Fld} {ss : List Fm.Sm} {k : Nat} {r : Fm.Sm} (h : ss[k]? = some r) : lns nm fs (ss.take (k + 1)) = lns nm fs (ss.take k) ++ [Fm.sumLine r ++ [10]] := by
  unfold lns; rw [snoc_take h]; simp
theorem lns_len (nm : Fm.S) (fs : List Fm.Fld) (ss : List Fm.Sm) : (lns nm fs ss).length = 1 + fs.length + ss.length := by unfold lns; simp; omega

theorem flat_len : ∀ (l : List Fm.S) (M : Nat), (∀ x ∈ l, x.length ≤ M) → l.flatten.length ≤ M * l.length
  | [], M, _ => Nat.zero_le _
  | x :: l, M, h => by
    have h1 := h x (List.mem_cons_self ..)
    have h2 := flat_len l M (fun y hy => h y (List.mem_cons_of_mem _ hy))
    rw [List.flatten_cons, List.length_append, List.length_cons, Nat.mul_add, Nat.mul_one]
    omega
theorem text_small {nm : Fm.S} {fs : List Fm.Fld} {ss : List Fm.Sm} (h : Fm.check ⟨nm, fs, ss⟩ = 0) : (lns nm fs ss).flatten.length ≤ 100000000 := by
  have hV := Fm.valid_of h
  have hfew := hV.few
  have hn := Fm.name_len hV.name
  have h1 := flat_len (lns nm fs ss) 10000 (fun x hx => by
    unfold lns at hx
    rcases List.mem_cons.1 hx with rfl | hx
    · dsimp only at hn
      have : Fm.tForm.length = 4 := rfl
      simp only [List.length_append, List.length_cons, List.length_nil]; omega
    · rcases List.mem_append.1 hx with hx | hx
      · obtain ⟨f, hf, rfl⟩ := List.mem_map.1 hx
        obtain ⟨a, b⟩ := hV.flds f hf
        obtain ⟨c, _, d⟩ := Fm.words_small a b
        have := Fm.join_len _ d
        unfold Fm.fldLine
        simp only [List.length_append, List.length_cons, List.length_nil]; omega
      · obtain ⟨r, hr, rfl⟩ := List.mem_map.1 hx
        obtain ⟨a, b, c⟩ := hV.sums r hr
        have h3 := Fm.name_len (hV.names _ a)
        have h4 := Fm.join_len r.parts (fun p hp => Fm.name_len (hV.names _ (c p hp)))
        have h5 := Fm.parts_len h hr
        have : Fm.tSum.length = 3 := rfl
        unfold Fm.sumLine
        simp only [List.length_append, List.length_cons, List.length_nil]; omega)
  have h2 := lns_len nm fs ss
  dsimp only at hfew
  omega

set_option maxRecDepth 100000 in
set_option maxHeartbeats 4000000 in
theorem format_any (NM : ByteArray) (a : Option Addr) (n c : Nat) (a2 : Option Addr) (n2 c2 : Nat) (fs : List Fm.Fld) (ss : List Fm.Sm) (w : World) (hf : FldsR w (.slice a n c) fs) (hm : SumsR w (.slice a2 n2 c2) ss) (hB : ∀ f ∈ fs, FldB f) (hM : ∀ r ∈ ss, SmB r) (hP : Pow w) :
    Calls Tryz.prog 16 #[.agg #[.string NM, .slice a n c, .slice a2 n2 c2]] w fun e w' => e = .returned (.tuple #[.string ⟨(Fm.format ⟨NM.data.toList, fs, ss⟩).1.toArray⟩, .int .i64 (Fm.format ⟨NM.data.toList, fs, ss⟩).2]) ∧ Ext w w' := by
  obtain ⟨a', c', he⟩ := hf.form
  injection he with e1 e2 e3
  subst e1 e3
  obtain ⟨a', c', he⟩ := hm.form
  injection he with e1 e4 e3
  subst e1 e3
  have HR := Lib.hid (Fm.format.eq_1 ⟨NM.data.toList, fs, ss⟩)
  generalize Fm.format ⟨NM.data.toList, fs, ss⟩ = res at *
  have HN := Lib.hid e2.symm
  have HN2 := Lib.hid e4.symm
  have HC := Lib.hid (fun (w' : World) (hx : Ext w w') => check_any NM a n c a2 n2 c2 fs ss w' (hf.ext hx) (hm.ext hx) hB hM)
  have HF := Lib.hid hf
  have HS := Lib.hid hm
  have HP := Lib.hid hP
  clear hf hm hB hM e2 e4 hP
  by_cases hc : Fm.check ⟨NM.data.toList, fs, ss⟩ = 0
  rotate_left
  · rw [if_neg hc] at HR
    generalize Fm.check ⟨NM.data.toList, fs, ss⟩ = z at *
    have z0 : (z == 0) = false := beq_eq_false_iff_ne.2 hc
    clear hc
    go_enter Tryz.func16, Tryz.ntmps16
    go_wp2_with fail
    refine (HC.out _ (by repeat (first | exact Ext.refl _ | assumption | refine Ext.alloc ?_ _ | refine Ext.drew ?_ | refine Ext.trans ?_ (by assumption)))).mono ?_
    rintro e w1 ⟨rfl, hx1⟩
    go_wp2
    go_ret2
    exact ⟨by rw [HR.out]; rfl, (by repeat (first | exact Ext.refl _ | assumption | refine Ext.alloc ?_ _ | refine Ext.drew ?_ | refine Ext.trans ?_ (by assumption)))⟩
  rw [if_pos hc] at HR
  have HCK := Lib.hid hc
  rw [hc] at HC
  have hV := Fm.valid_of hc
  have HFL : Hid (∀ f ∈ fs, Fm.isName f.name = true ∧ Fm.memE f = 0) := Lib.hid hV.flds
  have hnf : n ≤ 256 := by have := hV.few.1; rw [show (⟨NM.data.toList, fs, ss⟩ : Fm.Frm).fields = fs from rfl, HN.out] at this; exact this
  have hnf2 : n2 ≤ 256 := by have := hV.few.2; rw [show (⟨NM.data.toList, fs, ss⟩ : Fm.Frm).sums = ss from rfl, HN2.out] at this; exact this
  have hNM : NM.size ≤ 20 := by have := Fm.name_len hV.name; rw [show (⟨NM.data.toList, fs, ss⟩ : Fm.Frm).name = NM.data.toList from rfl, len_data] at this; exact this
  have HSM : Hid (∀ r ∈ ss, 0 < r.parts.length ∧ r.parts.length ≤ 256 ∧ r.total.length ≤ 20 ∧ ∀ p ∈ r.parts, p.length ≤ 20) := Lib.hid fun r hr => by
    obtain ⟨s1, s2, s3⟩ := hV.sums r hr
    exact ⟨List.length_pos_iff.2 s2, Fm.parts_len hc hr, Fm.name_len (hV.names _ s1), fun p hp => Fm.name_len (hV.names _ (s3 p hp))⟩
  clear hc hV
  go_enter Tryz.func16, Tryz.ntmps16
  go_wp2_with fail
  refine (HC.out _ (by repeat (first | exact Ext.refl _ | assumption | refine Ext.alloc ?_ _ | refine Ext.drew ?_ | refine Ext.trans ?_ (by assumption)))).mono ?_
  rintro e w1 ⟨rfl, hx1⟩
  obtain ⟨k0, k1, k2⟩ := kept3 hx1
  have hwz : w.heap.size < w1.heap.size := by have := hx1.size; rw [World.size_alloc] at this; omega
  have HL0 : Hid (litO w1.heap.size (lns NM.data.toList (fs.take 0) []) (.slice (some ⟨w1.heap.size, 0, none⟩) 1 1) (w1.alloc (.cells #[.string (⟨#[102, 111, 114, 109, 32]⟩ ++ NM ++ ⟨#[10]⟩)] 9))) := Lib.hid (by
    have h1 : lns NM.data.toList (fs.take 0) [] = [(⟨#[102, 111, 114, 109, 32]⟩ ++ NM ++ ⟨#[10]⟩ : ByteArray).data.toList] := by
      unfold lns Fm.tForm; simp [ByteArray.data_append]
    rw [h1]
    exact litO.new w1.heap.size [(⟨#[102, 111, 114, 109, 32]⟩ ++ NM ++ ⟨#[10]⟩ : ByteArray).data.toList] #[.string (⟨#[102, 111, 114, 109, 32]⟩ ++ NM ++ ⟨#[10]⟩)] w1 (by simp only [List.map_cons, List.map_nil, strV_mk]) (Nat.le_refl _) (by simp))
  have HX1 := Lib.hid hx1
  clear hx1
  go_wp2
  go_loopw [5, 23] (fun v t wr => ∃ k : Nat, k ≤ n ∧ t = .int .i64 (k : Int) ∧ Hid (KOwn 9 1 enc1 wr w1.heap.size v (lns NM.data.toList (fs.take k) [])) ∧ Hid (Ext (w.alloc (.cells #[.string NM, .slice a n c, .slice a2 n2 c2] 25)) wr) ∧ Hid (Ext w1 wr)) (fun _ t _ => n - (intOf t).toNat)
  case atStart => exact ⟨0, Nat.zero_le _, rfl, Lib.hid HL0.out.1, Lib.hid (HX1.out.alloc _), Lib.hid ((Ext.refl _).alloc _)⟩
  case round =>
    obtain ⟨k, hk, rfl, HO, HX, HW1⟩ := hrel
    have hw1r := HW1.out.size
    by_cases hlt : k < n
    · obtain ⟨f, hfk⟩ : ∃ f, fs[k]? = some f := ⟨_, List.getElem?_eq_getElem (by rw [HN.out]; exact hlt)⟩
      have hxw : Ext w wr := HX.out.before
      obtain ⟨hname, hmem⟩ := HFL.out _ (List.mem_of_getElem? hfk)
      have HLF := Lib.hid (lns_fld (nm := NM.data.toList) hfk)
      obtain ⟨p1, p2, p3, p4, p5, p6, p7, p8, p9, p10, p11⟩ := Fm.mem_parts2 hmem
      obtain ⟨ws1, ws2, ws3⟩ := Fm.words_small hname hmem
      have hjl := Fm.join_len _ ws3
      obtain ⟨b, o, X, op, mn, mx, ck, la, ln, lc, l, opt, ha, hb, rfl, hl, c0, c1, c2', c3, c4, c5, c6⟩ := HF.out.here hxw hfk
      subst ha
      dsimp only at p1 p2 p3 p4 p5 p6 p7 p8 p9 p10
      unfold Fm.great at p5 p6 p7 p8
      obtain ⟨V, hV⟩ : ∃ V, V = wr.alloc (.cells #[.string X, .int .i64 op, .int .i64 mn, .int .i64 mx, .int .i64 ck, .slice la ln lc, .bool opt] 39) := ⟨_, rfl⟩
      have hxV : Ext wr V := by rw [hV]; exact (Ext.refl _).alloc _
      have HVE := Lib.hid hV
      have HFF := Lib.hid (formatField_any X op mn mx ck la ln lc opt l V (hl.ext (hxw.trans hxV)) (HP.out.ext (hxw.trans hxV)) p1 p2 p3 p4 ⟨by omega, by omega, by omega, by omega⟩ (by omega) p9)
      have HOV := Lib.hid (HO.out.ext hxV)
      have HXV := Lib.hid (HX.out.trans hxV)
      have HW1V := Lib.hid (HW1.out.trans hxV)
      unfold Fm.fldLine at HLF
      have HJL := Lib.hid (Fm.join_lib (Fm.fldWords ⟨X.data.toList, op, mn, mx, ck, l, opt⟩))
      generalize Fm.fldWords ⟨X.data.toList, op, mn, mx, ck, l, opt⟩ = WD at *
      have HLL : Hid ((lns NM.data.toList (fs.take k) []).length ≤ 600) := Lib.hid (by rw [lns_len]; have := take_len fs k; simp; omega)
      clear hV hfk hname hmem p1 p2 p3 p4 p5 p6 p7 p8 p9 p10 p11 hl HO HX HW1
      go_wp2_with fail
      rw [← HVE.out]
      refine HFF.out.mono ?_
      rintro e w2 ⟨v2, rfl, ho2, hx2⟩
      have hJ := join_any v2 WD ⟨#[32]⟩ w2 (KOwn.strs ho2) ws2 (by rw [show (⟨#[32]⟩ : ByteArray).data.toList = [32] from rfl, HJL.out]; omega) (by omega)
      rw [show (⟨#[32]⟩ : ByteArray).data.toList = [32] from rfl, HJL.out] at hJ
      obtain ⟨J, hJe⟩ : ∃ J : ByteArray, (⟨(Fm.joinSp WD).toArray⟩ : ByteArray) = J := ⟨_, rfl⟩
      rw [hJe] at hJ
      have HJD : Hid (J.data.toList = Fm.joinSp WD) := Lib.hid (by rw [← hJe])
      have hJs : J.size ≤ 1000 := by rw [size_of_toList HJD.out]; omega
      have HJ := Lib.hid hJ
      clear hJ hJe ho2 ws2 hjl ws1 ws3
      go_wp2_with fail
      refine HJ.out.mono ?_
      rintro e w3 ⟨rfl, hx3⟩
      have hx13 := (HW1V.out.trans hx2).trans hx3
      have hsz3 := hx13.size
      obtain ⟨v4, w4, hrun, ho4, hg4⟩ := run_append_lit (w := w3.alloc (.cells #[.string (J ++ ⟨#[10]⟩)] 9)) w1.heap.size _ _ (((HOV.out.ext hx2).ext hx3).ext ((Ext.refl w3).alloc (.cells #[.string (J ++ ⟨#[10]⟩)] 9))) w1.heap.size [(J ++ ⟨#[10]⟩ : ByteArray).data.toList] _ (litO.new w1.heap.size [(J ++ ⟨#[10]⟩ : ByteArray).data.toList] #[.string (J ++ ⟨#[10]⟩)] w3 (by simp only [List.map_cons, List.map_nil, strV_mk]) hsz3 (by simp)) (by have := HLL.out; simp only [List.length_cons, List.length_nil]; omega) (by simp; omega)
      have HLW := HOV.out.low
      have HO4 : Hid (KOwn 9 1 enc1 w4 w1.heap.size v4 (lns NM.data.toList (fs.take (k + 1)) [])) := Lib.hid (by
        rw [HLF.out]
        have e : (J ++ ⟨#[10]⟩ : ByteArray).data.toList = Fm.joinSp WD ++ [10] := by rw [ByteArray.data_append, Array.toList_append, HJD.out]
        rw [← e]; exact ho4)
      have HX4 := Lib.hid ((((HXV.out.trans hx2).trans hx3).alloc (.cells #[.string (J ++ ⟨#[10]⟩)] 9)).ofGrown hg4 (fun j hj => by have := HLW j hj; simp; omega))
      have HW4 := Lib.hid ((hx13.alloc (.cells #[.string (J ++ ⟨#[10]⟩)] 9)).ofGrown hg4 HLW)
      replace hrun := (show (Builtin.append_ #[37, 37] 37 #[_, .slice (some ⟨w3.heap.size, 0, none⟩) 1 1]).run Tryz.prog (w3.alloc (.cells #[.string (J ++ ⟨#[10]⟩)] 9)) = .ok v4 w4 from hrun)
      clear ho4 hg4 HLW hx2 hx3 hx13 c0 c1 c2' c3 c4 c5 c6
      go_wp2_with (at_builtin; refine wpList_append_run rfl _ _ 37 rfl rfl _ _ rfl rfl _ _ hrun ?_)
      go_roundw
      case rel => exact ⟨k + 1, by omega, by go_num, HO4, HX4, HW4⟩
      case measure => simp [intOf]; omega
    · obtain rfl : k = n := by omega
      rw [List.take_of_length_le (by rw [HN.out]; exact Nat.le_refl _)] at HO
      have HTX : Hid (Lib.join (lns NM.data.toList fs ss) [] = Fm.text ⟨NM.data.toList, fs, ss⟩) := Lib.hid (by rw [Fm.join_nil, lns_text])
      have HTS : Hid ((Lib.join (lns NM.data.toList fs ss) []).length ≤ 100000000) := Lib.hid (by rw [Fm.join_nil]; exact text_small HCK.out)
      obtain ⟨g0, g1, g2⟩ := kept3 HX.out
      clear hlt hk hw1r
      obtain ⟨W, hWw⟩ : ∃ W, W = wr := ⟨_, rfl⟩
      subst hWw
      go_wp2
      go_loopw [5, 38] (fun v t wq => ∃ q : Nat, q ≤ n2 ∧ t = .int .i64 (q : Int) ∧ Hid (KOwn 9 1 enc1 wq w1.heap.size v (lns NM.data.toList fs (ss.take q))) ∧ Hid (Ext (w.alloc (.cells #[.string NM, .slice a k c, .slice a2 n2 c2] 25)) wq) ∧ Hid (Ext w1 wq)) (fun _ t _ => n2 - (intOf t).toNat)
      case atStart => exact ⟨0, Nat.zero_le _, rfl, HO, HX, HW1⟩
      case round =>
        clear HO HX HW1 g0 g1 g2
        obtain ⟨q, hq, rfl, HO, HX, HW1⟩ := hrel
        have hw1r := HW1.out.size
        by_cases hlt : q < n2
        · obtain ⟨f, hfk⟩ : ∃ f, ss[q]? = some f := ⟨_, List.getElem?_eq_getElem (by rw [HN2.out]; exact hlt)⟩
          have hxw : Ext w wr := HX.out.before
          obtain ⟨s1, s2, s3, s4⟩ := HSM.out _ (List.mem_of_getElem? hfk)
          have HLS := Lib.hid (lns_sum (nm := NM.data.toList) (fs := fs) hfk)
          have hjl := Fm.join_len _ s4
          obtain ⟨b, o, X, la, ln, lc, l, ha, hb, rfl, hl, c0, c1⟩ := HS.out.here hxw hfk
          subst ha
          dsimp only at s1 s2 s3 hjl
          unfold Fm.sumLine at HLS
          dsimp only at HLS
          have hXs : X.size ≤ 20 := by rw [← len_data]; exact s3
          obtain ⟨V, hV⟩ : ∃ V, V = wr.alloc (.cells #[.string X, .slice la ln lc] 56) := ⟨_, rfl⟩
          have hxV : Ext wr V := by rw [hV]; exact (Ext.refl _).alloc _
          have r0 : V.heap[wr.heap.size]? = some (.cells #[.string X, .slice la ln lc] 56 (0, 0)) := by rw [hV]; exact heap_alloc_new _ _
          have HVE := Lib.hid hV
          have HJL := Lib.hid (Fm.join_lib l)
          have HJ := Lib.hid (fun (w' : World) (hx : Ext V w') => join_any (.slice la ln lc) l ⟨#[32]⟩ w' (hl.ext ((hxw.trans hxV).trans hx)) s1 (by rw [show (⟨#[32]⟩ : ByteArray).data.toList = [32] from rfl, HJL.out]; omega) (by omega))
          rw [show (⟨#[32]⟩ : ByteArray).data.toList = [32] from rfl, HJL.out] at HJ
          obtain ⟨J, hJe⟩ : ∃ J : ByteArray, (⟨(Fm.joinSp l).toArray⟩ : ByteArray) = J := ⟨_, rfl⟩
          rw [hJe] at HJ
          have HJD : Hid (J.data.toList = Fm.joinSp l) := Lib.hid (by rw [← hJe])
          have hJs : J.size ≤ 6000 := by rw [size_of_toList HJD.out]; omega
          have HOV := Lib.hid (HO.out.ext hxV)
          have HXV := Lib.hid (HX.out.trans hxV)
          have HWV := Lib.hid (HW1.out.trans hxV)
          have HLL : Hid ((lns NM.data.toList fs (ss.take q)).length ≤ 600) := Lib.hid (by rw [lns_len, HN.out]; have := take_len ss q; omega)
          have hVs : wr.heap.size ≤ V.heap.size := hxV.size
          obtain ⟨LT, hLT⟩ : ∃ LT : ByteArray, (⟨#[115, 117, 109, 32]⟩ ++ X ++ ⟨#[32]⟩ ++ J ++ ⟨#[10]⟩ : ByteArray) = LT := ⟨_, rfl⟩
          have HLT0 : Hid (∀ w' : World, w1.heap.size ≤ w'.heap.size → litO w1.heap.size [LT.data.toList] (.slice (some ⟨w'.heap.size, 0, none⟩) 1 1) (w'.alloc (.cells #[.string LT] 9))) := Lib.hid fun w' h => litO.new w1.heap.size [LT.data.toList] #[.string LT] w' (by simp only [List.map_cons, List.map_nil, strV_mk]) h (by simp)
          have HLTE := Lib.hid hLT
          have HLT : Hid (∀ w' : World, w1.heap.size ≤ w'.heap.size → litO w1.heap.size [LT.data.toList] (.slice (some ⟨w'.heap.size, 0, none⟩) 1 1) (w'.alloc (.cells #[.string (⟨#[115, 117, 109, 32]⟩ ++ X ++ ⟨#[32]⟩ ++ J ++ ⟨#[10]⟩ : ByteArray)] 9))) := by rw [hLT]; exact HLT0
          clear HLT0
          have hw1V : w1.heap.size ≤ V.heap.size := Nat.le_trans hw1r hVs
          clear hLT hV hfk s1 s2 s3 s4 hl HO HX HW1 hJe hjl
          go_wp2
          rw [← HVE.out]
          refine wp_region_rel 11 2 rfl [42, 43, 44, 45, 46, 47, 48, 49, 50, 51, 52] [[], [], [1], [2], [3], [], [5], [6], [4, 7], [8], [9]] (by kernel_rfl) (by kernel_rfl) ?_
          apply relPlan_eq'
          · intro V w' hx hf
            with_reducible refine relAt_ops ?_
            intro A ρ hA hρ hcst hfun
            have h5 : ρ (.tmp 5) = u5 := (congrFun hρ _).trans (evalMiss hA 5 rfl)
            exact relUpon_move (hk := by rw [h5]; exact ⟨Ext.refl _, rfl⟩)
          apply relPlan_eq'
          · intro V w' hx hf
            with_reducible refine relAt_ops ?_
            intro A ρ hA hρ hcst hfun
            have h9 : ρ (.tmp 9) = .pointer (some ⟨wr.heap.size, 0, none⟩) := (congrFun hρ _).trans (evalMiss hA 9 rfl)
            simp [relUpon, go_sem, Ext.refl, h9]
            rfl
          refine relPlan_by (eqv (.string X)) (eqv_stable _) ?_ ?_
          · intro V w' hx hf
            with_reducible refine relAt_ops ?_
            intro A ρ hA hρ hcst hfun
            obtain ⟨f43, _⟩ := hf
            have h43 : ρ (.tmp 43) = _ := (congrFun hρ _).trans ((evalHit hA 43 rfl).trans f43)
            have q := (kept2' r0 hx).1
            simp [relUpon, go_sem, Ext.refl, h43, q]
            rfl
          apply relPlan_eq'
          · intro V w' hx hf
            with_reducible refine relAt_ops ?_
            intro A ρ hA hρ hcst hfun
            obtain ⟨f44, _⟩ := hf
            have h44 : ρ (.tmp 44) = _ := (congrFun hρ _).trans ((evalHit hA 44 rfl).trans f44)
            simp [relUpon, go_sem, hcst, ↓IntWalk.iteOmega, Ext.refl, h44]
            rfl
          apply relPlan_eq'
          · intro V w' hx hf
            with_reducible refine relAt_ops ?_
            intro A ρ hA hρ hcst hfun
            obtain ⟨f45, _⟩ := hf
            have h45 : ρ (.tmp 45) = _ := (congrFun hρ _).trans ((evalHit hA 45 rfl).trans f45)
            simp [relUpon, go_sem, hcst, ↓IntWalk.iteOmega, Ext.refl, h45]
            rfl
          apply relPlan_eq'
          · intro V w' hx hf
            with_reducible refine relAt_ops ?_
            intro A ρ hA hρ hcst hfun
            have h9 : ρ (.tmp 9) = .pointer (some ⟨wr.heap.size, 0, none⟩) := (congrFun hρ _).trans (evalMiss hA 9 rfl)
            simp [relUpon, go_sem, Ext.refl, h9, hXs, hJs]
            rfl
          refine relPlan_by (eqv (.slice la ln lc)) (eqv_stable _) ?_ ?_
          · intro V w' hx hf
            with_reducible refine relAt_ops ?_
            intro A ρ hA hρ hcst hfun
            obtain ⟨f47, _⟩ := hf
            have h47 : ρ (.tmp 47) = _ := (congrFun hρ _).trans ((evalHit hA 47 rfl).trans f47)
            have q := (kept2' r0 hx).2
            simp [relUpon, go_sem, hcst, hfun, ↓IntWalk.iteOmega, Ext.refl, h47, hXs, hJs, q]
            rfl
          refine relPlan_by (eqv (.string J)) (eqv_stable _) ?_ ?_
          · intro V w' hx hf
            with_reducible refine relAt_ops ?_
            intro A ρ hA hρ hcst hfun
            obtain ⟨f48, _⟩ := hf
            have h48 : ρ (.tmp 48) = _ := (congrFun hρ _).trans ((evalHit hA 48 rfl).trans f48)
            simp [relUpon, go_sem, hcst, hfun, h48]
            exact (HJ.out w' hx).mono fun e w'' ⟨he, hy⟩ => ⟨_, he, hy, rfl⟩
          apply relPlan_eq'
          · intro V w' hx hf
            with_reducible refine relAt_ops ?_
            intro A ρ hA hρ hcst hfun
            obtain ⟨f46, f49, _⟩ := hf
            have h46 : ρ (.tmp 46) = _ := (congrFun hρ _).trans ((evalHit hA 46 rfl).trans f46)
            have h49 : ρ (.tmp 49) = _ := (congrFun hρ _).trans ((evalHit hA 49 rfl).trans f49)
            simp [relUpon, go_sem, hcst, hfun, ↓IntWalk.iteOmega, Ext.refl, h46, h49, hXs, hJs]
            rfl
          apply relPlan_eq'
          · intro V w' hx hf
            with_reducible refine relAt_ops ?_
            intro A ρ hA hρ hcst hfun
            obtain ⟨f50, _⟩ := hf
            have h50 : ρ (.tmp 50) = _ := (congrFun hρ _).trans ((evalHit hA 50 rfl).trans f50)
            simp [relUpon, go_sem, hcst, hfun, ↓IntWalk.iteOmega, Ext.refl, h50, hXs, hJs]
            rfl
          refine relPlan_by (litO w1.heap.size [LT.data.toList]) (fun _ _ _ h hx => h.ext hx) ?_ ?_
          · intro V w' hx hf
            with_reducible refine relAt_ops ?_
            intro A ρ hA hρ hcst hfun
            obtain ⟨f51, _⟩ := hf
            have h51 : ρ (.tmp 51) = _ := (congrFun hρ _).trans ((evalHit hA 51 rfl).trans f51)
            simp [relUpon, go_sem, h51]
            exact ⟨(Ext.refl _).alloc _, HLT.out w' (Nat.le_trans hw1V hx.size)⟩
          intro V wT hxT hf
          obtain ⟨g42, g43, g44, g45, g46, g47, g48, g49, g50, g51, g52, _⟩ := hf
          refine wpAny_tail2 11 53 5 _ _ (by kernel_rfl) rfl rfl (by kernel_rfl) rfl rfl (.inr rfl) (by kernel_rfl) rfl rfl rfl (fun K hK => ?_)
          refine wp_append_lit (.tmp 42) (.tmp 52) rfl rfl w1.heap.size u5 _ ((evalHit rfl 42 rfl).trans g42) (HOV.out.ext hxT) w1.heap.size _ _ (evalHit rfl 52 rfl) g52 (by have := HLL.out; simp only [List.length_cons, List.length_nil]; omega) (by have := hxT.size; omega) ?_
          intro v1 w5 ho5 hg5
          refine hK _ _ ?_
          simp only [fillA, List.foldl_cons, List.foldl_nil, Act.put, List.setIfInBounds_toArray, List.set_cons_succ, List.set_cons_zero]
          have hx5 := (HXV.out.trans hxT).ofGrown hg5 (fun j hj => by have := HOV.out.low j hj; simp; omega)
          have HO5 := Lib.hid ho5
          have HX5 := Lib.hid hx5
          have HW5 := Lib.hid ((HWV.out.trans hxT).ofGrown hg5 HOV.out.low)
          clear g42 g43 g44 g45 g46 g47 g48 g49 g50 g51 g52 ho5 hg5 hxT hx5
          have HO6 : Hid (KOwn 9 1 enc1 w5 w1.heap.size v1 (lns NM.data.toList fs (ss.take (q + 1)))) := Lib.hid (by
            rw [HLS.out]
            have e : (⟨#[115, 117, 109, 32]⟩ ++ X ++ ⟨#[32]⟩ ++ J ++ ⟨#[10]⟩ : ByteArray).data.toList = Fm.tSum ++ 32 :: X.data.toList ++ 32 :: Fm.joinSp l ++ [10] := by
              rw [← HJD.out]; unfold Fm.tSum; simp [ByteArray.data_append]
            rw [← e, HLTE.out]; exact HO5.out)
          go_wp2
          go_roundw
          case rel => exact ⟨q + 1, by omega, by go_num, HO6, HX5, HW5⟩
          case measure => simp [intOf]; omega
        · obtain rfl : q = n2 := by omega
          rw [List.take_of_length_le (by rw [HN2.out]; exact Nat.le_refl _)] at HO
          have hjo := join_any _ (lns NM.data.toList fs ss) ⟨#[]⟩ wr (KOwn.strs HO.out) (by rw [lns_len]; omega) (by rw [show (⟨#[]⟩ : ByteArray).data.toList = [] from rfl]; have := HTS.out; omega) (by rw [lns_len, HN.out, HN2.out]; omega)
          rw [show (⟨#[]⟩ : ByteArray).data.toList = [] from rfl, HTX.out] at hjo
          have HJO := Lib.hid hjo
          have hxw : Ext w wr := HX.out.before
          clear hlt hq hjo HO HX HW1
          go_wp2_with fail
          refine HJO.out.mono ?_
          rintro e w6 ⟨rfl, hx6⟩
          go_wp2
          go_ret2
          exact ⟨by rw [HR.out]; rfl, hxw.trans hx6⟩
end Go.Proofs.YtkpfehfcgpapiaaGreatDoor
