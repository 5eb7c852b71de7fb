/-
  Chapter 51: Format: the reference.
  No condition.
-/
import Derived.Test.YtkpfehfcgpapiaaGreatDoorFmX6
import Derived.Test.YtkpfehfcgpapiaaGreatDoorRelA
import Derived.Deep.Cut
namespace Go.Proofs.YtkpfehfcgpapiaaGreatDoor
set_option linter.unusedVariables false
open Go.RowKit

def Fm.accF (nm : Fm.S) (fs : List Fm.Fld) (k : Nat) : Fm.S := Fm.tForm ++ 32 :: nm ++ [10] ++ (fs.take k).flatMap (fun f => Fm.fldLine f ++ [10])
theorem Fm.accF_succ {nm : Fm.S} {fs : List Fm.Fld} {k : Nat} {f : Fm.Fld} (h : fs[k]? = some f) : Fm.accF nm fs (k + 1) = Fm.accF nm fs k ++ (Fm.fldLine f ++ [10]) := by
  unfold Fm.accF
  rw [snoc_take h, List.flatMap_append, List.append_assoc]
  simp
theorem Fm.fldLine_len {f : Fm.Fld} (hn : Fm.isName f.name = true) (h : Fm.memE f = 0) : (Fm.fldLine f).length ≤ 840 := by
  obtain ⟨h1, -, h3⟩ := Fm.words_small hn h
  have := Fm.join_len _ h3
  show (Fm.joinSp (Fm.fldWords f)).length ≤ 840
  omega
/-- A new list; a place in it. -/
def newL (l : List Fm.S) (n : Nat) (v : Value) (w : World) : Prop := ∃ g, v = .slice (some ⟨g, 0, none⟩) n n ∧ StrsR w (.slice (some ⟨g, 0, none⟩) n n) l
theorem newL_stable (l : List Fm.S) (n : Nat) : Rel.Stable (newL l n) := fun _ _ _ ⟨g, h1, h2⟩ hx => ⟨g, h1, h2.ext hx⟩
def atL (K : ByteArray) (o : Nat) (v : Value) (w : World) : Prop := ∃ g, v = .pointer (some ⟨g, o, none⟩) ∧ g < w.heap.size ∧ w.cell? ⟨g, o, none⟩ = some (.string K)
theorem atL_stable (K : ByteArray) (o : Nat) : Rel.Stable (atL K o) := fun _ _ _ ⟨g, h1, h2, h3⟩ hx => ⟨g, h1, Nat.lt_of_lt_of_le h2 hx.size, (hx.cell (p := ⟨g, o, none⟩) h2).trans h3⟩
theorem newL_at {w : World} {g n o : Nat} {l : List Fm.S} {s : Fm.S} (h : StrsR w (.slice (some ⟨g, 0, none⟩) n n) l) (ho : l[o]? = some s) : g < w.heap.size ∧ w.cell? ⟨g, o, none⟩ = some (.string ⟨s.toArray⟩) := by
  obtain ⟨b, off, e, hb, hc⟩ := strs_at h ho
  injection e with e
  injection e with e1 e2
  subst e1 e2
  rw [Nat.zero_add] at hc
  exact ⟨hb, hc⟩
def Fm.accS (nm : Fm.S) (fs : List Fm.Fld) (ss : List Fm.Sm) (j : Nat) : Fm.S := Fm.accF nm fs fs.length ++ (ss.take j).flatMap (fun r => Fm.sumLine r ++ [10])
theorem Fm.accS_succ {nm : Fm.S} {fs : List Fm.Fld} {ss : List Fm.Sm} {j : Nat} {r : Fm.Sm} (h : ss[j]? = some r) : Fm.accS nm fs ss (j + 1) = Fm.accS nm fs ss j ++ (Fm.sumLine r ++ [10]) := by
  unfold Fm.accS
  rw [snoc_take h, List.flatMap_append, List.append_assoc]
  simp
theorem Fm.accS_all (nm : Fm.S) (fs : List Fm.Fld) (ss : List Fm.Sm) : Fm.accS nm fs ss ss.length = Fm.text ⟨nm, fs, ss⟩ := by
  unfold Fm.accS Fm.accF Fm.text Fm.lines
  rw [List.take_length, List.take_length, List.flatMap_cons, List.flatMap_append, List.flatMap_map, List.flatMap_map]
  simp
theorem choice_ck {f : Fm.Fld} (h : Fm.memE f = 0) (h4 : f.op = 4) : f.ck = 0 := by
  unfold Fm.memE at h
  rw [if_neg (by omega), if_neg (by omega), if_pos h4] at h
  split at h
  · rename_i h5; exact h5.2.2
  · cases h
theorem kinds_at {o : Nat} (h1 : 1 ≤ o) (h5 : o ≤ 5) : kindsL[o]? = some (Fm.kindNm (o : Int)) ∧ (Fm.kindNm (o : Int)).length ≤ 6 := by
  have : o = 1 ∨ o = 2 ∨ o = 3 ∨ o = 4 ∨ o = 5 := by omega
  rcases this with rfl | rfl | rfl | rfl | rfl <;> exact ⟨rfl, by decide⟩
theorem systems_at {o : Nat} (h1 : 1 ≤ o) (h8 : o ≤ 8) : systemsL[o]? = some (Fm.sysNm (o : Int)) ∧ (Fm.sysNm (o : Int)).length ≤ 8 := by
  have : o = 1 ∨ o = 2 ∨ o = 3 ∨ o = 4 ∨ o = 5 ∨ o = 6 ∨ o = 7 ∨ o = 8 := by omega
  rcases this with rfl | rfl | rfl | rfl | rfl | rfl | rfl | rfl <;> exact ⟨rfl, by decide⟩
set_option maxRecDepth 100000 in
set_option maxHeartbeats 4000000 in
theorem xformat_any (NM : ByteArray) (a : Option Addr) (n c : Nat) (a2 : Option Addr) (n2 c2 : Nat) (fs : List Fm.Fld) (ss : List Fm.Sm) (w : World) (hf : FldsR w (.slice a n c) fs) (hm : SumsR w (.slice a2 n2 c2) ss) (hB : ∀ f ∈ fs, FldB f) (hM : ∀ r ∈ ss, SmB r) (hN0 : n ≤ 9223372036854775807) :
    Calls Tryz.prog 17 #[.agg #[.string NM, .slice a n c, .slice a2 n2 c2]] w fun e w' => e = .returned (.tuple #[.string ⟨(Fm.format ⟨NM.data.toList, fs, ss⟩).1.toArray⟩, .int .i64 (Fm.format ⟨NM.data.toList, fs, ss⟩).2]) ∧ Ext w w' := by
  obtain ⟨a', c', he⟩ := hf.form
  injection he with e1 e2 e3
  subst e1 e3
  obtain ⟨a', c', he⟩ := hm.form
  injection he with e1 e4 e3
  subst e1 e3
  have HN := Lib.hid e2.symm
  have HN2 := Lib.hid e4.symm
  have HR := Lib.hid (Fm.format.eq_1 ⟨NM.data.toList, fs, ss⟩)
  generalize Fm.format ⟨NM.data.toList, fs, ss⟩ = res at *
  obtain ⟨V, hV⟩ : ∃ V, V = w.alloc (.cells #[.string NM, .slice a n c, .slice a2 n2 c2] 25) := ⟨_, rfl⟩
  have hxV : Ext w V := by rw [hV]; exact (Ext.refl w).alloc _
  have HRV : Hid (V.heap[w.heap.size]? = some (.cells #[.string NM, .slice a n c, .slice a2 n2 c2] 25 (0, 0))) := Lib.hid (by rw [hV]; exact heap_alloc_new w _)
  have HCK := Lib.hid (xcheck_any NM a n c a2 n2 c2 fs ss V (hf.ext hxV) (hm.ext hxV) hB hM hN0)
  have HF := Lib.hid hf
  have HS := Lib.hid hm
  have HVE := Lib.hid hV
  have HXV := Lib.hid hxV
  clear hf hm hB hM e2 e4 hV hxV hN0
  obtain ⟨y, hy⟩ : ∃ y, y = Fm.check ⟨NM.data.toList, fs, ss⟩ := ⟨_, rfl⟩
  rw [← hy] at HCK HR
  have HY := Lib.hid hy
  clear hy
  by_cases hy0 : y = 0
  rotate_left
  · rw [if_neg hy0] at HR
    have zz : (y != 0) = true := bne_iff_ne.2 hy0
    clear hy0
    go_enter Tryz.func17, Tryz.ntmps17
    go_wp2_with fail
    rw [← HVE.out]
    refine Calls.mono HCK.out ?_
    rintro e w1 ⟨rfl, hx1⟩
    have hxw := HXV.out.trans hx1
    go_wp2_with fail
    go_ret2
    exact ⟨by rw [HR.out]; rfl, hxw⟩
  subst hy0
  rw [if_pos rfl] at HR
  have HVAL := Lib.hid (Fm.valid_of HY.out.symm)
  have hn256 : n ≤ 256 := by have := HVAL.out.few.1; rw [show (⟨NM.data.toList, fs, ss⟩ : Fm.Frm).fields = fs from rfl, HN.out] at this; exact this
  have hn2256 : n2 ≤ 256 := by have := HVAL.out.few.2; rw [show (⟨NM.data.toList, fs, ss⟩ : Fm.Frm).sums = ss from rfl, HN2.out] at this; exact this
  have hNMs : NM.size ≤ 20 := by have := Fm.name_len HVAL.out.name; rw [show (⟨NM.data.toList, fs, ss⟩ : Fm.Frm).name = NM.data.toList from rfl, len_data] at this; exact this
  obtain ⟨S0, hS0⟩ : ∃ S0 : ByteArray, (⟨#[102, 111, 114, 109, 32]⟩ : ByteArray) ++ NM ++ ⟨#[10]⟩ = S0 := ⟨_, rfl⟩
  have hS0l : S0.data.toList = Fm.accF NM.data.toList fs 0 := by rw [← hS0]; simp [Fm.accF, Fm.tForm]
  have hS0s : S0.size ≤ 30 := by rw [← hS0]; simp only [ByteArray.size_append]; show 5 + NM.size + 1 ≤ 30; omega
  have hq1 : ¬ 9223372036854775807 < 5 + NM.size := by omega
  have hq2 : ¬ 9223372036854775807 < 5 + NM.size + 1 := by omega
  have HS0 := Lib.hid hS0l
  clear hS0l
  go_enter Tryz.func17, Tryz.ntmps17
  go_wp2_with fail
  rw [← HVE.out]
  refine Calls.mono HCK.out ?_
  rintro e w1 ⟨rfl, hx1⟩
  have r1 := row_on HRV.out hx1
  have k0 : w1.cell? ⟨w.heap.size, 0, none⟩ = some (.string NM) := cell_at r1 rfl
  have HX1 := Lib.hid hx1
  clear r1 hx1
  go_wp2_with fail
  go_loopw [5, 6] (fun v t wr => ∃ (k : Nat) (s : ByteArray), k ≤ n ∧ t = .int .i64 (k : Int) ∧ v = .string s ∧ Hid (s.data.toList = Fm.accF NM.data.toList fs k) ∧ s.size ≤ 30 + 841 * k ∧ Hid (Ext V wr)) (fun _ t _ => n - (intOf t).toNat)
  case atStart => exact ⟨0, S0, Nat.zero_le _, rfl, rfl, HS0, hS0s, HX1⟩
  case round =>
    obtain ⟨k, s, hk, rfl, rfl, HA, hsz, HX⟩ := hrel
    clear HS0 k0 HX1
    have r1 := row_on HRV.out HX.out
    have k1 : wr.cell? ⟨w.heap.size, 1, none⟩ = some (.slice a n c) := cell_at r1 rfl
    by_cases hlt : k < n
    · obtain ⟨f, hfk⟩ : ∃ f, fs[k]? = some f := ⟨_, List.getElem?_eq_getElem (by rw [HN.out]; exact hlt)⟩
      have hxw : Ext w wr := HXV.out.trans HX.out
      obtain ⟨hfn, hfm⟩ := HVAL.out.flds f (List.mem_of_getElem? hfk)
      have hacc := Fm.accF_succ (nm := NM.data.toList) hfk
      have hfl := Fm.fldLine_len hfn hfm
      have hfe := Fm.fldLine_eq f
      obtain ⟨m1, m2, m3, m4, m5, m6, m7, m8, m9, m10, m11⟩ := Fm.mem_parts2 hfm
      have hnl := Fm.name_len hfn
      have hck4 := choice_ck hfm
      obtain ⟨b, o, X, op, mn, mx, ck, la, ln, lc, l, opt, ha, hb, rfl, hl, c0, c1, c2', c3, c4, c5, c6⟩ := HF.out.here hxw hfk
      subst ha
      dsimp only at hck4 hfe m1 m2 m3 m4 m5 m6 m7 m8 m9 m10 m11 hnl
      rw [len_data] at hnl
      obtain ⟨oo, rfl⟩ : ∃ oo : Nat, op = (oo : Int) := ⟨op.toNat, by omega⟩
      obtain ⟨kk, rfl⟩ : ∃ kk : Nat, ck = (kk : Int) := ⟨ck.toNat, by omega⟩
      obtain ⟨W1, hW1⟩ : ∃ W1, W1 = wr.alloc (.cells #[.string X, .int .i64 (oo : Int), .int .i64 mn, .int .i64 mx, .int .i64 (kk : Int), .slice la ln lc, .bool opt] 39) := ⟨_, rfl⟩
      have hxW1 : Ext wr W1 := by rw [hW1]; exact (Ext.refl wr).alloc _
      have RX : Hid (W1.heap[wr.heap.size]? = some (.cells #[.string X, .int .i64 (oo : Int), .int .i64 mn, .int .i64 mx, .int .i64 (kk : Int), .slice la ln lc, .bool opt] 39 (0, 0))) := Lib.hid (by rw [hW1]; exact heap_alloc_new wr _)
      have HKI := Lib.hid (xkinds_any W1.drew)
      have HFE := Lib.hid hfe
      have HACC := Lib.hid hacc
      have HM10 := Lib.hid m10
      have HM11 := Lib.hid m11
      have HW1 := Lib.hid hW1
      have HXW1 := Lib.hid hxW1
      have HL := Lib.hid (hl.ext (hxw.trans hxW1))
      have hkI : (k : Int) < (n : Int) := by omega
      have hoI : (oo : Int) < 6 := by omega
      have hoI0 : (0 : Int) ≤ (oo : Int) := by omega
      clear hfe hacc m9 m10 m11 hfn hfm hfk hl hW1 hxW1 r1
      go_upto_region 9 with fail
      rw [← HW1.out]
      obtain ⟨KN, hKN⟩ : ∃ KN : ByteArray, KN = ⟨(Fm.kindNm (oo : Int)).toArray⟩ := ⟨_, rfl⟩
      have hka := kinds_at (o := oo) (by omega) (by omega)
      have hKNs : KN.size ≤ 6 := by rw [hKN]; exact hka.2
      obtain ⟨T1, hT1⟩ : ∃ T1 : ByteArray, s ++ KN ++ ⟨#[32]⟩ ++ X = T1 := ⟨_, rfl⟩
      have hT1l : Hid (T1.data.toList = s.data.toList ++ (Fm.kindNm (oo : Int) ++ 32 :: X.data.toList)) := Lib.hid (by rw [← hT1, hKN]; simp)
      have hT1s : T1.size = s.size + KN.size + 1 + X.size := by rw [← hT1]; simp only [ByteArray.size_append]; rfl
      have d1 : ¬ 9223372036854775807 < s.size + KN.size := by omega
      have d2 : ¬ 9223372036854775807 < s.size + KN.size + 1 := by omega
      have d3 : ¬ 9223372036854775807 < s.size + KN.size + 1 + X.size := by omega
      have m0 : W1.cell? ⟨wr.heap.size, 0, none⟩ = some (.string X) := cell_at RX.out rfl
      have m1' : W1.cell? ⟨wr.heap.size, 1, none⟩ = some (.int .i64 (oo : Int)) := cell_at RX.out rfl
      have HKA := Lib.hid hka
      have HKN := Lib.hid hKN
      clear hka hKN c0 c1 c2' c3 c4 c5 c6
      refine wp_region_rel 11 1 rfl [30, 31, 32, 33, 34, 35, 36, 37, 38, 39, 40] [[], [], [], [2], [1, 3], [4], [0, 5], [6], [], [8], [7, 9]] (by kernel_rfl) (by kernel_rfl) ?_
      apply relPlan_eq'
      · intro V w' hx hf
        with_reducible refine relAt_ops ?_
        intro A ρ hA hρ hcst hfun
        have h5 : ρ (.tmp 5) = .string s := (congrFun hρ _).trans (evalMiss hA 5 rfl)
        exact relUpon_move (hk := by rw [h5]; exact ⟨Ext.refl _, rfl⟩)
      refine relPlan_by (newL kindsL 6) (newL_stable _ _) ?_ ?_
      · intro V w' hx hf
        with_reducible refine relAt_ops ?_
        intro A ρ hA hρ hcst hfun
        simp [relUpon, go_sem, hfun]
        exact (xkinds_any w').mono fun e w'' ⟨⟨he, hk⟩, hy⟩ => ⟨_, he, hy, _, rfl, hk⟩
      apply relPlan_eq'
      · intro V w' hx hf
        with_reducible refine relAt_ops ?_
        intro A ρ hA hρ hcst hfun
        have h7 : ρ (.tmp 7) = .pointer (some ⟨wr.heap.size, 0, none⟩) := (congrFun hρ _).trans (evalMiss hA 7 rfl)
        simp [relUpon, go_sem, Ext.refl, h7]
        rfl
      refine relPlan_by (eqv (.int .i64 (oo : Int))) (eqv_stable _) ?_ ?_
      · intro V w' hx hf
        with_reducible refine relAt_ops ?_
        intro A ρ hA hρ hcst hfun
        obtain ⟨f32, _⟩ := hf
        have h32 : ρ (.tmp 32) = _ := (congrFun hρ _).trans ((evalHit hA 32 rfl).trans f32)
        have q := cell_at (row_on RX.out hx) (i := 1) rfl
        simp [relUpon, go_sem, Ext.refl, h32, q]
        try rfl
      refine relPlan_by (atL KN oo) (atL_stable _ _) ?_ ?_
      · intro V w' hx hf
        with_reducible refine relAt_ops ?_
        intro A ρ hA hρ hcst hfun
        obtain ⟨f31, f33, _⟩ := hf
        have h31 : ρ (.tmp 31) = V 31 := (congrFun hρ _).trans (evalHit hA 31 rfl)
        have h33 : ρ (.tmp 33) = _ := (congrFun hρ _).trans ((evalHit hA 33 rfl).trans f33)
        obtain ⟨g, e31, hs⟩ := f31
        have e31 : V 31 = _ := e31
        rw [e31] at h31
        obtain ⟨hg, hc⟩ := newL_at hs HKA.out.1
        rw [← HKN.out] at hc
        simp [relUpon, go_sem, Ext.refl, h31, h33, hoI,hoI0]
        exact ⟨g, rfl, hg, hc⟩
      refine relPlan_by (eqv (.string KN)) (eqv_stable _) ?_ ?_
      · intro V w' hx hf
        with_reducible refine relAt_ops ?_
        intro A ρ hA hρ hcst hfun
        obtain ⟨f34, _⟩ := hf
        have h34 : ρ (.tmp 34) = V 34 := (congrFun hρ _).trans (evalHit hA 34 rfl)
        obtain ⟨g, e34, hg, hc⟩ := f34
        have e34 : V 34 = _ := e34
        rw [e34] at h34
        simp [relUpon, go_sem, Ext.refl, h34, hc]
        try rfl
      apply relPlan_eq'
      · intro V w' hx hf
        with_reducible refine relAt_ops ?_
        intro A ρ hA hρ hcst hfun
        obtain ⟨f30, f35, _⟩ := hf
        have h30 : ρ (.tmp 30) = _ := (congrFun hρ _).trans ((evalHit hA 30 rfl).trans f30)
        have h35 : ρ (.tmp 35) = _ := (congrFun hρ _).trans ((evalHit hA 35 rfl).trans f35)
        simp [relUpon, go_sem, Ext.refl, h30, h35, d1]
        rfl
      apply relPlan_eq'
      · intro V w' hx hf
        with_reducible refine relAt_ops ?_
        intro A ρ hA hρ hcst hfun
        obtain ⟨f36, _⟩ := hf
        have h36 : ρ (.tmp 36) = _ := (congrFun hρ _).trans ((evalHit hA 36 rfl).trans f36)
        simp [relUpon, go_sem, hcst, Ext.refl, h36, d2]
        rfl
      apply relPlan_eq'
      · intro V w' hx hf
        with_reducible refine relAt_ops ?_
        intro A ρ hA hρ hcst hfun
        have h7 : ρ (.tmp 7) = .pointer (some ⟨wr.heap.size, 0, none⟩) := (congrFun hρ _).trans (evalMiss hA 7 rfl)
        simp [relUpon, go_sem, Ext.refl, h7]
        rfl
      refine relPlan_by (eqv (.string X)) (eqv_stable _) ?_ ?_
      · intro V w' hx hf
        with_reducible refine relAt_ops ?_
        intro A ρ hA hρ hcst hfun
        obtain ⟨f38, _⟩ := hf
        have h38 : ρ (.tmp 38) = _ := (congrFun hρ _).trans ((evalHit hA 38 rfl).trans f38)
        have q := cell_at (row_on RX.out hx) (i := 0) rfl
        simp [relUpon, go_sem, Ext.refl, h38, q]
        try rfl
      apply relPlan_eq'
      · intro V w' hx hf
        with_reducible refine relAt_ops ?_
        intro A ρ hA hρ hcst hfun
        obtain ⟨f37, f39, _⟩ := hf
        have h37 : ρ (.tmp 37) = _ := (congrFun hρ _).trans ((evalHit hA 37 rfl).trans f37)
        have h39 : ρ (.tmp 39) = _ := (congrFun hρ _).trans ((evalHit hA 39 rfl).trans f39)
        simp [relUpon, go_sem, Ext.refl, h37, h39, d3, hT1]
        rfl
      intro VT wT hxT hf
      obtain ⟨g30, g31, g32, g33, g34, g35, g36, g37, g38, g39, g40, _⟩ := hf
      refine wpAny_tail1 11 40 5 _ (by kernel_rfl) rfl rfl (.inr rfl) (by kernel_rfl) rfl (by kernel_rfl) ?_
      simp only [fillA, List.foldl_cons, List.foldl_nil, Act.put, List.setIfInBounds_toArray, List.set_cons_succ, List.set_cons_zero]
      rw [show VT 40 = .string T1 from g40]
      have rT := row_on RX.out hxT
      have y1 : wT.cell? ⟨wr.heap.size, 1, none⟩ = some (.int .i64 (oo : Int)) := cell_at rT rfl
      have HXT := Lib.hid hxT
      clear g30 g31 g32 g33 g34 g35 g36 g37 g38 g39 g40
      by_cases ho4 : oo = 4
      · have hkk : kk = 0 := by have := hck4 (by omega); omega
        have HKK : Hid ((kk : Int) = 0) := Lib.hid (by omega)
        have HO4 : Hid ((oo : Int) = 4) := Lib.hid (by omega)
        have zk0 : ((kk : Int) != 0) = false := by rw [HKK.out]; rfl
        have zo4 : ((oo : Int) == 4) = true := by rw [HO4.out]; rfl
        clear hkk ho4
        obtain ⟨J, hJ⟩ : ∃ J : ByteArray, J = ⟨(Fm.spAll l).toArray⟩ := ⟨_, rfl⟩
        have hsh : Short 100 l := fun q hq => by have := Fm.word_len (HM11.out q hq); omega
        have hJs : J.size ≤ 101 * 32 := by have h := spAll_bd l hsh; have h2 := HM10.out; rw [hJ]; show (Fm.spAll l).length ≤ _; omega
        have HJN := Lib.hid (xjoined_any (.slice la ln lc) l wT (HL.out.ext hxT) hsh (by have := HM10.out; omega))
        rw [← hJ] at HJN
        obtain ⟨T2, hT2⟩ : ∃ T2 : ByteArray, T1 ++ J = T2 := ⟨_, rfl⟩
        have hT2l : T2.data.toList = T1.data.toList ++ Fm.spAll l := by rw [← hT2, hJ]; simp
        have hT2s : T2.size = T1.size + J.size := by rw [← hT2]; simp only [ByteArray.size_append]
        have v0 : ¬ 9223372036854775807 < T1.size + J.size := by omega
        have z5wT : wT.cell? ⟨wr.heap.size, 5, none⟩ = some (.slice la ln lc) := cell_at rT rfl
        have HT2L := Lib.hid hT2l
        clear hT2l hJ rT hsh
        go_wp2_with fail
        refine Calls.mono HJN.out ?_
        rintro e w3 ⟨rfl, hx3⟩
        have hx3T := hxT.trans hx3
        have r3 := row_on RX.out hx3T
        have z4w3 : w3.cell? ⟨wr.heap.size, 4, none⟩ = some (.int .i64 (kk : Int)) := cell_at r3 rfl
        clear r3 y1 z5wT
        have HXV9 : Hid (Ext V w3) := Lib.hid (HX.out.trans (HXW1.out.trans hx3T))
        have rF := row_on RX.out hx3T
        have zF : w3.cell? ⟨wr.heap.size, 6, none⟩ = some (.bool opt) := cell_at rF rfl
        clear rF
        cases opt with
        | true =>
          obtain ⟨T9, hT9⟩ : ∃ T9 : ByteArray, T2 ++ ⟨#[32, 111, 112, 116, 105, 111, 110, 97, 108]⟩ ++ ⟨#[10]⟩ = T9 := ⟨_, rfl⟩
          have h9 : T9.data.toList = Fm.accF NM.data.toList fs (k + 1) := by
            rw [HACC.out, HFE.out, ← HA.out, ← hT9]
            simp only [ByteArray.data_append, Array.toList_append, HT2L.out, hT1l.out]
            simp [HKK.out, HO4.out, Fm.tOpt]
          have H9 := Lib.hid h9
          have hs9 : T9.size ≤ 30 + 841 * (k + 1) := by
            have h1 := congrArg List.length h9
            rw [HACC.out, ← HA.out, len_data, List.length_append, len_data, List.length_append] at h1
            simp only [List.length_cons, List.length_nil] at h1
            omega
          have v1 : ¬ 9223372036854775807 < T2.size + 9 := by omega
          have v2 : ¬ 9223372036854775807 < T2.size + 9 + 1 := by omega
          clear h9
          go_wp2_with fail
          go_roundw
          case rel => exact ⟨k + 1, T9, by omega, by go_num, rfl, H9, hs9, HXV9⟩
          case measure => (simp [intOf]; try omega)
        | false =>
          obtain ⟨T9, hT9⟩ : ∃ T9 : ByteArray, T2 ++ ⟨#[10]⟩ = T9 := ⟨_, rfl⟩
          have h9 : T9.data.toList = Fm.accF NM.data.toList fs (k + 1) := by
            rw [HACC.out, HFE.out, ← HA.out, ← hT9]
            simp only [ByteArray.data_append, Array.toList_append, HT2L.out, hT1l.out]
            simp [HKK.out, HO4.out]
          have H9 := Lib.hid h9
          have hs9 : T9.size ≤ 30 + 841 * (k + 1) := by
            have h1 := congrArg List.length h9
            rw [HACC.out, ← HA.out, len_data, List.length_append, len_data, List.length_append] at h1
            simp only [List.length_cons, List.length_nil] at h1
            omega
          have v1 : ¬ 9223372036854775807 < T2.size + 1 := by omega
          clear h9
          go_wp2_with fail
          go_roundw
          case rel => exact ⟨k + 1, T9, by omega, by go_num, rfl, H9, hs9, HXV9⟩
          case measure => (simp [intOf]; try omega)
      · have HO4 : Hid (¬ (oo : Int) = 4) := Lib.hid (by omega)
        have zo4 : ((oo : Int) == 4) = false := beq_eq_false_iff_ne.2 HO4.out
        have HRT := Lib.hid rT
        unfold Fm.great at m5 m6 m7 m8
        obtain ⟨MN, hMN⟩ : ∃ MN : ByteArray, MN = ⟨(Lib.itoa mn).toArray⟩ := ⟨_, rfl⟩
        have hMNs : MN.size ≤ 17 := by rw [hMN]; exact Fm.itoa_small mn (by unfold Fm.great; omega) (by unfold Fm.great; omega)
        have HMN := Lib.hid (fun w' => xdecimal_any mn (by omega) (by omega) w')
        rw [← hMN] at HMN
        obtain ⟨MX, hMX⟩ : ∃ MX : ByteArray, MX = ⟨(Lib.itoa mx).toArray⟩ := ⟨_, rfl⟩
        have hMXs : MX.size ≤ 17 := by rw [hMX]; exact Fm.itoa_small mx (by unfold Fm.great; omega) (by unfold Fm.great; omega)
        have HMX := Lib.hid (fun w' => xdecimal_any mx (by omega) (by omega) w')
        rw [← hMX] at HMX
        obtain ⟨T2, hT2⟩ : ∃ T2 : ByteArray, T1 ++ ⟨#[32]⟩ ++ MN ++ ⟨#[32]⟩ ++ MX = T2 := ⟨_, rfl⟩
        have hT2l : T2.data.toList = T1.data.toList ++ (32 :: Lib.itoa mn ++ 32 :: Lib.itoa mx) := by rw [← hT2, hMN, hMX]; simp
        have hT2s : T2.size = T1.size + 1 + MN.size + 1 + MX.size := by rw [← hT2]; simp only [ByteArray.size_append]; rfl
        have p1 : ¬ 9223372036854775807 < T1.size + 1 := by omega
        have p2 : ¬ 9223372036854775807 < T1.size + 1 + MN.size := by omega
        have p3 : ¬ 9223372036854775807 < T1.size + 1 + MN.size + 1 := by omega
        have p4 : ¬ 9223372036854775807 < T1.size + 1 + MN.size + 1 + MX.size := by omega
        have HT2L := Lib.hid hT2l
        clear hT2l hMN hMX rT hck4
        go_upto_region 12 with fail
        refine wp_region_rel 11 1 rfl [49, 50, 51, 52, 53, 54, 55, 56, 57, 58, 59] [[], [0], [], [2], [3], [1, 4], [5], [], [7], [8], [6, 9]] (by kernel_rfl) (by kernel_rfl) ?_
        apply relPlan_eq'
        · intro V w' hx hf
          with_reducible refine relAt_ops ?_
          intro A ρ hA hρ hcst hfun
          have h5 : ρ (.tmp 5) = .string T1 := (congrFun hρ _).trans (evalMiss hA 5 rfl)
          exact relUpon_move (hk := by rw [h5]; exact ⟨Ext.refl _, rfl⟩)
        apply relPlan_eq'
        · intro V w' hx hf
          with_reducible refine relAt_ops ?_
          intro A ρ hA hρ hcst hfun
          obtain ⟨f49, _⟩ := hf
          have h49 : ρ (.tmp 49) = _ := (congrFun hρ _).trans ((evalHit hA 49 rfl).trans f49)
          simp [relUpon, go_sem, hcst, Ext.refl, h49, p1]
          rfl
        apply relPlan_eq'
        · intro V w' hx hf
          with_reducible refine relAt_ops ?_
          intro A ρ hA hρ hcst hfun
          have h7 : ρ (.tmp 7) = .pointer (some ⟨wr.heap.size, 0, none⟩) := (congrFun hρ _).trans (evalMiss hA 7 rfl)
          simp [relUpon, go_sem, Ext.refl, h7]
          rfl
        refine relPlan_by (eqv (.int .i64 mn)) (eqv_stable _) ?_ ?_
        · intro V w' hx hf
          with_reducible refine relAt_ops ?_
          intro A ρ hA hρ hcst hfun
          obtain ⟨f51, _⟩ := hf
          have h51 : ρ (.tmp 51) = _ := (congrFun hρ _).trans ((evalHit hA 51 rfl).trans f51)
          have q := cell_at (row_on HRT.out hx) (i := 2) rfl
          simp [relUpon, go_sem, Ext.refl, h51, q]
          try rfl
        refine relPlan_by (eqv (.string MN)) (eqv_stable _) ?_ ?_
        · intro V w' hx hf
          with_reducible refine relAt_ops ?_
          intro A ρ hA hρ hcst hfun
          obtain ⟨f52, _⟩ := hf
          have h52 : ρ (.tmp 52) = _ := (congrFun hρ _).trans ((evalHit hA 52 rfl).trans f52)
          simp [relUpon, go_sem, hfun, h52]
          exact (HMN.out w').mono fun e w'' ⟨he, hy⟩ => ⟨_, he, hy, rfl⟩
        apply relPlan_eq'
        · intro V w' hx hf
          with_reducible refine relAt_ops ?_
          intro A ρ hA hρ hcst hfun
          obtain ⟨f50, f53, _⟩ := hf
          have h50 : ρ (.tmp 50) = _ := (congrFun hρ _).trans ((evalHit hA 50 rfl).trans f50)
          have h53 : ρ (.tmp 53) = _ := (congrFun hρ _).trans ((evalHit hA 53 rfl).trans f53)
          simp [relUpon, go_sem, Ext.refl, h50, h53, p2]
          rfl
        apply relPlan_eq'
        · intro V w' hx hf
          with_reducible refine relAt_ops ?_
          intro A ρ hA hρ hcst hfun
          obtain ⟨f54, _⟩ := hf
          have h54 : ρ (.tmp 54) = _ := (congrFun hρ _).trans ((evalHit hA 54 rfl).trans f54)
          simp [relUpon, go_sem, hcst, Ext.refl, h54, p3]
          rfl
        apply relPlan_eq'
        · intro V w' hx hf
          with_reducible refine relAt_ops ?_
          intro A ρ hA hρ hcst hfun
          have h7 : ρ (.tmp 7) = .pointer (some ⟨wr.heap.size, 0, none⟩) := (congrFun hρ _).trans (evalMiss hA 7 rfl)
          simp [relUpon, go_sem, Ext.refl, h7]
          rfl
        refine relPlan_by (eqv (.int .i64 mx)) (eqv_stable _) ?_ ?_
        · intro V w' hx hf
          with_reducible refine relAt_ops ?_
          intro A ρ hA hρ hcst hfun
          obtain ⟨f56, _⟩ := hf
          have h56 : ρ (.tmp 56) = _ := (congrFun hρ _).trans ((evalHit hA 56 rfl).trans f56)
          have q := cell_at (row_on HRT.out hx) (i := 3) rfl
          simp [relUpon, go_sem, Ext.refl, h56, q]
          try rfl
        refine relPlan_by (eqv (.string MX)) (eqv_stable _) ?_ ?_
        · intro V w' hx hf
          with_reducible refine relAt_ops ?_
          intro A ρ hA hρ hcst hfun
          obtain ⟨f57, _⟩ := hf
          have h57 : ρ (.tmp 57) = _ := (congrFun hρ _).trans ((evalHit hA 57 rfl).trans f57)
          simp [relUpon, go_sem, hfun, h57]
          exact (HMX.out w').mono fun e w'' ⟨he, hy⟩ => ⟨_, he, hy, rfl⟩
        apply relPlan_eq'
        · intro V w' hx hf
          with_reducible refine relAt_ops ?_
          intro A ρ hA hρ hcst hfun
          obtain ⟨f55, f58, _⟩ := hf
          have h55 : ρ (.tmp 55) = _ := (congrFun hρ _).trans ((evalHit hA 55 rfl).trans f55)
          have h58 : ρ (.tmp 58) = _ := (congrFun hρ _).trans ((evalHit hA 58 rfl).trans f58)
          simp [relUpon, go_sem, Ext.refl, h55, h58, p4, hT2]
          rfl
        intro VU wU hxU hf
        obtain ⟨g49, g50, g51, g52, g53, g54, g55, g56, g57, g58, g59, _⟩ := hf
        refine wpAny_tail1 11 59 5 _ (by kernel_rfl) rfl rfl (.inr rfl) (by kernel_rfl) rfl (by kernel_rfl) ?_
        simp only [fillA, List.foldl_cons, List.foldl_nil, Act.put, List.setIfInBounds_toArray, List.set_cons_succ, List.set_cons_zero]
        rw [show VU 59 = .string T2 from g59]
        clear g49 g50 g51 g52 g53 g54 g55 g56 g57 g58 g59 p1 p2 p3 p4 y1
        have hxTU := hxT.trans hxU
        have rU := row_on RX.out hxTU
        have z4wU : wU.cell? ⟨wr.heap.size, 4, none⟩ = some (.int .i64 (kk : Int)) := cell_at rU rfl
        have HRU := Lib.hid rU
        clear rU
        by_cases hk0 : kk = 0
        · have HKK : Hid ((kk : Int) = 0) := Lib.hid (by omega)
          have zk0 : ((kk : Int) != 0) = false := by rw [HKK.out]; rfl
          clear hk0
          have HXV9 : Hid (Ext V wU) := Lib.hid (HX.out.trans (HXW1.out.trans hxTU))
          have rF := row_on RX.out hxTU
          have zF : wU.cell? ⟨wr.heap.size, 6, none⟩ = some (.bool opt) := cell_at rF rfl
          clear rF
          cases opt with
          | true =>
            obtain ⟨T9, hT9⟩ : ∃ T9 : ByteArray, T2 ++ ⟨#[32, 111, 112, 116, 105, 111, 110, 97, 108]⟩ ++ ⟨#[10]⟩ = T9 := ⟨_, rfl⟩
            have h9 : T9.data.toList = Fm.accF NM.data.toList fs (k + 1) := by
              rw [HACC.out, HFE.out, ← HA.out, ← hT9]
              simp only [ByteArray.data_append, Array.toList_append, HT2L.out, hT1l.out]
              simp [HKK.out, HO4.out, Fm.tOpt]
            have H9 := Lib.hid h9
            have hs9 : T9.size ≤ 30 + 841 * (k + 1) := by
              have h1 := congrArg List.length h9
              rw [HACC.out, ← HA.out, len_data, List.length_append, len_data, List.length_append] at h1
              simp only [List.length_cons, List.length_nil] at h1
              omega
            have v1 : ¬ 9223372036854775807 < T2.size + 9 := by omega
            have v2 : ¬ 9223372036854775807 < T2.size + 9 + 1 := by omega
            clear h9
            go_wp2_with fail
            go_roundw
            case rel => exact ⟨k + 1, T9, by omega, by go_num, rfl, H9, hs9, HXV9⟩
            case measure => (simp [intOf]; try omega)
          | false =>
            obtain ⟨T9, hT9⟩ : ∃ T9 : ByteArray, T2 ++ ⟨#[10]⟩ = T9 := ⟨_, rfl⟩
            have h9 : T9.data.toList = Fm.accF NM.data.toList fs (k + 1) := by
              rw [HACC.out, HFE.out, ← HA.out, ← hT9]
              simp only [ByteArray.data_append, Array.toList_append, HT2L.out, hT1l.out]
              simp [HKK.out, HO4.out]
            have H9 := Lib.hid h9
            have hs9 : T9.size ≤ 30 + 841 * (k + 1) := by
              have h1 := congrArg List.length h9
              rw [HACC.out, ← HA.out, len_data, List.length_append, len_data, List.length_append] at h1
              simp only [List.length_cons, List.length_nil] at h1
              omega
            have v1 : ¬ 9223372036854775807 < T2.size + 1 := by omega
            clear h9
            go_wp2_with fail
            go_roundw
            case rel => exact ⟨k + 1, T9, by omega, by go_num, rfl, H9, hs9, HXV9⟩
            case measure => (simp [intOf]; try omega)
        · have HKK : Hid (¬ (kk : Int) = 0) := Lib.hid (by omega)
          have zk0 : ((kk : Int) != 0) = true := bne_iff_ne.2 HKK.out
          have hsa := systems_at (o := kk) (by omega) (by omega)
          have hkkI : (kk : Int) < 9 := by omega
          have hkkI0 : (0 : Int) ≤ (kk : Int) := by omega
          obtain ⟨KS, hKS⟩ : ∃ KS : ByteArray, KS = ⟨(Fm.sysNm (kk : Int)).toArray⟩ := ⟨_, rfl⟩
          have hKSs : KS.size ≤ 8 := by rw [hKS]; exact hsa.2
          obtain ⟨T3, hT3⟩ : ∃ T3 : ByteArray, T2 ++ ⟨#[32, 99, 104, 101, 99, 107, 32]⟩ ++ KS = T3 := ⟨_, rfl⟩
          have hT3l : T3.data.toList = T2.data.toList ++ (32 :: Fm.tChk ++ 32 :: Fm.sysNm (kk : Int)) := by rw [← hT3, hKS]; simp [Fm.tChk]
          have hT3s : T3.size = T2.size + 7 + KS.size := by rw [← hT3]; simp only [ByteArray.size_append]; rfl
          have r1' : ¬ 9223372036854775807 < T2.size + 7 := by omega
          have r2' : ¬ 9223372036854775807 < T2.size + 7 + KS.size := by omega
          have HT3L := Lib.hid hT3l
          have HSA := Lib.hid hsa
          have HKS := Lib.hid hKS
          have HK0 : Hid (¬ kk = 0) := Lib.hid hk0
          clear hT3l hsa hKS hk0
          go_upto_region 14 with fail
          refine wp_region_rel 8 1 rfl [63, 64, 65, 66, 67, 68, 69, 70] [[], [0], [], [], [3], [2, 4], [5], [1, 6]] (by kernel_rfl) (by kernel_rfl) ?_
          apply relPlan_eq'
          · intro V w' hx hf
            with_reducible refine relAt_ops ?_
            intro A ρ hA hρ hcst hfun
            have h5 : ρ (.tmp 5) = .string T2 := (congrFun hρ _).trans (evalMiss hA 5 rfl)
            exact relUpon_move (hk := by rw [h5]; exact ⟨Ext.refl _, rfl⟩)
          apply relPlan_eq'
          · intro V w' hx hf
            with_reducible refine relAt_ops ?_
            intro A ρ hA hρ hcst hfun
            obtain ⟨f63, _⟩ := hf
            have h63 : ρ (.tmp 63) = _ := (congrFun hρ _).trans ((evalHit hA 63 rfl).trans f63)
            simp [relUpon, go_sem, hcst, Ext.refl, h63, r1']
            rfl
          refine relPlan_by (newL systemsL 9) (newL_stable _ _) ?_ ?_
          · intro V w' hx hf
            with_reducible refine relAt_ops ?_
            intro A ρ hA hρ hcst hfun
            simp [relUpon, go_sem, hfun]
            exact (xsystems_any w').mono fun e w'' ⟨⟨he, hk⟩, hy⟩ => ⟨_, he, hy, _, rfl, hk⟩
          apply relPlan_eq'
          · intro V w' hx hf
            with_reducible refine relAt_ops ?_
            intro A ρ hA hρ hcst hfun
            have h7 : ρ (.tmp 7) = .pointer (some ⟨wr.heap.size, 0, none⟩) := (congrFun hρ _).trans (evalMiss hA 7 rfl)
            simp [relUpon, go_sem, Ext.refl, h7]
            rfl
          refine relPlan_by (eqv (.int .i64 (kk : Int))) (eqv_stable _) ?_ ?_
          · intro V w' hx hf
            with_reducible refine relAt_ops ?_
            intro A ρ hA hρ hcst hfun
            obtain ⟨f66, _⟩ := hf
            have h66 : ρ (.tmp 66) = _ := (congrFun hρ _).trans ((evalHit hA 66 rfl).trans f66)
            have q := cell_at (row_on HRU.out hx) (i := 4) rfl
            simp [relUpon, go_sem, Ext.refl, h66, q]
            try rfl
          refine relPlan_by (atL KS kk) (atL_stable _ _) ?_ ?_
          · intro V w' hx hf
            with_reducible refine relAt_ops ?_
            intro A ρ hA hρ hcst hfun
            obtain ⟨f65, f67, _⟩ := hf
            have h65 : ρ (.tmp 65) = V 65 := (congrFun hρ _).trans (evalHit hA 65 rfl)
            have h67 : ρ (.tmp 67) = _ := (congrFun hρ _).trans ((evalHit hA 67 rfl).trans f67)
            obtain ⟨g, e65, hs⟩ := f65
            have e65 : V 65 = _ := e65
            rw [e65] at h65
            obtain ⟨hg, hc⟩ := newL_at hs HSA.out.1
            rw [← HKS.out] at hc
            simp [relUpon, go_sem, Ext.refl, h65, h67, hkkI,hkkI0]
            exact ⟨g, rfl, hg, hc⟩
          refine relPlan_by (eqv (.string KS)) (eqv_stable _) ?_ ?_
          · intro V w' hx hf
            with_reducible refine relAt_ops ?_
            intro A ρ hA hρ hcst hfun
            obtain ⟨f68, _⟩ := hf
            have h68 : ρ (.tmp 68) = V 68 := (congrFun hρ _).trans (evalHit hA 68 rfl)
            obtain ⟨g, e68, hg, hc⟩ := f68
            have e68 : V 68 = _ := e68
            rw [e68] at h68
            simp [relUpon, go_sem, Ext.refl, h68, hc]
            try rfl
          apply relPlan_eq'
          · intro V w' hx hf
            with_reducible refine relAt_ops ?_
            intro A ρ hA hρ hcst hfun
            obtain ⟨f64, f69, _⟩ := hf
            have h64 : ρ (.tmp 64) = _ := (congrFun hρ _).trans ((evalHit hA 64 rfl).trans f64)
            have h69 : ρ (.tmp 69) = _ := (congrFun hρ _).trans ((evalHit hA 69 rfl).trans f69)
            simp [relUpon, go_sem, Ext.refl, h64, h69, r2', hT3]
            rfl
          intro VS wS hxS hf
          obtain ⟨g63, g64, g65, g66, g67, g68, g69, g70, _⟩ := hf
          refine wpAny_tail1 8 70 5 _ (by kernel_rfl) rfl rfl (.inr rfl) (by kernel_rfl) rfl (by kernel_rfl) ?_
          simp only [fillA, List.foldl_cons, List.foldl_nil, Act.put, List.setIfInBounds_toArray, List.set_cons_succ, List.set_cons_zero]
          rw [show VS 70 = .string T3 from g70]
          clear g63 g64 g65 g66 g67 g68 g69 g70 r1' r2' z4wU
          have hxTS := hxTU.trans hxS
          have HXV9 : Hid (Ext V wS) := Lib.hid (HX.out.trans (HXW1.out.trans hxTS))
          have rF := row_on RX.out hxTS
          have zF : wS.cell? ⟨wr.heap.size, 6, none⟩ = some (.bool opt) := cell_at rF rfl
          clear rF
          cases opt with
          | true =>
            obtain ⟨T9, hT9⟩ : ∃ T9 : ByteArray, T3 ++ ⟨#[32, 111, 112, 116, 105, 111, 110, 97, 108]⟩ ++ ⟨#[10]⟩ = T9 := ⟨_, rfl⟩
            have h9 : T9.data.toList = Fm.accF NM.data.toList fs (k + 1) := by
              rw [HACC.out, HFE.out, ← HA.out, ← hT9]
              simp only [ByteArray.data_append, Array.toList_append, HT3L.out, HT2L.out, hT1l.out]
              simp [HK0.out, HO4.out, Fm.tOpt, Fm.tChk]
            have H9 := Lib.hid h9
            have hs9 : T9.size ≤ 30 + 841 * (k + 1) := by
              have h1 := congrArg List.length h9
              rw [HACC.out, ← HA.out, len_data, List.length_append, len_data, List.length_append] at h1
              simp only [List.length_cons, List.length_nil] at h1
              omega
            have v1 : ¬ 9223372036854775807 < T3.size + 9 := by omega
            have v2 : ¬ 9223372036854775807 < T3.size + 9 + 1 := by omega
            clear h9
            go_wp2_with fail
            go_roundw
            case rel => exact ⟨k + 1, T9, by omega, by go_num, rfl, H9, hs9, HXV9⟩
            case measure => (simp [intOf]; try omega)
          | false =>
            obtain ⟨T9, hT9⟩ : ∃ T9 : ByteArray, T3 ++ ⟨#[10]⟩ = T9 := ⟨_, rfl⟩
            have h9 : T9.data.toList = Fm.accF NM.data.toList fs (k + 1) := by
              rw [HACC.out, HFE.out, ← HA.out, ← hT9]
              simp only [ByteArray.data_append, Array.toList_append, HT3L.out, HT2L.out, hT1l.out]
              simp [HK0.out, HO4.out, Fm.tChk]
            have H9 := Lib.hid h9
            have hs9 : T9.size ≤ 30 + 841 * (k + 1) := by
              have h1 := congrArg List.length h9
              rw [HACC.out, ← HA.out, len_data, List.length_append, len_data, List.length_append] at h1
              simp only [List.length_cons, List.length_nil] at h1
              omega
            have v1 : ¬ 9223372036854775807 < T3.size + 1 := by omega
            clear h9
            go_wp2_with fail
            go_roundw
            case rel => exact ⟨k + 1, T9, by omega, by go_num, rfl, H9, hs9, HXV9⟩
            case measure => (simp [intOf]; try omega)
    · obtain rfl : k = n := by omega
      obtain ⟨W0, hW0⟩ : ∃ W0, W0 = wr := ⟨_, rfl⟩
      subst hW0
      have HA0 : Hid (s.data.toList = Fm.accS NM.data.toList fs ss 0) := Lib.hid (by rw [HA.out]; unfold Fm.accS; rw [HN.out]; simp)
      clear r1 HA
      go_wp2_with fail
      go_loopw [5, 8] (fun v t wq => ∃ (j : Nat) (u : ByteArray), j ≤ n2 ∧ t = .int .i64 (j : Int) ∧ v = .string u ∧ Hid (u.data.toList = Fm.accS NM.data.toList fs ss j) ∧ u.size ≤ 300000 + 30000 * j ∧ Hid (Ext V wq)) (fun _ t _ => n2 - (intOf t).toNat)
      case atStart => exact ⟨0, s, Nat.zero_le _, rfl, rfl, HA0, by omega, HX⟩
      case round =>
        clear HA0 HX
        obtain ⟨j, u, hj, rfl, rfl, HA, huz, HX⟩ := hrel
        have hxw : Ext w wr := HXV.out.trans HX.out
        have r1 := row_on HRV.out HX.out
        have k2 : wr.cell? ⟨w.heap.size, 2, none⟩ = some (.slice a2 n2 c2) := cell_at r1 rfl
        by_cases hjn : j < n2
        · obtain ⟨r, hrj⟩ : ∃ r, ss[j]? = some r := ⟨_, List.getElem?_eq_getElem (by rw [HN2.out]; exact hjn)⟩
          have hmem := List.mem_of_getElem? hrj
          obtain ⟨ht, hp0, hpn⟩ := HVAL.out.sums r hmem
          have hpl := Fm.parts_len HY.out.symm hmem
          have hnames := HVAL.out.names
          have htl := Fm.name_len (hnames _ ht)
          have hsh : Short 100 r.parts := fun q hq => by have := Fm.name_len (hnames _ (hpn q hq)); omega
          have hacc := Fm.accS_succ (nm := NM.data.toList) (fs := fs) hrj
          have hse := Fm.sumLine_eq r hp0
          obtain ⟨b, o, X, la, ln, lc, l, ha, hb, rfl, hl, c0, c1⟩ := HS.out.here hxw hrj
          subst ha
          dsimp only at hpl htl hsh hse
          rw [len_data] at htl
          have hbw : b < wr.heap.size := Nat.lt_of_lt_of_le hb hxw.size
          have HRB := Lib.hid r1
          have HC0 := Lib.hid c0
          have HC1 := Lib.hid c1
          obtain ⟨J, hJ⟩ : ∃ J : ByteArray, J = ⟨(Fm.spAll l).toArray⟩ := ⟨_, rfl⟩
          have hJs : J.size ≤ 101 * 256 := by have h := spAll_bd l hsh; rw [hJ]; show (Fm.spAll l).length ≤ _; omega
          have HJN := Lib.hid (fun w' (hx : Ext wr w') => xjoined_any (.slice la ln lc) l w' (hl.ext (hxw.trans hx)) hsh (by omega))
          rw [← hJ] at HJN
          obtain ⟨T2, hT2⟩ : ∃ T2 : ByteArray, u ++ ⟨#[115, 117, 109, 32]⟩ ++ X ++ J ++ ⟨#[10]⟩ = T2 := ⟨_, rfl⟩
          have h2l : T2.data.toList = Fm.accS NM.data.toList fs ss (j + 1) := by
            rw [hacc, hse, ← HA.out, ← hT2, hJ]
            simp [Fm.tSum]
          have h2s : T2.size = u.size + 4 + X.size + J.size + 1 := by rw [← hT2]; simp only [ByteArray.size_append]; rfl
          have p1 : ¬ 9223372036854775807 < u.size + 4 := by omega
          have p2 : ¬ 9223372036854775807 < u.size + 4 + X.size := by omega
          have p3 : ¬ 9223372036854775807 < u.size + 4 + X.size + J.size := by omega
          have p4 : ¬ 9223372036854775807 < u.size + 4 + X.size + J.size + 1 := by omega
          have hjI : (j : Int) < (n2 : Int) := by omega
          have H2L := Lib.hid h2l
          clear hrj hmem ht hp0 hpn hnames hsh hacc hse hl c0 c1 r1 hJ h2l
          go_upto_region 21 with fail
          refine wp_region_rel 18 1 rfl [84, 85, 86, 87, 88, 89, 90, 91, 92, 93, 94, 95, 96, 97, 98, 99, 100, 101] [[], [0], [], [2], [], [3, 4], [5], [6], [1, 7], [], [9], [], [10, 11], [12], [13], [14], [8, 15], [16]] (by kernel_rfl) (by kernel_rfl) ?_
          apply relPlan_eq'
          · intro V w' hx hf
            with_reducible refine relAt_ops ?_
            intro A ρ hA hρ hcst hfun
            have h5 : ρ (.tmp 5) = .string u := (congrFun hρ _).trans (evalMiss hA 5 rfl)
            exact relUpon_move (hk := by rw [h5]; exact ⟨Ext.refl _, rfl⟩)
          apply relPlan_eq'
          · intro V w' hx hf
            with_reducible refine relAt_ops ?_
            intro A ρ hA hρ hcst hfun
            obtain ⟨f84, _⟩ := hf
            have h84 : ρ (.tmp 84) = _ := (congrFun hρ _).trans ((evalHit hA 84 rfl).trans f84)
            simp [relUpon, go_sem, hcst, Ext.refl, h84, p1]
            rfl
          apply relPlan_eq'
          · intro V w' hx hf
            with_reducible refine relAt_ops ?_
            intro A ρ hA hρ hcst hfun
            have h1 : ρ (.tmp 1) = .pointer (some ⟨w.heap.size, 0, none⟩) := (congrFun hρ _).trans (evalMiss hA 1 rfl)
            simp [relUpon, go_sem, Ext.refl, h1]
            rfl
          refine relPlan_by (eqv (.slice (some ⟨b, o, none⟩) n2 c2)) (eqv_stable _) ?_ ?_
          · intro V w' hx hf
            with_reducible refine relAt_ops ?_
            intro A ρ hA hρ hcst hfun
            obtain ⟨f86, _⟩ := hf
            have h86 : ρ (.tmp 86) = _ := (congrFun hρ _).trans ((evalHit hA 86 rfl).trans f86)
            have q := cell_at (row_on HRB.out hx) (i := 2) rfl
            simp [relUpon, go_sem, Ext.refl, h86, q]
            try rfl
          apply relPlan_eq'
          · intro V w' hx hf
            with_reducible refine relAt_ops ?_
            intro A ρ hA hρ hcst hfun
            have h8 : ρ (.tmp 8) = .int .i64 (j : Int) := (congrFun hρ _).trans (evalMiss hA 8 rfl)
            exact relUpon_move (hk := by rw [h8]; exact ⟨Ext.refl _, rfl⟩)
          apply relPlan_eq'
          · intro V w' hx hf
            with_reducible refine relAt_ops ?_
            intro A ρ hA hρ hcst hfun
            obtain ⟨f87, f88, _⟩ := hf
            have h87 : ρ (.tmp 87) = _ := (congrFun hρ _).trans ((evalHit hA 87 rfl).trans f87)
            have h88 : ρ (.tmp 88) = _ := (congrFun hρ _).trans ((evalHit hA 88 rfl).trans f88)
            simp [relUpon, go_sem, Ext.refl, h87, h88, hjI]
            rfl
          apply relPlan_eq'
          · intro V w' hx hf
            with_reducible refine relAt_ops ?_
            intro A ρ hA hρ hcst hfun
            obtain ⟨f89, _⟩ := hf
            have h89 : ρ (.tmp 89) = _ := (congrFun hρ _).trans ((evalHit hA 89 rfl).trans f89)
            simp [relUpon, go_sem, Ext.refl, h89]
            rfl
          refine relPlan_by (eqv (.string X)) (eqv_stable _) ?_ ?_
          · intro V w' hx hf
            with_reducible refine relAt_ops ?_
            intro A ρ hA hρ hcst hfun
            obtain ⟨f90, _⟩ := hf
            have h90 : ρ (.tmp 90) = _ := (congrFun hρ _).trans ((evalHit hA 90 rfl).trans f90)
            have q := (hx.cell (p := ⟨b, o + j * 2, none⟩) hbw).trans HC0.out
            simp [relUpon, go_sem, Ext.refl, h90, q]
            try rfl
          apply relPlan_eq'
          · intro V w' hx hf
            with_reducible refine relAt_ops ?_
            intro A ρ hA hρ hcst hfun
            obtain ⟨f85, f91, _⟩ := hf
            have h85 : ρ (.tmp 85) = _ := (congrFun hρ _).trans ((evalHit hA 85 rfl).trans f85)
            have h91 : ρ (.tmp 91) = _ := (congrFun hρ _).trans ((evalHit hA 91 rfl).trans f91)
            simp [relUpon, go_sem, Ext.refl, h85, h91, p2]
            rfl
          apply relPlan_eq'
          · intro V w' hx hf
            with_reducible refine relAt_ops ?_
            intro A ρ hA hρ hcst hfun
            have h1 : ρ (.tmp 1) = .pointer (some ⟨w.heap.size, 0, none⟩) := (congrFun hρ _).trans (evalMiss hA 1 rfl)
            simp [relUpon, go_sem, Ext.refl, h1]
            rfl
          refine relPlan_by (eqv (.slice (some ⟨b, o, none⟩) n2 c2)) (eqv_stable _) ?_ ?_
          · intro V w' hx hf
            with_reducible refine relAt_ops ?_
            intro A ρ hA hρ hcst hfun
            obtain ⟨f93, _⟩ := hf
            have h93 : ρ (.tmp 93) = _ := (congrFun hρ _).trans ((evalHit hA 93 rfl).trans f93)
            have q := cell_at (row_on HRB.out hx) (i := 2) rfl
            simp [relUpon, go_sem, Ext.refl, h93, q]
            try rfl
          apply relPlan_eq'
          · intro V w' hx hf
            with_reducible refine relAt_ops ?_
            intro A ρ hA hρ hcst hfun
            have h8 : ρ (.tmp 8) = .int .i64 (j : Int) := (congrFun hρ _).trans (evalMiss hA 8 rfl)
            exact relUpon_move (hk := by rw [h8]; exact ⟨Ext.refl _, rfl⟩)
          apply relPlan_eq'
          · intro V w' hx hf
            with_reducible refine relAt_ops ?_
            intro A ρ hA hρ hcst hfun
            obtain ⟨f94, f95, _⟩ := hf
            have h94 : ρ (.tmp 94) = _ := (congrFun hρ _).trans ((evalHit hA 94 rfl).trans f94)
            have h95 : ρ (.tmp 95) = _ := (congrFun hρ _).trans ((evalHit hA 95 rfl).trans f95)
            simp [relUpon, go_sem, Ext.refl, h94, h95, hjI]
            rfl
          apply relPlan_eq'
          · intro V w' hx hf
            with_reducible refine relAt_ops ?_
            intro A ρ hA hρ hcst hfun
            obtain ⟨f96, _⟩ := hf
            have h96 : ρ (.tmp 96) = _ := (congrFun hρ _).trans ((evalHit hA 96 rfl).trans f96)
            simp [relUpon, go_sem, Ext.refl, h96]
            rfl
          refine relPlan_by (eqv (.slice la ln lc)) (eqv_stable _) ?_ ?_
          · intro V w' hx hf
            with_reducible refine relAt_ops ?_
            intro A ρ hA hρ hcst hfun
            obtain ⟨f97, _⟩ := hf
            have h97 : ρ (.tmp 97) = _ := (congrFun hρ _).trans ((evalHit hA 97 rfl).trans f97)
            have q := (hx.cell (p := ⟨b, o + j * 2 + 1, none⟩) hbw).trans HC1.out
            simp [relUpon, go_sem, Ext.refl, h97, q]
            try rfl
          refine relPlan_by (eqv (.string J)) (eqv_stable _) ?_ ?_
          · intro V w' hx hf
            with_reducible refine relAt_ops ?_
            intro A ρ hA hρ hcst hfun
            obtain ⟨f98, _⟩ := hf
            have h98 : ρ (.tmp 98) = _ := (congrFun hρ _).trans ((evalHit hA 98 rfl).trans f98)
            simp [relUpon, go_sem, hfun, h98]
            exact (HJN.out w' hx).mono fun e w'' ⟨he, hy⟩ => ⟨_, he, hy, rfl⟩
          apply relPlan_eq'
          · intro V w' hx hf
            with_reducible refine relAt_ops ?_
            intro A ρ hA hρ hcst hfun
            obtain ⟨f92, f99, _⟩ := hf
            have h92 : ρ (.tmp 92) = _ := (congrFun hρ _).trans ((evalHit hA 92 rfl).trans f92)
            have h99 : ρ (.tmp 99) = _ := (congrFun hρ _).trans ((evalHit hA 99 rfl).trans f99)
            simp [relUpon, go_sem, Ext.refl, h92, h99, p3]
            rfl
          apply relPlan_eq'
          · intro V w' hx hf
            with_reducible refine relAt_ops ?_
            intro A ρ hA hρ hcst hfun
            obtain ⟨f100, _⟩ := hf
            have h100 : ρ (.tmp 100) = _ := (congrFun hρ _).trans ((evalHit hA 100 rfl).trans f100)
            simp [relUpon, go_sem, hcst, Ext.refl, h100, p4, hT2]
            rfl
          intro VU wU hxU hf
          obtain ⟨g84, g85, g86, g87, g88, g89, g90, g91, g92, g93, g94, g95, g96, g97, g98, g99, g100, g101, _⟩ := hf
          refine wpAny_tail1 18 101 5 _ (by kernel_rfl) rfl rfl (.inr rfl) (by kernel_rfl) rfl (by kernel_rfl) ?_
          simp only [fillA, List.foldl_cons, List.foldl_nil, Act.put, List.setIfInBounds_toArray, List.set_cons_succ, List.set_cons_zero]
          rw [show VU 101 = .string T2 from g101]
          have HXN := Lib.hid (HX.out.trans hxU)
          clear g84 g85 g86 g87 g88 g89 g90 g91 g92 g93 g94 g95 g96 g97 g98 g99 g100 g101 p1 p2 p3 p4
          go_wp2_with fail
          go_roundw
          case rel => exact ⟨j + 1, T2, by omega, by go_num, rfl, H2L, by omega, HXN⟩
          case measure => (simp [intOf]; try omega)
        · obtain rfl : j = n2 := by omega
          have hfin : (⟨(Fm.text ⟨NM.data.toList, fs, ss⟩).toArray⟩ : ByteArray) = u := bytes_ext (by rw [HA.out, ← Fm.accS_all, HN2.out])
          have HFIN := Lib.hid hfin
          clear r1 hfin
          go_wp2_with fail
          go_ret2
          exact ⟨by rw [HR.out]; show _ = Ending.returned (.tuple #[.string ⟨(Fm.text ⟨NM.data.toList, fs, ss⟩).toArray⟩, .int .i64 0]); rw [HFIN.out]; rfl, hxw⟩
end Go.Proofs.YtkpfehfcgpapiaaGreatDoor
