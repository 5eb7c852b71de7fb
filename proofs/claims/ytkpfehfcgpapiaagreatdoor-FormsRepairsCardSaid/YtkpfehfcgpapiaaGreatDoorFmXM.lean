/-
  Chapter 51: Repair: the reference.
  No condition.
-/
import Derived.Test.YtkpfehfcgpapiaaGreatDoorFmXJ
import Derived.Test.YtkpfehfcgpapiaaGreatDoorFmVe
import Derived.Test.YtkpfehfcgpapiaaGreatDoorFmPa
import Derived.Test.YtkpfehfcgpapiaaGreatDoorCdR8
namespace Go.Proofs.YtkpfehfcgpapiaaGreatDoor
set_option linter.unusedVariables false
open Go.RowKit

theorem Fm.fix_snoc {fs : List Fm.Fld} {vs : List Fm.S} (hl : vs.length = fs.length) {k : Nat} {f : Fm.Fld} {v : Fm.S} (hf : fs[k]? = some f) (hv : vs[k]? = some v) :
    (Fm.fixGo fs vs).take (k + 1) = (Fm.fixGo fs vs).take k ++ [Fm.fix f v] := snoc_take (Fm.fixGo_at hl hf hv)
theorem Fm.cntR_le (f : Fm.Fld) (v : Fm.S) (l : List Fm.S) : (Fm.cntR f v l).1 ≤ l.length := by
  unfold Fm.cntR
  rw [Fm.cnt_from, Nat.zero_add]
  exact List.length_filter_le _ _

set_option maxRecDepth 100000 in
set_option maxHeartbeats 4000000 in
theorem xrepair_any (NM : ByteArray) (a : Option Addr) (n c : Nat) (a2 : Option Addr) (n2 c2 : Nat) (fs : List Fm.Fld) (ss : List Fm.Sm) (va : Option Addr) (vn vc : Nat) (vs : List Fm.S) (w : World) (hf : FldsR w (.slice a n c) fs) (hm : SumsR w (.slice a2 n2 c2) ss) (hB : ∀ f ∈ fs, FldB f) (hM : ∀ r ∈ ss, SmB r) (hN0 : n ≤ 9223372036854775807)
    (hv : StrsR w (.slice va vn vc) vs) (hsv : Short Go.maxLen vs) (hvb0 : vs.length ≤ Go.maxLen) :
    Calls Tryz.prog 31 #[.agg #[.string NM, .slice a n c, .slice a2 n2 c2], .slice va vn vc] w (StrsX (Fm.repair ⟨NM.data.toList, fs, ss⟩ vs) w) := by
  obtain ⟨a', c', he⟩ := hf.form
  injection he with e1 e2 e3
  subst e1 e3
  obtain ⟨a', c', he⟩ := hm.form
  injection he with e1 e4 e3
  subst e1 e3
  obtain ⟨a', c', he, _⟩ := hv.form
  injection he with e1 e5 e3
  subst e1 e3
  have HR := Lib.hid (Fm.repair.eq_1 ⟨NM.data.toList, fs, ss⟩ vs)
  dsimp only at HR
  generalize Fm.repair ⟨NM.data.toList, fs, ss⟩ vs = res at *
  rw [← e2, ← e5] at HR
  have HN := Lib.hid e2.symm
  have HN3 := Lib.hid e5.symm
  have hvb : vn ≤ 9223372036854775807 := by rw [← e5] at hvb0; unfold Go.maxLen at hvb0; omega
  have HC := Lib.hid (fun (w' : World) (hx : Ext w w') => xcheck_any NM a n c a2 n2 c2 fs ss w' (hf.ext hx) (hm.ext hx) hB hM hN0)
  have HF := Lib.hid hf
  have HB := Lib.hid hB
  have HV := Lib.hid hv
  have HSV := Lib.hid hsv
  obtain ⟨V0, hV0⟩ : ∃ V, V = w.alloc (.cells #[.string NM, .slice a n c, .slice a2 n2 c2] 25) := ⟨_, rfl⟩
  have hxV : Ext w V0 := by rw [hV0]; exact (Ext.refl w).alloc _
  have HRV : Hid (V0.heap[w.heap.size]? = some (.cells #[.string NM, .slice a n c, .slice a2 n2 c2] 25 (0, 0))) := Lib.hid (by rw [hV0]; exact heap_alloc_new w _)
  have hzV : V0.heap.size = w.heap.size + 1 := by rw [hV0]; simp
  have HCV := Lib.hid (HC.out V0 hxV)
  have HVE := Lib.hid hV0
  have HXV := Lib.hid hxV
  clear hf hm hB hM e2 e4 e5 hv hsv hvb0 hV0 hxV HC
  by_cases hc : Fm.check ⟨NM.data.toList, fs, ss⟩ = 0
  rotate_left
  · rw [if_neg hc] at HR
    generalize Fm.check ⟨NM.data.toList, fs, ss⟩ = z at *
    have z0 : (z == 0) = false := beq_eq_false_iff_ne.2 hc
    have z1 : (z != 0) = true := bne_iff_ne.2 hc
    clear hc
    go_enter Tryz.func31, Tryz.ntmps31
    go_wp2_with fail
    rw [← HVE.out]
    refine HCV.out.mono ?_
    rintro e w1 ⟨rfl, hx1⟩
    have hxw := HXV.out.trans hx1
    go_wp2_with fail
    go_ret2
    exact ⟨_, by rw [HR.out]; rfl, by rw [HR.out]; exact StrsR.nil _, hxw⟩
  rw [if_pos hc] at HR
  have HCK := Lib.hid hc
  rw [hc] at HCV
  clear hc
  by_cases hl : vn = n
  rotate_left
  · rw [if_neg hl] at HR
    have z0 : ((vn : Int) == (n : Int)) = false := by rw [beq_eq_false_iff_ne]; omega
    have z1 : ((vn : Int) != (n : Int)) = true := by rw [bne_iff_ne]; omega
    clear hl
    go_enter Tryz.func31, Tryz.ntmps31
    go_wp2_with fail
    rw [← HVE.out]
    refine HCV.out.mono ?_
    rintro e w1 ⟨rfl, hx1⟩
    have hxw := HXV.out.trans hx1
    have r1 := row_on HRV.out hx1
    have k1 : w1.cell? ⟨w.heap.size, 1, none⟩ = some (.slice a n c) := cell_at r1 rfl
    clear r1
    go_wp2_with fail
    go_ret2
    exact ⟨_, by rw [HR.out]; rfl, by rw [HR.out]; exact StrsR.nil _, hxw⟩
  subst hl
  rw [if_pos rfl] at HR
  have z0 : ((vn : Int) == (vn : Int)) = true := beq_self_eq_true _
  have z1 : ((vn : Int) != (vn : Int)) = false := by rw [bne_eq_false_iff_eq]
  have hnf : vn ≤ 256 := by have := (Fm.valid_of HCK.out).few.1; rw [show (⟨NM.data.toList, fs, ss⟩ : Fm.Frm).fields = fs from rfl, HN.out] at this; exact this
  have HLEN : Hid (vs.length = fs.length) := Lib.hid (by rw [HN.out, HN3.out])
  obtain ⟨FX, hFX⟩ : ∃ FX, FX = Fm.fixGo fs vs := ⟨_, rfl⟩
  have HFX := Lib.hid hFX
  have hFl : FX.length = vn := by rw [hFX, Fm.fixGo_len HLEN.out, HN.out]
  rw [← hFX] at HR
  have HFL := Lib.hid hFl
  clear hFX hFl
  go_enter Tryz.func31, Tryz.ntmps31
  go_wp2_with fail
  rw [← HVE.out]
  refine HCV.out.mono ?_
  rintro e w1 ⟨rfl, hx1⟩
  have r1 := row_on HRV.out hx1
  have k1 : w1.cell? ⟨w.heap.size, 1, none⟩ = some (.slice a vn c) := cell_at r1 rfl
  have HX1 := Lib.hid hx1
  clear hx1 r1
  go_wp2_with fail
  go_loopw [7, 8] (fun u t wr => ∃ (k : Nat), k ≤ vn ∧ t = .int .i64 (k : Int) ∧ Hid (OwnW wr (w.heap.size + 1) u (FX.take k)) ∧ Hid (Ext V0 wr)) (fun _ t _ => vn - (intOf t).toNat)
  case atStart => exact ⟨0, Nat.zero_le _, rfl, Lib.hid (KOwn.nil _ _ _ _ _), HX1⟩
  case round =>
    clear HX1 k1
    obtain ⟨k, hk, rfl, HU, HX⟩ := hrel
    have hxw : Ext w wr := HXV.out.trans HX.out
    have r1 := row_on HRV.out HX.out
    by_cases hlt : k < vn
    · obtain ⟨f, hfk⟩ : ∃ f, fs[k]? = some f := ⟨_, List.getElem?_eq_getElem (by rw [HN.out]; exact hlt)⟩
      obtain ⟨y, hyk⟩ : ∃ y, vs[k]? = some y := ⟨_, List.getElem?_eq_getElem (by rw [HN3.out]; exact hlt)⟩
      have HFS : Hid (FX.take (k + 1) = FX.take k ++ [Fm.fix f y]) := Lib.hid (by rw [HFX.out]; exact Fm.fix_snoc HLEN.out hfk hyk)
      have HTL : Hid ((FX.take k).length ≤ 256) := Lib.hid (by rw [List.length_take]; omega)
      obtain ⟨b1, b2, b3⟩ := HB.out _ (List.mem_of_getElem? hfk)
      have hYs := HSV.out _ (List.mem_of_getElem? hyk)
      obtain ⟨b, o, X, op, mn, mx, ck, la, ln, lc, l, opt, ha, hb, rfl, hl, c0, c1, c2', c3, c4, c5, c6⟩ := HF.out.here hxw hfk
      subst ha
      obtain ⟨vb, vo, Y, hva, hvb', rfl, d0⟩ := HV.out.here hxw hyk
      subst hva
      dsimp only at b1 b2 b3
      obtain ⟨FF, hFF⟩ : ∃ FF : Fm.Fld, FF = ⟨X.data.toList, op, mn, mx, ck, l, opt⟩ := ⟨_, rfl⟩
      have hfx1 := Fm.fix_cnt FF Y.data.toList
      have hfx2 := Fm.fix_not FF Y.data.toList
      have hYs9 : Y.size ≤ 9223372036854775807 := by rw [len_data] at hYs; unfold Go.maxLen at hYs; omega
      obtain ⟨V, hV⟩ : ∃ V, V = wr.alloc (.cells #[.string X, .int .i64 op, .int .i64 mn, .int .i64 mx, .int .i64 ck, .slice la ln lc, .bool opt] 39) := ⟨_, rfl⟩
      have hxV : Ext wr V := by rw [hV]; exact (Ext.refl _).alloc _
      have hr0 : V.heap[wr.heap.size]? = some (.cells #[.string X, .int .i64 op, .int .i64 mn, .int .i64 mx, .int .i64 ck, .slice la ln lc, .bool opt] 39 (0, 0)) := by rw [hV]; exact heap_alloc_new _ _
      have HVW := Lib.hid (hxw.trans hxV)
      have HVAL : Hid (∀ (Z : ByteArray), Z.size ≤ 9223372036854775807 → ∀ w', Ext V w' → Calls Tryz.prog 23 #[.agg #[.string X, .int .i64 op, .int .i64 mn, .int .i64 mx, .int .i64 ck, .slice la ln lc, .bool opt], .string Z] w' fun e w'' => e = .returned (.int .i64 (Fm.value FF Z.data.toList)) ∧ Ext w' w'') := Lib.hid (fun Z hZ w' hx => by rw [hFF]; exact xvalue_any X op mn mx ck la ln lc opt l Z hZ w' (hl.ext (HVW.out.trans hx)) b2 b3)
      have HCOR := Lib.hid (fun w' => rcorr_any ck Y w' hYs9)
      have HCS : Hid (∀ x ∈ (Cd.cor ck Y.data.toList).1, x.length ≤ 9223372036854775807) := Lib.hid fun x hx => by rw [cor_size _ _ _ hx, len_data]; exact hYs9
      have HCL := Lib.hid (cor_few ck Y.data.toList)
      have d1 : V.cell? ⟨vb, vo + k, none⟩ = some (.string Y) := (hxV.cell (p := ⟨vb, vo + k, none⟩) (Nat.lt_of_lt_of_le hvb' hxw.size)).trans d0
      have HDW : Hid (∀ w', Ext V w' → w'.cell? ⟨vb, vo + k, none⟩ = some (.string Y)) := Lib.hid fun w' hx => (hx.cell (p := ⟨vb, vo + k, none⟩) (Nat.lt_of_lt_of_le hvb' HVW.out.size)).trans d1
      have HK7 : Hid (∀ w', Ext V w' → _) := Lib.hid fun w' hx => kept7' hr0 hx
      obtain ⟨p0, p1, p2, p3, p4, p5, p6⟩ := HK7.out V (Ext.refl V)
      have k1 : wr.cell? ⟨w.heap.size, 1, none⟩ = some (.slice (some ⟨b, o, none⟩) vn c) := cell_at r1 rfl
      have hkI : (k : Int) < (vn : Int) := by omega
      have hvbw : vb < wr.heap.size := Nat.lt_of_lt_of_le hvb' hxw.size
      rw [← hFF] at HFS
      have HOPE : Hid (FF.op = op ∧ FF.ck = ck) := Lib.hid (by rw [hFF]; exact ⟨rfl, rfl⟩)
      have HFX1 := Lib.hid hfx1
      have HFX2 := Lib.hid hfx2
      have HXV3 := Lib.hid (HX.out.trans hxV)
      have HUV := Lib.hid (HU.out.ext hxV)
      have HVL := Lib.hid (HVAL.out Y hYs9 V (Ext.refl V))
      have HVE2 := Lib.hid hV
      have hzVs : w.heap.size + 1 ≤ V.heap.size := by have := HXV3.out.size; omega
      generalize hz : Fm.value FF Y.data.toList = z at *
      have HZ := Lib.hid hz
      clear hFF hfx1 hfx2 hV hxV hr0 hl b1 b2 b3 hYs hfk hyk r1 hz HU HX
      go_wp2_with fail
      rw [← HVE2.out]
      refine HVL.out.mono ?_
      rintro e w2 ⟨rfl, hx2⟩
      obtain ⟨m0, m1, m2, m3, m4, m5, m6⟩ := HK7.out w2 hx2
      have HX2 := Lib.hid hx2
      clear p0 p1 p2 p3 p4 p5 p6 c0 c1 c2' c3 c4 c5 c6 d0 d1 k1 hx2
      have hnot : ¬ (op = 1 ∧ ck ≠ 0 ∧ (z = 6 ∨ z = 8)) → FX.take (k + 1) = FX.take k ++ [Y.data.toList] := fun h => by rw [HFS.out, HFX2.out (by rw [HOPE.out.1, HOPE.out.2]; exact h)]
      have HNOT := Lib.hid hnot
      clear hnot
      by_cases ho : op = 1
      rotate_left
      · have zo : (op == 1) = false := beq_eq_false_iff_ne.2 ho
        have HFIN := Lib.hid (HNOT.out (fun h => ho h.1))
        clear ho
        have hown := HUV.out.ext HX2.out
        have hsA : w.heap.size + 1 ≤ w2.heap.size := by have := (HXV3.out.trans HX2.out).size; omega
        clear m0 m2 m3 m4 m5 m6
        go_wp2_with (at_builtin; refine append_w rfl _ _ rfl (w.heap.size + 1) _ _ rfl (hown.ext ((Ext.refl _).alloc _)) _ Y rfl ?h11 ?h12 ?h13 ?_)
        case h11 => simp [go_sem]
        case h12 => have := HTL.out; omega
        case h13 => first | (simp; omega) | omega
        intro v' w6 hown6 hg6
        have hlow := hown.low
        have HX6 := Lib.hid (((HXV3.out.trans HX2.out).alloc _).ofGrown hg6 (fun j hj => by have := hlow j hj; omega))
        have HU6 : Hid (OwnW w6 (w.heap.size + 1) v' (FX.take (k + 1))) := Lib.hid (by rw [HFIN.out]; exact hown6)
        clear hown hown6 hg6 hlow
        go_wp2_with fail
        go_roundw
        case rel => exact ⟨k + 1, by omega, by go_num, HU6, HX6⟩
        case measure => (simp [intOf]; try omega)
      have zo : (op == 1) = true := beq_iff_eq.2 ho
      by_cases hk0 : ck = 0
      · have zk : (ck != 0) = false := by rw [bne_eq_false_iff_eq]; exact hk0
        have HFIN := Lib.hid (HNOT.out (fun h => h.2.1 hk0))
        clear ho hk0
        have hown := HUV.out.ext HX2.out
        have hsA : w.heap.size + 1 ≤ w2.heap.size := by have := (HXV3.out.trans HX2.out).size; omega
        clear m0 m2 m3 m5 m6
        go_wp2_with (at_builtin; refine append_w rfl _ _ rfl (w.heap.size + 1) _ _ rfl (hown.ext ((Ext.refl _).alloc _)) _ Y rfl ?h21 ?h22 ?h23 ?_)
        case h21 => simp [go_sem]
        case h22 => have := HTL.out; omega
        case h23 => first | (simp; omega) | omega
        intro v' w6 hown6 hg6
        have hlow := hown.low
        have HX6 := Lib.hid (((HXV3.out.trans HX2.out).alloc _).ofGrown hg6 (fun j hj => by have := hlow j hj; omega))
        have HU6 : Hid (OwnW w6 (w.heap.size + 1) v' (FX.take (k + 1))) := Lib.hid (by rw [HFIN.out]; exact hown6)
        clear hown hown6 hg6 hlow
        go_wp2_with fail
        go_roundw
        case rel => exact ⟨k + 1, by omega, by go_num, HU6, HX6⟩
        case measure => (simp [intOf]; try omega)
      have zk : (ck != 0) = true := bne_iff_ne.2 hk0
      by_cases hzc : z = 6 ∨ z = 8
      rotate_left
      · have z6 : (z == 6) = false := beq_eq_false_iff_ne.2 (fun h => hzc (.inl h))
        have z8 : (z == 8) = false := beq_eq_false_iff_ne.2 (fun h => hzc (.inr h))
        have HFIN := Lib.hid (HNOT.out (fun h => hzc h.2.2))
        clear ho hk0 hzc
        have hown := HUV.out.ext HX2.out
        have hsA : w.heap.size + 1 ≤ w2.heap.size := by have := (HXV3.out.trans HX2.out).size; omega
        clear m0 m2 m3 m5 m6
        go_wp2_with (at_builtin; refine append_w rfl _ _ rfl (w.heap.size + 1) _ _ rfl (hown.ext ((Ext.refl _).alloc _)) _ Y rfl ?h31 ?h32 ?h33 ?_)
        case h31 => simp [go_sem]
        case h32 => have := HTL.out; omega
        case h33 => first | (simp; omega) | omega
        intro v' w6 hown6 hg6
        have hlow := hown.low
        have HX6 := Lib.hid (((HXV3.out.trans HX2.out).alloc _).ofGrown hg6 (fun j hj => by have := hlow j hj; omega))
        have HU6 : Hid (OwnW w6 (w.heap.size + 1) v' (FX.take (k + 1))) := Lib.hid (by rw [HFIN.out]; exact hown6)
        clear hown hown6 hg6 hlow
        go_wp2_with fail
        go_roundw
        case rel => exact ⟨k + 1, by omega, by go_num, HU6, HX6⟩
        case measure => (simp [intOf]; try omega)
      have HFC := Lib.hid (HFX1.out (by rw [HOPE.out.1, HOPE.out.2]; exact ⟨ho, hk0, hzc⟩))
      obtain ⟨b6, hb6⟩ : ∃ b6, (z == 6) = b6 := ⟨_, rfl⟩
      obtain ⟨b8, hb8⟩ : ∃ b8, (z == 8) = b8 := ⟨_, rfl⟩
      have hb68 : b6 = true ∨ b6 = false ∧ b8 = true := by
        rcases hzc with h | h
        · left; rw [← hb6, h]; rfl
        · right; rw [← hb6, ← hb8, h]; exact ⟨rfl, rfl⟩
      obtain ⟨L, hL⟩ : ∃ L, L = (Cd.cor ck Y.data.toList).1 := ⟨_, rfl⟩
      rw [HOPE.out.2] at HFC
      rw [← hL] at HFC HCL HCS HCOR
      obtain ⟨m, hm⟩ : ∃ m, m = L.length := ⟨_, rfl⟩
      have HML := Lib.hid hm
      have hmb : m ≤ 2816 := by rw [hm]; exact HCL.out
      have HCW := Lib.hid (HCOR.out w2)
      clear ho hk0 hzc hL hm HNOT HFX1 HFX2 HCOR HCL HVL
      rcases hb68 with rfl | ⟨rfl, rfl⟩
      · obtain ⟨WO, hWO⟩ : ∃ WO, WO = wr := ⟨_, rfl⟩
        subst hWO
        clear hb8
        go_wp2_with fail
        refine HCW.out.mono ?_
        intro e w3 he3
        obtain ⟨lv, rfl, hos, hx3⟩ := he3
        have hst := own_strs hos
        obtain ⟨ga, gc, rfl, -⟩ := hst.form
        rw [← HML.out] at hst ⊢
        have HST := Lib.hid hst
        have HX3 := Lib.hid (HX2.out.trans hx3)
        clear m0 m1 m2 m3 m4 m5 m6 hos hst hx3 HCW HX2
        go_wp2_with fail
        go_loopw [10, 14, 15] (fun v t i wq => ∃ (j N : Nat) (U : ByteArray), j ≤ m ∧ i = .int .i64 (j : Int) ∧ t = .int .i64 (N : Int) ∧ v = .string U ∧ N ≤ j ∧ Hid ((N, U.data.toList) = Fm.cntR FF Y.data.toList (L.take j)) ∧ Hid (Ext w3 wq)) (fun _ _ i _ => m - (intOf i).toNat)
        case atStart => exact ⟨0, 0, Y, Nat.zero_le _, rfl, rfl, rfl, Nat.le_refl _, Lib.hid rfl, Lib.hid (Ext.refl _)⟩
        case round =>
          obtain ⟨j, N, U, hj, rfl, rfl, rfl, hNj, HCN, HY⟩ := hrel
          have HYV := Lib.hid (HX3.out.trans HY.out)
          obtain ⟨m0, m1, m2, m3, m4, m5, m6⟩ := HK7.out _ HYV.out
          have hbV : WO.heap.size < wr.heap.size := World.block_lt_of_cell? _ _ m0
          by_cases hjl : j < m
          · obtain ⟨x, hxk⟩ : ∃ x, L[j]? = some x := ⟨_, List.getElem?_eq_getElem (by rw [← HML.out]; exact hjl)⟩
            have hxs := HCS.out _ (List.mem_of_getElem? hxk)
            obtain ⟨bb, off, Z, ha, hbb, rfl, d0⟩ := HST.out.here HY.out hxk
            subst ha
            rw [len_data] at hxs
            have HVZ := Lib.hid (fun x : Ahead wr => HVAL.out Z hxs x.at' (HYV.out.trans x.ext))
            have HCS2 : Hid (Fm.cntR FF Y.data.toList (L.take (j + 1)) = if Fm.value FF Z.data.toList = 0 then (N + 1, Z.data.toList) else (N, U.data.toList)) := Lib.hid (by rw [snoc_take hxk, Fm.cntR_snoc, ← HCN.out])
            generalize Fm.value FF Z.data.toList = u at *
            have g0 := ahead_cell m0 hbV
            have g1 := ahead_cell m1 hbV
            have g2 := ahead_cell m2 hbV
            have g3 := ahead_cell m3 hbV
            have g4 := ahead_cell m4 hbV
            have g5 := ahead_cell m5 hbV
            have g6 := ahead_cell m6 hbV
            have hb3 : bb < wr.heap.size := Nat.lt_of_lt_of_le hbb HY.out.size
            have gd := ahead_cell d0 hb3
            have hjI : (j : Int) < (m : Int) := by omega
            clear hxk hxs HCN
            by_cases hu : u = 0
            · have zu : (u == 0) = true := beq_iff_eq.2 hu
              rw [if_pos hu] at HCS2
              clear hu
              go_upto_region 19 with fail
              refine wp_region_quiet (C := fun w' => ∃ x : Ahead wr, w' = x.at') (by kernel_rfl) (by kernel_rfl) (Ahead.drawn _) ?_
              try dsimp only
              repeat (first | go_big_quiet_step (exact ahead_of (HVZ.out _)) | quiet_step (exact ahead_of (HVZ.out _)))
              refine wpQuiet_nil ?_
              intro _ hx0
              obtain ⟨x0, hx0⟩ := hx0
              subst hx0
              obtain ⟨w5, hx5⟩ := x0
              try dsimp only
              have d5 := gd ⟨w5, hx5⟩
              dsimp only at d5
              have HY5 := Lib.hid (HY.out.trans hx5)
              have HCS3 := Lib.hid HCS2.out.symm
              clear g0 g1 g2 g3 g4 g5 g6 gd m0 m1 m2 m3 m4 m5 m6 d0 hx5 HVZ
              go_wp2_with fail
              go_roundw
              case rel => exact ⟨j + 1, N + 1, Z, by omega, by go_num, by go_num, rfl, by omega, HCS3, HY5⟩
              case measure => (simp [intOf]; try omega)
            · have zu : (u == 0) = false := beq_eq_false_iff_ne.2 hu
              rw [if_neg hu] at HCS2
              clear hu
              go_upto_region 19 with fail
              refine wp_region_quiet (C := fun w' => ∃ x : Ahead wr, w' = x.at') (by kernel_rfl) (by kernel_rfl) (Ahead.drawn _) ?_
              try dsimp only
              repeat (first | go_big_quiet_step (exact ahead_of (HVZ.out _)) | quiet_step (exact ahead_of (HVZ.out _)))
              refine wpQuiet_nil ?_
              intro _ hx0
              obtain ⟨x0, hx0⟩ := hx0
              subst hx0
              obtain ⟨w5, hx5⟩ := x0
              try dsimp only
              have HY5 := Lib.hid (HY.out.trans hx5)
              have HCS3 := Lib.hid HCS2.out.symm
              clear g0 g1 g2 g3 g4 g5 g6 gd m0 m1 m2 m3 m4 m5 m6 d0 hx5 HVZ
              go_wp2_with fail
              go_roundw
              case rel => exact ⟨j + 1, N, U, by omega, by go_num, rfl, rfl, by omega, HCS3, HY5⟩
              case measure => (simp [intOf]; try omega)
          · obtain rfl : j = m := by omega
            have hcn := HCN.out
            rw [List.take_of_length_le (by rw [← HML.out]; exact Nat.le_refl _)] at hcn
            rw [← hcn] at HFC
            dsimp only at HFC
            rw [HFC.out] at HFS
            by_cases hN1 : N = 1
            · have zN : ((N : Int) != 1) = false := by rw [bne_eq_false_iff_eq]; omega
              rw [if_pos hN1] at HFS
              clear hN1 hcn HCN hjl hj
              have hown := HUV.out.ext HYV.out
              have hsA : w.heap.size + 1 ≤ wr.heap.size := by have := (HXV3.out.trans HYV.out).size; omega
              clear m0 m1 m2 m3 m4 m5 m6 hbV
              go_wp2_with (at_builtin; refine append_w rfl _ _ rfl (w.heap.size + 1) _ _ rfl (hown.ext ((Ext.refl _).alloc _)) _ U rfl ?h41 ?h42 ?h43 ?_)
              case h41 => simp [go_sem]
              case h42 => have := HTL.out; omega
              case h43 => first | (simp; omega) | omega
              intro v' w6 hown6 hg6
              have hlow := hown.low
              have HX6 := Lib.hid (((HXV3.out.trans HYV.out).alloc _).ofGrown hg6 (fun j hj => by have := hlow j hj; omega))
              have HU6 : Hid (OwnW w6 (w.heap.size + 1) v' (FX.take (k + 1))) := Lib.hid (by rw [HFS.out]; exact hown6)
              clear hown hown6 hg6 hlow
              go_wp2_with fail
              go_roundw
              case rel => exact ⟨k + 1, by omega, by go_num, HU6, HX6⟩
              case measure => (simp [intOf]; try omega)
            · have zN : ((N : Int) != 1) = true := by rw [bne_iff_ne]; omega
              rw [if_neg hN1] at HFS
              have d5 := HDW.out _ HYV.out
              clear hN1 hcn HCN hjl hj
              have hown := HUV.out.ext HYV.out
              have hsA : w.heap.size + 1 ≤ wr.heap.size := by have := (HXV3.out.trans HYV.out).size; omega
              clear m0 m1 m2 m3 m4 m5 m6 hbV
              go_wp2_with (at_builtin; refine append_w rfl _ _ rfl (w.heap.size + 1) _ _ rfl (hown.ext ((Ext.refl _).alloc _)) _ Y rfl ?h51 ?h52 ?h53 ?_)
              case h51 => simp [go_sem]
              case h52 => have := HTL.out; omega
              case h53 => first | (simp; omega) | omega
              intro v' w6 hown6 hg6
              have hlow := hown.low
              have HX6 := Lib.hid (((HXV3.out.trans HYV.out).alloc _).ofGrown hg6 (fun j hj => by have := hlow j hj; omega))
              have HU6 : Hid (OwnW w6 (w.heap.size + 1) v' (FX.take (k + 1))) := Lib.hid (by rw [HFS.out]; exact hown6)
              clear hown hown6 hg6 hlow
              go_wp2_with fail
              go_roundw
              case rel => exact ⟨k + 1, by omega, by go_num, HU6, HX6⟩
              case measure => (simp [intOf]; try omega)
      · obtain ⟨WO, hWO⟩ : ∃ WO, WO = wr := ⟨_, rfl⟩
        subst hWO
        go_wp2_with fail
        refine HCW.out.mono ?_
        intro e w3 he3
        obtain ⟨lv, rfl, hos, hx3⟩ := he3
        have hst := own_strs hos
        obtain ⟨ga, gc, rfl, -⟩ := hst.form
        rw [← HML.out] at hst ⊢
        have HST := Lib.hid hst
        have HX3 := Lib.hid (HX2.out.trans hx3)
        clear m0 m1 m2 m3 m4 m5 m6 hos hst hx3 HCW HX2
        go_wp2_with fail
        go_loopw [10, 14, 15] (fun v t i wq => ∃ (j N : Nat) (U : ByteArray), j ≤ m ∧ i = .int .i64 (j : Int) ∧ t = .int .i64 (N : Int) ∧ v = .string U ∧ N ≤ j ∧ Hid ((N, U.data.toList) = Fm.cntR FF Y.data.toList (L.take j)) ∧ Hid (Ext w3 wq)) (fun _ _ i _ => m - (intOf i).toNat)
        case atStart => exact ⟨0, 0, Y, Nat.zero_le _, rfl, rfl, rfl, Nat.le_refl _, Lib.hid rfl, Lib.hid (Ext.refl _)⟩
        case round =>
          obtain ⟨j, N, U, hj, rfl, rfl, rfl, hNj, HCN, HY⟩ := hrel
          have HYV := Lib.hid (HX3.out.trans HY.out)
          obtain ⟨m0, m1, m2, m3, m4, m5, m6⟩ := HK7.out _ HYV.out
          have hbV : WO.heap.size < wr.heap.size := World.block_lt_of_cell? _ _ m0
          by_cases hjl : j < m
          · obtain ⟨x, hxk⟩ : ∃ x, L[j]? = some x := ⟨_, List.getElem?_eq_getElem (by rw [← HML.out]; exact hjl)⟩
            have hxs := HCS.out _ (List.mem_of_getElem? hxk)
            obtain ⟨bb, off, Z, ha, hbb, rfl, d0⟩ := HST.out.here HY.out hxk
            subst ha
            rw [len_data] at hxs
            have HVZ := Lib.hid (fun x : Ahead wr => HVAL.out Z hxs x.at' (HYV.out.trans x.ext))
            have HCS2 : Hid (Fm.cntR FF Y.data.toList (L.take (j + 1)) = if Fm.value FF Z.data.toList = 0 then (N + 1, Z.data.toList) else (N, U.data.toList)) := Lib.hid (by rw [snoc_take hxk, Fm.cntR_snoc, ← HCN.out])
            generalize Fm.value FF Z.data.toList = u at *
            have g0 := ahead_cell m0 hbV
            have g1 := ahead_cell m1 hbV
            have g2 := ahead_cell m2 hbV
            have g3 := ahead_cell m3 hbV
            have g4 := ahead_cell m4 hbV
            have g5 := ahead_cell m5 hbV
            have g6 := ahead_cell m6 hbV
            have hb3 : bb < wr.heap.size := Nat.lt_of_lt_of_le hbb HY.out.size
            have gd := ahead_cell d0 hb3
            have hjI : (j : Int) < (m : Int) := by omega
            clear hxk hxs HCN
            by_cases hu : u = 0
            · have zu : (u == 0) = true := beq_iff_eq.2 hu
              rw [if_pos hu] at HCS2
              clear hu
              go_upto_region 19 with fail
              refine wp_region_quiet (C := fun w' => ∃ x : Ahead wr, w' = x.at') (by kernel_rfl) (by kernel_rfl) (Ahead.drawn _) ?_
              try dsimp only
              repeat (first | go_big_quiet_step (exact ahead_of (HVZ.out _)) | quiet_step (exact ahead_of (HVZ.out _)))
              refine wpQuiet_nil ?_
              intro _ hx0
              obtain ⟨x0, hx0⟩ := hx0
              subst hx0
              obtain ⟨w5, hx5⟩ := x0
              try dsimp only
              have d5 := gd ⟨w5, hx5⟩
              dsimp only at d5
              have HY5 := Lib.hid (HY.out.trans hx5)
              have HCS3 := Lib.hid HCS2.out.symm
              clear g0 g1 g2 g3 g4 g5 g6 gd m0 m1 m2 m3 m4 m5 m6 d0 hx5 HVZ
              go_wp2_with fail
              go_roundw
              case rel => exact ⟨j + 1, N + 1, Z, by omega, by go_num, by go_num, rfl, by omega, HCS3, HY5⟩
              case measure => (simp [intOf]; try omega)
            · have zu : (u == 0) = false := beq_eq_false_iff_ne.2 hu
              rw [if_neg hu] at HCS2
              clear hu
              go_upto_region 19 with fail
              refine wp_region_quiet (C := fun w' => ∃ x : Ahead wr, w' = x.at') (by kernel_rfl) (by kernel_rfl) (Ahead.drawn _) ?_
              try dsimp only
              repeat (first | go_big_quiet_step (exact ahead_of (HVZ.out _)) | quiet_step (exact ahead_of (HVZ.out _)))
              refine wpQuiet_nil ?_
              intro _ hx0
              obtain ⟨x0, hx0⟩ := hx0
              subst hx0
              obtain ⟨w5, hx5⟩ := x0
              try dsimp only
              have HY5 := Lib.hid (HY.out.trans hx5)
              have HCS3 := Lib.hid HCS2.out.symm
              clear g0 g1 g2 g3 g4 g5 g6 gd m0 m1 m2 m3 m4 m5 m6 d0 hx5 HVZ
              go_wp2_with fail
              go_roundw
              case rel => exact ⟨j + 1, N, U, by omega, by go_num, rfl, rfl, by omega, HCS3, HY5⟩
              case measure => (simp [intOf]; try omega)
          · obtain rfl : j = m := by omega
            have hcn := HCN.out
            rw [List.take_of_length_le (by rw [← HML.out]; exact Nat.le_refl _)] at hcn
            rw [← hcn] at HFC
            dsimp only at HFC
            rw [HFC.out] at HFS
            by_cases hN1 : N = 1
            · have zN : ((N : Int) != 1) = false := by rw [bne_eq_false_iff_eq]; omega
              rw [if_pos hN1] at HFS
              clear hN1 hcn HCN hjl hj
              have hown := HUV.out.ext HYV.out
              have hsA : w.heap.size + 1 ≤ wr.heap.size := by have := (HXV3.out.trans HYV.out).size; omega
              clear m0 m1 m2 m3 m4 m5 m6 hbV
              go_wp2_with (at_builtin; refine append_w rfl _ _ rfl (w.heap.size + 1) _ _ rfl (hown.ext ((Ext.refl _).alloc _)) _ U rfl ?h61 ?h62 ?h63 ?_)
              case h61 => simp [go_sem]
              case h62 => have := HTL.out; omega
              case h63 => first | (simp; omega) | omega
              intro v' w6 hown6 hg6
              have hlow := hown.low
              have HX6 := Lib.hid (((HXV3.out.trans HYV.out).alloc _).ofGrown hg6 (fun j hj => by have := hlow j hj; omega))
              have HU6 : Hid (OwnW w6 (w.heap.size + 1) v' (FX.take (k + 1))) := Lib.hid (by rw [HFS.out]; exact hown6)
              clear hown hown6 hg6 hlow
              go_wp2_with fail
              go_roundw
              case rel => exact ⟨k + 1, by omega, by go_num, HU6, HX6⟩
              case measure => (simp [intOf]; try omega)
            · have zN : ((N : Int) != 1) = true := by rw [bne_iff_ne]; omega
              rw [if_neg hN1] at HFS
              have d5 := HDW.out _ HYV.out
              clear hN1 hcn HCN hjl hj
              have hown := HUV.out.ext HYV.out
              have hsA : w.heap.size + 1 ≤ wr.heap.size := by have := (HXV3.out.trans HYV.out).size; omega
              clear m0 m1 m2 m3 m4 m5 m6 hbV
              go_wp2_with (at_builtin; refine append_w rfl _ _ rfl (w.heap.size + 1) _ _ rfl (hown.ext ((Ext.refl _).alloc _)) _ Y rfl ?h71 ?h72 ?h73 ?_)
              case h71 => simp [go_sem]
              case h72 => have := HTL.out; omega
              case h73 => first | (simp; omega) | omega
              intro v' w6 hown6 hg6
              have hlow := hown.low
              have HX6 := Lib.hid (((HXV3.out.trans HYV.out).alloc _).ofGrown hg6 (fun j hj => by have := hlow j hj; omega))
              have HU6 : Hid (OwnW w6 (w.heap.size + 1) v' (FX.take (k + 1))) := Lib.hid (by rw [HFS.out]; exact hown6)
              clear hown hown6 hg6 hlow
              go_wp2_with fail
              go_roundw
              case rel => exact ⟨k + 1, by omega, by go_num, HU6, HX6⟩
              case measure => (simp [intOf]; try omega)
    · obtain rfl : k = vn := by omega
      have hst := HU.out
      rw [List.take_of_length_le (by rw [HFL.out]; exact Nat.le_refl _)] at hst
      have HST := Lib.hid (KOwn.strs hst)
      clear hst hlt r1
      go_wp2_with fail
      go_ret2
      exact ⟨_, by rw [HR.out]; rfl, by rw [HR.out]; exact HST.out, hxw⟩
end Go.Proofs.YtkpfehfcgpapiaaGreatDoor
