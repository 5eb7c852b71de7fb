/-
  The law FormsIssues, walked.
  Condition: the listed variables are there; the examples hold.
-/
import Derived.Test.YtkpfehfcgpapiaaGreatDoorFmLa
import Derived.Test.YtkpfehfcgpapiaaGreatDoorFmVd
import Derived.Test.YtkpfehfcgpapiaaGreatDoorFmPa
import Derived.Deep.Cut
import Derived.Laws.StructEq
namespace Go.Proofs.YtkpfehfcgpapiaaGreatDoor
set_option linter.unusedVariables false
open Go.RowKit

theorem iss_neq (w : World) (a b : ByteArray) (z y : Int) : (binOp .neq 54 (.agg #[.string a, .int .i64 z]) (.agg #[.string b, .int .i64 y])).run Tryz.prog w = .ok (.bool (!((a.toList == b.toList) && (z == y)))) w := by
  have u9 := Tryz.underlying9
  have a9 := Tryz.isAgg9
  have z9 := Tryz.sizeOf9
  have u8 := Tryz.underlying28
  have a8 := Tryz.isAgg28
  have z8 := Tryz.sizeOf28
  have hS : Tryz.prog.underlying 54 = some (.struct (Tryz.prog.fieldsOf 54)) := by kernel_rfl
  have hp : Tryz.prog.stoodInHeld 54 = false := by kernel_rfl
  rw [run_neq_struct, show (10000 : Nat) = 9999 + 1 from rfl, run_equalIn_agg w 9999 54 _ _ hS hp]
  simp only [Program.fieldsOf, Tryz.underlying54]
  go_simp
  by_cases h1 : a.toList = b.toList <;> by_cases h2 : z = y <;> simp [h1, h2]
theorem iss_cells {w : World} {ia : Option Addr} {ln lc : Nat} {l : List Fm.Iss} (h : KSl 2 encIs w (.slice ia ln lc) l) {q : Nat} {X : ByteArray} {z : Int} (hq : l[q]? = some (X.data.toList, z)) :
    ∃ b o, ia = some ⟨b, o, none⟩ ∧ b < w.heap.size ∧ w.cell? ⟨b, o + q * 2, none⟩ = some (.string X) ∧ w.cell? ⟨b, o + q * 2 + 1, none⟩ = some (.int .i64 z) := by
  obtain ⟨b, o, e, hb, hc⟩ := h.at_ hq
  refine ⟨b, o, e, hb, ?_, hc 1 (by decide)⟩
  have := hc 0 (by decide)
  rw [Nat.add_zero] at this
  rw [this, ← strV_mk]
  rfl
set_option maxRecDepth 100000 in
set_option maxHeartbeats 8000000 in
theorem law_issues (NM : ByteArray) (a : Option Addr) (n c : Nat) (a2 : Option Addr) (n2 c2 : Nat) (fs : List Fm.Fld) (ss : List Fm.Sm) (va : Option Addr) (vn vc : Nat) (vs : List Fm.S) (w : World) (hf : FldsR w (.slice a n c) fs) (hm : SumsR w (.slice a2 n2 c2) ss) (hB : ∀ f ∈ fs, FldB f) (hM : ∀ r ∈ ss, SmB r)
    (hv : StrsR w (.slice va vn vc) vs) (hsv : Short Go.maxLen vs) (hvb0 : vs.length ≤ Go.maxLen) (hE : Errs w) (hP : Pow w) (hX : ExH) :
    Calls Tryz.prog 10 #[.agg #[.string NM, .slice a n c, .slice a2 n2 c2], .slice va vn vc] w fun e w' => e = .returned (.bool true) ∧ Ext w w' := by
  obtain ⟨a', c', he⟩ := hf.form
  injection he with e1 e2 e3
  subst e1 e3
  obtain ⟨a', c', he⟩ := hm.form
  injection he with e1 e4 e3
  subst e1 e3
  obtain ⟨a', c', he, _⟩ := hv.form
  injection he with e1 e5 e3
  subst e1 e3
  have hvb : vn ≤ 9223372036854775807 := by unfold Go.maxLen at hvb0; omega
  have HN := Lib.hid e2.symm
  have HN2 := Lib.hid e4.symm
  have HN3 := Lib.hid e5.symm
  obtain ⟨V, hV⟩ : ∃ V, V = w.alloc (.cells #[.string NM, .slice a n c, .slice a2 n2 c2] 25) := ⟨_, rfl⟩
  have hxV : Ext w V := by rw [hV]; exact (Ext.refl w).alloc _
  have hzV : V.heap.size = w.heap.size + 1 := by rw [hV]; simp
  have HRV : Hid (V.heap[w.heap.size]? = some (.cells #[.string NM, .slice a n c, .slice a2 n2 c2] 25 (0, 0))) := Lib.hid (by rw [hV]; exact heap_alloc_new w _)
  have HVER := Lib.hid (fverify_any NM a n c a2 n2 c2 fs ss va vn vc vs V (hf.ext hxV) (hm.ext hxV) hB hM (hv.ext hxV) hsv (hE.ext hxV))
  have HFEW := Lib.hid (fun (w' : World) (hx : Ext w w') => few_any NM a n c a2 n2 c2 fs ss w' (hf.ext hx) (hm.ext hx) hB hM)
  have HSH := Lib.hid (fun (w' : World) (hx : Ext w w') => short_any (.slice va vn vc) vs 260 w' (hv.ext hx) hsv hvb0)
  have HF := Lib.hid hf
  have HS := Lib.hid hm
  have HB := Lib.hid hB
  have HSV := Lib.hid hsv
  have HV := Lib.hid hv
  have HE := Lib.hid hE
  have HP := Lib.hid hP
  have HEX := Lib.hid hX
  have HVE := Lib.hid hV
  have HXV := Lib.hid hxV
  clear hf hm hB hM e2 e4 e5 hv hsv hvb0 hE hP hX hV hxV
  go_enter Tryz.func10, Tryz.ntmps10
  go_wp2_with fail
  rw [← HVE.out]
  refine Calls.mono HVER.out ?_
  intro e w1 he1
  obtain ⟨iv, rfl, hk1, hx1⟩ := he1
  obtain ⟨ia, ic, rfl⟩ := hk1.form
  obtain ⟨L, hL⟩ : ∃ L, L = (Fm.verify ⟨NM.data.toList, fs, ss⟩ vs).1 := ⟨_, rfl⟩
  obtain ⟨z, hz⟩ : ∃ z, z = (Fm.verify ⟨NM.data.toList, fs, ss⟩ vs).2 := ⟨_, rfl⟩
  rw [← hL] at hk1 ⊢
  rw [← hz]
  obtain ⟨m, hm⟩ : ∃ m, m = L.length := ⟨_, rfl⟩
  rw [← hm] at hk1 ⊢
  have HLM := Lib.hid hm
  have HLV := Lib.hid hL
  have HZV := Lib.hid hz
  have HK1 := Lib.hid hk1
  have hxw := HXV.out.trans hx1
  have HX1 := Lib.hid hx1
  have r1 := row_on HRV.out hx1
  have k0 : w1.cell? ⟨w.heap.size, 0, none⟩ = some (.string NM) := cell_at r1 rfl
  have k1 : w1.cell? ⟨w.heap.size, 1, none⟩ = some (.slice a n c) := cell_at r1 rfl
  have k2 : w1.cell? ⟨w.heap.size, 2, none⟩ = some (.slice a2 n2 c2) := cell_at r1 rfl
  have HFW := Lib.hid (HFEW.out w1 hxw)
  have HXW1 := Lib.hid hxw
  clear hk1 hm hL hz r1 hxw hx1
  go_wp2_with fail
  refine Calls.mono HFW.out ?_
  rintro e w2 ⟨⟨b, rfl, hb⟩, hx2⟩
  have hxw := HXW1.out.trans hx2
  cases b with
  | false =>
    clear hb k0 k1 k2
    have HEXW := Lib.hid (HEX.out w2 (HE.out.ext hxw) (HP.out.ext hxw))
    go_wp2_with fail
    refine Calls.mono HEXW.out ?_
    rintro e w9 ⟨rfl, hx9⟩
    go_wp2_with fail
    go_ret
    exact ⟨rfl, hxw.trans hx9⟩
  | true =>
  obtain ⟨hn1, hn2⟩ := hb rfl
  have HSW := Lib.hid (HSH.out w2 hxw)
  have HXW2 := Lib.hid hxw
  have HX2 := Lib.hid (HX1.out.trans hx2)
  have HI2 : Hid (Ext w1 w2) := Lib.hid hx2
  clear hb hxw hx2 k0 k1 k2
  go_wp2_with fail
  refine Calls.mono HSW.out ?_
  rintro e w3 ⟨⟨b, rfl, -⟩, hx3⟩
  have hxw := HXW2.out.trans hx3
  cases b with
  | false =>
    have HEXW := Lib.hid (HEX.out w3 (HE.out.ext hxw) (HP.out.ext hxw))
    go_wp2_with fail
    refine Calls.mono HEXW.out ?_
    rintro e w9 ⟨rfl, hx9⟩
    go_wp2_with fail
    go_ret
    exact ⟨rfl, hxw.trans hx9⟩
  | true =>
  by_cases hz0 : z = 0
  rotate_left
  · have zz : (z != 0) = true := bne_iff_ne.2 hz0
    clear hz0
    have HEXW := Lib.hid (HEX.out w3 (HE.out.ext hxw) (HP.out.ext hxw))
    go_wp2_with fail
    refine Calls.mono HEXW.out ?_
    rintro e w9 ⟨rfl, hx9⟩
    go_wp2_with fail
    go_ret
    exact ⟨rfl, hxw.trans hx9⟩
  subst hz0
  have hck : Fm.check ⟨NM.data.toList, fs, ss⟩ = 0 ∧ vs.length = fs.length := by
    have h := HZV.out
    unfold Fm.verify at h
    split at h
    · split at h
      · exact ⟨by assumption, by assumption⟩
      · cases h
    · exact absurd h.symm (by assumption)
  have hvn : vn = n := by have := hck.2; rw [HN3.out, HN.out] at this; exact this
  subst hvn
  have HLL : Hid (L = Fm.issGo fs vs ++ ss.flatMap (Fm.sumIss (Fm.rightGo fs vs))) := Lib.hid (by rw [HLV.out]; unfold Fm.verify; rw [if_pos hck.1, if_pos hck.2])
  have HVL := Lib.hid hck.2
  have hmb : m ≤ 1000 := by have h1 := Fm.verify_len ⟨NM.data.toList, fs, ss⟩ vs; rw [← HLV.out, ← HLM.out] at h1; have h2 := HN.out; have h3 := HN2.out; dsimp only at h1; omega
  have HX3 := Lib.hid (HX2.out.trans hx3)
  have HXI := Lib.hid ((HX2.out.trans hx3))
  have r3 := row_on HRV.out HX3.out
  have k0 : w3.cell? ⟨w.heap.size, 0, none⟩ = some (.string NM) := cell_at r3 rfl
  have k1 : w3.cell? ⟨w.heap.size, 1, none⟩ = some (.slice a vn c) := cell_at r3 rfl
  have k2 : w3.cell? ⟨w.heap.size, 2, none⟩ = some (.slice a2 n2 c2) := cell_at r3 rfl
  have HI3 : Hid (Ext w1 w3) := Lib.hid (HI2.out.trans hx3)
  clear hck r3 hxw hx3
  go_wp2_with fail
  go_loopw [7, 8] (fun q t wr => ∃ k : Nat, k ≤ vn ∧ t = .int .i64 (k : Int) ∧ q = .int .i64 (((Fm.issGo (fs.take k) (vs.take k)).length : Nat) : Int) ∧ Hid (Ext w3 wr)) (fun _ t _ => vn - (intOf t).toNat)
  case atStart => exact ⟨0, Nat.zero_le _, rfl, by cases vs <;> rfl, Lib.hid (Ext.refl _)⟩
  case round =>
    obtain ⟨k, hk, rfl, rfl, HX⟩ := hrel
    obtain ⟨q, hq⟩ : ∃ q, q = (Fm.issGo (fs.take k) (vs.take k)).length := ⟨_, rfl⟩
    have hqb : q ≤ 260 := by have := Fm.issGo_len (fs.take k) (vs.take k); rw [List.length_take] at this; omega
    rw [← hq]
    have HQ := Lib.hid hq
    have HXR := Lib.hid (HX3.out.trans HX.out)
    have hxw : Ext w wr := HXV.out.trans HXR.out
    have HWR := Lib.hid hxw
    clear hq k0 k1 k2 hxw
    by_cases hlt : k < vn
    · obtain ⟨u, huk⟩ : ∃ u, vs[k]? = some u := ⟨_, List.getElem?_eq_getElem (by rw [HN3.out]; exact hlt)⟩
      obtain ⟨f, hfk⟩ : ∃ f, fs[k]? = some f := ⟨_, List.getElem?_eq_getElem (by rw [HN.out]; omega)⟩
      have hIA := Fm.issGo_at HVL.out hfk huk
      have hRS := Fm.issGo_rest HVL.out (k + 1)
      rw [hIA] at hRS
      have hus := HSV.out _ (List.mem_of_getElem? huk)
      have hfb := HB.out _ (List.mem_of_getElem? hfk)
      obtain ⟨vb, vo, Y, hva, hvb', rfl, d0⟩ := HV.out.here HWR.out huk
      subst hva
      obtain ⟨b, o, X, op, mn, mx, ck, la, ln, lc, l, opt, ha, hb, rfl, hl, c0, c1, c2', c3, c4, c5, c6⟩ := HF.out.here HWR.out hfk
      subst ha
      obtain ⟨b1, b2, b3⟩ := hfb
      have hYs : Y.size ≤ 9223372036854775807 := by rw [len_data] at hus; unfold Go.maxLen at hus; omega
      have HVV := Lib.hid (fun x : Ahead wr => fvalue_any X op mn mx ck la ln lc opt l Y hYs x.at' (hl.ext (HWR.out.trans x.ext)) b2 b3 (HE.out.ext (HWR.out.trans x.ext)))
      obtain ⟨z, hz⟩ : ∃ z, z = Fm.value ⟨X.data.toList, op, mn, mx, ck, l, opt⟩ Y.data.toList := ⟨_, rfl⟩
      rw [← hz] at HVV
      have hbw : b < wr.heap.size := Nat.lt_of_lt_of_le hb HWR.out.size
      have hvw : vb < wr.heap.size := Nat.lt_of_lt_of_le hvb' HWR.out.size
      have r1 := row_on HRV.out HXR.out
      have k1 : ∀ x : Ahead wr, x.at'.cell? ⟨w.heap.size, 1, none⟩ = some (.slice (some ⟨b, o, none⟩) vn c) := fun x => cell_at (row_on r1 x.ext) rfl
      have g0 : ∀ x : Ahead wr, x.at'.cell? ⟨b, o + k * 7, none⟩ = some (.string X) := fun x => (x.ext.cell (p := ⟨b, o + k * 7, none⟩) hbw).trans c0
      have g1 : ∀ x : Ahead wr, x.at'.cell? ⟨b, o + k * 7 + 1, none⟩ = some (.int .i64 op) := fun x => (x.ext.cell (p := ⟨b, o + k * 7 + 1, none⟩) hbw).trans c1
      have g2 : ∀ x : Ahead wr, x.at'.cell? ⟨b, o + k * 7 + 2, none⟩ = some (.int .i64 mn) := fun x => (x.ext.cell (p := ⟨b, o + k * 7 + 2, none⟩) hbw).trans c2'
      have g3 : ∀ x : Ahead wr, x.at'.cell? ⟨b, o + k * 7 + 3, none⟩ = some (.int .i64 mx) := fun x => (x.ext.cell (p := ⟨b, o + k * 7 + 3, none⟩) hbw).trans c3
      have g4 : ∀ x : Ahead wr, x.at'.cell? ⟨b, o + k * 7 + 4, none⟩ = some (.int .i64 ck) := fun x => (x.ext.cell (p := ⟨b, o + k * 7 + 4, none⟩) hbw).trans c4
      have g5 : ∀ x : Ahead wr, x.at'.cell? ⟨b, o + k * 7 + 5, none⟩ = some (.slice la ln lc) := fun x => (x.ext.cell (p := ⟨b, o + k * 7 + 5, none⟩) hbw).trans c5
      have g6 : ∀ x : Ahead wr, x.at'.cell? ⟨b, o + k * 7 + 6, none⟩ = some (.bool opt) := fun x => (x.ext.cell (p := ⟨b, o + k * 7 + 6, none⟩) hbw).trans c6
      have gd : ∀ x : Ahead wr, x.at'.cell? ⟨vb, vo + k, none⟩ = some (.string Y) := fun x => (x.ext.cell (p := ⟨vb, vo + k, none⟩) hvw).trans d0
      have hkI : (k : Int) < (vn : Int) := by omega
      have HIA := Lib.hid hIA
      have HRS := Lib.hid hRS
      have HZ := Lib.hid hz
      clear hIA hRS hz huk hfk hl r1 c0 c1 c2' c3 c4 c5 c6 d0 hus hYs
      go_upto_region 8 with fail
      refine wp_region_quiet (C := fun w' => ∃ x : Ahead wr, w' = x.at') (by kernel_rfl) (by kernel_rfl) (Ahead.drawn _) ?_
      try dsimp only
      repeat (first | go_big_quiet_step ((go_at_call 22; exact ahead_of (HVV.out _))) | quiet_step ((go_at_call 22; exact ahead_of (HVV.out _))))
      refine wpQuiet_nil ?_
      intro _ hx0
      obtain ⟨x0, hx0⟩ := hx0
      subst hx0
      obtain ⟨w8, hx8⟩ := x0
      try dsimp only
      have HX8 := Lib.hid (HX.out.trans hx8)
      have hx8w : Ext w w8 := HWR.out.trans hx8
      clear HVV
      by_cases hz0 : z = 0
      · subst hz0
        have HQ1 : Hid (q = (Fm.issGo (fs.take (k + 1)) (vs.take (k + 1))).length) := Lib.hid (by rw [HIA.out]; unfold Fm.fldIss; rw [← HZ.out, if_pos rfl, List.append_nil]; exact HQ.out)
        clear k1 g0 g1 g2 g3 g4 g5 g6 gd hx8
        go_wp2_with fail
        go_roundw
        case rel => exact ⟨k + 1, by omega, by go_num, by rw [HQ1.out], HX8⟩
        case measure => simp [intOf]; omega
      have zz : (z != 0) = true := bne_iff_ne.2 hz0
      have hlq : L[q]? = some (X.data.toList, z) := by
        rw [HLL.out, HRS.out]
        unfold Fm.fldIss
        rw [← HZ.out, if_neg hz0, HQ.out]
        simp
      have hqm : q < m := by rw [HLM.out]; exact (List.getElem?_eq_some_iff.1 hlq).1
      have hqmI : (q : Int) < (m : Int) := by omega
      have hqmI2 : ¬ (m : Int) ≤ (q : Int) := by omega
      obtain ⟨ib, io, hia, hib, i0, i1⟩ := iss_cells HK1.out hlq
      subst hia
      have hI8 : Ext w1 w8 := HI3.out.trans HX8.out
      have j0 : w8.cell? ⟨ib, io + q * 2, none⟩ = some (.string X) := (hI8.cell (p := ⟨ib, io + q * 2, none⟩) hib).trans i0
      have j1 : w8.cell? ⟨ib, io + q * 2 + 1, none⟩ = some (.int .i64 z) := (hI8.cell (p := ⟨ib, io + q * 2 + 1, none⟩) hib).trans i1
      have m1 := k1 ⟨w8, hx8⟩
      have m2 := g0 ⟨w8, hx8⟩
      dsimp only at m1 m2
      have hneq := fun w' => iss_neq w' X X z z
      simp only [beq_self_eq_true, Bool.and_self, Bool.not_true] at hneq
      have HQ1 : Hid (q + 1 = (Fm.issGo (fs.take (k + 1)) (vs.take (k + 1))).length) := Lib.hid (by rw [HIA.out]; unfold Fm.fldIss; rw [← HZ.out, if_neg hz0, List.length_append, ← HQ.out]; rfl)
      clear k1 g0 g1 g2 g3 g4 g5 g6 gd i0 i1 hlq hz0 hI8 hx8
      go_upto_region 10 with fail
      go_quiet (fail)
      go_wp2_with fail
      go_roundw
      case rel => exact ⟨k + 1, by omega, by go_num, by rw [← HQ1.out]; go_num, Lib.hid (HX8.out.drewN _)⟩
      case measure => (simp [intOf]; try omega)
    · obtain rfl : k = vn := by omega
      have HXL := Lib.hid (HI3.out.trans HX.out)
      have HREST : Hid (∀ i y, q ≤ i → L[i]? = some y → y.2 = 8 ∧ ∃ r ∈ ss, r.total = y.1) := Lib.hid (fun i y h1 h2 => by
        have hq2 := HQ.out
        rw [List.take_of_length_le (by rw [HN.out]; exact Nat.le_refl _), List.take_of_length_le (by rw [HN3.out]; exact Nat.le_refl _)] at hq2
        rw [HLL.out, List.getElem?_append_right (by omega)] at h2
        exact Fm.sums_mem (F := ⟨NM.data.toList, fs, ss⟩) (List.mem_of_getElem? h2))
      have hqm : q ≤ m := by
        have hq2 := HQ.out
        rw [List.take_of_length_le (by rw [HN.out]; exact Nat.le_refl _), List.take_of_length_le (by rw [HN3.out]; exact Nat.le_refl _)] at hq2
        rw [HLM.out, HLL.out, List.length_append]
        omega
      obtain ⟨W0, hW0⟩ : ∃ W0, W0 = wr := ⟨_, rfl⟩
      subst hW0
      clear HQ hlt hk
      go_wp2_with fail
      go_loopw [7] (fun t wq => ∃ p : Nat, q ≤ p ∧ p ≤ m ∧ t = .int .i64 (p : Int) ∧ Hid (Ext W0 wq)) (fun t _ => m - (intOf t).toNat)
      case atStart => exact ⟨q, Nat.le_refl _, hqm, rfl, Lib.hid (Ext.refl _)⟩
      case round =>
        clear hqm
        obtain ⟨p, hqp, hpm, rfl, HY⟩ := hrel
        have HYR := Lib.hid (HXR.out.trans HY.out)
        have HYW := Lib.hid (HWR.out.trans HY.out)
        have HYL := Lib.hid (HXL.out.trans HY.out)
        by_cases hlt : p < m
        · obtain ⟨y, hyp⟩ : ∃ y, L[p]? = some y := ⟨_, List.getElem?_eq_getElem (by rw [← HLM.out]; exact hlt)⟩
          obtain ⟨h8, hr⟩ := HREST.out p y hqp hyp
          obtain ⟨ys, yz⟩ := y
          dsimp only at h8 hr
          subst h8
          obtain ⟨Z, rfl⟩ : ∃ Z : ByteArray, ys = Z.data.toList := ⟨⟨ys.toArray⟩, rfl⟩
          obtain ⟨ib, io, hia, hib, i0, i1⟩ := iss_cells HK1.out hyp
          subst hia
          have HR := Lib.hid hr
          have HI0 := Lib.hid i0
          have HI1 := Lib.hid i1
          obtain ⟨W1, hW1⟩ : ∃ W1, W1 = wr := ⟨_, rfl⟩
          subst hW1
          clear hyp hr i0 i1
          go_wp2_with fail
          go_loopw [10, 11] (fun v t wq => ∃ j : Nat, j ≤ n2 ∧ t = .int .i64 (j : Int) ∧ v = .bool ((ss.take j).any fun r => r.total == Z.data.toList) ∧ Hid (Ext W1 wq)) (fun _ t _ => n2 - (intOf t).toNat)
          case atStart => exact ⟨0, Nat.zero_le _, rfl, rfl, Lib.hid (Ext.refl _)⟩
          case round =>
            obtain ⟨j, hj, rfl, rfl, HU⟩ := hrel
            have r1 := row_on HRV.out (HYR.out.trans HU.out)
            have k2 : wr.cell? ⟨w.heap.size, 2, none⟩ = some (.slice a2 n2 c2) := cell_at r1 rfl
            have j0 : wr.cell? ⟨ib, io + p * 2, none⟩ = some (.string Z) := ((HYL.out.trans HU.out).cell (p := ⟨ib, io + p * 2, none⟩) hib).trans HI0.out
            have j1 : wr.cell? ⟨ib, io + p * 2 + 1, none⟩ = some (.int .i64 8) := ((HYL.out.trans HU.out).cell (p := ⟨ib, io + p * 2 + 1, none⟩) hib).trans HI1.out
            have hpI : (p : Int) < (m : Int) := by omega
            clear r1
            by_cases hjn : j < n2
            · obtain ⟨r, hrj⟩ : ∃ r, ss[j]? = some r := ⟨_, List.getElem?_eq_getElem (by rw [HN2.out]; exact hjn)⟩
              obtain ⟨b, o, X, la, ln, lc, l, ha, hb, rfl, hl, c0, c1⟩ := HS.out.here (HYW.out.trans HU.out) hrj
              subst ha
              have hany : ((ss.take (j + 1)).any fun r => r.total == Z.data.toList) = (((ss.take j).any fun r => r.total == Z.data.toList) || (X.data.toList == Z.data.toList)) := by rw [snoc_take hrj, List.any_append]; simp
              obtain ⟨tb, htb⟩ : ∃ tb, tb = ((ss.take j).any fun r => r.total == Z.data.toList) := ⟨_, rfl⟩
              rw [← htb] at hany ⊢
              obtain ⟨te, hte⟩ : ∃ te, te = (X.data.toList == Z.data.toList) := ⟨_, rfl⟩
              have hte2 : (X.toList == Z.toList) = te := by rw [Lib.toList_data, Lib.toList_data, hte]
              rw [← hte] at hany
              have HAN := Lib.hid hany
              have hjI : (j : Int) < (n2 : Int) := by omega
              clear hrj hl hany htb hte c1
              cases tb with
              | true =>
                go_upto_region 19 with fail
                go_quiet (fail)
                go_wp2_with fail
                go_roundw
                case rel => exact ⟨j + 1, by omega, by go_num, by rw [HAN.out]; rfl, Lib.hid (HU.out.drewN _)⟩
                case measure => (simp [intOf]; try omega)
              | false =>
                go_upto_region 19 with fail
                go_quiet (fail)
                go_wp2_with fail
                go_roundw
                case rel => exact ⟨j + 1, by omega, by go_num, by rw [HAN.out]; rfl, Lib.hid (HU.out.drewN _)⟩
                case measure => (simp [intOf]; try omega)
            · obtain rfl : j = n2 := by omega
              have htot : ((ss.take j).any fun r => r.total == Z.data.toList) = true := by
                rw [List.take_of_length_le (by rw [HN2.out]; exact Nat.le_refl _)]
                obtain ⟨r, h1, h2⟩ := HR.out
                exact List.any_eq_true.2 ⟨r, h1, by rw [h2]; exact beq_self_eq_true _⟩
              rw [htot]
              have HY2 := Lib.hid (HY.out.trans HU.out)
              clear htot
              go_wp2_with fail
              exact ⟨⟨p + 1, by omega, by omega, by go_num, HY2⟩, by simp [intOf]; omega⟩
        · obtain rfl : p = m := by omega
          have hxw := HYW.out
          have HEXW := Lib.hid (HEX.out wr (HE.out.ext hxw) (HP.out.ext hxw))
          go_wp2_with fail
          refine Calls.mono HEXW.out ?_
          rintro e w9 ⟨rfl, hx9⟩
          go_wp2_with fail
          go_ret
          exact ⟨rfl, hxw.trans hx9⟩
end Go.Proofs.YtkpfehfcgpapiaaGreatDoor
