/-
  Chapter 51: Fields: the reference.
  No condition.
-/
import Derived.Test.YtkpfehfcgpapiaaGreatDoorFmXK
import Derived.Test.YtkpfehfcgpapiaaGreatDoorFmVd
namespace Go.Proofs.YtkpfehfcgpapiaaGreatDoor
set_option linter.unusedVariables false
open Go.RowKit

/-- What the first k fields take from the lines. -/
def TakenX (fs : List Fm.Fld) (vs os : List Fm.S) (k : Nat) : Prop := os.length = k ∧ ∀ (i : Nat) (f : Fm.Fld), i < k → fs[i]? = some f → ∃ o, Fm.oneGo f.name none vs = some o ∧ os[i]? = some (o.getD [])
theorem TakenX.nil (fs : List Fm.Fld) (vs : List Fm.S) : TakenX fs vs [] 0 := ⟨rfl, fun i f h => by omega⟩
theorem TakenX.snoc {fs : List Fm.Fld} {vs os : List Fm.S} {k : Nat} (h : TakenX fs vs os k) {f : Fm.Fld} (hf : fs[k]? = some f) {o : Option Fm.S} (ho : Fm.oneGo f.name none vs = some o) : TakenX fs vs (os ++ [o.getD []]) (k + 1) := by
  obtain ⟨h1, h2⟩ := h
  refine ⟨by rw [List.length_append, h1]; rfl, fun i g hi hg => ?_⟩
  by_cases hik : i = k
  · subst hik
    obtain rfl : g = f := by rw [hf] at hg; exact (Option.some.inj hg).symm
    exact ⟨o, ho, by rw [List.getElem?_append_right (by omega), h1]; simp⟩
  · obtain ⟨o', h3, h4⟩ := h2 i g (by omega) hg
    exact ⟨o', h3, by rw [List.getElem?_append_left (by omega)]; exact h4⟩
/-- A value and whether it was met. -/
def optS (o : Option Fm.S) : Value := strV (o.getD [])
theorem short_oneGo (n : Fm.S) (m : Nat) : ∀ (l : List Fm.S) (o r : Option Fm.S), (∀ s ∈ l, s.length ≤ m) → (o.getD []).length ≤ m → Fm.oneGo n o l = some r → (r.getD []).length ≤ m
  | [], o, r, _, h0, h => by rw [Fm.oneGo] at h; injection h with h; rw [← h]; exact h0
  | x :: l, o, r, hl, h0, h => by
    rw [Fm.one_blg] at h
    have hl' : ∀ s ∈ l, s.length ≤ m := fun s hs => hl s (List.mem_cons_of_mem _ hs)
    split at h
    · split at h
      · cases h
      · refine short_oneGo n m l _ r hl' ?_ h
        exact Nat.le_trans (Fm.blg_bd x n) (hl x (List.mem_cons_self ..))
    · exact short_oneGo n m l o r hl' h0 h

set_option maxRecDepth 100000 in
set_option maxHeartbeats 4000000 in
theorem xfields_any (NM : ByteArray) (a : Option Addr) (n c : Nat) (a2 : Option Addr) (n2 c2 : Nat) (fs : List Fm.Fld) (ss : List Fm.Sm) (va : Option Addr) (vn vc : Nat) (vs : List Fm.S) (w : World) (hf : FldsR w (.slice a n c) fs) (hm : SumsR w (.slice a2 n2 c2) ss) (hB : ∀ f ∈ fs, FldB f) (hM : ∀ r ∈ ss, SmB r) (hN0 : n ≤ 9223372036854775807)
    (hv : StrsR w (.slice va vn vc) vs) (hsv : Short 1000000 vs) (hvl : vs.length ≤ 4096) :
    Calls Tryz.prog 28 #[.agg #[.string NM, .slice a n c, .slice a2 n2 c2], .slice va vn vc] w (StrsX (Fm.fields ⟨NM.data.toList, fs, ss⟩ vs) w) := by
  obtain ⟨a', c', he⟩ := hf.form
  injection he with e1 e2 e3
  subst e1 e3
  obtain ⟨a', c', he⟩ := hm.form
  injection he with e1 e4 e3
  subst e1 e3
  obtain ⟨a', c', he, _⟩ := hv.form
  injection he with e1 e5 e3
  subst e1 e3
  have HR := Lib.hid (Fm.fields.eq_1 ⟨NM.data.toList, fs, ss⟩ vs)
  dsimp only at HR
  have HFIN : Hid (Fm.check ⟨NM.data.toList, fs, ss⟩ = 0 → _) := Lib.hid fun h => Fm.fields_one (F := ⟨NM.data.toList, fs, ss⟩) h (lines := vs) hvl
  generalize Fm.fields ⟨NM.data.toList, fs, ss⟩ vs = res at *
  have HN := Lib.hid e2.symm
  have HN3 := Lib.hid e5.symm
  have hvn : vn ≤ 4096 := by omega
  have HC := Lib.hid (fun (w' : World) (hx : Ext w w') => xcheck_any NM a n c a2 n2 c2 fs ss w' (hf.ext hx) (hm.ext hx) hB hM hN0)
  have HF := Lib.hid hf
  have HV := Lib.hid hv
  have HSV := Lib.hid hsv
  obtain ⟨V0, hV0⟩ : ∃ V, V = w.alloc (.cells #[.string NM, .slice a n c, .slice a2 n2 c2] 25) := ⟨_, rfl⟩
  have hxV : Ext w V0 := by rw [hV0]; exact (Ext.refl w).alloc _
  have HRV : Hid (V0.heap[w.heap.size]? = some (.cells #[.string NM, .slice a n c, .slice a2 n2 c2] 25 (0, 0))) := Lib.hid (by rw [hV0]; exact heap_alloc_new w _)
  have hzV : V0.heap.size = w.heap.size + 1 := by rw [hV0]; simp
  have HCV := Lib.hid (HC.out V0 hxV)
  have HVE := Lib.hid hV0
  have HXV := Lib.hid hxV
  clear hf hm hB hM e2 e4 e5 hv hsv hvl hV0 hxV HC
  by_cases hc : Fm.check ⟨NM.data.toList, fs, ss⟩ = 0
  rotate_left
  · rw [if_neg hc] at HR
    generalize Fm.check ⟨NM.data.toList, fs, ss⟩ = z at *
    have z0 : (z == 0) = false := beq_eq_false_iff_ne.2 hc
    have z1 : (z != 0) = true := bne_iff_ne.2 hc
    clear hc HFIN
    go_enter Tryz.func28, Tryz.ntmps28
    go_wp2_with fail
    rw [← HVE.out]
    refine HCV.out.mono ?_
    rintro e w1 ⟨rfl, hx1⟩
    have hxw := HXV.out.trans hx1
    go_wp2_with fail
    go_ret2
    exact ⟨_, by rw [HR.out]; rfl, by rw [HR.out]; exact StrsR.nil _, hxw⟩
  have HCK := Lib.hid hc
  have HFIN := Lib.hid (HFIN.out hc)
  rw [hc] at HCV
  clear hc HR
  have hnf : n ≤ 256 := by have := (Fm.valid_of HCK.out).few.1; rw [show (⟨NM.data.toList, fs, ss⟩ : Fm.Frm).fields = fs from rfl, HN.out] at this; exact this
  go_enter Tryz.func28, Tryz.ntmps28
  go_wp2_with fail
  rw [← HVE.out]
  refine HCV.out.mono ?_
  rintro e w1 ⟨rfl, hx1⟩
  have HX1 := Lib.hid hx1
  clear hx1
  go_wp2_with fail
  go_loopw [7, 8] (fun v t wr => ∃ (k : Nat) (os : List Fm.S), k ≤ n ∧ t = .int .i64 (k : Int) ∧ Hid (TakenX fs vs os k) ∧ Hid (OwnW wr (w.heap.size + 1) v os) ∧ Hid (Ext V0 wr)) (fun _ t _ => n - (intOf t).toNat)
  case atStart => exact ⟨0, [], Nat.zero_le _, rfl, Lib.hid (TakenX.nil _ _), Lib.hid (KOwn.nil _ _ _ _ _), HX1⟩
  case round =>
    clear HX1
    obtain ⟨k, os, hk, rfl, HT, HO, HX⟩ := hrel
    have hxw : Ext w wr := HXV.out.trans HX.out
    have r1 := row_on HRV.out HX.out
    have hosl : os.length ≤ 256 := by have := HT.out.1; omega
    by_cases hlt : k < n
    · obtain ⟨f, hfk⟩ : ∃ f, fs[k]? = some f := ⟨_, List.getElem?_eq_getElem (by rw [HN.out]; exact hlt)⟩
      obtain ⟨b, o, X, op, mn, mx, ck, la, ln, lc, l, opt, ha, hb, rfl, hl, c0, -, -, -, -, -, -⟩ := HF.out.here (Ext.refl w) hfk
      subst ha
      have HFK := Lib.hid hfk
      have HC0 := Lib.hid c0
      have k1 : wr.cell? ⟨w.heap.size, 1, none⟩ = some (.slice (some ⟨b, o, none⟩) n c) := cell_at r1 rfl
      have hkI : (k : Int) < (n : Int) := by omega
      obtain ⟨W0, hW0⟩ : ∃ W0, W0 = wr := ⟨_, rfl⟩
      subst hW0
      clear hfk hl c0 r1
      go_wp2_with fail
      clear k1
      go_loopw [9, 10, 11] (fun v f t wq => ∃ (q : Nat) (ov : Option Fm.S), q ≤ vn ∧ t = .int .i64 (q : Int) ∧ v = optS ov ∧ f = .bool ov.isSome ∧ Hid (Fm.oneGo X.data.toList none vs = Fm.oneGo X.data.toList ov (vs.drop q)) ∧ Hid (Ext W0 wq)) (fun _ _ t _ => vn - (intOf t).toNat)
      case atStart => exact ⟨0, none, Nat.zero_le _, rfl, rfl, rfl, Lib.hid rfl, Lib.hid (Ext.refl _)⟩
      case round =>
        obtain ⟨q, ov, hq, rfl, rfl, rfl, HG, HY⟩ := hrel
        have HYV := Lib.hid (HX.out.trans HY.out)
        have hxw' : Ext w wr := HXV.out.trans HYV.out
        have r2 := row_on HRV.out HYV.out
        have hwz := lt_at r2
        have k1 : wr.cell? ⟨w.heap.size, 1, none⟩ = some (.slice (some ⟨b, o, none⟩) n c) := cell_at r2 rfl
        have c0 : wr.cell? ⟨b, o + k * 7, none⟩ = some (.string X) := (hxw'.cell (p := ⟨b, o + k * 7, none⟩) hb).trans HC0.out
        by_cases hqlt : q < vn
        · obtain ⟨y, hyq⟩ : ∃ y, vs[q]? = some y := ⟨_, List.getElem?_eq_getElem (by rw [HN3.out]; exact hqlt)⟩
          have hys := HSV.out _ (List.mem_of_getElem? hyq)
          obtain ⟨vb, vo, Y, hva, hvb', rfl, d0⟩ := HV.out.here hxw' hyq
          subst hva
          have hYs : Y.size ≤ 1000000 := by rw [len_data] at hys; exact hys
          have HBL := Lib.hid (fun x : Ahead wr => xbelongs_any Y X hYs x.at')
          have HG2 : Hid (Fm.oneGo X.data.toList none vs = if (Fm.blg Y.data.toList X.data.toList).2 = true then (if ov.isSome then none else Fm.oneGo X.data.toList (some (Fm.blg Y.data.toList X.data.toList).1) (vs.drop (q + 1))) else Fm.oneGo X.data.toList ov (vs.drop (q + 1))) := Lib.hid (by rw [HG.out, cons_drop hyq, Fm.one_blg])
          obtain ⟨pr, hpr⟩ : ∃ pr, pr = Fm.blg Y.data.toList X.data.toList := ⟨_, rfl⟩
          rw [← hpr] at HG2 HBL
          obtain ⟨bv, bo⟩ := pr
          dsimp only at HG2 HBL
          clear hpr
          have g0 := ahead_cell k1 hwz
          have g1 := ahead_cell c0 (Nat.lt_of_lt_of_le hb hxw'.size)
          have g2 := ahead_cell d0 (Nat.lt_of_lt_of_le hvb' hxw'.size)
          have hqI : (q : Int) < (vn : Int) := by omega
          clear hyq hys hYs HG r2
          cases bo with
          | false =>
            replace HG2 : Hid (Fm.oneGo X.data.toList none vs = Fm.oneGo X.data.toList ov (vs.drop (q + 1))) := HG2
            go_upto_region 14 with fail
            refine wp_region_quiet (C := fun w' => ∃ x : Ahead wr, w' = x.at') (by kernel_rfl) (by kernel_rfl) (Ahead.drawn _) ?_
            try dsimp only
            repeat (first | go_big_quiet_step (exact ahead_of (HBL.out _)) | quiet_step (exact ahead_of (HBL.out _)))
            refine wpQuiet_nil ?_
            intro _ hx0
            obtain ⟨x0, hx0⟩ := hx0
            subst hx0
            obtain ⟨w3, hx3⟩ := x0
            try dsimp only
            have HY3 := Lib.hid (HY.out.trans hx3)
            clear g0 g1 g2 k1 c0 d0 hx3 HBL
            cases ov with
            | none =>
              go_wp2_with fail
              go_roundw
              case rel => exact ⟨q + 1, none, by omega, by go_num, rfl, rfl, HG2, HY3⟩
              case measure => (simp [intOf]; try omega)
            | some u =>
              go_wp2_with fail
              go_roundw
              case rel => exact ⟨q + 1, some u, by omega, by go_num, rfl, rfl, HG2, HY3⟩
              case measure => (simp [intOf]; try omega)
          | true =>
            cases ov with
            | some u =>
              replace HG2 : Hid (Fm.oneGo X.data.toList none vs = none) := HG2
              have HF2 : Hid (res = ([], 30)) := Lib.hid (HFIN.out.2 ⟨k, _, HFK.out, HG2.out⟩)
              go_upto_region 14 with fail
              refine wp_region_quiet (C := fun w' => ∃ x : Ahead wr, w' = x.at') (by kernel_rfl) (by kernel_rfl) (Ahead.drawn _) ?_
              try dsimp only
              repeat (first | go_big_quiet_step (exact ahead_of (HBL.out _)) | quiet_step (exact ahead_of (HBL.out _)))
              refine wpQuiet_nil ?_
              intro _ hx0
              obtain ⟨x0, hx0⟩ := hx0
              subst hx0
              obtain ⟨w3, hx3⟩ := x0
              try dsimp only
              clear g0 g1 g2 k1 c0 d0 HBL
              go_wp2_with fail
              go_ret2
              exact ⟨_, by rw [HF2.out]; rfl, by rw [HF2.out]; exact StrsR.nil _, hxw'.trans hx3⟩
            | none =>
              replace HG2 : Hid (Fm.oneGo X.data.toList none vs = Fm.oneGo X.data.toList (some bv) (vs.drop (q + 1))) := HG2
              go_upto_region 14 with fail
              refine wp_region_quiet (C := fun w' => ∃ x : Ahead wr, w' = x.at') (by kernel_rfl) (by kernel_rfl) (Ahead.drawn _) ?_
              try dsimp only
              repeat (first | go_big_quiet_step (exact ahead_of (HBL.out _)) | quiet_step (exact ahead_of (HBL.out _)))
              refine wpQuiet_nil ?_
              intro _ hx0
              obtain ⟨x0, hx0⟩ := hx0
              subst hx0
              obtain ⟨w3, hx3⟩ := x0
              try dsimp only
              have HY3 := Lib.hid (HY.out.trans hx3)
              clear g0 g1 g2 k1 c0 d0 hx3 HBL
              go_wp2_with fail
              go_roundw
              case rel => exact ⟨q + 1, some bv, by omega, by go_num, rfl, rfl, HG2, HY3⟩
              case measure => (simp [intOf]; try omega)
        · obtain rfl : q = vn := by omega
          have hg := HG.out
          rw [List.drop_of_length_le (by rw [HN3.out]; exact Nat.le_refl _), Fm.oneGo] at hg
          obtain ⟨Z, hZ⟩ : ∃ Z : ByteArray, Z = ⟨(ov.getD []).toArray⟩ := ⟨_, rfl⟩
          have hZl : Z.data.toList = ov.getD [] := by rw [hZ]
          have hT2 := HT.out.snoc HFK.out hg
          rw [← hZl] at hT2
          have HT2 := Lib.hid hT2
          rw [show optS ov = Value.string Z by rw [hZ]; rfl]
          have hown := HO.out.ext HY.out
          have hsz : w.heap.size + 1 ≤ wr.heap.size := by have := HYV.out.size; omega
          clear hg HG hqlt hq r2 hT2 hZ hZl k1 c0 hwz
          generalize ov.isSome = bo at *
          go_wp2_with (at_builtin; refine append_w rfl _ _ rfl (w.heap.size + 1) _ _ rfl (hown.ext ((Ext.refl _).alloc _)) _ Z rfl ?d1 ?d2 ?d3 ?_)
          case d1 => simp [go_sem]
          case d2 => omega
          case d3 => first | (simp; omega) | omega
          intro v' w6 hown6 hg6
          have hlow := hown.low
          have HX6 := Lib.hid ((HYV.out.alloc _).ofGrown hg6 (fun j hj => by have := hlow j hj; omega))
          have HO6 := Lib.hid hown6
          clear hown hown6 hg6 hlow
          go_wp2_with fail
          go_roundw
          case rel => exact ⟨k + 1, _, by omega, by go_num, HT2, HO6, HX6⟩
          case measure => (simp [intOf]; try omega)
    · obtain rfl : k = n := by omega
      have hF := HFIN.out.1 os (by rw [HT.out.1]; exact HN.out.symm) (fun i f hf => HT.out.2 i f (Nat.lt_of_lt_of_eq (List.getElem?_eq_some_iff.1 hf).1 HN.out) hf)
      have HF2 : Hid (res = (os, 0)) := Lib.hid hF
      have HST := Lib.hid (KOwn.strs HO.out)
      have k1 : wr.cell? ⟨w.heap.size, 1, none⟩ = some (.slice a k c) := cell_at r1 rfl
      clear hF r1 hlt
      go_wp2_with fail
      go_ret2
      exact ⟨_, by rw [HF2.out]; rfl, by rw [HF2.out]; exact HST.out, hxw⟩
end Go.Proofs.YtkpfehfcgpapiaaGreatDoor
