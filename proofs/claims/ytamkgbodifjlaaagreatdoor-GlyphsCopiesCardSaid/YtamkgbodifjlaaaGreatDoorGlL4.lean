/-
  Chapter 48, the law GlyphsLines.
  No condition.
-/
import Derived.Test.YtamkgbodifjlaaaGreatDoorGlL0
import Derived.Test.YtamkgbodifjlaaaGreatDoorGlVa
import Derived.Test.YtamkgbodifjlaaaGreatDoorGlX8
import Derived.BigQuiet
namespace Go.Proofs.YtamkgbodifjlaaaGreatDoor
set_option linter.unusedVariables false
open Go.RowKit

/-- What Lines returns for any bitmap. -/
def Gl.linesS (W H : Int) (m : List Bool) : List Gl.Bx × Int := if Gl.valid W H m.length = false then ([], 1) else (Gl.lines m W.toNat H.toNat, 0)
def LinR (r : List Gl.Bx × Int) (w : World) (e : Ending) (w' : World) : Prop := ∃ v, e = .returned (.tuple #[v, .int .i64 r.2]) ∧ KSl 4 encX w' v r.1 ∧ Ext w w'
theorem linR_nil {r : List Gl.Bx × Int} {w : World} {e : Ending} {w' : World} {k : Int} (hr : r = ([], k)) (h : e = .returned (.tuple #[.slice none 0 0, .int .i64 k]) ∧ Ext w w') : LinR r w e w' := by
  subst hr
  exact ⟨_, h.1, KSl.nil _ _ _, h.2⟩
theorem lines_tot (W H : Int) (a : Option Addr) (n c : Nat) (m : List Bool) (w : World) (hv : SlK w (.slice a n c) (m.map encT)) (hm : m.length ≤ maxLen) : Calls Tryz.prog 12 #[.agg #[.int .i64 W, .int .i64 H, .slice a n c]] w (LinR (Gl.linesS W H m) w) := by
  obtain ⟨_, a', c', e, hc⟩ := id hv
  rw [List.length_map] at e
  injection e with e1 e2 e3
  subst e1 e2 e3
  cases hval : Gl.valid W H m.length with
  | false => exact (lines_bad W H a m.length c w hm hval).mono fun e w' h => linR_nil (by unfold Gl.linesS; rw [if_pos hval]) h
  | true =>
    obtain ⟨W', H', rfl, rfl, _, _, _, _, hl, _⟩ := Gl.valid_parts hval
    have : Gl.linesS (W' : Int) (H' : Int) m = (Gl.lines m W' H', 0) := by unfold Gl.linesS; rw [if_neg (by rw [hval]; simp)]; simp
    rw [this]
    exact (lines_any _ m W' H' w hv hl hval).mono fun e w' ⟨v, he, hk, hx⟩ => ⟨v, he, hk.sl encX_len, hx⟩
theorem xlines_tot (W H : Int) (a : Option Addr) (n c : Nat) (m : List Bool) (w : World) (hv : SlK w (.slice a n c) (m.map encT)) (hm : m.length ≤ maxLen) : Calls Tryz.prog 13 #[.agg #[.int .i64 W, .int .i64 H, .slice a n c]] w (LinR (Gl.linesS W H m) w) := by
  obtain ⟨_, a', c', e, hc⟩ := id hv
  rw [List.length_map] at e
  injection e with e1 e2 e3
  subst e1 e2 e3
  cases hval : Gl.valid W H m.length with
  | false => exact (xlines_bad W H a m.length c w hm hval).mono fun e w' h => linR_nil (by unfold Gl.linesS; rw [if_pos hval]) h
  | true =>
    obtain ⟨W', H', rfl, rfl, _, _, _, _, hl, _⟩ := Gl.valid_parts hval
    have : Gl.linesS (W' : Int) (H' : Int) m = (Gl.lines m W' H', 0) := by unfold Gl.linesS; rw [if_neg (by rw [hval]; simp)]; simp
    rw [this]
    exact (xlines_any _ m W' H' w hv hl hval).mono fun e w' ⟨v, he, hk, hx⟩ => ⟨v, he, hk.sl encX_len, hx⟩
theorem Gl.linesS_len (W H : Int) (m : List Bool) : (Gl.linesS W H m).1.length ≤ 4096 := by
  unfold Gl.linesS
  cases hval : Gl.valid W H m.length with
  | false => rw [if_pos rfl]; exact Nat.zero_le _
  | true =>
    rw [if_neg (by simp)]
    obtain ⟨W', H', rfl, rfl, _, _, _, hH, hl, _⟩ := Gl.valid_parts hval
    have := (Gl.linesN_ok m W' H' hl H' (Nat.le_refl _)).2.1
    show (Gl.lines m (W' : Int).toNat (H' : Int).toNat).length ≤ 4096
    rw [Int.toNat_natCast, Int.toNat_natCast]
    unfold Gl.lines
    omega
set_option maxRecDepth 100000 in
set_option maxHeartbeats 4000000 in
theorem law_lines (W H : Int) (a : Option Addr) (n c : Nat) (m : List Bool) (bx bY bw bh : Int) (w : World) (hv : SlK w (.slice a n c) (m.map encT)) (hm : m.length ≤ maxLen) :
    Calls Tryz.prog 3 #[.agg #[.int .i64 W, .int .i64 H, .slice a n c], .agg #[.int .i64 bx, .int .i64 bY, .int .i64 bw, .int .i64 bh]] w fun e w' => e = .returned (.bool true) ∧ Ext w w' := by
  have HEX := Lib.hid example_any
  obtain ⟨_, a', c', e, hc⟩ := id hv
  rw [List.length_map] at e hc
  injection e with e1 e2 e3
  subst e1 e2 e3
  obtain ⟨n, hn⟩ : ∃ n, m.length = n := ⟨_, rfl⟩
  have HMA := Lib.hid (fun w' (h : Ext w w') => lines_tot W H a n c m w' (by rw [← hn]; exact hv.ext h) hm)
  have HXM := Lib.hid (fun w' (h : Ext w w') => xlines_tot W H a n c m w' (by rw [← hn]; exact hv.ext h) hm)
  have hn9 : n ≤ 9223372036854775807 := by unfold maxLen at hm; omega
  rw [hn] at hm ⊢
  have HSC := Lib.hid (scale_any W H a n c bx bY bw bh)
  have HXS := Lib.hid (xscale_any W H a n c bx bY bw bh)
  have HNM := Lib.hid hm
  clear hv hm hc
  by_cases hbig : 2500 < n
  · have hb : decide ((2500 : Int) < (n : Int)) = true := decide_eq_true (by omega)
    clear HMA HXM hn
    go_enter Tryz.func3, Tryz.ntmps3
    go_wp2_with fail
    refine (HEX.out _).mono ?_
    rintro e w2 ⟨rfl, hx2⟩
    have HX : Hid (Ext w w2) := Lib.hid (((Ext.refl w).alloc _).trans (((Ext.refl _).alloc _).trans hx2))
    clear hx2
    go_wp2
    go_ret
    exact ⟨rfl, HX.out⟩
  · have hb : decide ((2500 : Int) < (n : Int)) = false := decide_eq_false (by omega)
    have HML := Lib.hid (Gl.linesS_len W H m)
    obtain ⟨⟨xs, er⟩, hr⟩ : ∃ r, Gl.linesS W H m = r := ⟨_, rfl⟩
    obtain ⟨⟨sc, sr⟩, hs⟩ : ∃ r, Gl.scale W H n bx bY bw bh = r := ⟨_, rfl⟩
    rw [hr] at HMA HXM HML
    rw [hs] at HSC HXS
    clear hr hs hn hbig
    go_enter Tryz.func3, Tryz.ntmps3
    go_wp2_with fail
    refine (HMA.out _ (((Ext.refl w).alloc _).alloc _)).mono ?_
    rintro e w1 ⟨v5, rfl, hk5, hx1⟩
    have HM1 := Lib.hid (row_on (row_on (heap_alloc_new w (.cells #[.int .i64 W, .int .i64 H, .slice a n c] 24)) ((Ext.refl _).alloc (.cells #[.int .i64 bx, .int .i64 bY, .int .i64 bw, .int .i64 bh] 26))) hx1)
    have hb1 := heap_alloc_new (w.alloc (.cells #[.int .i64 W, .int .i64 H, .slice a n c] 24)) (.cells #[.int .i64 bx, .int .i64 bY, .int .i64 bw, .int .i64 bh] 26)
    rw [World.size_alloc] at hb1
    have HB1 := Lib.hid (row_on hb1 hx1)
    have HK5 := Lib.hid hk5
    have HX1 : Hid (Ext w w1) := Lib.hid ((((Ext.refl w).alloc _).alloc _).trans hx1)
    have m0 := cell_at HM1.out (i := 0) rfl
    have m1 := cell_at HM1.out (i := 1) rfl
    have m2 := cell_at HM1.out (i := 2) rfl
    clear hk5 hx1 hb1
    go_wp2_with fail
    refine (HXM.out _ HX1.out).mono ?_
    rintro e w2 ⟨v7, rfl, hk7, hx2⟩
    have HK52 := Lib.hid (HK5.out.ext hx2)
    have HK7 := Lib.hid hk7
    have HX2 := Lib.hid (HX1.out.trans hx2)
    have HM2 := Lib.hid (row_on HM1.out hx2)
    have HB2 := Lib.hid (row_on HB1.out hx2)
    clear hk7 hx2 HX1 HK5 HMA HXM m0 m1 m2 HM1 HB1
    have m0 := cell_at HM2.out (i := 0) rfl
    have m1 := cell_at HM2.out (i := 1) rfl
    have m2 := cell_at HM2.out (i := 2) rfl
    have b0 := cell_at HB2.out (i := 0) rfl
    have b1 := cell_at HB2.out (i := 1) rfl
    have b2 := cell_at HB2.out (i := 2) rfl
    have b3 := cell_at HB2.out (i := 3) rfl
    go_wp2_with fail
    refine (HSC.out _ HNM.out).mono ?_
    rintro e w3 ⟨rfl, hx3⟩
    have HK53 := Lib.hid (HK52.out.ext hx3)
    have HK73 := Lib.hid (HK7.out.ext hx3)
    have HX3 := Lib.hid (HX2.out.trans hx3)
    have HM3 := Lib.hid (row_on HM2.out hx3)
    have HB3 := Lib.hid (row_on HB2.out hx3)
    clear hx3 HX2 HK52 HK7 m0 m1 m2 b0 b1 b2 b3 HM2 HB2 HSC
    have m0 := cell_at HM3.out (i := 0) rfl
    have m1 := cell_at HM3.out (i := 1) rfl
    have m2 := cell_at HM3.out (i := 2) rfl
    have b0 := cell_at HB3.out (i := 0) rfl
    have b1 := cell_at HB3.out (i := 1) rfl
    have b2 := cell_at HB3.out (i := 2) rfl
    have b3 := cell_at HB3.out (i := 3) rfl
    go_wp2_with fail
    refine (HXS.out _ HNM.out).mono ?_
    rintro e w4 ⟨rfl, hx4⟩
    have HV := Lib.hid (HK53.out.ext hx4)
    have HU := Lib.hid (HK73.out.ext hx4)
    have HX4 := Lib.hid (HX3.out.trans hx4)
    obtain ⟨a5, c5, rfl⟩ := HV.out.form
    obtain ⟨a7, c7, rfl⟩ := HU.out.form
    have HL := Lib.hid HML.out
    dsimp only at HV HU HL ⊢
    obtain ⟨k, hk⟩ : ∃ k, xs.length = k := ⟨_, rfl⟩
    rw [hk] at HV HU HL ⊢
    have HN := Lib.hid hk
    have hkb : k ≤ 4096 := HL.out
    clear hx4 HX3 HK53 HK73 m0 m1 m2 b0 b1 b2 b3 HM3 HB3 HXS HML HL hk
    go_wp2
    go_loopw [13] (fun v13 wr => ∃ i : Nat, i ≤ k ∧ v13 = .int .i64 (i : Int) ∧ ∃ q, wr = w4.drewN q) (fun v13 _ => k - (intOf v13).toNat)
    case atStart => exact ⟨0, Nat.zero_le _, rfl, 0, rfl⟩
    case round =>
      obtain ⟨i, hi, rfl, q, rfl⟩ := hrel
      by_cases hlt : i < k
      · have hltI : (i : Int) < (k : Int) := by omega
        obtain ⟨x, hx⟩ : ∃ x, xs[i]? = some x := ⟨_, List.getElem?_eq_getElem (by rw [HN.out]; exact hlt)⟩
        obtain ⟨g1, o1, rfl, _, h1⟩ := HV.out.at_ hx
        obtain ⟨g2, o2, rfl, _, h2⟩ := HU.out.at_ hx
        obtain ⟨xa, xb, xc, xd⟩ := x
        have p0 : w4.cell? ⟨g1, o1 + i * 4, none⟩ = some (.int .i64 xa) := h1 0 (by omega)
        have p1 : w4.cell? ⟨g1, o1 + i * 4 + 1, none⟩ = some (.int .i64 xb) := h1 1 (by omega)
        have p2 : w4.cell? ⟨g1, o1 + i * 4 + 2, none⟩ = some (.int .i64 xc) := h1 2 (by omega)
        have p3 : w4.cell? ⟨g1, o1 + i * 4 + 3, none⟩ = some (.int .i64 xd) := h1 3 (by omega)
        have r0 : w4.cell? ⟨g2, o2 + i * 4, none⟩ = some (.int .i64 xa) := h2 0 (by omega)
        have r1 : w4.cell? ⟨g2, o2 + i * 4 + 1, none⟩ = some (.int .i64 xb) := h2 1 (by omega)
        have r2 : w4.cell? ⟨g2, o2 + i * 4 + 2, none⟩ = some (.int .i64 xc) := h2 2 (by omega)
        have r3 : w4.cell? ⟨g2, o2 + i * 4 + 3, none⟩ = some (.int .i64 xd) := h2 3 (by omega)
        clear h1 h2 hx
        go_wp2
        go_quiet (fail)
        go_wp2
        go_roundw
        case rel => exact ⟨i + 1, hlt, by go_num, _, rfl⟩
        case measure => simp [intOf]; omega
      · have hge : ¬ ((i : Int) < (k : Int)) := by omega
        clear hlt
        go_wp2_with fail
        refine (HEX.out _).mono ?_
        rintro e w6 ⟨rfl, hx6⟩
        have HX6 := Lib.hid ((HX4.out.drewN q).trans hx6)
        clear hx6
        go_wp2
        go_ret
        exact ⟨rfl, HX6.out⟩
end Go.Proofs.YtamkgbodifjlaaaGreatDoor
