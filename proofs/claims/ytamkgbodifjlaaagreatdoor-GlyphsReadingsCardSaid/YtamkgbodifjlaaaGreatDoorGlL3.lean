/-
  Chapter 48, the law GlyphsMatches.
  No condition.
-/
import Derived.Test.YtamkgbodifjlaaaGreatDoorGlL0
import Derived.Test.YtamkgbodifjlaaaGreatDoorGlVa
import Derived.Test.YtamkgbodifjlaaaGreatDoorGlXa
import Derived.BigQuiet
namespace Go.Proofs.YtamkgbodifjlaaaGreatDoor
set_option linter.unusedVariables false
open Go.RowKit

/-- What Match returns for any bitmap: the choices, the error. -/
def Gl.matchS (W H : Int) (m : List Bool) : List Gl.Ch × Int := if Gl.valid W H m.length = false then ([], 1) else if W = 5 ∧ H = 7 then (Gl.ranked m, 0) else ([], 23)
def MatR (r : List Gl.Ch × Int) (w : World) (e : Ending) (w' : World) : Prop := ∃ v, e = .returned (.tuple #[v, .int .i64 r.2]) ∧ KSl 2 encC w' v r.1 ∧ Ext w w'
theorem matR_nil {r : List Gl.Ch × Int} {w : World} {e : Ending} {w' : World} {k : Int} (hr : r = ([], k)) (h : e = .returned (.tuple #[.slice none 0 0, .int .i64 k]) ∧ Ext w w') : MatR r w e w' := by
  subst hr
  exact ⟨_, h.1, KSl.nil _ _ _, h.2⟩
theorem match_tot (W H : Int) (a : Option Addr) (n c : Nat) (m : List Bool) (w : World) (hv : SlK w (.slice a n c) (m.map encT)) (hm : m.length ≤ maxLen) : Calls Tryz.prog 16 #[.agg #[.int .i64 W, .int .i64 H, .slice a n c]] w (MatR (Gl.matchS W H m) w) := by
  obtain ⟨_, a', c', e, hc⟩ := id hv
  rw [List.length_map] at e
  injection e with e1 e2 e3
  subst e1 e2 e3
  cases hval : Gl.valid W H m.length with
  | false => exact (match_bad W H a m.length c w hm hval).mono fun e w' h => matR_nil (by unfold Gl.matchS; rw [if_pos hval]) h
  | true =>
    by_cases hs : W = 5 ∧ H = 7
    · obtain ⟨rfl, rfl⟩ := hs
      obtain ⟨a0, b0, e1, e2, _, _, _, _, hl, _⟩ := Gl.valid_parts hval
      obtain rfl : a0 = 5 := by omega
      obtain rfl : b0 = 7 := by omega
      refine (match_any _ m w hv (by omega)).mono fun e w' ⟨g, c1, he, _, _, _, hk, hx⟩ => ?_
      have : Gl.matchS 5 7 m = (Gl.ranked m, 0) := by unfold Gl.matchS; rw [if_neg (by rw [hval]; simp), if_pos ⟨rfl, rfl⟩]
      rw [this]
      exact ⟨_, he, hk, hx⟩
    · exact (match_size W H a m.length c w hm hval hs).mono fun e w' h => matR_nil (by unfold Gl.matchS; rw [if_neg (by rw [hval]; simp), if_neg hs]) h
theorem xmatch_tot (W H : Int) (a : Option Addr) (n c : Nat) (m : List Bool) (w : World) (hv : SlK w (.slice a n c) (m.map encT)) (hm : m.length ≤ maxLen) : Calls Tryz.prog 17 #[.agg #[.int .i64 W, .int .i64 H, .slice a n c]] w (MatR (Gl.matchS W H m) w) := by
  obtain ⟨_, a', c', e, hc⟩ := id hv
  rw [List.length_map] at e
  injection e with e1 e2 e3
  subst e1 e2 e3
  cases hval : Gl.valid W H m.length with
  | false => exact (xmatch_bad W H a m.length c w hm hval).mono fun e w' h => matR_nil (by unfold Gl.matchS; rw [if_pos hval]) h
  | true =>
    by_cases hs : W = 5 ∧ H = 7
    · obtain ⟨rfl, rfl⟩ := hs
      obtain ⟨a0, b0, e1, e2, _, _, _, _, hl, _⟩ := Gl.valid_parts hval
      obtain rfl : a0 = 5 := by omega
      obtain rfl : b0 = 7 := by omega
      refine (xmatch_any _ m w hv (by omega)).mono fun e w' ⟨v, he, hk, hx⟩ => ?_
      have : Gl.matchS 5 7 m = (Gl.ranked m, 0) := by unfold Gl.matchS; rw [if_neg (by rw [hval]; simp), if_pos ⟨rfl, rfl⟩]
      rw [this]
      exact ⟨_, he, hk.sl encC_len, hx⟩
    · exact (xmatch_size W H a m.length c w hm hval hs).mono fun e w' h => matR_nil (by unfold Gl.matchS; rw [if_neg (by rw [hval]; simp), if_neg hs]) h
theorem Gl.matchS_len (W H : Int) (m : List Bool) : (Gl.matchS W H m).1.length ≤ 62 := by
  unfold Gl.matchS
  split
  · exact Nat.zero_le _
  · split
    · rw [Gl.ranked_len]; exact Nat.le_refl _
    · exact Nat.zero_le _
/-- What Confusable returns. -/
def Gl.confS (c : UInt8) (d : Int) : List UInt8 × Int := if Gl.known c = false then ([], 6) else if d < 0 then ([], 3) else (Gl.near c d, 0)
def ConR (r : List UInt8 × Int) (w : World) (e : Ending) (w' : World) : Prop := ∃ v, e = .returned (.tuple #[v, .int .i64 r.2]) ∧ Sl w' v (r.1.map encB) ∧ Ext w w'
theorem conR_nil {r : List UInt8 × Int} {w : World} {e : Ending} {w' : World} {k : Int} (hr : r = ([], k)) (h : e = .returned (.tuple #[.slice none 0 0, .int .i64 k]) ∧ Ext w w') : ConR r w e w' := by
  subst hr
  exact ⟨_, h.1, .inl ⟨rfl, none, 0, rfl⟩, h.2⟩
theorem conf_tot (c : UInt8) (d : Int) (w : World) : Calls Tryz.prog 18 #[.int .u8 (c.toNat : Int), .int .i64 d] w (ConR (Gl.confS c d) w) := by
  cases hk : Gl.known c with
  | false => exact (confus_no c hk d w).mono fun e w' h => conR_nil (by unfold Gl.confS; rw [if_pos hk]) h
  | true =>
    by_cases hd : d < 0
    · exact (confus_neg c hk d hd w).mono fun e w' h => conR_nil (by unfold Gl.confS; rw [if_neg (by rw [hk]; simp), if_pos hd]) h
    · have : Gl.confS c d = (Gl.near c d, 0) := by unfold Gl.confS; rw [if_neg (by rw [hk]; simp), if_neg hd]
      rw [this]
      exact (confus_any c hk d (by omega) w).mono fun e w' ⟨v, he, ho, hx⟩ => ⟨v, he, ho.sl, hx⟩
theorem xconf_tot (c : UInt8) (d : Int) (w : World) : Calls Tryz.prog 19 #[.int .u8 (c.toNat : Int), .int .i64 d] w (ConR (Gl.confS c d) w) := by
  cases hk : Gl.known c with
  | false => exact (xconfus_no c hk d w).mono fun e w' h => conR_nil (by unfold Gl.confS; rw [if_pos hk]) h
  | true =>
    by_cases hd : d < 0
    · exact (xconfus_neg c hk d hd w).mono fun e w' h => conR_nil (by unfold Gl.confS; rw [if_neg (by rw [hk]; simp), if_pos hd]) h
    · have : Gl.confS c d = (Gl.near c d, 0) := by unfold Gl.confS; rw [if_neg (by rw [hk]; simp), if_neg hd]
      rw [this]
      exact (xconfus_any c hk d (by omega) w).mono fun e w' ⟨v, he, ho, hx⟩ => ⟨v, he, ho.sl, hx⟩
set_option maxRecDepth 100000 in
set_option maxHeartbeats 4000000 in
theorem samec_any (v u : Value) (xs : List Gl.Ch) (w : World) (hv : KSl 2 encC w v xs) (hu : KSl 2 encC w u xs) (hl : xs.length ≤ 1000000) : Calls Tryz.prog 20 #[v, u] w fun e w' => e = .returned (.bool true) ∧ Ext w w' := by
  obtain ⟨a, c, rfl⟩ := hv.form
  obtain ⟨b, d, rfl⟩ := hu.form
  have HV := Lib.hid hv
  have HU := Lib.hid hu
  obtain ⟨n, hn⟩ : ∃ n, xs.length = n := ⟨_, rfl⟩
  rw [hn] at HV HU hl ⊢
  have HN := Lib.hid hn
  clear hv hu hn
  go_enter Tryz.func20, Tryz.ntmps20
  go_wp2
  go_loopw [5] (fun v5 wr => ∃ i : Nat, i ≤ n ∧ v5 = .int .i64 (i : Int) ∧ ∃ q, wr = w.drewN q) (fun v5 _ => n - (intOf v5).toNat)
  case atStart => exact ⟨0, Nat.zero_le _, rfl, 0, rfl⟩
  case round =>
    obtain ⟨i, hi, rfl, q, rfl⟩ := hrel
    by_cases hlt : i < n
    · have hltI : (i : Int) < (n : Int) := by omega
      obtain ⟨x, hx⟩ : ∃ x, xs[i]? = some x := ⟨_, List.getElem?_eq_getElem (by rw [HN.out]; exact hlt)⟩
      obtain ⟨b1, o1, rfl, _, h1⟩ := HV.out.at_ hx
      obtain ⟨b2, o2, rfl, _, h2⟩ := HU.out.at_ hx
      obtain ⟨xa, xn⟩ := x
      have p0 : w.cell? ⟨b1, o1 + i * 2, none⟩ = some (.int .u8 (xa.toNat : Int)) := h1 0 (by omega)
      have p1 : w.cell? ⟨b1, o1 + i * 2 + 1, none⟩ = some (.int .i64 xn) := h1 1 (by omega)
      have r0 : w.cell? ⟨b2, o2 + i * 2, none⟩ = some (.int .u8 (xa.toNat : Int)) := h2 0 (by omega)
      have r1 : w.cell? ⟨b2, o2 + i * 2 + 1, none⟩ = some (.int .i64 xn) := h2 1 (by omega)
      clear h1 h2 hx
      go_wp2
      go_quiet (fail)
      go_wp2
      go_roundw
      case rel => exact ⟨i + 1, hlt, by go_num, _, rfl⟩
      case measure => simp [intOf]; omega
    · have hge : ¬ ((i : Int) < (n : Int)) := by omega
      clear hlt
      go_wp2
      go_ret
      exact ⟨rfl, (Ext.refl w).drewN q⟩
set_option maxRecDepth 100000 in
set_option maxHeartbeats 4000000 in
theorem law_matches (W H : Int) (a : Option Addr) (n c : Nat) (m : List Bool) (ch d : Int) (w : World) (hv : SlK w (.slice a n c) (m.map encT)) (hm : m.length ≤ maxLen) (h0 : 0 ≤ ch) (h1 : ch ≤ 255) :
    Calls Tryz.prog 4 #[.agg #[.int .i64 W, .int .i64 H, .slice a n c], .int .u8 ch, .int .i64 d] w fun e w' => e = .returned (.bool true) ∧ Ext w w' := by
  obtain ⟨k, rfl⟩ : ∃ k : UInt8, ch = (k.toNat : Int) := ⟨UInt8.ofNat ch.toNat, by rw [UInt8.toNat_ofNat']; omega⟩
  have HEX := Lib.hid example_any
  obtain ⟨_, a', c', e, hc⟩ := id hv
  rw [List.length_map] at e hc
  injection e with e1 e2 e3
  subst e1 e2 e3
  have HV := Lib.hid hv
  obtain ⟨n, hn⟩ : ∃ n, m.length = n := ⟨_, rfl⟩
  have HMA := Lib.hid (fun w' (h : Ext w w') => match_tot W H a n c m w' (by rw [← hn]; exact hv.ext h) hm)
  have HXM := Lib.hid (fun w' (h : Ext w w') => xmatch_tot W H a n c m w' (by rw [← hn]; exact hv.ext h) hm)
  have hn9 : n ≤ 9223372036854775807 := by unfold maxLen at hm; omega
  rw [hn]
  clear hv hm hc HV h0 h1
  by_cases hbig : 100 < n
  · have hb : decide ((100 : Int) < (n : Int)) = true := decide_eq_true (by omega)
    clear HMA HXM hn
    go_enter Tryz.func4, Tryz.ntmps4
    go_wp2_with fail
    refine (HEX.out _).mono ?_
    rintro e w2 ⟨rfl, hx2⟩
    have HX : Hid (Ext w w2) := Lib.hid hx2.before
    clear hx2
    go_wp2
    go_ret
    exact ⟨rfl, HX.out⟩
  · have hb : decide ((100 : Int) < (n : Int)) = false := decide_eq_false (by omega)
    have HCF := Lib.hid (conf_tot k d)
    have HXC := Lib.hid (xconf_tot k d)
    have HSC := Lib.hid samec_any
    have HML := Lib.hid (Gl.matchS_len W H m)
    obtain ⟨⟨xs, er⟩, hr⟩ : ∃ r, Gl.matchS W H m = r := ⟨_, rfl⟩
    obtain ⟨⟨ys, fr⟩, hs⟩ : ∃ r, Gl.confS k d = r := ⟨_, rfl⟩
    rw [hr] at HMA HXM HML
    rw [hs] at HCF HXC
    clear hr hs hn hbig
    go_enter Tryz.func4, Tryz.ntmps4
    go_wp2_with fail
    refine (HMA.out _ ((Ext.refl w).alloc _)).mono ?_
    rintro e w1 ⟨v7, rfl, hk7, hx1⟩
    have HM1 := Lib.hid (row_new rfl hx1)
    have HK7 := Lib.hid hk7
    have HX1 : Hid (Ext w w1) := Lib.hid hx1.before
    have m0 := cell_at HM1.out (i := 0) rfl
    have m1 := cell_at HM1.out (i := 1) rfl
    have m2 := cell_at HM1.out (i := 2) rfl
    clear hk7 hx1
    go_wp2_with fail
    refine (HXM.out _ HX1.out).mono ?_
    rintro e w2 ⟨v9, rfl, hk9, hx2⟩
    have HK72 := Lib.hid (HK7.out.ext hx2)
    have HK9 := Lib.hid hk9
    have HX2 := Lib.hid (HX1.out.trans hx2)
    clear hk9 hx2 HX1 HK7 HMA HXM m0 m1 m2 HM1
    go_wp2_with fail
    refine (HCF.out _).mono ?_
    rintro e w3 ⟨v11, rfl, hs11, hx3⟩
    have HK73 := Lib.hid (HK72.out.ext hx3)
    have HK93 := Lib.hid (HK9.out.ext hx3)
    have HS11 := Lib.hid hs11
    have HX3 := Lib.hid (HX2.out.trans hx3)
    clear hs11 hx3 HX2 HK72 HK9 HCF
    go_wp2_with fail
    refine (HXC.out _).mono ?_
    rintro e w4 ⟨v13, rfl, hs13, hx4⟩
    have HK7 := Lib.hid (HK73.out.ext hx4)
    have HK9 := Lib.hid (HK93.out.ext hx4)
    have HS11' := Lib.hid (HS11.out.ext hx4)
    have HS13 := Lib.hid hs13
    have HX4 := Lib.hid (HX3.out.trans hx4)
    clear hs13 hx4 HX3 HK73 HK93 HXC HS11
    go_wp2_with fail
    refine (HSC.out v7 v9 xs w4 HK7.out HK9.out (by have : xs.length ≤ 62 := HML.out; omega)).mono ?_
    rintro e w5 ⟨rfl, hx5⟩
    have cv1 := run_convert_sl (HS11'.out.ext hx5)
    have cv2 := run_convert_sl (HS13.out.ext hx5)
    have HX5 := Lib.hid (HX4.out.trans hx5)
    clear hx5 HX4 HS11' HS13 HK7 HK9
    go_wp2_with fail
    refine (HEX.out _).mono ?_
    rintro e w6 ⟨rfl, hx6⟩
    have HX6 := Lib.hid (HX5.out.trans hx6)
    clear hx6 cv1 cv2
    go_wp2
    go_ret
    exact ⟨rfl, HX6.out⟩
end Go.Proofs.YtamkgbodifjlaaaGreatDoor
