/-
  Chapter 48, the law GlyphsReadings.
  No condition.
-/
import Derived.Test.YtamkgbodifjlaaaGreatDoorGlL3
import Derived.Test.YtamkgbodifjlaaaGreatDoorGlXA
import Derived.Test.YtamkgbodifjlaaaGreatDoorGlV3
import Derived.Test.YtamkgbodifjlaaaGreatDoorGlV4
import Derived.BigQuiet
namespace Go.Proofs.YtamkgbodifjlaaaGreatDoor
set_option linter.unusedVariables false
open Go.RowKit

set_option maxRecDepth 100000 in
set_option maxHeartbeats 2000000 in
theorem samel_any (lx ly lw lh : Int) (tx : ByteArray) (va vb : Value) (y k : Nat) (R : List (Nat × List Gl.Ch)) (w : World) (ha : LineAt w va y k R) (hb : LineAt w vb y k R) (hl : R.length ≤ 1000000) (hr : ∀ r ∈ R, r.2.length ≤ 1000) :
    Calls Tryz.prog 23 #[.agg #[.int .i64 lx, .int .i64 ly, .int .i64 lw, .int .i64 lh, .string tx, va], .agg #[.int .i64 lx, .int .i64 ly, .int .i64 lw, .int .i64 lh, .string tx, vb]] w fun e w' => e = .returned (.bool true) ∧ Ext w w' := by
  obtain ⟨ga, ka, la, fa⟩ := ha
  obtain ⟨gb, kb, lb, fb⟩ := hb
  obtain ⟨aa, ca, rfl⟩ := ka.form
  obtain ⟨ab, cb, rfl⟩ := kb.form
  obtain ⟨n, hn⟩ : ∃ n, R.length = n := ⟨_, rfl⟩
  rw [la, hn] at ka
  rw [lb, hn] at kb
  rw [la, lb, hn]
  rw [hn] at hl
  have HKA := Lib.hid ka
  have HKB := Lib.hid kb
  have HFA := Lib.hid fa
  have HFB := Lib.hid fb
  have HN := Lib.hid hn
  have HR := Lib.hid hr
  have HSC := Lib.hid samec_any
  have b1 : (lx == lx) = true := by simp
  have b2 : (ly == ly) = true := by simp
  have b3 : (lw == lw) = true := by simp
  have b4 : (lh == lh) = true := by simp
  clear ka kb fa fb hn hr la lb
  go_enter Tryz.func23, Tryz.ntmps23
  go_wp2
  go_loopw [5] (fun v5 wr => ∃ i : Nat, i ≤ n ∧ v5 = .int .i64 (i : Int) ∧ Ext ((w.alloc (.cells #[.int .i64 lx, .int .i64 ly, .int .i64 lw, .int .i64 lh, .string tx, .slice aa n ca] 45)).alloc (.cells #[.int .i64 lx, .int .i64 ly, .int .i64 lw, .int .i64 lh, .string tx, .slice ab n cb] 45)) wr) (fun v5 _ => n - (intOf v5).toNat)
  case atStart => exact ⟨0, Nat.zero_le _, rfl, Ext.refl _⟩
  case round =>
    obtain ⟨i, hi, rfl, hx⟩ := hrel
    have R1 := row_on (row_on (heap_alloc_new w (.cells #[.int .i64 lx, .int .i64 ly, .int .i64 lw, .int .i64 lh, .string tx, .slice aa n ca] 45)) ((Ext.refl _).alloc _)) hx
    have R2 := heap_alloc_new (w.alloc (.cells #[.int .i64 lx, .int .i64 ly, .int .i64 lw, .int .i64 lh, .string tx, .slice aa n ca] 45)) (.cells #[.int .i64 lx, .int .i64 ly, .int .i64 lw, .int .i64 lh, .string tx, .slice ab n cb] 45)
    rw [World.size_alloc] at R2
    have R3 := row_on R2 hx
    clear R2
    have m5 := cell_at R1 (i := 5) rfl
    have k5 := cell_at R3 (i := 5) rfl
    have hW : Ext w wr := ((((Ext.refl w).alloc _).alloc _).trans hx)
    have HX := Lib.hid hx
    by_cases hlt : i < n
    · have hltI : (i : Int) < (n : Int) := by omega
      obtain ⟨r, hri⟩ : ∃ r, R[i]? = some r := ⟨_, List.getElem?_eq_getElem (by rw [HN.out]; exact hlt)⟩
      obtain ⟨g1, c1, hg1, hk1⟩ := HFA.out i r hri
      obtain ⟨g2, c2, hg2, hk2⟩ := HFB.out i r hri
      obtain ⟨p1, o1, rfl, lt1, h1⟩ := (HKA.out.ext hW).at_ hg1
      obtain ⟨p2, o2, rfl, lt2, h2⟩ := (HKB.out.ext hW).at_ hg2
      have lt3 := lt_at R1
      have lt4 := lt_at R3
      have HC := Lib.hid (fun w' (hw : Ext wr w') => HSC.out _ _ r.2.tail w' (hk1.ext (hW.trans hw)) (hk2.ext (hW.trans hw)) (by have := HR.out r (List.mem_of_getElem? hri); rw [List.length_tail]; omega))
      obtain ⟨hd, hhd⟩ : ∃ hd, r.2.headD (0, 0) = hd := ⟨_, rfl⟩
      rw [hhd] at h1 h2
      obtain ⟨r1, r2⟩ := r
      obtain ⟨hc, hn⟩ := hd
      have x0 : wr.cell? ⟨p1, o1 + i * 7, none⟩ = some (.int .i64 (r1 : Int)) := h1 0 (by omega)
      have x1 : wr.cell? ⟨p1, o1 + i * 7 + 1, none⟩ = some (.int .i64 (y : Int)) := h1 1 (by omega)
      have x2 : wr.cell? ⟨p1, o1 + i * 7 + 2, none⟩ = some (.int .i64 ((5 * k : Nat) : Int)) := h1 2 (by omega)
      have x3 : wr.cell? ⟨p1, o1 + i * 7 + 3, none⟩ = some (.int .i64 ((7 * k : Nat) : Int)) := h1 3 (by omega)
      have x4 : wr.cell? ⟨p1, o1 + i * 7 + 4, none⟩ = some (.int .u8 (hc.toNat : Int)) := h1 4 (by omega)
      have x5 : wr.cell? ⟨p1, o1 + i * 7 + 5, none⟩ = some (.int .i64 hn) := h1 5 (by omega)
      have x6 : wr.cell? ⟨p1, o1 + i * 7 + 6, none⟩ = some (.slice (some ⟨g1, 2, none⟩) 61 c1) := h1 6 (by omega)
      have y0 : wr.cell? ⟨p2, o2 + i * 7, none⟩ = some (.int .i64 (r1 : Int)) := h2 0 (by omega)
      have y1 : wr.cell? ⟨p2, o2 + i * 7 + 1, none⟩ = some (.int .i64 (y : Int)) := h2 1 (by omega)
      have y2 : wr.cell? ⟨p2, o2 + i * 7 + 2, none⟩ = some (.int .i64 ((5 * k : Nat) : Int)) := h2 2 (by omega)
      have y3 : wr.cell? ⟨p2, o2 + i * 7 + 3, none⟩ = some (.int .i64 ((7 * k : Nat) : Int)) := h2 3 (by omega)
      have y4 : wr.cell? ⟨p2, o2 + i * 7 + 4, none⟩ = some (.int .u8 (hc.toNat : Int)) := h2 4 (by omega)
      have y5 : wr.cell? ⟨p2, o2 + i * 7 + 5, none⟩ = some (.int .i64 hn) := h2 5 (by omega)
      have y6 : wr.cell? ⟨p2, o2 + i * 7 + 6, none⟩ = some (.slice (some ⟨g2, 2, none⟩) 61 c2) := h2 6 (by omega)
      clear h1 h2 hg1 hg2 hk1 hk2 hri hhd R1 R3 hx hW
      go_wp2
      go_region
      all_goals
        go_wp2_with fail
        refine (HC.out _ (((Ext.refl wr).alloc _).alloc _).drew).mono ?_
        rintro e w2 ⟨rfl, hx2⟩
        have HX2 := Lib.hid (HX.out.trans (((((Ext.refl wr).alloc _).alloc _).drew).trans hx2))
        clear hx2
        go_wp2
        go_roundw
        case rel => exact ⟨i + 1, hlt, by go_num, HX2.out⟩
        case measure => simp [intOf]; omega
    · have hge : ¬ ((i : Int) < (n : Int)) := by omega
      clear hlt R1 R3 hx
      go_wp2
      go_ret
      exact ⟨rfl, (((Ext.refl w).alloc _).alloc _).trans HX.out⟩
set_option maxRecDepth 100000 in
set_option maxHeartbeats 2000000 in
theorem law_readings (W H : Int) (a : Option Addr) (n c : Nat) (m : List Bool) (bx bY bw bh k : Int) (w : World) (hv : SlK w (.slice a n c) (m.map encT)) (hm : m.length ≤ maxLen) :
    Calls Tryz.prog 5 #[.agg #[.int .i64 W, .int .i64 H, .slice a n c], .agg #[.int .i64 bx, .int .i64 bY, .int .i64 bw, .int .i64 bh], .int .i64 k] w fun e w' => e = .returned (.bool true) ∧ Ext w w' := by
  have HEX := Lib.hid example_any
  obtain ⟨_, a', c', e, hc⟩ := id hv
  rw [List.length_map] at e hc
  injection e with e1 e2 e3
  subst e1 e2 e3
  obtain ⟨n, hn⟩ : ∃ n, m.length = n := ⟨_, rfl⟩
  have HMA := Lib.hid (fun w' (h : Ext w w') => read_all W H a n c m bx bY bw bh k w' (by rw [← hn]; exact hv.ext h) hm hn)
  have HXM := Lib.hid (fun w' (h : Ext w w') => xread_all W H a n c m bx bY bw bh k w' (by rw [← hn]; exact hv.ext h) hm hn)
  have hn9 : n ≤ 9223372036854775807 := by unfold maxLen at hm; omega
  rw [hn]
  clear hv hm hc
  by_cases hbig : 2500 < n
  · have hb : decide ((2500 : Int) < (n : Int)) = true := decide_eq_true (by omega)
    clear HMA HXM hn
    go_enter Tryz.func5, Tryz.ntmps5
    go_wp2_with fail
    refine (HEX.out _).mono ?_
    rintro e w2 ⟨rfl, hx2⟩
    have HX : Hid (Ext w w2) := Lib.hid (((Ext.refl w).alloc _).trans (((Ext.refl _).alloc _).trans hx2))
    clear hx2
    go_wp2
    go_ret
    exact ⟨rfl, HX.out⟩
  · have hb : decide ((2500 : Int) < (n : Int)) = false := decide_eq_false (by omega)
    have HML := Lib.hid (Gl.readS_len W H m bx bY bw bh k)
    obtain ⟨⟨⟨z0, z1, z2, z3⟩, ry, rk, R, er⟩, hr⟩ : ∃ r, Gl.readS W H m bx bY bw bh k = r := ⟨_, rfl⟩
    rw [hr] at HMA HXM HML
    obtain ⟨tx, htx⟩ : ∃ tx, bS (Gl.textOf R) = tx := ⟨_, rfl⟩
    have HMB : Hid (∀ w', Ext w w' → Calls Tryz.prog 21 #[.agg #[.int .i64 W, .int .i64 H, .slice a n c], .agg #[.int .i64 bx, .int .i64 bY, .int .i64 bw, .int .i64 bh], .int .i64 k] w' fun e w'' => ∃ b l d, e = .returned (.tuple #[.agg #[.int .i64 z0, .int .i64 z1, .int .i64 z2, .int .i64 z3, .string tx, .slice b l d], .int .i64 er]) ∧ LineAt w'' (.slice b l d) ry rk R ∧ Ext w' w'') := Lib.hid (fun w' hx => (HMA.out w' hx).mono fun e w'' ⟨vg, he, hl, hy⟩ => by
      obtain ⟨gs, g1, g2, g3⟩ := hl
      obtain ⟨b, d, rfl⟩ := g1.form
      rw [← htx]
      exact ⟨b, _, d, he, ⟨gs, g1, g2, g3⟩, hy⟩)
    have HXB : Hid (∀ w', Ext w w' → Calls Tryz.prog 22 #[.agg #[.int .i64 W, .int .i64 H, .slice a n c], .agg #[.int .i64 bx, .int .i64 bY, .int .i64 bw, .int .i64 bh], .int .i64 k] w' fun e w'' => ∃ b l d, e = .returned (.tuple #[.agg #[.int .i64 z0, .int .i64 z1, .int .i64 z2, .int .i64 z3, .string tx, .slice b l d], .int .i64 er]) ∧ LineAt w'' (.slice b l d) ry rk R ∧ Ext w' w'') := Lib.hid (fun w' hx => (HXM.out w' hx).mono fun e w'' ⟨vg, he, hl, hy⟩ => by
      obtain ⟨gs, g1, g2, g3⟩ := hl
      obtain ⟨b, d, rfl⟩ := g1.form
      rw [← htx]
      exact ⟨b, _, d, he, ⟨gs, g1, g2, g3⟩, hy⟩)
    have HSL := Lib.hid (fun va vb w' ha hb => samel_any z0 z1 z2 z3 tx va vb ry rk R w' ha hb (by have := HML.out.1; dsimp only at this; omega) (fun r hr => by have := HML.out.2 r hr; omega))
    clear hr hn hbig HMA HXM htx
    go_enter Tryz.func5, Tryz.ntmps5
    go_wp2_with fail
    refine (HMB.out _ (((Ext.refl w).alloc _).alloc _)).mono ?_
    rintro e w1 ⟨b7, l7, d7, rfl, hl7, hx1⟩
    have HM1 := Lib.hid (row_on (row_on (row_on (heap_alloc_new w (.cells #[.int .i64 W, .int .i64 H, .slice a n c] 24)) ((Ext.refl _).alloc (.cells #[.int .i64 bx, .int .i64 bY, .int .i64 bw, .int .i64 bh] 26))) hx1) ((Ext.refl w1).alloc (.cells #[.int .i64 z0, .int .i64 z1, .int .i64 z2, .int .i64 z3, .string tx, .slice b7 l7 d7] 45)))
    have hb1 := heap_alloc_new (w.alloc (.cells #[.int .i64 W, .int .i64 H, .slice a n c] 24)) (.cells #[.int .i64 bx, .int .i64 bY, .int .i64 bw, .int .i64 bh] 26)
    rw [World.size_alloc] at hb1
    have HB1 := Lib.hid (row_on (row_on hb1 hx1) ((Ext.refl w1).alloc (.cells #[.int .i64 z0, .int .i64 z1, .int .i64 z2, .int .i64 z3, .string tx, .slice b7 l7 d7] 45)))
    have HX1 : Hid (Ext w (w1.alloc (.cells #[.int .i64 z0, .int .i64 z1, .int .i64 z2, .int .i64 z3, .string tx, .slice b7 l7 d7] 45))) := Lib.hid (((((Ext.refl w).alloc _).alloc _).trans hx1).alloc _)
    have HT1 := Lib.hid (heap_alloc_new w1 (.cells #[.int .i64 z0, .int .i64 z1, .int .i64 z2, .int .i64 z3, .string tx, .slice b7 l7 d7] 45))
    have HL7 := Lib.hid hl7
    have m0 := cell_at HM1.out (i := 0) rfl
    have m1 := cell_at HM1.out (i := 1) rfl
    have m2 := cell_at HM1.out (i := 2) rfl
    have q0 := cell_at HB1.out (i := 0) rfl
    have q1 := cell_at HB1.out (i := 1) rfl
    have q2 := cell_at HB1.out (i := 2) rfl
    have q3 := cell_at HB1.out (i := 3) rfl
    clear hl7 hx1 hb1
    go_wp2_with fail
    refine (HXB.out _ HX1.out).mono ?_
    rintro e w2 ⟨b9, l9, d9, rfl, hl9, hx2⟩
    have HX2 := Lib.hid ((HX1.out.trans hx2).alloc (.cells #[.int .i64 z0, .int .i64 z1, .int .i64 z2, .int .i64 z3, .string tx, .slice b9 l9 d9] 45))
    have HT2 := Lib.hid (row_on HT1.out (hx2.trans ((Ext.refl w2).alloc (.cells #[.int .i64 z0, .int .i64 z1, .int .i64 z2, .int .i64 z3, .string tx, .slice b9 l9 d9] 45))))
    have hx2' := ((Ext.refl w1).alloc (.cells #[.int .i64 z0, .int .i64 z1, .int .i64 z2, .int .i64 z3, .string tx, .slice b7 l7 d7] 45)).trans (hx2.trans ((Ext.refl w2).alloc (.cells #[.int .i64 z0, .int .i64 z1, .int .i64 z2, .int .i64 z3, .string tx, .slice b9 l9 d9] 45)))
    have HL7' : Hid (LineAt (w2.alloc (.cells #[.int .i64 z0, .int .i64 z1, .int .i64 z2, .int .i64 z3, .string tx, .slice b9 l9 d9] 45)) (.slice b7 l7 d7) ry rk R) := Lib.hid (by
      obtain ⟨gs, g1, g2, g3⟩ := HL7.out
      exact ⟨gs, g1.ext hx2', g2, fun i r hi => by obtain ⟨g, c, h1, h2⟩ := g3 i r hi; exact ⟨g, c, h1, h2.ext hx2'⟩⟩)
    have HL9' : Hid (LineAt (w2.alloc (.cells #[.int .i64 z0, .int .i64 z1, .int .i64 z2, .int .i64 z3, .string tx, .slice b9 l9 d9] 45)) (.slice b9 l9 d9) ry rk R) := Lib.hid (by
      obtain ⟨gs, g1, g2, g3⟩ := hl9
      exact ⟨gs, g1.ext ((Ext.refl _).alloc _), g2, fun i r hi => by obtain ⟨g, c, h1, h2⟩ := g3 i r hi; exact ⟨g, c, h1, h2.ext ((Ext.refl _).alloc _)⟩⟩)
    have t0 := cell_at HT2.out (i := 0) rfl
    have t1 := cell_at HT2.out (i := 1) rfl
    have t2 := cell_at HT2.out (i := 2) rfl
    have t3 := cell_at HT2.out (i := 3) rfl
    have t4 := cell_at HT2.out (i := 4) rfl
    have t5 := cell_at HT2.out (i := 5) rfl
    have be : (er == er) = true := by simp
    clear hl9 hx2 hx2' m0 m1 m2 q0 q1 q2 q3 HM1 HB1
    go_wp2_with fail
    refine (HSL.out _ _ _ HL7'.out HL9'.out).mono ?_
    rintro e w4 ⟨rfl, hx4⟩
    have HX4 := Lib.hid (HX2.out.trans hx4)
    clear hx4 t0 t1 t2 t3 t4 t5
    go_wp2_with fail
    refine (HEX.out _).mono ?_
    rintro e w5 ⟨rfl, hx5⟩
    have HX5 := Lib.hid (HX4.out.trans hx5)
    clear hx5
    go_wp2
    go_ret
    exact ⟨rfl, HX5.out⟩
end Go.Proofs.YtamkgbodifjlaaaGreatDoor
