/-
  Chapter 48, the law GlyphsCopies.
  No condition.
-/
import Derived.Test.YtamkgbodifjlaaaGreatDoorGlL0
import Derived.Test.YtamkgbodifjlaaaGreatDoorGlL4
import Derived.Test.YtamkgbodifjlaaaGreatDoorGlV3
import Derived.Test.YtamkgbodifjlaaaGreatDoorGlXa
import Derived.Test.YtamkgbodifjlaaaGreatDoorGlYa
import Derived.Laws.OwnMore
import Derived.BigQuiet
namespace Go.Proofs.YtamkgbodifjlaaaGreatDoor
set_option linter.unusedVariables false
open Go.RowKit

set_option maxRecDepth 100000 in
set_option maxHeartbeats 4000000 in
theorem xequal_any (W H : Int) (v u : Value) (m : List Bool) (w : World) (hv : Sl w v (m.map encT)) (hu : Sl w u (m.map encT)) (hl : m.length ≤ 1000000) : Calls Tryz.prog 28 #[.agg #[.int .i64 W, .int .i64 H, v], .agg #[.int .i64 W, .int .i64 H, u]] w fun e w' => e = .returned (.bool true) ∧ Ext w w' := by
  obtain ⟨a, c, rfl⟩ := hv.form
  obtain ⟨b, d, rfl⟩ := hu.form
  have HV := Lib.hid hv
  have HU := Lib.hid hu
  obtain ⟨n, hn⟩ : ∃ n, m.length = n := ⟨_, rfl⟩
  rw [List.length_map, hn] at HV HU ⊢
  rw [hn] at hl
  have HN := Lib.hid hn
  have hbW : (W != W) = false := by simp
  have hbH : (H != H) = false := by simp
  have hbn : ((n : Int) != (n : Int)) = false := by simp
  clear hv hu hn
  go_enter Tryz.func28, Tryz.ntmps28
  go_wp2
  go_loopw [5] (fun v5 wr => ∃ i : Nat, i ≤ n ∧ v5 = .int .i64 (i : Int) ∧ Ext ((w.alloc (.cells #[.int .i64 W, .int .i64 H, .slice a n c] 24)).alloc (.cells #[.int .i64 W, .int .i64 H, .slice b n d] 24)) wr) (fun v5 _ => n - (intOf v5).toNat)
  case atStart => exact ⟨0, Nat.zero_le _, rfl, Ext.refl _⟩
  case round =>
    obtain ⟨i, hi, rfl, hx⟩ := hrel
    have R1 := row_on (row_on (heap_alloc_new w (.cells #[.int .i64 W, .int .i64 H, .slice a n c] 24)) ((Ext.refl _).alloc _)) hx
    have R2 := heap_alloc_new (w.alloc (.cells #[.int .i64 W, .int .i64 H, .slice a n c] 24)) (.cells #[.int .i64 W, .int .i64 H, .slice b n d] 24)
    rw [World.size_alloc] at R2
    have R2 := row_on R2 hx
    have m2 := cell_at R1 (i := 2) rfl
    have k2 := cell_at R2 (i := 2) rfl
    have HX := Lib.hid hx
    by_cases hlt : i < n
    · have hltI : (i : Int) < (n : Int) := by omega
      obtain ⟨x, hxx⟩ : ∃ x, m[i]? = some x := ⟨_, List.getElem?_eq_getElem (by rw [HN.out]; exact hlt)⟩
      have hW : Ext w wr := ((((Ext.refl w).alloc _).alloc _).trans hx)
      obtain ⟨b1, o1, rfl, _, h1⟩ := (HV.out.ext hW).at_ (k := i) (by rw [List.length_map, HN.out]; exact hlt)
      obtain ⟨b2, o2, rfl, _, h2⟩ := (HU.out.ext hW).at_ (k := i) (by rw [List.length_map, HN.out]; exact hlt)
      rw [List.getElem_map, (List.getElem?_eq_some_iff.1 hxx).2] at h1 h2
      have p1 : wr.cell? ⟨b1, o1 + i, none⟩ = some (.bool x) := h1
      have p2 : wr.cell? ⟨b2, o2 + i, none⟩ = some (.bool x) := h2
      clear h1 h2 hxx hW R1 R2 hx
      go_wp2
      go_quiet (fail)
      go_wp2
      go_roundw
      case rel => exact ⟨i + 1, hlt, by go_num, HX.out.drewN _⟩
      case measure => simp [intOf]; omega
    · have hge : ¬ ((i : Int) < (n : Int)) := by omega
      clear hlt R1 R2 hx
      go_wp2
      go_ret
      exact ⟨rfl, (((Ext.refl w).alloc _).alloc _).trans HX.out⟩
theorem enc_oneT (m : List Bool) : ∀ y ∈ m.map encT, y.oneCell' = true := by
  intro y hy
  obtain ⟨b, _, rfl⟩ := List.mem_map.1 hy
  rfl
set_option maxRecDepth 10000 in
theorem run_copy_bools {w : World} (ty : TypeId) (a : Option Addr) (n c : Nat) (m : List Bool) (hv : Sl w (.slice a n c) (m.map encT)) (hn : m.length = n) (ha : a = none → c = 0) (hm : n ≤ 1000000) :
    ∃ v' w', (Builtin.append_ #[22, 22] ty #[.slice none 0 0, .slice a n c]).run Tryz.prog w = .ok v' w' ∧ Own 4 w' w.heap.size v' (m.map encT) ∧ Ext w w' := by
  obtain ⟨i0, hi, hz0, hz1, hz2⟩ := info_parts info_bool
  cases a with
  | none =>
    obtain rfl := ha rfl
    have h0 : m.map encT = [] := by
      rcases hv with ⟨h, _⟩ | ⟨b, o, cp, h, _⟩
      · exact h
      · cases h
    have hm0 : m = [] := by simpa using h0
    subst hm0
    subst hn
    have h := run_append_owned_none (P := Tryz.prog) (w := w) w.heap.size 22 ty 4 i0 1 Tryz.underlying22 hi (.slice none 0 0) 0 [] (World.ownsRow_nil _ _ _ _)
    exact ⟨_, _, h, Own.nil _ _ _, Ext.refl _⟩
  | some a =>
    have hnews : ∀ j u, (m.map encT)[j]? = some u → w.cell? (a.add j) = some u := fun j u hj => by
      rcases hv with ⟨h, _⟩ | ⟨b, o, cp, h, hb, hc⟩
      · rw [h] at hj; cases hj
      · injection h with e1 e2 e3
        injection e1 with e1
        subst e1
        rw [add_off]
        have hjl := (List.getElem?_eq_some_iff.1 hj).1
        rw [hc j hjl]
        exact hj
    obtain ⟨v', w', h2, h3, h4, _⟩ := run_append_own (P := Tryz.prog) w w.heap.size 22 ty 4 i0 (.bool false) 1 1 Tryz.underlying22 hi hz0 hz1 hz2 rfl (by decide) (.slice none 0 0) 0 [] (World.ownsRow_nil _ _ _ _) a n c (m.map encT) (by rw [List.length_map, hn, Nat.mul_one]) hnews (enc_oneT m) (by unfold maxLen; omega) (by omega) (Nat.le_refl _)
    refine ⟨v', w', h2, ?_, (Ext.refl w).ofGrown h4 (fun k hk => by cases hk)⟩
    unfold Own
    rw [List.length_map, hn]
    simpa using h3
set_option maxRecDepth 100000 in
set_option maxHeartbeats 4000000 in
theorem law_copies (W H : Int) (a : Option Addr) (n c : Nat) (m : List Bool) (bx bY bw bh k : Int) (w : World) (hv : SlK w (.slice a n c) (m.map encT)) (hm : m.length ≤ maxLen) (ha : a = none → c = 0) (h0 : 0 ≤ k) (h1 : k ≤ 255) :
    Calls Tryz.prog 10 #[.agg #[.int .i64 W, .int .i64 H, .slice a n c], .agg #[.int .i64 bx, .int .i64 bY, .int .i64 bw, .int .i64 bh], .int .u8 k] w fun e w' => e = .returned (.bool true) ∧ Ext w w' := by
  obtain ⟨k, rfl⟩ : ∃ k' : Nat, k = k' := ⟨k.toNat, by omega⟩
  obtain ⟨q, hq⟩ : ∃ q, k % 64 = q := ⟨_, rfl⟩
  have eq1 : (k : Int) % 64 = (q : Int) := by omega
  have eq2 : 1 + (q : Int) = ((1 + q : Nat) : Int) := by omega
  obtain ⟨r, hr⟩ : ∃ r, 1 + q = r := ⟨_, rfl⟩
  rw [hr] at eq2
  have hq1 : q ≤ 63 := by omega
  have HEX := Lib.hid example_any
  obtain ⟨_, a', c', e, hc⟩ := id hv
  rw [List.length_map] at e hc
  injection e with e1 e2 e3
  subst e1 e2 e3
  have HV := Lib.hid hv
  obtain ⟨n, hn⟩ : ∃ n, m.length = n := ⟨_, rfl⟩
  have HLN := Lib.hid (fun w' (h : Ext w w') => lines_tot W H a n c m w' (by rw [← hn]; exact hv.ext h) hm)
  have HRD := Lib.hid (fun w' (h : Ext w w') => read_tot W H a n c m bx bY bw bh (r : Int) w' (by rw [← hn]; exact hv.ext h) hm hn)
  have hn9 : n ≤ 9223372036854775807 := by unfold maxLen at hm; omega
  rw [hn] at HV ⊢
  clear hv hm hc h0 h1 hq hr
  by_cases hbig : 2500 < n
  · have hb : decide ((2500 : Int) < (n : Int)) = true := decide_eq_true (by omega)
    clear HLN HRD hn
    go_enter Tryz.func10, Tryz.ntmps10
    go_wp2_with fail
    refine (HEX.out _).mono ?_
    rintro e w2 ⟨rfl, hx2⟩
    have HX : Hid (Ext w w2) := Lib.hid (((Ext.refl w).alloc _).trans (((Ext.refl _).alloc _).trans hx2))
    clear hx2
    go_wp2
    go_ret
    exact ⟨rfl, HX.out⟩
  · have hb : decide ((2500 : Int) < (n : Int)) = false := decide_eq_false (by omega)
    have HN := Lib.hid hn
    have hn25 : n ≤ 2500 := by omega
    obtain ⟨W0, hW0⟩ : ∃ W0, (w.alloc (.cells #[.int .i64 W, .int .i64 H, .slice a n c] 24)).alloc (.cells #[.int .i64 bx, .int .i64 bY, .int .i64 bw, .int .i64 bh] 26) = W0 := ⟨_, rfl⟩
    have hx0 : Ext w W0 := by rw [← hW0]; exact ((Ext.refl w).alloc _).alloc _
    obtain ⟨v', w', hrun, hown, hxc⟩ := run_copy_bools (w := W0) 22 a n c m (HV.out.1.ext hx0) hn ha (by omega)
    obtain ⟨av, cv, hfv⟩ := hown.sl.form
    rw [List.length_map, hn] at hfv
    subst hfv
    have hM0 : W0.heap[w.heap.size]? = some (.cells #[.int .i64 W, .int .i64 H, .slice a n c] 24 (0, 0)) := by rw [← hW0]; exact row_on (heap_alloc_new w _) ((Ext.refl _).alloc _)
    have hB0 : W0.heap[w.heap.size + 1]? = some (.cells #[.int .i64 bx, .int .i64 bY, .int .i64 bw, .int .i64 bh] 26 (0, 0)) := by
      rw [← hW0]
      have := heap_alloc_new (w.alloc (.cells #[.int .i64 W, .int .i64 H, .slice a n c] 24)) (.cells #[.int .i64 bx, .int .i64 bY, .int .i64 bw, .int .i64 bh] 26)
      rw [World.size_alloc] at this
      exact this
    have HM1 := Lib.hid (row_on hM0 hxc)
    have HB1 := Lib.hid (row_on hB0 hxc)
    have HO := Lib.hid hown
    have HX1 := Lib.hid (hx0.trans hxc)
    have c2 := cell_at hM0 (i := 2) rfl
    clear hM0 hB0 hown hx0 hxc hn hbig
    have m0 := cell_at HM1.out (i := 0) rfl
    have m1 := cell_at HM1.out (i := 1) rfl
    have m2 := cell_at HM1.out (i := 2) rfl
    have HRUN := Lib.hid hrun
    have HE0 := Lib.hid hW0
    have hcmpR : Hid (∀ w'', Ext w' w'' → Calls Tryz.prog 28 #[.agg #[.int .i64 W, .int .i64 H, .slice a n c], .agg #[.int .i64 W, .int .i64 H, .slice av n cv]] w'' fun e wz => e = .returned (.bool true) ∧ Ext w'' wz) := Lib.hid (fun w'' hx => xequal_any W H (.slice a n c) (.slice av n cv) m w'' (HV.out.1.ext (HX1.out.trans hx)) (HO.out.sl.ext hx) (by have := HN.out; omega))
    clear hrun hW0
    go_enter Tryz.func10, Tryz.ntmps10
    go_wp2_with (at_builtin; refine wpList_append_run rfl _ _ 22 rfl _ _ _ _ rfl rfl (by rw [HE0.out]; exact HRUN.out) ?_)
    refine (HLN.out _ HX1.out).mono ?_
    rintro e w2 ⟨v2, rfl, _, hx2⟩
    have HX2 := Lib.hid (HX1.out.trans hx2)
    have HM2 := Lib.hid (row_on HM1.out hx2)
    have HB2 := Lib.hid (row_on HB1.out hx2)
    have HY2 := Lib.hid hx2
    clear m0 m1 m2 hx2 c2
    have m0 := cell_at HM2.out (i := 0) rfl
    have m1 := cell_at HM2.out (i := 1) rfl
    have m2 := cell_at HM2.out (i := 2) rfl
    have l0 := cell_at HB2.out (i := 0) rfl
    have l1 := cell_at HB2.out (i := 1) rfl
    have l2 := cell_at HB2.out (i := 2) rfl
    have l3 := cell_at HB2.out (i := 3) rfl
    go_wp2_with fail
    refine (HRD.out _ HX2.out).mono ?_
    rintro e w3 ⟨v3, er3, rfl, hx3⟩
    have HX3 := Lib.hid (HX2.out.trans hx3)
    have HM3 := Lib.hid (row_on HM2.out hx3)
    have HY3 := Lib.hid (HY2.out.trans hx3)
    clear m0 m1 m2 l0 l1 l2 l3 hx3
    have m0 := cell_at HM3.out (i := 0) rfl
    have m1 := cell_at HM3.out (i := 1) rfl
    have m2 := cell_at HM3.out (i := 2) rfl
    go_wp2_with fail
    refine (hcmpR.out _ HY3.out).mono ?_
    rintro e w4 ⟨rfl, hx4⟩
    have HX4 := Lib.hid (HX3.out.trans hx4)
    clear m0 m1 m2 hx4
    go_wp2_with fail
    refine (HEX.out _).mono ?_
    rintro e w5 ⟨rfl, hx5⟩
    have HX5 := Lib.hid (HX4.out.trans hx5)
    clear hx5
    go_wp2
    go_ret
    exact ⟨rfl, HX5.out⟩
end Go.Proofs.YtamkgbodifjlaaaGreatDoor
