/-
  Chapter 12: the law TwowidthDetects, walked.
  Condition: the text is within the reach.
-/
import Derived.Test.YtlocohcbfpeddaaTwL3
import Derived.Deep.RegionHeld3
namespace Go.Proofs.Ytlocohcbfpeddaa
open Go.RowKit

theorem wide_turned (e : List UInt8) (r : Int) (hr : r = 2 ∨ r = 3) (h0 : 110 ∈ e) (h1 : 119 ∈ e) : Tw.wide (Tw.widths r e) = (isW e, 0) := by
  have := wide_scaled e r 1 hr (by omega) h0 h1
  simpa using this
theorem widths_turn (r : Int) (e : List UInt8) (p : Nat) (hp : p < e.length) (hnw : NW e) : (Tw.widths r e).set p (1 + r - (Tw.widths r e).getD p 0) = Tw.widths r (turnAt e p) := by
  unfold Tw.widths turnAt
  rw [List.map_set]
  congr 1
  have hg : (e.map fun c => if c = 119 then r else 1).getD p 0 = if e.getD p 0 = 119 then r else 1 := by
    rw [List.getD_eq_getElem?_getD, List.getElem?_map, List.getD_eq_getElem?_getD, List.getElem?_eq_getElem hp]; rfl
  rw [hg]
  unfold turn
  rcases hnw _ (getD_mem' e p hp) with h | h
  · rw [h, show (if (110 : UInt8) = 119 then r else 1) = 1 from rfl, show (if (110 : UInt8) = 119 then (110 : UInt8) else 119) = 119 from rfl, if_pos rfl]; omega
  · rw [h, if_pos rfl, show (if (119 : UInt8) = 119 then (110 : UInt8) else 119) = 110 from rfl, show (if (110 : UInt8) = 119 then r else 1) = 1 from rfl]; omega
theorem Own.cells {t : TypeId} {w : World} {B : Nat} {v : Value} {xs : List Value} (h : Own t w B v xs) (hne : xs ≠ []) :
    ∃ g cap, v = .slice (some ⟨g, 0, none⟩) xs.length cap ∧ B ≤ g ∧ g < w.heap.size ∧ (∀ i, i < xs.length → w.cell? ⟨g, i, none⟩ = xs[i]?) ∧ (∀ i, w.frozen? ⟨g, i, none⟩ = false) ∧
      ∀ p u, p < xs.length → Own t (w.setCell ⟨g, p, none⟩ u) B v (xs.set p u) := by
  have hh := h
  rcases h.2 with ⟨_, h0⟩ | ⟨g, cap, cur, hv, hbase, hb, h1, h2, h3, h4⟩
  · exact absurd (List.eq_nil_of_length_eq_zero h0) hne
  · refine ⟨g, cap, hv, hbase, (Array.getElem?_eq_some_iff.1 hb).1, fun i hi => ?_, fun i => by simp [World.frozen?, hb], fun p u hp => ?_⟩
    · unfold Own at hh
      rw [hv] at hh
      rw [hh.cellAt i (by omega)]
    · refine ⟨by simp, .inr ⟨g, cap, cur.setIfInBounds p u, by rw [List.length_set]; exact hv, hbase, ?_, by rw [List.length_set]; exact h1, h2, by simpa using h3, ?_⟩⟩
      · simp [World.setCell, Array.getElem?_modify, hb]
      · rw [List.length_set, Array.toList_setIfInBounds, List.take_set, h4]

set_option maxRecDepth 100000 in
set_option maxHeartbeats 4000000 in
theorem law_detects (kind : Int) (s : ByteArray) (r : Int) (check : Bool) (addon : ByteArray) (bY : Int) (w : World) (hs : s.size ≤ 9223372036854775807) (hby : 0 ≤ bY ∧ bY ≤ 65535) :
    Calls Try.prog 6 #[.agg #[.int .i64 kind, .string s, .int .i64 r, .bool check, .string addon], .int .u16 bY] w fun e w' => e = .returned (.bool true) ∧ Ext w w' := by
  obtain ⟨hy0, hy1⟩ := hby
  have HE := Lib.hid (fun w => encoded_any kind s r check addon w hs)
  by_cases h0 : encd kind s.data.toList r check = []
  · rw [h0] at HE
    clear h0
    go_enter Try.func6, Try.ntmps6
    go_wp2_with fail
    refine (HE.out _).mono ?_
    rintro e w1 ⟨v, rfl, hsl, hx1⟩
    obtain ⟨a, c, rfl⟩ := hsl.form
    simp only [List.map_nil, List.length_nil]
    clear hsl
    go_wp2_with fail
    refine (example_any _).mono ?_
    rintro e w2 ⟨rfl, hx2⟩
    go_wp2
    go_ret
    exact ⟨rfl, (((Ext.refl w).alloc _).trans hx1).trans hx2⟩
  · obtain ⟨k, chars, hk, hc, hws, hr, hsy, hel⟩ := encd_sym kind s.data.toList r check h0
    have hwl : (encd kind s.data.toList r check).length = (Tw.drawK k chars).length := by rw [hws]; simp [Tw.widths]
    have hpos : 0 < (encd kind s.data.toList r check).length := List.length_pos_iff.2 h0
    obtain ⟨p, hp, hpl⟩ : ∃ p : Nat, bY % ((encd kind s.data.toList r check).length : Int) = (p : Int) ∧ p < (encd kind s.data.toList r check).length := by
      refine ⟨(bY % ((encd kind s.data.toList r check).length : Int)).toNat, ?_, ?_⟩
      · rw [Int.toNat_of_nonneg (Int.emod_nonneg _ (by omega))]
      · have := Int.emod_lt_of_pos bY (show 0 < ((encd kind s.data.toList r check).length : Int) by omega)
        have := Int.emod_nonneg bY (show ((encd kind s.data.toList r check).length : Int) ≠ 0 by omega)
        omega
    have HDC : Hid ((Tw.dec kind ((encd kind s.data.toList r check).set p (1 + r - (encd kind s.data.toList r check).getD p 0)) check).1 = [] ∧ (Tw.dec kind ((encd kind s.data.toList r check).set p (1 + r - (encd kind s.data.toList r check).getD p 0)) check).2 ≠ 0) := Lib.hid (by
      rw [dec_kind kind k hk, hws, widths_turn r _ p (by omega) hsy.nw]
      exact dec_turned k _ check chars hsy p (by omega) _ (wide_turned _ r hr (hsy.both p).2.1 (hsy.both p).2.2) (by simp [Tw.widths, turnAt_len]))
    have hbd := widths_bd r (Tw.drawK k chars) hr
    rw [← hws] at hbd
    have HBD := Lib.hid hbd
    have HN0 := Lib.hid h0
    rw [← hwl] at hel
    obtain ⟨hr1, hr2⟩ : 2 ≤ r ∧ r ≤ 3 := by omega
    clear hws hwl hbd hsy hc hk h0 hr
    generalize encd kind s.data.toList r check = ws at *
    go_enter Try.func6, Try.ntmps6
    go_wp2_with fail
    refine (HE.out _).mono ?_
    rintro e w1 ⟨v, rfl, hsl, hx1⟩
    rcases hsl with ⟨h1, _⟩ | ⟨b, off, cap, rfl, hb, hcell⟩
    · exact absurd (by simpa using h1) HN0.out
    rw [List.length_map] at hcell ⊢
    have FJ : Hid (∀ w', Ext w1 w' → w'.cell? ⟨w.heap.size, 0, none⟩ = some (.int .i64 kind) ∧ w'.cell? ⟨w.heap.size, 2, none⟩ = some (.int .i64 r) ∧ w'.cell? ⟨w.heap.size, 3, none⟩ = some (.bool check)) := Lib.hid (fun w' hx => by
      refine ⟨?_, ?_, ?_⟩
      · rw [(hx1.trans hx).cell (p := ⟨w.heap.size, 0, none⟩) (by simp)]; simp [go_sem]
      · rw [(hx1.trans hx).cell (p := ⟨w.heap.size, 2, none⟩) (by simp)]; simp [go_sem]
      · rw [(hx1.trans hx).cell (p := ⟨w.heap.size, 3, none⟩) (by simp)]; simp [go_sem])
    have hw1 : w.heap.size < w1.heap.size := by have := hx1.size; simp at this; omega
    have hxw : Ext w w1 := ((Ext.refl w).alloc _).trans hx1
    have hlb : ((ws.length : Int) == 0) = false := beq_eq_false_iff_ne.2 (by omega)
    clear hx1 HE
    go_wp2_with (at_builtin; refine wpList_append_vals rfl _ _ 30 3 (.int .i64 0) 8 rfl Try.underlying30 info_int rfl (by decide) w1.heap.size _ [] rfl (Own.nil _ _ _) b off ws.length cap (ws.map encI) rfl ?c1 ?c2 ?c3 ?c4 ?c5 ?_)
    case c1 => simp
    case c2 =>
      intro j u hj
      have hjl : j < ws.length := by have := (List.getElem?_eq_some_iff.1 hj).1; simpa using this
      rw [hcell j hjl]; exact hj
    case c3 => intro u hu; rw [List.mem_map] at hu; obtain ⟨x, _, rfl⟩ := hu; rfl
    case c4 => simp; omega
    case c5 => exact Nat.le_refl _
    intro v2 w2 hown hg
    have hx2 : Ext w1 w2 := (Ext.refl w1).ofGrown hg (by simp [Value.ownBlock])
    obtain ⟨g, cap2, rfl, hg1, hg2, hgc, hgf, hgs⟩ := hown.cells (by simpa using HN0.out)
    rw [List.length_map] at hgc hgs ⊢
    have hgp : w2.cell? ⟨g, p, none⟩ = some (.int .i64 (ws.getD p 0)) := by
      rw [hgc p hpl, List.getElem?_map, List.getD_eq_getElem?_getD, List.getElem?_eq_getElem hpl]; rfl
    have hgfz := hgf p
    obtain ⟨j0, j2, j3⟩ := FJ.out w2 hx2
    obtain ⟨b1, b2⟩ := HBD.out _ (getD_mem ws p hpl)
    have hne : g ≠ w.heap.size := by omega
    have hset := hgs p (encI (1 + r - ws.getD p 0)) (by rw [List.length_map] at *; exact hpl)
    rw [← List.map_set] at hset
    have HSET := Lib.hid hset
    have hx3 := hx2.setCell (p := ⟨g, p, none⟩) hg1 (encI (1 + r - ws.getD p 0))
    have HX3 := Lib.hid hx3
    clear hset hx3 hgc hgf hgs hown hg hcell
    generalize hws2 : ws.set p (1 + r - ws.getD p 0) = ws2 at *
    have hl2 : ws2.length = ws.length := by rw [← hws2]; simp
    clear hws2
    generalize ws.getD p 0 = x at *
    have HD := Lib.hid (decode_any kind _ ws2 check _ HSET.out.drew.sl (by omega))
    obtain ⟨hd1, hd2⟩ := HDC.out
    have hdn : ((Tw.dec kind ws2 check).2 != 0) = true := bne_iff_ne.2 hd2
    rw [show Tw.dec kind ws2 check = ([], (Tw.dec kind ws2 check).2) from Prod.ext hd1 rfl] at HD
    generalize (Tw.dec kind ws2 check).2 = ee at *
    obtain ⟨i0, i2, i3⟩ := FJ.out _ HX3.out.drew
    unfold encI at HSET HX3 HD i0 i2 i3
    clear hd1 hd2 HDC
    go_wp2
    rw [hp]
    clear hp
    go_region
    all_goals
      go_wp2_with fail
      refine HD.out.mono ?_
      rintro e w3 ⟨rfl, hx3⟩
      unfold strV
      go_wp2_with fail
      refine (example_any _).mono ?_
      rintro e w4 ⟨rfl, hx4⟩
      go_wp2
      go_ret
      exact ⟨rfl, ((hxw.trans HX3.out.drew).trans hx3).trans hx4⟩
end Go.Proofs.Ytlocohcbfpeddaa
