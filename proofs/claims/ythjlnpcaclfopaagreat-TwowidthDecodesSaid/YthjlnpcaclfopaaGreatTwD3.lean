/-
  Chapter 12: the reference's characters, walked.
  Condition: the elements are readable, and as many as whole characters take.
-/
import Derived.Test.YthjlnpcaclfopaaGreatTwD2
import Derived.Test.YthjlnpcaclfopaaGreatTwRm
namespace Go.Proofs.YthjlnpcaclfopaaGreat
open Go.RowKit

theorem Own.open_ {t : TypeId} {w : World} {B : Nat} {v : Value} {xs : List Value} (h : Own t w B v xs) (hpos : 0 < xs.length) :
    ∃ g cap, v = .slice (some ⟨g, 0, none⟩) xs.length cap ∧ xs.length ≤ cap ∧ cap ≤ maxLen ∧ g < w.heap.size ∧ ∀ i, i < xs.length → w.cell? ⟨g, i, none⟩ = xs[i]? := by
  have hh := h
  rcases h.2 with ⟨_, h0⟩ | ⟨g, cap, cur, hv, hbase, hb, h1, h2, h3, h4⟩
  · omega
  · refine ⟨g, cap, hv, h1, h2, (Array.getElem?_eq_some_iff.1 hb).1, fun i hi => ?_⟩
    unfold Own at hh
    rw [hv] at hh
    rw [hh.cellAt i (by omega)]
theorem sub_sl {w : World} {g : Nat} {bits : List Bool} (hc : ∀ i, i < bits.length → w.cell? ⟨g, i, none⟩ = some (.bool (bits.getD i false))) (hg : g < w.heap.size) (p z c : Nat) (h : p + z ≤ bits.length) :
    Sl w (.slice (some ⟨g, p, none⟩) z c) (((bits.drop p).take z).map encT) := by
  have hl : (((bits.drop p).take z).map encT).length = z := by rw [List.length_map, List.length_take, List.length_drop]; omega
  refine .inr ⟨g, p, c, by rw [hl], hg, fun i hi => ?_⟩
  rw [hl] at hi
  rw [hc (p + i) (by omega), List.getElem?_map, List.getElem?_take, if_pos hi, List.getElem?_drop, List.getD_eq_getElem?_getD, List.getElem?_eq_getElem (show p + i < bits.length by omega)]
  rfl
theorem elems_len (l : List Bool) : (Tw.elems l).length = l.length := List.length_map _
theorem elems_cut (l : List Bool) (p z : Nat) : ((Tw.elems l).drop p).take z = Tw.elems ((l.drop p).take z) := by
  unfold Tw.elems; rw [← List.map_drop, ← List.map_take]
theorem elems_119 (l : List Bool) (i : Nat) (h : i < l.length) : ((Tw.elems l).getD i 0 = 119) = (l.getD i false = true) := by
  unfold Tw.elems
  rw [List.getD_eq_getElem?_getD, List.getElem?_map, List.getD_eq_getElem?_getD, List.getElem?_eq_getElem h]
  cases l[i] <;> simp
theorem isIn_eq (set cs ps : List UInt8) (z : Nat) (p : List UInt8) (h0 : Lib.indexByte set 0 < 0) : Tw.isIn set (Tw.chr cs ps z p) = decide (0 ≤ Lib.indexByte set (Tw.chr cs ps z p).1) := by
  unfold Tw.isIn
  rcases chr_cases cs ps z p with e | ⟨i, _, _, e⟩
  · rw [e]; simp; omega
  · rw [e]; simp
theorem star_eq (c : UInt8) : ((c.toNat : Int) == 42) = decide (0 ≤ Lib.indexByte [42] c) := by
  have h : ∀ i : Fin 256, (((UInt8.ofNat i.val).toNat : Int) == 42) = decide (0 ≤ Lib.indexByte [42] (UInt8.ofNat i.val)) := by decide +kernel
  have := h ⟨c.toNat, c.toNat_lt⟩
  simp only [ofNat_toNat] at this
  exact this
theorem map_range_succ (f : Nat → UInt8) (j : Nat) : (List.range (j + 1)).map f = (List.range j).map f ++ [f j] := by
  rw [List.range_succ, List.map_append]; rfl

set_option maxRecDepth 100000 in
set_option maxHeartbeats 3000000 in
theorem rchars_5 (v : Value) (bits : List Bool) (w : World) (B n : Nat) (hv : Own 4 w B v (bits.map encT)) (hl : bits.length ≤ 20000) (hn : bits.length + 1 = n * 10) (hn2 : 2 ≤ n) :
    Calls Tryz.prog 27 #[.int .i64 5, v] w (DecR (Tw.readK 0 (Tw.elems bits)) w) := by
  obtain ⟨g, cap, rfl, hlc, hcm, hg, hcell⟩ := hv.open_ (by rw [List.length_map]; omega)
  rw [List.length_map] at hlc hcell ⊢
  have HC : Hid (∀ w', Ext w w' → ∀ i, i < bits.length → w'.cell? ⟨g, i, none⟩ = some (.bool (bits.getD i false))) := Lib.hid (fun w' hx i hi => by
    rw [hx.cell (p := ⟨g, i, none⟩) hg, hcell i hi, List.getElem?_map, List.getD_eq_getElem?_getD, List.getElem?_eq_getElem hi]; rfl)
  have hnn : n = ((Tw.elems bits).length + 1) / (9 + 1) := by rw [elems_len]; omega
  have HRT := Lib.hid (fun j => Tw.read_at Tw.c39 Tw.p39 [42] Cd.syms 9 (Tw.elems bits) n j hnn)
  have HRA := Lib.hid (Tw.read_all Tw.c39 Tw.p39 [42] Cd.syms 9 (Tw.elems bits) n hnn)
  have HRD := Lib.hid (fun j => Tw.rdErr.eq_1 Tw.c39 Tw.p39 [42] Cd.syms 9 (Tw.elems bits) n j)
  have HDR : Hid (Tw.readK 0 (Tw.elems bits) = Tw.read Tw.c39 Tw.p39 [42] Cd.syms 9 (Tw.elems bits)) := Lib.hid rfl
  have HED := Lib.hid (fun j => isIn_eq [42] Tw.c39 Tw.p39 9 (((Tw.elems bits).drop (j * (9 + 1))).take 9) (by decide))
  have HIN := Lib.hid (fun j => isIn_eq Cd.syms Tw.c39 Tw.p39 9 (((Tw.elems bits).drop (j * (9 + 1))).take 9) (by decide))
  have HGB := Lib.hid (elems_119 bits)
  have HFN : Hid (∀ w', Ext w w' → ∀ j p c, p = j * 10 → p + 9 ≤ bits.length → Calls Tryz.prog 47 #[.int .i64 5, .slice (some ⟨g, p, none⟩) 9 c] w' fun e w'' => e = .returned (.int .u8 ((Tw.rdAt Tw.c39 Tw.p39 9 (Tw.elems bits) j).1.toNat : Int)) ∧ Ext w' w'') := Lib.hid (fun w' hx j p c hp hpz => by
    have h1 := find_5 (.slice (some ⟨g, p, none⟩) 9 c) ((bits.drop p).take 9) w' (sub_sl (HC.out w' hx) (Nat.lt_of_lt_of_le hg hx.size) p 9 c hpz) (by rw [List.length_take]; omega)
    have h2 : Tw.chrK 0 (Tw.elems ((bits.drop p).take 9)) = Tw.rdAt Tw.c39 Tw.p39 9 (Tw.elems bits) j := by
      unfold Tw.rdAt; rw [← elems_cut, hp]; rfl
    rw [h2] at h1; exact h1)
  have hmx : maxLen = 9223372036854775807 := rfl
  rw [hmx] at hcm
  have d5 : ((bits.length : Int) + 1) / 10 = (n : Int) := by omega
  clear hcell hv hmx
  generalize hrr : Tw.rdErr Tw.c39 Tw.p39 [42] Cd.syms 9 (Tw.elems bits) n = rdE at *
  generalize hra : Tw.rdAt Tw.c39 Tw.p39 9 (Tw.elems bits) = rdA at *
  generalize hrk : Tw.readK 0 (Tw.elems bits) = res at *
  go_enter Tryz.func27, Tryz.ntmps27
  go_wp2
  rw [d5]
  go_loopw [9, 8] (fun i s wr => ∃ (j : Nat) (G : ByteArray), j ≤ n ∧ i = .int .i64 (j : Int) ∧ s = .string G ∧ Hid (G.data.toList = (List.range j).map fun i => (rdA i).1) ∧ G.size = j ∧ Hid (∀ i, i < j → rdE i = 0) ∧ Ext w wr) (fun i _ _ => n - (intOf i).toNat)
  case atStart => exact ⟨0, ⟨#[]⟩, Nat.zero_le _, rfl, rfl, Lib.hid rfl, rfl, Lib.hid (fun i h => by omega), Ext.refl _⟩
  case round =>
    obtain ⟨j, G, hj, rfl, rfl, HG, hGs, HB, hxr⟩ := hrel
    by_cases hlt : j < n
    · obtain ⟨p, hp⟩ : ∃ p, p = j * 10 := ⟨_, rfl⟩
      have hpi : (j : Int) * 10 = (p : Int) := by omega
      have hpz : p + 9 ≤ bits.length := by omega
      obtain ⟨pz, hpz2⟩ : ∃ pz, pz = p + 9 := ⟨_, rfl⟩
      have hpzi : (p : Int) + 9 = (pz : Int) := by omega
      have hle1 : p ≤ pz := by omega
      have hle2 : pz ≤ cap := by omega
      have hsub : pz - p = 9 := by omega
      have HF := Lib.hid (fun w' hx c => HFN.out w' hx j p c hp hpz)
      have HE := Lib.hid (HRD.out j)
      have HRTJ := Lib.hid (fun h => HRT.out j hlt h HB.out)
      have hed := HED.out j
      have hin := HIN.out j
      have HRJ : Hid (Tw.rdAt Tw.c39 Tw.p39 9 (Tw.elems bits) j = rdA j) := Lib.hid (by rw [hra])
      rw [show Tw.chr Tw.c39 Tw.p39 9 (((Tw.elems bits).drop (j * (9 + 1))).take 9) = rdA j from HRJ.out] at hed hin
      rw [hed, hin] at HE
      have HSN : Hid (∀ H : ByteArray, H.data.toList = G.data.toList ++ [(rdA j).1] → H.data.toList = (List.range (j + 1)).map fun i => (rdA i).1) := Lib.hid (fun H hH => by rw [hH, HG.out, map_range_succ])
      have HBN : Hid (rdE j = 0 → Hid (∀ i, i < j + 1 → rdE i = 0)) := Lib.hid (fun h => Lib.hid (fun i hi => by
        rcases Nat.lt_or_eq_of_le (Nat.le_of_lt_succ hi) with h1 | rfl
        · exact HB.out i h1
        · exact h))
      obtain ⟨n1, hn1⟩ : ∃ n1, n1 = n - 1 := ⟨_, rfl⟩
      have hn1i : (n : Int) - 1 = (n1 : Int) := by omega
      generalize hcj : (rdA j).1 = c at *
      have dst := star_eq c
      have HI := Lib.hid (fun w => inner5_any c w)
      have HI0 : Hid (c = 0 → decide (0 ≤ Lib.indexByte Cd.syms c) = false) := Lib.hid (fun h => by rw [h]; decide)
      generalize decide (0 ≤ Lib.indexByte [42] c) = be at *
      generalize decide (0 ≤ Lib.indexByte Cd.syms c) = bi at *
      have hcv := run_str1
      have hsz : (strOfNums [(c.toNat : Int)]).size = 1 := strOfNums_size _
      have HAA : Hid ((G ++ strOfNums [(c.toNat : Int)]).data.toList = G.data.toList ++ [c]) := Lib.hid (by rw [app2, strOfNums_data]; simp)
      have HAS : Hid ((G ++ strOfNums [(c.toNat : Int)]).size = j + 1) := Lib.hid (by rw [size_of_toList HAA.out, List.length_append, len_data, hGs]; rfl)
      clear HED HIN HRD HRT HRA HFN hed hin HRJ HB HG hrr hra hcj hnn
      by_cases hj0 : j = 0
      · subst hj0
        obtain rfl : p = 0 := by omega
        obtain rfl : pz = 9 := by omega
        have dl : ((0 : Int) == (n1 : Int)) = false := by rw [beq_eq_false_iff_ne]; omega
        have hng : ¬ (0 < 0 ∧ (Tw.elems bits).getD (0 * (9 + 1) - 1) 0 = 119) := by omega
        rw [if_neg hng] at HE
        have HN1 : Hid (0 + 1 ≠ n) := Lib.hid (by show 0 + 1 ≠ n; omega)
        clear hp hpz2 hn1 hpz hng hn hlc hsub hpi hpzi
        cases be
        · have hE : rdE 0 = 19 := by rw [HE.out, if_pos ⟨rfl, rfl⟩]
          clear HE
          go_wp2_with fail
          refine (HF.out _ (by repeat (first | exact Ext.refl _ | assumption | refine Ext.alloc ?_ _ | refine Ext.drew ?_ | refine Ext.trans ?_ (by assumption))) _).mono ?_
          rintro e w2 ⟨rfl, hx2⟩
          go_wp2
          go_ret2
          exact ⟨by rw [HDR.out, HRTJ.out (by rw [hE]; decide), hE]; rfl, hxr.trans hx2⟩
        · have hE : rdE 0 = 0 := by
            rw [HE.out, if_neg (by intro h; exact absurd h.2 Bool.noConfusion), if_neg (fun h => HN1.out h.1), if_neg (by omega)]
          clear HE
          go_wp2_with fail
          refine (HF.out _ (by repeat (first | exact Ext.refl _ | assumption | refine Ext.alloc ?_ _ | refine Ext.drew ?_ | refine Ext.trans ?_ (by assumption))) _).mono ?_
          rintro e w2 ⟨rfl, hx2⟩
          go_wp2
          go_roundw
          case rel => exact ⟨0 + 1, G ++ strOfNums [(c.toNat : Int)], by omega, by go_num, rfl, Lib.hid (HSN.out _ HAA.out), HAS.out, HBN.out hE, by exact (hxr.trans hx2).alloc _⟩
          case measure => simp [intOf]; omega
      · have hjp : 0 < j := by omega
        have dg : decide (0 < (j : Int)) = true := by simp; omega
        have dz : ((j : Int) == 0) = false := by rw [beq_eq_false_iff_ne]; omega
        obtain ⟨q, hq⟩ : ∃ q, q = p - 1 := ⟨_, rfl⟩
        have hqi : (p : Int) - 1 = (q : Int) := by omega
        have hql : q < bits.length := by omega
        have hcq := HC.out wr hxr q hql
        have hgq := HGB.out q hql
        have hqe : j * (9 + 1) - 1 = q := by omega
        rw [hqe] at HE
        generalize bits.getD q false = bg at *
        have HGQ := Lib.hid hgq
        clear hgq hqe hq hp hpz2 hpz hn hlc
        cases bg
        · have hng : ¬ (0 < j ∧ (Tw.elems bits).getD q 0 = 119) := by
            intro h
            have := h.2
            rw [HGQ.out] at this
            exact Bool.noConfusion this
          rw [if_neg hng, if_neg (by omega)] at HE
          clear hng
          by_cases hjl : j = n1
          · have hjn : j + 1 = n := by omega
            have dl : ((j : Int) == (n1 : Int)) = true := by rw [beq_iff_eq]; omega
            have dm : decide ((j : Int) < (n1 : Int)) = false := by simp; omega
            have hjm : n1 ≤ j := by omega
            have HJN := Lib.hid hjn
            clear hjn hjl hn1 hj0
            cases be
            · have hE : rdE j = 20 := by rw [HE.out, if_pos ⟨HJN.out, rfl⟩]
              clear HE
              go_wp2_with fail
              refine (HF.out _ (by repeat (first | exact Ext.refl _ | assumption | refine Ext.alloc ?_ _ | refine Ext.drew ?_ | refine Ext.trans ?_ (by assumption))) _).mono ?_
              rintro e w2 ⟨rfl, hx2⟩
              go_wp2
              go_ret2
              exact ⟨by rw [HDR.out, HRTJ.out (by rw [hE]; decide), hE]; rfl, hxr.trans hx2⟩
            · have hE : rdE j = 0 := by rw [HE.out, if_neg (by intro h; exact absurd h.2 Bool.noConfusion), if_neg (by have := HJN.out; omega)]
              clear HE
              go_wp2_with fail
              refine (HF.out _ (by repeat (first | exact Ext.refl _ | assumption | refine Ext.alloc ?_ _ | refine Ext.drew ?_ | refine Ext.trans ?_ (by assumption))) _).mono ?_
              rintro e w2 ⟨rfl, hx2⟩
              go_wp2
              go_roundw
              case rel => exact ⟨j + 1, G ++ strOfNums [(c.toNat : Int)], by omega, by go_num, rfl, Lib.hid (HSN.out _ HAA.out), HAS.out, HBN.out hE, by exact (hxr.trans hx2).alloc _⟩
              case measure => simp [intOf]; omega
          · have dl : ((j : Int) == (n1 : Int)) = false := by rw [beq_eq_false_iff_ne]; omega
            have dm : decide ((j : Int) < (n1 : Int)) = true := by simp; omega
            have hjm : j < n1 := by omega
            rw [if_neg (by omega)] at HE
            have hjn : j + 1 < n := by omega
            clear hn1 hj0 hjl
            by_cases hc0 : c = 0
            · have hbi := HI0.out hc0
              have dc : ((c.toNat : Int) == 0) = true := by rw [hc0]; rfl
              have hE : rdE j = 18 := by rw [HE.out, if_pos ⟨hjp, hjn, hbi⟩]
              clear HE hbi hc0
              cases be
              all_goals
                go_wp2_with fail
                refine (HF.out _ (by repeat (first | exact Ext.refl _ | assumption | refine Ext.alloc ?_ _ | refine Ext.drew ?_ | refine Ext.trans ?_ (by assumption))) _).mono ?_
                rintro e w2 ⟨rfl, hx2⟩
                go_wp2
                go_ret2
                exact ⟨by rw [HDR.out, HRTJ.out (by rw [hE]; decide), hE]; rfl, hxr.trans hx2⟩
            · have dc : ((c.toNat : Int) == 0) = false := by
                rw [beq_eq_false_iff_ne]
                intro h
                exact hc0 (UInt8.toNat_inj.1 (by simpa using h))
              cases bi
              · have hE : rdE j = 18 := by rw [HE.out, if_pos ⟨hjp, hjn, rfl⟩]
                clear HE hc0
                cases be
                all_goals
                  go_wp2_with fail
                  refine (HF.out _ (by repeat (first | exact Ext.refl _ | assumption | refine Ext.alloc ?_ _ | refine Ext.drew ?_ | refine Ext.trans ?_ (by assumption))) _).mono ?_
                  rintro e w2 ⟨rfl, hx2⟩
                  go_wp2_with fail
                  refine (HI.out _).mono ?_
                  rintro e w4 ⟨rfl, rfl⟩
                  go_wp2
                  go_ret2
                  exact ⟨by rw [HDR.out, HRTJ.out (by rw [hE]; decide), hE]; rfl, hxr.trans hx2⟩
              · have hE : rdE j = 0 := by rw [HE.out, if_neg (by intro h; exact absurd h.2.2 Bool.noConfusion)]
                clear HE hc0
                cases be
                all_goals
                  go_wp2_with fail
                  refine (HF.out _ (by repeat (first | exact Ext.refl _ | assumption | refine Ext.alloc ?_ _ | refine Ext.drew ?_ | refine Ext.trans ?_ (by assumption))) _).mono ?_
                  rintro e w2 ⟨rfl, hx2⟩
                  go_wp2_with fail
                  refine (HI.out _).mono ?_
                  rintro e w4 ⟨rfl, rfl⟩
                  go_wp2
                  go_roundw
                  case rel => exact ⟨j + 1, G ++ strOfNums [(c.toNat : Int)], by omega, by go_num, rfl, Lib.hid (HSN.out _ HAA.out), HAS.out, HBN.out hE, by exact (hxr.trans hx2).alloc _⟩
                  case measure => simp [intOf]; omega
        · have hE : rdE j = 18 := by rw [HE.out, if_pos ⟨hjp, by rw [HGQ.out]⟩]
          clear HE
          go_wp2
          go_ret2
          exact ⟨by rw [HDR.out, HRTJ.out (by rw [hE]; decide), hE]; rfl, hxr⟩
    · obtain rfl : j = n := by omega
      have HF := Lib.hid (HRA.out HB.out)
      have HRS : Hid (res = (G.data.toList, 0)) := Lib.hid (by rw [HDR.out, HF.out, HG.out, ← hra])
      clear hj hlt HF HRA HG
      go_wp2
      go_ret2
      exact ⟨by rw [HRS.out]; exact ret_pair' rfl rfl, hxr⟩
set_option maxRecDepth 100000 in
set_option maxHeartbeats 3000000 in
theorem rchars_6 (v : Value) (bits : List Bool) (w : World) (B n : Nat) (hv : Own 4 w B v (bits.map encT)) (hl : bits.length ≤ 20000) (hn : bits.length + 1 = n * 8) (hn2 : 2 ≤ n) :
    Calls Tryz.prog 27 #[.int .i64 6, v] w (DecR (Tw.readK 1 (Tw.elems bits)) w) := by
  obtain ⟨g, cap, rfl, hlc, hcm, hg, hcell⟩ := hv.open_ (by rw [List.length_map]; omega)
  rw [List.length_map] at hlc hcell ⊢
  have HC : Hid (∀ w', Ext w w' → ∀ i, i < bits.length → w'.cell? ⟨g, i, none⟩ = some (.bool (bits.getD i false))) := Lib.hid (fun w' hx i hi => by
    rw [hx.cell (p := ⟨g, i, none⟩) hg, hcell i hi, List.getElem?_map, List.getD_eq_getElem?_getD, List.getElem?_eq_getElem hi]; rfl)
  have hnn : n = ((Tw.elems bits).length + 1) / (7 + 1) := by rw [elems_len]; omega
  have HRT := Lib.hid (fun j => Tw.read_at Tw.cCb Tw.pCb Tw.eCb Tw.dCb 7 (Tw.elems bits) n j hnn)
  have HRA := Lib.hid (Tw.read_all Tw.cCb Tw.pCb Tw.eCb Tw.dCb 7 (Tw.elems bits) n hnn)
  have HRD := Lib.hid (fun j => Tw.rdErr.eq_1 Tw.cCb Tw.pCb Tw.eCb Tw.dCb 7 (Tw.elems bits) n j)
  have HDR : Hid (Tw.readK 1 (Tw.elems bits) = Tw.read Tw.cCb Tw.pCb Tw.eCb Tw.dCb 7 (Tw.elems bits)) := Lib.hid rfl
  have HED := Lib.hid (fun j => isIn_eq Tw.eCb Tw.cCb Tw.pCb 7 (((Tw.elems bits).drop (j * (7 + 1))).take 7) (by decide))
  have HIN := Lib.hid (fun j => isIn_eq Tw.dCb Tw.cCb Tw.pCb 7 (((Tw.elems bits).drop (j * (7 + 1))).take 7) (by decide))
  have HGB := Lib.hid (elems_119 bits)
  have HFN : Hid (∀ w', Ext w w' → ∀ j p c, p = j * 8 → p + 7 ≤ bits.length → Calls Tryz.prog 47 #[.int .i64 6, .slice (some ⟨g, p, none⟩) 7 c] w' fun e w'' => e = .returned (.int .u8 ((Tw.rdAt Tw.cCb Tw.pCb 7 (Tw.elems bits) j).1.toNat : Int)) ∧ Ext w' w'') := Lib.hid (fun w' hx j p c hp hpz => by
    have h1 := find_6 (.slice (some ⟨g, p, none⟩) 7 c) ((bits.drop p).take 7) w' (sub_sl (HC.out w' hx) (Nat.lt_of_lt_of_le hg hx.size) p 7 c hpz) (by rw [List.length_take]; omega)
    have h2 : Tw.chrK 1 (Tw.elems ((bits.drop p).take 7)) = Tw.rdAt Tw.cCb Tw.pCb 7 (Tw.elems bits) j := by
      unfold Tw.rdAt; rw [← elems_cut, hp]; rfl
    rw [h2] at h1; exact h1)
  have hmx : maxLen = 9223372036854775807 := rfl
  rw [hmx] at hcm
  have d5 : ((bits.length : Int) + 1) / 8 = (n : Int) := by omega
  clear hcell hv hmx
  generalize hrr : Tw.rdErr Tw.cCb Tw.pCb Tw.eCb Tw.dCb 7 (Tw.elems bits) n = rdE at *
  generalize hra : Tw.rdAt Tw.cCb Tw.pCb 7 (Tw.elems bits) = rdA at *
  generalize hrk : Tw.readK 1 (Tw.elems bits) = res at *
  go_enter Tryz.func27, Tryz.ntmps27
  go_wp2
  rw [d5]
  go_loopw [9, 8] (fun i s wr => ∃ (j : Nat) (G : ByteArray), j ≤ n ∧ i = .int .i64 (j : Int) ∧ s = .string G ∧ Hid (G.data.toList = (List.range j).map fun i => (rdA i).1) ∧ G.size = j ∧ Hid (∀ i, i < j → rdE i = 0) ∧ Ext w wr) (fun i _ _ => n - (intOf i).toNat)
  case atStart => exact ⟨0, ⟨#[]⟩, Nat.zero_le _, rfl, rfl, Lib.hid rfl, rfl, Lib.hid (fun i h => by omega), Ext.refl _⟩
  case round =>
    obtain ⟨j, G, hj, rfl, rfl, HG, hGs, HB, hxr⟩ := hrel
    by_cases hlt : j < n
    · obtain ⟨p, hp⟩ : ∃ p, p = j * 8 := ⟨_, rfl⟩
      have hpi : (j : Int) * 8 = (p : Int) := by omega
      have hpz : p + 7 ≤ bits.length := by omega
      obtain ⟨pz, hpz2⟩ : ∃ pz, pz = p + 7 := ⟨_, rfl⟩
      have hpzi : (p : Int) + 7 = (pz : Int) := by omega
      have hle1 : p ≤ pz := by omega
      have hle2 : pz ≤ cap := by omega
      have hsub : pz - p = 7 := by omega
      have HF := Lib.hid (fun w' hx c => HFN.out w' hx j p c hp hpz)
      have HE := Lib.hid (HRD.out j)
      have HRTJ := Lib.hid (fun h => HRT.out j hlt h HB.out)
      have hed := HED.out j
      have hin := HIN.out j
      have HRJ : Hid (Tw.rdAt Tw.cCb Tw.pCb 7 (Tw.elems bits) j = rdA j) := Lib.hid (by rw [hra])
      rw [show Tw.chr Tw.cCb Tw.pCb 7 (((Tw.elems bits).drop (j * (7 + 1))).take 7) = rdA j from HRJ.out] at hed hin
      rw [hed, hin] at HE
      have HSN : Hid (∀ H : ByteArray, H.data.toList = G.data.toList ++ [(rdA j).1] → H.data.toList = (List.range (j + 1)).map fun i => (rdA i).1) := Lib.hid (fun H hH => by rw [hH, HG.out, map_range_succ])
      have HBN : Hid (rdE j = 0 → Hid (∀ i, i < j + 1 → rdE i = 0)) := Lib.hid (fun h => Lib.hid (fun i hi => by
        rcases Nat.lt_or_eq_of_le (Nat.le_of_lt_succ hi) with h1 | rfl
        · exact HB.out i h1
        · exact h))
      obtain ⟨n1, hn1⟩ : ∃ n1, n1 = n - 1 := ⟨_, rfl⟩
      have hn1i : (n : Int) - 1 = (n1 : Int) := by omega
      generalize hcj : (rdA j).1 = c at *
      have HL := Lib.hid (fun w => letter_any c w)
      have HI := Lib.hid (fun w => inner6_any c w)
      have HI0 : Hid (c = 0 → decide (0 ≤ Lib.indexByte Tw.dCb c) = false) := Lib.hid (fun h => by rw [h]; decide)
      generalize decide (0 ≤ Lib.indexByte Tw.eCb c) = be at *
      generalize decide (0 ≤ Lib.indexByte Tw.dCb c) = bi at *
      have hcv := run_str1
      have hsz : (strOfNums [(c.toNat : Int)]).size = 1 := strOfNums_size _
      have HAA : Hid ((G ++ strOfNums [(c.toNat : Int)]).data.toList = G.data.toList ++ [c]) := Lib.hid (by rw [app2, strOfNums_data]; simp)
      have HAS : Hid ((G ++ strOfNums [(c.toNat : Int)]).size = j + 1) := Lib.hid (by rw [size_of_toList HAA.out, List.length_append, len_data, hGs]; rfl)
      clear HED HIN HRD HRT HRA HFN hed hin HRJ HB HG hrr hra hcj hnn
      by_cases hj0 : j = 0
      · subst hj0
        obtain rfl : p = 0 := by omega
        obtain rfl : pz = 7 := by omega
        have dl : ((0 : Int) == (n1 : Int)) = false := by rw [beq_eq_false_iff_ne]; omega
        have hng : ¬ (0 < 0 ∧ (Tw.elems bits).getD (0 * (7 + 1) - 1) 0 = 119) := by omega
        rw [if_neg hng] at HE
        have HN1 : Hid (0 + 1 ≠ n) := Lib.hid (by show 0 + 1 ≠ n; omega)
        clear hp hpz2 hn1 hpz hng hn hlc hsub hpi hpzi
        cases be
        · have hE : rdE 0 = 19 := by rw [HE.out, if_pos ⟨rfl, rfl⟩]
          clear HE
          go_wp2_with fail
          refine (HF.out _ (by repeat (first | exact Ext.refl _ | assumption | refine Ext.alloc ?_ _ | refine Ext.drew ?_ | refine Ext.trans ?_ (by assumption))) _).mono ?_
          rintro e w2 ⟨rfl, hx2⟩
          go_wp2_with fail
          refine (HL.out _).mono ?_
          rintro e w3 ⟨rfl, rfl⟩
          go_wp2
          go_ret2
          exact ⟨by rw [HDR.out, HRTJ.out (by rw [hE]; decide), hE]; rfl, hxr.trans hx2⟩
        · have hE : rdE 0 = 0 := by
            rw [HE.out, if_neg (by intro h; exact absurd h.2 Bool.noConfusion), if_neg (fun h => HN1.out h.1), if_neg (by omega)]
          clear HE
          go_wp2_with fail
          refine (HF.out _ (by repeat (first | exact Ext.refl _ | assumption | refine Ext.alloc ?_ _ | refine Ext.drew ?_ | refine Ext.trans ?_ (by assumption))) _).mono ?_
          rintro e w2 ⟨rfl, hx2⟩
          go_wp2_with fail
          refine (HL.out _).mono ?_
          rintro e w3 ⟨rfl, rfl⟩
          go_wp2
          go_roundw
          case rel => exact ⟨0 + 1, G ++ strOfNums [(c.toNat : Int)], by omega, by go_num, rfl, Lib.hid (HSN.out _ HAA.out), HAS.out, HBN.out hE, by exact (hxr.trans hx2).alloc _⟩
          case measure => simp [intOf]; omega
      · have hjp : 0 < j := by omega
        have dg : decide (0 < (j : Int)) = true := by simp; omega
        have dz : ((j : Int) == 0) = false := by rw [beq_eq_false_iff_ne]; omega
        obtain ⟨q, hq⟩ : ∃ q, q = p - 1 := ⟨_, rfl⟩
        have hqi : (p : Int) - 1 = (q : Int) := by omega
        have hql : q < bits.length := by omega
        have hcq := HC.out wr hxr q hql
        have hgq := HGB.out q hql
        have hqe : j * (7 + 1) - 1 = q := by omega
        rw [hqe] at HE
        generalize bits.getD q false = bg at *
        have HGQ := Lib.hid hgq
        clear hgq hqe hq hp hpz2 hpz hn hlc
        cases bg
        · have hng : ¬ (0 < j ∧ (Tw.elems bits).getD q 0 = 119) := by
            intro h
            have := h.2
            rw [HGQ.out] at this
            exact Bool.noConfusion this
          rw [if_neg hng, if_neg (by omega)] at HE
          clear hng
          by_cases hjl : j = n1
          · have hjn : j + 1 = n := by omega
            have dl : ((j : Int) == (n1 : Int)) = true := by rw [beq_iff_eq]; omega
            have dm : decide ((j : Int) < (n1 : Int)) = false := by simp; omega
            have hjm : n1 ≤ j := by omega
            have HJN := Lib.hid hjn
            clear hjn hjl hn1 hj0
            cases be
            · have hE : rdE j = 20 := by rw [HE.out, if_pos ⟨HJN.out, rfl⟩]
              clear HE
              go_wp2_with fail
              refine (HF.out _ (by repeat (first | exact Ext.refl _ | assumption | refine Ext.alloc ?_ _ | refine Ext.drew ?_ | refine Ext.trans ?_ (by assumption))) _).mono ?_
              rintro e w2 ⟨rfl, hx2⟩
              go_wp2_with fail
              refine (HL.out _).mono ?_
              rintro e w3 ⟨rfl, rfl⟩
              go_wp2
              go_ret2
              exact ⟨by rw [HDR.out, HRTJ.out (by rw [hE]; decide), hE]; rfl, hxr.trans hx2⟩
            · have hE : rdE j = 0 := by rw [HE.out, if_neg (by intro h; exact absurd h.2 Bool.noConfusion), if_neg (by have := HJN.out; omega)]
              clear HE
              go_wp2_with fail
              refine (HF.out _ (by repeat (first | exact Ext.refl _ | assumption | refine Ext.alloc ?_ _ | refine Ext.drew ?_ | refine Ext.trans ?_ (by assumption))) _).mono ?_
              rintro e w2 ⟨rfl, hx2⟩
              go_wp2_with fail
              refine (HL.out _).mono ?_
              rintro e w3 ⟨rfl, rfl⟩
              go_wp2
              go_roundw
              case rel => exact ⟨j + 1, G ++ strOfNums [(c.toNat : Int)], by omega, by go_num, rfl, Lib.hid (HSN.out _ HAA.out), HAS.out, HBN.out hE, by exact (hxr.trans hx2).alloc _⟩
              case measure => simp [intOf]; omega
          · have dl : ((j : Int) == (n1 : Int)) = false := by rw [beq_eq_false_iff_ne]; omega
            have dm : decide ((j : Int) < (n1 : Int)) = true := by simp; omega
            have hjm : j < n1 := by omega
            rw [if_neg (by omega)] at HE
            have hjn : j + 1 < n := by omega
            clear hn1 hj0 hjl
            by_cases hc0 : c = 0
            · have hbi := HI0.out hc0
              have dc : ((c.toNat : Int) == 0) = true := by rw [hc0]; rfl
              have hE : rdE j = 18 := by rw [HE.out, if_pos ⟨hjp, hjn, hbi⟩]
              clear HE hbi hc0
              cases be
              all_goals
                go_wp2_with fail
                refine (HF.out _ (by repeat (first | exact Ext.refl _ | assumption | refine Ext.alloc ?_ _ | refine Ext.drew ?_ | refine Ext.trans ?_ (by assumption))) _).mono ?_
                rintro e w2 ⟨rfl, hx2⟩
                go_wp2_with fail
                refine (HL.out _).mono ?_
                rintro e w3 ⟨rfl, rfl⟩
                go_wp2
                go_ret2
                exact ⟨by rw [HDR.out, HRTJ.out (by rw [hE]; decide), hE]; rfl, hxr.trans hx2⟩
            · have dc : ((c.toNat : Int) == 0) = false := by
                rw [beq_eq_false_iff_ne]
                intro h
                exact hc0 (UInt8.toNat_inj.1 (by simpa using h))
              cases bi
              · have hE : rdE j = 18 := by rw [HE.out, if_pos ⟨hjp, hjn, rfl⟩]
                clear HE hc0
                cases be
                all_goals
                  go_wp2_with fail
                  refine (HF.out _ (by repeat (first | exact Ext.refl _ | assumption | refine Ext.alloc ?_ _ | refine Ext.drew ?_ | refine Ext.trans ?_ (by assumption))) _).mono ?_
                  rintro e w2 ⟨rfl, hx2⟩
                  go_wp2_with fail
                  refine (HL.out _).mono ?_
                  rintro e w3 ⟨rfl, rfl⟩
                  go_wp2_with fail
                  refine (HI.out _).mono ?_
                  rintro e w4 ⟨rfl, rfl⟩
                  go_wp2
                  go_ret2
                  exact ⟨by rw [HDR.out, HRTJ.out (by rw [hE]; decide), hE]; rfl, hxr.trans hx2⟩
              · have hE : rdE j = 0 := by rw [HE.out, if_neg (by intro h; exact absurd h.2.2 Bool.noConfusion)]
                clear HE hc0
                cases be
                all_goals
                  go_wp2_with fail
                  refine (HF.out _ (by repeat (first | exact Ext.refl _ | assumption | refine Ext.alloc ?_ _ | refine Ext.drew ?_ | refine Ext.trans ?_ (by assumption))) _).mono ?_
                  rintro e w2 ⟨rfl, hx2⟩
                  go_wp2_with fail
                  refine (HL.out _).mono ?_
                  rintro e w3 ⟨rfl, rfl⟩
                  go_wp2_with fail
                  refine (HI.out _).mono ?_
                  rintro e w4 ⟨rfl, rfl⟩
                  go_wp2
                  go_roundw
                  case rel => exact ⟨j + 1, G ++ strOfNums [(c.toNat : Int)], by omega, by go_num, rfl, Lib.hid (HSN.out _ HAA.out), HAS.out, HBN.out hE, by exact (hxr.trans hx2).alloc _⟩
                  case measure => simp [intOf]; omega
        · have hE : rdE j = 18 := by rw [HE.out, if_pos ⟨hjp, by rw [HGQ.out]⟩]
          clear HE
          go_wp2
          go_ret2
          exact ⟨by rw [HDR.out, HRTJ.out (by rw [hE]; decide), hE]; rfl, hxr⟩
    · obtain rfl : j = n := by omega
      have HF := Lib.hid (HRA.out HB.out)
      have HRS : Hid (res = (G.data.toList, 0)) := Lib.hid (by rw [HDR.out, HF.out, HG.out, ← hra])
      clear hj hlt HF HRA HG
      go_wp2
      go_ret2
      exact ⟨by rw [HRS.out]; exact ret_pair' rfl rfl, hxr⟩
end Go.Proofs.YthjlnpcaclfopaaGreat
