/-
  Chapter 11, the reference: addition, Digits, Equal, Encode.
  Condition: strings within the reach.
-/
import Derived.Test.YtfpliihglgjijaaGreatEaXn
import Derived.Test.YtfpliihglgjijaaGreatEaX3

/-
  Chapter 11, the reference: addition, Digits, Equal, Encode.
  Condition: strings within the reach.
-/
namespace Go.Proofs.YtfpliihglgjijaaGreat
set_option linter.unusedVariables false
open Go.RowKit

/-- A row of modules and an error. -/
def RowE (r : List Bool × Int) (w : World) (e : Ending) (w' : World) : Prop := ∃ v, e = .returned (.tuple #[v, .int .i64 r.2]) ∧ SlK w' v (r.1.map encT) ∧ Ext w w'
theorem Own.form {t : TypeId} {w : World} {B : Nat} {v : Value} {m : List Bool} (h : Own t w B v (m.map encT)) : ∃ a c, v = .slice a m.length c := by
  obtain ⟨_, a, c, e, _⟩ := h.slk
  rw [List.length_map] at e
  exact ⟨a, c, e⟩

set_option maxRecDepth 100000 in
set_option maxHeartbeats 2000000 in
theorem xaddition_any (s : ByteArray) (h : s.size = 2 ∨ s.size = 5) (hd : Ea.digs s.data.toList = true) (w : World) :
    Calls Tryz.prog 41 #[.string s] w (OwnsR (Ea.addn s.data.toList) w) := by
  have HMG := Lib.hid (fun w => xmodules_any ⟨#[49, 48, 49, 49]⟩ Ea.sA rfl (by decide) w)
  have HSE := Lib.hid (fun w => xsetsAdd_any s h hd w)
  have hso := Ea.setsAdd_ok (a := s.data.toList) (by rw [len_data]; exact h)
  rw [len_data] at hso
  obtain ⟨us, hus⟩ : ∃ us, Ea.setsAdd s.data.toList = us := ⟨_, rfl⟩
  rw [hus] at HSE hso
  obtain ⟨SE, hSE⟩ : ∃ SE, Ea.bS (zS us) = SE := ⟨_, rfl⟩
  have HRA := Lib.hid (fun w => xrow_any s SE ⟨#[48, 49]⟩ us Ea.gA hd (by rw [← hSE, Ea.bS_list]) (fun x hx => by have := hso.2 x hx; omega) rfl hso.1 (by omega) (by decide) w)
  rw [hSE] at HSE
  have hl : (Ea.addn s.data.toList).length ≤ 100 := by
    rw [Ea.addn_len hd (by rw [len_data]; exact h), len_data]
    rcases h with h | h <;> rw [h] <;> decide
  have HE := Lib.hid (Ea.addn.eq_1 s.data.toList)
  rw [hus] at HE
  generalize Ea.addn s.data.toList = res at *
  generalize Ea.drw Ea.gA s.data.toList us = ra at *
  have HFE : Hid (List.flatten [Ea.sA, ra] = res) := Lib.hid (by rw [HE.out]; simp)
  have HFL : Hid ((List.flatten [Ea.sA, ra]).length ≤ 1000000) := Lib.hid (by rw [HFE.out]; omega)
  clear HE hd h hso hus hSE hl
  go_enter Tryz.func41, Tryz.ntmps41
  go_wp2_with fail
  refine (HMG.out _).mono ?_
  rintro e w1 ⟨v1, rfl, ho1, hx1⟩
  obtain ⟨a1, c1, rfl⟩ := ho1.form
  go_wp2_with fail
  refine (HSE.out _).mono ?_
  rintro e w2 ⟨rfl, hx2⟩
  go_wp2_with fail
  refine (HRA.out _).mono ?_
  rintro e w3 ⟨v3, rfl, ho3, hx3⟩
  obtain ⟨a3, c3, rfl⟩ := ho3.form
  go_wp2_with fail
  have HRW := rowsA_mk w3 #[.slice a1 Ea.sA.length c1, .slice a3 ra.length c3] [Ea.sA, ra] 23 rfl (by simp) (fun i hi => by
    have hi' : i = 0 ∨ i = 1 := by simp at hi; omega
    rcases hi' with rfl | rfl
    · exact (ho1.ext (hx2.trans hx3)).mono (Nat.zero_le _)
    · exact ho3.mono (Nat.zero_le _))
  have HJ := Lib.hid (xjoin_any _ [Ea.sA, ra] _ HRW (by simp) HFL.out)
  refine HJ.out.mono ?_
  rintro e w4 ⟨v4, rfl, ho4, hx4⟩
  rw [HFE.out] at ho4
  have hxx := (hx1.trans (hx2.trans hx3)).alloc (.cells #[.slice a1 Ea.sA.length c1, .slice a3 ra.length c3] 23)
  have hsz := hxx.size
  clear HRW HJ ho1 ho3 hx1 hx2 hx3
  go_wp2
  go_ret
  exact ⟨_, rfl, ho4.mono hsz, hxx.trans hx4⟩

set_option maxRecDepth 100000 in
set_option maxHeartbeats 1000000 in
theorem xDigits_any (d t : Int) (w : World) :
    Calls Tryz.prog 25 #[.int .i64 d, .int .i64 t] w (RowE (Ea.dgts d t) w) := by
  have HX := Lib.hid (Ea.dgts.eq_1 d t)
  by_cases h : d < 0 ∨ 9 < d ∨ t < 0 ∨ 2 < t
  · rw [if_pos h] at HX
    generalize Ea.dgts d t = res at *
    have h4 : d < 0 ∨ (¬ d < 0 ∧ 9 < d) ∨ (¬ d < 0 ∧ ¬ 9 < d ∧ t < 0) ∨ (¬ d < 0 ∧ ¬ 9 < d ∧ ¬ t < 0 ∧ 2 < t) := by omega
    clear h
    rcases h4 with a | ⟨a, b⟩ | ⟨a, b, c⟩ | ⟨a, b, c, e⟩
    all_goals
      go_enter Tryz.func25, Tryz.ntmps25
      go_wp2
      go_ret2
      exact ⟨_, by rw [HX.out]; rfl, by rw [HX.out]; exact SlK.nil _, Ext.refl _⟩
  · rw [if_neg h] at HX
    obtain ⟨dn, rfl⟩ := Int.eq_ofNat_of_zero_le (show 0 ≤ d by omega)
    obtain ⟨tn, rfl⟩ := Int.eq_ofNat_of_zero_le (show 0 ≤ t by omega)
    have HT := Lib.hid (fun w => xtable_any dn tn (by omega) (by omega) w)
    have hd1 : dn ≤ 9 := by omega
    have ht1 : tn ≤ 2 := by omega
    rw [HX.out]
    simp only [Int.toNat_natCast]
    generalize Ea.modl tn dn = m at *
    clear HX h
    go_enter Tryz.func25, Tryz.ntmps25
    go_wp2_with fail
    refine (HT.out _).mono ?_
    rintro e w1 ⟨v, rfl, ho, hx⟩
    go_wp2
    go_ret2
    exact ⟨v, rfl, ho.slk, hx⟩

set_option maxRecDepth 100000 in
set_option maxHeartbeats 1000000 in
theorem xEqual_any (v u : Value) (l m : List Bool) (w : World) (hv : SlK w v (l.map encT)) (hu : SlK w u (m.map encT)) (hl : l.length ≤ 1000000) (hm : m.length ≤ 1000000) :
    Calls Tryz.prog 42 #[v, u] w fun e w' => e = .returned (.bool (decide (l = m))) ∧ Ext w w' := by
  obtain ⟨hvs, a, c, rfl, _⟩ := hv
  obtain ⟨hus, b, f, rfl, _⟩ := hu
  rw [List.length_map] at hvs hus ⊢
  rw [List.length_map]
  have HV := Lib.hid hvs
  have HU := Lib.hid hus
  obtain ⟨res, hres⟩ : ∃ res, decide (l = m) = res := ⟨_, rfl⟩
  rw [hres]
  have HR := Lib.hid hres
  clear hvs hus hres
  by_cases hlm : l.length = m.length
  · have b0 : ((l.length : Int) != (m.length : Int)) = false := by simp; omega
    have hlm2 : m.length ≤ l.length := by omega
    have hlm3 : l.length ≤ m.length := by omega
    have HLM := Lib.hid hlm
    clear hlm
    go_enter Tryz.func42, Tryz.ntmps42
    go_wp2
    go_loopw [5] (fun v5 wr => ∃ k : Nat, k ≤ l.length ∧ v5 = .int .i64 (k : Int) ∧ Hid (l.take k = m.take k) ∧ Ext w wr) (fun v5 _ => l.length - (intOf v5).toNat)
    case atStart => exact ⟨0, Nat.zero_le _, rfl, Lib.hid rfl, Ext.refl _⟩
    case round =>
      obtain ⟨k, hk, rfl, HT, hxr⟩ := hrel
      by_cases hlt : k < l.length
      · have hkm : k < m.length := by omega
        obtain ⟨p, o, ha, hpb, hpc⟩ := HV.out.at_ (k := k) (by rw [List.length_map]; exact hlt)
        subst ha
        obtain ⟨q, r, hb, hqb, hqc⟩ := HU.out.at_ (k := k) (by rw [List.length_map]; exact hkm)
        subst hb
        obtain ⟨x, hx⟩ : ∃ x, l[k] = x := ⟨_, rfl⟩
        obtain ⟨y, hy⟩ : ∃ y, m[k] = y := ⟨_, rfl⟩
        rw [List.getElem_map, hx] at hpc
        rw [List.getElem_map, hy] at hqc
        have hc1 := (hxr.cell (p := ⟨p, o + k, none⟩) hpb).trans hpc
        have hc2 := (hxr.cell (p := ⟨q, r + k, none⟩) hqb).trans hqc
        unfold encT at hc1 hc2
        by_cases hxy : x = y
        · have HT2 : Hid (l.take (k + 1) = m.take (k + 1)) := Lib.hid (by
            rw [List.take_succ_eq_append_getElem hlt, List.take_succ_eq_append_getElem hkm, HT.out, hx, hy, hxy])
          subst hxy
          clear hpc hqc hx hy
          cases x with
          | false =>
            go_wp2_with fail
            go_quiet (fail)
            go_wp2
            go_roundw
            case rel => exact ⟨k + 1, by omega, by go_num, HT2, hxr.drewN _⟩
            case measure => simp [intOf]; omega
          | true =>
            go_wp2_with fail
            go_quiet (fail)
            go_wp2
            go_roundw
            case rel => exact ⟨k + 1, by omega, by go_num, HT2, hxr.drewN _⟩
            case measure => simp [intOf]; omega
        · have HF : Hid (res = false) := Lib.hid (by
            rw [← HR.out, decide_eq_false_iff_not]
            intro e
            apply hxy
            rw [← hx, ← hy]
            subst e; rfl)
          clear hpc hqc hx hy
          cases x with
          | false =>
            cases y with
            | false => exact absurd rfl hxy
            | true =>
              clear hxy
              go_wp2_with fail
              go_quiet (fail)
              go_wp2
              go_ret
              exact ⟨ret_bool HF.out.symm, hxr.drewN _⟩
          | true =>
            cases y with
            | true => exact absurd rfl hxy
            | false =>
              clear hxy
              go_wp2_with fail
              go_quiet (fail)
              go_wp2
              go_ret
              exact ⟨ret_bool HF.out.symm, hxr.drewN _⟩
      · obtain rfl : k = l.length := by omega
        have HF : Hid (res = true) := Lib.hid (by
          rw [← HR.out, decide_eq_true_eq]
          have := HT.out
          rw [List.take_length, HLM.out, List.take_length] at this
          exact this)
        clear hk hlt
        go_wp2
        go_ret
        exact ⟨ret_bool HF.out.symm, hxr⟩
  · have b0 : ((l.length : Int) != (m.length : Int)) = true := by simp; omega
    have HF : Hid (res = false) := Lib.hid (by
      rw [← HR.out, decide_eq_false_iff_not]
      intro e
      exact hlm (congrArg List.length e))
    clear hlm
    go_enter Tryz.func42, Tryz.ntmps42
    go_wp2
    go_ret
    exact ⟨ret_bool HF.out.symm, Ext.refl _⟩

/-- The modules of a complete text. -/
theorem xsymbol_any (k : Int) (s : ByteArray) (h : Ea.full k s.data.toList = 0) (w : World) :
    Calls Tryz.prog 40 #[.int .i64 k, .string s] w (OwnsR (Ea.sym k s.data.toList) w) := by
  obtain ⟨h1, h2, h3, h4, _⟩ := Ea.full_ok h
  rw [len_data] at h3
  rcases Ea.kinds h1 with rfl | rfl | rfl | rfl
  · exact xsym13_any s h3 h2 w
  · exact xsym8_any s h3 h2 w
  · exact xsymA_any s h3 h2 w
  · exact xsymE_any s h3 h2 (Ea.dv2 h2 (by rw [len_data, h3]; decide) (h4 rfl)) w
end Go.Proofs.YtfpliihglgjijaaGreat

/-
  Chapter 11, the reference: Encode.
  Condition: strings within the reach.
-/
namespace Go.Proofs.YtfpliihglgjijaaGreat
open Go.RowKit

theorem sym_len {k : Int} {l : List UInt8} (h : Ea.full k l = 0) : (Ea.sym k l).length ≤ 95 := by
  obtain ⟨h1, h2, h3, h4, _⟩ := Ea.full_ok h
  rcases Ea.kinds h1 with rfl | rfl | rfl | rfl
  · show (Ea.sym13 l).length ≤ 95
    rw [Ea.sym13_len h2 h3]; omega
  · show (Ea.sym8 l).length ≤ 95
    rw [Ea.sym8_len h2 h3]; omega
  · show (Ea.sym13 (48 :: l)).length ≤ 95
    rw [Ea.sym13_len (Ea.digs_cons (by decide) h2) (by rw [List.length_cons, h3]; rfl)]; omega
  · show (Ea.symE l).length ≤ 95
    rw [Ea.symE_len h2 h3 (Ea.dv2 h2 (by rw [h3]; decide) (h4 rfl))]; omega
set_option maxRecDepth 100000 in
set_option maxHeartbeats 2000000 in
theorem xEnc1n (s a : ByteArray) (h : Ea.full 1 s.data.toList = 0) (ha : Ea.digs a.data.toList = true) (hs : s.size ≤ 13) (hz : a.size = 0) (w : World) :
    Calls Tryz.prog 12 #[.int .i64 1, .string s, .string a] w (RowE (Ea.enc 1 s.data.toList a.data.toList) w) := by
  have HF := Lib.hid (fun w => xfull_any 1 s (by omega) w)
  rw [h] at HF
  have haz : a.size ≤ 5 := by omega
  have HD := Lib.hid (xdigits_any a (by unfold maxLen; omega))
  rw [ha] at HD
  have HSY := Lib.hid (fun w => xsymbol_any 1 s h w)
  have hsl := sym_len h
  have HE : Hid (Ea.enc 1 s.data.toList a.data.toList = (List.flatten [Ea.lgt 11, Ea.sym 1 s.data.toList, Ea.lgt 7], 0)) := Lib.hid (by
    unfold Ea.enc
    rw [if_neg (fun g => g h), if_neg (by rw [ha]; exact Bool.noConfusion), if_neg (by rw [len_data]; omega), if_pos (by rw [len_data]; omega)]
    simp [Ea.lq, Ea.rq, List.append_assoc])
  generalize Ea.enc 1 s.data.toList a.data.toList = res at *
  generalize Ea.sym 1 s.data.toList = sy at *
  have HFL : Hid ((List.flatten [Ea.lgt 11, sy, Ea.lgt 7]).length ≤ 1000000) := Lib.hid (by simp [Ea.lgt]; omega)
  have HL7 : Hid (∀ w, Calls Tryz.prog 39 #[.int .i64 7] w (OwnsR (Ea.lgt 7) w)) := Lib.hid (fun w => xlight_any 7 (by omega) w)
  have HL11 : Hid (∀ w, Calls Tryz.prog 39 #[.int .i64 11] w (OwnsR (Ea.lgt 11) w)) := Lib.hid (fun w => xlight_any 11 (by omega) w)
  have b1 : ((a.size : Int) != 0) = false := by rw [show (a.size : Int) = 0 by omega]; rfl
  have b2 : (a.toList.isEmpty) = true := by rw [Lib.toList_data, List.isEmpty_iff]; exact List.eq_nil_of_length_eq_zero (by rw [len_data]; exact hz)
  clear h ha hz hsl
  go_enter Tryz.func12, Tryz.ntmps12
  go_wp2_with fail
  refine (HF.out _).mono ?_
  rintro e w1 ⟨rfl, hx1⟩
  go_wp2_with fail
  refine (HD.out _).mono ?_
  rintro e w2 ⟨rfl, rfl⟩
  go_wp2_with fail
  refine (HL11.out _).mono ?_
  rintro e w3 ⟨v3, rfl, ho3, hx3⟩
  obtain ⟨a3, c3, rfl⟩ := ho3.form
  go_wp2_with fail
  refine (HSY.out _).mono ?_
  rintro e w4 ⟨v4, rfl, ho4, hx4⟩
  obtain ⟨a4, c4, rfl⟩ := ho4.form
  go_wp2_with fail
  refine (HL7.out _).mono ?_
  rintro e w5 ⟨v5, rfl, ho5, hx5⟩
  obtain ⟨a5, c5, rfl⟩ := ho5.form
  go_wp2_with fail
  have HRW := rowsA_mk w5 #[.slice a3 (Ea.lgt 11).length c3, .slice a4 (sy).length c4, .slice a5 (Ea.lgt 7).length c5] [Ea.lgt 11, sy, Ea.lgt 7] 23 rfl (by simp) (fun i hi => by
    have hi' : i = 0 ∨ i = 1 ∨ i = 2 := by simp at hi; omega
    rcases hi' with rfl | rfl | rfl
    · exact (ho3.ext (hx4.trans hx5)).mono (Nat.zero_le _)
    · exact (ho4.ext hx5).mono (Nat.zero_le _)
    · exact ho5.mono (Nat.zero_le _))
  have HJ := Lib.hid (xjoin_any _ [Ea.lgt 11, sy, Ea.lgt 7] _ HRW (by simp) HFL.out)
  refine HJ.out.mono ?_
  rintro e wj ⟨vj, rfl, hoj, hxj⟩
  have hxx := ((hx1.trans (hx3.trans (hx4.trans hx5))).alloc (.cells #[.slice a3 (Ea.lgt 11).length c3, .slice a4 (sy).length c4, .slice a5 (Ea.lgt 7).length c5] 23)).trans hxj
  clear HRW HJ ho3 hx3 ho4 hx4 ho5 hx5 hx1 hxj
  go_wp2
  go_ret2
  exact ⟨vj, by rw [HE.out]; rfl, by rw [HE.out]; exact hoj.slk, hxx⟩
set_option maxRecDepth 100000 in
set_option maxHeartbeats 2000000 in
theorem xEnc1a (s a : ByteArray) (h : Ea.full 1 s.data.toList = 0) (ha : Ea.digs a.data.toList = true) (hs : s.size ≤ 13) (hz : a.size = 2 ∨ a.size = 5) (w : World) :
    Calls Tryz.prog 12 #[.int .i64 1, .string s, .string a] w (RowE (Ea.enc 1 s.data.toList a.data.toList) w) := by
  have HF := Lib.hid (fun w => xfull_any 1 s (by omega) w)
  rw [h] at HF
  have haz : a.size ≤ 5 := by omega
  have HD := Lib.hid (xdigits_any a (by unfold maxLen; omega))
  rw [ha] at HD
  have HSY := Lib.hid (fun w => xsymbol_any 1 s h w)
  have hsl := sym_len h
  have HAD := Lib.hid (fun w => xaddition_any a hz ha w)
  have hal : (Ea.addn a.data.toList).length ≤ 100 := by
    rw [Ea.addn_len ha (by rw [len_data]; exact hz), len_data]
    rcases hz with h | h <;> rw [h] <;> decide
  have HE : Hid (Ea.enc 1 s.data.toList a.data.toList = (List.flatten [Ea.lgt 11, Ea.sym 1 s.data.toList, Ea.lgt 9, Ea.addn a.data.toList, Ea.lgt 7], 0)) := Lib.hid (by
    unfold Ea.enc
    rw [if_neg (fun g => g h), if_neg (by rw [ha]; exact Bool.noConfusion), if_neg (by rw [len_data]; omega), if_neg (by rw [len_data]; omega)]
    simp [Ea.lq, List.append_assoc])
  generalize Ea.enc 1 s.data.toList a.data.toList = res at *
  generalize Ea.sym 1 s.data.toList = sy at *
  generalize Ea.addn a.data.toList = ad at *
  have HFL : Hid ((List.flatten [Ea.lgt 11, sy, Ea.lgt 9, ad, Ea.lgt 7]).length ≤ 1000000) := Lib.hid (by simp [Ea.lgt]; omega)
  have HL7 : Hid (∀ w, Calls Tryz.prog 39 #[.int .i64 7] w (OwnsR (Ea.lgt 7) w)) := Lib.hid (fun w => xlight_any 7 (by omega) w)
  have HL9 : Hid (∀ w, Calls Tryz.prog 39 #[.int .i64 9] w (OwnsR (Ea.lgt 9) w)) := Lib.hid (fun w => xlight_any 9 (by omega) w)
  have HL11 : Hid (∀ w, Calls Tryz.prog 39 #[.int .i64 11] w (OwnsR (Ea.lgt 11) w)) := Lib.hid (fun w => xlight_any 11 (by omega) w)
  have b1 : ((a.size : Int) != 0) = true := bne_iff_ne.2 (by omega)
  have b2 : (a.toList.isEmpty) = false := by rw [Lib.toList_data, List.isEmpty_eq_false_iff]; intro e; have := congrArg List.length e; rw [len_data, List.length_nil] at this; omega
  have b3 : (((a.size : Int) != 2) = false) ∨ (((a.size : Int) != 2) = true ∧ ((a.size : Int) != 5) = false) := by
    rcases hz with h | h
    · exact .inl (by rw [h]; rfl)
    · exact .inr ⟨by rw [h]; rfl, by rw [h]; rfl⟩
  clear h ha hz hal hsl
  rcases b3 with b3 | ⟨b3, b4⟩
  all_goals
    go_enter Tryz.func12, Tryz.ntmps12
    go_wp2_with fail
    refine (HF.out _).mono ?_
    rintro e w1 ⟨rfl, hx1⟩
    go_wp2_with fail
    refine (HD.out _).mono ?_
    rintro e w2 ⟨rfl, rfl⟩
    go_wp2_with fail
    refine (HL11.out _).mono ?_
    rintro e w3 ⟨v3, rfl, ho3, hx3⟩
    obtain ⟨a3, c3, rfl⟩ := ho3.form
    go_wp2_with fail
    refine (HSY.out _).mono ?_
    rintro e w4 ⟨v4, rfl, ho4, hx4⟩
    obtain ⟨a4, c4, rfl⟩ := ho4.form
    go_wp2_with fail
    refine (HL9.out _).mono ?_
    rintro e w5 ⟨v5, rfl, ho5, hx5⟩
    obtain ⟨a5, c5, rfl⟩ := ho5.form
    go_wp2_with fail
    refine (HAD.out _).mono ?_
    rintro e w6 ⟨v6, rfl, ho6, hx6⟩
    obtain ⟨a6, c6, rfl⟩ := ho6.form
    go_wp2_with fail
    refine (HL7.out _).mono ?_
    rintro e w7 ⟨v7, rfl, ho7, hx7⟩
    obtain ⟨a7, c7, rfl⟩ := ho7.form
    go_wp2_with fail
    have HRW := rowsA_mk w7 #[.slice a3 (Ea.lgt 11).length c3, .slice a4 (sy).length c4, .slice a5 (Ea.lgt 9).length c5, .slice a6 (ad).length c6, .slice a7 (Ea.lgt 7).length c7] [Ea.lgt 11, sy, Ea.lgt 9, ad, Ea.lgt 7] 23 rfl (by simp) (fun i hi => by
      have hi' : i = 0 ∨ i = 1 ∨ i = 2 ∨ i = 3 ∨ i = 4 := by simp at hi; omega
      rcases hi' with rfl | rfl | rfl | rfl | rfl
      · exact (ho3.ext (hx4.trans (hx5.trans (hx6.trans hx7)))).mono (Nat.zero_le _)
      · exact (ho4.ext (hx5.trans (hx6.trans hx7))).mono (Nat.zero_le _)
      · exact (ho5.ext (hx6.trans hx7)).mono (Nat.zero_le _)
      · exact (ho6.ext hx7).mono (Nat.zero_le _)
      · exact ho7.mono (Nat.zero_le _))
    have HJ := Lib.hid (xjoin_any _ [Ea.lgt 11, sy, Ea.lgt 9, ad, Ea.lgt 7] _ HRW (by simp) HFL.out)
    refine HJ.out.mono ?_
    rintro e wj ⟨vj, rfl, hoj, hxj⟩
    have hxx := ((hx1.trans (hx3.trans (hx4.trans (hx5.trans (hx6.trans hx7))))).alloc (.cells #[.slice a3 (Ea.lgt 11).length c3, .slice a4 (sy).length c4, .slice a5 (Ea.lgt 9).length c5, .slice a6 (ad).length c6, .slice a7 (Ea.lgt 7).length c7] 23)).trans hxj
    clear HRW HJ ho3 hx3 ho4 hx4 ho5 hx5 ho6 hx6 ho7 hx7 hx1 hxj
    go_wp2
    go_ret2
    exact ⟨vj, by rw [HE.out]; rfl, by rw [HE.out]; exact hoj.slk, hxx⟩
set_option maxRecDepth 100000 in
set_option maxHeartbeats 2000000 in
theorem xEnc2n (s a : ByteArray) (h : Ea.full 2 s.data.toList = 0) (ha : Ea.digs a.data.toList = true) (hs : s.size ≤ 13) (hz : a.size = 0) (w : World) :
    Calls Tryz.prog 12 #[.int .i64 2, .string s, .string a] w (RowE (Ea.enc 2 s.data.toList a.data.toList) w) := by
  have HF := Lib.hid (fun w => xfull_any 2 s (by omega) w)
  rw [h] at HF
  have haz : a.size ≤ 5 := by omega
  have HD := Lib.hid (xdigits_any a (by unfold maxLen; omega))
  rw [ha] at HD
  have HSY := Lib.hid (fun w => xsymbol_any 2 s h w)
  have hsl := sym_len h
  have HE : Hid (Ea.enc 2 s.data.toList a.data.toList = (List.flatten [Ea.lgt 7, Ea.sym 2 s.data.toList, Ea.lgt 7], 0)) := Lib.hid (by
    unfold Ea.enc
    rw [if_neg (fun g => g h), if_neg (by rw [ha]; exact Bool.noConfusion), if_neg (by rw [len_data]; omega), if_pos (by rw [len_data]; omega)]
    simp [Ea.lq, Ea.rq, List.append_assoc])
  generalize Ea.enc 2 s.data.toList a.data.toList = res at *
  generalize Ea.sym 2 s.data.toList = sy at *
  have HFL : Hid ((List.flatten [Ea.lgt 7, sy, Ea.lgt 7]).length ≤ 1000000) := Lib.hid (by simp [Ea.lgt]; omega)
  have HL7 : Hid (∀ w, Calls Tryz.prog 39 #[.int .i64 7] w (OwnsR (Ea.lgt 7) w)) := Lib.hid (fun w => xlight_any 7 (by omega) w)
  have b1 : ((a.size : Int) != 0) = false := by rw [show (a.size : Int) = 0 by omega]; rfl
  have b2 : (a.toList.isEmpty) = true := by rw [Lib.toList_data, List.isEmpty_iff]; exact List.eq_nil_of_length_eq_zero (by rw [len_data]; exact hz)
  clear h ha hz hsl
  go_enter Tryz.func12, Tryz.ntmps12
  go_wp2_with fail
  refine (HF.out _).mono ?_
  rintro e w1 ⟨rfl, hx1⟩
  go_wp2_with fail
  refine (HD.out _).mono ?_
  rintro e w2 ⟨rfl, rfl⟩
  go_wp2_with fail
  refine (HL7.out _).mono ?_
  rintro e w3 ⟨v3, rfl, ho3, hx3⟩
  obtain ⟨a3, c3, rfl⟩ := ho3.form
  go_wp2_with fail
  refine (HSY.out _).mono ?_
  rintro e w4 ⟨v4, rfl, ho4, hx4⟩
  obtain ⟨a4, c4, rfl⟩ := ho4.form
  go_wp2_with fail
  refine (HL7.out _).mono ?_
  rintro e w5 ⟨v5, rfl, ho5, hx5⟩
  obtain ⟨a5, c5, rfl⟩ := ho5.form
  go_wp2_with fail
  have HRW := rowsA_mk w5 #[.slice a3 (Ea.lgt 7).length c3, .slice a4 (sy).length c4, .slice a5 (Ea.lgt 7).length c5] [Ea.lgt 7, sy, Ea.lgt 7] 23 rfl (by simp) (fun i hi => by
    have hi' : i = 0 ∨ i = 1 ∨ i = 2 := by simp at hi; omega
    rcases hi' with rfl | rfl | rfl
    · exact (ho3.ext (hx4.trans hx5)).mono (Nat.zero_le _)
    · exact (ho4.ext hx5).mono (Nat.zero_le _)
    · exact ho5.mono (Nat.zero_le _))
  have HJ := Lib.hid (xjoin_any _ [Ea.lgt 7, sy, Ea.lgt 7] _ HRW (by simp) HFL.out)
  refine HJ.out.mono ?_
  rintro e wj ⟨vj, rfl, hoj, hxj⟩
  have hxx := ((hx1.trans (hx3.trans (hx4.trans hx5))).alloc (.cells #[.slice a3 (Ea.lgt 7).length c3, .slice a4 (sy).length c4, .slice a5 (Ea.lgt 7).length c5] 23)).trans hxj
  clear HRW HJ ho3 hx3 ho4 hx4 ho5 hx5 hx1 hxj
  go_wp2
  go_ret2
  exact ⟨vj, by rw [HE.out]; rfl, by rw [HE.out]; exact hoj.slk, hxx⟩
set_option maxRecDepth 100000 in
set_option maxHeartbeats 2000000 in
theorem xEnc2a (s a : ByteArray) (h : Ea.full 2 s.data.toList = 0) (ha : Ea.digs a.data.toList = true) (hs : s.size ≤ 13) (hz : a.size = 2 ∨ a.size = 5) (w : World) :
    Calls Tryz.prog 12 #[.int .i64 2, .string s, .string a] w (RowE (Ea.enc 2 s.data.toList a.data.toList) w) := by
  have HF := Lib.hid (fun w => xfull_any 2 s (by omega) w)
  rw [h] at HF
  have haz : a.size ≤ 5 := by omega
  have HD := Lib.hid (xdigits_any a (by unfold maxLen; omega))
  rw [ha] at HD
  have HSY := Lib.hid (fun w => xsymbol_any 2 s h w)
  have hsl := sym_len h
  have HAD := Lib.hid (fun w => xaddition_any a hz ha w)
  have hal : (Ea.addn a.data.toList).length ≤ 100 := by
    rw [Ea.addn_len ha (by rw [len_data]; exact hz), len_data]
    rcases hz with h | h <;> rw [h] <;> decide
  have HE : Hid (Ea.enc 2 s.data.toList a.data.toList = (List.flatten [Ea.lgt 7, Ea.sym 2 s.data.toList, Ea.lgt 9, Ea.addn a.data.toList, Ea.lgt 7], 0)) := Lib.hid (by
    unfold Ea.enc
    rw [if_neg (fun g => g h), if_neg (by rw [ha]; exact Bool.noConfusion), if_neg (by rw [len_data]; omega), if_neg (by rw [len_data]; omega)]
    simp [Ea.lq, List.append_assoc])
  generalize Ea.enc 2 s.data.toList a.data.toList = res at *
  generalize Ea.sym 2 s.data.toList = sy at *
  generalize Ea.addn a.data.toList = ad at *
  have HFL : Hid ((List.flatten [Ea.lgt 7, sy, Ea.lgt 9, ad, Ea.lgt 7]).length ≤ 1000000) := Lib.hid (by simp [Ea.lgt]; omega)
  have HL7 : Hid (∀ w, Calls Tryz.prog 39 #[.int .i64 7] w (OwnsR (Ea.lgt 7) w)) := Lib.hid (fun w => xlight_any 7 (by omega) w)
  have HL9 : Hid (∀ w, Calls Tryz.prog 39 #[.int .i64 9] w (OwnsR (Ea.lgt 9) w)) := Lib.hid (fun w => xlight_any 9 (by omega) w)
  have b1 : ((a.size : Int) != 0) = true := bne_iff_ne.2 (by omega)
  have b2 : (a.toList.isEmpty) = false := by rw [Lib.toList_data, List.isEmpty_eq_false_iff]; intro e; have := congrArg List.length e; rw [len_data, List.length_nil] at this; omega
  have b3 : (((a.size : Int) != 2) = false) ∨ (((a.size : Int) != 2) = true ∧ ((a.size : Int) != 5) = false) := by
    rcases hz with h | h
    · exact .inl (by rw [h]; rfl)
    · exact .inr ⟨by rw [h]; rfl, by rw [h]; rfl⟩
  clear h ha hz hal hsl
  rcases b3 with b3 | ⟨b3, b4⟩
  all_goals
    go_enter Tryz.func12, Tryz.ntmps12
    go_wp2_with fail
    refine (HF.out _).mono ?_
    rintro e w1 ⟨rfl, hx1⟩
    go_wp2_with fail
    refine (HD.out _).mono ?_
    rintro e w2 ⟨rfl, rfl⟩
    go_wp2_with fail
    refine (HL7.out _).mono ?_
    rintro e w3 ⟨v3, rfl, ho3, hx3⟩
    obtain ⟨a3, c3, rfl⟩ := ho3.form
    go_wp2_with fail
    refine (HSY.out _).mono ?_
    rintro e w4 ⟨v4, rfl, ho4, hx4⟩
    obtain ⟨a4, c4, rfl⟩ := ho4.form
    go_wp2_with fail
    refine (HL9.out _).mono ?_
    rintro e w5 ⟨v5, rfl, ho5, hx5⟩
    obtain ⟨a5, c5, rfl⟩ := ho5.form
    go_wp2_with fail
    refine (HAD.out _).mono ?_
    rintro e w6 ⟨v6, rfl, ho6, hx6⟩
    obtain ⟨a6, c6, rfl⟩ := ho6.form
    go_wp2_with fail
    refine (HL7.out _).mono ?_
    rintro e w7 ⟨v7, rfl, ho7, hx7⟩
    obtain ⟨a7, c7, rfl⟩ := ho7.form
    go_wp2_with fail
    have HRW := rowsA_mk w7 #[.slice a3 (Ea.lgt 7).length c3, .slice a4 (sy).length c4, .slice a5 (Ea.lgt 9).length c5, .slice a6 (ad).length c6, .slice a7 (Ea.lgt 7).length c7] [Ea.lgt 7, sy, Ea.lgt 9, ad, Ea.lgt 7] 23 rfl (by simp) (fun i hi => by
      have hi' : i = 0 ∨ i = 1 ∨ i = 2 ∨ i = 3 ∨ i = 4 := by simp at hi; omega
      rcases hi' with rfl | rfl | rfl | rfl | rfl
      · exact (ho3.ext (hx4.trans (hx5.trans (hx6.trans hx7)))).mono (Nat.zero_le _)
      · exact (ho4.ext (hx5.trans (hx6.trans hx7))).mono (Nat.zero_le _)
      · exact (ho5.ext (hx6.trans hx7)).mono (Nat.zero_le _)
      · exact (ho6.ext hx7).mono (Nat.zero_le _)
      · exact ho7.mono (Nat.zero_le _))
    have HJ := Lib.hid (xjoin_any _ [Ea.lgt 7, sy, Ea.lgt 9, ad, Ea.lgt 7] _ HRW (by simp) HFL.out)
    refine HJ.out.mono ?_
    rintro e wj ⟨vj, rfl, hoj, hxj⟩
    have hxx := ((hx1.trans (hx3.trans (hx4.trans (hx5.trans (hx6.trans hx7))))).alloc (.cells #[.slice a3 (Ea.lgt 7).length c3, .slice a4 (sy).length c4, .slice a5 (Ea.lgt 9).length c5, .slice a6 (ad).length c6, .slice a7 (Ea.lgt 7).length c7] 23)).trans hxj
    clear HRW HJ ho3 hx3 ho4 hx4 ho5 hx5 ho6 hx6 ho7 hx7 hx1 hxj
    go_wp2
    go_ret2
    exact ⟨vj, by rw [HE.out]; rfl, by rw [HE.out]; exact hoj.slk, hxx⟩
set_option maxRecDepth 100000 in
set_option maxHeartbeats 2000000 in
theorem xEnc3n (s a : ByteArray) (h : Ea.full 3 s.data.toList = 0) (ha : Ea.digs a.data.toList = true) (hs : s.size ≤ 13) (hz : a.size = 0) (w : World) :
    Calls Tryz.prog 12 #[.int .i64 3, .string s, .string a] w (RowE (Ea.enc 3 s.data.toList a.data.toList) w) := by
  have HF := Lib.hid (fun w => xfull_any 3 s (by omega) w)
  rw [h] at HF
  have haz : a.size ≤ 5 := by omega
  have HD := Lib.hid (xdigits_any a (by unfold maxLen; omega))
  rw [ha] at HD
  have HSY := Lib.hid (fun w => xsymbol_any 3 s h w)
  have hsl := sym_len h
  have HE : Hid (Ea.enc 3 s.data.toList a.data.toList = (List.flatten [Ea.lgt 9, Ea.sym 3 s.data.toList, Ea.lgt 9], 0)) := Lib.hid (by
    unfold Ea.enc
    rw [if_neg (fun g => g h), if_neg (by rw [ha]; exact Bool.noConfusion), if_neg (by rw [len_data]; omega), if_pos (by rw [len_data]; omega)]
    simp [Ea.lq, Ea.rq, List.append_assoc])
  generalize Ea.enc 3 s.data.toList a.data.toList = res at *
  generalize Ea.sym 3 s.data.toList = sy at *
  have HFL : Hid ((List.flatten [Ea.lgt 9, sy, Ea.lgt 9]).length ≤ 1000000) := Lib.hid (by simp [Ea.lgt]; omega)
  have HL9 : Hid (∀ w, Calls Tryz.prog 39 #[.int .i64 9] w (OwnsR (Ea.lgt 9) w)) := Lib.hid (fun w => xlight_any 9 (by omega) w)
  have b1 : ((a.size : Int) != 0) = false := by rw [show (a.size : Int) = 0 by omega]; rfl
  have b2 : (a.toList.isEmpty) = true := by rw [Lib.toList_data, List.isEmpty_iff]; exact List.eq_nil_of_length_eq_zero (by rw [len_data]; exact hz)
  clear h ha hz hsl
  go_enter Tryz.func12, Tryz.ntmps12
  go_wp2_with fail
  refine (HF.out _).mono ?_
  rintro e w1 ⟨rfl, hx1⟩
  go_wp2_with fail
  refine (HD.out _).mono ?_
  rintro e w2 ⟨rfl, rfl⟩
  go_wp2_with fail
  refine (HL9.out _).mono ?_
  rintro e w3 ⟨v3, rfl, ho3, hx3⟩
  obtain ⟨a3, c3, rfl⟩ := ho3.form
  go_wp2_with fail
  refine (HSY.out _).mono ?_
  rintro e w4 ⟨v4, rfl, ho4, hx4⟩
  obtain ⟨a4, c4, rfl⟩ := ho4.form
  go_wp2_with fail
  refine (HL9.out _).mono ?_
  rintro e w5 ⟨v5, rfl, ho5, hx5⟩
  obtain ⟨a5, c5, rfl⟩ := ho5.form
  go_wp2_with fail
  have HRW := rowsA_mk w5 #[.slice a3 (Ea.lgt 9).length c3, .slice a4 (sy).length c4, .slice a5 (Ea.lgt 9).length c5] [Ea.lgt 9, sy, Ea.lgt 9] 23 rfl (by simp) (fun i hi => by
    have hi' : i = 0 ∨ i = 1 ∨ i = 2 := by simp at hi; omega
    rcases hi' with rfl | rfl | rfl
    · exact (ho3.ext (hx4.trans hx5)).mono (Nat.zero_le _)
    · exact (ho4.ext hx5).mono (Nat.zero_le _)
    · exact ho5.mono (Nat.zero_le _))
  have HJ := Lib.hid (xjoin_any _ [Ea.lgt 9, sy, Ea.lgt 9] _ HRW (by simp) HFL.out)
  refine HJ.out.mono ?_
  rintro e wj ⟨vj, rfl, hoj, hxj⟩
  have hxx := ((hx1.trans (hx3.trans (hx4.trans hx5))).alloc (.cells #[.slice a3 (Ea.lgt 9).length c3, .slice a4 (sy).length c4, .slice a5 (Ea.lgt 9).length c5] 23)).trans hxj
  clear HRW HJ ho3 hx3 ho4 hx4 ho5 hx5 hx1 hxj
  go_wp2
  go_ret2
  exact ⟨vj, by rw [HE.out]; rfl, by rw [HE.out]; exact hoj.slk, hxx⟩
set_option maxRecDepth 100000 in
set_option maxHeartbeats 2000000 in
theorem xEnc3a (s a : ByteArray) (h : Ea.full 3 s.data.toList = 0) (ha : Ea.digs a.data.toList = true) (hs : s.size ≤ 13) (hz : a.size = 2 ∨ a.size = 5) (w : World) :
    Calls Tryz.prog 12 #[.int .i64 3, .string s, .string a] w (RowE (Ea.enc 3 s.data.toList a.data.toList) w) := by
  have HF := Lib.hid (fun w => xfull_any 3 s (by omega) w)
  rw [h] at HF
  have haz : a.size ≤ 5 := by omega
  have HD := Lib.hid (xdigits_any a (by unfold maxLen; omega))
  rw [ha] at HD
  have HSY := Lib.hid (fun w => xsymbol_any 3 s h w)
  have hsl := sym_len h
  have HAD := Lib.hid (fun w => xaddition_any a hz ha w)
  have hal : (Ea.addn a.data.toList).length ≤ 100 := by
    rw [Ea.addn_len ha (by rw [len_data]; exact hz), len_data]
    rcases hz with h | h <;> rw [h] <;> decide
  have HE : Hid (Ea.enc 3 s.data.toList a.data.toList = (List.flatten [Ea.lgt 9, Ea.sym 3 s.data.toList, Ea.lgt 9, Ea.addn a.data.toList, Ea.lgt 7], 0)) := Lib.hid (by
    unfold Ea.enc
    rw [if_neg (fun g => g h), if_neg (by rw [ha]; exact Bool.noConfusion), if_neg (by rw [len_data]; omega), if_neg (by rw [len_data]; omega)]
    simp [Ea.lq, List.append_assoc])
  generalize Ea.enc 3 s.data.toList a.data.toList = res at *
  generalize Ea.sym 3 s.data.toList = sy at *
  generalize Ea.addn a.data.toList = ad at *
  have HFL : Hid ((List.flatten [Ea.lgt 9, sy, Ea.lgt 9, ad, Ea.lgt 7]).length ≤ 1000000) := Lib.hid (by simp [Ea.lgt]; omega)
  have HL7 : Hid (∀ w, Calls Tryz.prog 39 #[.int .i64 7] w (OwnsR (Ea.lgt 7) w)) := Lib.hid (fun w => xlight_any 7 (by omega) w)
  have HL9 : Hid (∀ w, Calls Tryz.prog 39 #[.int .i64 9] w (OwnsR (Ea.lgt 9) w)) := Lib.hid (fun w => xlight_any 9 (by omega) w)
  have b1 : ((a.size : Int) != 0) = true := bne_iff_ne.2 (by omega)
  have b2 : (a.toList.isEmpty) = false := by rw [Lib.toList_data, List.isEmpty_eq_false_iff]; intro e; have := congrArg List.length e; rw [len_data, List.length_nil] at this; omega
  have b3 : (((a.size : Int) != 2) = false) ∨ (((a.size : Int) != 2) = true ∧ ((a.size : Int) != 5) = false) := by
    rcases hz with h | h
    · exact .inl (by rw [h]; rfl)
    · exact .inr ⟨by rw [h]; rfl, by rw [h]; rfl⟩
  clear h ha hz hal hsl
  rcases b3 with b3 | ⟨b3, b4⟩
  all_goals
    go_enter Tryz.func12, Tryz.ntmps12
    go_wp2_with fail
    refine (HF.out _).mono ?_
    rintro e w1 ⟨rfl, hx1⟩
    go_wp2_with fail
    refine (HD.out _).mono ?_
    rintro e w2 ⟨rfl, rfl⟩
    go_wp2_with fail
    refine (HL9.out _).mono ?_
    rintro e w3 ⟨v3, rfl, ho3, hx3⟩
    obtain ⟨a3, c3, rfl⟩ := ho3.form
    go_wp2_with fail
    refine (HSY.out _).mono ?_
    rintro e w4 ⟨v4, rfl, ho4, hx4⟩
    obtain ⟨a4, c4, rfl⟩ := ho4.form
    go_wp2_with fail
    refine (HL9.out _).mono ?_
    rintro e w5 ⟨v5, rfl, ho5, hx5⟩
    obtain ⟨a5, c5, rfl⟩ := ho5.form
    go_wp2_with fail
    refine (HAD.out _).mono ?_
    rintro e w6 ⟨v6, rfl, ho6, hx6⟩
    obtain ⟨a6, c6, rfl⟩ := ho6.form
    go_wp2_with fail
    refine (HL7.out _).mono ?_
    rintro e w7 ⟨v7, rfl, ho7, hx7⟩
    obtain ⟨a7, c7, rfl⟩ := ho7.form
    go_wp2_with fail
    have HRW := rowsA_mk w7 #[.slice a3 (Ea.lgt 9).length c3, .slice a4 (sy).length c4, .slice a5 (Ea.lgt 9).length c5, .slice a6 (ad).length c6, .slice a7 (Ea.lgt 7).length c7] [Ea.lgt 9, sy, Ea.lgt 9, ad, Ea.lgt 7] 23 rfl (by simp) (fun i hi => by
      have hi' : i = 0 ∨ i = 1 ∨ i = 2 ∨ i = 3 ∨ i = 4 := by simp at hi; omega
      rcases hi' with rfl | rfl | rfl | rfl | rfl
      · exact (ho3.ext (hx4.trans (hx5.trans (hx6.trans hx7)))).mono (Nat.zero_le _)
      · exact (ho4.ext (hx5.trans (hx6.trans hx7))).mono (Nat.zero_le _)
      · exact (ho5.ext (hx6.trans hx7)).mono (Nat.zero_le _)
      · exact (ho6.ext hx7).mono (Nat.zero_le _)
      · exact ho7.mono (Nat.zero_le _))
    have HJ := Lib.hid (xjoin_any _ [Ea.lgt 9, sy, Ea.lgt 9, ad, Ea.lgt 7] _ HRW (by simp) HFL.out)
    refine HJ.out.mono ?_
    rintro e wj ⟨vj, rfl, hoj, hxj⟩
    have hxx := ((hx1.trans (hx3.trans (hx4.trans (hx5.trans (hx6.trans hx7))))).alloc (.cells #[.slice a3 (Ea.lgt 9).length c3, .slice a4 (sy).length c4, .slice a5 (Ea.lgt 9).length c5, .slice a6 (ad).length c6, .slice a7 (Ea.lgt 7).length c7] 23)).trans hxj
    clear HRW HJ ho3 hx3 ho4 hx4 ho5 hx5 ho6 hx6 ho7 hx7 hx1 hxj
    go_wp2
    go_ret2
    exact ⟨vj, by rw [HE.out]; rfl, by rw [HE.out]; exact hoj.slk, hxx⟩
set_option maxRecDepth 100000 in
set_option maxHeartbeats 2000000 in
theorem xEnc4n (s a : ByteArray) (h : Ea.full 4 s.data.toList = 0) (ha : Ea.digs a.data.toList = true) (hs : s.size ≤ 13) (hz : a.size = 0) (w : World) :
    Calls Tryz.prog 12 #[.int .i64 4, .string s, .string a] w (RowE (Ea.enc 4 s.data.toList a.data.toList) w) := by
  have HF := Lib.hid (fun w => xfull_any 4 s (by omega) w)
  rw [h] at HF
  have haz : a.size ≤ 5 := by omega
  have HD := Lib.hid (xdigits_any a (by unfold maxLen; omega))
  rw [ha] at HD
  have HSY := Lib.hid (fun w => xsymbol_any 4 s h w)
  have hsl := sym_len h
  have HE : Hid (Ea.enc 4 s.data.toList a.data.toList = (List.flatten [Ea.lgt 9, Ea.sym 4 s.data.toList, Ea.lgt 7], 0)) := Lib.hid (by
    unfold Ea.enc
    rw [if_neg (fun g => g h), if_neg (by rw [ha]; exact Bool.noConfusion), if_neg (by rw [len_data]; omega), if_pos (by rw [len_data]; omega)]
    simp [Ea.lq, Ea.rq, List.append_assoc])
  generalize Ea.enc 4 s.data.toList a.data.toList = res at *
  generalize Ea.sym 4 s.data.toList = sy at *
  have HFL : Hid ((List.flatten [Ea.lgt 9, sy, Ea.lgt 7]).length ≤ 1000000) := Lib.hid (by simp [Ea.lgt]; omega)
  have HL7 : Hid (∀ w, Calls Tryz.prog 39 #[.int .i64 7] w (OwnsR (Ea.lgt 7) w)) := Lib.hid (fun w => xlight_any 7 (by omega) w)
  have HL9 : Hid (∀ w, Calls Tryz.prog 39 #[.int .i64 9] w (OwnsR (Ea.lgt 9) w)) := Lib.hid (fun w => xlight_any 9 (by omega) w)
  have b1 : ((a.size : Int) != 0) = false := by rw [show (a.size : Int) = 0 by omega]; rfl
  have b2 : (a.toList.isEmpty) = true := by rw [Lib.toList_data, List.isEmpty_iff]; exact List.eq_nil_of_length_eq_zero (by rw [len_data]; exact hz)
  clear h ha hz hsl
  go_enter Tryz.func12, Tryz.ntmps12
  go_wp2_with fail
  refine (HF.out _).mono ?_
  rintro e w1 ⟨rfl, hx1⟩
  go_wp2_with fail
  refine (HD.out _).mono ?_
  rintro e w2 ⟨rfl, rfl⟩
  go_wp2_with fail
  refine (HL9.out _).mono ?_
  rintro e w3 ⟨v3, rfl, ho3, hx3⟩
  obtain ⟨a3, c3, rfl⟩ := ho3.form
  go_wp2_with fail
  refine (HSY.out _).mono ?_
  rintro e w4 ⟨v4, rfl, ho4, hx4⟩
  obtain ⟨a4, c4, rfl⟩ := ho4.form
  go_wp2_with fail
  refine (HL7.out _).mono ?_
  rintro e w5 ⟨v5, rfl, ho5, hx5⟩
  obtain ⟨a5, c5, rfl⟩ := ho5.form
  go_wp2_with fail
  have HRW := rowsA_mk w5 #[.slice a3 (Ea.lgt 9).length c3, .slice a4 (sy).length c4, .slice a5 (Ea.lgt 7).length c5] [Ea.lgt 9, sy, Ea.lgt 7] 23 rfl (by simp) (fun i hi => by
    have hi' : i = 0 ∨ i = 1 ∨ i = 2 := by simp at hi; omega
    rcases hi' with rfl | rfl | rfl
    · exact (ho3.ext (hx4.trans hx5)).mono (Nat.zero_le _)
    · exact (ho4.ext hx5).mono (Nat.zero_le _)
    · exact ho5.mono (Nat.zero_le _))
  have HJ := Lib.hid (xjoin_any _ [Ea.lgt 9, sy, Ea.lgt 7] _ HRW (by simp) HFL.out)
  refine HJ.out.mono ?_
  rintro e wj ⟨vj, rfl, hoj, hxj⟩
  have hxx := ((hx1.trans (hx3.trans (hx4.trans hx5))).alloc (.cells #[.slice a3 (Ea.lgt 9).length c3, .slice a4 (sy).length c4, .slice a5 (Ea.lgt 7).length c5] 23)).trans hxj
  clear HRW HJ ho3 hx3 ho4 hx4 ho5 hx5 hx1 hxj
  go_wp2
  go_ret2
  exact ⟨vj, by rw [HE.out]; rfl, by rw [HE.out]; exact hoj.slk, hxx⟩
set_option maxRecDepth 100000 in
set_option maxHeartbeats 2000000 in
theorem xEnc4a (s a : ByteArray) (h : Ea.full 4 s.data.toList = 0) (ha : Ea.digs a.data.toList = true) (hs : s.size ≤ 13) (hz : a.size = 2 ∨ a.size = 5) (w : World) :
    Calls Tryz.prog 12 #[.int .i64 4, .string s, .string a] w (RowE (Ea.enc 4 s.data.toList a.data.toList) w) := by
  have HF := Lib.hid (fun w => xfull_any 4 s (by omega) w)
  rw [h] at HF
  have haz : a.size ≤ 5 := by omega
  have HD := Lib.hid (xdigits_any a (by unfold maxLen; omega))
  rw [ha] at HD
  have HSY := Lib.hid (fun w => xsymbol_any 4 s h w)
  have hsl := sym_len h
  have HAD := Lib.hid (fun w => xaddition_any a hz ha w)
  have hal : (Ea.addn a.data.toList).length ≤ 100 := by
    rw [Ea.addn_len ha (by rw [len_data]; exact hz), len_data]
    rcases hz with h | h <;> rw [h] <;> decide
  have HE : Hid (Ea.enc 4 s.data.toList a.data.toList = (List.flatten [Ea.lgt 9, Ea.sym 4 s.data.toList, Ea.lgt 9, Ea.addn a.data.toList, Ea.lgt 7], 0)) := Lib.hid (by
    unfold Ea.enc
    rw [if_neg (fun g => g h), if_neg (by rw [ha]; exact Bool.noConfusion), if_neg (by rw [len_data]; omega), if_neg (by rw [len_data]; omega)]
    simp [Ea.lq, List.append_assoc])
  generalize Ea.enc 4 s.data.toList a.data.toList = res at *
  generalize Ea.sym 4 s.data.toList = sy at *
  generalize Ea.addn a.data.toList = ad at *
  have HFL : Hid ((List.flatten [Ea.lgt 9, sy, Ea.lgt 9, ad, Ea.lgt 7]).length ≤ 1000000) := Lib.hid (by simp [Ea.lgt]; omega)
  have HL7 : Hid (∀ w, Calls Tryz.prog 39 #[.int .i64 7] w (OwnsR (Ea.lgt 7) w)) := Lib.hid (fun w => xlight_any 7 (by omega) w)
  have HL9 : Hid (∀ w, Calls Tryz.prog 39 #[.int .i64 9] w (OwnsR (Ea.lgt 9) w)) := Lib.hid (fun w => xlight_any 9 (by omega) w)
  have b1 : ((a.size : Int) != 0) = true := bne_iff_ne.2 (by omega)
  have b2 : (a.toList.isEmpty) = false := by rw [Lib.toList_data, List.isEmpty_eq_false_iff]; intro e; have := congrArg List.length e; rw [len_data, List.length_nil] at this; omega
  have b3 : (((a.size : Int) != 2) = false) ∨ (((a.size : Int) != 2) = true ∧ ((a.size : Int) != 5) = false) := by
    rcases hz with h | h
    · exact .inl (by rw [h]; rfl)
    · exact .inr ⟨by rw [h]; rfl, by rw [h]; rfl⟩
  clear h ha hz hal hsl
  rcases b3 with b3 | ⟨b3, b4⟩
  all_goals
    go_enter Tryz.func12, Tryz.ntmps12
    go_wp2_with fail
    refine (HF.out _).mono ?_
    rintro e w1 ⟨rfl, hx1⟩
    go_wp2_with fail
    refine (HD.out _).mono ?_
    rintro e w2 ⟨rfl, rfl⟩
    go_wp2_with fail
    refine (HL9.out _).mono ?_
    rintro e w3 ⟨v3, rfl, ho3, hx3⟩
    obtain ⟨a3, c3, rfl⟩ := ho3.form
    go_wp2_with fail
    refine (HSY.out _).mono ?_
    rintro e w4 ⟨v4, rfl, ho4, hx4⟩
    obtain ⟨a4, c4, rfl⟩ := ho4.form
    go_wp2_with fail
    refine (HL9.out _).mono ?_
    rintro e w5 ⟨v5, rfl, ho5, hx5⟩
    obtain ⟨a5, c5, rfl⟩ := ho5.form
    go_wp2_with fail
    refine (HAD.out _).mono ?_
    rintro e w6 ⟨v6, rfl, ho6, hx6⟩
    obtain ⟨a6, c6, rfl⟩ := ho6.form
    go_wp2_with fail
    refine (HL7.out _).mono ?_
    rintro e w7 ⟨v7, rfl, ho7, hx7⟩
    obtain ⟨a7, c7, rfl⟩ := ho7.form
    go_wp2_with fail
    have HRW := rowsA_mk w7 #[.slice a3 (Ea.lgt 9).length c3, .slice a4 (sy).length c4, .slice a5 (Ea.lgt 9).length c5, .slice a6 (ad).length c6, .slice a7 (Ea.lgt 7).length c7] [Ea.lgt 9, sy, Ea.lgt 9, ad, Ea.lgt 7] 23 rfl (by simp) (fun i hi => by
      have hi' : i = 0 ∨ i = 1 ∨ i = 2 ∨ i = 3 ∨ i = 4 := by simp at hi; omega
      rcases hi' with rfl | rfl | rfl | rfl | rfl
      · exact (ho3.ext (hx4.trans (hx5.trans (hx6.trans hx7)))).mono (Nat.zero_le _)
      · exact (ho4.ext (hx5.trans (hx6.trans hx7))).mono (Nat.zero_le _)
      · exact (ho5.ext (hx6.trans hx7)).mono (Nat.zero_le _)
      · exact (ho6.ext hx7).mono (Nat.zero_le _)
      · exact ho7.mono (Nat.zero_le _))
    have HJ := Lib.hid (xjoin_any _ [Ea.lgt 9, sy, Ea.lgt 9, ad, Ea.lgt 7] _ HRW (by simp) HFL.out)
    refine HJ.out.mono ?_
    rintro e wj ⟨vj, rfl, hoj, hxj⟩
    have hxx := ((hx1.trans (hx3.trans (hx4.trans (hx5.trans (hx6.trans hx7))))).alloc (.cells #[.slice a3 (Ea.lgt 9).length c3, .slice a4 (sy).length c4, .slice a5 (Ea.lgt 9).length c5, .slice a6 (ad).length c6, .slice a7 (Ea.lgt 7).length c7] 23)).trans hxj
    clear HRW HJ ho3 hx3 ho4 hx4 ho5 hx5 ho6 hx6 ho7 hx7 hx1 hxj
    go_wp2
    go_ret2
    exact ⟨vj, by rw [HE.out]; rfl, by rw [HE.out]; exact hoj.slk, hxx⟩

set_option maxRecDepth 100000 in
set_option maxHeartbeats 2000000 in
theorem xEncode_any (k : Int) (s a : ByteArray) (hs : s.size ≤ 9223372036854775807) (ha : a.size ≤ 9223372036854775807) (w : World) :
    Calls Tryz.prog 12 #[.int .i64 k, .string s, .string a] w (RowE (Ea.enc k s.data.toList a.data.toList) w) := by
  by_cases h : Ea.full k s.data.toList = 0
  · by_cases hd : Ea.digs a.data.toList = true
    · by_cases hz : a.size ≠ 0 ∧ a.size ≠ 2 ∧ a.size ≠ 5
      · have HF := Lib.hid (fun w => xfull_any k s hs w)
        rw [h] at HF
        have HD := Lib.hid (xdigits_any a ha)
        rw [hd] at HD
        have HE : Hid (Ea.enc k s.data.toList a.data.toList = ([], 7)) := Lib.hid (by
          unfold Ea.enc
          rw [if_neg (fun g => g h), if_neg (by rw [hd]; exact Bool.noConfusion), if_pos (by rw [len_data]; exact hz)])
        generalize Ea.enc k s.data.toList a.data.toList = res at *
        have b1 : ((a.size : Int) != 0) = true := bne_iff_ne.2 (by omega)
        have b2 : ((a.size : Int) != 2) = true := bne_iff_ne.2 (by omega)
        have b3 : ((a.size : Int) != 5) = true := bne_iff_ne.2 (by omega)
        clear h hd hz
        go_enter Tryz.func12, Tryz.ntmps12
        go_wp2_with fail
        refine (HF.out _).mono ?_
        rintro e w1 ⟨rfl, hx1⟩
        go_wp2_with fail
        refine (HD.out _).mono ?_
        rintro e w2 ⟨rfl, rfl⟩
        go_wp2
        go_ret2
        exact ⟨_, by rw [HE.out]; rfl, by rw [HE.out]; exact SlK.nil _, hx1⟩
      · obtain ⟨h1, _, h3, _⟩ := Ea.full_ok h
        rw [len_data] at h3
        by_cases h0 : a.size = 0
        · rcases Ea.kinds h1 with rfl | rfl | rfl | rfl
          · exact xEnc1n s a h hd (by rw [h3]; decide) h0 w
          · exact xEnc2n s a h hd (by rw [h3]; decide) h0 w
          · exact xEnc3n s a h hd (by rw [h3]; decide) h0 w
          · exact xEnc4n s a h hd (by rw [h3]; decide) h0 w
        · have h25 : a.size = 2 ∨ a.size = 5 := by omega
          rcases Ea.kinds h1 with rfl | rfl | rfl | rfl
          · exact xEnc1a s a h hd (by rw [h3]; decide) h25 w
          · exact xEnc2a s a h hd (by rw [h3]; decide) h25 w
          · exact xEnc3a s a h hd (by rw [h3]; decide) h25 w
          · exact xEnc4a s a h hd (by rw [h3]; decide) h25 w
    · have hd' : Ea.digs a.data.toList = false := by simpa using hd
      have HF := Lib.hid (fun w => xfull_any k s hs w)
      rw [h] at HF
      have HD := Lib.hid (xdigits_any a ha)
      rw [hd'] at HD
      have HE : Hid (Ea.enc k s.data.toList a.data.toList = ([], 6)) := Lib.hid (by
        unfold Ea.enc
        rw [if_neg (fun g => g h), if_pos hd'])
      generalize Ea.enc k s.data.toList a.data.toList = res at *
      clear h hd hd'
      go_enter Tryz.func12, Tryz.ntmps12
      go_wp2_with fail
      refine (HF.out _).mono ?_
      rintro e w1 ⟨rfl, hx1⟩
      go_wp2_with fail
      refine (HD.out _).mono ?_
      rintro e w2 ⟨rfl, rfl⟩
      go_wp2
      go_ret2
      exact ⟨_, by rw [HE.out]; rfl, by rw [HE.out]; exact SlK.nil _, hx1⟩
  · have HF := Lib.hid (fun w => xfull_any k s hs w)
    have HE : Hid (Ea.enc k s.data.toList a.data.toList = ([], Ea.full k s.data.toList)) := Lib.hid (by
      unfold Ea.enc
      rw [if_pos h])
    have b : (Ea.full k s.data.toList != 0) = true := bne_iff_ne.2 h
    generalize Ea.enc k s.data.toList a.data.toList = res at *
    generalize Ea.full k s.data.toList = f at *
    clear h
    go_enter Tryz.func12, Tryz.ntmps12
    go_wp2_with fail
    refine (HF.out _).mono ?_
    rintro e w1 ⟨rfl, hx1⟩
    go_wp2
    go_ret2
    exact ⟨_, by rw [HE.out]; rfl, by rw [HE.out]; exact SlK.nil _, hx1⟩
end Go.Proofs.YtfpliihglgjijaaGreat
