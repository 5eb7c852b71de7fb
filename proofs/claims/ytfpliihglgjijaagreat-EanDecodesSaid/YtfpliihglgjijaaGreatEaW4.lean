/-
  Chapter 11: Compress, walked.
  Condition: strings within the reach.
-/
import Derived.Test.YtfpliihglgjijaaGreatEaW3
import Derived.Test.YtfpliihglgjijaaGreatArr
import Derived.BigRegion
namespace Go.Proofs.YtfpliihglgjijaaGreat
set_option linter.unusedVariables false
open Go.RowKit

set_option maxRecDepth 100000 in
set_option maxHeartbeats 4000000 in
theorem eCompress_any (s : ByteArray) (hs : s.size ≤ 9223372036854775807) (w : World) :
    Calls Tryz.prog 19 #[.string s] w fun e w' => e = .returned (strE (Ea.cprs s.data.toList)) ∧ Ext w w' := by
  have HF := Lib.hid (full_steps 3 s.data.toList)
  have HX := Lib.hid (Ea.cprs.eq_1 s.data.toList)
  have HD := Lib.hid (digitsOnly_any s hs)
  have HZ := Lib.hid (esize_any 3)
  rw [show ((Ea.size 3 : Nat) : Int) = 12 from rfl] at HZ
  rw [show Ea.size 3 = 12 from rfl, if_neg (by decide), len_data] at HF
  by_cases h2 : Ea.digs s.data.toList = false
  · rw [if_pos h2] at HF
    rw [HF.out, if_pos (by decide)] at HX
    rw [h2] at HD
    generalize Ea.cprs s.data.toList = res at *
    clear h2 HF
    go_enter Tryz.func19, Tryz.ntmps19
    go_wp2_with fail
    refine (HD.out _).mono ?_
    rintro e w1 ⟨rfl, rfl⟩
    go_wp2
    go_ret2
    exact ⟨by rw [HX.out]; rfl, Ext.refl _⟩
  · have h2' : Ea.digs s.data.toList = true := by simpa using h2
    rw [if_neg h2] at HF
    rw [h2'] at HD
    by_cases h3 : s.size ≠ 12
    · rw [if_pos h3] at HF
      rw [HF.out, if_pos (by decide)] at HX
      have b3 : ((s.size : Int) != 12) = true := by simp; omega
      generalize Ea.cprs s.data.toList = res at *
      clear h2 h2' HF h3
      go_enter Tryz.func19, Tryz.ntmps19
      go_wp2_with fail
      refine (HD.out _).mono ?_
      rintro e w1 ⟨rfl, rfl⟩
      go_wp2_with fail
      refine (HZ.out _).mono ?_
      rintro e w1 ⟨rfl, rfl⟩
      go_wp2
      go_ret2
      exact ⟨by rw [HX.out]; rfl, Ext.refl _⟩
    · rw [if_neg h3, if_neg (fun h => absurd h.1 (by decide))] at HF
      have h12 : s.size = 12 := by omega
      have b3 : ((s.size : Int) != 12) = false := by simp; omega
      have HN := Lib.hid (numbered_any s (by omega))
      rw [num_iff s (by omega) h2'] at HN
      have HRI := Lib.hid (right_any 3 s h2' (.inr ⟨by decide, by omega, by omega⟩))
      rw [if_neg (show ¬ (3 : Int) = 4 by decide)] at HRI HF
      by_cases h5 : Ea.good s.data.toList
      · rw [if_pos h5] at HF
        rw [decide_eq_true h5] at HRI
        rw [HF.out, if_neg (by decide)] at HX
        by_cases h4 : s.data.toList.getD 0 0 ≤ 49
        · rw [decide_eq_true h4] at HN
          rw [Ea.cut_cand (by rw [len_data]; exact h12) h4 h2'] at HX
          generalize Ea.cprs s.data.toList = res at *
          obtain ⟨a0, a1, a2, a3, a4, a5, a6, a7, a8, a9, a10, a11, hl⟩ := Ea.len12 (l := s.data.toList) (by rw [len_data]; exact h12)
          obtain ⟨l0, hl0⟩ : ∃ l0, [a0, a1, a2, a3, a4, a5, a6, a7, a8, a9, a10, a11] = l0 := ⟨_, rfl⟩
          have HL0 := Lib.hid hl0
          rw [hl, hl0] at HX
          have HL := Lib.hid hl
          have HSEL : Hid (∀ i, i < 4 → (∀ j, j < i → Ea.okC l0 j = false) → Ea.okC l0 i = true → res = (Ea.cand l0 i, 0)) := Lib.hid (fun i hi hj hk => by
            rw [HX.out]
            rcases (by omega : i = 0 ∨ i = 1 ∨ i = 2 ∨ i = 3) with rfl | rfl | rfl | rfl
            · rw [if_pos hk]
            · rw [if_neg (by rw [hj 0 (by omega)]; simp), if_pos hk]
            · rw [if_neg (by rw [hj 0 (by omega)]; simp), if_neg (by rw [hj 1 (by omega)]; simp), if_pos hk]
            · rw [if_neg (by rw [hj 0 (by omega)]; simp), if_neg (by rw [hj 1 (by omega)]; simp), if_neg (by rw [hj 2 (by omega)]; simp), if_pos hk])
          have HEND : Hid ((∀ j, j < 4 → Ea.okC l0 j = false) → res = ([], 9)) := Lib.hid (fun hj => by
            rw [HX.out, if_neg (by rw [hj 0 (by omega)]; simp), if_neg (by rw [hj 1 (by omega)]; simp), if_neg (by rw [hj 2 (by omega)]; simp), if_neg (by rw [hj 3 (by omega)]; simp)])
          clear h2 h2' h3 h5 h4 HF hl hl0 HX
          go_enter Tryz.func19, Tryz.ntmps19
          go_wp2_with fail
          refine (HD.out _).mono ?_
          rintro e w1 ⟨rfl, rfl⟩
          go_wp2_with fail
          refine (HZ.out _).mono ?_
          rintro e w1 ⟨rfl, rfl⟩
          go_wp2_with fail
          refine (HRI.out _).mono ?_
          rintro e w1 ⟨rfl, hx1⟩
          go_wp2_with fail
          refine (HN.out _).mono ?_
          rintro e w2 ⟨rfl, rfl⟩
          go_wp2
          go_region
          obtain ⟨C0, hC0⟩ : ∃ C, (s.extract 0 3 ++ s.extract 8 11 ++ s.extract 3 4 ++ s.extract 11 12 : ByteArray) = C := ⟨_, rfl⟩
          have HC0 : Hid (C0.data.toList = Ea.cand l0 0) := Lib.hid (by
            rw [← hC0, ← HL0.out]
            simp only [ByteArray.data_append, Array.toList_append, cut_mid, HL.out]
            rfl)
          have hC0s : C0.size = 8 := by rw [size_of_toList HC0.out, Ea.cand_len (by rw [← HL0.out]; rfl)]
          rw [hC0]
          clear hC0
          obtain ⟨C1, hC1⟩ : ∃ C, (s.extract 0 4 ++ s.extract 9 11 ++ ⟨#[51]⟩ ++ s.extract 11 12 : ByteArray) = C := ⟨_, rfl⟩
          have HC1 : Hid (C1.data.toList = Ea.cand l0 1) := Lib.hid (by
            rw [← hC1, ← HL0.out]
            simp only [ByteArray.data_append, Array.toList_append, cut_mid, HL.out]
            rfl)
          have hC1s : C1.size = 8 := by rw [size_of_toList HC1.out, Ea.cand_len (by rw [← HL0.out]; rfl)]
          rw [hC1]
          clear hC1
          obtain ⟨C2, hC2⟩ : ∃ C, (s.extract 0 5 ++ s.extract 10 11 ++ ⟨#[52]⟩ ++ s.extract 11 12 : ByteArray) = C := ⟨_, rfl⟩
          have HC2 : Hid (C2.data.toList = Ea.cand l0 2) := Lib.hid (by
            rw [← hC2, ← HL0.out]
            simp only [ByteArray.data_append, Array.toList_append, cut_mid, HL.out]
            rfl)
          have hC2s : C2.size = 8 := by rw [size_of_toList HC2.out, Ea.cand_len (by rw [← HL0.out]; rfl)]
          rw [hC2]
          clear hC2
          obtain ⟨C3, hC3⟩ : ∃ C, (s.extract 0 6 ++ s.extract 10 11 ++ s.extract 11 12 : ByteArray) = C := ⟨_, rfl⟩
          have HC3 : Hid (C3.data.toList = Ea.cand l0 3) := Lib.hid (by
            rw [← hC3, ← HL0.out]
            simp only [ByteArray.data_append, Array.toList_append, cut_mid, HL.out]
            rfl)
          have hC3s : C3.size = 8 := by rw [size_of_toList HC3.out, Ea.cand_len (by rw [← HL0.out]; rfl)]
          rw [hC3]
          clear hC3
          have hx2 : Ext w (w1.alloc (Obj.cells #[Value.string C0, Value.string C1, Value.string C2, Value.string C3] 68)).drew := (by repeat (first | exact Ext.refl _ | assumption | refine Ext.alloc ?_ _ | refine Ext.drew ?_ | refine Ext.drewN ?_ _ | refine Ext.setCell ?_ (Nat.le_refl _) _ | refine Ext.trans ?_ (by assumption)))
          go_wp2
          go_loopw [62] (fun i wr => ∃ k : Nat, k ≤ 4 ∧ i = .int .i64 (k : Int) ∧ Hid (∀ j, j < k → Ea.okC l0 j = false) ∧ Ext w wr) (fun i _ => 4 - (intOf i).toNat)
          case atStart => exact ⟨0, Nat.zero_le _, rfl, Lib.hid (fun j hj => absurd hj (Nat.not_lt_zero _)), hx2⟩
          case round =>
            obtain ⟨k, hk, rfl, hno, hxr⟩ := hrel
            have hk4 : k = 0 ∨ k = 1 ∨ k = 2 ∨ k = 3 ∨ k = 4 := by omega
            rcases hk4 with rfl | rfl | rfl | rfl | rfl
            · have hix : ∀ w, (Instr.index 68 (.agg #[Value.string C0, Value.string C1, Value.string C2, Value.string C3]) (.int .i64 0)).run Tryz.prog w = .ok (.string C0) w := fun w => run_index_strs 68 4 (by kernel_rfl) #[Value.string C0, Value.string C1, Value.string C2, Value.string C3] 0 (by omega) (.string C0) rfl w
              have hb6 : 6 < C0.size := by omega
              obtain ⟨c, hc⟩ : ∃ c, C0[6] = c := ⟨_, rfl⟩
              have HC6 : Hid ((Ea.cand l0 0).getD 6 0 = c) := Lib.hid (by
                rw [← HC0.out, List.getD_eq_getElem?_getD, List.getElem?_eq_getElem (by rw [len_data]; exact hb6)]; exact hc)
              have HLN := Lib.hid (line_any c)
              have HEX := Lib.hid (expand_any C0 hC0s)
              rw [HC0.out] at HEX
              have HOK : Hid (Ea.okC l0 0 = (Ea.lineN c == 0 && Ea.exp8 (Ea.cand l0 0) == l0)) := Lib.hid (by unfold Ea.okC; rw [HC6.out])
              generalize Ea.lineN c = ln at *
              by_cases e1 : ln = 0
              · have b1 : ((ln : Int) == 0) = true := by rw [e1]; rfl
                by_cases e2 : Ea.exp8 (Ea.cand l0 0) = l0
                · have HK : Ea.okC l0 0 = true := by rw [HOK.out, e1, e2]; simp
                  have HRES : Hid (res = (Ea.cand l0 0, 0)) := Lib.hid (HSEL.out 0 (by omega) hno.out HK)
                  have b2 : ((Ea.bS (Ea.exp8 (Ea.cand l0 0))).toList == s.toList) = true := by rw [e2, Lib.toList_data, Ea.bS_list, Lib.toList_data, HL.out, HL0.out]; simp
                  generalize Ea.bS (Ea.exp8 (Ea.cand l0 0)) = U at *
                  clear e1 e2 HOK
                  go_wp2_with fail
                  refine (HLN.out _).mono ?_
                  rintro e w3 ⟨rfl, rfl⟩
                  go_wp2_with fail
                  refine (HEX.out _).mono ?_
                  rintro e w4 ⟨rfl, hx4⟩
                  go_wp2
                  go_ret2
                  exact ⟨by rw [HRES.out, ← HC0.out]; unfold strE; rw [Ea.bS_of]; rfl, hxr.trans hx4⟩
                · have HK : Ea.okC l0 0 = false := by rw [HOK.out]; simp [e2]
                  have b2 : ((Ea.bS (Ea.exp8 (Ea.cand l0 0))).toList == s.toList) = false := by
                    rw [Lib.toList_data, Ea.bS_list, Lib.toList_data, HL.out, HL0.out]; simpa using e2
                  generalize Ea.bS (Ea.exp8 (Ea.cand l0 0)) = U at *
                  clear e1 e2 HOK
                  go_wp2_with fail
                  refine (HLN.out _).mono ?_
                  rintro e w3 ⟨rfl, rfl⟩
                  go_wp2_with fail
                  refine (HEX.out _).mono ?_
                  rintro e w4 ⟨rfl, hx4⟩
                  go_wp2
                  go_roundw
                  case rel => exact ⟨1, by omega, by go_num, Lib.hid (fun j hj => by
                    rcases (by omega : j < 0 ∨ j = 0) with hj | rfl
                    · exact hno.out j hj
                    · exact HK), hxr.trans hx4⟩
                  case measure => simp [intOf]
              · have HK : Ea.okC l0 0 = false := by rw [HOK.out]; simp [e1]
                have b1 : ((ln : Int) == 0) = false := beq_eq_false_iff_ne.2 (by omega)
                clear e1 HOK
                go_wp2_with fail
                refine (HLN.out _).mono ?_
                rintro e w3 ⟨rfl, rfl⟩
                go_wp2
                go_roundw
                case rel => exact ⟨1, by omega, by go_num, Lib.hid (fun j hj => by
                  rcases (by omega : j < 0 ∨ j = 0) with hj | rfl
                  · exact hno.out j hj
                  · exact HK), hxr⟩
                case measure => simp [intOf]
            · have hix : ∀ w, (Instr.index 68 (.agg #[Value.string C0, Value.string C1, Value.string C2, Value.string C3]) (.int .i64 1)).run Tryz.prog w = .ok (.string C1) w := fun w => run_index_strs 68 4 (by kernel_rfl) #[Value.string C0, Value.string C1, Value.string C2, Value.string C3] 1 (by omega) (.string C1) rfl w
              have hb6 : 6 < C1.size := by omega
              obtain ⟨c, hc⟩ : ∃ c, C1[6] = c := ⟨_, rfl⟩
              have HC6 : Hid ((Ea.cand l0 1).getD 6 0 = c) := Lib.hid (by
                rw [← HC1.out, List.getD_eq_getElem?_getD, List.getElem?_eq_getElem (by rw [len_data]; exact hb6)]; exact hc)
              have HLN := Lib.hid (line_any c)
              have HEX := Lib.hid (expand_any C1 hC1s)
              rw [HC1.out] at HEX
              have HOK : Hid (Ea.okC l0 1 = (Ea.lineN c == 1 && Ea.exp8 (Ea.cand l0 1) == l0)) := Lib.hid (by unfold Ea.okC; rw [HC6.out])
              generalize Ea.lineN c = ln at *
              by_cases e1 : ln = 1
              · have b1 : ((ln : Int) == 1) = true := by rw [e1]; rfl
                by_cases e2 : Ea.exp8 (Ea.cand l0 1) = l0
                · have HK : Ea.okC l0 1 = true := by rw [HOK.out, e1, e2]; simp
                  have HRES : Hid (res = (Ea.cand l0 1, 0)) := Lib.hid (HSEL.out 1 (by omega) hno.out HK)
                  have b2 : ((Ea.bS (Ea.exp8 (Ea.cand l0 1))).toList == s.toList) = true := by rw [e2, Lib.toList_data, Ea.bS_list, Lib.toList_data, HL.out, HL0.out]; simp
                  generalize Ea.bS (Ea.exp8 (Ea.cand l0 1)) = U at *
                  clear e1 e2 HOK
                  go_wp2_with fail
                  refine (HLN.out _).mono ?_
                  rintro e w3 ⟨rfl, rfl⟩
                  go_wp2_with fail
                  refine (HEX.out _).mono ?_
                  rintro e w4 ⟨rfl, hx4⟩
                  go_wp2
                  go_ret2
                  exact ⟨by rw [HRES.out, ← HC1.out]; unfold strE; rw [Ea.bS_of]; rfl, hxr.trans hx4⟩
                · have HK : Ea.okC l0 1 = false := by rw [HOK.out]; simp [e2]
                  have b2 : ((Ea.bS (Ea.exp8 (Ea.cand l0 1))).toList == s.toList) = false := by
                    rw [Lib.toList_data, Ea.bS_list, Lib.toList_data, HL.out, HL0.out]; simpa using e2
                  generalize Ea.bS (Ea.exp8 (Ea.cand l0 1)) = U at *
                  clear e1 e2 HOK
                  go_wp2_with fail
                  refine (HLN.out _).mono ?_
                  rintro e w3 ⟨rfl, rfl⟩
                  go_wp2_with fail
                  refine (HEX.out _).mono ?_
                  rintro e w4 ⟨rfl, hx4⟩
                  go_wp2
                  go_roundw
                  case rel => exact ⟨2, by omega, by go_num, Lib.hid (fun j hj => by
                    rcases (by omega : j < 1 ∨ j = 1) with hj | rfl
                    · exact hno.out j hj
                    · exact HK), hxr.trans hx4⟩
                  case measure => simp [intOf]
              · have HK : Ea.okC l0 1 = false := by rw [HOK.out]; simp [e1]
                have b1 : ((ln : Int) == 1) = false := beq_eq_false_iff_ne.2 (by omega)
                clear e1 HOK
                go_wp2_with fail
                refine (HLN.out _).mono ?_
                rintro e w3 ⟨rfl, rfl⟩
                go_wp2
                go_roundw
                case rel => exact ⟨2, by omega, by go_num, Lib.hid (fun j hj => by
                  rcases (by omega : j < 1 ∨ j = 1) with hj | rfl
                  · exact hno.out j hj
                  · exact HK), hxr⟩
                case measure => simp [intOf]
            · have hix : ∀ w, (Instr.index 68 (.agg #[Value.string C0, Value.string C1, Value.string C2, Value.string C3]) (.int .i64 2)).run Tryz.prog w = .ok (.string C2) w := fun w => run_index_strs 68 4 (by kernel_rfl) #[Value.string C0, Value.string C1, Value.string C2, Value.string C3] 2 (by omega) (.string C2) rfl w
              have hb6 : 6 < C2.size := by omega
              obtain ⟨c, hc⟩ : ∃ c, C2[6] = c := ⟨_, rfl⟩
              have HC6 : Hid ((Ea.cand l0 2).getD 6 0 = c) := Lib.hid (by
                rw [← HC2.out, List.getD_eq_getElem?_getD, List.getElem?_eq_getElem (by rw [len_data]; exact hb6)]; exact hc)
              have HLN := Lib.hid (line_any c)
              have HEX := Lib.hid (expand_any C2 hC2s)
              rw [HC2.out] at HEX
              have HOK : Hid (Ea.okC l0 2 = (Ea.lineN c == 2 && Ea.exp8 (Ea.cand l0 2) == l0)) := Lib.hid (by unfold Ea.okC; rw [HC6.out])
              generalize Ea.lineN c = ln at *
              by_cases e1 : ln = 2
              · have b1 : ((ln : Int) == 2) = true := by rw [e1]; rfl
                by_cases e2 : Ea.exp8 (Ea.cand l0 2) = l0
                · have HK : Ea.okC l0 2 = true := by rw [HOK.out, e1, e2]; simp
                  have HRES : Hid (res = (Ea.cand l0 2, 0)) := Lib.hid (HSEL.out 2 (by omega) hno.out HK)
                  have b2 : ((Ea.bS (Ea.exp8 (Ea.cand l0 2))).toList == s.toList) = true := by rw [e2, Lib.toList_data, Ea.bS_list, Lib.toList_data, HL.out, HL0.out]; simp
                  generalize Ea.bS (Ea.exp8 (Ea.cand l0 2)) = U at *
                  clear e1 e2 HOK
                  go_wp2_with fail
                  refine (HLN.out _).mono ?_
                  rintro e w3 ⟨rfl, rfl⟩
                  go_wp2_with fail
                  refine (HEX.out _).mono ?_
                  rintro e w4 ⟨rfl, hx4⟩
                  go_wp2
                  go_ret2
                  exact ⟨by rw [HRES.out, ← HC2.out]; unfold strE; rw [Ea.bS_of]; rfl, hxr.trans hx4⟩
                · have HK : Ea.okC l0 2 = false := by rw [HOK.out]; simp [e2]
                  have b2 : ((Ea.bS (Ea.exp8 (Ea.cand l0 2))).toList == s.toList) = false := by
                    rw [Lib.toList_data, Ea.bS_list, Lib.toList_data, HL.out, HL0.out]; simpa using e2
                  generalize Ea.bS (Ea.exp8 (Ea.cand l0 2)) = U at *
                  clear e1 e2 HOK
                  go_wp2_with fail
                  refine (HLN.out _).mono ?_
                  rintro e w3 ⟨rfl, rfl⟩
                  go_wp2_with fail
                  refine (HEX.out _).mono ?_
                  rintro e w4 ⟨rfl, hx4⟩
                  go_wp2
                  go_roundw
                  case rel => exact ⟨3, by omega, by go_num, Lib.hid (fun j hj => by
                    rcases (by omega : j < 2 ∨ j = 2) with hj | rfl
                    · exact hno.out j hj
                    · exact HK), hxr.trans hx4⟩
                  case measure => simp [intOf]
              · have HK : Ea.okC l0 2 = false := by rw [HOK.out]; simp [e1]
                have b1 : ((ln : Int) == 2) = false := beq_eq_false_iff_ne.2 (by omega)
                clear e1 HOK
                go_wp2_with fail
                refine (HLN.out _).mono ?_
                rintro e w3 ⟨rfl, rfl⟩
                go_wp2
                go_roundw
                case rel => exact ⟨3, by omega, by go_num, Lib.hid (fun j hj => by
                  rcases (by omega : j < 2 ∨ j = 2) with hj | rfl
                  · exact hno.out j hj
                  · exact HK), hxr⟩
                case measure => simp [intOf]
            · have hix : ∀ w, (Instr.index 68 (.agg #[Value.string C0, Value.string C1, Value.string C2, Value.string C3]) (.int .i64 3)).run Tryz.prog w = .ok (.string C3) w := fun w => run_index_strs 68 4 (by kernel_rfl) #[Value.string C0, Value.string C1, Value.string C2, Value.string C3] 3 (by omega) (.string C3) rfl w
              have hb6 : 6 < C3.size := by omega
              obtain ⟨c, hc⟩ : ∃ c, C3[6] = c := ⟨_, rfl⟩
              have HC6 : Hid ((Ea.cand l0 3).getD 6 0 = c) := Lib.hid (by
                rw [← HC3.out, List.getD_eq_getElem?_getD, List.getElem?_eq_getElem (by rw [len_data]; exact hb6)]; exact hc)
              have HLN := Lib.hid (line_any c)
              have HEX := Lib.hid (expand_any C3 hC3s)
              rw [HC3.out] at HEX
              have HOK : Hid (Ea.okC l0 3 = (Ea.lineN c == 3 && Ea.exp8 (Ea.cand l0 3) == l0)) := Lib.hid (by unfold Ea.okC; rw [HC6.out])
              generalize Ea.lineN c = ln at *
              by_cases e1 : ln = 3
              · have b1 : ((ln : Int) == 3) = true := by rw [e1]; rfl
                by_cases e2 : Ea.exp8 (Ea.cand l0 3) = l0
                · have HK : Ea.okC l0 3 = true := by rw [HOK.out, e1, e2]; simp
                  have HRES : Hid (res = (Ea.cand l0 3, 0)) := Lib.hid (HSEL.out 3 (by omega) hno.out HK)
                  have b2 : ((Ea.bS (Ea.exp8 (Ea.cand l0 3))).toList == s.toList) = true := by rw [e2, Lib.toList_data, Ea.bS_list, Lib.toList_data, HL.out, HL0.out]; simp
                  generalize Ea.bS (Ea.exp8 (Ea.cand l0 3)) = U at *
                  clear e1 e2 HOK
                  go_wp2_with fail
                  refine (HLN.out _).mono ?_
                  rintro e w3 ⟨rfl, rfl⟩
                  go_wp2_with fail
                  refine (HEX.out _).mono ?_
                  rintro e w4 ⟨rfl, hx4⟩
                  go_wp2
                  go_ret2
                  exact ⟨by rw [HRES.out, ← HC3.out]; unfold strE; rw [Ea.bS_of]; rfl, hxr.trans hx4⟩
                · have HK : Ea.okC l0 3 = false := by rw [HOK.out]; simp [e2]
                  have b2 : ((Ea.bS (Ea.exp8 (Ea.cand l0 3))).toList == s.toList) = false := by
                    rw [Lib.toList_data, Ea.bS_list, Lib.toList_data, HL.out, HL0.out]; simpa using e2
                  generalize Ea.bS (Ea.exp8 (Ea.cand l0 3)) = U at *
                  clear e1 e2 HOK
                  go_wp2_with fail
                  refine (HLN.out _).mono ?_
                  rintro e w3 ⟨rfl, rfl⟩
                  go_wp2_with fail
                  refine (HEX.out _).mono ?_
                  rintro e w4 ⟨rfl, hx4⟩
                  go_wp2
                  go_roundw
                  case rel => exact ⟨4, by omega, by go_num, Lib.hid (fun j hj => by
                    rcases (by omega : j < 3 ∨ j = 3) with hj | rfl
                    · exact hno.out j hj
                    · exact HK), hxr.trans hx4⟩
                  case measure => simp [intOf]
              · have HK : Ea.okC l0 3 = false := by rw [HOK.out]; simp [e1]
                have b1 : ((ln : Int) == 3) = false := beq_eq_false_iff_ne.2 (by omega)
                clear e1 HOK
                go_wp2_with fail
                refine (HLN.out _).mono ?_
                rintro e w3 ⟨rfl, rfl⟩
                go_wp2
                go_roundw
                case rel => exact ⟨4, by omega, by go_num, Lib.hid (fun j hj => by
                  rcases (by omega : j < 3 ∨ j = 3) with hj | rfl
                  · exact hno.out j hj
                  · exact HK), hxr⟩
                case measure => simp [intOf]
            · have HRES : Hid (res = ([], 9)) := Lib.hid (HEND.out hno.out)
              go_wp2
              go_ret2
              exact ⟨by rw [HRES.out]; rfl, hxr⟩
        · have hc : Ea.cut8 s.data.toList = none := by unfold Ea.cut8; rw [if_pos (UInt8.not_le.1 h4)]
          rw [hc] at HX
          rw [decide_eq_false h4] at HN
          generalize Ea.cprs s.data.toList = res at *
          clear h2 h2' h3 h4 h5 HF h12 hc
          go_enter Tryz.func19, Tryz.ntmps19
          go_wp2_with fail
          refine (HD.out _).mono ?_
          rintro e w1 ⟨rfl, rfl⟩
          go_wp2_with fail
          refine (HZ.out _).mono ?_
          rintro e w1 ⟨rfl, rfl⟩
          go_wp2_with fail
          refine (HRI.out _).mono ?_
          rintro e w1 ⟨rfl, hx1⟩
          go_wp2_with fail
          refine (HN.out _).mono ?_
          rintro e w2 ⟨rfl, rfl⟩
          go_wp2
          go_ret2
          exact ⟨by rw [HX.out]; rfl, hx1⟩
      · rw [if_neg h5] at HF
        rw [decide_eq_false h5] at HRI
        rw [HF.out, if_pos (by decide)] at HX
        generalize Ea.cprs s.data.toList = res at *
        clear h2 h2' h3 h5 HF h12
        go_enter Tryz.func19, Tryz.ntmps19
        go_wp2_with fail
        refine (HD.out _).mono ?_
        rintro e w1 ⟨rfl, rfl⟩
        go_wp2_with fail
        refine (HZ.out _).mono ?_
        rintro e w1 ⟨rfl, rfl⟩
        go_wp2_with fail
        refine (HRI.out _).mono ?_
        rintro e w1 ⟨rfl, hx1⟩
        go_wp2
        go_ret2
        exact ⟨by rw [HX.out]; rfl, hx1⟩
end Go.Proofs.YtfpliihglgjijaaGreat
