/-
  Chapter 11: ean's expand and right, walked.
  Condition: strings of eight bytes.
-/
import Derived.Test.YtfpliihglgjijaaGreatEaW1
import Derived.BigQuiet
namespace Go.Proofs.YtfpliihglgjijaaGreat
set_option linter.unusedVariables false
open Go.RowKit

theorem bl1 (a b : UInt8) : Op.bytesLess [a] [b] = decide (a < b) := by
  simp [Op.bytesLess]
theorem ret_str {a : ByteArray} {l : List UInt8} (h : a.data.toList = l) : Ending.returned (.string a) = .returned (.string (Ea.bS l)) := by
  rw [← h, Ea.bS_of]

set_option maxRecDepth 100000 in
set_option maxHeartbeats 2000000 in
theorem expand_any (s : ByteArray) (h8 : s.size = 8) (w : World) :
    Calls Tryz.prog 49 #[.string s] w fun e w' => e = .returned (.string (Ea.bS (Ea.exp8 s.data.toList))) ∧ Ext w w' := by
  obtain ⟨res, hres⟩ : ∃ res, Ea.exp8 s.data.toList = res := ⟨_, rfl⟩
  rw [hres]
  obtain ⟨a0, a1, a2, a3, a4, a5, a6, a7, hl⟩ := Ea.len8 (l := s.data.toList) (by rw [len_data]; exact h8)
  rw [hl] at hres
  have HR := Lib.hid hres
  have HL := Lib.hid hl
  clear hres hl
  go_enter Tryz.func49, Tryz.ntmps49
  go_wp2
  go_quiet (fail)
  obtain ⟨N, hN⟩ : ∃ N, s.extract 0 1 = N := ⟨_, rfl⟩
  obtain ⟨D, hD⟩ : ∃ D, s.extract 1 7 = D := ⟨_, rfl⟩
  obtain ⟨C, hC⟩ : ∃ C, s.extract 7 8 = C := ⟨_, rfl⟩
  rw [hN, hD, hC]
  have HN : Hid (N.data.toList = [a0]) := Lib.hid (by rw [← hN, cut_mid, HL.out]; rfl)
  have HD : Hid (D.data.toList = [a1, a2, a3, a4, a5, a6]) := Lib.hid (by rw [← hD, cut_mid, HL.out]; rfl)
  have HC : Hid (C.data.toList = [a7]) := Lib.hid (by rw [← hC, cut_mid, HL.out]; rfl)
  have hDs : D.size = 6 := by rw [size_of_toList HD.out]; rfl
  have hNs : N.size = 1 := by rw [size_of_toList HN.out]; rfl
  have hCs : C.size = 1 := by rw [size_of_toList HC.out]; rfl
  clear hN hD hC
  have HQ : Hid ((D.extract 5 6).toList = [a6]) := Lib.hid (by rw [Lib.toList_data, cut_mid, HD.out]; rfl)
  have HF : Hid (∀ (x : ByteArray), x.data.toList = res → Ending.returned (.string x) = .returned (.string (Ea.bS res))) := Lib.hid (fun x hx => ret_str hx)
  have h : a6.toNat ≤ 50 ∨ a6.toNat = 51 ∨ a6.toNat = 52 ∨ 52 < a6.toNat := by omega
  have HE : Hid ((D.extract 5 6).data.toList = [a6]) := Lib.hid (by rw [cut_mid, HD.out]; rfl)
  rcases h with h | h | h | h
  · have q0 : (Op.bytesLess (D.extract 5 6).toList [50] || (D.extract 5 6).toList == [50]) = true := by
      rw [HQ.out, bl1, Bool.or_eq_true, decide_eq_true_eq, beq_iff_eq, UInt8.lt_iff_toNat_lt]
      have : (50 : UInt8).toNat = 50 := rfl
      by_cases e : a6.toNat = 50
      · exact .inr (by rw [show a6 = 50 from UInt8.toNat_inj.1 e])
      · exact .inl (by omega)
    have c1 : a6 ≤ 50 := by rw [UInt8.le_iff_toNat_le]; exact h
    have HG : Hid ((N ++ D.extract 0 2 ++ D.extract 5 6 ++ ⟨#[48, 48, 48, 48]⟩ ++ D.extract 2 5 ++ C).data.toList = res) := Lib.hid (by
      rw [← HR.out]
      simp only [ByteArray.data_append, Array.toList_append, HN.out, HC.out, HE.out, cut_mid, HD.out]
      unfold Ea.exp8 Ea.exp7
      simp [c1])
    clear h
    go_wp2
    go_quiet (fail)
    go_wp2
    go_ret
    exact ⟨HF.out _ HG.out, (by repeat (first | exact Ext.refl _ | assumption | refine Ext.alloc ?_ _ | refine Ext.drew ?_ | refine Ext.drewN ?_ _ | refine Ext.setCell ?_ (Nat.le_refl _) _ | refine Ext.trans ?_ (by assumption)))⟩
  · obtain rfl : a6 = 51 := UInt8.toNat_inj.1 h
    have q0 : (Op.bytesLess (D.extract 5 6).toList [50] || (D.extract 5 6).toList == [50]) = false := by rw [HQ.out, bl1]; rfl
    have q1 : ((D.extract 5 6).toList == [51]) = true := by rw [HQ.out]; rfl
    have HG : Hid ((N ++ D.extract 0 3 ++ ⟨#[48, 48, 48, 48, 48]⟩ ++ D.extract 3 5 ++ C).data.toList = res) := Lib.hid (by
      rw [← HR.out]
      simp only [ByteArray.data_append, Array.toList_append, HN.out, HC.out, cut_mid, HD.out]
      rfl)
    clear h
    go_wp2
    go_quiet (fail)
    go_wp2
    go_ret
    exact ⟨HF.out _ HG.out, (by repeat (first | exact Ext.refl _ | assumption | refine Ext.alloc ?_ _ | refine Ext.drew ?_ | refine Ext.drewN ?_ _ | refine Ext.setCell ?_ (Nat.le_refl _) _ | refine Ext.trans ?_ (by assumption)))⟩
  · obtain rfl : a6 = 52 := UInt8.toNat_inj.1 h
    have q0 : (Op.bytesLess (D.extract 5 6).toList [50] || (D.extract 5 6).toList == [50]) = false := by rw [HQ.out, bl1]; rfl
    have q1 : ((D.extract 5 6).toList == [51]) = false := by rw [HQ.out]; rfl
    have q2 : ((D.extract 5 6).toList == [52]) = true := by rw [HQ.out]; rfl
    have HG : Hid ((N ++ D.extract 0 4 ++ ⟨#[48, 48, 48, 48, 48]⟩ ++ D.extract 4 5 ++ C).data.toList = res) := Lib.hid (by
      rw [← HR.out]
      simp only [ByteArray.data_append, Array.toList_append, HN.out, HC.out, cut_mid, HD.out]
      rfl)
    clear h
    go_wp2
    go_quiet (fail)
    go_wp2
    go_ret
    exact ⟨HF.out _ HG.out, (by repeat (first | exact Ext.refl _ | assumption | refine Ext.alloc ?_ _ | refine Ext.drew ?_ | refine Ext.drewN ?_ _ | refine Ext.setCell ?_ (Nat.le_refl _) _ | refine Ext.trans ?_ (by assumption)))⟩
  · have n50 : ¬ a6 ≤ 50 := by rw [UInt8.le_iff_toNat_le]; have : (50 : UInt8).toNat = 50 := rfl; omega
    have n51 : ¬ a6 = 51 := by rintro rfl; revert h; decide
    have n52 : ¬ a6 = 52 := by rintro rfl; revert h; decide
    have q0 : (Op.bytesLess (D.extract 5 6).toList [50] || (D.extract 5 6).toList == [50]) = false := by
      rw [HQ.out, bl1, Bool.or_eq_false_iff, decide_eq_false_iff_not, beq_eq_false_iff_ne]
      refine ⟨fun hh => n50 (UInt8.le_of_lt hh), fun hh => n50 ?_⟩
      rw [show a6 = 50 by simpa using hh]
      exact UInt8.le_refl _
    have q1 : ((D.extract 5 6).toList == [51]) = false := by rw [HQ.out, beq_eq_false_iff_ne]; simpa using n51
    have q2 : ((D.extract 5 6).toList == [52]) = false := by rw [HQ.out, beq_eq_false_iff_ne]; simpa using n52
    have HG : Hid ((N ++ D.extract 0 5 ++ ⟨#[48, 48, 48, 48]⟩ ++ D.extract 5 6 ++ C).data.toList = res) := Lib.hid (by
      rw [← HR.out]
      simp only [ByteArray.data_append, Array.toList_append, HN.out, HC.out, HE.out, cut_mid, HD.out]
      unfold Ea.exp8 Ea.exp7
      simp [n50, n51, n52])
    clear h n50 n51 n52
    go_wp2
    go_ret
    exact ⟨HF.out _ HG.out, (by repeat (first | exact Ext.refl _ | assumption | refine Ext.alloc ?_ _ | refine Ext.drew ?_ | refine Ext.drewN ?_ _ | refine Ext.setCell ?_ (Nat.le_refl _) _ | refine Ext.trans ?_ (by assumption)))⟩

theorem right_iff {k : Int} {l : List UInt8} (h : Ea.digs l = true) (hk : (k = 4 ∧ l.length = 8) ∨ (k ≠ 4 ∧ 2 ≤ l.length ∧ l.length ≤ 4096)) :
    Cd.verI 1 (if k = 4 then Ea.exp8 l else l) = 0 ↔ Ea.good (if k = 4 then Ea.exp8 l else l) := by
  rcases hk with ⟨rfl, h8⟩ | ⟨hk, h2, h3⟩
  · rw [if_pos rfl]; exact Ea.ver_good (Ea.exp8_digs h) (by rw [Ea.exp8_len h8]; omega) (by rw [Ea.exp8_len h8]; omega)
  · rw [if_neg hk]; exact Ea.ver_good h h2 h3

set_option maxHeartbeats 1000000 in
theorem right_any (k : Int) (s : ByteArray) (hd : Ea.digs s.data.toList = true) (hk : (k = 4 ∧ s.size = 8) ∨ (k ≠ 4 ∧ 2 ≤ s.size ∧ s.size ≤ 4096)) (w : World) :
    Calls Tryz.prog 29 #[.int .i64 k, .string s] w fun e w' => e = .returned (.bool (decide (Ea.good (if k = 4 then Ea.exp8 s.data.toList else s.data.toList)))) ∧ Ext w w' := by
  have hi := right_iff (k := k) hd (by rw [len_data]; exact hk)
  obtain ⟨res, hres⟩ : ∃ res, decide (Ea.good (if k = 4 then Ea.exp8 s.data.toList else s.data.toList)) = res := ⟨_, rfl⟩
  rw [hres]
  have HR : Hid ((Cd.verI 1 (if k = 4 then Ea.exp8 s.data.toList else s.data.toList) == 0) = res) := Lib.hid (by
    rw [← hres, Bool.eq_iff_iff, beq_iff_eq, decide_eq_true_eq]; exact hi)
  clear hres hi hd
  rcases hk with ⟨rfl, h8⟩ | ⟨hk, h2, h3⟩
  · rw [if_pos rfl] at HR
    have HX := Lib.hid (expand_any s h8)
    have hsz : (Ea.bS (Ea.exp8 s.data.toList)).size ≤ 9223372036854775807 := by
      rw [size_of_toList (Ea.bS_list _), Ea.exp8_len (by rw [len_data]; exact h8)]; omega
    have HV := Lib.hid (fun w => verify_any 1 (Ea.bS (Ea.exp8 s.data.toList)) w hsz)
    rw [Ea.bS_list] at HV
    generalize Ea.exp8 s.data.toList = u at *
    clear hsz
    generalize Ea.bS u = U at *
    go_enter Tryz.func29, Tryz.ntmps29
    go_wp2_with fail
    refine (HX.out _).mono ?_
    rintro e w1 ⟨rfl, hx1⟩
    go_wp2_with fail
    refine (HV.out _).mono ?_
    rintro e w2 ⟨rfl, hx2⟩
    generalize Cd.verI 1 u = r at *
    cases hb : r == 0 <;> rw [hb] at HR
    · go_wp2
      go_ret
      exact ⟨ret_bool HR.out, hx1.trans hx2⟩
    · go_wp2
      go_ret
      exact ⟨ret_bool HR.out, hx1.trans hx2⟩
  · rw [if_neg hk] at HR
    have hkb : (k == 4) = false := beq_eq_false_iff_ne.2 hk
    have HV := Lib.hid (fun w => verify_any 1 s w (by omega))
    clear hk h2 h3
    go_enter Tryz.func29, Tryz.ntmps29
    go_wp2_with fail
    refine (HV.out _).mono ?_
    rintro e w2 ⟨rfl, hx2⟩
    generalize Cd.verI 1 s.data.toList = r at *
    cases hb : r == 0 <;> rw [hb] at HR
    · go_wp2
      go_ret
      exact ⟨ret_bool HR.out, hx2⟩
    · go_wp2
      go_ret
      exact ⟨ret_bool HR.out, hx2⟩
end Go.Proofs.YtfpliihglgjijaaGreat
