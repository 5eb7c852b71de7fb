/-
  Chapter 11, the reference: digits, check, length, expand, checkOf, Complete, complete, Expand.
  Condition: strings within the reach.
-/
import Derived.Test.YtfpliihglgjijaaGreatEaW7
import Derived.Test.YtfpliihglgjijaaGreatEaC
import Derived.Lib.ConvBytes
namespace Go.Proofs.YtfpliihglgjijaaGreat
set_option linter.unusedVariables false
open Go.RowKit

theorem all_snoc (s : ByteArray) (p : UInt8 → Bool) (k : Nat) (h : k < s.size) : (s.data.toList.take (k + 1)).all p = ((s.data.toList.take k).all p && p s[k]) := by
  rw [take_snoc s k h, List.all_append]; simp
theorem all_no (s : ByteArray) (p : UInt8 → Bool) (k : Nat) (h : k < s.size) (hp : p s[k] = false) : s.data.toList.all p = false := by
  rw [List.all_eq_false]; exact ⟨s[k], mem_at s k h, by rw [hp]; exact Bool.noConfusion⟩

set_option maxHeartbeats 1000000 in
theorem xdigits_any (s : ByteArray) (hs : s.size ≤ maxLen) (w : World) :
    Calls Tryz.prog 37 #[.string s] w fun e w' => e = .returned (.bool (Ea.digs s.data.toList)) ∧ w = w' := by
  have hmx : s.size ≤ 9223372036854775807 := hs
  clear hs
  obtain ⟨res, hres⟩ : ∃ res, Ea.digs s.data.toList = res := ⟨_, rfl⟩
  rw [hres]
  have HRES := Lib.hid hres
  clear hres
  go_enter Tryz.func37, Tryz.ntmps37
  go_wp2
  go_loop [3] (fun i => ∃ k : Nat, k ≤ s.size ∧ i = .int .i64 (k : Int) ∧ Hid ((s.data.toList.take k).all (fun c => Cd.isDig c.toNat) = true)) (fun i => s.size - (intOf i).toNat)
  case atStart => exact ⟨0, Nat.zero_le _, rfl, Lib.hid rfl⟩
  case round =>
    obtain ⟨k, hk, rfl, hal⟩ := hrel
    by_cases hlt : k < s.size
    · have HA := Lib.hid (all_snoc s (fun c => Cd.isDig c.toNat) k hlt)
      by_cases h1 : s[k].toNat < 48
      · have hf := all_no s (fun c => Cd.isDig c.toNat) k hlt (by unfold Cd.isDig; simp; omega)
        have HF : Hid (res = false) := Lib.hid (by rw [← HRES.out]; exact hf)
        have d1 : decide ((s[k].toNat : Int) < 48) = true := decide_eq_true (by omega)
        clear hf h1
        go_wp2
        go_ret
        exact ⟨ret_bool HF.out.symm, rfl⟩
      · have d1 : decide ((s[k].toNat : Int) < 48) = false := decide_eq_false (by omega)
        by_cases h2 : 57 < s[k].toNat
        · have hf := all_no s (fun c => Cd.isDig c.toNat) k hlt (by unfold Cd.isDig; simp; omega)
          have HF : Hid (res = false) := Lib.hid (by rw [← HRES.out]; exact hf)
          have d2 : decide (57 < (s[k].toNat : Int)) = true := decide_eq_true (by omega)
          clear hf h1 h2
          go_wp2
          go_ret
          exact ⟨ret_bool HF.out.symm, rfl⟩
        · have d2 : decide (57 < (s[k].toNat : Int)) = false := decide_eq_false (by omega)
          have HO : Hid ((s.data.toList.take (k + 1)).all (fun c => Cd.isDig c.toNat) = true) := Lib.hid (by rw [HA.out, hal.out]; unfold Cd.isDig; simp; omega)
          clear h1 h2
          go_wp2
          go_round
          case rel => exact ⟨k + 1, by omega, by go_num, HO⟩
          case measure => simp [intOf]; omega
    · obtain rfl : k = s.size := by omega
      have HF : Hid (res = true) := Lib.hid (by rw [← HRES.out, ← hal.out, take_all]; rfl)
      clear hk hlt hal
      go_wp2
      go_ret
      exact ⟨ret_bool HF.out.symm, rfl⟩

theorem dig_back (s : ByteArray) (j : Nat) (h : j < s.size) : s.data.toList.drop (s.size - (j + 1)) = (s[s.size - 1 - j]'(by omega)) :: s.data.toList.drop (s.size - j) := by
  rw [show s.size - (j + 1) = s.size - 1 - j by omega, drop_cons s (s.size - 1 - j) (by omega), show s.size - 1 - j + 1 = s.size - j by omega]
theorem chr_byte : ∀ n : Fin 10, (Cd.chr (n.1 : Int)).toNat = 48 + n.1 := by decide
/-- 'string([]byte{c})'. -/
theorem conv_one (w : World) (c : UInt8) (x : Int) (hx : x = (c.toNat : Int)) :
    (convert 40 9 (.slice (some ⟨w.heap.size, 0, none⟩) 1 1)).run Tryz.prog (w.alloc (.cells #[.int .u8 x] 5)) = .ok (.string (Ea.bS [c])) (w.alloc (.cells #[.int .u8 x] 5)) := by
  subst hx
  exact run_convert_sl (w := w.alloc (.cells #[.int .u8 (c.toNat : Int)] 5)) (l := [c]) (.inr ⟨w.heap.size, 0, 1, rfl, by simp, fun i hi => by
    simp only [List.map_cons, List.map_nil, List.length_cons, List.length_nil] at hi
    obtain rfl : i = 0 := by omega
    exact new_cell #[.int .u8 (c.toNat : Int)] 5 w rfl⟩)

set_option maxRecDepth 100000 in
set_option maxHeartbeats 1000000 in
theorem xcheck_any (s : ByteArray) (hs : s.size ≤ 4096) (HD : Hid (Ea.digs s.data.toList = true)) (w : World) :
    Calls Tryz.prog 84 #[.string s] w fun e w' => e = .returned (.string (Ea.bS [Ea.chk s.data.toList])) ∧ Ext w w' := by
  go_enter Tryz.func84, Tryz.ntmps84
  go_wp2
  go_loop [3, 4, 5] (fun t x i => ∃ j : Nat, j ≤ s.size ∧ i = .int .i64 ((s.size : Int) - 1 - (j : Int)) ∧ t = .int .i64 (Cd.gsP (s.data.toList.drop (s.size - j))).1 ∧ x = .int .i64 (Cd.gsP (s.data.toList.drop (s.size - j))).2) (fun _ _ i => (intOf i + 1).toNat)
  case atStart => exact ⟨0, Nat.zero_le _, by rw [show (s.size : Int) - 1 - ((0 : Nat) : Int) = (s.size : Int) - 1 by omega], by rw [Nat.sub_zero, drop_all]; rfl, by rw [Nat.sub_zero, drop_all]; rfl⟩
  case round =>
    obtain ⟨j, hj, rfl, rfl, rfl⟩ := hrel
    have hb := Cd.gsP_bd _ (Cd.allDig_drop (Ea.allDig HD.out) (s.size - j))
    rw [len_drop] at hb
    obtain ⟨hb1, hb2⟩ := hb
    by_cases hlt : j < s.size
    · have hdg : 48 ≤ (s[s.size - 1 - j]'(by omega)).toNat ∧ (s[s.size - 1 - j]'(by omega)).toNat ≤ 57 := (Ea.allDig HD.out) _ (mem_at s (s.size - 1 - j) (by omega))
      have hw := Cd.gsP_w (s.data.toList.drop (s.size - j))
      have hs1 : Cd.gsP (s.data.toList.drop (s.size - (j + 1))) = ((Cd.gsP (s.data.toList.drop (s.size - j))).1 + (Cd.gsP (s.data.toList.drop (s.size - j))).2 * Cd.dg (s[s.size - 1 - j]'(by omega)), 4 - (Cd.gsP (s.data.toList.drop (s.size - j))).2) := congrArg Cd.gsP (dig_back s j hlt)
      generalize Cd.gsP (s.data.toList.drop (s.size - j)) = g at *
      obtain ⟨q, hq⟩ : ∃ q, s.size - 1 - j = q := ⟨_, rfl⟩
      have hqi : (s.size : Int) - 1 - (j : Int) = (q : Int) := by omega
      have hqs : q < s.size := by omega
      have hsq : (s[s.size - 1 - j]'(by omega)) = s[q] := by congr 1
      rw [hsq] at hdg hs1
      rw [hqi]
      have HQ : Hid (s.size - 1 - j = q ∧ (s.size : Int) - 1 - (j : Int) = (q : Int)) := Lib.hid ⟨hq, hqi⟩
      obtain ⟨e1, e2⟩ := hdg
      have hdd : Cd.dg s[q] = (s[q].toNat : Int) - 48 := rfl
      rw [hdd] at hs1
      have HS := Lib.hid hs1
      clear hs1 hq hqi hsq hdd
      obtain ⟨a, b⟩ := g
      dsimp only at hw hb1 hb2 HS ⊢
      have hb3 : 1 ≤ b ∧ b ≤ 3 := by split at hw <;> omega
      obtain ⟨f1, f2⟩ := hb3
      clear hw
      obtain ⟨y, hy⟩ : ∃ y, b * ((s[q].toNat : Int) - 48) = y := ⟨_, rfl⟩
      have hyb : 0 ≤ y ∧ y ≤ 27 := by
        rw [← hy]
        have hbb : b = 1 ∨ b = 2 ∨ b = 3 := by omega
        rcases hbb with rfl | rfl | rfl <;> omega
      rw [hy] at HS
      obtain ⟨y1, y2⟩ := hyb
      go_wp2
      go_round
      case rel => exact ⟨j + 1, by omega, by have := HQ.out.2; congr 1; omega, by rw [HS.out], by rw [HS.out]⟩
      case measure => simp [intOf]
    · obtain rfl : j = s.size := by omega
      rw [Nat.sub_self, List.drop_zero] at hb1 hb2 ⊢
      obtain ⟨g, hg⟩ : ∃ g, (Cd.gsP s.data.toList).1 = g := ⟨_, rfl⟩
      have HC : Hid (Ea.chk s.data.toList = Cd.chr ((10 - g % 10) % 10)) := Lib.hid (by unfold Ea.chk; rw [hg])
      rw [hg] at hb1 hb2 ⊢
      clear hg hj hlt
      rw [show (s.size : Int) - 1 - (s.size : Int) = -1 by omega]
      generalize (Cd.gsP s.data.toList).2 = b
      obtain ⟨x, hx⟩ : ∃ x : Nat, (10 - g % 10) % 10 = (x : Int) := ⟨((10 - g % 10) % 10).toNat, by omega⟩
      have hx10 : x < 10 := by omega
      have hcv := conv_one w (Cd.chr (x : Int)) (48 + (x : Int)) (by have h := chr_byte ⟨x, hx10⟩; dsimp only at h; rw [h]; omega)
      rw [hx] at HC
      go_wp2
      go_ret
      exact ⟨by rw [HC.out]; rfl, (by repeat (first | exact Ext.refl _ | assumption | refine Ext.alloc ?_ _ | refine Ext.drew ?_ | refine Ext.trans ?_ (by assumption)))⟩

theorem xlength_any (k : Int) (w : World) : Calls Tryz.prog 51 #[.int .i64 k] w fun e w' => e = .returned (.int .i64 (Ea.size k : Int)) ∧ w = w' := by
  have h : k = 1 ∨ k = 2 ∨ k = 3 ∨ k = 4 ∨ (k ≠ 1 ∧ k ≠ 2 ∧ k ≠ 3 ∧ k ≠ 4) := by omega
  rcases h with rfl | rfl | rfl | rfl | ⟨h1, h2, h3, h4⟩
  iterate 4
    · go_enter Tryz.func51, Tryz.ntmps51
      go_wp2
      go_ret
      exact ⟨rfl, rfl⟩
  · have e : Ea.size k = 0 := by unfold Ea.size; rw [if_neg h1, if_neg h2, if_neg h3, if_neg h4]
    have b1 : (k == 1) = false := beq_eq_false_iff_ne.2 h1
    have b2 : (k == 2) = false := beq_eq_false_iff_ne.2 h2
    have b3 : (k == 3) = false := beq_eq_false_iff_ne.2 h3
    have b4 : (k == 4) = false := beq_eq_false_iff_ne.2 h4
    rw [e]
    clear h1 h2 h3 h4 e
    go_enter Tryz.func51, Tryz.ntmps51
    go_wp2
    go_ret
    exact ⟨rfl, rfl⟩

theorem len7 {l : List UInt8} (h : l.length = 7) : ∃ a0 a1 a2 a3 a4 a5 a6, l = [a0, a1, a2, a3, a4, a5, a6] := by
  match l, h with
  | [a0, a1, a2, a3, a4, a5, a6], _ => exact ⟨_, _, _, _, _, _, _, rfl⟩
theorem ret_strX {a : ByteArray} {l : List UInt8} (h : a.data.toList = l) : Ending.returned (.string a) = .returned (.string (Ea.bS l)) := by
  rw [← h, Ea.bS_of]

set_option maxRecDepth 100000 in
set_option maxHeartbeats 2000000 in
theorem xexpand_any (s : ByteArray) (h7 : s.size = 7) (HD : Hid (Ea.digs s.data.toList = true)) (w : World) :
    Calls Tryz.prog 54 #[.string s] w fun e w' => e = .returned (.string (Ea.bS (Ea.exp7 s.data.toList))) ∧ Ext w w' := by
  obtain ⟨res, hres⟩ : ∃ res, Ea.exp7 s.data.toList = res := ⟨_, rfl⟩
  rw [hres]
  obtain ⟨a0, a1, a2, a3, a4, a5, a6, hl⟩ := len7 (l := s.data.toList) (by rw [len_data]; exact h7)
  have h48 : 48 ≤ a6.toNat := ((Ea.allDig HD.out) a6 (by rw [hl]; simp)).1
  rw [hl] at hres
  have HR := Lib.hid hres
  have HL := Lib.hid hl
  have hs7 : 7 ≤ s.size := by omega
  have hs8 : s.size ≤ 7 := by omega
  have hi6 : 6 < s.size := by omega
  have h6 : s[6] = a6 := by
    have h1 : s.data.toList[6]? = some s[6] := List.getElem?_eq_getElem (by rw [len_data]; exact hi6)
    rw [hl] at h1
    simpa using h1.symm
  have h6n : s[6].toNat = a6.toNat := by rw [h6]
  have HF : Hid (∀ (x : ByteArray), x.data.toList = res → Ending.returned (.string x) = .returned (.string (Ea.bS res))) := Lib.hid (fun x hx => ret_strX hx)
  clear hres hl h7 h6
  have h : a6.toNat = 48 ∨ a6.toNat = 49 ∨ a6.toNat = 50 ∨ a6.toNat = 51 ∨ a6.toNat = 52 ∨ 52 < a6.toNat := by omega
  have q0 : a6.toNat ≠ 48 → ((s[6].toNat : Int) == 48) = false := fun h => beq_eq_false_iff_ne.2 (by omega)
  have q1 : a6.toNat ≠ 49 → ((s[6].toNat : Int) == 49) = false := fun h => beq_eq_false_iff_ne.2 (by omega)
  have q2 : a6.toNat ≠ 50 → ((s[6].toNat : Int) == 50) = false := fun h => beq_eq_false_iff_ne.2 (by omega)
  have q3 : a6.toNat ≠ 51 → ((s[6].toNat : Int) == 51) = false := fun h => beq_eq_false_iff_ne.2 (by omega)
  have q4 : a6.toNat ≠ 52 → ((s[6].toNat : Int) == 52) = false := fun h => beq_eq_false_iff_ne.2 (by omega)
  have HG : Hid (a6.toNat ≤ 50 → (s.extract 0 3 ++ s.extract 6 7 ++ ⟨#[48, 48, 48, 48]⟩ ++ s.extract 3 6).data.toList = res) := Lib.hid (fun h => by
    have c1 : a6 ≤ 50 := by rw [UInt8.le_iff_toNat_le]; exact h
    rw [← HR.out]
    simp only [ByteArray.data_append, Array.toList_append, cut_mid, HL.out]
    unfold Ea.exp7
    simp [c1])
  rcases h with h | h | h | h | h | h
  · have d0 : ((s[6].toNat : Int) == 48) = true := beq_iff_eq.2 (by omega)
    have HG2 := Lib.hid (HG.out (by omega))
    clear h q0 q1 q2 q3 q4 h6n h48
    go_enter Tryz.func54, Tryz.ntmps54
    go_wp2
    go_quiet (fail)
    go_wp2
    go_ret
    exact ⟨HF.out _ HG2.out, (by repeat (first | exact Ext.refl _ | assumption | refine Ext.alloc ?_ _ | refine Ext.drew ?_ | refine Ext.drewN ?_ _ | refine Ext.setCell ?_ (Nat.le_refl _) _ | refine Ext.trans ?_ (by assumption)))⟩
  · have d0 := q0 (by omega)
    have d1 : ((s[6].toNat : Int) == 49) = true := beq_iff_eq.2 (by omega)
    have HG2 := Lib.hid (HG.out (by omega))
    clear h q0 q1 q2 q3 q4 h6n h48
    go_enter Tryz.func54, Tryz.ntmps54
    go_wp2
    go_quiet (fail)
    go_wp2
    go_ret
    exact ⟨HF.out _ HG2.out, (by repeat (first | exact Ext.refl _ | assumption | refine Ext.alloc ?_ _ | refine Ext.drew ?_ | refine Ext.drewN ?_ _ | refine Ext.setCell ?_ (Nat.le_refl _) _ | refine Ext.trans ?_ (by assumption)))⟩
  · have d0 := q0 (by omega)
    have d1 := q1 (by omega)
    have d2 : ((s[6].toNat : Int) == 50) = true := beq_iff_eq.2 (by omega)
    have HG2 := Lib.hid (HG.out (by omega))
    clear h q0 q1 q2 q3 q4 h6n h48
    go_enter Tryz.func54, Tryz.ntmps54
    go_wp2
    go_quiet (fail)
    go_wp2
    go_ret
    exact ⟨HF.out _ HG2.out, (by repeat (first | exact Ext.refl _ | assumption | refine Ext.alloc ?_ _ | refine Ext.drew ?_ | refine Ext.drewN ?_ _ | refine Ext.setCell ?_ (Nat.le_refl _) _ | refine Ext.trans ?_ (by assumption)))⟩
  · have d0 := q0 (by omega)
    have d1 := q1 (by omega)
    have d2 := q2 (by omega)
    have d3 : ((s[6].toNat : Int) == 51) = true := beq_iff_eq.2 (by omega)
    obtain rfl : a6 = 51 := UInt8.toNat_inj.1 h
    have HG2 : Hid ((s.extract 0 4 ++ ⟨#[48, 48, 48, 48, 48]⟩ ++ s.extract 4 6).data.toList = res) := Lib.hid (by
      rw [← HR.out]
      simp only [ByteArray.data_append, Array.toList_append, cut_mid, HL.out]
      rfl)
    clear h q0 q1 q2 q3 q4 h6n h48
    go_enter Tryz.func54, Tryz.ntmps54
    go_wp2
    go_quiet (fail)
    go_wp2
    go_ret
    exact ⟨HF.out _ HG2.out, (by repeat (first | exact Ext.refl _ | assumption | refine Ext.alloc ?_ _ | refine Ext.drew ?_ | refine Ext.drewN ?_ _ | refine Ext.setCell ?_ (Nat.le_refl _) _ | refine Ext.trans ?_ (by assumption)))⟩
  · have d0 := q0 (by omega)
    have d1 := q1 (by omega)
    have d2 := q2 (by omega)
    have d3 := q3 (by omega)
    have d4 : ((s[6].toNat : Int) == 52) = true := beq_iff_eq.2 (by omega)
    obtain rfl : a6 = 52 := UInt8.toNat_inj.1 h
    have HG2 : Hid ((s.extract 0 5 ++ ⟨#[48, 48, 48, 48, 48]⟩ ++ s.extract 5 6).data.toList = res) := Lib.hid (by
      rw [← HR.out]
      simp only [ByteArray.data_append, Array.toList_append, cut_mid, HL.out]
      rfl)
    clear h q0 q1 q2 q3 q4 h6n h48
    go_enter Tryz.func54, Tryz.ntmps54
    go_wp2
    go_quiet (fail)
    go_wp2
    go_ret
    exact ⟨HF.out _ HG2.out, (by repeat (first | exact Ext.refl _ | assumption | refine Ext.alloc ?_ _ | refine Ext.drew ?_ | refine Ext.drewN ?_ _ | refine Ext.setCell ?_ (Nat.le_refl _) _ | refine Ext.trans ?_ (by assumption)))⟩
  · have d0 := q0 (by omega)
    have d1 := q1 (by omega)
    have d2 := q2 (by omega)
    have d3 := q3 (by omega)
    have d4 := q4 (by omega)
    have n50 : ¬ a6 ≤ 50 := by rw [UInt8.le_iff_toNat_le]; have : (50 : UInt8).toNat = 50 := rfl; omega
    have n51 : ¬ a6 = 51 := by rintro rfl; revert h; decide
    have n52 : ¬ a6 = 52 := by rintro rfl; revert h; decide
    have HG2 : Hid ((s.extract 0 6 ++ ⟨#[48, 48, 48, 48]⟩ ++ s.extract 6 7).data.toList = res) := Lib.hid (by
      rw [← HR.out]
      simp only [ByteArray.data_append, Array.toList_append, cut_mid, HL.out]
      unfold Ea.exp7
      simp [n50, n51, n52])
    clear h q0 q1 q2 q3 q4 h6n h48 n50 n51 n52
    go_enter Tryz.func54, Tryz.ntmps54
    go_wp2
    go_quiet (fail)
    go_wp2
    go_ret
    exact ⟨HF.out _ HG2.out, (by repeat (first | exact Ext.refl _ | assumption | refine Ext.alloc ?_ _ | refine Ext.drew ?_ | refine Ext.drewN ?_ _ | refine Ext.setCell ?_ (Nat.le_refl _) _ | refine Ext.trans ?_ (by assumption)))⟩

theorem xcheckOf_any (k : Int) (s : ByteArray) (hk : k = 4 → s.size = 7) (hs : s.size ≤ 4096) (HD : Hid (Ea.digs s.data.toList = true)) (w : World) :
    Calls Tryz.prog 52 #[.int .i64 k, .string s] w fun e w' => e = .returned (.string (Ea.bS [Ea.chkOf k s.data.toList])) ∧ Ext w w' := by
  by_cases h4 : k = 4
  · subst h4
    have h7 := hk rfl
    have HE := Lib.hid (fun w => xexpand_any s h7 HD w)
    have hz : (Ea.bS (Ea.exp7 s.data.toList)).size = 11 := by rw [size_of_toList (Ea.bS_list _), Ea.exp7_len (by rw [len_data]; exact h7)]
    have HC := Lib.hid (fun w => xcheck_any (Ea.bS (Ea.exp7 s.data.toList)) (by omega) (Lib.hid (by rw [Ea.bS_list]; exact Ea.exp7_digs HD.out)) w)
    rw [Ea.bS_list] at HC
    have e : Ea.chkOf 4 s.data.toList = Ea.chk (Ea.exp7 s.data.toList) := rfl
    rw [e]
    generalize Ea.exp7 s.data.toList = X at *
    clear hz h7 hk hs e
    go_enter Tryz.func52, Tryz.ntmps52
    go_wp2_with fail
    refine (HE.out _).mono ?_
    rintro e w1 ⟨rfl, hx1⟩
    go_wp2_with fail
    refine (HC.out _).mono ?_
    rintro e w2 ⟨rfl, hx2⟩
    go_wp2
    go_ret
    exact ⟨rfl, hx1.trans hx2⟩
  · have HC := Lib.hid (fun w => xcheck_any s hs HD w)
    have e : Ea.chkOf k s.data.toList = Ea.chk s.data.toList := by unfold Ea.chkOf; rw [if_neg h4]
    have b4 : (k == 4) = false := beq_eq_false_iff_ne.2 h4
    rw [e]
    clear hk hs e h4
    go_enter Tryz.func52, Tryz.ntmps52
    go_wp2_with fail
    refine (HC.out _).mono ?_
    rintro e w1 ⟨rfl, hx1⟩
    go_wp2
    go_ret
    exact ⟨rfl, hx1⟩
end Go.Proofs.YtfpliihglgjijaaGreat
