/-
  Chapter 14: the reference's character, number, date and checked, walked.
  Condition: digits, where digits are read.
-/
import Derived.Test.YteojfkffmbcedaaGreatDoorGsR1
import Derived.Test.YteojfkffmbcedaaGreatDoorCdM4
namespace Go.Proofs.YteojfkffmbcedaaGreatDoor
set_option linter.unusedVariables false
open Go.RowKit

theorem idx_no (c : UInt8) : ∀ l : List UInt8, (∀ i, i < l.length → l.getD i 0 ≠ c) → Lib.indexByte l c = -1 := by
  intro l
  induction l with
  | nil => intro _; rfl
  | cons b l ih =>
    intro h
    have h0 := h 0 (by simp)
    have hb : (b == c) = false := by simpa using h0
    have := ih (fun i hi => by have := h (i + 1) (by simp; omega); simpa using this)
    simp [Lib.indexByte, hb, this]
theorem idx_yes (c : UInt8) : ∀ (l : List UInt8) (i : Nat), i < l.length → l.getD i 0 = c → 0 ≤ Lib.indexByte l c := by
  intro l
  induction l with
  | nil => intro i h; simp at h
  | cons b l ih =>
    intro i hi h
    unfold Lib.indexByte
    split
    · exact Int.le_refl _
    · rename_i hb
      cases i with
      | zero => simp at h; rw [h] at hb; simp at hb
      | succ i =>
        have := ih i (by simpa using hi) (by simpa using h)
        split
        · rename_i h1; simp at h1; omega
        · omega
def symB : ByteArray := ⟨#[33, 34, 37, 38, 39, 42, 43, 44, 45, 46, 47, 58, 59, 60, 61, 62, 63, 95]⟩

set_option maxRecDepth 100000 in
set_option maxHeartbeats 2000000 in
theorem rchar_any (c : UInt8) (w : World) :
    Calls Tryz.prog 39 #[.int .u8 (c.toNat : Int)] w fun e w' => e = .returned (.bool (Cd.isDig c.toNat || Gs.charB c)) ∧ w = w' := by
  have HC := Lib.hid (Gs.charB.eq_1 c)
  have HNO : Hid ((∀ i, i < 18 → symB.data.toList.getD i 0 ≠ c) → Lib.indexByte Gs.symbols c = -1) := Lib.hid (fun h => idx_no c Gs.symbols h)
  have HYES : Hid (∀ i, i < 18 → symB.data.toList.getD i 0 = c → 0 ≤ Lib.indexByte Gs.symbols c) := Lib.hid (fun i hi h => idx_yes c Gs.symbols i hi h)
  generalize Gs.charB c = cb at *
  generalize Lib.indexByte Gs.symbols c = x at *
  have HD := Lib.hid (rdigit_any (c.toNat : Int) w)
  cases hd : Cd.isDig c.toNat
  · rw [hd] at HD
    by_cases h1 : 65 ≤ c.toNat ∧ c.toNat ≤ 90
    · obtain ⟨n1, n2⟩ := h1
      have HR : Hid (cb = true) := Lib.hid (by rw [HC.out, decide_eq_true n1, decide_eq_true n2]; rfl)
      clear HC HNO HYES hd
      go_enter Tryz.func39, Tryz.ntmps39
      go_wp2_with fail
      refine HD.out.mono ?_
      rintro e w' ⟨rfl, rfl⟩
      go_wp2
      go_ret
      exact ⟨ret_bool (by simp [HR.out]), rfl⟩
    have e1 : (decide (65 ≤ c.toNat) && decide (c.toNat ≤ 90)) = false := by
      rw [Bool.and_eq_false_iff, decide_eq_false_iff_not, decide_eq_false_iff_not]; omega
    by_cases h2 : 97 ≤ c.toNat ∧ c.toNat ≤ 122
    · obtain ⟨n1, n2⟩ := h2
      have n3 : 90 < c.toNat := by omega
      have n4 : 65 ≤ c.toNat := by omega
      have HR : Hid (cb = true) := Lib.hid (by rw [HC.out, e1, decide_eq_true n1, decide_eq_true n2]; rfl)
      clear HC HNO HYES hd e1 h1
      go_enter Tryz.func39, Tryz.ntmps39
      go_wp2_with fail
      refine HD.out.mono ?_
      rintro e w' ⟨rfl, rfl⟩
      go_wp2
      go_ret
      exact ⟨ret_bool (by simp [HR.out]), rfl⟩
    have e2 : (decide (97 ≤ c.toNat) && decide (c.toNat ≤ 122)) = false := by
      rw [Bool.and_eq_false_iff, decide_eq_false_iff_not, decide_eq_false_iff_not]; omega
    have HR : Hid (cb = decide (0 ≤ x)) := Lib.hid (by rw [HC.out, e1, e2]; rfl)
    have hn : c.toNat < 65 ∨ (90 < c.toNat ∧ c.toNat < 97) ∨ 122 < c.toNat := by omega
    clear HC e1 e2 h1 h2 hd
    have key : ∀ (A : World), A = w → (65 ≤ c.toNat → 90 < c.toNat) → (97 ≤ c.toNat → 122 < c.toNat) → True := fun _ _ _ _ => trivial
    clear key
    rcases hn with hn | ⟨hn, hn2⟩ | hn
    · have m1 : c.toNat < 65 := hn
      have m2 : c.toNat < 97 := by omega
      clear hn
      go_enter Tryz.func39, Tryz.ntmps39
      go_wp2_with fail
      refine HD.out.mono ?_
      rintro e w' ⟨rfl, rfl⟩
      go_wp2
      generalize hSB : (⟨#[33, 34, 37, 38, 39, 42, 43, 44, 45, 46, 47, 58, 59, 60, 61, 62, 63, 95]⟩ : ByteArray) = SB
      have hsz : SB.size = 18 := by rw [← hSB]; rfl
      have HSB : Hid (symB = SB) := Lib.hid hSB
      have HSZ := Lib.hid hsz
      have hsz1 : SB.size ≤ 18 := by omega
      have hsz2 : 18 ≤ SB.size := by omega
      clear hSB hsz
      go_loop [4] (fun i => ∃ k : Nat, k ≤ 18 ∧ i = .int .i64 (k : Int) ∧ Hid (∀ i, i < k → symB.data.toList.getD i 0 ≠ c)) (fun i => 18 - (intOf i).toNat)
      case atStart => exact ⟨0, Nat.zero_le _, rfl, Lib.hid (fun i hi => absurd hi (Nat.not_lt_zero _))⟩
      case round =>
        obtain ⟨k, hk, rfl, hno⟩ := hrel
        by_cases hlt : k < 18
        · have hks : k < SB.size := by omega
          have HGD : Hid (symB.data.toList.getD k 0 = SB[k]) := Lib.hid (by rw [HSB.out]; exact gdat SB k hks)
          have HNX : Hid (symB.data.toList.getD k 0 ≠ c → ∀ i, i < k + 1 → symB.data.toList.getD i 0 ≠ c) := Lib.hid (fun h i hi => by
            rcases Nat.lt_or_ge i k with hh | hh
            · exact hno.out i hh
            · obtain rfl : i = k := by omega
              exact h)
          have HY := Lib.hid (HYES.out k hlt)
          rw [HGD.out] at HNX HY
          by_cases hv : SB[k] = c
          · have HX : Hid (cb = true) := Lib.hid (by rw [HR.out]; exact decide_eq_true (HY.out hv))
            have hb : ((SB[k].toNat : Int) == (c.toNat : Int)) = true := by rw [hv]; simp
            have hb2 : (SB[k].toNat == c.toNat) = true := by rw [hv]; simp
            clear HNX HY HGD hno hv
            go_wp2
            go_ret
            exact ⟨ret_bool (by simp [HX.out]), rfl⟩
          · have hne : ¬ SB[k].toNat = c.toNat := fun h => hv (UInt8.toNat_inj.1 h)
            have hb : ((SB[k].toNat : Int) == (c.toNat : Int)) = false := by rw [beq_eq_false_iff_ne]; omega
            have hb2 : (SB[k].toNat == c.toNat) = false := by rw [beq_eq_false_iff_ne]; exact hne
            have HN1 := Lib.hid (HNX.out hv)
            clear HNX HY HGD hno hv hne
            go_wp2
            go_round
            case rel => exact ⟨k + 1, by omega, by go_num, HN1⟩
            case measure => simp [intOf]; omega
        · obtain rfl : k = 18 := by omega
          have HX : Hid (cb = false) := Lib.hid (by rw [HR.out, HNO.out hno.out]; rfl)
          clear hk hlt hno
          go_wp2
          go_ret
          exact ⟨ret_bool (by simp [HX.out]), rfl⟩
    · have m1 : 65 ≤ c.toNat := by omega
      go_enter Tryz.func39, Tryz.ntmps39
      go_wp2_with fail
      refine HD.out.mono ?_
      rintro e w' ⟨rfl, rfl⟩
      go_wp2
      generalize hSB : (⟨#[33, 34, 37, 38, 39, 42, 43, 44, 45, 46, 47, 58, 59, 60, 61, 62, 63, 95]⟩ : ByteArray) = SB
      have hsz : SB.size = 18 := by rw [← hSB]; rfl
      have HSB : Hid (symB = SB) := Lib.hid hSB
      have HSZ := Lib.hid hsz
      have hsz1 : SB.size ≤ 18 := by omega
      have hsz2 : 18 ≤ SB.size := by omega
      clear hSB hsz
      go_loop [4] (fun i => ∃ k : Nat, k ≤ 18 ∧ i = .int .i64 (k : Int) ∧ Hid (∀ i, i < k → symB.data.toList.getD i 0 ≠ c)) (fun i => 18 - (intOf i).toNat)
      case atStart => exact ⟨0, Nat.zero_le _, rfl, Lib.hid (fun i hi => absurd hi (Nat.not_lt_zero _))⟩
      case round =>
        obtain ⟨k, hk, rfl, hno⟩ := hrel
        by_cases hlt : k < 18
        · have hks : k < SB.size := by omega
          have HGD : Hid (symB.data.toList.getD k 0 = SB[k]) := Lib.hid (by rw [HSB.out]; exact gdat SB k hks)
          have HNX : Hid (symB.data.toList.getD k 0 ≠ c → ∀ i, i < k + 1 → symB.data.toList.getD i 0 ≠ c) := Lib.hid (fun h i hi => by
            rcases Nat.lt_or_ge i k with hh | hh
            · exact hno.out i hh
            · obtain rfl : i = k := by omega
              exact h)
          have HY := Lib.hid (HYES.out k hlt)
          rw [HGD.out] at HNX HY
          by_cases hv : SB[k] = c
          · have HX : Hid (cb = true) := Lib.hid (by rw [HR.out]; exact decide_eq_true (HY.out hv))
            have hb : ((SB[k].toNat : Int) == (c.toNat : Int)) = true := by rw [hv]; simp
            have hb2 : (SB[k].toNat == c.toNat) = true := by rw [hv]; simp
            clear HNX HY HGD hno hv
            go_wp2
            go_ret
            exact ⟨ret_bool (by simp [HX.out]), rfl⟩
          · have hne : ¬ SB[k].toNat = c.toNat := fun h => hv (UInt8.toNat_inj.1 h)
            have hb : ((SB[k].toNat : Int) == (c.toNat : Int)) = false := by rw [beq_eq_false_iff_ne]; omega
            have hb2 : (SB[k].toNat == c.toNat) = false := by rw [beq_eq_false_iff_ne]; exact hne
            have HN1 := Lib.hid (HNX.out hv)
            clear HNX HY HGD hno hv hne
            go_wp2
            go_round
            case rel => exact ⟨k + 1, by omega, by go_num, HN1⟩
            case measure => simp [intOf]; omega
        · obtain rfl : k = 18 := by omega
          have HX : Hid (cb = false) := Lib.hid (by rw [HR.out, HNO.out hno.out]; rfl)
          clear hk hlt hno
          go_wp2
          go_ret
          exact ⟨ret_bool (by simp [HX.out]), rfl⟩
    · have m1 : 65 ≤ c.toNat := by omega
      have m2 : 90 < c.toNat := by omega
      have m3 : 97 ≤ c.toNat := by omega
      go_enter Tryz.func39, Tryz.ntmps39
      go_wp2_with fail
      refine HD.out.mono ?_
      rintro e w' ⟨rfl, rfl⟩
      go_wp2
      generalize hSB : (⟨#[33, 34, 37, 38, 39, 42, 43, 44, 45, 46, 47, 58, 59, 60, 61, 62, 63, 95]⟩ : ByteArray) = SB
      have hsz : SB.size = 18 := by rw [← hSB]; rfl
      have HSB : Hid (symB = SB) := Lib.hid hSB
      have HSZ := Lib.hid hsz
      have hsz1 : SB.size ≤ 18 := by omega
      have hsz2 : 18 ≤ SB.size := by omega
      clear hSB hsz
      go_loop [4] (fun i => ∃ k : Nat, k ≤ 18 ∧ i = .int .i64 (k : Int) ∧ Hid (∀ i, i < k → symB.data.toList.getD i 0 ≠ c)) (fun i => 18 - (intOf i).toNat)
      case atStart => exact ⟨0, Nat.zero_le _, rfl, Lib.hid (fun i hi => absurd hi (Nat.not_lt_zero _))⟩
      case round =>
        obtain ⟨k, hk, rfl, hno⟩ := hrel
        by_cases hlt : k < 18
        · have hks : k < SB.size := by omega
          have HGD : Hid (symB.data.toList.getD k 0 = SB[k]) := Lib.hid (by rw [HSB.out]; exact gdat SB k hks)
          have HNX : Hid (symB.data.toList.getD k 0 ≠ c → ∀ i, i < k + 1 → symB.data.toList.getD i 0 ≠ c) := Lib.hid (fun h i hi => by
            rcases Nat.lt_or_ge i k with hh | hh
            · exact hno.out i hh
            · obtain rfl : i = k := by omega
              exact h)
          have HY := Lib.hid (HYES.out k hlt)
          rw [HGD.out] at HNX HY
          by_cases hv : SB[k] = c
          · have HX : Hid (cb = true) := Lib.hid (by rw [HR.out]; exact decide_eq_true (HY.out hv))
            have hb : ((SB[k].toNat : Int) == (c.toNat : Int)) = true := by rw [hv]; simp
            have hb2 : (SB[k].toNat == c.toNat) = true := by rw [hv]; simp
            clear HNX HY HGD hno hv
            go_wp2
            go_ret
            exact ⟨ret_bool (by simp [HX.out]), rfl⟩
          · have hne : ¬ SB[k].toNat = c.toNat := fun h => hv (UInt8.toNat_inj.1 h)
            have hb : ((SB[k].toNat : Int) == (c.toNat : Int)) = false := by rw [beq_eq_false_iff_ne]; omega
            have hb2 : (SB[k].toNat == c.toNat) = false := by rw [beq_eq_false_iff_ne]; exact hne
            have HN1 := Lib.hid (HNX.out hv)
            clear HNX HY HGD hno hv hne
            go_wp2
            go_round
            case rel => exact ⟨k + 1, by omega, by go_num, HN1⟩
            case measure => simp [intOf]; omega
        · obtain rfl : k = 18 := by omega
          have HX : Hid (cb = false) := Lib.hid (by rw [HR.out, HNO.out hno.out]; rfl)
          clear hk hlt hno
          go_wp2
          go_ret
          exact ⟨ret_bool (by simp [HX.out]), rfl⟩
  · rw [hd] at HD
    clear HC HNO HYES
    go_enter Tryz.func39, Tryz.ntmps39
    go_wp2_with fail
    refine HD.out.mono ?_
    rintro e w' ⟨rfl, rfl⟩
    go_wp2
    go_ret
    exact ⟨rfl, rfl⟩

set_option maxRecDepth 100000 in
set_option maxHeartbeats 1000000 in
theorem rnumber_any (s : ByteArray) (hs : 2 ≤ s.size) (hd : Cd.AllDig s.data.toList) (w : World) (hm : s.size ≤ 1000) :
    Calls Tryz.prog 55 #[.string s] w fun e w' => e = .returned (.int .i64 (Gs.num2 s.data.toList 0)) ∧ Ext w w' := by
  have HN := Lib.hid (Gs.num2.eq_1 s.data.toList 0)
  have h0 : 0 < s.size := by omega
  have h1 : 1 < s.size := by omega
  have hi0 : (0 : Int) < (s.size : Int) := by omega
  have hi1 : (1 : Int) < (s.size : Int) := by omega
  rw [gdat s 0 h0, gdat s (0 + 1) h1] at HN
  generalize Gs.num2 s.data.toList 0 = N at *
  obtain ⟨a1, a2⟩ := hd _ (mem_at s 0 h0)
  obtain ⟨a3, a4⟩ := hd _ (mem_at s 1 h1)
  replace HN : Hid (N = 10 * Cd.dg s[0] + Cd.dg s[1]) := Lib.hid HN.out
  clear hd
  go_enter Tryz.func55, Tryz.ntmps55
  go_wp2
  go_quiet (fail)
  go_wp2
  go_ret
  exact ⟨ret_int (by rw [HN.out]; simp [Cd.dg]), (by repeat (first | exact Ext.refl _ | assumption | refine Ext.alloc ?_ _ | refine Ext.drew ?_ | refine Ext.drewN ?_ _ | refine Ext.setCell ?_ (Nat.le_refl _) _ | refine Ext.trans ?_ (by assumption)))⟩
end Go.Proofs.YteojfkffmbcedaaGreatDoor
