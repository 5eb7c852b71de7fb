/-
  Chapter 51: numbers and days in values: the reference.
  No condition.
-/
import Derived.Test.YtkpfehfcgpapiaaGreatDoorFmPa
import Derived.Test.YtkpfehfcgpapiaaGreatDoorFmVa
import Derived.Test.YtkpfehfcgpapiaaGreatDoorFmVc
namespace Go.Proofs.YtkpfehfcgpapiaaGreatDoor
set_option linter.unusedVariables false
open Go.RowKit

set_option maxRecDepth 100000 in
set_option maxHeartbeats 1000000 in
theorem xdays_any (y m : Nat) (w : World) : Calls Tryz.prog 95 #[.int .i64 (y : Int), .int .i64 (m : Int)] w fun e w' => e = .returned (.int .i64 (Fm.days y m)) ∧ w = w' := by
  have HR := Lib.hid (Fm.days.eq_1 (y : Int) (m : Int))
  generalize Fm.days y m = res at *
  by_cases h2 : (m : Int) = 2
  · have z2 : ((m : Int) == 2) = true := beq_iff_eq.2 h2
    rw [if_neg (by omega), if_pos h2] at HR
    have hl : Fm.leap (y : Int) = ((((y : Int) % 4 == 0) && ((y : Int) % 100 != 0)) || ((y : Int) % 400 == 0)) := by unfold Fm.leap; rfl
    rw [hl] at HR
    clear h2 hl
    cases b4 : ((y : Int) % 4 == 0) <;> cases b100 : ((y : Int) % 100 != 0) <;> cases b400 : ((y : Int) % 400 == 0)
    all_goals
      rw [b4, b100, b400] at HR
      go_enter Tryz.func95, Tryz.ntmps95
      go_wp2_with fail
      go_ret
      exact ⟨ret_int HR.out.symm, rfl⟩
  · have z2 : ((m : Int) == 2) = false := beq_eq_false_iff_ne.2 h2
    by_cases h4 : (m : Int) = 4 ∨ (m : Int) = 6 ∨ (m : Int) = 9 ∨ (m : Int) = 11
    · rw [if_pos h4] at HR
      have : m = 4 ∨ m = 6 ∨ m = 9 ∨ m = 11 := by omega
      clear h4 h2 z2
      rcases this with rfl | rfl | rfl | rfl
      all_goals
        go_enter Tryz.func95, Tryz.ntmps95
        go_wp2_with fail
        go_ret
        exact ⟨ret_int HR.out.symm, rfl⟩
    · rw [if_neg h4, if_neg h2] at HR
      have z4 : ((m : Int) == 4) = false := beq_eq_false_iff_ne.2 (by omega)
      have z6 : ((m : Int) == 6) = false := beq_eq_false_iff_ne.2 (by omega)
      have z9 : ((m : Int) == 9) = false := beq_eq_false_iff_ne.2 (by omega)
      have z11 : ((m : Int) == 11) = false := beq_eq_false_iff_ne.2 (by omega)
      clear h4 h2
      go_enter Tryz.func95, Tryz.ntmps95
      go_wp2_with fail
      go_ret
      exact ⟨ret_int HR.out.symm, rfl⟩
set_option maxRecDepth 100000 in
set_option maxHeartbeats 2000000 in
theorem xwritten_pos (s : ByteArray) (hs : s.size ≤ 9223372036854775807) (hp : ¬ (1 < s.data.toList.length ∧ s.data.toList.headD 0 = 45)) (w : World) : Calls Tryz.prog 56 #[.string s] w fun e w' => e = .returned (.bool (Fm.written s.data.toList)) ∧ Ext w w' := by
  have HR := Lib.hid (Fm.written_pos s.data.toList hp)
  generalize Fm.written s.data.toList = res at *
  rw [len_data] at HR hp
  by_cases h1 : 1 < s.size
  · have h0 : 0 < s.size := by omega
    have h0I : (0 : Int) < (s.size : Int) := by omega
    have hh := head_at s h0
    obtain ⟨y, hy⟩ : ∃ y : Nat, s[0].toNat = y := ⟨_, rfl⟩
    have z1 : decide (1 < s.size) = true := decide_eq_true h1
    have z1I : (1 : Int) < (s.size : Int) := by omega
    have zl1 : ((s.size : Int) == 1) = false := beq_eq_false_iff_ne.2 (by omega)
    have z45 : ((y : Int) == 45) = false := by
      rw [beq_eq_false_iff_ne, ← hy]
      intro e
      exact hp ⟨h1, by rw [hh]; exact UInt8.toNat_inj.1 (by have h : (45 : UInt8).toNat = 45 := rfl; omega)⟩
    have HB : Hid ((s.data.toList.headD 0 == 48) = ((y : Int) == 48)) := Lib.hid (by rw [hh, is48, ← hy]; exact (Bool.beq_eq_decide_eq _ _).symm)
    rw [HB.out, decide_eq_false (show ¬ s.size = 1 by omega), decide_eq_true h1] at HR
    clear hp hh h1
    go_enter Tryz.func56, Tryz.ntmps56
    go_wp2_with fail
    go_loop [3] (fun i => ∃ k : Nat, k ≤ s.size ∧ i = .int .i64 (k : Int) ∧ Hid ((s.data.toList.take k).all Fm.dg = true)) (fun i => s.size - (intOf i).toNat)
    case atStart => exact ⟨0, Nat.zero_le _, rfl, Lib.hid rfl⟩
    case round =>
      obtain ⟨k, hk, rfl, hv⟩ := hrel
      by_cases hlt : k < s.size
      · have HD := Lib.hid (fun w' => xdigit_any s[k] w')
        have hts := take_snoc s k hlt
        have hltI : (k : Int) < (s.size : Int) := by omega
        cases hd : Fm.dg s[k] with
        | false =>
          have HF : Hid (res = false) := Lib.hid (by
            rw [HR.out, show s.data.toList.all Fm.dg = false from ?_, Bool.false_and]
            rw [← Bool.not_eq_true, List.all_eq_true]
            intro h
            have h1 := h s[k] (List.mem_of_getElem? (by rw [List.getElem?_eq_getElem (by rw [len_data]; exact hlt)]; rfl))
            rw [hd] at h1
            cases h1)
          rw [hd] at HD
          clear hd hts
          go_wp2_with fail
          refine Calls.mono (HD.out _) ?_
          rintro e w1 ⟨rfl, rfl⟩
          go_wp2_with fail
          go_ret
          exact ⟨ret_bool HF.out.symm, (by repeat (first | exact Ext.refl _ | assumption | refine Ext.alloc ?_ _ | refine Ext.drew ?_ | refine Ext.trans ?_ (by assumption)))⟩
        | true =>
          have HV : Hid ((s.data.toList.take (k + 1)).all Fm.dg = true) := Lib.hid (by rw [hts, List.all_append, hv.out]; simp [hd])
          rw [hd] at HD
          clear hd hts
          go_wp2_with fail
          refine Calls.mono (HD.out _) ?_
          rintro e w1 ⟨rfl, rfl⟩
          go_wp2_with fail
          go_round
          case rel => exact ⟨k + 1, by omega, by go_num, HV⟩
          case measure => (simp [intOf]; try omega)
      · obtain ⟨m, hm⟩ : ∃ m, m = s.size := ⟨_, rfl⟩
        obtain rfl : k = s.size := by omega
        have hall : s.data.toList.all Fm.dg = true := by have h := hv.out; rw [List.take_of_length_le (by rw [len_data]; exact Nat.le_refl _)] at h; exact h
        have HF := Lib.hid HR.out
        rw [hall] at HF
        clear hall hm
        go_wp2_with fail
        go_ret
        exact ⟨ret_bool (by rw [HF.out]; first | (simp; done) | simp [bne]), (by repeat (first | exact Ext.refl _ | assumption | refine Ext.alloc ?_ _ | refine Ext.drew ?_ | refine Ext.trans ?_ (by assumption)))⟩
  · have z1 : decide (1 < s.size) = false := decide_eq_false h1
    have z1I : ¬ (1 : Int) < (s.size : Int) := by omega
    rw [decide_eq_false h1] at HR
    by_cases hl1 : s.size = 1
    · have zl1 : ((s.size : Int) == 1) = true := beq_iff_eq.2 (by omega)
      rw [decide_eq_true hl1] at HR
      have hsb : s.size ≤ 1 := by omega
      clear hl1 h1 hp
      go_enter Tryz.func56, Tryz.ntmps56
      go_wp2_with fail
      go_loop [3] (fun i => ∃ k : Nat, k ≤ s.size ∧ i = .int .i64 (k : Int) ∧ Hid ((s.data.toList.take k).all Fm.dg = true)) (fun i => s.size - (intOf i).toNat)
      case atStart => exact ⟨0, Nat.zero_le _, rfl, Lib.hid rfl⟩
      case round =>
        obtain ⟨k, hk, rfl, hv⟩ := hrel
        by_cases hlt : k < s.size
        · have HD := Lib.hid (fun w' => xdigit_any s[k] w')
          have hts := take_snoc s k hlt
          have hltI : (k : Int) < (s.size : Int) := by omega
          cases hd : Fm.dg s[k] with
          | false =>
            have HF : Hid (res = false) := Lib.hid (by
              rw [HR.out, show s.data.toList.all Fm.dg = false from ?_, Bool.false_and]
              rw [← Bool.not_eq_true, List.all_eq_true]
              intro h
              have h1 := h s[k] (List.mem_of_getElem? (by rw [List.getElem?_eq_getElem (by rw [len_data]; exact hlt)]; rfl))
              rw [hd] at h1
              cases h1)
            rw [hd] at HD
            clear hd hts
            go_wp2_with fail
            refine Calls.mono (HD.out _) ?_
            rintro e w1 ⟨rfl, rfl⟩
            go_wp2_with fail
            go_ret
            exact ⟨ret_bool HF.out.symm, (by repeat (first | exact Ext.refl _ | assumption | refine Ext.alloc ?_ _ | refine Ext.drew ?_ | refine Ext.trans ?_ (by assumption)))⟩
          | true =>
            have HV : Hid ((s.data.toList.take (k + 1)).all Fm.dg = true) := Lib.hid (by rw [hts, List.all_append, hv.out]; simp [hd])
            rw [hd] at HD
            clear hd hts
            go_wp2_with fail
            refine Calls.mono (HD.out _) ?_
            rintro e w1 ⟨rfl, rfl⟩
            go_wp2_with fail
            go_round
            case rel => exact ⟨k + 1, by omega, by go_num, HV⟩
            case measure => (simp [intOf]; try omega)
        · obtain ⟨m, hm⟩ : ∃ m, m = s.size := ⟨_, rfl⟩
          obtain rfl : k = s.size := by omega
          have hall : s.data.toList.all Fm.dg = true := by have h := hv.out; rw [List.take_of_length_le (by rw [len_data]; exact Nat.le_refl _)] at h; exact h
          have HF := Lib.hid HR.out
          rw [hall] at HF
          clear hall hm
          go_wp2_with fail
          go_ret
          exact ⟨ret_bool (by rw [HF.out]; first | (simp; done) | simp [bne]), (by repeat (first | exact Ext.refl _ | assumption | refine Ext.alloc ?_ _ | refine Ext.drew ?_ | refine Ext.trans ?_ (by assumption)))⟩
    · have zl1 : ((s.size : Int) == 1) = false := beq_eq_false_iff_ne.2 (by omega)
      rw [decide_eq_false hl1] at HR
      have hsb : s.size ≤ 1 := by omega
      clear hl1 h1 hp
      go_enter Tryz.func56, Tryz.ntmps56
      go_wp2_with fail
      go_loop [3] (fun i => ∃ k : Nat, k ≤ s.size ∧ i = .int .i64 (k : Int) ∧ Hid ((s.data.toList.take k).all Fm.dg = true)) (fun i => s.size - (intOf i).toNat)
      case atStart => exact ⟨0, Nat.zero_le _, rfl, Lib.hid rfl⟩
      case round =>
        obtain ⟨k, hk, rfl, hv⟩ := hrel
        by_cases hlt : k < s.size
        · have HD := Lib.hid (fun w' => xdigit_any s[k] w')
          have hts := take_snoc s k hlt
          have hltI : (k : Int) < (s.size : Int) := by omega
          cases hd : Fm.dg s[k] with
          | false =>
            have HF : Hid (res = false) := Lib.hid (by
              rw [HR.out, show s.data.toList.all Fm.dg = false from ?_, Bool.false_and]
              rw [← Bool.not_eq_true, List.all_eq_true]
              intro h
              have h1 := h s[k] (List.mem_of_getElem? (by rw [List.getElem?_eq_getElem (by rw [len_data]; exact hlt)]; rfl))
              rw [hd] at h1
              cases h1)
            rw [hd] at HD
            clear hd hts
            go_wp2_with fail
            refine Calls.mono (HD.out _) ?_
            rintro e w1 ⟨rfl, rfl⟩
            go_wp2_with fail
            go_ret
            exact ⟨ret_bool HF.out.symm, (by repeat (first | exact Ext.refl _ | assumption | refine Ext.alloc ?_ _ | refine Ext.drew ?_ | refine Ext.trans ?_ (by assumption)))⟩
          | true =>
            have HV : Hid ((s.data.toList.take (k + 1)).all Fm.dg = true) := Lib.hid (by rw [hts, List.all_append, hv.out]; simp [hd])
            rw [hd] at HD
            clear hd hts
            go_wp2_with fail
            refine Calls.mono (HD.out _) ?_
            rintro e w1 ⟨rfl, rfl⟩
            go_wp2_with fail
            go_round
            case rel => exact ⟨k + 1, by omega, by go_num, HV⟩
            case measure => (simp [intOf]; try omega)
        · obtain ⟨m, hm⟩ : ∃ m, m = s.size := ⟨_, rfl⟩
          obtain rfl : k = s.size := by omega
          have hall : s.data.toList.all Fm.dg = true := by have h := hv.out; rw [List.take_of_length_le (by rw [len_data]; exact Nat.le_refl _)] at h; exact h
          have HF := Lib.hid HR.out
          rw [hall] at HF
          clear hall hm
          go_wp2_with fail
          go_ret
          exact ⟨ret_bool (by rw [HF.out]; first | (simp; done) | simp [bne]), (by repeat (first | exact Ext.refl _ | assumption | refine Ext.alloc ?_ _ | refine Ext.drew ?_ | refine Ext.trans ?_ (by assumption)))⟩
set_option maxRecDepth 100000 in
set_option maxHeartbeats 2000000 in
theorem xwritten_any : ∀ (m : Nat) (s : ByteArray), s.size ≤ m → s.size ≤ 9223372036854775807 → ∀ w : World, Calls Tryz.prog 56 #[.string s] w fun e w' => e = .returned (.bool (Fm.written s.data.toList)) ∧ Ext w w' := by
  intro m
  induction m with
  | zero => intro s hm hs w; exact xwritten_pos s hs (by rw [len_data]; omega) w
  | succ m ih =>
    intro s hm hs w
    by_cases hp : 1 < s.data.toList.length ∧ s.data.toList.headD 0 = 45
    rotate_left
    · exact xwritten_pos s hs hp w
    obtain ⟨h1, h45⟩ := hp
    rw [len_data] at h1
    have h0 : 0 < s.size := by omega
    have h0I : (0 : Int) < (s.size : Int) := by omega
    have h1I : (1 : Int) < (s.size : Int) := by omega
    have h1I2 : (1 : Int) ≤ (s.size : Int) := by omega
    have z1 : decide (1 < s.size) = true := decide_eq_true h1
    have hh := head_at s h0
    rw [h45] at hh
    have z45 : ((s[0].toNat : Int) == 45) = true := by rw [← hh]; rfl
    obtain ⟨T, hT⟩ : ∃ T : ByteArray, s.extract 1 s.size = T := ⟨_, rfl⟩
    have hTl : T.data.toList = s.data.toList.drop 1 := by rw [← hT, cut_back]
    have hTs : T.size = s.size - 1 := by rw [← len_data, hTl, List.length_drop, len_data]
    have hsl : s.data.toList = 45 :: T.data.toList := by
      rw [hTl]
      cases hd : s.data.toList with
      | nil => have := len_data s; rw [hd] at this; simp at this; omega
      | cons c r => rw [hd] at h45; rw [show c = 45 from h45]; rfl
    have HW := Lib.hid (ih T (by omega) (by omega) w)
    have hwn := Fm.written_neg T.data.toList (by rw [len_data]; omega)
    rw [← hsl, head_at T (by omega)] at hwn
    have hb1 : T[0]'(by omega) = s[1] := by
      have e1 : T.data.toList[0]? = s.data.toList[1]? := by rw [hTl, List.getElem?_drop]
      rw [List.getElem?_eq_getElem (by rw [len_data]; omega), List.getElem?_eq_getElem (by rw [len_data]; omega)] at e1
      exact Option.some.inj e1
    rw [hb1] at hwn
    obtain ⟨y, hy⟩ : ∃ y : Nat, s[1].toNat = y := ⟨_, rfl⟩
    have e48 : (s[1] == 48) = ((y : Int) == 48) := by rw [is48, ← hy]; exact (Bool.beq_eq_decide_eq _ _).symm
    have e45 : (s[1] == 45) = ((y : Int) == 45) := by
      rw [Bool.eq_iff_iff, beq_iff_eq, beq_iff_eq]
      exact ⟨fun h => by rw [← hy, h]; rfl, fun h => UInt8.toNat_inj.1 (by have h9 : (45 : UInt8).toNat = 45 := rfl; omega)⟩
    rw [e48, e45] at hwn
    have HR := Lib.hid hwn
    generalize Fm.written s.data.toList = res at *
    generalize Fm.written T.data.toList = b at *
    clear hwn hb1 hTl hsl h45 hh hTs ih e48 e45
    by_cases y48 : (y : Int) = 48
    · have z48 : ((y : Int) != 48) = false := by rw [y48]; rfl
      have z48b : ((y : Int) == 48) = true := beq_iff_eq.2 y48
      have HF : Hid (res = false) := Lib.hid (by rw [HR.out, z48b]; rfl)
      clear y48 z48b
      go_enter Tryz.func56, Tryz.ntmps56
      go_wp2_with fail
      go_ret
      exact ⟨ret_bool HF.out.symm, (by repeat (first | exact Ext.refl _ | assumption | refine Ext.alloc ?_ _ | refine Ext.drew ?_ | refine Ext.trans ?_ (by assumption)))⟩
    · have z48 : ((y : Int) != 48) = true := bne_iff_ne.2 y48
      have z48b : ((y : Int) == 48) = false := beq_eq_false_iff_ne.2 y48
      have HF : Hid (res = (b && !((y : Int) == 45))) := Lib.hid (by rw [HR.out, z48b]; simp)
      clear y48 z48b
      cases b with
      | false =>
        go_enter Tryz.func56, Tryz.ntmps56
        go_wp2_with fail
        refine Calls.mono HW.out ?_
        rintro e w1 ⟨rfl, hx1⟩
        go_wp2_with fail
        go_ret
        exact ⟨ret_bool (by rw [HF.out]; rfl), hx1⟩
      | true =>
        go_enter Tryz.func56, Tryz.ntmps56
        go_wp2_with fail
        refine Calls.mono HW.out ?_
        rintro e w1 ⟨rfl, hx1⟩
        go_wp2_with fail
        go_ret
        exact ⟨ret_bool (by rw [HF.out]; first | rfl | simp [bne]), hx1⟩
end Go.Proofs.YtkpfehfcgpapiaaGreatDoor
