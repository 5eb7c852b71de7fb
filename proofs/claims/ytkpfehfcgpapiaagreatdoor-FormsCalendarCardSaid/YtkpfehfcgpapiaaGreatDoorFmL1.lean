/-
  The law FormsCalendar, walked.
  Condition: the two faults and the powers of ten are there; the examples hold.
-/
import Derived.Test.YtkpfehfcgpapiaaGreatDoorFmVc
import Derived.Test.YtkpfehfcgpapiaaGreatDoorFmVe
import Derived.Test.YtkpfehfcgpapiaaGreatDoorFmLa
import Derived.Deep.Cut
namespace Go.Proofs.YtkpfehfcgpapiaaGreatDoor
set_option linter.unusedVariables false
open Go.RowKit

theorem dayN_33 (lp : Bool) (m : Nat) : Fm.monN lp (m + 1) = Fm.monN lp m + Fm.dayN lp m 33 := rfl
set_option maxRecDepth 100000 in
set_option maxHeartbeats 2000000 in
theorem cal_one (yr : Int) (h0 : 0 ≤ yr) (h1 : yr ≤ 65535) (y : Nat) (hy : 1 + yr % 9999 = (y : Int)) (hy1 : 1 ≤ y) (hy2 : y ≤ 9999) (z4 : ((y : Int) % 4 == 0) = true) (z100 : ((y : Int) % 100 != 0) = false) (z400 : ((y : Int) % 400 == 0) = true) (hlp : Fm.leap (y : Int) = true) (w : World) (hE : Errs w) (hP : Pow w) (hX : ExH) :
    Calls Tryz.prog 12 #[.int .u16 yr] w fun e w' => e = .returned (.bool true) ∧ Ext w w' := by
  have HE := Lib.hid hE
  have HP := Lib.hid hP
  obtain ⟨c, hc⟩ : ∃ c : Nat, c = y / 100 := ⟨_, rfl⟩
  have hyc : (y : Int) / 100 = (c : Int) := by omega
  have hc1 : c ≤ 99 := by omega
  have HV := Lib.hid (fun (m d : Nat) (hm : m < 100) (hd : d < 100) => Fm.value_date y m d hy1 hy2 hm hd)
  rw [hlp] at HV
  have HC := Lib.hid hc
  have HEX := Lib.hid hX
  clear hE hP hc hX hlp
  go_enter Tryz.func12, Tryz.ntmps12
  go_wp2_with fail
  go_loopw [5, 7] (fun n t wr => ∃ m : Nat, m ≤ 14 ∧ t = .int .i64 (m : Int) ∧ n = .int .i64 ((Fm.monN true m : Nat) : Int) ∧ Hid (Ext (w.alloc (.cells #[.string ⟨#[68]⟩, .int .i64 5, .int .i64 (y : Int), .int .i64 (y : Int), .int .i64 0, .slice none 0 0, .bool false] 39)) wr)) (fun _ t _ => 14 - (intOf t).toNat)
  case atStart => exact ⟨0, by omega, rfl, rfl, Lib.hid (by repeat (first | exact Ext.refl _ | assumption | refine Ext.alloc ?_ _ | refine Ext.drew ?_ | refine Ext.trans ?_ (by assumption)))⟩
  case round =>
    obtain ⟨m, hm, rfl, rfl, HX⟩ := hrel
    obtain ⟨N0, hN0⟩ : ∃ N0, N0 = Fm.monN true m := ⟨_, rfl⟩
    have hN0b : N0 ≤ 33 * m := by rw [hN0]; exact Fm.monN_le true m
    rw [← hN0]
    have HN0 := Lib.hid hN0
    clear hN0
    by_cases hlt : m < 14
    · obtain ⟨W0, hW0⟩ : ∃ W0, W0 = wr := ⟨_, rfl⟩
      subst hW0
      go_wp2_with fail
      go_loopw [5, 8] (fun n t wq => ∃ d : Nat, d ≤ 33 ∧ t = .int .i64 (d : Int) ∧ n = .int .i64 ((N0 + Fm.dayN true m d : Nat) : Int) ∧ Hid (Ext (w.alloc (.cells #[.string ⟨#[68]⟩, .int .i64 5, .int .i64 (y : Int), .int .i64 (y : Int), .int .i64 0, .slice none 0 0, .bool false] 39)) wq)) (fun _ t _ => 33 - (intOf t).toNat)
      case atStart => exact ⟨0, by omega, rfl, rfl, HX⟩
      case round =>
        clear HX
        obtain ⟨d, hd, rfl, rfl, HX⟩ := hrel
        obtain ⟨N1, hN1⟩ : ∃ N1, N1 = Fm.dayN true m d := ⟨_, rfl⟩
        have hN1b : N1 ≤ d := by rw [hN1]; exact Fm.dayN_le true m d
        rw [← hN1]
        have HN1 := Lib.hid hN1
        clear hN1
        by_cases hld : d < 33
        · obtain ⟨A, hA⟩ : ∃ A : ByteArray, A = ⟨(Fm.two c).toArray⟩ := ⟨_, rfl⟩
          obtain ⟨B, hB⟩ : ∃ B : ByteArray, B = ⟨(Fm.two y).toArray⟩ := ⟨_, rfl⟩
          obtain ⟨C, hC⟩ : ∃ C : ByteArray, C = ⟨(Fm.two m).toArray⟩ := ⟨_, rfl⟩
          obtain ⟨D, hD⟩ : ∃ D : ByteArray, D = ⟨(Fm.two d).toArray⟩ := ⟨_, rfl⟩
          have HT1 := Lib.hid (fun x : Ahead wr => two_any c (by omega) x.at')
          have HT2 := Lib.hid (fun x : Ahead wr => two_any y (by omega) x.at')
          have HT3 := Lib.hid (fun x : Ahead wr => two_any m (by omega) x.at')
          have HT4 := Lib.hid (fun x : Ahead wr => two_any d (by omega) x.at')
          rw [← hA] at HT1
          rw [← hB] at HT2
          rw [← hC] at HT3
          rw [← hD] at HT4
          have sA : A.size = 2 := by rw [hA]; rfl
          have sB : B.size = 2 := by rw [hB]; rfl
          have sC : C.size = 2 := by rw [hC]; rfl
          have sD : D.size = 2 := by rw [hD]; rfl
          have hstr : (A ++ B ++ ⟨#[45]⟩ ++ C ++ ⟨#[45]⟩ ++ D).data.toList = Fm.dateS y m d := by rw [hA, hB, hC, hD, HC.out]; simp [Fm.dateS]
          have hsz : (A ++ B ++ ⟨#[45]⟩ ++ C ++ ⟨#[45]⟩ ++ D).size ≤ 9223372036854775807 := by rw [← len_data, hstr]; exact (by decide : 10 ≤ 9223372036854775807)
          have hxw : Ext w wr := HX.out.before
          have HVV := Lib.hid (fun x : Ahead wr => fvalue_any ⟨#[68]⟩ 5 y y 0 none 0 0 false [] (A ++ B ++ ⟨#[45]⟩ ++ C ++ ⟨#[45]⟩ ++ D) hsz x.at' (StrsR.nil _) (fun s hs => by cases hs) (by decide) (HE.out.ext (hxw.trans x.ext)))
          have hval : Fm.value ⟨(⟨#[68]⟩ : ByteArray).data.toList, 5, y, y, 0, [], false⟩ (A ++ B ++ ⟨#[45]⟩ ++ C ++ ⟨#[45]⟩ ++ D).data.toList = if Fm.okD true m d then 0 else 3 := by rw [hstr]; exact HV.out m d (by omega) (by omega)
          have hdn : Fm.dayN true m (d + 1) = N1 + if Fm.okD true m d then 1 else 0 := by rw [Fm.dayN_succ, ← HN1.out]
          rw [hval] at HVV
          have HK7 := fun x : Ahead wr => kept7 (HX.out.trans x.ext)
          have k0 := fun x => (HK7 x).1
          have k1 := fun x => (HK7 x).2.1
          have k2 := fun x => (HK7 x).2.2.1
          have k3 := fun x => (HK7 x).2.2.2.1
          have k4 := fun x => (HK7 x).2.2.2.2.1
          have k5 := fun x => (HK7 x).2.2.2.2.2.1
          have k6 := fun x => (HK7 x).2.2.2.2.2.2
          clear HK7 hval hA hB hC hD hstr hsz hxw
          cases hok : Fm.okD true m d with
          | true =>
            rw [hok] at HVV hdn
            rw [if_pos rfl] at HVV hdn
            have HDN := Lib.hid hdn
            clear hok hdn
            go_upto_region 12 with fail
            refine wp_region_quiet (C := fun w' => ∃ x : Ahead wr, w' = x.at') (by kernel_rfl) (by kernel_rfl) (Ahead.drawn _) ?_
            try dsimp only
            repeat (first | go_big_quiet_step ((first | (go_at_call 34; first | with_reducible exact ahead_of (HT1.out _) | with_reducible exact ahead_of (HT2.out _) | with_reducible exact ahead_of (HT3.out _) | with_reducible exact ahead_of (HT4.out _)) | (go_at_call 22; exact ahead_of (HVV.out _)))) | quiet_step ((first | (go_at_call 34; first | with_reducible exact ahead_of (HT1.out _) | with_reducible exact ahead_of (HT2.out _) | with_reducible exact ahead_of (HT3.out _) | with_reducible exact ahead_of (HT4.out _)) | (go_at_call 22; exact ahead_of (HVV.out _)))))
            refine wpQuiet_nil ?_
            intro _ hx0
            obtain ⟨x0, hx0⟩ := hx0
            subst hx0
            obtain ⟨w8, hx8⟩ := x0
            try dsimp only
            have HX8 := Lib.hid (HX.out.trans hx8)
            clear k0 k1 k2 k3 k4 k5 k6 hx8 HT1 HT2 HT3 HT4 HVV
            go_wp2_with fail
            go_roundw
            case rel => exact ⟨d + 1, by omega, by go_num, by rw [HDN.out]; go_num, HX8⟩
            case measure => simp [intOf]; omega
          | false =>
            rw [hok] at HVV hdn
            rw [if_neg (by decide)] at HVV hdn
            have HDN := Lib.hid hdn
            clear hok hdn
            go_upto_region 12 with fail
            refine wp_region_quiet (C := fun w' => ∃ x : Ahead wr, w' = x.at') (by kernel_rfl) (by kernel_rfl) (Ahead.drawn _) ?_
            try dsimp only
            repeat (first | go_big_quiet_step ((first | (go_at_call 34; first | with_reducible exact ahead_of (HT1.out _) | with_reducible exact ahead_of (HT2.out _) | with_reducible exact ahead_of (HT3.out _) | with_reducible exact ahead_of (HT4.out _)) | (go_at_call 22; exact ahead_of (HVV.out _)))) | quiet_step ((first | (go_at_call 34; first | with_reducible exact ahead_of (HT1.out _) | with_reducible exact ahead_of (HT2.out _) | with_reducible exact ahead_of (HT3.out _) | with_reducible exact ahead_of (HT4.out _)) | (go_at_call 22; exact ahead_of (HVV.out _)))))
            refine wpQuiet_nil ?_
            intro _ hx0
            obtain ⟨x0, hx0⟩ := hx0
            subst hx0
            obtain ⟨w8, hx8⟩ := x0
            try dsimp only
            have HX8 := Lib.hid (HX.out.trans hx8)
            clear k0 k1 k2 k3 k4 k5 k6 hx8 HT1 HT2 HT3 HT4 HVV
            go_wp2_with fail
            go_roundw
            case rel => exact ⟨d + 1, by omega, by go_num, by rw [HDN.out]; go_num, HX8⟩
            case measure => simp [intOf]; omega
        · obtain rfl : d = 33 := by omega
          have HNN : Hid (N0 + N1 = Fm.monN true (m + 1)) := Lib.hid (by rw [dayN_33, HN0.out, HN1.out])
          go_wp2_with fail
          refine ⟨⟨m + 1, by omega, by go_num, by rw [HNN.out], HX⟩, by simp [intOf]; omega⟩
    · obtain rfl : m = 14 := by omega
      obtain rfl : N0 = 366 := by rw [HN0.out]; decide +kernel
      have hxw : Ext w wr := HX.out.before
      have HEXW := Lib.hid (HEX.out wr (HE.out.ext hxw) (HP.out.ext hxw))
      go_wp2_with fail
      refine HEXW.out.mono ?_
      rintro e w9 ⟨rfl, hx9⟩
      go_wp2_with fail
      go_ret
      exact ⟨rfl, hxw.trans hx9⟩
set_option maxRecDepth 100000 in
set_option maxHeartbeats 2000000 in
theorem cal_two (yr : Int) (h0 : 0 ≤ yr) (h1 : yr ≤ 65535) (y : Nat) (hy : 1 + yr % 9999 = (y : Int)) (hy1 : 1 ≤ y) (hy2 : y ≤ 9999) (z4 : ((y : Int) % 4 == 0) = true) (z100 : ((y : Int) % 100 != 0) = false) (z400 : ((y : Int) % 400 == 0) = false) (hlp : Fm.leap (y : Int) = false) (w : World) (hE : Errs w) (hP : Pow w) (hX : ExH) :
    Calls Tryz.prog 12 #[.int .u16 yr] w fun e w' => e = .returned (.bool true) ∧ Ext w w' := by
  have HE := Lib.hid hE
  have HP := Lib.hid hP
  obtain ⟨c, hc⟩ : ∃ c : Nat, c = y / 100 := ⟨_, rfl⟩
  have hyc : (y : Int) / 100 = (c : Int) := by omega
  have hc1 : c ≤ 99 := by omega
  have HV := Lib.hid (fun (m d : Nat) (hm : m < 100) (hd : d < 100) => Fm.value_date y m d hy1 hy2 hm hd)
  rw [hlp] at HV
  have HC := Lib.hid hc
  have HEX := Lib.hid hX
  clear hE hP hc hX hlp
  go_enter Tryz.func12, Tryz.ntmps12
  go_wp2_with fail
  go_loopw [5, 7] (fun n t wr => ∃ m : Nat, m ≤ 14 ∧ t = .int .i64 (m : Int) ∧ n = .int .i64 ((Fm.monN false m : Nat) : Int) ∧ Hid (Ext (w.alloc (.cells #[.string ⟨#[68]⟩, .int .i64 5, .int .i64 (y : Int), .int .i64 (y : Int), .int .i64 0, .slice none 0 0, .bool false] 39)) wr)) (fun _ t _ => 14 - (intOf t).toNat)
  case atStart => exact ⟨0, by omega, rfl, rfl, Lib.hid (by repeat (first | exact Ext.refl _ | assumption | refine Ext.alloc ?_ _ | refine Ext.drew ?_ | refine Ext.trans ?_ (by assumption)))⟩
  case round =>
    obtain ⟨m, hm, rfl, rfl, HX⟩ := hrel
    obtain ⟨N0, hN0⟩ : ∃ N0, N0 = Fm.monN false m := ⟨_, rfl⟩
    have hN0b : N0 ≤ 33 * m := by rw [hN0]; exact Fm.monN_le false m
    rw [← hN0]
    have HN0 := Lib.hid hN0
    clear hN0
    by_cases hlt : m < 14
    · obtain ⟨W0, hW0⟩ : ∃ W0, W0 = wr := ⟨_, rfl⟩
      subst hW0
      go_wp2_with fail
      go_loopw [5, 8] (fun n t wq => ∃ d : Nat, d ≤ 33 ∧ t = .int .i64 (d : Int) ∧ n = .int .i64 ((N0 + Fm.dayN false m d : Nat) : Int) ∧ Hid (Ext (w.alloc (.cells #[.string ⟨#[68]⟩, .int .i64 5, .int .i64 (y : Int), .int .i64 (y : Int), .int .i64 0, .slice none 0 0, .bool false] 39)) wq)) (fun _ t _ => 33 - (intOf t).toNat)
      case atStart => exact ⟨0, by omega, rfl, rfl, HX⟩
      case round =>
        clear HX
        obtain ⟨d, hd, rfl, rfl, HX⟩ := hrel
        obtain ⟨N1, hN1⟩ : ∃ N1, N1 = Fm.dayN false m d := ⟨_, rfl⟩
        have hN1b : N1 ≤ d := by rw [hN1]; exact Fm.dayN_le false m d
        rw [← hN1]
        have HN1 := Lib.hid hN1
        clear hN1
        by_cases hld : d < 33
        · obtain ⟨A, hA⟩ : ∃ A : ByteArray, A = ⟨(Fm.two c).toArray⟩ := ⟨_, rfl⟩
          obtain ⟨B, hB⟩ : ∃ B : ByteArray, B = ⟨(Fm.two y).toArray⟩ := ⟨_, rfl⟩
          obtain ⟨C, hC⟩ : ∃ C : ByteArray, C = ⟨(Fm.two m).toArray⟩ := ⟨_, rfl⟩
          obtain ⟨D, hD⟩ : ∃ D : ByteArray, D = ⟨(Fm.two d).toArray⟩ := ⟨_, rfl⟩
          have HT1 := Lib.hid (fun x : Ahead wr => two_any c (by omega) x.at')
          have HT2 := Lib.hid (fun x : Ahead wr => two_any y (by omega) x.at')
          have HT3 := Lib.hid (fun x : Ahead wr => two_any m (by omega) x.at')
          have HT4 := Lib.hid (fun x : Ahead wr => two_any d (by omega) x.at')
          rw [← hA] at HT1
          rw [← hB] at HT2
          rw [← hC] at HT3
          rw [← hD] at HT4
          have sA : A.size = 2 := by rw [hA]; rfl
          have sB : B.size = 2 := by rw [hB]; rfl
          have sC : C.size = 2 := by rw [hC]; rfl
          have sD : D.size = 2 := by rw [hD]; rfl
          have hstr : (A ++ B ++ ⟨#[45]⟩ ++ C ++ ⟨#[45]⟩ ++ D).data.toList = Fm.dateS y m d := by rw [hA, hB, hC, hD, HC.out]; simp [Fm.dateS]
          have hsz : (A ++ B ++ ⟨#[45]⟩ ++ C ++ ⟨#[45]⟩ ++ D).size ≤ 9223372036854775807 := by rw [← len_data, hstr]; exact (by decide : 10 ≤ 9223372036854775807)
          have hxw : Ext w wr := HX.out.before
          have HVV := Lib.hid (fun x : Ahead wr => fvalue_any ⟨#[68]⟩ 5 y y 0 none 0 0 false [] (A ++ B ++ ⟨#[45]⟩ ++ C ++ ⟨#[45]⟩ ++ D) hsz x.at' (StrsR.nil _) (fun s hs => by cases hs) (by decide) (HE.out.ext (hxw.trans x.ext)))
          have hval : Fm.value ⟨(⟨#[68]⟩ : ByteArray).data.toList, 5, y, y, 0, [], false⟩ (A ++ B ++ ⟨#[45]⟩ ++ C ++ ⟨#[45]⟩ ++ D).data.toList = if Fm.okD false m d then 0 else 3 := by rw [hstr]; exact HV.out m d (by omega) (by omega)
          have hdn : Fm.dayN false m (d + 1) = N1 + if Fm.okD false m d then 1 else 0 := by rw [Fm.dayN_succ, ← HN1.out]
          rw [hval] at HVV
          have HK7 := fun x : Ahead wr => kept7 (HX.out.trans x.ext)
          have k0 := fun x => (HK7 x).1
          have k1 := fun x => (HK7 x).2.1
          have k2 := fun x => (HK7 x).2.2.1
          have k3 := fun x => (HK7 x).2.2.2.1
          have k4 := fun x => (HK7 x).2.2.2.2.1
          have k5 := fun x => (HK7 x).2.2.2.2.2.1
          have k6 := fun x => (HK7 x).2.2.2.2.2.2
          clear HK7 hval hA hB hC hD hstr hsz hxw
          cases hok : Fm.okD false m d with
          | true =>
            rw [hok] at HVV hdn
            rw [if_pos rfl] at HVV hdn
            have HDN := Lib.hid hdn
            clear hok hdn
            go_upto_region 12 with fail
            refine wp_region_quiet (C := fun w' => ∃ x : Ahead wr, w' = x.at') (by kernel_rfl) (by kernel_rfl) (Ahead.drawn _) ?_
            try dsimp only
            repeat (first | go_big_quiet_step ((first | (go_at_call 34; first | with_reducible exact ahead_of (HT1.out _) | with_reducible exact ahead_of (HT2.out _) | with_reducible exact ahead_of (HT3.out _) | with_reducible exact ahead_of (HT4.out _)) | (go_at_call 22; exact ahead_of (HVV.out _)))) | quiet_step ((first | (go_at_call 34; first | with_reducible exact ahead_of (HT1.out _) | with_reducible exact ahead_of (HT2.out _) | with_reducible exact ahead_of (HT3.out _) | with_reducible exact ahead_of (HT4.out _)) | (go_at_call 22; exact ahead_of (HVV.out _)))))
            refine wpQuiet_nil ?_
            intro _ hx0
            obtain ⟨x0, hx0⟩ := hx0
            subst hx0
            obtain ⟨w8, hx8⟩ := x0
            try dsimp only
            have HX8 := Lib.hid (HX.out.trans hx8)
            clear k0 k1 k2 k3 k4 k5 k6 hx8 HT1 HT2 HT3 HT4 HVV
            go_wp2_with fail
            go_roundw
            case rel => exact ⟨d + 1, by omega, by go_num, by rw [HDN.out]; go_num, HX8⟩
            case measure => simp [intOf]; omega
          | false =>
            rw [hok] at HVV hdn
            rw [if_neg (by decide)] at HVV hdn
            have HDN := Lib.hid hdn
            clear hok hdn
            go_upto_region 12 with fail
            refine wp_region_quiet (C := fun w' => ∃ x : Ahead wr, w' = x.at') (by kernel_rfl) (by kernel_rfl) (Ahead.drawn _) ?_
            try dsimp only
            repeat (first | go_big_quiet_step ((first | (go_at_call 34; first | with_reducible exact ahead_of (HT1.out _) | with_reducible exact ahead_of (HT2.out _) | with_reducible exact ahead_of (HT3.out _) | with_reducible exact ahead_of (HT4.out _)) | (go_at_call 22; exact ahead_of (HVV.out _)))) | quiet_step ((first | (go_at_call 34; first | with_reducible exact ahead_of (HT1.out _) | with_reducible exact ahead_of (HT2.out _) | with_reducible exact ahead_of (HT3.out _) | with_reducible exact ahead_of (HT4.out _)) | (go_at_call 22; exact ahead_of (HVV.out _)))))
            refine wpQuiet_nil ?_
            intro _ hx0
            obtain ⟨x0, hx0⟩ := hx0
            subst hx0
            obtain ⟨w8, hx8⟩ := x0
            try dsimp only
            have HX8 := Lib.hid (HX.out.trans hx8)
            clear k0 k1 k2 k3 k4 k5 k6 hx8 HT1 HT2 HT3 HT4 HVV
            go_wp2_with fail
            go_roundw
            case rel => exact ⟨d + 1, by omega, by go_num, by rw [HDN.out]; go_num, HX8⟩
            case measure => simp [intOf]; omega
        · obtain rfl : d = 33 := by omega
          have HNN : Hid (N0 + N1 = Fm.monN false (m + 1)) := Lib.hid (by rw [dayN_33, HN0.out, HN1.out])
          go_wp2_with fail
          refine ⟨⟨m + 1, by omega, by go_num, by rw [HNN.out], HX⟩, by simp [intOf]; omega⟩
    · obtain rfl : m = 14 := by omega
      obtain rfl : N0 = 365 := by rw [HN0.out]; decide +kernel
      have hxw : Ext w wr := HX.out.before
      have HEXW := Lib.hid (HEX.out wr (HE.out.ext hxw) (HP.out.ext hxw))
      go_wp2_with fail
      refine HEXW.out.mono ?_
      rintro e w9 ⟨rfl, hx9⟩
      go_wp2_with fail
      go_ret
      exact ⟨rfl, hxw.trans hx9⟩
set_option maxRecDepth 100000 in
set_option maxHeartbeats 2000000 in
theorem cal_three (yr : Int) (h0 : 0 ≤ yr) (h1 : yr ≤ 65535) (y : Nat) (hy : 1 + yr % 9999 = (y : Int)) (hy1 : 1 ≤ y) (hy2 : y ≤ 9999) (z4 : ((y : Int) % 4 == 0) = true) (z100 : ((y : Int) % 100 != 0) = true) (z400 : ((y : Int) % 400 == 0) = false) (hlp : Fm.leap (y : Int) = true) (w : World) (hE : Errs w) (hP : Pow w) (hX : ExH) :
    Calls Tryz.prog 12 #[.int .u16 yr] w fun e w' => e = .returned (.bool true) ∧ Ext w w' := by
  have HE := Lib.hid hE
  have HP := Lib.hid hP
  obtain ⟨c, hc⟩ : ∃ c : Nat, c = y / 100 := ⟨_, rfl⟩
  have hyc : (y : Int) / 100 = (c : Int) := by omega
  have hc1 : c ≤ 99 := by omega
  have HV := Lib.hid (fun (m d : Nat) (hm : m < 100) (hd : d < 100) => Fm.value_date y m d hy1 hy2 hm hd)
  rw [hlp] at HV
  have HC := Lib.hid hc
  have HEX := Lib.hid hX
  clear hE hP hc hX hlp
  go_enter Tryz.func12, Tryz.ntmps12
  go_wp2_with fail
  go_loopw [5, 7] (fun n t wr => ∃ m : Nat, m ≤ 14 ∧ t = .int .i64 (m : Int) ∧ n = .int .i64 ((Fm.monN true m : Nat) : Int) ∧ Hid (Ext (w.alloc (.cells #[.string ⟨#[68]⟩, .int .i64 5, .int .i64 (y : Int), .int .i64 (y : Int), .int .i64 0, .slice none 0 0, .bool false] 39)) wr)) (fun _ t _ => 14 - (intOf t).toNat)
  case atStart => exact ⟨0, by omega, rfl, rfl, Lib.hid (by repeat (first | exact Ext.refl _ | assumption | refine Ext.alloc ?_ _ | refine Ext.drew ?_ | refine Ext.trans ?_ (by assumption)))⟩
  case round =>
    obtain ⟨m, hm, rfl, rfl, HX⟩ := hrel
    obtain ⟨N0, hN0⟩ : ∃ N0, N0 = Fm.monN true m := ⟨_, rfl⟩
    have hN0b : N0 ≤ 33 * m := by rw [hN0]; exact Fm.monN_le true m
    rw [← hN0]
    have HN0 := Lib.hid hN0
    clear hN0
    by_cases hlt : m < 14
    · obtain ⟨W0, hW0⟩ : ∃ W0, W0 = wr := ⟨_, rfl⟩
      subst hW0
      go_wp2_with fail
      go_loopw [5, 8] (fun n t wq => ∃ d : Nat, d ≤ 33 ∧ t = .int .i64 (d : Int) ∧ n = .int .i64 ((N0 + Fm.dayN true m d : Nat) : Int) ∧ Hid (Ext (w.alloc (.cells #[.string ⟨#[68]⟩, .int .i64 5, .int .i64 (y : Int), .int .i64 (y : Int), .int .i64 0, .slice none 0 0, .bool false] 39)) wq)) (fun _ t _ => 33 - (intOf t).toNat)
      case atStart => exact ⟨0, by omega, rfl, rfl, HX⟩
      case round =>
        clear HX
        obtain ⟨d, hd, rfl, rfl, HX⟩ := hrel
        obtain ⟨N1, hN1⟩ : ∃ N1, N1 = Fm.dayN true m d := ⟨_, rfl⟩
        have hN1b : N1 ≤ d := by rw [hN1]; exact Fm.dayN_le true m d
        rw [← hN1]
        have HN1 := Lib.hid hN1
        clear hN1
        by_cases hld : d < 33
        · obtain ⟨A, hA⟩ : ∃ A : ByteArray, A = ⟨(Fm.two c).toArray⟩ := ⟨_, rfl⟩
          obtain ⟨B, hB⟩ : ∃ B : ByteArray, B = ⟨(Fm.two y).toArray⟩ := ⟨_, rfl⟩
          obtain ⟨C, hC⟩ : ∃ C : ByteArray, C = ⟨(Fm.two m).toArray⟩ := ⟨_, rfl⟩
          obtain ⟨D, hD⟩ : ∃ D : ByteArray, D = ⟨(Fm.two d).toArray⟩ := ⟨_, rfl⟩
          have HT1 := Lib.hid (fun x : Ahead wr => two_any c (by omega) x.at')
          have HT2 := Lib.hid (fun x : Ahead wr => two_any y (by omega) x.at')
          have HT3 := Lib.hid (fun x : Ahead wr => two_any m (by omega) x.at')
          have HT4 := Lib.hid (fun x : Ahead wr => two_any d (by omega) x.at')
          rw [← hA] at HT1
          rw [← hB] at HT2
          rw [← hC] at HT3
          rw [← hD] at HT4
          have sA : A.size = 2 := by rw [hA]; rfl
          have sB : B.size = 2 := by rw [hB]; rfl
          have sC : C.size = 2 := by rw [hC]; rfl
          have sD : D.size = 2 := by rw [hD]; rfl
          have hstr : (A ++ B ++ ⟨#[45]⟩ ++ C ++ ⟨#[45]⟩ ++ D).data.toList = Fm.dateS y m d := by rw [hA, hB, hC, hD, HC.out]; simp [Fm.dateS]
          have hsz : (A ++ B ++ ⟨#[45]⟩ ++ C ++ ⟨#[45]⟩ ++ D).size ≤ 9223372036854775807 := by rw [← len_data, hstr]; exact (by decide : 10 ≤ 9223372036854775807)
          have hxw : Ext w wr := HX.out.before
          have HVV := Lib.hid (fun x : Ahead wr => fvalue_any ⟨#[68]⟩ 5 y y 0 none 0 0 false [] (A ++ B ++ ⟨#[45]⟩ ++ C ++ ⟨#[45]⟩ ++ D) hsz x.at' (StrsR.nil _) (fun s hs => by cases hs) (by decide) (HE.out.ext (hxw.trans x.ext)))
          have hval : Fm.value ⟨(⟨#[68]⟩ : ByteArray).data.toList, 5, y, y, 0, [], false⟩ (A ++ B ++ ⟨#[45]⟩ ++ C ++ ⟨#[45]⟩ ++ D).data.toList = if Fm.okD true m d then 0 else 3 := by rw [hstr]; exact HV.out m d (by omega) (by omega)
          have hdn : Fm.dayN true m (d + 1) = N1 + if Fm.okD true m d then 1 else 0 := by rw [Fm.dayN_succ, ← HN1.out]
          rw [hval] at HVV
          have HK7 := fun x : Ahead wr => kept7 (HX.out.trans x.ext)
          have k0 := fun x => (HK7 x).1
          have k1 := fun x => (HK7 x).2.1
          have k2 := fun x => (HK7 x).2.2.1
          have k3 := fun x => (HK7 x).2.2.2.1
          have k4 := fun x => (HK7 x).2.2.2.2.1
          have k5 := fun x => (HK7 x).2.2.2.2.2.1
          have k6 := fun x => (HK7 x).2.2.2.2.2.2
          clear HK7 hval hA hB hC hD hstr hsz hxw
          cases hok : Fm.okD true m d with
          | true =>
            rw [hok] at HVV hdn
            rw [if_pos rfl] at HVV hdn
            have HDN := Lib.hid hdn
            clear hok hdn
            go_upto_region 12 with fail
            refine wp_region_quiet (C := fun w' => ∃ x : Ahead wr, w' = x.at') (by kernel_rfl) (by kernel_rfl) (Ahead.drawn _) ?_
            try dsimp only
            repeat (first | go_big_quiet_step ((first | (go_at_call 34; first | with_reducible exact ahead_of (HT1.out _) | with_reducible exact ahead_of (HT2.out _) | with_reducible exact ahead_of (HT3.out _) | with_reducible exact ahead_of (HT4.out _)) | (go_at_call 22; exact ahead_of (HVV.out _)))) | quiet_step ((first | (go_at_call 34; first | with_reducible exact ahead_of (HT1.out _) | with_reducible exact ahead_of (HT2.out _) | with_reducible exact ahead_of (HT3.out _) | with_reducible exact ahead_of (HT4.out _)) | (go_at_call 22; exact ahead_of (HVV.out _)))))
            refine wpQuiet_nil ?_
            intro _ hx0
            obtain ⟨x0, hx0⟩ := hx0
            subst hx0
            obtain ⟨w8, hx8⟩ := x0
            try dsimp only
            have HX8 := Lib.hid (HX.out.trans hx8)
            clear k0 k1 k2 k3 k4 k5 k6 hx8 HT1 HT2 HT3 HT4 HVV
            go_wp2_with fail
            go_roundw
            case rel => exact ⟨d + 1, by omega, by go_num, by rw [HDN.out]; go_num, HX8⟩
            case measure => simp [intOf]; omega
          | false =>
            rw [hok] at HVV hdn
            rw [if_neg (by decide)] at HVV hdn
            have HDN := Lib.hid hdn
            clear hok hdn
            go_upto_region 12 with fail
            refine wp_region_quiet (C := fun w' => ∃ x : Ahead wr, w' = x.at') (by kernel_rfl) (by kernel_rfl) (Ahead.drawn _) ?_
            try dsimp only
            repeat (first | go_big_quiet_step ((first | (go_at_call 34; first | with_reducible exact ahead_of (HT1.out _) | with_reducible exact ahead_of (HT2.out _) | with_reducible exact ahead_of (HT3.out _) | with_reducible exact ahead_of (HT4.out _)) | (go_at_call 22; exact ahead_of (HVV.out _)))) | quiet_step ((first | (go_at_call 34; first | with_reducible exact ahead_of (HT1.out _) | with_reducible exact ahead_of (HT2.out _) | with_reducible exact ahead_of (HT3.out _) | with_reducible exact ahead_of (HT4.out _)) | (go_at_call 22; exact ahead_of (HVV.out _)))))
            refine wpQuiet_nil ?_
            intro _ hx0
            obtain ⟨x0, hx0⟩ := hx0
            subst hx0
            obtain ⟨w8, hx8⟩ := x0
            try dsimp only
            have HX8 := Lib.hid (HX.out.trans hx8)
            clear k0 k1 k2 k3 k4 k5 k6 hx8 HT1 HT2 HT3 HT4 HVV
            go_wp2_with fail
            go_roundw
            case rel => exact ⟨d + 1, by omega, by go_num, by rw [HDN.out]; go_num, HX8⟩
            case measure => simp [intOf]; omega
        · obtain rfl : d = 33 := by omega
          have HNN : Hid (N0 + N1 = Fm.monN true (m + 1)) := Lib.hid (by rw [dayN_33, HN0.out, HN1.out])
          go_wp2_with fail
          refine ⟨⟨m + 1, by omega, by go_num, by rw [HNN.out], HX⟩, by simp [intOf]; omega⟩
    · obtain rfl : m = 14 := by omega
      obtain rfl : N0 = 366 := by rw [HN0.out]; decide +kernel
      have hxw : Ext w wr := HX.out.before
      have HEXW := Lib.hid (HEX.out wr (HE.out.ext hxw) (HP.out.ext hxw))
      go_wp2_with fail
      refine HEXW.out.mono ?_
      rintro e w9 ⟨rfl, hx9⟩
      go_wp2_with fail
      go_ret
      exact ⟨rfl, hxw.trans hx9⟩
set_option maxRecDepth 100000 in
set_option maxHeartbeats 2000000 in
theorem cal_four (yr : Int) (h0 : 0 ≤ yr) (h1 : yr ≤ 65535) (y : Nat) (hy : 1 + yr % 9999 = (y : Int)) (hy1 : 1 ≤ y) (hy2 : y ≤ 9999) (z4 : ((y : Int) % 4 == 0) = false) (z100 : ((y : Int) % 100 != 0) = true) (z400 : ((y : Int) % 400 == 0) = false) (hlp : Fm.leap (y : Int) = false) (w : World) (hE : Errs w) (hP : Pow w) (hX : ExH) :
    Calls Tryz.prog 12 #[.int .u16 yr] w fun e w' => e = .returned (.bool true) ∧ Ext w w' := by
  have HE := Lib.hid hE
  have HP := Lib.hid hP
  obtain ⟨c, hc⟩ : ∃ c : Nat, c = y / 100 := ⟨_, rfl⟩
  have hyc : (y : Int) / 100 = (c : Int) := by omega
  have hc1 : c ≤ 99 := by omega
  have HV := Lib.hid (fun (m d : Nat) (hm : m < 100) (hd : d < 100) => Fm.value_date y m d hy1 hy2 hm hd)
  rw [hlp] at HV
  have HC := Lib.hid hc
  have HEX := Lib.hid hX
  clear hE hP hc hX hlp
  go_enter Tryz.func12, Tryz.ntmps12
  go_wp2_with fail
  go_loopw [5, 7] (fun n t wr => ∃ m : Nat, m ≤ 14 ∧ t = .int .i64 (m : Int) ∧ n = .int .i64 ((Fm.monN false m : Nat) : Int) ∧ Hid (Ext (w.alloc (.cells #[.string ⟨#[68]⟩, .int .i64 5, .int .i64 (y : Int), .int .i64 (y : Int), .int .i64 0, .slice none 0 0, .bool false] 39)) wr)) (fun _ t _ => 14 - (intOf t).toNat)
  case atStart => exact ⟨0, by omega, rfl, rfl, Lib.hid (by repeat (first | exact Ext.refl _ | assumption | refine Ext.alloc ?_ _ | refine Ext.drew ?_ | refine Ext.trans ?_ (by assumption)))⟩
  case round =>
    obtain ⟨m, hm, rfl, rfl, HX⟩ := hrel
    obtain ⟨N0, hN0⟩ : ∃ N0, N0 = Fm.monN false m := ⟨_, rfl⟩
    have hN0b : N0 ≤ 33 * m := by rw [hN0]; exact Fm.monN_le false m
    rw [← hN0]
    have HN0 := Lib.hid hN0
    clear hN0
    by_cases hlt : m < 14
    · obtain ⟨W0, hW0⟩ : ∃ W0, W0 = wr := ⟨_, rfl⟩
      subst hW0
      go_wp2_with fail
      go_loopw [5, 8] (fun n t wq => ∃ d : Nat, d ≤ 33 ∧ t = .int .i64 (d : Int) ∧ n = .int .i64 ((N0 + Fm.dayN false m d : Nat) : Int) ∧ Hid (Ext (w.alloc (.cells #[.string ⟨#[68]⟩, .int .i64 5, .int .i64 (y : Int), .int .i64 (y : Int), .int .i64 0, .slice none 0 0, .bool false] 39)) wq)) (fun _ t _ => 33 - (intOf t).toNat)
      case atStart => exact ⟨0, by omega, rfl, rfl, HX⟩
      case round =>
        clear HX
        obtain ⟨d, hd, rfl, rfl, HX⟩ := hrel
        obtain ⟨N1, hN1⟩ : ∃ N1, N1 = Fm.dayN false m d := ⟨_, rfl⟩
        have hN1b : N1 ≤ d := by rw [hN1]; exact Fm.dayN_le false m d
        rw [← hN1]
        have HN1 := Lib.hid hN1
        clear hN1
        by_cases hld : d < 33
        · obtain ⟨A, hA⟩ : ∃ A : ByteArray, A = ⟨(Fm.two c).toArray⟩ := ⟨_, rfl⟩
          obtain ⟨B, hB⟩ : ∃ B : ByteArray, B = ⟨(Fm.two y).toArray⟩ := ⟨_, rfl⟩
          obtain ⟨C, hC⟩ : ∃ C : ByteArray, C = ⟨(Fm.two m).toArray⟩ := ⟨_, rfl⟩
          obtain ⟨D, hD⟩ : ∃ D : ByteArray, D = ⟨(Fm.two d).toArray⟩ := ⟨_, rfl⟩
          have HT1 := Lib.hid (fun x : Ahead wr => two_any c (by omega) x.at')
          have HT2 := Lib.hid (fun x : Ahead wr => two_any y (by omega) x.at')
          have HT3 := Lib.hid (fun x : Ahead wr => two_any m (by omega) x.at')
          have HT4 := Lib.hid (fun x : Ahead wr => two_any d (by omega) x.at')
          rw [← hA] at HT1
          rw [← hB] at HT2
          rw [← hC] at HT3
          rw [← hD] at HT4
          have sA : A.size = 2 := by rw [hA]; rfl
          have sB : B.size = 2 := by rw [hB]; rfl
          have sC : C.size = 2 := by rw [hC]; rfl
          have sD : D.size = 2 := by rw [hD]; rfl
          have hstr : (A ++ B ++ ⟨#[45]⟩ ++ C ++ ⟨#[45]⟩ ++ D).data.toList = Fm.dateS y m d := by rw [hA, hB, hC, hD, HC.out]; simp [Fm.dateS]
          have hsz : (A ++ B ++ ⟨#[45]⟩ ++ C ++ ⟨#[45]⟩ ++ D).size ≤ 9223372036854775807 := by rw [← len_data, hstr]; exact (by decide : 10 ≤ 9223372036854775807)
          have hxw : Ext w wr := HX.out.before
          have HVV := Lib.hid (fun x : Ahead wr => fvalue_any ⟨#[68]⟩ 5 y y 0 none 0 0 false [] (A ++ B ++ ⟨#[45]⟩ ++ C ++ ⟨#[45]⟩ ++ D) hsz x.at' (StrsR.nil _) (fun s hs => by cases hs) (by decide) (HE.out.ext (hxw.trans x.ext)))
          have hval : Fm.value ⟨(⟨#[68]⟩ : ByteArray).data.toList, 5, y, y, 0, [], false⟩ (A ++ B ++ ⟨#[45]⟩ ++ C ++ ⟨#[45]⟩ ++ D).data.toList = if Fm.okD false m d then 0 else 3 := by rw [hstr]; exact HV.out m d (by omega) (by omega)
          have hdn : Fm.dayN false m (d + 1) = N1 + if Fm.okD false m d then 1 else 0 := by rw [Fm.dayN_succ, ← HN1.out]
          rw [hval] at HVV
          have HK7 := fun x : Ahead wr => kept7 (HX.out.trans x.ext)
          have k0 := fun x => (HK7 x).1
          have k1 := fun x => (HK7 x).2.1
          have k2 := fun x => (HK7 x).2.2.1
          have k3 := fun x => (HK7 x).2.2.2.1
          have k4 := fun x => (HK7 x).2.2.2.2.1
          have k5 := fun x => (HK7 x).2.2.2.2.2.1
          have k6 := fun x => (HK7 x).2.2.2.2.2.2
          clear HK7 hval hA hB hC hD hstr hsz hxw
          cases hok : Fm.okD false m d with
          | true =>
            rw [hok] at HVV hdn
            rw [if_pos rfl] at HVV hdn
            have HDN := Lib.hid hdn
            clear hok hdn
            go_upto_region 12 with fail
            refine wp_region_quiet (C := fun w' => ∃ x : Ahead wr, w' = x.at') (by kernel_rfl) (by kernel_rfl) (Ahead.drawn _) ?_
            try dsimp only
            repeat (first | go_big_quiet_step ((first | (go_at_call 34; first | with_reducible exact ahead_of (HT1.out _) | with_reducible exact ahead_of (HT2.out _) | with_reducible exact ahead_of (HT3.out _) | with_reducible exact ahead_of (HT4.out _)) | (go_at_call 22; exact ahead_of (HVV.out _)))) | quiet_step ((first | (go_at_call 34; first | with_reducible exact ahead_of (HT1.out _) | with_reducible exact ahead_of (HT2.out _) | with_reducible exact ahead_of (HT3.out _) | with_reducible exact ahead_of (HT4.out _)) | (go_at_call 22; exact ahead_of (HVV.out _)))))
            refine wpQuiet_nil ?_
            intro _ hx0
            obtain ⟨x0, hx0⟩ := hx0
            subst hx0
            obtain ⟨w8, hx8⟩ := x0
            try dsimp only
            have HX8 := Lib.hid (HX.out.trans hx8)
            clear k0 k1 k2 k3 k4 k5 k6 hx8 HT1 HT2 HT3 HT4 HVV
            go_wp2_with fail
            go_roundw
            case rel => exact ⟨d + 1, by omega, by go_num, by rw [HDN.out]; go_num, HX8⟩
            case measure => simp [intOf]; omega
          | false =>
            rw [hok] at HVV hdn
            rw [if_neg (by decide)] at HVV hdn
            have HDN := Lib.hid hdn
            clear hok hdn
            go_upto_region 12 with fail
            refine wp_region_quiet (C := fun w' => ∃ x : Ahead wr, w' = x.at') (by kernel_rfl) (by kernel_rfl) (Ahead.drawn _) ?_
            try dsimp only
            repeat (first | go_big_quiet_step ((first | (go_at_call 34; first | with_reducible exact ahead_of (HT1.out _) | with_reducible exact ahead_of (HT2.out _) | with_reducible exact ahead_of (HT3.out _) | with_reducible exact ahead_of (HT4.out _)) | (go_at_call 22; exact ahead_of (HVV.out _)))) | quiet_step ((first | (go_at_call 34; first | with_reducible exact ahead_of (HT1.out _) | with_reducible exact ahead_of (HT2.out _) | with_reducible exact ahead_of (HT3.out _) | with_reducible exact ahead_of (HT4.out _)) | (go_at_call 22; exact ahead_of (HVV.out _)))))
            refine wpQuiet_nil ?_
            intro _ hx0
            obtain ⟨x0, hx0⟩ := hx0
            subst hx0
            obtain ⟨w8, hx8⟩ := x0
            try dsimp only
            have HX8 := Lib.hid (HX.out.trans hx8)
            clear k0 k1 k2 k3 k4 k5 k6 hx8 HT1 HT2 HT3 HT4 HVV
            go_wp2_with fail
            go_roundw
            case rel => exact ⟨d + 1, by omega, by go_num, by rw [HDN.out]; go_num, HX8⟩
            case measure => simp [intOf]; omega
        · obtain rfl : d = 33 := by omega
          have HNN : Hid (N0 + N1 = Fm.monN false (m + 1)) := Lib.hid (by rw [dayN_33, HN0.out, HN1.out])
          go_wp2_with fail
          refine ⟨⟨m + 1, by omega, by go_num, by rw [HNN.out], HX⟩, by simp [intOf]; omega⟩
    · obtain rfl : m = 14 := by omega
      obtain rfl : N0 = 365 := by rw [HN0.out]; decide +kernel
      have hxw : Ext w wr := HX.out.before
      have HEXW := Lib.hid (HEX.out wr (HE.out.ext hxw) (HP.out.ext hxw))
      go_wp2_with fail
      refine HEXW.out.mono ?_
      rintro e w9 ⟨rfl, hx9⟩
      go_wp2_with fail
      go_ret
      exact ⟨rfl, hxw.trans hx9⟩
theorem law_calendar (yr : Int) (h0 : 0 ≤ yr) (h1 : yr ≤ 65535) (w : World) (hE : Errs w) (hP : Pow w) (hX : ExH) :
    Calls Tryz.prog 12 #[.int .u16 yr] w fun e w' => e = .returned (.bool true) ∧ Ext w w' := by
  obtain ⟨y, hy, hy1, hy2⟩ : ∃ y : Nat, 1 + yr % 9999 = (y : Int) ∧ 1 ≤ y ∧ y ≤ 9999 := ⟨(1 + yr % 9999).toNat, by omega, by omega, by omega⟩
  by_cases a4 : (y : Int) % 4 = 0
  · have b4 : ((y : Int) % 4 == 0) = true := beq_iff_eq.2 a4
    by_cases a100 : (y : Int) % 100 = 0
    · have b100 : ((y : Int) % 100 == 0) = true := beq_iff_eq.2 a100
      have c100 : ((y : Int) % 100 != 0) = false := by rw [a100]; rfl
      by_cases a400 : (y : Int) % 400 = 0
      · have b400 : ((y : Int) % 400 == 0) = true := beq_iff_eq.2 a400
        exact cal_one yr h0 h1 y hy hy1 hy2 b4 c100 b400 (by unfold Fm.leap; rw [b400]; simp) w hE hP hX
      · have b400 : ((y : Int) % 400 == 0) = false := beq_eq_false_iff_ne.2 a400
        exact cal_two yr h0 h1 y hy hy1 hy2 b4 c100 b400 (by unfold Fm.leap; rw [b400, b100]; simp) w hE hP hX
    · have b100 : ((y : Int) % 100 == 0) = false := beq_eq_false_iff_ne.2 a100
      have c100 : ((y : Int) % 100 != 0) = true := bne_iff_ne.2 a100
      exact cal_three yr h0 h1 y hy hy1 hy2 b4 c100 (beq_eq_false_iff_ne.2 (by omega)) (by unfold Fm.leap; rw [b4, b100]; simp) w hE hP hX
  · have b4 : ((y : Int) % 4 == 0) = false := beq_eq_false_iff_ne.2 a4
    have b400 : ((y : Int) % 400 == 0) = false := beq_eq_false_iff_ne.2 (by omega)
    exact cal_four yr h0 h1 y hy hy1 hy2 b4 (bne_iff_ne.2 (by omega)) b400 (by unfold Fm.leap; rw [b4, b400]; simp) w hE hP hX
end Go.Proofs.YtkpfehfcgpapiaaGreatDoor
