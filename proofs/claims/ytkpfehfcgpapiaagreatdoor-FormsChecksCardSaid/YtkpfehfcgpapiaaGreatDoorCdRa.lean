/-
  The reference's systems, walked: they compute the same plain functions.
  Conditions: the data are characters of the system, at most 4096.
-/
import Derived.Test.YtkpfehfcgpapiaaGreatDoorCdWa
import Derived.Test.YtkpfehfcgpapiaaGreatDoorPlc

/-
  The reference's systems, walked: they compute the same plain functions.
  Conditions: the data are characters of the system, at most 4096.
-/
namespace Go.Proofs.YtkpfehfcgpapiaaGreatDoor
open Go.RowKit

set_option maxHeartbeats 400000 in
theorem rdigit_any (c : Int) (w : World) :
    Calls Tryz.prog 136 #[.int .u8 c] w fun e w' => e = .returned (.bool (Cd.isDig c)) ∧ w = w' := by
  go_enter Tryz.func136, Tryz.ntmps136
  go_wp2
  · have h : 48 ≤ c := by assumption
    go_ret
    exact ⟨ret_bool (by simp [Cd.isDig, h]), rfl⟩
  · have h : c < 48 := by assumption
    go_ret
    exact ⟨ret_bool (by simp [Cd.isDig]; omega), rfl⟩

set_option maxHeartbeats 400000 in
theorem rdata_any (k : Nat) (c : UInt8) (w : World) (hk : k ≤ 8) :
    Calls Tryz.prog 109 #[.int .i64 (k : Int), .int .u8 (c.toNat : Int)] w fun e w' => e = .returned (.bool (Cd.datB k (c.toNat : Int))) ∧ w = w' := by
  by_cases h7 : k = 7
  · subst h7
    go_enter Tryz.func109, Tryz.ntmps109
    go_wp2_with fail
    refine (plc_any c _).mono ?_
    rintro e w' ⟨rfl, rfl⟩
    go_wp2
    go_ret
    exact ⟨ret_bool (by simp [Cd.datB]), rfl⟩
  · have hb : ((k : Int) == 7) = false := by rw [beq_eq_false_iff_ne]; omega
    have HE : Hid (Cd.datB k (c.toNat : Int) = Cd.isDig (c.toNat : Int)) := if_neg h7
    clear h7
    go_enter Tryz.func109, Tryz.ntmps109
    go_wp2_with fail
    refine (rdigit_any _ _).mono ?_
    rintro e w' ⟨rfl, rfl⟩
    go_wp2
    go_ret
    exact ⟨ret_bool HE.out.symm, rfl⟩

set_option maxHeartbeats 400000 in
theorem rcheck_any (k : Nat) (c : UInt8) (w : World) (hk : k ≤ 8) :
    Calls Tryz.prog 128 #[.int .i64 (k : Int), .int .u8 (c.toNat : Int)] w fun e w' => e = .returned (.bool (Cd.chkB k (c.toNat : Int))) ∧ w = w' := by
  have HD := Lib.hid (rdata_any k c w hk)
  cases hd : Cd.datB k (c.toNat : Int)
  · rw [hd] at HD
    cases hx : ((c.toNat : Int) == 88)
    · have HE : Hid (Cd.chkB k (c.toNat : Int) = false) := by
        show _ = _
        unfold Cd.datB at hd; unfold Cd.chkB
        rw [hx]; repeat' split
        all_goals simp_all
      clear hd
      go_enter Tryz.func128, Tryz.ntmps128
      go_wp2_with fail
      refine HD.out.mono ?_
      rintro e w' ⟨rfl, rfl⟩
      go_wp2
      go_ret
      exact ⟨ret_bool HE.out.symm, rfl⟩
    · by_cases h3 : k = 3
      · subst h3
        clear hd
        go_enter Tryz.func128, Tryz.ntmps128
        go_wp2_with fail
        refine HD.out.mono ?_
        rintro e w' ⟨rfl, rfl⟩
        go_wp2
        go_ret
        exact ⟨ret_bool (by simp [Cd.chkB, hx]), rfl⟩
      · have hb3 : ((k : Int) == 3) = false := by rw [beq_eq_false_iff_ne]; omega
        by_cases h8 : k = 8
        · subst h8
          clear hd
          go_enter Tryz.func128, Tryz.ntmps128
          go_wp2_with fail
          refine HD.out.mono ?_
          rintro e w' ⟨rfl, rfl⟩
          go_wp2
          go_ret
          exact ⟨ret_bool (by simp [Cd.chkB, hx]), rfl⟩
        · have hb8 : ((k : Int) == 8) = false := by rw [beq_eq_false_iff_ne]; omega
          have HE : Hid (Cd.chkB k (c.toNat : Int) = false) := by
            show _ = _
            unfold Cd.datB at hd; unfold Cd.chkB
            rw [if_neg (show ¬ (k = 3 ∨ k = 8) by omega)]; exact hd
          clear hd h3 h8
          go_enter Tryz.func128, Tryz.ntmps128
          go_wp2_with fail
          refine HD.out.mono ?_
          rintro e w' ⟨rfl, rfl⟩
          go_wp2
          go_ret
          exact ⟨ret_bool HE.out.symm, rfl⟩
  · rw [hd] at HD
    have HE : Hid (Cd.chkB k (c.toNat : Int) = true) := by
      show _ = _
      unfold Cd.datB at hd; unfold Cd.chkB
      split
      · simp_all
      · split <;> simp_all
    clear hd
    go_enter Tryz.func128, Tryz.ntmps128
    go_wp2_with fail
    refine HD.out.mono ?_
    rintro e w' ⟨rfl, rfl⟩
    go_wp2
    go_ret
    exact ⟨ret_bool HE.out.symm, rfl⟩

set_option maxHeartbeats 400000 in
theorem value_any (s : ByteArray) (i : Nat) (w : World) (hs : s.size ≤ 9223372036854775807) (h : i < s.size) (hd : Hid (Cd.AllDig s.data.toList)) :
    Calls Tryz.prog 169 #[.string s, .int .i64 (i : Int)] w fun e w' => e = .returned (.int .i64 (Cd.dg (s[s.size - 1 - i]'(by omega)))) ∧ w = w' := by
  obtain ⟨hx1, hx2⟩ := hd.out _ (mem_at s (s.size - 1 - i) (by omega))
  go_enter Tryz.func169, Tryz.ntmps169
  go_wp2
  go_ret
  exact ⟨rfl, rfl⟩

theorem drop_back (s : ByteArray) (i : Nat) (h : i < s.size) : s.data.toList.drop (s.size - (i + 1)) = (s[s.size - 1 - i]'(by omega)) :: s.data.toList.drop (s.size - i) := by
  have e1 : s.size - (i + 1) = s.size - 1 - i := by omega
  rw [e1, drop_cons s (s.size - 1 - i) (by omega), show s.size - 1 - i + 1 = s.size - i by omega]

theorem char_cut : ∀ n : Fin 11, ((⟨#[48, 49, 50, 51, 52, 53, 54, 55, 56, 57, 88]⟩ : ByteArray).extract n.1 (n.1 + 1)).data.toList = [Cd.chr (n.1 : Int)] := by decide +kernel
set_option maxHeartbeats 400000 in
theorem rchar_any (v : Int) (w : World) (h0 : 0 ≤ v) (h1 : v ≤ 10) :
    Calls Tryz.prog 137 #[.int .i64 v] w fun e w' => e = .returned (.string ⟨#[Cd.chr v]⟩) ∧ w = w' := by
  obtain ⟨n, rfl⟩ := Int.eq_ofNat_of_zero_le h0
  have hn : n ≤ 10 := by omega
  have HC := Lib.hid (bytes_ext (b := ⟨[Cd.chr (n : Int)].toArray⟩) (char_cut ⟨n, by omega⟩))
  go_enter Tryz.func137, Tryz.ntmps137
  go_wp2
  go_ret
  exact ⟨ret_string HC.out, rfl⟩
end Go.Proofs.YtkpfehfcgpapiaaGreatDoor

/-
  The reference's sums, walked.
  Conditions: the data are characters of the system, at most 4096.
-/
namespace Go.Proofs.YtkpfehfcgpapiaaGreatDoor
open Go.RowKit

theorem take_back (s : ByteArray) (j : Nat) (h : j < s.size) : s.data.toList.take (s.size - j) = s.data.toList.take (s.size - (j + 1)) ++ [s[s.size - 1 - j]'(by omega)] := by
  have e : s.size - j = s.size - 1 - j + 1 := by omega
  rw [e, take_snoc s (s.size - 1 - j) (by omega), show s.size - (j + 1) = s.size - 1 - j by omega]

set_option maxHeartbeats 400000 in
theorem rgs1_any (s : ByteArray) (w : World) (hs : s.size ≤ 4096) (HD : Hid (Cd.AllDig s.data.toList)) :
    Calls Tryz.prog 138 #[.string s] w fun e w' => e = .returned (.int .i64 ((10 - (Cd.gsP s.data.toList).1 % 10) % 10)) ∧ w = w' := by
  go_enter Tryz.func138, Tryz.ntmps138
  go_wp2
  go_loop [3, 4] (fun t i => ∃ j : Nat, j ≤ s.size ∧ i = .int .i64 (j : Int) ∧ t = .int .i64 (Cd.gsP (s.data.toList.drop (s.size - j))).1) (fun _ i => s.size - (intOf i).toNat)
  case atStart => exact ⟨0, Nat.zero_le _, rfl, by rw [Nat.sub_zero, drop_all]; rfl⟩
  case round =>
    obtain ⟨j, hj, rfl, rfl⟩ := hrel
    have hb := Cd.gsP_bd _ (Cd.allDig_drop HD.out (s.size - j))
    rw [len_drop] at hb
    obtain ⟨hb1, hb2⟩ := hb
    by_cases hlt : j < s.size
    · have hbd := Cd.dg_bd (HD.out _ (mem_at s (s.size - 1 - j) (by omega)))
      have HV := Lib.hid (fun w => value_any s j w (by omega) hlt HD)
      have hw := Cd.gsP_w (s.data.toList.drop (s.size - j))
      rw [len_drop, show s.size - (s.size - j) = j by omega] at hw
      have hs1 : Cd.gsP (s.data.toList.drop (s.size - (j + 1))) = ((Cd.gsP (s.data.toList.drop (s.size - j))).1 + (Cd.gsP (s.data.toList.drop (s.size - j))).2 * Cd.dg (s[s.size - 1 - j]'(by omega)), 4 - (Cd.gsP (s.data.toList.drop (s.size - j))).2) := congrArg Cd.gsP (drop_back s j hlt)
      generalize Cd.gsP (s.data.toList.drop (s.size - j)) = g at *
      generalize Cd.dg (s[s.size - 1 - j]'(by omega)) = d at *
      have HS := Lib.hid hs1
      clear hs1
      obtain ⟨a, b⟩ := g
      dsimp only at hw hb1 hb2 HS ⊢
      obtain ⟨hd1, hd2⟩ := hbd
      have HW := Lib.hid hw
      clear hw
      by_cases hp : j % 2 = 0
      · have hp' : (j : Int) % 2 = 0 := by omega
        go_wp2_with fail
        refine (HV.out _).mono ?_
        rintro e w' ⟨rfl, rfl⟩
        go_wp2
        go_round
        case rel => exact ⟨j + 1, by omega, by go_num, by rw [HS.out, HW.out, if_pos (by omega)]; show Value.int _ _ = Value.int _ _; congr 1; omega⟩
        case measure => simp [intOf]; omega
      · have hp' : (j : Int) % 2 = 1 := by omega
        clear hp
        go_wp2_with fail
        refine (HV.out _).mono ?_
        rintro e w' ⟨rfl, rfl⟩
        go_wp2
        go_round
        case rel => exact ⟨j + 1, by omega, by go_num, by rw [HS.out, HW.out, if_neg (by omega)]; show Value.int _ _ = Value.int _ _; congr 1; omega⟩
        case measure => simp [intOf]; omega
    · obtain rfl : j = s.size := by omega
      rw [Nat.sub_self, List.drop_zero] at hb1 hb2 ⊢
      clear hj hlt
      go_wp2
      go_ret
      exact ⟨rfl, rfl⟩

set_option maxHeartbeats 400000 in
theorem rluhn_any (s : ByteArray) (w : World) (hs : s.size ≤ 4096) (HD : Hid (Cd.AllDig s.data.toList)) :
    Calls Tryz.prog 139 #[.string s] w fun e w' => e = .returned (.int .i64 ((10 - (Cd.lnP s.data.toList).1 % 10) % 10)) ∧ w = w' := by
  go_enter Tryz.func139, Tryz.ntmps139
  go_wp2
  go_loop [3, 4] (fun t i => ∃ j : Nat, j ≤ s.size ∧ i = .int .i64 (j : Int) ∧ t = .int .i64 (Cd.lnP (s.data.toList.drop (s.size - j))).1) (fun _ i => s.size - (intOf i).toNat)
  case atStart => exact ⟨0, Nat.zero_le _, rfl, by rw [Nat.sub_zero, drop_all]; rfl⟩
  case round =>
    obtain ⟨j, hj, rfl, rfl⟩ := hrel
    have hb := Cd.lnP_bd _ (Cd.allDig_drop HD.out (s.size - j))
    rw [len_drop] at hb
    obtain ⟨hb1, hb2⟩ := hb
    by_cases hlt : j < s.size
    · have hbd := Cd.dg_bd (HD.out _ (mem_at s (s.size - 1 - j) (by omega)))
      have HV := Lib.hid (fun w => value_any s j w (by omega) hlt HD)
      have hw := Cd.lnP_w (s.data.toList.drop (s.size - j))
      rw [len_drop, show s.size - (s.size - j) = j by omega] at hw
      have hs1 : Cd.lnP (s.data.toList.drop (s.size - (j + 1))) = ((Cd.lnP (s.data.toList.drop (s.size - j))).1 + (if (Cd.lnP (s.data.toList.drop (s.size - j))).2 then Cd.dbl (Cd.dg (s[s.size - 1 - j]'(by omega))) else Cd.dg (s[s.size - 1 - j]'(by omega))), !(Cd.lnP (s.data.toList.drop (s.size - j))).2) := congrArg Cd.lnP (drop_back s j hlt)
      generalize Cd.lnP (s.data.toList.drop (s.size - j)) = g at *
      generalize Cd.dg (s[s.size - 1 - j]'(by omega)) = d at *
      have HS := Lib.hid hs1
      clear hs1
      obtain ⟨a, b⟩ := g
      dsimp only at hw hb1 hb2 HS ⊢
      obtain ⟨hd1, hd2⟩ := hbd
      have HW := Lib.hid hw
      clear hw
      by_cases hp : j % 2 = 0
      · have hp' : ((j : Int) % 2 == 0) = true := by simp; omega
        by_cases h9 : 9 < 2 * d
        · go_wp2_with fail
          refine (HV.out _).mono ?_
          rintro e w' ⟨rfl, rfl⟩
          go_wp2
          go_round
          case rel => exact ⟨j + 1, by omega, by go_num, by rw [HS.out, HW.out]; show Value.int _ _ = Value.int _ _; congr 1; rw [if_pos (by simpa using hp), Cd.dbl_hi d (by omega)]; omega⟩
          case measure => simp [intOf]; omega
        · go_wp2_with fail
          refine (HV.out _).mono ?_
          rintro e w' ⟨rfl, rfl⟩
          go_wp2
          go_round
          case rel => exact ⟨j + 1, by omega, by go_num, by rw [HS.out, HW.out]; show Value.int _ _ = Value.int _ _; congr 1; rw [if_pos (by simpa using hp), Cd.dbl_lo d (by omega)]; omega⟩
          case measure => simp [intOf]; omega
      · have hp' : ((j : Int) % 2 == 0) = false := by simp; omega
        have HP := Lib.hid hp
        clear hp
        go_wp2_with fail
        refine (HV.out _).mono ?_
        rintro e w' ⟨rfl, rfl⟩
        go_wp2
        go_round
        case rel => exact ⟨j + 1, by omega, by go_num, by rw [HS.out, HW.out]; show Value.int _ _ = Value.int _ _; congr 1; rw [if_neg (by simpa using HP.out)]⟩
        case measure => simp [intOf]; omega
    · obtain rfl : j = s.size := by omega
      rw [Nat.sub_self, List.drop_zero] at hb1 hb2 ⊢
      clear hj hlt
      go_wp2
      go_ret
      exact ⟨rfl, rfl⟩

set_option maxHeartbeats 400000 in
theorem risbn_any (s : ByteArray) (w : World) (hs : s.size = 9) (HD : Hid (Cd.AllDig s.data.toList)) :
    Calls Tryz.prog 140 #[.string s] w fun e w' => e = .returned (.int .i64 ((11 - Cd.isb s.data.toList % 11) % 11)) ∧ w = w' := by
  have hs' : s.size ≤ 9 := by omega
  have HN := Lib.hid hs
  clear hs
  go_enter Tryz.func140, Tryz.ntmps140
  go_wp2
  go_loop [3, 4] (fun t i => ∃ j : Nat, j ≤ s.size ∧ i = .int .i64 (j : Int) ∧ t = .int .i64 (Cd.isb (s.data.toList.drop (s.size - j)))) (fun _ i => s.size - (intOf i).toNat)
  case atStart => exact ⟨0, Nat.zero_le _, rfl, by rw [Nat.sub_zero, drop_all]; rfl⟩
  case round =>
    obtain ⟨j, hj, rfl, rfl⟩ := hrel
    have hb := Cd.isb_bd _ (Cd.allDig_drop HD.out (s.size - j)) (by rw [len_drop]; omega)
    rw [len_drop] at hb
    obtain ⟨hb1, hb2⟩ := hb
    by_cases hlt : j < s.size
    · have hbd := Cd.dg_bd (HD.out _ (mem_at s (s.size - 1 - j) (by omega)))
      have HV := Lib.hid (fun w => value_any s j w (by omega) hlt HD)
      have hs1 : Cd.isb (s.data.toList.drop (s.size - (j + 1))) = Cd.isb (s.data.toList.drop (s.size - j)) + (((s.data.toList.drop (s.size - j)).length : Int) + 2) * Cd.dg (s[s.size - 1 - j]'(by omega)) := congrArg Cd.isb (drop_back s j hlt)
      rw [len_drop, show s.size - (s.size - j) = j by omega] at hs1
      generalize Cd.isb (s.data.toList.drop (s.size - j)) = g at *
      generalize Cd.dg (s[s.size - 1 - j]'(by omega)) = d at *
      have HS := Lib.hid hs1
      clear hs1
      obtain ⟨hd1, hd2⟩ := hbd
      have hm1 : 0 ≤ d * ((j : Int) + 2) := Int.mul_nonneg hd1 (by omega)
      have hm2 : d * ((j : Int) + 2) ≤ 9 * 11 := Int.mul_le_mul hd2 (by omega) (by omega) (by omega)
      go_wp2_with fail
      refine (HV.out _).mono ?_
      rintro e w' ⟨rfl, rfl⟩
      go_wp2
      go_round
      case rel => exact ⟨j + 1, by omega, by go_num, by rw [HS.out, Int.mul_comm d]⟩
      case measure => simp [intOf]; omega
    · obtain rfl : j = s.size := by omega
      rw [Nat.sub_self, List.drop_zero] at hb1 hb2 ⊢
      clear hj hlt
      go_wp2
      go_ret
      exact ⟨rfl, rfl⟩

set_option maxHeartbeats 400000 in
theorem riso97_any (s : ByteArray) (w : World) (hs : s.size ≤ 4096) (HD : Hid (Cd.AllDig s.data.toList)) :
    Calls Tryz.prog 143 #[.string s] w fun e w' => e = .returned (.int .i64 (98 - 100 * Cd.i97 s.data.toList % 97)) ∧ w = w' := by
  go_enter Tryz.func143, Tryz.ntmps143
  go_wp2
  go_loop [3, 4] (fun t i => ∃ k : Nat, k ≤ s.size ∧ i = .int .i64 ((k : Int) - 1) ∧ t = .int .i64 (Cd.i97 (s.data.toList.take (s.size - k)))) (fun _ i => (intOf i + 1).toNat)
  case atStart => exact ⟨s.size, Nat.le_refl _, rfl, by rw [Nat.sub_self]; rfl⟩
  case round =>
    obtain ⟨k, hk, rfl, rfl⟩ := hrel
    obtain ⟨hb1, hb2⟩ := Cd.i97_bd (s.data.toList.take (s.size - k))
    by_cases h0 : k = 0
    · subst h0
      rw [Nat.sub_zero, take_all] at hb1 hb2 ⊢
      go_wp2
      go_ret
      exact ⟨rfl, rfl⟩
    · obtain ⟨j, rfl⟩ : ∃ j, k = j + 1 := ⟨k - 1, by omega⟩
      have hjl : j < s.size := by omega
      obtain ⟨hd1, hd2⟩ := Cd.dg_bd (HD.out _ (mem_at s (s.size - 1 - j) (by omega)))
      have HV := Lib.hid (fun w => value_any s j w (by omega) hjl HD)
      have hs1 : Cd.i97 (s.data.toList.take (s.size - j)) = (10 * Cd.i97 (s.data.toList.take (s.size - (j + 1))) + Cd.dg (s[s.size - 1 - j]'(by omega))) % 97 := by
        rw [take_back s j hjl]; unfold Cd.i97; rw [Cd.foldl_snoc]
      generalize Cd.i97 (s.data.toList.take (s.size - (j + 1))) = g at *
      generalize Cd.dg (s[s.size - 1 - j]'(by omega)) = d at *
      have HS := Lib.hid hs1
      clear hs1 h0
      go_wp2_with fail
      refine (HV.out _).mono ?_
      rintro e w' ⟨rfl, rfl⟩
      go_wp2
      go_round
      case rel => exact ⟨j, by omega, by go_num, by rw [HS.out]⟩
      case measure => simp [intOf]

set_option maxHeartbeats 400000 in
theorem riso11_any (s : ByteArray) (w : World) (hs : s.size ≤ 4096) (HD : Hid (Cd.AllDig s.data.toList)) :
    Calls Tryz.prog 144 #[.string s] w fun e w' => e = .returned (.int .i64 ((12 - Cd.i11 s.data.toList) % 11)) ∧ w = w' := by
  go_enter Tryz.func144, Tryz.ntmps144
  go_wp2
  go_loop [3, 4] (fun t i => ∃ k : Nat, k ≤ s.size ∧ i = .int .i64 ((k : Int) - 1) ∧ t = .int .i64 (Cd.i11 (s.data.toList.take (s.size - k)))) (fun _ i => (intOf i + 1).toNat)
  case atStart => exact ⟨s.size, Nat.le_refl _, rfl, by rw [Nat.sub_self]; rfl⟩
  case round =>
    obtain ⟨k, hk, rfl, rfl⟩ := hrel
    obtain ⟨hb1, hb2⟩ := Cd.i11_bd (s.data.toList.take (s.size - k))
    by_cases h0 : k = 0
    · subst h0
      rw [Nat.sub_zero, take_all] at hb1 hb2 ⊢
      go_wp2
      go_ret
      exact ⟨rfl, rfl⟩
    · obtain ⟨j, rfl⟩ : ∃ j, k = j + 1 := ⟨k - 1, by omega⟩
      have hjl : j < s.size := by omega
      obtain ⟨hd1, hd2⟩ := Cd.dg_bd (HD.out _ (mem_at s (s.size - 1 - j) (by omega)))
      have HV := Lib.hid (fun w => value_any s j w (by omega) hjl HD)
      have hs1 : Cd.i11 (s.data.toList.take (s.size - j)) = 2 * (Cd.i11 (s.data.toList.take (s.size - (j + 1))) + Cd.dg (s[s.size - 1 - j]'(by omega))) % 11 := by
        rw [take_back s j hjl]; unfold Cd.i11; rw [Cd.foldl_snoc]
      generalize Cd.i11 (s.data.toList.take (s.size - (j + 1))) = g at *
      generalize Cd.dg (s[s.size - 1 - j]'(by omega)) = d at *
      have HS := Lib.hid hs1
      clear hs1 h0
      go_wp2_with fail
      refine (HV.out _).mono ?_
      rintro e w' ⟨rfl, rfl⟩
      go_wp2
      go_round
      case rel => exact ⟨j, by omega, by go_num, by rw [HS.out]⟩
      case measure => simp [intOf]

set_option maxHeartbeats 400000 in
theorem rmod43_any (s : ByteArray) (w : World) (hs : s.size ≤ 4096) (HD : Hid (∀ c ∈ s.data.toList, 0 ≤ Cd.plc c)) :
    Calls Tryz.prog 145 #[.string s] w fun e w' => e = .returned (.int .i64 (Cd.c39 s.data.toList % 43)) ∧ w = w' := by
  go_enter Tryz.func145, Tryz.ntmps145
  go_wp2
  go_loop [3, 4] (fun t i => ∃ k : Nat, k ≤ s.size ∧ i = .int .i64 (k : Int) ∧ t = .int .i64 (Cd.c39 (s.data.toList.take k))) (fun _ i => s.size - (intOf i).toNat)
  case atStart => exact ⟨0, Nat.zero_le _, rfl, rfl⟩
  case round =>
    obtain ⟨k, hk, rfl, rfl⟩ := hrel
    obtain ⟨hb1, hb2⟩ := Cd.c39_bd (s.data.toList.take k) (fun c hc => HD.out c (List.mem_of_mem_take hc))
    rw [len_take s k hk] at hb2
    by_cases hlt : k < s.size
    · have hx1 := HD.out _ (mem_at s k hlt)
      have hx2 := (Cd.plc_bd s[k]).2
      have hs1 : Cd.c39 (s.data.toList.take (k + 1)) = Cd.c39 (s.data.toList.take k) + Cd.plc s[k] := by rw [take_snoc s k hlt]; unfold Cd.c39; simp
      generalize Cd.c39 (s.data.toList.take k) = g at *
      have HS := Lib.hid hs1
      clear hs1
      go_wp2_with fail
      refine (plc_any _ _).mono ?_
      rintro e w' ⟨rfl, rfl⟩
      go_wp2
      go_round
      case rel => exact ⟨k + 1, by omega, by go_num, by rw [HS.out]⟩
      case measure => simp [intOf]; omega
    · obtain rfl : k = s.size := by omega
      rw [take_all] at hb1 hb2 ⊢
      clear hk hlt
      go_wp2
      go_ret
      exact ⟨rfl, rfl⟩

set_option maxHeartbeats 400000 in
theorem product_any (a b : Int) (w : World) (h0 : 0 ≤ a) (h1 : a ≤ 9) (h2 : 0 ≤ b) (h3 : b ≤ 9) :
    Calls Tryz.prog 170 #[.int .i64 a, .int .i64 b] w fun e w' => e = .returned (.int .i64 (Cd.dih a b)) ∧ w = w' := by
  by_cases ha : a < 5 <;> by_cases hb : b < 5
  all_goals
    go_enter Tryz.func170, Tryz.ntmps170
    go_wp2
    go_ret
    exact ⟨ret_int (by unfold Cd.dih; repeat' split
                       all_goals omega), rfl⟩
end Go.Proofs.YtkpfehfcgpapiaaGreatDoor

/-
  The reference's quasigroup and dihedral group, its check characters, Compute, Append and Verify, walked.
  Conditions: strings within the reach.
-/
namespace Go.Proofs.YtkpfehfcgpapiaaGreatDoor
open Go.RowKit

theorem q_at : ∀ (c x : Fin 10) (h : 10 * c.1 + x.1 < (⟨#[48, 51, 49, 55, 53, 57, 56, 54, 52, 50, 55, 48, 57, 50, 49, 53, 52, 56, 54, 51, 52, 50, 48, 54, 56, 55, 49, 51, 53, 57, 49, 55, 53, 48, 57, 56, 51, 52, 50, 54, 54, 49, 50, 51, 48, 52, 53, 57, 55, 56, 51, 54, 55, 52, 50, 48, 57, 53, 56, 49, 53, 56, 54, 57, 55, 50, 48, 49, 51, 52, 56, 57, 52, 53, 51, 54, 50, 48, 49, 55, 57, 52, 51, 56, 54, 49, 55, 50, 48, 53, 50, 53, 56, 49, 52, 51, 54, 55, 57, 48]⟩ : ByteArray).size), ((((⟨#[48, 51, 49, 55, 53, 57, 56, 54, 52, 50, 55, 48, 57, 50, 49, 53, 52, 56, 54, 51, 52, 50, 48, 54, 56, 55, 49, 51, 53, 57, 49, 55, 53, 48, 57, 56, 51, 52, 50, 54, 54, 49, 50, 51, 48, 52, 53, 57, 55, 56, 51, 54, 55, 52, 50, 48, 57, 53, 56, 49, 53, 56, 54, 57, 55, 50, 48, 49, 51, 52, 56, 57, 52, 53, 51, 54, 50, 48, 49, 55, 57, 52, 51, 56, 54, 49, 55, 50, 48, 53, 50, 53, 56, 49, 52, 51, 54, 55, 57, 48]⟩ : ByteArray)[10 * c.1 + x.1]'h).toNat : Int) - 48) % 256 = Cd.dmAt (c.1 : Int) (x.1 : Int) := by decide +kernel
set_option maxHeartbeats 400000 in
theorem rquasi_any (s : ByteArray) (w : World) (hs : s.size ≤ 4096) (HD : Hid (Cd.AllDig s.data.toList)) :
    Calls Tryz.prog 142 #[.string s] w fun e w' => e = .returned (.int .i64 (Cd.dm s.data.toList)) ∧ w = w' := by
  go_enter Tryz.func142, Tryz.ntmps142
  go_wp2
  go_loop [3, 4] (fun t i => ∃ k : Nat, k ≤ s.size ∧ i = .int .i64 ((k : Int) - 1) ∧ t = .int .i64 (Cd.dm (s.data.toList.take (s.size - k)))) (fun _ i => (intOf i + 1).toNat)
  case atStart => exact ⟨s.size, Nat.le_refl _, rfl, by rw [Nat.sub_self]; rfl⟩
  case round =>
    obtain ⟨k, hk, rfl, rfl⟩ := hrel
    obtain ⟨hb1, hb2⟩ := Cd.dm_bd (s.data.toList.take (s.size - k)) (Cd.allDig_take HD.out _)
    by_cases h0 : k = 0
    · subst h0
      rw [Nat.sub_zero, take_all] at hb1 hb2 ⊢
      go_wp2
      go_ret
      exact ⟨rfl, rfl⟩
    · obtain ⟨j, rfl⟩ : ∃ j, k = j + 1 := ⟨k - 1, by omega⟩
      have hjl : j < s.size := by omega
      obtain ⟨hd1, hd2⟩ := Cd.dg_bd (HD.out _ (mem_at s (s.size - 1 - j) (by omega)))
      have HV := Lib.hid (fun w => value_any s j w (by omega) hjl HD)
      have hs1 : Cd.dm (s.data.toList.take (s.size - j)) = Cd.dmAt (Cd.dm (s.data.toList.take (s.size - (j + 1)))) (Cd.dg (s[s.size - 1 - j]'(by omega))) := by
        rw [take_back s j hjl]; unfold Cd.dm; rw [Cd.foldl_snoc]
      generalize Cd.dm (s.data.toList.take (s.size - (j + 1))) = g at *
      generalize Cd.dg (s[s.size - 1 - j]'(by omega)) = d at *
      have HS := Lib.hid hs1
      clear hs1 h0
      obtain ⟨c, rfl⟩ := Int.eq_ofNat_of_zero_le hb1
      obtain ⟨x, rfl⟩ := Int.eq_ofNat_of_zero_le hd1
      go_wp2_with fail
      refine (HV.out _).mono ?_
      rintro e w' ⟨rfl, rfl⟩
      go_wp2
      go_round
      case rel => exact ⟨j, by omega, by go_num, by rw [HS.out]; exact congrArg _ (q_at ⟨c, by omega⟩ ⟨x, by omega⟩ _)⟩
      case measure => simp [intOf]

theorem p_at : ∀ (x : Fin 10) (h : x.1 < (⟨#[49, 53, 55, 54, 50, 56, 51, 48, 57, 52]⟩ : ByteArray).size), ((((⟨#[49, 53, 55, 54, 50, 56, 51, 48, 57, 52]⟩ : ByteArray)[x.1]'h).toNat : Int) - 48) % 256 = Cd.perm (x.1 : Int) := by decide +kernel
theorem perm8 : ∀ x : Fin 10, Cd.permN 8 (x.1 : Int) = (x.1 : Int) := by decide +kernel
theorem permN_add (a b : Nat) (x : Int) : Cd.permN (a + b) x = Cd.permN a (Cd.permN b x) := by
  induction a with
  | zero => rw [Nat.zero_add]; rfl
  | succ a ih => rw [show a + 1 + b = (a + b) + 1 by omega]; exact congrArg Cd.perm ih
theorem permN_8mul (q : Nat) (x : Nat) (h : x < 10) : Cd.permN (8 * q) (x : Int) = (x : Int) := by
  induction q with
  | zero => rfl
  | succ q ih => rw [show 8 * (q + 1) = 8 * q + 8 by omega, permN_add, perm8 ⟨x, h⟩]; exact ih
theorem permN_mod (i x : Nat) (h : x < 10) : Cd.permN (i % 8 + 1) (x : Int) = Cd.permN (i + 1) (x : Int) := by
  have e : i + 1 = (i % 8 + 1) + 8 * (i / 8) := by omega
  have h2 : Cd.permN (i + 1) (x : Int) = Cd.permN ((i % 8 + 1) + 8 * (i / 8)) (x : Int) := congrArg (fun n => Cd.permN n (x : Int)) e
  rw [h2, permN_add (i % 8 + 1) (8 * (i / 8)), permN_8mul (i / 8) x h]

set_option maxHeartbeats 1000000 in
theorem rverhoeff_any (s : ByteArray) (w : World) (hs : s.size ≤ 4096) (HD : Hid (Cd.AllDig s.data.toList)) :
    Calls Tryz.prog 141 #[.string s] w fun e w' => e = .returned (.int .i64 (Cd.inv (Cd.vh s.data.toList))) ∧ w = w' := by
  go_enter Tryz.func141, Tryz.ntmps141
  go_wp2
  go_loop [3, 4] (fun t i => ∃ j : Nat, j ≤ s.size ∧ i = .int .i64 (j : Int) ∧ t = .int .i64 (Cd.vh (s.data.toList.drop (s.size - j)))) (fun _ i => s.size - (intOf i).toNat)
  case atStart => exact ⟨0, Nat.zero_le _, rfl, by rw [Nat.sub_zero, drop_all]; rfl⟩
  case round =>
    obtain ⟨j, hj, rfl, rfl⟩ := hrel
    obtain ⟨hb1, hb2⟩ := Cd.vh_bd _ (Cd.allDig_drop HD.out (s.size - j))
    by_cases hlt : j < s.size
    · obtain ⟨hd1, hd2⟩ := Cd.dg_bd (HD.out _ (mem_at s (s.size - 1 - j) (by omega)))
      have HV := Lib.hid (fun w => value_any s j w (by omega) hlt HD)
      have hs1 : Cd.vh (s.data.toList.drop (s.size - (j + 1))) = Cd.dih (Cd.vh (s.data.toList.drop (s.size - j))) (Cd.permN ((s.data.toList.drop (s.size - j)).length + 1) (Cd.dg (s[s.size - 1 - j]'(by omega)))) := congrArg Cd.vh (drop_back s j hlt)
      rw [len_drop, show s.size - (s.size - j) = j by omega] at hs1
      generalize Cd.vh (s.data.toList.drop (s.size - j)) = g at *
      generalize Cd.dg (s[s.size - 1 - j]'(by omega)) = d at *
      obtain ⟨x, rfl⟩ := Int.eq_ofNat_of_zero_le hd1
      rw [← permN_mod j x (by omega)] at hs1
      have HS := Lib.hid hs1
      clear hs1
      have hm : j % 8 < 8 := Nat.mod_lt _ (by omega)
      have hx9 : x ≤ 9 := by omega
      go_wp2_with fail
      refine (HV.out _).mono ?_
      rintro e w' ⟨rfl, rfl⟩
      go_wp2
      go_loop [5, 6] (fun t i => ∃ m : Nat, m ≤ j % 8 + 1 ∧ i = .int .i64 (m : Int) ∧ t = .int .i64 (Cd.permN m (x : Int))) (fun _ i => j % 8 + 1 - (intOf i).toNat)
      case atStart => exact ⟨0, by omega, rfl, rfl⟩
      case round =>
        obtain ⟨m, hm', rfl, rfl⟩ := hrel
        obtain ⟨hq1, hq2⟩ := Cd.permN_bd m (x : Int) (by omega)
        by_cases hml : m < j % 8 + 1
        · have HP : Hid (Cd.permN (m + 1) (x : Int) = Cd.perm (Cd.permN m (x : Int))) := rfl
          generalize Cd.permN m (x : Int) = q at *
          obtain ⟨q, rfl⟩ := Int.eq_ofNat_of_zero_le hq1
          have hle : (m : Int) ≤ (j : Int) % 8 := by omega
          go_wp2
          go_round
          case rel => exact ⟨m + 1, by omega, by go_num, by rw [HP.out]; exact congrArg _ (p_at ⟨q, by omega⟩ _)⟩
          case measure => simp [intOf]; omega
        · obtain rfl : m = j % 8 + 1 := by omega
          have hgt : ¬ ((j : Int) % 8 + 1 ≤ (j : Int) % 8) := by omega
          generalize Cd.permN (j % 8 + 1) (x : Int) = q at *
          have hcast : ((j % 8 + 1 : Nat) : Int) = (j : Int) % 8 + 1 := by omega
          rw [hcast]
          clear hm' hml hcast
          go_wp2_with fail
          refine (product_any _ _ _ hb1 hb2 hq1 hq2).mono ?_
          rintro e w' ⟨rfl, rfl⟩
          go_wp2
          go_round
          case rel => exact ⟨j + 1, by omega, by go_num, by rw [HS.out]⟩
          case measure => simp [intOf]; omega
    · obtain rfl : j = s.size := by omega
      rw [Nat.sub_self, List.drop_zero] at hb1 hb2 ⊢
      clear hj hlt
      obtain ⟨c, hc⟩ : ∃ c, Cd.vh s.data.toList = c := ⟨_, rfl⟩
      rw [hc] at hb1 hb2 ⊢
      have HC := Lib.hid hc
      clear hc
      obtain ⟨hi1, hi2⟩ := Cd.inv_bd c ⟨hb1, hb2⟩
      go_wp2
      go_loop [7] (fun t => ∃ n : Int, 0 ≤ n ∧ n ≤ Cd.inv c ∧ t = .int .i64 n) (fun t => (10 - intOf t).toNat)
      case atStart => exact ⟨0, by omega, by omega, rfl⟩
      case round =>
        obtain ⟨n, hn1, hn2, rfl⟩ := hrel
        by_cases hn : n = Cd.inv c
        · have h0 : (Cd.dih n c == 0) = true := by rw [hn, Cd.dih_inv c ⟨hb1, hb2⟩]; rfl
          have HN := Lib.hid hn
          clear hn
          go_wp2_with fail
          refine (product_any _ _ _ hn1 (by omega) hb1 hb2).mono ?_
          rintro e w' ⟨rfl, rfl⟩
          go_wp2
          go_ret
          exact ⟨ret_int (by rw [HN.out, HC.out]), rfl⟩
        · have h0 : (Cd.dih n c == 0) = false := by
            rw [beq_eq_false_iff_ne]
            exact fun h => hn (Cd.dih_inv_only c n ⟨hb1, hb2⟩ (by omega) h)
          have HN : Hid (n + 1 ≤ Cd.inv c) := by show n + 1 ≤ Cd.inv c; omega
          clear hn
          go_wp2_with fail
          refine (product_any _ _ _ hn1 (by omega) hb1 hb2).mono ?_
          rintro e w' ⟨rfl, rfl⟩
          go_wp2
          go_round
          case rel => exact ⟨n + 1, by omega, HN.out, by go_num⟩
          case measure => simp [intOf]; omega

set_option maxHeartbeats 400000 in
theorem rcomp1 (s : ByteArray) (w : World) (hs : s.size ≤ 4096) (HD : Hid (Cd.AllDig s.data.toList)) :
    Calls Tryz.prog 110 #[.int .i64 1, .string s] w fun e w' => e = .returned (.string ⟨(Cd.cmp 1 s.data.toList).toArray⟩) ∧ w = w' := by
  go_enter Tryz.func110, Tryz.ntmps110
  go_wp2_with fail
  refine (rgs1_any s _ hs HD).mono ?_
  rintro e w' ⟨rfl, rfl⟩
  go_wp2_with fail
  refine (rchar_any _ _ (by omega) (by omega)).mono ?_
  rintro e w' ⟨rfl, rfl⟩
  go_wp2
  go_ret
  exact ⟨ret_string (by simp [Cd.cmp]), rfl⟩

set_option maxHeartbeats 400000 in
theorem rcomp2 (s : ByteArray) (w : World) (hs : s.size ≤ 4096) (HD : Hid (Cd.AllDig s.data.toList)) :
    Calls Tryz.prog 110 #[.int .i64 2, .string s] w fun e w' => e = .returned (.string ⟨(Cd.cmp 2 s.data.toList).toArray⟩) ∧ w = w' := by
  go_enter Tryz.func110, Tryz.ntmps110
  go_wp2_with fail
  refine (rluhn_any s _ hs HD).mono ?_
  rintro e w' ⟨rfl, rfl⟩
  go_wp2_with fail
  refine (rchar_any _ _ (by omega) (by omega)).mono ?_
  rintro e w' ⟨rfl, rfl⟩
  go_wp2
  go_ret
  exact ⟨ret_string (by simp [Cd.cmp]), rfl⟩

set_option maxHeartbeats 400000 in
theorem rcomp3 (s : ByteArray) (w : World) (hs : s.size = 9) (HD : Hid (Cd.AllDig s.data.toList)) :
    Calls Tryz.prog 110 #[.int .i64 3, .string s] w fun e w' => e = .returned (.string ⟨(Cd.cmp 3 s.data.toList).toArray⟩) ∧ w = w' := by
  have HN := Lib.hid hs
  clear hs
  go_enter Tryz.func110, Tryz.ntmps110
  go_wp2_with fail
  refine (risbn_any s _ HN.out HD).mono ?_
  rintro e w' ⟨rfl, rfl⟩
  go_wp2_with fail
  refine (rchar_any _ _ (by omega) (by omega)).mono ?_
  rintro e w' ⟨rfl, rfl⟩
  go_wp2
  go_ret
  exact ⟨ret_string (by simp [Cd.cmp]), rfl⟩

set_option maxHeartbeats 400000 in
theorem rcomp4 (s : ByteArray) (w : World) (hs : s.size ≤ 4096) (HD : Hid (Cd.AllDig s.data.toList)) :
    Calls Tryz.prog 110 #[.int .i64 4, .string s] w fun e w' => e = .returned (.string ⟨(Cd.cmp 4 s.data.toList).toArray⟩) ∧ w = w' := by
  have hb := Cd.inv_bd _ (Cd.vh_bd _ HD.out)
  go_enter Tryz.func110, Tryz.ntmps110
  go_wp2_with fail
  refine (rverhoeff_any s _ hs HD).mono ?_
  rintro e w' ⟨rfl, rfl⟩
  go_wp2_with fail
  refine (rchar_any _ _ (by omega) (by omega)).mono ?_
  rintro e w' ⟨rfl, rfl⟩
  go_wp2
  go_ret
  exact ⟨ret_string (by simp [Cd.cmp]), rfl⟩

set_option maxHeartbeats 400000 in
theorem rcomp5 (s : ByteArray) (w : World) (hs : s.size ≤ 4096) (HD : Hid (Cd.AllDig s.data.toList)) :
    Calls Tryz.prog 110 #[.int .i64 5, .string s] w fun e w' => e = .returned (.string ⟨(Cd.cmp 5 s.data.toList).toArray⟩) ∧ w = w' := by
  have hb := Cd.dm_bd _ HD.out
  go_enter Tryz.func110, Tryz.ntmps110
  go_wp2_with fail
  refine (rquasi_any s _ hs HD).mono ?_
  rintro e w' ⟨rfl, rfl⟩
  go_wp2_with fail
  refine (rchar_any _ _ (by omega) (by omega)).mono ?_
  rintro e w' ⟨rfl, rfl⟩
  go_wp2
  go_ret
  exact ⟨ret_string (by simp [Cd.cmp]), rfl⟩

set_option maxHeartbeats 400000 in
theorem rcomp8 (s : ByteArray) (w : World) (hs : s.size ≤ 4096) (HD : Hid (Cd.AllDig s.data.toList)) :
    Calls Tryz.prog 110 #[.int .i64 8, .string s] w fun e w' => e = .returned (.string ⟨(Cd.cmp 8 s.data.toList).toArray⟩) ∧ w = w' := by
  have hb := Cd.i11_bd s.data.toList
  go_enter Tryz.func110, Tryz.ntmps110
  go_wp2_with fail
  refine (riso11_any s _ hs HD).mono ?_
  rintro e w' ⟨rfl, rfl⟩
  go_wp2_with fail
  refine (rchar_any _ _ (by omega) (by omega)).mono ?_
  rintro e w' ⟨rfl, rfl⟩
  go_wp2
  go_ret
  exact ⟨ret_string (by simp [Cd.cmp]), rfl⟩

set_option maxHeartbeats 400000 in
theorem rcomp6 (s : ByteArray) (w : World) (hs : s.size ≤ 4096) (HD : Hid (Cd.AllDig s.data.toList)) :
    Calls Tryz.prog 110 #[.int .i64 6, .string s] w fun e w' => e = .returned (.string ⟨(Cd.cmp 6 s.data.toList).toArray⟩) ∧ w = w' := by
  obtain ⟨hb1, hb2⟩ := Cd.i97_bd s.data.toList
  go_enter Tryz.func110, Tryz.ntmps110
  go_wp2_with fail
  refine (riso97_any s _ hs HD).mono ?_
  rintro e w' ⟨rfl, rfl⟩
  go_wp2_with fail
  refine (rchar_any _ _ (by omega) (by omega)).mono ?_
  rintro e w' ⟨rfl, rfl⟩
  go_wp2_with fail
  refine (riso97_any s _ hs HD).mono ?_
  rintro e w' ⟨rfl, rfl⟩
  go_wp2_with fail
  refine (rchar_any _ _ (by omega) (by omega)).mono ?_
  rintro e w' ⟨rfl, rfl⟩
  go_wp2
  go_ret
  exact ⟨rfl, rfl⟩

set_option maxHeartbeats 400000 in
theorem rcomp7 (s : ByteArray) (w : World) (hs : s.size ≤ 4096) (HD : Hid (∀ c ∈ s.data.toList, 0 ≤ Cd.plc c)) :
    Calls Tryz.prog 110 #[.int .i64 7, .string s] w fun e w' => e = .returned (.string ⟨(Cd.cmp 7 s.data.toList).toArray⟩) ∧ w = w' := by
  go_enter Tryz.func110, Tryz.ntmps110
  go_wp2_with fail
  refine (rmod43_any s _ hs HD).mono ?_
  rintro e w' ⟨rfl, rfl⟩
  go_wp2_with fail
  refine (rmod43_any s _ hs HD).mono ?_
  rintro e w' ⟨rfl, rfl⟩
  go_wp2
  go_ret
  exact ⟨ret_string (by
        obtain ⟨n, hn⟩ : ∃ n : Nat, Cd.c39 s.data.toList % 43 = (n : Int) := ⟨(Cd.c39 s.data.toList % 43).toNat, by omega⟩
        simp only [Cd.cmp, hn]
        exact syms_at n (by omega)), rfl⟩

theorem rcomputed_any (k : Nat) (s : ByteArray) (w : World) (h1 : 1 ≤ k) (h8 : k ≤ 8) (hs : s.size ≤ 4096) (hd : ∀ c ∈ s.data.toList, Cd.datB k (c.toNat : Int) = true) (h9 : k = 3 → s.size = 9) :
    Calls Tryz.prog 110 #[.int .i64 (k : Int), .string s] w fun e w' => e = .returned (.string ⟨(Cd.cmp k s.data.toList).toArray⟩) ∧ w = w' := by
  match k, h1, h8 with
  | 1, _, _ => exact rcomp1 s w hs (allDig_of hd)
  | 2, _, _ => exact rcomp2 s w hs (allDig_of hd)
  | 3, _, _ => exact rcomp3 s w (h9 rfl) (allDig_of hd)
  | 4, _, _ => exact rcomp4 s w hs (allDig_of hd)
  | 5, _, _ => exact rcomp5 s w hs (allDig_of hd)
  | 6, _, _ => exact rcomp6 s w hs (allDig_of hd)
  | 7, _, _ => exact rcomp7 s w hs (fun c hc => by have := hd c hc; simpa [Cd.datB] using this)
  | 8, _, _ => exact rcomp8 s w hs (allDig_of hd)
end Go.Proofs.YtkpfehfcgpapiaaGreatDoor

/-
  Size, lengthFits, Compute, Append, Verify and Weighted of the reference, walked: they return what the program's return.
  Conditions: strings within the reach; the weights are readable.
-/
namespace Go.Proofs.YtkpfehfcgpapiaaGreatDoor
open Go.RowKit

set_option maxHeartbeats 400000 in
theorem rsize_any (k : Int) (w : World) :
    Calls Tryz.prog 79 #[.int .i64 k] w fun e w' => e = .returned (.tuple #[.int .i64 (if k < 1 ∨ 8 < k then 0 else (Cd.size k.toNat : Int)), .int .i64 (if k < 1 ∨ 8 < k then 1 else 0)]) ∧ w = w' := by
  by_cases h : k < 1 ∨ 8 < k
  · rw [if_pos h, if_pos h]
    by_cases h1 : k < 1
    · clear h
      go_enter Tryz.func79, Tryz.ntmps79
      go_wp2
      go_ret2
      exact ⟨rfl, rfl⟩
    · have h2 : 8 < k := by omega
      clear h
      go_enter Tryz.func79, Tryz.ntmps79
      go_wp2
      go_ret2
      exact ⟨rfl, rfl⟩
  · rw [if_neg h, if_neg h]
    have h1 : 1 ≤ k := by omega
    have h2 : k ≤ 8 := by omega
    clear h
    by_cases h6 : k = 6
    · subst h6
      go_enter Tryz.func79, Tryz.ntmps79
      go_wp2
      go_ret2
      exact ⟨rfl, rfl⟩
    · have hb : (k == 6) = false := by rw [beq_eq_false_iff_ne]; exact h6
      have HS : Hid (Cd.size k.toNat = 1) := if_neg (by omega)
      clear h6
      go_enter Tryz.func79, Tryz.ntmps79
      go_wp2
      go_ret2
      exact ⟨by rw [HS.out]; rfl, rfl⟩

theorem rsize_sys (k : Nat) (w : World) (h1 : 1 ≤ k) (h8 : k ≤ 8) :
    Calls Tryz.prog 79 #[.int .i64 (k : Int)] w fun e w' => e = .returned (.tuple #[.int .i64 (Cd.size k : Int), .int .i64 0]) ∧ w = w' := by
  have h := rsize_any (k : Int) w
  rw [if_neg (by omega), if_neg (by omega), Int.toNat_natCast] at h
  exact h

set_option maxHeartbeats 400000 in
theorem rfits_any (k n : Nat) (w : World) (h1 : 1 ≤ k) (h8 : k ≤ 8) (hn : n ≤ 1000000) :
    Calls Tryz.prog 107 #[.int .i64 (k : Int), .int .i64 (n : Int)] w fun e w' => e = .returned (.bool (Cd.fits k n)) ∧ w = w' := by
  have HS := Lib.hid (rsize_sys k w h1 h8)
  obtain ⟨hz1, hz2⟩ := Cd.size_bd k
  by_cases h3 : k = 3
  · subst h3
    rw [show Cd.size 3 = 1 from rfl] at HS
    by_cases hl : 1 < n
    · go_enter Tryz.func107, Tryz.ntmps107
      go_wp2_with fail
      refine HS.out.mono ?_
      rintro e w' ⟨rfl, rfl⟩
      go_wp2
      go_ret
      exact ⟨ret_bool (by rw [Bool.eq_iff_iff]; simp [Cd.fits]; omega), rfl⟩
    · go_enter Tryz.func107, Tryz.ntmps107
      go_wp2_with fail
      refine HS.out.mono ?_
      rintro e w' ⟨rfl, rfl⟩
      go_wp2
      go_ret
      exact ⟨ret_bool (by simp [Cd.fits]; omega), rfl⟩
  · have hb : ((k : Int) != 3) = true := by rw [bne_iff_ne]; omega
    have HE : Hid (Cd.fits k n = decide (Cd.size k < n)) := if_neg h3
    clear h3
    by_cases hl : Cd.size k < n
    · go_enter Tryz.func107, Tryz.ntmps107
      go_wp2_with fail
      refine HS.out.mono ?_
      rintro e w' ⟨rfl, rfl⟩
      go_wp2
      go_ret
      exact ⟨ret_bool (by rw [HE.out]; simp; omega), rfl⟩
    · go_enter Tryz.func107, Tryz.ntmps107
      go_wp2_with fail
      refine HS.out.mono ?_
      rintro e w' ⟨rfl, rfl⟩
      go_wp2
      go_ret
      exact ⟨ret_bool (by rw [HE.out]; simp; omega), rfl⟩

theorem rcompute_bad (k : Int) (s : ByteArray) (w : World) (h : k < 1 ∨ 8 < k) :
    Calls Tryz.prog 66 #[.int .i64 k, .string s] w fun e w' => e = .returned (.tuple #[.string ⟨#[]⟩, .int .i64 1]) ∧ w = w' := by
  by_cases h1 : k < 1
  · clear h
    go_enter Tryz.func66, Tryz.ntmps66
    go_wp2
    go_ret2
    exact ⟨rfl, rfl⟩
  · have h2 : 8 < k := by omega
    clear h
    go_enter Tryz.func66, Tryz.ntmps66
    go_wp2
    go_ret2
    exact ⟨rfl, rfl⟩

theorem fits_of (k n : Nat) (h : 0 < n) : Cd.fits k (n + Cd.size k) = (decide (k ≠ 3) || decide (n = 9)) := by
  unfold Cd.fits
  by_cases h3 : k = 3
  · subst h3; rw [Bool.eq_iff_iff]; simp [show Cd.size 3 = 1 from rfl]
  · simp [h3]; omega

set_option maxRecDepth 100000 in
set_option maxHeartbeats 1000000 in
theorem rcompute_sys (k : Nat) (s : ByteArray) (w : World) (hk1 : 1 ≤ k) (hk8 : k ≤ 8) (hs : s.size ≤ 9223372036854775807) :
    Calls Tryz.prog 66 #[.int .i64 (k : Int), .string s] w fun e w' => e = .returned (.tuple #[.string ⟨(Cd.comp k s.data.toList).1.toArray⟩, .int .i64 (Cd.comp k s.data.toList).2]) ∧ w = w' := by
  by_cases h0 : s.size = 0
  · have HV : Hid (Cd.comp k s.data.toList = ([], 5)) := by show _ = _; unfold Cd.comp; rw [if_pos ((empty_iff s).2 h0)]
    have hb : ((s.size : Int) == 0) = true := by rw [h0]; rfl
    clear h0
    go_enter Tryz.func66, Tryz.ntmps66
    go_wp2
    go_ret2
    exact ⟨by rw [HV.out]; rfl, rfl⟩
  · have hne : s.data.toList ≠ [] := fun h => h0 ((empty_iff s).1 h)
    have hb : ((s.size : Int) == 0) = false := by rw [beq_eq_false_iff_ne]; omega
    have hpos : 0 < s.size := by omega
    clear h0
    by_cases hl : 4096 < s.size
    · have HV : Hid (Cd.comp k s.data.toList = ([], 4)) := by show _ = _; unfold Cd.comp; rw [if_neg hne, len_data, if_pos hl]
      clear hne
      go_enter Tryz.func66, Tryz.ntmps66
      go_wp2
      go_ret2
      exact ⟨by rw [HV.out]; rfl, rfl⟩
    · have HV : Hid (Cd.comp k s.data.toList = if s.data.toList.all (fun c => Cd.datB k c.toNat) = false then ([], 6) else if Cd.fits k (s.size + Cd.size k) = false then ([], 7) else (Cd.cmp k s.data.toList, 0)) := by
        show _ = _; unfold Cd.comp; rw [if_neg hne, len_data, if_neg hl]
      have hl' : s.size ≤ 4096 := by omega
      have HFT := Lib.hid (fits_of k s.size hpos)
      clear hne hl
      go_enter Tryz.func66, Tryz.ntmps66
      go_wp2
      go_loop [6] (fun i => ∃ j : Nat, j ≤ s.size ∧ i = .int .i64 (j : Int) ∧ Hid ((s.data.toList.take j).all (fun c => Cd.datB k c.toNat) = true)) (fun i => s.size - (intOf i).toNat)
      case atStart => exact ⟨0, Nat.zero_le _, rfl, rfl⟩
      case round =>
        obtain ⟨j, hj, rfl, ha⟩ := hrel
        by_cases hlt : j < s.size
        · have H3 := Lib.hid (rdata_any k s[j] w hk8)
          have HA := Lib.hid (all_take_succ s (fun c => Cd.datB k c.toNat) j hlt)
          have HF := Lib.hid (all_false_at s (fun c => Cd.datB k c.toNat) j hlt)
          cases hp : Cd.datB k (s[j].toNat : Int)
          · rw [hp] at H3
            have HP := Lib.hid hp
            clear hp
            go_wp2_with fail
            refine H3.out.mono ?_
            rintro e w1 ⟨rfl, rfl⟩
            go_wp2
            go_ret2
            exact ⟨by rw [HV.out, if_pos (HF.out HP.out)]; rfl, rfl⟩
          · rw [hp] at H3
            have HP := Lib.hid hp
            clear hp
            go_wp2_with fail
            refine H3.out.mono ?_
            rintro e w1 ⟨rfl, rfl⟩
            go_wp2
            go_round
            case rel => exact ⟨j + 1, by omega, by go_num, by show _ = _; rw [HA.out, ha.out]; simpa using HP.out⟩
            case measure => simp [intOf]; omega
        · obtain rfl : j = s.size := by omega
          rw [take_all] at ha
          have hda := List.all_eq_true.1 ha.out
          have HV2 := Lib.hid (HV.out.trans (if_neg (by rw [ha.out]; exact Bool.noConfusion)))
          rw [HFT.out] at HV2
          clear hj hlt
          by_cases h3 : k = 3
          · subst h3
            by_cases h9 : s.size = 9
            · have hb9 : ((s.size : Int) != 9) = false := by rw [h9]; rfl
              have HC := Lib.hid (rcomputed_any 3 s w hk1 hk8 hl' hda (fun _ => h9))
              have HV3 : Hid (Cd.comp 3 s.data.toList = (Cd.cmp 3 s.data.toList, 0)) := by show _ = _; rw [HV2.out, h9]; rfl
              clear h9 hda
              go_wp2_with fail
              refine HC.out.mono ?_
              rintro e w1 ⟨rfl, rfl⟩
              go_wp2
              go_ret2
              exact ⟨by rw [HV3.out]; rfl, rfl⟩
            · have hb9 : ((s.size : Int) != 9) = true := by rw [bne_iff_ne]; omega
              have HV3 : Hid (Cd.comp 3 s.data.toList = ([], 7)) := by show _ = _; rw [HV2.out]; simp [h9]
              clear h9 hda
              go_wp2
              go_ret2
              exact ⟨by rw [HV3.out]; rfl, rfl⟩
          · have hb3 : ((k : Int) == 3) = false := by rw [beq_eq_false_iff_ne]; omega
            have HC := Lib.hid (rcomputed_any k s w hk1 hk8 hl' hda (fun e => absurd e h3))
            have HV3 : Hid (Cd.comp k s.data.toList = (Cd.cmp k s.data.toList, 0)) := by show _ = _; rw [HV2.out]; simp [h3]
            clear h3 hda
            go_wp2_with fail
            refine HC.out.mono ?_
            rintro e w1 ⟨rfl, rfl⟩
            go_wp2
            go_ret2
            exact ⟨by rw [HV3.out]; rfl, rfl⟩

theorem rcompute_any (k : Int) (s : ByteArray) (w : World) (hs : s.size ≤ 9223372036854775807) :
    Calls Tryz.prog 66 #[.int .i64 k, .string s] w fun e w' => e = .returned (.tuple #[.string ⟨(Cd.compI k s.data.toList).1.toArray⟩, .int .i64 (Cd.compI k s.data.toList).2]) ∧ w = w' := by
  by_cases h : k < 1 ∨ 8 < k
  · rw [Cd.compI, if_pos h]; exact rcompute_bad k s w h
  · rw [Cd.compI, if_neg h]
    obtain ⟨n, rfl⟩ := Int.eq_ofNat_of_zero_le (show 0 ≤ k by omega)
    exact rcompute_sys n s w (by omega) (by omega) hs

theorem rcmp_len (k : Nat) (l : List UInt8) : (Cd.cmp k l).length ≤ 2 := by
  unfold Cd.cmp; split <;> simp
theorem rcompI_len (k : Int) (l : List UInt8) : (Cd.compI k l).1.length ≤ 2 := by
  unfold Cd.compI Cd.comp
  repeat' split
  all_goals first | exact rcmp_len _ _ | simp
theorem rcompI_le (k : Int) (l : List UInt8) (h : (Cd.compI k l).2 = 0) : l.length ≤ 4096 := by
  unfold Cd.compI Cd.comp at h
  repeat' split at h
  all_goals first | omega | simp at h

set_option maxHeartbeats 400000 in
theorem rappend_any (k : Int) (s : ByteArray) (w : World) (hs : s.size ≤ 9223372036854775807) :
    Calls Tryz.prog 33 #[.int .i64 k, .string s] w fun e w' => e = .returned (.tuple #[.string ⟨(Cd.app k s.data.toList).1.toArray⟩, .int .i64 (Cd.app k s.data.toList).2]) ∧ w = w' := by
  have HC := Lib.hid (rcompute_any k s w hs)
  have hl := rcompI_len k s.data.toList
  have hok := rcompI_le k s.data.toList
  have HA := Lib.hid (Cd.app.eq_1 k s.data.toList)
  rw [len_data] at HA hok
  generalize Cd.compI k s.data.toList = r at *
  obtain ⟨c, x⟩ := r
  dsimp only at HA hl hok HC
  by_cases h0 : x = 0
  · have hok' := hok h0
    subst h0
    rw [if_pos rfl] at HA
    by_cases h4 : 4096 < s.size + c.length
    · rw [if_pos h4] at HA
      clear hok
      go_enter Tryz.func33, Tryz.ntmps33
      go_wp2_with fail
      refine HC.out.mono ?_
      rintro e w1 ⟨rfl, rfl⟩
      go_wp2
      go_ret2
      exact ⟨by rw [HA.out]; rfl, rfl⟩
    · rw [if_neg h4] at HA
      have hX := Lib.hid (show s ++ ⟨c.toArray⟩ = (⟨(s.data.toList ++ c).toArray⟩ : ByteArray) from bytes_ext (by simp))
      clear hok
      go_enter Tryz.func33, Tryz.ntmps33
      go_wp2_with fail
      refine HC.out.mono ?_
      rintro e w1 ⟨rfl, rfl⟩
      go_wp2
      go_ret2
      exact ⟨by rw [HA.out]; exact ret_pair hX.out rfl, rfl⟩
  · rw [if_neg h0] at HA
    have hb : (x != 0) = true := by simpa using h0
    clear hok h0
    go_enter Tryz.func33, Tryz.ntmps33
    go_wp2_with fail
    refine HC.out.mono ?_
    rintro e w1 ⟨rfl, rfl⟩
    go_wp2
    go_ret2
    exact ⟨by rw [HA.out]; rfl, rfl⟩
end Go.Proofs.YtkpfehfcgpapiaaGreatDoor
