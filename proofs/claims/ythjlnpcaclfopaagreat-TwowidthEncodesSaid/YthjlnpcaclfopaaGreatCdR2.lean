/-
  The reference's sums, walked.
  Conditions: the data are characters of the system, at most 4096.
-/
import Derived.Test.YthjlnpcaclfopaaGreatCdR1
namespace Go.Proofs.YthjlnpcaclfopaaGreat
open Go.RowKit

theorem take_back (s : ByteArray) (j : Nat) (h : j < s.size) : s.data.toList.take (s.size - j) = s.data.toList.take (s.size - (j + 1)) ++ [s[s.size - 1 - j]'(by omega)] := by
  have e : s.size - j = s.size - 1 - j + 1 := by omega
  rw [e, take_snoc s (s.size - 1 - j) (by omega), show s.size - (j + 1) = s.size - 1 - j by omega]

set_option maxHeartbeats 400000 in
theorem rgs1_any (s : ByteArray) (w : World) (hs : s.size ≤ 4096) (HD : Hid (Cd.AllDig s.data.toList)) :
    Calls Tryz.prog 83 #[.string s] w fun e w' => e = .returned (.int .i64 ((10 - (Cd.gsP s.data.toList).1 % 10) % 10)) ∧ w = w' := by
  go_enter Tryz.func83, Tryz.ntmps83
  go_wp2
  go_loop [3, 4] (fun t i => ∃ j : Nat, j ≤ s.size ∧ i = .int .i64 (j : Int) ∧ t = .int .i64 (Cd.gsP (s.data.toList.drop (s.size - j))).1) (fun _ i => s.size - (intOf i).toNat)
  case atStart => exact ⟨0, Nat.zero_le _, rfl, by rw [Nat.sub_zero, drop_all]; rfl⟩
  case round =>
    obtain ⟨j, hj, rfl, rfl⟩ := hrel
    have hb := Cd.gsP_bd _ (Cd.allDig_drop HD.out (s.size - j))
    rw [len_drop] at hb
    obtain ⟨hb1, hb2⟩ := hb
    by_cases hlt : j < s.size
    · have hbd := Cd.dg_bd (HD.out _ (mem_at s (s.size - 1 - j) (by omega)))
      have HV := Lib.hid (fun w => value_any s j w (by omega) hlt HD)
      have hw := Cd.gsP_w (s.data.toList.drop (s.size - j))
      rw [len_drop, show s.size - (s.size - j) = j by omega] at hw
      have hs1 : Cd.gsP (s.data.toList.drop (s.size - (j + 1))) = ((Cd.gsP (s.data.toList.drop (s.size - j))).1 + (Cd.gsP (s.data.toList.drop (s.size - j))).2 * Cd.dg (s[s.size - 1 - j]'(by omega)), 4 - (Cd.gsP (s.data.toList.drop (s.size - j))).2) := congrArg Cd.gsP (drop_back s j hlt)
      generalize Cd.gsP (s.data.toList.drop (s.size - j)) = g at *
      generalize Cd.dg (s[s.size - 1 - j]'(by omega)) = d at *
      have HS := Lib.hid hs1
      clear hs1
      obtain ⟨a, b⟩ := g
      dsimp only at hw hb1 hb2 HS ⊢
      obtain ⟨hd1, hd2⟩ := hbd
      have HW := Lib.hid hw
      clear hw
      by_cases hp : j % 2 = 0
      · have hp' : (j : Int) % 2 = 0 := by omega
        go_wp2_with fail
        refine (HV.out _).mono ?_
        rintro e w' ⟨rfl, rfl⟩
        go_wp2
        go_round
        case rel => exact ⟨j + 1, by omega, by go_num, by rw [HS.out, HW.out, if_pos (by omega)]; show Value.int _ _ = Value.int _ _; congr 1; omega⟩
        case measure => simp [intOf]; omega
      · have hp' : (j : Int) % 2 = 1 := by omega
        clear hp
        go_wp2_with fail
        refine (HV.out _).mono ?_
        rintro e w' ⟨rfl, rfl⟩
        go_wp2
        go_round
        case rel => exact ⟨j + 1, by omega, by go_num, by rw [HS.out, HW.out, if_neg (by omega)]; show Value.int _ _ = Value.int _ _; congr 1; omega⟩
        case measure => simp [intOf]; omega
    · obtain rfl : j = s.size := by omega
      rw [Nat.sub_self, List.drop_zero] at hb1 hb2 ⊢
      clear hj hlt
      go_wp2
      go_ret
      exact ⟨rfl, rfl⟩

set_option maxHeartbeats 400000 in
theorem rluhn_any (s : ByteArray) (w : World) (hs : s.size ≤ 4096) (HD : Hid (Cd.AllDig s.data.toList)) :
    Calls Tryz.prog 84 #[.string s] w fun e w' => e = .returned (.int .i64 ((10 - (Cd.lnP s.data.toList).1 % 10) % 10)) ∧ w = w' := by
  go_enter Tryz.func84, Tryz.ntmps84
  go_wp2
  go_loop [3, 4] (fun t i => ∃ j : Nat, j ≤ s.size ∧ i = .int .i64 (j : Int) ∧ t = .int .i64 (Cd.lnP (s.data.toList.drop (s.size - j))).1) (fun _ i => s.size - (intOf i).toNat)
  case atStart => exact ⟨0, Nat.zero_le _, rfl, by rw [Nat.sub_zero, drop_all]; rfl⟩
  case round =>
    obtain ⟨j, hj, rfl, rfl⟩ := hrel
    have hb := Cd.lnP_bd _ (Cd.allDig_drop HD.out (s.size - j))
    rw [len_drop] at hb
    obtain ⟨hb1, hb2⟩ := hb
    by_cases hlt : j < s.size
    · have hbd := Cd.dg_bd (HD.out _ (mem_at s (s.size - 1 - j) (by omega)))
      have HV := Lib.hid (fun w => value_any s j w (by omega) hlt HD)
      have hw := Cd.lnP_w (s.data.toList.drop (s.size - j))
      rw [len_drop, show s.size - (s.size - j) = j by omega] at hw
      have hs1 : Cd.lnP (s.data.toList.drop (s.size - (j + 1))) = ((Cd.lnP (s.data.toList.drop (s.size - j))).1 + (if (Cd.lnP (s.data.toList.drop (s.size - j))).2 then Cd.dbl (Cd.dg (s[s.size - 1 - j]'(by omega))) else Cd.dg (s[s.size - 1 - j]'(by omega))), !(Cd.lnP (s.data.toList.drop (s.size - j))).2) := congrArg Cd.lnP (drop_back s j hlt)
      generalize Cd.lnP (s.data.toList.drop (s.size - j)) = g at *
      generalize Cd.dg (s[s.size - 1 - j]'(by omega)) = d at *
      have HS := Lib.hid hs1
      clear hs1
      obtain ⟨a, b⟩ := g
      dsimp only at hw hb1 hb2 HS ⊢
      obtain ⟨hd1, hd2⟩ := hbd
      have HW := Lib.hid hw
      clear hw
      by_cases hp : j % 2 = 0
      · have hp' : ((j : Int) % 2 == 0) = true := by simp; omega
        by_cases h9 : 9 < 2 * d
        · go_wp2_with fail
          refine (HV.out _).mono ?_
          rintro e w' ⟨rfl, rfl⟩
          go_wp2
          go_round
          case rel => exact ⟨j + 1, by omega, by go_num, by rw [HS.out, HW.out]; show Value.int _ _ = Value.int _ _; congr 1; rw [if_pos (by simpa using hp), Cd.dbl_hi d (by omega)]; omega⟩
          case measure => simp [intOf]; omega
        · go_wp2_with fail
          refine (HV.out _).mono ?_
          rintro e w' ⟨rfl, rfl⟩
          go_wp2
          go_round
          case rel => exact ⟨j + 1, by omega, by go_num, by rw [HS.out, HW.out]; show Value.int _ _ = Value.int _ _; congr 1; rw [if_pos (by simpa using hp), Cd.dbl_lo d (by omega)]; omega⟩
          case measure => simp [intOf]; omega
      · have hp' : ((j : Int) % 2 == 0) = false := by simp; omega
        have HP := Lib.hid hp
        clear hp
        go_wp2_with fail
        refine (HV.out _).mono ?_
        rintro e w' ⟨rfl, rfl⟩
        go_wp2
        go_round
        case rel => exact ⟨j + 1, by omega, by go_num, by rw [HS.out, HW.out]; show Value.int _ _ = Value.int _ _; congr 1; rw [if_neg (by simpa using HP.out)]⟩
        case measure => simp [intOf]; omega
    · obtain rfl : j = s.size := by omega
      rw [Nat.sub_self, List.drop_zero] at hb1 hb2 ⊢
      clear hj hlt
      go_wp2
      go_ret
      exact ⟨rfl, rfl⟩

set_option maxHeartbeats 400000 in
theorem risbn_any (s : ByteArray) (w : World) (hs : s.size = 9) (HD : Hid (Cd.AllDig s.data.toList)) :
    Calls Tryz.prog 85 #[.string s] w fun e w' => e = .returned (.int .i64 ((11 - Cd.isb s.data.toList % 11) % 11)) ∧ w = w' := by
  have hs' : s.size ≤ 9 := by omega
  have HN := Lib.hid hs
  clear hs
  go_enter Tryz.func85, Tryz.ntmps85
  go_wp2
  go_loop [3, 4] (fun t i => ∃ j : Nat, j ≤ s.size ∧ i = .int .i64 (j : Int) ∧ t = .int .i64 (Cd.isb (s.data.toList.drop (s.size - j)))) (fun _ i => s.size - (intOf i).toNat)
  case atStart => exact ⟨0, Nat.zero_le _, rfl, by rw [Nat.sub_zero, drop_all]; rfl⟩
  case round =>
    obtain ⟨j, hj, rfl, rfl⟩ := hrel
    have hb := Cd.isb_bd _ (Cd.allDig_drop HD.out (s.size - j)) (by rw [len_drop]; omega)
    rw [len_drop] at hb
    obtain ⟨hb1, hb2⟩ := hb
    by_cases hlt : j < s.size
    · have hbd := Cd.dg_bd (HD.out _ (mem_at s (s.size - 1 - j) (by omega)))
      have HV := Lib.hid (fun w => value_any s j w (by omega) hlt HD)
      have hs1 : Cd.isb (s.data.toList.drop (s.size - (j + 1))) = Cd.isb (s.data.toList.drop (s.size - j)) + (((s.data.toList.drop (s.size - j)).length : Int) + 2) * Cd.dg (s[s.size - 1 - j]'(by omega)) := congrArg Cd.isb (drop_back s j hlt)
      rw [len_drop, show s.size - (s.size - j) = j by omega] at hs1
      generalize Cd.isb (s.data.toList.drop (s.size - j)) = g at *
      generalize Cd.dg (s[s.size - 1 - j]'(by omega)) = d at *
      have HS := Lib.hid hs1
      clear hs1
      obtain ⟨hd1, hd2⟩ := hbd
      have hm1 : 0 ≤ d * ((j : Int) + 2) := Int.mul_nonneg hd1 (by omega)
      have hm2 : d * ((j : Int) + 2) ≤ 9 * 11 := Int.mul_le_mul hd2 (by omega) (by omega) (by omega)
      go_wp2_with fail
      refine (HV.out _).mono ?_
      rintro e w' ⟨rfl, rfl⟩
      go_wp2
      go_round
      case rel => exact ⟨j + 1, by omega, by go_num, by rw [HS.out, Int.mul_comm d]⟩
      case measure => simp [intOf]; omega
    · obtain rfl : j = s.size := by omega
      rw [Nat.sub_self, List.drop_zero] at hb1 hb2 ⊢
      clear hj hlt
      go_wp2
      go_ret
      exact ⟨rfl, rfl⟩

set_option maxHeartbeats 400000 in
theorem riso97_any (s : ByteArray) (w : World) (hs : s.size ≤ 4096) (HD : Hid (Cd.AllDig s.data.toList)) :
    Calls Tryz.prog 88 #[.string s] w fun e w' => e = .returned (.int .i64 (98 - 100 * Cd.i97 s.data.toList % 97)) ∧ w = w' := by
  go_enter Tryz.func88, Tryz.ntmps88
  go_wp2
  go_loop [3, 4] (fun t i => ∃ k : Nat, k ≤ s.size ∧ i = .int .i64 ((k : Int) - 1) ∧ t = .int .i64 (Cd.i97 (s.data.toList.take (s.size - k)))) (fun _ i => (intOf i + 1).toNat)
  case atStart => exact ⟨s.size, Nat.le_refl _, rfl, by rw [Nat.sub_self]; rfl⟩
  case round =>
    obtain ⟨k, hk, rfl, rfl⟩ := hrel
    obtain ⟨hb1, hb2⟩ := Cd.i97_bd (s.data.toList.take (s.size - k))
    by_cases h0 : k = 0
    · subst h0
      rw [Nat.sub_zero, take_all] at hb1 hb2 ⊢
      go_wp2
      go_ret
      exact ⟨rfl, rfl⟩
    · obtain ⟨j, rfl⟩ : ∃ j, k = j + 1 := ⟨k - 1, by omega⟩
      have hjl : j < s.size := by omega
      obtain ⟨hd1, hd2⟩ := Cd.dg_bd (HD.out _ (mem_at s (s.size - 1 - j) (by omega)))
      have HV := Lib.hid (fun w => value_any s j w (by omega) hjl HD)
      have hs1 : Cd.i97 (s.data.toList.take (s.size - j)) = (10 * Cd.i97 (s.data.toList.take (s.size - (j + 1))) + Cd.dg (s[s.size - 1 - j]'(by omega))) % 97 := by
        rw [take_back s j hjl]; unfold Cd.i97; rw [Cd.foldl_snoc]
      generalize Cd.i97 (s.data.toList.take (s.size - (j + 1))) = g at *
      generalize Cd.dg (s[s.size - 1 - j]'(by omega)) = d at *
      have HS := Lib.hid hs1
      clear hs1 h0
      go_wp2_with fail
      refine (HV.out _).mono ?_
      rintro e w' ⟨rfl, rfl⟩
      go_wp2
      go_round
      case rel => exact ⟨j, by omega, by go_num, by rw [HS.out]⟩
      case measure => simp [intOf]

set_option maxHeartbeats 400000 in
theorem riso11_any (s : ByteArray) (w : World) (hs : s.size ≤ 4096) (HD : Hid (Cd.AllDig s.data.toList)) :
    Calls Tryz.prog 89 #[.string s] w fun e w' => e = .returned (.int .i64 ((12 - Cd.i11 s.data.toList) % 11)) ∧ w = w' := by
  go_enter Tryz.func89, Tryz.ntmps89
  go_wp2
  go_loop [3, 4] (fun t i => ∃ k : Nat, k ≤ s.size ∧ i = .int .i64 ((k : Int) - 1) ∧ t = .int .i64 (Cd.i11 (s.data.toList.take (s.size - k)))) (fun _ i => (intOf i + 1).toNat)
  case atStart => exact ⟨s.size, Nat.le_refl _, rfl, by rw [Nat.sub_self]; rfl⟩
  case round =>
    obtain ⟨k, hk, rfl, rfl⟩ := hrel
    obtain ⟨hb1, hb2⟩ := Cd.i11_bd (s.data.toList.take (s.size - k))
    by_cases h0 : k = 0
    · subst h0
      rw [Nat.sub_zero, take_all] at hb1 hb2 ⊢
      go_wp2
      go_ret
      exact ⟨rfl, rfl⟩
    · obtain ⟨j, rfl⟩ : ∃ j, k = j + 1 := ⟨k - 1, by omega⟩
      have hjl : j < s.size := by omega
      obtain ⟨hd1, hd2⟩ := Cd.dg_bd (HD.out _ (mem_at s (s.size - 1 - j) (by omega)))
      have HV := Lib.hid (fun w => value_any s j w (by omega) hjl HD)
      have hs1 : Cd.i11 (s.data.toList.take (s.size - j)) = 2 * (Cd.i11 (s.data.toList.take (s.size - (j + 1))) + Cd.dg (s[s.size - 1 - j]'(by omega))) % 11 := by
        rw [take_back s j hjl]; unfold Cd.i11; rw [Cd.foldl_snoc]
      generalize Cd.i11 (s.data.toList.take (s.size - (j + 1))) = g at *
      generalize Cd.dg (s[s.size - 1 - j]'(by omega)) = d at *
      have HS := Lib.hid hs1
      clear hs1 h0
      go_wp2_with fail
      refine (HV.out _).mono ?_
      rintro e w' ⟨rfl, rfl⟩
      go_wp2
      go_round
      case rel => exact ⟨j, by omega, by go_num, by rw [HS.out]⟩
      case measure => simp [intOf]

set_option maxHeartbeats 400000 in
theorem rmod43_any (s : ByteArray) (w : World) (hs : s.size ≤ 4096) (HD : Hid (∀ c ∈ s.data.toList, 0 ≤ Cd.plc c)) :
    Calls Tryz.prog 90 #[.string s] w fun e w' => e = .returned (.int .i64 (Cd.c39 s.data.toList % 43)) ∧ w = w' := by
  go_enter Tryz.func90, Tryz.ntmps90
  go_wp2
  go_loop [3, 4] (fun t i => ∃ k : Nat, k ≤ s.size ∧ i = .int .i64 (k : Int) ∧ t = .int .i64 (Cd.c39 (s.data.toList.take k))) (fun _ i => s.size - (intOf i).toNat)
  case atStart => exact ⟨0, Nat.zero_le _, rfl, rfl⟩
  case round =>
    obtain ⟨k, hk, rfl, rfl⟩ := hrel
    obtain ⟨hb1, hb2⟩ := Cd.c39_bd (s.data.toList.take k) (fun c hc => HD.out c (List.mem_of_mem_take hc))
    rw [len_take s k hk] at hb2
    by_cases hlt : k < s.size
    · have hx1 := HD.out _ (mem_at s k hlt)
      have hx2 := (Cd.plc_bd s[k]).2
      have hs1 : Cd.c39 (s.data.toList.take (k + 1)) = Cd.c39 (s.data.toList.take k) + Cd.plc s[k] := by rw [take_snoc s k hlt]; unfold Cd.c39; simp
      generalize Cd.c39 (s.data.toList.take k) = g at *
      have HS := Lib.hid hs1
      clear hs1
      go_wp2_with fail
      refine (plc_any _ _).mono ?_
      rintro e w' ⟨rfl, rfl⟩
      go_wp2
      go_round
      case rel => exact ⟨k + 1, by omega, by go_num, by rw [HS.out]⟩
      case measure => simp [intOf]; omega
    · obtain rfl : k = s.size := by omega
      rw [take_all] at hb1 hb2 ⊢
      clear hk hlt
      go_wp2
      go_ret
      exact ⟨rfl, rfl⟩

set_option maxHeartbeats 400000 in
theorem product_any (a b : Int) (w : World) (h0 : 0 ≤ a) (h1 : a ≤ 9) (h2 : 0 ≤ b) (h3 : b ≤ 9) :
    Calls Tryz.prog 93 #[.int .i64 a, .int .i64 b] w fun e w' => e = .returned (.int .i64 (Cd.dih a b)) ∧ w = w' := by
  by_cases ha : a < 5 <;> by_cases hb : b < 5
  all_goals
    go_enter Tryz.func93, Tryz.ntmps93
    go_wp2
    go_ret
    exact ⟨ret_int (by unfold Cd.dih; repeat' split
                       all_goals omega), rfl⟩
end Go.Proofs.YthjlnpcaclfopaaGreat
