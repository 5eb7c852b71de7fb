/-
  The methods of the eight systems, walked: each computes its plain function.
  Conditions: the data are digits, at most 4096.
-/
import Derived.Test.YthjlnpcaclfopaaGreatKit
import Derived.Test.YthjlnpcaclfopaaGreatCd
import Derived.Test.YthjlnpcaclfopaaGreatShelf
namespace Go.Proofs.YthjlnpcaclfopaaGreat
open Go.RowKit

set_option maxHeartbeats 400000 in
theorem digit_any (c : Int) (w : World) :
    Calls Tryz.prog 115 #[.int .u8 c] w fun e w' => e = .returned (.bool (Cd.isDig c)) ∧ w = w' := by
  go_enter Tryz.func115, Tryz.ntmps115
  go_wp2
  · have h : 48 ≤ c := by assumption
    go_ret
    exact ⟨ret_bool (by simp [Cd.isDig, h]), rfl⟩
  · have h : c < 48 := by assumption
    go_ret
    exact ⟨ret_bool (by simp [Cd.isDig]; omega), rfl⟩

set_option maxHeartbeats 400000 in
theorem single_any (v : Int) (w : World) (h0 : 0 ≤ v) (h1 : v ≤ 10) :
    Calls Tryz.prog 117 #[.int .i64 v] w fun e w' => e = .returned (.string ⟨#[Cd.chr v]⟩) ∧ w = w' := by
  by_cases h : v = 10
  · subst h
    go_enter Tryz.func117, Tryz.ntmps117
    go_wp2
    go_ret
    exact ⟨rfl, rfl⟩
  · have hb : (v == 10) = false := by simpa using h
    obtain ⟨n, rfl⟩ := Int.eq_ofNat_of_zero_le h0
    have hd := Cd.dec_chr n (by omega)
    have HD := Lib.hid hd
    clear hd h
    go_enter Tryz.func117, Tryz.ntmps117
    go_wp2_with fail
    refine (Tryz.strconv_Itoa_small n (by omega) _).mono ?_
    rintro e w' ⟨rfl, rfl⟩
    go_wp2
    go_ret
    exact ⟨ret_string (by rw [HD.out]), rfl⟩

set_option maxHeartbeats 400000 in
theorem gs1_any (s : ByteArray) (w : World) (hs : s.size ≤ 4096) (hd : Cd.AllDig s.data.toList) :
    Calls Tryz.prog 116 #[.agg #[], .string s] w fun e w' => e = .returned (.string ⟨(Cd.cmp 1 s.data.toList).toArray⟩) ∧ Ext w w' := by
  have HD := Lib.hid hd
  clear hd
  go_enter Tryz.func116, Tryz.ntmps116
  go_wp2
  go_loop [5, 6, 7] (fun t u i => ∃ k : Nat, k ≤ s.size ∧ i = .int .i64 ((k : Int) - 1) ∧ t = .int .i64 (Cd.gsP (s.data.toList.drop k)).1 ∧ u = .int .i64 (Cd.gsP (s.data.toList.drop k)).2) (fun _ _ i => (intOf i + 1).toNat)
  case atStart => exact ⟨s.size, Nat.le_refl _, rfl, by rw [drop_all]; rfl, by rw [drop_all]; rfl⟩
  case round =>
    obtain ⟨k, hk, rfl, rfl, rfl⟩ := hrel
    have hb := Cd.gsP_bd _ (Cd.allDig_drop HD.out k)
    rw [len_drop] at hb
    obtain ⟨hb1, hb2⟩ := hb
    by_cases hlt : k = 0
    · subst hlt
      simp only [List.drop_zero, Nat.sub_zero] at hb1 hb2 ⊢
      go_wp2_with fail
      refine (single_any _ _ (by omega) (by omega)).mono ?_
      rintro e w' ⟨rfl, rfl⟩
      go_wp2
      go_ret
      exact ⟨ret_string (by simp [Cd.cmp]), (by repeat (first | exact Ext.refl _ | assumption | refine Ext.alloc ?_ _ | refine Ext.drew ?_ | refine Ext.trans ?_ (by assumption)))⟩
    · obtain ⟨j, rfl⟩ : ∃ j, k = j + 1 := ⟨k - 1, by omega⟩
      obtain ⟨hx1, hx2⟩ := HD.out _ (mem_at s j (by omega))
      have hw := Cd.gsP_w (s.data.toList.drop (j + 1))
      have hjl : j < s.size := by omega
      have hs1 : Cd.gsP (s.data.toList.drop j) = ((Cd.gsP (s.data.toList.drop (j + 1))).1 + (Cd.gsP (s.data.toList.drop (j + 1))).2 * Cd.dg s[j], 4 - (Cd.gsP (s.data.toList.drop (j + 1))).2) := congrArg Cd.gsP (drop_cons s j hjl)
      generalize Cd.gsP (s.data.toList.drop (j + 1)) = g at *
      have HS := Lib.hid hs1
      clear hs1
      obtain ⟨a, b⟩ := g
      dsimp only at hw hb1 hb2 HS ⊢
      split at hw
      all_goals
        subst hw
        clear hlt
        go_wp2
        go_round
        case rel => exact ⟨j, by omega, by go_num, by rw [HS.out]; simp [Cd.dg], by rw [HS.out]; rfl⟩
        case measure => simp [intOf]

set_option maxHeartbeats 400000 in
theorem luhn_any (s : ByteArray) (w : World) (hs : s.size ≤ 4096) (hd : Cd.AllDig s.data.toList) :
    Calls Tryz.prog 132 #[.agg #[], .string s] w fun e w' => e = .returned (.string ⟨(Cd.cmp 2 s.data.toList).toArray⟩) ∧ Ext w w' := by
  have HD := Lib.hid hd
  clear hd
  go_enter Tryz.func132, Tryz.ntmps132
  go_wp2
  go_loop [5, 6, 7] (fun t u i => ∃ k : Nat, k ≤ s.size ∧ i = .int .i64 ((k : Int) - 1) ∧ t = .int .i64 (Cd.lnP (s.data.toList.drop k)).1 ∧ u = .bool (Cd.lnP (s.data.toList.drop k)).2) (fun _ _ i => (intOf i + 1).toNat)
  case atStart => exact ⟨s.size, Nat.le_refl _, rfl, by rw [drop_all]; rfl, by rw [drop_all]; rfl⟩
  case round =>
    obtain ⟨k, hk, rfl, rfl, rfl⟩ := hrel
    have hb := Cd.lnP_bd _ (Cd.allDig_drop HD.out k)
    rw [len_drop] at hb
    obtain ⟨hb1, hb2⟩ := hb
    by_cases hlt : k = 0
    · subst hlt
      simp only [List.drop_zero, Nat.sub_zero] at hb1 hb2 ⊢
      go_wp2_with fail
      refine (single_any _ _ (by omega) (by omega)).mono ?_
      rintro e w' ⟨rfl, rfl⟩
      go_wp2
      go_ret
      exact ⟨ret_string (by simp [Cd.cmp]), (by repeat (first | exact Ext.refl _ | assumption | refine Ext.alloc ?_ _ | refine Ext.drew ?_ | refine Ext.trans ?_ (by assumption)))⟩
    · obtain ⟨j, rfl⟩ : ∃ j, k = j + 1 := ⟨k - 1, by omega⟩
      obtain ⟨hx1, hx2⟩ := HD.out _ (mem_at s j (by omega))
      have hjl : j < s.size := by omega
      have hs1 : Cd.lnP (s.data.toList.drop j) = ((Cd.lnP (s.data.toList.drop (j + 1))).1 + (if (Cd.lnP (s.data.toList.drop (j + 1))).2 then Cd.dbl (Cd.dg s[j]) else Cd.dg s[j]), !(Cd.lnP (s.data.toList.drop (j + 1))).2) := congrArg Cd.lnP (drop_cons s j hjl)
      generalize Cd.lnP (s.data.toList.drop (j + 1)) = g at *
      have HS := Lib.hid hs1
      clear hs1
      obtain ⟨a, b⟩ := g
      dsimp only at hb1 hb2 HS ⊢
      clear hlt
      cases b
      · go_wp2
        go_round
        case rel => exact ⟨j, by omega, by go_num, by rw [HS.out]; simp [Cd.dg], by rw [HS.out]; rfl⟩
        case measure => simp [intOf]
      · by_cases h9 : 9 < ((s[j].toNat : Int) - 48) * 2
        · go_wp2
          go_round
          case rel => exact ⟨j, by omega, by go_num, by rw [HS.out]; simp only [if_true, Cd.dg, Cd.dbl_hi _ h9], by rw [HS.out]; rfl⟩
          case measure => simp [intOf]
        · go_wp2
          go_round
          case rel => exact ⟨j, by omega, by go_num, by rw [HS.out]; simp only [if_true, Cd.dg, Cd.dbl_lo _ h9], by rw [HS.out]; rfl⟩
          case measure => simp [intOf]

set_option maxHeartbeats 400000 in
theorem iso97_any (s : ByteArray) (w : World) (hs : s.size ≤ 4096) (hd : Cd.AllDig s.data.toList) :
    Calls Tryz.prog 139 #[.agg #[], .string s] w fun e w' => e = .returned (.string ⟨(Cd.cmp 6 s.data.toList).toArray⟩) ∧ Ext w w' := by
  have HD := Lib.hid hd
  clear hd
  go_enter Tryz.func139, Tryz.ntmps139
  go_wp2
  go_loop [5, 10] (fun t i => ∃ k : Nat, k ≤ s.size ∧ i = .int .i64 (k : Int) ∧ t = .int .i64 (Cd.i97 (s.data.toList.take k))) (fun _ i => s.size - (intOf i).toNat)
  case atStart => exact ⟨0, Nat.zero_le _, rfl, rfl⟩
  case round =>
    obtain ⟨k, hk, rfl, rfl⟩ := hrel
    obtain ⟨hb1, hb2⟩ := Cd.i97_bd (s.data.toList.take k)
    by_cases hlt : k < s.size
    · obtain ⟨hx1, hx2⟩ := HD.out _ (mem_at s k hlt)
      have hs1 : Cd.i97 (s.data.toList.take (k + 1)) = (10 * Cd.i97 (s.data.toList.take k) + Cd.dg s[k]) % 97 := by rw [take_snoc s k hlt]; unfold Cd.i97; rw [Cd.foldl_snoc]
      generalize Cd.i97 (s.data.toList.take k) = g at *
      have HS := Lib.hid hs1
      clear hs1
      go_wp2
      go_round
      case rel => exact ⟨k + 1, by omega, by go_num, by rw [HS.out]; simp [Cd.dg]⟩
      case measure => simp [intOf]; omega
    · obtain rfl : k = s.size := by omega
      rw [take_all] at hb1 hb2 ⊢
      clear hk hlt
      have H1 := Lib.hid (Cd.dec_chr ((98 - 100 * Cd.i97 s.data.toList % 97) / 10).toNat (by omega))
      have H2 := Lib.hid (Cd.dec_chr ((98 - 100 * Cd.i97 s.data.toList % 97) % 10).toNat (by omega))
      go_wp2_with fail
      obtain ⟨n1, hn1⟩ : ∃ n1 : Nat, (98 - 100 * Cd.i97 s.data.toList % 97) / 10 = (n1 : Int) := ⟨((98 - 100 * Cd.i97 s.data.toList % 97) / 10).toNat, by omega⟩
      rw [hn1]
      refine (Tryz.strconv_Itoa_small n1 (by omega) _).mono ?_
      rintro e w' ⟨rfl, rfl⟩
      have HN1 := Lib.hid hn1
      clear hn1
      go_wp2_with fail
      obtain ⟨n2, hn2⟩ : ∃ n2 : Nat, (98 - 100 * Cd.i97 s.data.toList % 97) % 10 = (n2 : Int) := ⟨((98 - 100 * Cd.i97 s.data.toList % 97) % 10).toNat, by omega⟩
      rw [hn2]
      refine (Tryz.strconv_Itoa_small n2 (by omega) _).mono ?_
      rintro e w' ⟨rfl, rfl⟩
      have HN2 := Lib.hid hn2
      clear hn2
      rw [Cd.dec_chr n1 (by have := HN1.out; omega), Cd.dec_chr n2 (by have := HN2.out; omega)]
      go_wp2
      go_ret
      exact ⟨ret_string (by simp only [Cd.cmp]; rw [HN1.out, HN2.out]; rfl), (by repeat (first | exact Ext.refl _ | assumption | refine Ext.alloc ?_ _ | refine Ext.drew ?_ | refine Ext.trans ?_ (by assumption)))⟩

set_option maxHeartbeats 400000 in
theorem iso11_any (s : ByteArray) (w : World) (hs : s.size ≤ 4096) (hd : Cd.AllDig s.data.toList) :
    Calls Tryz.prog 147 #[.agg #[], .string s] w fun e w' => e = .returned (.string ⟨(Cd.cmp 8 s.data.toList).toArray⟩) ∧ Ext w w' := by
  have HD := Lib.hid hd
  clear hd
  go_enter Tryz.func147, Tryz.ntmps147
  go_wp2
  go_loop [5, 9] (fun t i => ∃ k : Nat, k ≤ s.size ∧ i = .int .i64 (k : Int) ∧ t = .int .i64 (Cd.i11 (s.data.toList.take k))) (fun _ i => s.size - (intOf i).toNat)
  case atStart => exact ⟨0, Nat.zero_le _, rfl, rfl⟩
  case round =>
    obtain ⟨k, hk, rfl, rfl⟩ := hrel
    obtain ⟨hb1, hb2⟩ := Cd.i11_bd (s.data.toList.take k)
    by_cases hlt : k < s.size
    · obtain ⟨hx1, hx2⟩ := HD.out _ (mem_at s k hlt)
      have hs1 : Cd.i11 (s.data.toList.take (k + 1)) = 2 * (Cd.i11 (s.data.toList.take k) + Cd.dg s[k]) % 11 := by rw [take_snoc s k hlt]; unfold Cd.i11; rw [Cd.foldl_snoc]
      generalize Cd.i11 (s.data.toList.take k) = g at *
      have HS := Lib.hid hs1
      clear hs1
      go_wp2
      go_round
      case rel => exact ⟨k + 1, by omega, by go_num, by rw [HS.out]; simp [Cd.dg]⟩
      case measure => simp [intOf]; omega
    · obtain rfl : k = s.size := by omega
      rw [take_all] at hb1 hb2 ⊢
      clear hk hlt
      go_wp2_with fail
      refine (single_any _ _ (by omega) (by omega)).mono ?_
      rintro e w' ⟨rfl, rfl⟩
      go_wp2
      go_ret
      exact ⟨ret_string (by simp [Cd.cmp]), (by repeat (first | exact Ext.refl _ | assumption | refine Ext.alloc ?_ _ | refine Ext.drew ?_ | refine Ext.trans ?_ (by assumption)))⟩

set_option maxHeartbeats 400000 in
theorem isbn_any (s : ByteArray) (w : World) (hs : s.size = 9) (hd : Cd.AllDig s.data.toList) :
    Calls Tryz.prog 134 #[.agg #[], .string s] w fun e w' => e = .returned (.string ⟨(Cd.cmp 3 s.data.toList).toArray⟩) ∧ Ext w w' := by
  have HD := Lib.hid hd
  have HN := Lib.hid hs
  have hs' : s.size ≤ 9 := by omega
  clear hd hs
  go_enter Tryz.func134, Tryz.ntmps134
  go_wp2
  go_loop [5, 9] (fun t i => ∃ k : Nat, k ≤ s.size ∧ i = .int .i64 (k : Int) ∧ t = .int .i64 (Cd.isb s.data.toList - Cd.isb (s.data.toList.drop k))) (fun _ i => s.size - (intOf i).toNat)
  case atStart => exact ⟨0, Nat.zero_le _, rfl, by simp⟩
  case round =>
    obtain ⟨k, hk, rfl, rfl⟩ := hrel
    obtain ⟨ha1, ha2⟩ := Cd.isb_bd s.data.toList HD.out (by rw [len_data]; exact hs')
    obtain ⟨hb1, hb2⟩ := Cd.isb_bd (s.data.toList.drop k) (Cd.allDig_drop HD.out k) (by rw [len_drop]; omega)
    rw [len_data] at ha2
    rw [len_drop] at hb2
    by_cases hlt : k < s.size
    · obtain ⟨hx1, hx2⟩ := HD.out _ (mem_at s k hlt)
      have hs1 : Cd.isb (s.data.toList.drop k) = Cd.isb (s.data.toList.drop (k + 1)) + (((s.data.toList.drop (k + 1)).length : Int) + 2) * Cd.dg s[k] := by rw [drop_cons s k hlt]; rfl
      rw [len_drop, show ((s.size - (k + 1) : Nat) : Int) + 2 = 10 - (k : Int) by have := HN.out; omega] at hs1
      have hm1 : 0 ≤ (10 - (k : Int)) * ((s[k].toNat : Int) - 48) := Int.mul_nonneg (by omega) (by omega)
      have hm2 : (10 - (k : Int)) * ((s[k].toNat : Int) - 48) ≤ 10 * 9 := Int.mul_le_mul (by omega) (by omega) (by omega) (by omega)
      generalize Cd.isb (s.data.toList.drop k) = g at *
      generalize Cd.isb s.data.toList = g0 at *
      have HS := Lib.hid hs1
      clear hs1
      go_wp2
      go_round
      case rel => exact ⟨k + 1, by omega, by go_num, by have := HS.out; simp only [Cd.dg] at this; congr 1; omega⟩
      case measure => simp [intOf]; omega
    · obtain rfl : k = s.size := by omega
      rw [drop_all] at hb1 hb2 ⊢
      clear hk hlt
      simp only [Cd.isb, Int.sub_zero] at hb1 hb2 ⊢
      go_wp2_with fail
      refine (single_any _ _ (by omega) (by omega)).mono ?_
      rintro e w' ⟨rfl, rfl⟩
      go_wp2
      go_ret
      exact ⟨ret_string (by simp [Cd.cmp]), (by repeat (first | exact Ext.refl _ | assumption | refine Ext.alloc ?_ _ | refine Ext.drew ?_ | refine Ext.trans ?_ (by assumption)))⟩
end Go.Proofs.YthjlnpcaclfopaaGreat
