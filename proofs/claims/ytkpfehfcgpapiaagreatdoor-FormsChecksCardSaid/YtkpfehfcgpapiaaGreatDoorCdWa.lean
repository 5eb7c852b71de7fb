/-
  The methods of the eight systems, walked: each computes its plain function.
  Conditions: the data are digits, at most 4096.
-/
import Derived.Test.YtkpfehfcgpapiaaGreatDoorKit
import Derived.Test.YtkpfehfcgpapiaaGreatDoorCd
import Derived.Test.YtkpfehfcgpapiaaGreatDoorShelf

/-
  The methods of the eight systems, walked: each computes its plain function.
  Conditions: the data are digits, at most 4096.
-/
namespace Go.Proofs.YtkpfehfcgpapiaaGreatDoor
open Go.RowKit

set_option maxHeartbeats 400000 in
theorem digit_any (c : Int) (w : World) :
    Calls Tryz.prog 244 #[.int .u8 c] w fun e w' => e = .returned (.bool (Cd.isDig c)) ∧ w = w' := by
  go_enter Tryz.func244, Tryz.ntmps244
  go_wp2
  · have h : 48 ≤ c := by assumption
    go_ret
    exact ⟨ret_bool (by simp [Cd.isDig, h]), rfl⟩
  · have h : c < 48 := by assumption
    go_ret
    exact ⟨ret_bool (by simp [Cd.isDig]; omega), rfl⟩

set_option maxHeartbeats 400000 in
theorem single_any (v : Int) (w : World) (h0 : 0 ≤ v) (h1 : v ≤ 10) :
    Calls Tryz.prog 246 #[.int .i64 v] w fun e w' => e = .returned (.string ⟨#[Cd.chr v]⟩) ∧ w = w' := by
  by_cases h : v = 10
  · subst h
    go_enter Tryz.func246, Tryz.ntmps246
    go_wp2
    go_ret
    exact ⟨rfl, rfl⟩
  · have hb : (v == 10) = false := by simpa using h
    obtain ⟨n, rfl⟩ := Int.eq_ofNat_of_zero_le h0
    have hd := Cd.dec_chr n (by omega)
    have HD := Lib.hid hd
    clear hd h
    go_enter Tryz.func246, Tryz.ntmps246
    go_wp2_with fail
    refine (Tryz.strconv_Itoa_small n (by omega) _).mono ?_
    rintro e w' ⟨rfl, rfl⟩
    go_wp2
    go_ret
    exact ⟨ret_string (by rw [HD.out]), rfl⟩

set_option maxHeartbeats 400000 in
theorem gs1_any (s : ByteArray) (w : World) (hs : s.size ≤ 4096) (hd : Cd.AllDig s.data.toList) :
    Calls Tryz.prog 245 #[.agg #[], .string s] w fun e w' => e = .returned (.string ⟨(Cd.cmp 1 s.data.toList).toArray⟩) ∧ Ext w w' := by
  have HD := Lib.hid hd
  clear hd
  go_enter Tryz.func245, Tryz.ntmps245
  go_wp2
  go_loop [5, 6, 7] (fun t u i => ∃ k : Nat, k ≤ s.size ∧ i = .int .i64 ((k : Int) - 1) ∧ t = .int .i64 (Cd.gsP (s.data.toList.drop k)).1 ∧ u = .int .i64 (Cd.gsP (s.data.toList.drop k)).2) (fun _ _ i => (intOf i + 1).toNat)
  case atStart => exact ⟨s.size, Nat.le_refl _, rfl, by rw [drop_all]; rfl, by rw [drop_all]; rfl⟩
  case round =>
    obtain ⟨k, hk, rfl, rfl, rfl⟩ := hrel
    have hb := Cd.gsP_bd _ (Cd.allDig_drop HD.out k)
    rw [len_drop] at hb
    obtain ⟨hb1, hb2⟩ := hb
    by_cases hlt : k = 0
    · subst hlt
      simp only [List.drop_zero, Nat.sub_zero] at hb1 hb2 ⊢
      go_wp2_with fail
      refine (single_any _ _ (by omega) (by omega)).mono ?_
      rintro e w' ⟨rfl, rfl⟩
      go_wp2
      go_ret
      exact ⟨ret_string (by simp [Cd.cmp]), (by repeat (first | exact Ext.refl _ | assumption | refine Ext.alloc ?_ _ | refine Ext.drew ?_ | refine Ext.trans ?_ (by assumption)))⟩
    · obtain ⟨j, rfl⟩ : ∃ j, k = j + 1 := ⟨k - 1, by omega⟩
      obtain ⟨hx1, hx2⟩ := HD.out _ (mem_at s j (by omega))
      have hw := Cd.gsP_w (s.data.toList.drop (j + 1))
      have hjl : j < s.size := by omega
      have hs1 : Cd.gsP (s.data.toList.drop j) = ((Cd.gsP (s.data.toList.drop (j + 1))).1 + (Cd.gsP (s.data.toList.drop (j + 1))).2 * Cd.dg s[j], 4 - (Cd.gsP (s.data.toList.drop (j + 1))).2) := congrArg Cd.gsP (drop_cons s j hjl)
      generalize Cd.gsP (s.data.toList.drop (j + 1)) = g at *
      have HS := Lib.hid hs1
      clear hs1
      obtain ⟨a, b⟩ := g
      dsimp only at hw hb1 hb2 HS ⊢
      split at hw
      all_goals
        subst hw
        clear hlt
        go_wp2
        go_round
        case rel => exact ⟨j, by omega, by go_num, by rw [HS.out]; simp [Cd.dg], by rw [HS.out]; rfl⟩
        case measure => simp [intOf]

set_option maxHeartbeats 400000 in
theorem luhn_any (s : ByteArray) (w : World) (hs : s.size ≤ 4096) (hd : Cd.AllDig s.data.toList) :
    Calls Tryz.prog 247 #[.agg #[], .string s] w fun e w' => e = .returned (.string ⟨(Cd.cmp 2 s.data.toList).toArray⟩) ∧ Ext w w' := by
  have HD := Lib.hid hd
  clear hd
  go_enter Tryz.func247, Tryz.ntmps247
  go_wp2
  go_loop [5, 6, 7] (fun t u i => ∃ k : Nat, k ≤ s.size ∧ i = .int .i64 ((k : Int) - 1) ∧ t = .int .i64 (Cd.lnP (s.data.toList.drop k)).1 ∧ u = .bool (Cd.lnP (s.data.toList.drop k)).2) (fun _ _ i => (intOf i + 1).toNat)
  case atStart => exact ⟨s.size, Nat.le_refl _, rfl, by rw [drop_all]; rfl, by rw [drop_all]; rfl⟩
  case round =>
    obtain ⟨k, hk, rfl, rfl, rfl⟩ := hrel
    have hb := Cd.lnP_bd _ (Cd.allDig_drop HD.out k)
    rw [len_drop] at hb
    obtain ⟨hb1, hb2⟩ := hb
    by_cases hlt : k = 0
    · subst hlt
      simp only [List.drop_zero, Nat.sub_zero] at hb1 hb2 ⊢
      go_wp2_with fail
      refine (single_any _ _ (by omega) (by omega)).mono ?_
      rintro e w' ⟨rfl, rfl⟩
      go_wp2
      go_ret
      exact ⟨ret_string (by simp [Cd.cmp]), (by repeat (first | exact Ext.refl _ | assumption | refine Ext.alloc ?_ _ | refine Ext.drew ?_ | refine Ext.trans ?_ (by assumption)))⟩
    · obtain ⟨j, rfl⟩ : ∃ j, k = j + 1 := ⟨k - 1, by omega⟩
      obtain ⟨hx1, hx2⟩ := HD.out _ (mem_at s j (by omega))
      have hjl : j < s.size := by omega
      have hs1 : Cd.lnP (s.data.toList.drop j) = ((Cd.lnP (s.data.toList.drop (j + 1))).1 + (if (Cd.lnP (s.data.toList.drop (j + 1))).2 then Cd.dbl (Cd.dg s[j]) else Cd.dg s[j]), !(Cd.lnP (s.data.toList.drop (j + 1))).2) := congrArg Cd.lnP (drop_cons s j hjl)
      generalize Cd.lnP (s.data.toList.drop (j + 1)) = g at *
      have HS := Lib.hid hs1
      clear hs1
      obtain ⟨a, b⟩ := g
      dsimp only at hb1 hb2 HS ⊢
      clear hlt
      cases b
      · go_wp2
        go_round
        case rel => exact ⟨j, by omega, by go_num, by rw [HS.out]; simp [Cd.dg], by rw [HS.out]; rfl⟩
        case measure => simp [intOf]
      · by_cases h9 : 9 < ((s[j].toNat : Int) - 48) * 2
        · go_wp2
          go_round
          case rel => exact ⟨j, by omega, by go_num, by rw [HS.out]; simp only [if_true, Cd.dg, Cd.dbl_hi _ h9], by rw [HS.out]; rfl⟩
          case measure => simp [intOf]
        · go_wp2
          go_round
          case rel => exact ⟨j, by omega, by go_num, by rw [HS.out]; simp only [if_true, Cd.dg, Cd.dbl_lo _ h9], by rw [HS.out]; rfl⟩
          case measure => simp [intOf]

set_option maxHeartbeats 400000 in
theorem iso97_any (s : ByteArray) (w : World) (hs : s.size ≤ 4096) (hd : Cd.AllDig s.data.toList) :
    Calls Tryz.prog 254 #[.agg #[], .string s] w fun e w' => e = .returned (.string ⟨(Cd.cmp 6 s.data.toList).toArray⟩) ∧ Ext w w' := by
  have HD := Lib.hid hd
  clear hd
  go_enter Tryz.func254, Tryz.ntmps254
  go_wp2
  go_loop [5, 10] (fun t i => ∃ k : Nat, k ≤ s.size ∧ i = .int .i64 (k : Int) ∧ t = .int .i64 (Cd.i97 (s.data.toList.take k))) (fun _ i => s.size - (intOf i).toNat)
  case atStart => exact ⟨0, Nat.zero_le _, rfl, rfl⟩
  case round =>
    obtain ⟨k, hk, rfl, rfl⟩ := hrel
    obtain ⟨hb1, hb2⟩ := Cd.i97_bd (s.data.toList.take k)
    by_cases hlt : k < s.size
    · obtain ⟨hx1, hx2⟩ := HD.out _ (mem_at s k hlt)
      have hs1 : Cd.i97 (s.data.toList.take (k + 1)) = (10 * Cd.i97 (s.data.toList.take k) + Cd.dg s[k]) % 97 := by rw [take_snoc s k hlt]; unfold Cd.i97; rw [Cd.foldl_snoc]
      generalize Cd.i97 (s.data.toList.take k) = g at *
      have HS := Lib.hid hs1
      clear hs1
      go_wp2
      go_round
      case rel => exact ⟨k + 1, by omega, by go_num, by rw [HS.out]; simp [Cd.dg]⟩
      case measure => simp [intOf]; omega
    · obtain rfl : k = s.size := by omega
      rw [take_all] at hb1 hb2 ⊢
      clear hk hlt
      have H1 := Lib.hid (Cd.dec_chr ((98 - 100 * Cd.i97 s.data.toList % 97) / 10).toNat (by omega))
      have H2 := Lib.hid (Cd.dec_chr ((98 - 100 * Cd.i97 s.data.toList % 97) % 10).toNat (by omega))
      go_wp2_with fail
      obtain ⟨n1, hn1⟩ : ∃ n1 : Nat, (98 - 100 * Cd.i97 s.data.toList % 97) / 10 = (n1 : Int) := ⟨((98 - 100 * Cd.i97 s.data.toList % 97) / 10).toNat, by omega⟩
      rw [hn1]
      refine (Tryz.strconv_Itoa_small n1 (by omega) _).mono ?_
      rintro e w' ⟨rfl, rfl⟩
      have HN1 := Lib.hid hn1
      clear hn1
      go_wp2_with fail
      obtain ⟨n2, hn2⟩ : ∃ n2 : Nat, (98 - 100 * Cd.i97 s.data.toList % 97) % 10 = (n2 : Int) := ⟨((98 - 100 * Cd.i97 s.data.toList % 97) % 10).toNat, by omega⟩
      rw [hn2]
      refine (Tryz.strconv_Itoa_small n2 (by omega) _).mono ?_
      rintro e w' ⟨rfl, rfl⟩
      have HN2 := Lib.hid hn2
      clear hn2
      rw [Cd.dec_chr n1 (by have := HN1.out; omega), Cd.dec_chr n2 (by have := HN2.out; omega)]
      go_wp2
      go_ret
      exact ⟨ret_string (by simp only [Cd.cmp]; rw [HN1.out, HN2.out]; rfl), (by repeat (first | exact Ext.refl _ | assumption | refine Ext.alloc ?_ _ | refine Ext.drew ?_ | refine Ext.trans ?_ (by assumption)))⟩

set_option maxHeartbeats 400000 in
theorem iso11_any (s : ByteArray) (w : World) (hs : s.size ≤ 4096) (hd : Cd.AllDig s.data.toList) :
    Calls Tryz.prog 262 #[.agg #[], .string s] w fun e w' => e = .returned (.string ⟨(Cd.cmp 8 s.data.toList).toArray⟩) ∧ Ext w w' := by
  have HD := Lib.hid hd
  clear hd
  go_enter Tryz.func262, Tryz.ntmps262
  go_wp2
  go_loop [5, 9] (fun t i => ∃ k : Nat, k ≤ s.size ∧ i = .int .i64 (k : Int) ∧ t = .int .i64 (Cd.i11 (s.data.toList.take k))) (fun _ i => s.size - (intOf i).toNat)
  case atStart => exact ⟨0, Nat.zero_le _, rfl, rfl⟩
  case round =>
    obtain ⟨k, hk, rfl, rfl⟩ := hrel
    obtain ⟨hb1, hb2⟩ := Cd.i11_bd (s.data.toList.take k)
    by_cases hlt : k < s.size
    · obtain ⟨hx1, hx2⟩ := HD.out _ (mem_at s k hlt)
      have hs1 : Cd.i11 (s.data.toList.take (k + 1)) = 2 * (Cd.i11 (s.data.toList.take k) + Cd.dg s[k]) % 11 := by rw [take_snoc s k hlt]; unfold Cd.i11; rw [Cd.foldl_snoc]
      generalize Cd.i11 (s.data.toList.take k) = g at *
      have HS := Lib.hid hs1
      clear hs1
      go_wp2
      go_round
      case rel => exact ⟨k + 1, by omega, by go_num, by rw [HS.out]; simp [Cd.dg]⟩
      case measure => simp [intOf]; omega
    · obtain rfl : k = s.size := by omega
      rw [take_all] at hb1 hb2 ⊢
      clear hk hlt
      go_wp2_with fail
      refine (single_any _ _ (by omega) (by omega)).mono ?_
      rintro e w' ⟨rfl, rfl⟩
      go_wp2
      go_ret
      exact ⟨ret_string (by simp [Cd.cmp]), (by repeat (first | exact Ext.refl _ | assumption | refine Ext.alloc ?_ _ | refine Ext.drew ?_ | refine Ext.trans ?_ (by assumption)))⟩

set_option maxHeartbeats 400000 in
theorem isbn_any (s : ByteArray) (w : World) (hs : s.size = 9) (hd : Cd.AllDig s.data.toList) :
    Calls Tryz.prog 249 #[.agg #[], .string s] w fun e w' => e = .returned (.string ⟨(Cd.cmp 3 s.data.toList).toArray⟩) ∧ Ext w w' := by
  have HD := Lib.hid hd
  have HN := Lib.hid hs
  have hs' : s.size ≤ 9 := by omega
  clear hd hs
  go_enter Tryz.func249, Tryz.ntmps249
  go_wp2
  go_loop [5, 9] (fun t i => ∃ k : Nat, k ≤ s.size ∧ i = .int .i64 (k : Int) ∧ t = .int .i64 (Cd.isb s.data.toList - Cd.isb (s.data.toList.drop k))) (fun _ i => s.size - (intOf i).toNat)
  case atStart => exact ⟨0, Nat.zero_le _, rfl, by simp⟩
  case round =>
    obtain ⟨k, hk, rfl, rfl⟩ := hrel
    obtain ⟨ha1, ha2⟩ := Cd.isb_bd s.data.toList HD.out (by rw [len_data]; exact hs')
    obtain ⟨hb1, hb2⟩ := Cd.isb_bd (s.data.toList.drop k) (Cd.allDig_drop HD.out k) (by rw [len_drop]; omega)
    rw [len_data] at ha2
    rw [len_drop] at hb2
    by_cases hlt : k < s.size
    · obtain ⟨hx1, hx2⟩ := HD.out _ (mem_at s k hlt)
      have hs1 : Cd.isb (s.data.toList.drop k) = Cd.isb (s.data.toList.drop (k + 1)) + (((s.data.toList.drop (k + 1)).length : Int) + 2) * Cd.dg s[k] := by rw [drop_cons s k hlt]; rfl
      rw [len_drop, show ((s.size - (k + 1) : Nat) : Int) + 2 = 10 - (k : Int) by have := HN.out; omega] at hs1
      have hm1 : 0 ≤ (10 - (k : Int)) * ((s[k].toNat : Int) - 48) := Int.mul_nonneg (by omega) (by omega)
      have hm2 : (10 - (k : Int)) * ((s[k].toNat : Int) - 48) ≤ 10 * 9 := Int.mul_le_mul (by omega) (by omega) (by omega) (by omega)
      generalize Cd.isb (s.data.toList.drop k) = g at *
      generalize Cd.isb s.data.toList = g0 at *
      have HS := Lib.hid hs1
      clear hs1
      go_wp2
      go_round
      case rel => exact ⟨k + 1, by omega, by go_num, by have := HS.out; simp only [Cd.dg] at this; congr 1; omega⟩
      case measure => simp [intOf]; omega
    · obtain rfl : k = s.size := by omega
      rw [drop_all] at hb1 hb2 ⊢
      clear hk hlt
      simp only [Cd.isb, Int.sub_zero] at hb1 hb2 ⊢
      go_wp2_with fail
      refine (single_any _ _ (by omega) (by omega)).mono ?_
      rintro e w' ⟨rfl, rfl⟩
      go_wp2
      go_ret
      exact ⟨ret_string (by simp [Cd.cmp]), (by repeat (first | exact Ext.refl _ | assumption | refine Ext.alloc ?_ _ | refine Ext.drew ?_ | refine Ext.trans ?_ (by assumption)))⟩
end Go.Proofs.YtkpfehfcgpapiaaGreatDoor

/-
  The systems Code 39, Damm and Verhoeff, walked.
  Conditions: the data are characters of the system, at most 4096.
-/
namespace Go.Proofs.YtkpfehfcgpapiaaGreatDoor
open Go.RowKit

theorem u8_back (c : UInt8) : ((c.toNat : Int).toNat).toUInt8 = c := by simp

theorem idx_any (c : Int) (w : World) :
    Calls Tryz.prog 114 #[.string ⟨#[48, 49, 50, 51, 52, 53, 54, 55, 56, 57, 65, 66, 67, 68, 69, 70, 71, 72, 73, 74, 75, 76, 77, 78, 79, 80, 81, 82, 83, 84, 85, 86, 87, 88, 89, 90, 45, 46, 32, 36, 47, 43, 37]⟩, .int .u8 c] w fun e w' => e = .returned (.int .i64 (Cd.plc c.toNat.toUInt8)) ∧ w = w' :=
  (Tryz.strings_IndexByte _ c w).mono fun _ _ ⟨he, hw⟩ => ⟨he, hw.symm⟩

theorem syms_at' : ∀ n : Fin 43, ((⟨Cd.syms.toArray⟩ : ByteArray).extract n.1 (n.1 + 1)).data.toList = [Cd.syms.getD n.1 48] := by decide +kernel
theorem syms_at (n : Nat) (h : n < 43) : (⟨Cd.syms.toArray⟩ : ByteArray).extract (n : Int).toNat ((n : Int) + 1).toNat = ⟨[Cd.syms.getD (n : Int).toNat 48].toArray⟩ := by
  have h1 := syms_at' ⟨n, h⟩
  have e : ((n : Int) + 1).toNat = n + 1 := by omega
  rw [e, Int.toNat_natCast]
  dsimp only at h1
  rw [← h1]

set_option maxHeartbeats 400000 in
theorem code39_any (s : ByteArray) (w : World) (hs : s.size ≤ 4096) (hd : ∀ c ∈ s.data.toList, 0 ≤ Cd.plc c) :
    Calls Tryz.prog 257 #[.agg #[], .string s] w fun e w' => e = .returned (.string ⟨(Cd.cmp 7 s.data.toList).toArray⟩) ∧ Ext w w' := by
  have HD := Lib.hid hd
  clear hd
  go_enter Tryz.func257, Tryz.ntmps257
  go_wp2
  go_loop [5, 10] (fun t i => ∃ k : Nat, k ≤ s.size ∧ i = .int .i64 (k : Int) ∧ t = .int .i64 (Cd.c39 (s.data.toList.take k))) (fun _ i => s.size - (intOf i).toNat)
  case atStart => exact ⟨0, Nat.zero_le _, rfl, rfl⟩
  case round =>
    obtain ⟨k, hk, rfl, rfl⟩ := hrel
    obtain ⟨hb1, hb2⟩ := Cd.c39_bd (s.data.toList.take k) (fun c hc => HD.out c (List.mem_of_mem_take hc))
    rw [len_take s k hk] at hb2
    by_cases hlt : k < s.size
    · have hx1 := HD.out _ (mem_at s k hlt)
      have hx2 := (Cd.plc_bd s[k]).2
      have hs1 : Cd.c39 (s.data.toList.take (k + 1)) = Cd.c39 (s.data.toList.take k) + Cd.plc s[k] := by rw [take_snoc s k hlt]; unfold Cd.c39; simp
      generalize Cd.c39 (s.data.toList.take k) = g at *
      have HS := Lib.hid hs1
      clear hs1
      go_wp2_with fail
      refine (idx_any _ _).mono ?_
      rintro e w' ⟨rfl, rfl⟩
      rw [u8_back]
      go_wp2
      go_round
      case rel => exact ⟨k + 1, by omega, by go_num, by rw [HS.out]⟩
      case measure => simp [intOf]; omega
    · obtain rfl : k = s.size := by omega
      rw [take_all] at hb1 hb2 ⊢
      clear hk hlt
      go_wp2
      go_ret
      exact ⟨ret_string (by
        obtain ⟨n, hn⟩ : ∃ n : Nat, Cd.c39 s.data.toList % 43 = (n : Int) := ⟨(Cd.c39 s.data.toList % 43).toNat, by omega⟩
        simp only [Cd.cmp, hn]
        exact syms_at n (by omega)), (by repeat (first | exact Ext.refl _ | assumption | refine Ext.alloc ?_ _ | refine Ext.drew ?_ | refine Ext.trans ?_ (by assumption)))⟩

set_option maxHeartbeats 400000 in
theorem dihedral_any (a b : Int) (w : World) (h0 : 0 ≤ a) (h1 : a ≤ 9) (h2 : 0 ≤ b) (h3 : b ≤ 9) :
    Calls Tryz.prog 252 #[.int .i64 a, .int .i64 b] w fun e w' => e = .returned (.int .i64 (Cd.dih a b)) ∧ w = w' := by
  by_cases ha : a < 5 <;> by_cases hb : b < 5
  all_goals
    go_enter Tryz.func252, Tryz.ntmps252
    go_wp2
    go_ret
    exact ⟨ret_int (by unfold Cd.dih; repeat' split
                       all_goals omega), rfl⟩

def dmObj : Obj := .cells #[.string ⟨#[48, 51, 49, 55, 53, 57, 56, 54, 52, 50]⟩, .string ⟨#[55, 48, 57, 50, 49, 53, 52, 56, 54, 51]⟩, .string ⟨#[52, 50, 48, 54, 56, 55, 49, 51, 53, 57]⟩, .string ⟨#[49, 55, 53, 48, 57, 56, 51, 52, 50, 54]⟩, .string ⟨#[54, 49, 50, 51, 48, 52, 53, 57, 55, 56]⟩, .string ⟨#[51, 54, 55, 52, 50, 48, 57, 53, 56, 49]⟩, .string ⟨#[53, 56, 54, 57, 55, 50, 48, 49, 51, 52]⟩, .string ⟨#[56, 57, 52, 53, 51, 54, 50, 48, 49, 55]⟩, .string ⟨#[57, 52, 51, 56, 54, 49, 55, 50, 48, 53]⟩, .string ⟨#[50, 53, 56, 49, 52, 51, 54, 55, 57, 48]⟩] 260
def dmRow (c : Nat) : ByteArray := ⟨(Cd.dmT.getD c []).toArray⟩
theorem dm_cell (w : World) : ∀ c : Nat, c < 10 → ((w.alloc (.cells #[] 176)).alloc dmObj).cell? ⟨w.heap.size + 1, c, none⟩ = some (.string (dmRow c)) := by
  intro c hc
  rw [dmObj, World.cell?_alloc2_new]
  have h : ∀ c : Fin 10, (#[.string ⟨#[48, 51, 49, 55, 53, 57, 56, 54, 52, 50]⟩, .string ⟨#[55, 48, 57, 50, 49, 53, 52, 56, 54, 51]⟩, .string ⟨#[52, 50, 48, 54, 56, 55, 49, 51, 53, 57]⟩, .string ⟨#[49, 55, 53, 48, 57, 56, 51, 52, 50, 54]⟩, .string ⟨#[54, 49, 50, 51, 48, 52, 53, 57, 55, 56]⟩, .string ⟨#[51, 54, 55, 52, 50, 48, 57, 53, 56, 49]⟩, .string ⟨#[53, 56, 54, 57, 55, 50, 48, 49, 51, 52]⟩, .string ⟨#[56, 57, 52, 53, 51, 54, 50, 48, 49, 55]⟩, .string ⟨#[57, 52, 51, 56, 54, 49, 55, 50, 48, 53]⟩, .string ⟨#[50, 53, 56, 49, 52, 51, 54, 55, 57, 48]⟩] : Array Value)[c.1]? = some (.string (dmRow c.1)) := by
    intro c
    match c with
    | ⟨0, _⟩ => rfl
    | ⟨1, _⟩ => rfl
    | ⟨2, _⟩ => rfl
    | ⟨3, _⟩ => rfl
    | ⟨4, _⟩ => rfl
    | ⟨5, _⟩ => rfl
    | ⟨6, _⟩ => rfl
    | ⟨7, _⟩ => rfl
    | ⟨8, _⟩ => rfl
    | ⟨9, _⟩ => rfl
  exact h ⟨c, hc⟩
theorem dm_facts : ∀ (c x : Fin 10), ∃ h : x.1 < (dmRow c.1).size, 48 ≤ ((dmRow c.1)[x.1]'h).toNat ∧ ((dmRow c.1)[x.1]'h).toNat ≤ 57 ∧ Cd.dmAt (c.1 : Int) (x.1 : Int) = (((dmRow c.1)[x.1]'h).toNat : Int) - 48 := by decide

set_option maxHeartbeats 400000 in
theorem damm_any (s : ByteArray) (w : World) (hs : s.size ≤ 4096) (hd : Cd.AllDig s.data.toList) :
    Calls Tryz.prog 253 #[.agg #[], .string s] w fun e w' => e = .returned (.string ⟨(Cd.cmp 5 s.data.toList).toArray⟩) ∧ Ext w w' := by
  have HD := Lib.hid hd
  clear hd
  go_enter Tryz.func253, Tryz.ntmps253
  go_wp2
  have HC := Lib.hid (dm_cell w)
  have HX : Ext w ((w.alloc (.cells #[] 176)).alloc dmObj) := ((Ext.refl _).alloc _).alloc _
  unfold dmObj at HC HX
  generalize (w.alloc (.cells #[] 176)).alloc (.cells #[.string ⟨#[48, 51, 49, 55, 53, 57, 56, 54, 52, 50]⟩, .string ⟨#[55, 48, 57, 50, 49, 53, 52, 56, 54, 51]⟩, .string ⟨#[52, 50, 48, 54, 56, 55, 49, 51, 53, 57]⟩, .string ⟨#[49, 55, 53, 48, 57, 56, 51, 52, 50, 54]⟩, .string ⟨#[54, 49, 50, 51, 48, 52, 53, 57, 55, 56]⟩, .string ⟨#[51, 54, 55, 52, 50, 48, 57, 53, 56, 49]⟩, .string ⟨#[53, 56, 54, 57, 55, 50, 48, 49, 51, 52]⟩, .string ⟨#[56, 57, 52, 53, 51, 54, 50, 48, 49, 55]⟩, .string ⟨#[57, 52, 51, 56, 54, 49, 55, 50, 48, 53]⟩, .string ⟨#[50, 53, 56, 49, 52, 51, 54, 55, 57, 48]⟩] 260) = W at *
  go_loopw [6, 11] (fun t i wr => (∃ k : Nat, k ≤ s.size ∧ i = .int .i64 (k : Int) ∧ t = .int .i64 (Cd.dm (s.data.toList.take k))) ∧ ∃ n, wr = W.drewN n) (fun _ i _ => s.size - (intOf i).toNat)
  case atStart => exact ⟨⟨0, Nat.zero_le _, rfl, rfl⟩, 0, rfl⟩
  case round =>
    obtain ⟨⟨k, hk, rfl, rfl⟩, n, rfl⟩ := hrel
    obtain ⟨hb1, hb2⟩ := Cd.dm_bd (s.data.toList.take k) (Cd.allDig_take HD.out k)
    by_cases hlt : k < s.size
    · obtain ⟨hx1, hx2⟩ := HD.out _ (mem_at s k hlt)
      have hs1 : Cd.dm (s.data.toList.take (k + 1)) = Cd.dmAt (Cd.dm (s.data.toList.take k)) (Cd.dg s[k]) := by rw [take_snoc s k hlt]; unfold Cd.dm; rw [Cd.foldl_snoc]
      generalize Cd.dm (s.data.toList.take k) = g at *
      obtain ⟨c, rfl⟩ := Int.eq_ofNat_of_zero_le hb1
      obtain ⟨x, hx⟩ : ∃ x : Nat, Cd.dg s[k] = (x : Int) := ⟨(Cd.dg s[k]).toNat, by unfold Cd.dg; omega⟩
      have hx' : (s[k].toNat : Int) - 48 = (x : Int) := hx
      rw [hx] at hs1
      obtain ⟨hr, hv1, hv2, hv3⟩ := dm_facts ⟨c, by omega⟩ ⟨x, by unfold Cd.dg at hx; omega⟩
      dsimp only at hr hv1 hv2 hv3
      rw [hv3] at hs1
      have hcell := HC.out c (by omega)
      generalize dmRow c = r at *
      have HS := Lib.hid hs1
      clear hs1 hv3 hx
      go_wp2
      go_quiet (fail)
      go_wp2
      go_roundw
      case rel => exact ⟨⟨k + 1, by omega, by go_num, by rw [HS.out]⟩, _, rfl⟩
      case measure => simp [intOf]; omega
    · obtain rfl : k = s.size := by omega
      rw [take_all] at hb1 hb2 ⊢
      clear hk hlt
      go_wp2_with fail
      refine (single_any _ _ (by omega) (by omega)).mono ?_
      rintro e w' ⟨rfl, rfl⟩
      go_wp2
      go_ret
      exact ⟨ret_string (by simp [Cd.cmp]), HX.drewN _⟩

/-- The powers of the permutation: the first d of power m + 1, the others of power m. -/
def pwL (m d : Nat) : List Value := (List.range 10).map fun j => .int .i64 (if j < d then Cd.permN (m + 1) (j : Int) else Cd.permN m (j : Int))
def pw (m d : Nat) : Array Value := (pwL m d).toArray
theorem pw_at (m d : Nat) (h : d < 10) : (pw m d)[d]? = some (.int .i64 (Cd.permN m (d : Int))) := by
  simp [pw, pwL, h]
theorem pw_at0 (m x : Nat) (h : x < 10) : (pw m 0)[x]? = some (.int .i64 (Cd.permN m (x : Int))) := by
  simp [pw, pwL, h]
theorem pw_set (m d : Nat) (h : d < 10) : (pw m d).setIfInBounds d (.int .i64 (Cd.perm (Cd.permN m (d : Int)))) = pw m (d + 1) := by
  apply Array.ext_getElem?
  intro i
  rw [Array.getElem?_setIfInBounds]
  by_cases e : d = i
  · subst e
    simp [pw, pwL, h, Cd.permN]
  · rw [if_neg e]
    by_cases hi : i < 10
    · simp only [pw, pwL, List.getElem?_toArray, List.getElem?_map, List.getElem?_range hi, Option.map_some]
      by_cases hl : i < d
      · rw [if_pos hl, if_pos (by omega)]
      · rw [if_neg hl, if_neg (by omega)]
    · have e1 : ∀ m d, (pw m d)[i]? = none := by
        intro m d
        rw [Array.getElem?_eq_none_iff]
        simp [pw, pwL]; omega
      rw [e1, e1]
theorem pw_next (m : Nat) : pw m 10 = pw (m + 1) 0 := by
  unfold pw pwL
  congr 1
def permObj : Obj := .cells #[.int .i64 1, .int .i64 5, .int .i64 7, .int .i64 6, .int .i64 2, .int .i64 8, .int .i64 3, .int .i64 0, .int .i64 9, .int .i64 4] 259
theorem perm_cell (w : World) : ∀ c : Nat, c < 10 → ((w.alloc (.cells #[] 175)).alloc permObj).cell? ⟨w.heap.size + 1, c, none⟩ = some (.int .i64 (Cd.perm (c : Int))) := by
  intro c hc
  rw [permObj, World.cell?_alloc2_new]
  have h : ∀ c : Fin 10, (#[.int .i64 1, .int .i64 5, .int .i64 7, .int .i64 6, .int .i64 2, .int .i64 8, .int .i64 3, .int .i64 0, .int .i64 9, .int .i64 4] : Array Value)[c.1]? = some (.int .i64 (Cd.perm (c.1 : Int))) := by
    intro c
    match c with
    | ⟨0, _⟩ => rfl
    | ⟨1, _⟩ => rfl
    | ⟨2, _⟩ => rfl
    | ⟨3, _⟩ => rfl
    | ⟨4, _⟩ => rfl
    | ⟨5, _⟩ => rfl
    | ⟨6, _⟩ => rfl
    | ⟨7, _⟩ => rfl
    | ⟨8, _⟩ => rfl
    | ⟨9, _⟩ => rfl
  exact h ⟨c, hc⟩
theorem pw_start : (#[.int .i64 0, .int .i64 1, .int .i64 2, .int .i64 3, .int .i64 4, .int .i64 5, .int .i64 6, .int .i64 7, .int .i64 8, .int .i64 9] : Array Value) = pw 0 0 := rfl

set_option maxHeartbeats 1000000 in
theorem verhoeff_any (s : ByteArray) (w : World) (hs : s.size ≤ 4096) (hd : Cd.AllDig s.data.toList) :
    Calls Tryz.prog 251 #[.agg #[], .string s] w fun e w' => e = .returned (.string ⟨(Cd.cmp 4 s.data.toList).toArray⟩) ∧ Ext w w' := by
  have HD := Lib.hid hd
  clear hd
  go_enter Tryz.func251, Tryz.ntmps251
  go_wp2
  have HC := Lib.hid (perm_cell w)
  have HX : Ext w ((w.alloc (.cells #[] 175)).alloc permObj) := ((Ext.refl _).alloc _).alloc _
  have hz : ((w.alloc (.cells #[] 175)).alloc permObj).heap.size = w.heap.size + 2 := by simp
  have HZ := Lib.hid hz
  clear hz
  unfold permObj at HC HX HZ
  rw [pw_start]
  generalize (w.alloc (.cells #[] 175)).alloc (.cells #[.int .i64 1, .int .i64 5, .int .i64 7, .int .i64 6, .int .i64 2, .int .i64 8, .int .i64 3, .int .i64 0, .int .i64 9, .int .i64 4] 259) = W at *
  go_loopw [7, 8] (fun t i wr => ∃ k : Nat, k ≤ s.size ∧ i = .int .i64 ((k : Int) - 1) ∧ t = .int .i64 (Cd.vh (s.data.toList.drop k)) ∧ wr = W.alloc (.cells (pw (s.size - k) 0) 259)) (fun _ i _ => (intOf i + 1).toNat)
  case atStart => exact ⟨s.size, Nat.le_refl _, rfl, by rw [drop_all]; rfl, by rw [Nat.sub_self]⟩
  case round =>
    obtain ⟨k, hk, rfl, rfl, rfl⟩ := hrel
    obtain ⟨hb1, hb2⟩ := Cd.vh_bd _ (Cd.allDig_drop HD.out k)
    by_cases hlt : k = 0
    · subst hlt
      simp only [List.drop_zero, Nat.sub_zero] at hb1 hb2 ⊢
      rw [show ((0 : Nat) : Int) - 1 = -1 from rfl]
      have hX := HX.alloc (.cells (pw s.size 0) 259)
      have HE : Hid (Cd.cmp 4 s.data.toList = [Cd.chr (Cd.inv (Cd.vh s.data.toList))]) := rfl
      generalize Cd.vh s.data.toList = c at *
      generalize W.alloc (.cells (pw s.size 0) 259) = W2 at *
      have hi := Cd.inv_bd c ⟨hb1, hb2⟩
      go_wp2
      go_loop [10] (fun t => ∃ n : Int, 0 ≤ n ∧ n ≤ Cd.inv c ∧ t = .int .i64 n) (fun t => (9 - intOf t).toNat)
      case atStart => exact ⟨0, by omega, by omega, rfl⟩
      case round =>
        obtain ⟨n, hn1, hn2, rfl⟩ := hrel
        by_cases hn : n = Cd.inv c
        · have h0 : (Cd.dih n c != 0) = false := by rw [hn, Cd.dih_inv c ⟨hb1, hb2⟩]; rfl
          have HN := Lib.hid hn
          obtain ⟨hi1, hi2⟩ := hi
          clear hn
          go_wp2_with fail
          refine (dihedral_any _ _ _ hn1 (by omega) hb1 hb2).mono ?_
          rintro e w' ⟨rfl, rfl⟩
          go_wp2_with fail
          refine (single_any _ _ hn1 (by omega)).mono ?_
          rintro e w' ⟨rfl, rfl⟩
          go_wp2
          go_ret
          exact ⟨ret_string (by rw [HE.out, ← HN.out]), hX⟩
        · have h0 : (Cd.dih n c != 0) = true := by
            simp only [bne_iff_ne, ne_eq]
            exact fun h => hn (Cd.dih_inv_only c n ⟨hb1, hb2⟩ (by omega) h)
          have hn9 : n < 9 := by omega
          have HN : Hid (n + 1 ≤ Cd.inv c) := by show n + 1 ≤ Cd.inv c; omega
          clear hn
          go_wp2_with fail
          refine (dihedral_any _ _ _ hn1 (by omega) hb1 hb2).mono ?_
          rintro e w' ⟨rfl, rfl⟩
          go_wp2
          go_round
          case rel => exact ⟨n + 1, by omega, HN.out, by go_num⟩
          case measure => simp [intOf]; omega
    · obtain ⟨j, rfl⟩ : ∃ j, k = j + 1 := ⟨k - 1, by omega⟩
      obtain ⟨hx1, hx2⟩ := HD.out _ (mem_at s j (by omega))
      have hjl : j < s.size := by omega
      have hs1 : Cd.vh (s.data.toList.drop j) = Cd.dih (Cd.vh (s.data.toList.drop (j + 1))) (Cd.permN ((s.data.toList.drop (j + 1)).length + 1) (Cd.dg s[j])) := congrArg Cd.vh (drop_cons s j hjl)
      rw [len_drop] at hs1
      generalize Cd.vh (s.data.toList.drop (j + 1)) = g at *
      have hm : s.size - j = s.size - (j + 1) + 1 := by omega
      have HM := Lib.hid hm
      clear hm
      generalize s.size - (j + 1) = m at *
      have HS := Lib.hid hs1
      clear hs1 hlt
      go_wp2
      go_loopw [20] (fun i wr => ∃ d : Nat, d ≤ 10 ∧ i = .int .i64 (d : Int) ∧ wr = W.alloc (.cells (pw m d) 259)) (fun i _ => 10 - (intOf i).toNat)
      case atStart => exact ⟨0, by omega, rfl, rfl⟩
      case round =>
        obtain ⟨d, hd, rfl, rfl⟩ := hrel
        have hzz := HZ.out
        have hf := fun x => World.frozen?_alloc_at (w := W) (pw m d) 259 (w.heap.size + 2) x hzz.symm
        have hcl := fun x => World.cell?_alloc_at (w := W) (pw m d) 259 (w.heap.size + 2) x hzz.symm
        have hco := fun x => World.cell?_alloc_past (w := W) (.cells (pw m d) 259) (w.heap.size + 1) x (by omega)
        by_cases hlt : d < 10
        · have hq := Cd.permN_bd m (d : Int) (by omega)
          have h1 := (hcl d).trans (pw_at m d hlt)
          have hset := pw_set m d hlt
          generalize Cd.permN m (d : Int) = q at *
          obtain ⟨q, rfl⟩ := Int.eq_ofNat_of_zero_le hq.1
          have h2 := (hco q).trans (HC.out q (by omega))
          have h3 := hf d
          have hst := fun v => World.setCell_alloc_at (w := W) (pw m d) 259 (w.heap.size + 2) d v hzz.symm
          obtain ⟨_, hq2⟩ := hq
          clear hf hcl hco
          have HT := Lib.hid hset
          have HZ2 := Lib.hid hzz
          clear hset hzz
          go_wp2
          go_roundw
          case rel => exact ⟨d + 1, by omega, by go_num, by rw [HT.out]⟩
          case measure => simp [intOf]; omega
        · obtain rfl : d = 10 := by omega
          rw [pw_next] at hcl ⊢
          obtain ⟨x, hx⟩ : ∃ x : Nat, Cd.dg s[j] = (x : Int) := ⟨(Cd.dg s[j]).toNat, by unfold Cd.dg; omega⟩
          have hxx : (s[j].toNat : Int) - 48 = (x : Int) := hx
          have hx9 : x < 10 := by omega
          have h1 := (hcl x).trans (pw_at0 (m + 1) x hx9)
          have hq := Cd.permN_bd (m + 1) (x : Int) (by omega)
          have HS2 := Lib.hid (hx ▸ HS.out)
          generalize Cd.permN (m + 1) (x : Int) = q at *
          obtain ⟨hq1, hq2⟩ := hq
          have HZ2 := Lib.hid hzz
          clear hcl hco hf hlt hd hx hzz
          go_wp2_with fail
          refine (dihedral_any _ _ _ hb1 hb2 hq1 hq2).mono ?_
          rintro e w' ⟨rfl, rfl⟩
          go_wp2
          go_roundw
          case rel => exact ⟨j, by omega, by go_num, by rw [HS2.out], by rw [HM.out]⟩
          case measure => simp [intOf]
end Go.Proofs.YtkpfehfcgpapiaaGreatDoor

/-
  The small methods of the eight systems, how a method is found, and what 'find' returns.
  No condition.
-/
namespace Go.Proofs.YtkpfehfcgpapiaaGreatDoor
open Go.RowKit

theorem digits_size (w : World) : Calls Tryz.prog 243 #[.agg #[]] w fun e w' => e = .returned (.int .i64 1) ∧ Ext w w' := by
  go_enter Tryz.func243, Tryz.ntmps243
  go_wp2
  go_ret
  exact ⟨rfl, (by repeat (first | exact Ext.refl _ | assumption | refine Ext.alloc ?_ _ | refine Ext.drew ?_ | refine Ext.trans ?_ (by assumption)))⟩

theorem digits_length (w : World) : Calls Tryz.prog 242 #[.agg #[]] w fun e w' => e = .returned (.int .i64 0) ∧ Ext w w' := by
  go_enter Tryz.func242, Tryz.ntmps242
  go_wp2
  go_ret
  exact ⟨rfl, (by repeat (first | exact Ext.refl _ | assumption | refine Ext.alloc ?_ _ | refine Ext.drew ?_ | refine Ext.trans ?_ (by assumption)))⟩

theorem isbn_length (w : World) : Calls Tryz.prog 250 #[.agg #[]] w fun e w' => e = .returned (.int .i64 9) ∧ Ext w w' := by
  go_enter Tryz.func250, Tryz.ntmps250
  go_wp2
  go_ret
  exact ⟨rfl, (by repeat (first | exact Ext.refl _ | assumption | refine Ext.alloc ?_ _ | refine Ext.drew ?_ | refine Ext.trans ?_ (by assumption)))⟩

theorem iso97_size (w : World) : Calls Tryz.prog 255 #[.agg #[]] w fun e w' => e = .returned (.int .i64 2) ∧ Ext w w' := by
  go_enter Tryz.func255, Tryz.ntmps255
  go_wp2
  go_ret
  exact ⟨rfl, (by repeat (first | exact Ext.refl _ | assumption | refine Ext.alloc ?_ _ | refine Ext.drew ?_ | refine Ext.trans ?_ (by assumption)))⟩

theorem code39_size (w : World) : Calls Tryz.prog 260 #[.agg #[]] w fun e w' => e = .returned (.int .i64 1) ∧ Ext w w' := by
  go_enter Tryz.func260, Tryz.ntmps260
  go_wp2
  go_ret
  exact ⟨rfl, (by repeat (first | exact Ext.refl _ | assumption | refine Ext.alloc ?_ _ | refine Ext.drew ?_ | refine Ext.trans ?_ (by assumption)))⟩

theorem code39_length (w : World) : Calls Tryz.prog 259 #[.agg #[]] w fun e w' => e = .returned (.int .i64 0) ∧ Ext w w' := by
  go_enter Tryz.func259, Tryz.ntmps259
  go_wp2
  go_ret
  exact ⟨rfl, (by repeat (first | exact Ext.refl _ | assumption | refine Ext.alloc ?_ _ | refine Ext.drew ?_ | refine Ext.trans ?_ (by assumption)))⟩

theorem digits_data (c : Int) (w : World) : Calls Tryz.prog 241 #[.agg #[], .int .u8 c] w fun e w' => e = .returned (.bool (Cd.isDig c)) ∧ Ext w w' := by
  go_enter Tryz.func241, Tryz.ntmps241
  go_wp2_with fail
  refine (digit_any _ _).mono ?_
  rintro e w' ⟨rfl, rfl⟩
  go_wp2
  go_ret
  exact ⟨rfl, (by repeat (first | exact Ext.refl _ | assumption | refine Ext.alloc ?_ _ | refine Ext.drew ?_ | refine Ext.trans ?_ (by assumption)))⟩

theorem digits_check (c : Int) (w : World) : Calls Tryz.prog 240 #[.agg #[], .int .u8 c] w fun e w' => e = .returned (.bool (Cd.isDig c)) ∧ Ext w w' := by
  go_enter Tryz.func240, Tryz.ntmps240
  go_wp2_with fail
  refine (digit_any _ _).mono ?_
  rintro e w' ⟨rfl, rfl⟩
  go_wp2
  go_ret
  exact ⟨rfl, (by repeat (first | exact Ext.refl _ | assumption | refine Ext.alloc ?_ _ | refine Ext.drew ?_ | refine Ext.trans ?_ (by assumption)))⟩

theorem isbn_check (c : Int) (w : World) : Calls Tryz.prog 248 #[.agg #[], .int .u8 c] w fun e w' => e = .returned (.bool (Cd.isDig c || (c == 88))) ∧ Ext w w' := by
  cases h : Cd.isDig c
  all_goals
    have hd := digit_any c
    rw [h] at hd
    have HD := Lib.hid hd
    clear hd h
    go_enter Tryz.func248, Tryz.ntmps248
    go_wp2_with fail
    refine (HD.out _).mono ?_
    rintro e w' ⟨rfl, rfl⟩
    go_wp2
    go_ret
    exact ⟨rfl, (by repeat (first | exact Ext.refl _ | assumption | refine Ext.alloc ?_ _ | refine Ext.drew ?_ | refine Ext.trans ?_ (by assumption)))⟩

theorem iso11_check (c : Int) (w : World) : Calls Tryz.prog 261 #[.agg #[], .int .u8 c] w fun e w' => e = .returned (.bool (Cd.isDig c || (c == 88))) ∧ Ext w w' := by
  cases h : Cd.isDig c
  all_goals
    have hd := digit_any c
    rw [h] at hd
    have HD := Lib.hid hd
    clear hd h
    go_enter Tryz.func261, Tryz.ntmps261
    go_wp2_with fail
    refine (HD.out _).mono ?_
    rintro e w' ⟨rfl, rfl⟩
    go_wp2
    go_ret
    exact ⟨rfl, (by repeat (first | exact Ext.refl _ | assumption | refine Ext.alloc ?_ _ | refine Ext.drew ?_ | refine Ext.trans ?_ (by assumption)))⟩

theorem code39_data (c : Int) (w : World) : Calls Tryz.prog 258 #[.agg #[], .int .u8 c] w fun e w' => e = .returned (.bool (decide (0 ≤ Cd.plc c.toNat.toUInt8))) ∧ Ext w w' := by
  go_enter Tryz.func258, Tryz.ntmps258
  go_wp2_with fail
  refine (idx_any _ _).mono ?_
  rintro e w' ⟨rfl, rfl⟩
  go_wp2
  go_ret
  exact ⟨rfl, (by repeat (first | exact Ext.refl _ | assumption | refine Ext.alloc ?_ _ | refine Ext.drew ?_ | refine Ext.trans ?_ (by assumption)))⟩

theorem code39_check (c : Int) (w : World) : Calls Tryz.prog 256 #[.agg #[], .int .u8 c] w fun e w' => e = .returned (.bool (decide (0 ≤ Cd.plc c.toNat.toUInt8))) ∧ Ext w w' := by
  go_enter Tryz.func256, Tryz.ntmps256
  go_wp2_with fail
  refine (idx_any _ _).mono ?_
  rintro e w' ⟨rfl, rfl⟩
  go_wp2
  go_ret
  exact ⟨rfl, (by repeat (first | exact Ext.refl _ | assumption | refine Ext.alloc ?_ _ | refine Ext.drew ?_ | refine Ext.trans ?_ (by assumption)))⟩

/-- A method of a value without fields: found, and what it returns. -/
def Meth (T : Nat) (name : String) (args : Array Value) (v : Value) : Prop :=
  ∃ f, (∀ w, (method 369 T (.agg #[]) name).run Tryz.prog w = .ok (f, .agg #[]) w) ∧ (∀ xs w, (callFunc f xs).run Tryz.prog w = .ok (.enter f xs) w) ∧
    ∀ w, Calls Tryz.prog f (#[.agg #[]] ++ args) w fun e w' => e = .returned v ∧ Ext w w'

structure SysAt (k : Nat) (T : Nat) : Prop where
  size : Meth T "barscan/checkdigit.size" #[] (.int .i64 (Cd.size k))
  length : Meth T "barscan/checkdigit.length" #[] (.int .i64 (if k = 3 then 9 else 0))
  data : ∀ c : Int, Meth T "barscan/checkdigit.data" #[.int .u8 c] (.bool (Cd.datB k c))
  check : ∀ c : Int, Meth T "barscan/checkdigit.check" #[.int .u8 c] (.bool (Cd.chkB k c))
  compute : ∀ s : ByteArray, s.size ≤ 4096 → (∀ c ∈ s.data.toList, Cd.datB k (c.toNat : Int) = true) → (k = 3 → s.size = 9) → Meth T "barscan/checkdigit.compute" #[.string s] (.string ⟨(Cd.cmp k s.data.toList).toArray⟩)
  found : ∀ w, Calls Tryz.prog 122 #[.int .i64 k] w fun e w' => e = .returned (.tuple #[.iface T (.agg #[]), .bool true]) ∧ Ext w w'

theorem allDig_of {l : List UInt8} (h : ∀ c ∈ l, Cd.isDig (c.toNat : Int) = true) : Cd.AllDig l := fun c hc => by
  have := h c hc
  simp only [Cd.isDig, Bool.and_eq_true, decide_eq_true_eq] at this
  omega

set_option maxHeartbeats 400000 in
theorem sys1 : SysAt 1 172 where
  size := ⟨243, fun _ => by kernel_rfl, fun _ _ => by kernel_rfl, fun w => digits_size w⟩
  length := ⟨242, fun _ => by kernel_rfl, fun _ _ => by kernel_rfl, fun w => digits_length w⟩
  data c := ⟨241, fun _ => by kernel_rfl, fun _ _ => by kernel_rfl, fun w => digits_data c w⟩
  check c := ⟨240, fun _ => by kernel_rfl, fun _ _ => by kernel_rfl, fun w => digits_check c w⟩
  compute s h1 h2 h3 := ⟨245, fun _ => by kernel_rfl, fun _ _ => by kernel_rfl, fun w => gs1_any s w h1 (allDig_of h2)⟩
  found w := by
    go_enter Tryz.func122, Tryz.ntmps122
    go_wp2
    go_ret2
    exact ⟨rfl, (by repeat (first | exact Ext.refl _ | assumption | refine Ext.alloc ?_ _ | refine Ext.drew ?_ | refine Ext.trans ?_ (by assumption)))⟩

set_option maxHeartbeats 400000 in
theorem sys2 : SysAt 2 173 where
  size := ⟨243, fun _ => by kernel_rfl, fun _ _ => by kernel_rfl, fun w => digits_size w⟩
  length := ⟨242, fun _ => by kernel_rfl, fun _ _ => by kernel_rfl, fun w => digits_length w⟩
  data c := ⟨241, fun _ => by kernel_rfl, fun _ _ => by kernel_rfl, fun w => digits_data c w⟩
  check c := ⟨240, fun _ => by kernel_rfl, fun _ _ => by kernel_rfl, fun w => digits_check c w⟩
  compute s h1 h2 h3 := ⟨247, fun _ => by kernel_rfl, fun _ _ => by kernel_rfl, fun w => luhn_any s w h1 (allDig_of h2)⟩
  found w := by
    go_enter Tryz.func122, Tryz.ntmps122
    go_wp2
    go_ret2
    exact ⟨rfl, (by repeat (first | exact Ext.refl _ | assumption | refine Ext.alloc ?_ _ | refine Ext.drew ?_ | refine Ext.trans ?_ (by assumption)))⟩

set_option maxHeartbeats 400000 in
theorem sys3 : SysAt 3 174 where
  size := ⟨243, fun _ => by kernel_rfl, fun _ _ => by kernel_rfl, fun w => digits_size w⟩
  length := ⟨250, fun _ => by kernel_rfl, fun _ _ => by kernel_rfl, fun w => isbn_length w⟩
  data c := ⟨241, fun _ => by kernel_rfl, fun _ _ => by kernel_rfl, fun w => digits_data c w⟩
  check c := ⟨248, fun _ => by kernel_rfl, fun _ _ => by kernel_rfl, fun w => isbn_check c w⟩
  compute s h1 h2 h3 := ⟨249, fun _ => by kernel_rfl, fun _ _ => by kernel_rfl, fun w => isbn_any s w (h3 rfl) (allDig_of h2)⟩
  found w := by
    go_enter Tryz.func122, Tryz.ntmps122
    go_wp2
    go_ret2
    exact ⟨rfl, (by repeat (first | exact Ext.refl _ | assumption | refine Ext.alloc ?_ _ | refine Ext.drew ?_ | refine Ext.trans ?_ (by assumption)))⟩

set_option maxHeartbeats 400000 in
theorem sys4 : SysAt 4 175 where
  size := ⟨243, fun _ => by kernel_rfl, fun _ _ => by kernel_rfl, fun w => digits_size w⟩
  length := ⟨242, fun _ => by kernel_rfl, fun _ _ => by kernel_rfl, fun w => digits_length w⟩
  data c := ⟨241, fun _ => by kernel_rfl, fun _ _ => by kernel_rfl, fun w => digits_data c w⟩
  check c := ⟨240, fun _ => by kernel_rfl, fun _ _ => by kernel_rfl, fun w => digits_check c w⟩
  compute s h1 h2 h3 := ⟨251, fun _ => by kernel_rfl, fun _ _ => by kernel_rfl, fun w => verhoeff_any s w h1 (allDig_of h2)⟩
  found w := by
    go_enter Tryz.func122, Tryz.ntmps122
    go_wp2
    go_ret2
    exact ⟨rfl, (by repeat (first | exact Ext.refl _ | assumption | refine Ext.alloc ?_ _ | refine Ext.drew ?_ | refine Ext.trans ?_ (by assumption)))⟩

set_option maxHeartbeats 400000 in
theorem sys5 : SysAt 5 176 where
  size := ⟨243, fun _ => by kernel_rfl, fun _ _ => by kernel_rfl, fun w => digits_size w⟩
  length := ⟨242, fun _ => by kernel_rfl, fun _ _ => by kernel_rfl, fun w => digits_length w⟩
  data c := ⟨241, fun _ => by kernel_rfl, fun _ _ => by kernel_rfl, fun w => digits_data c w⟩
  check c := ⟨240, fun _ => by kernel_rfl, fun _ _ => by kernel_rfl, fun w => digits_check c w⟩
  compute s h1 h2 h3 := ⟨253, fun _ => by kernel_rfl, fun _ _ => by kernel_rfl, fun w => damm_any s w h1 (allDig_of h2)⟩
  found w := by
    go_enter Tryz.func122, Tryz.ntmps122
    go_wp2
    go_ret2
    exact ⟨rfl, (by repeat (first | exact Ext.refl _ | assumption | refine Ext.alloc ?_ _ | refine Ext.drew ?_ | refine Ext.trans ?_ (by assumption)))⟩

set_option maxHeartbeats 400000 in
theorem sys6 : SysAt 6 177 where
  size := ⟨255, fun _ => by kernel_rfl, fun _ _ => by kernel_rfl, fun w => iso97_size w⟩
  length := ⟨242, fun _ => by kernel_rfl, fun _ _ => by kernel_rfl, fun w => digits_length w⟩
  data c := ⟨241, fun _ => by kernel_rfl, fun _ _ => by kernel_rfl, fun w => digits_data c w⟩
  check c := ⟨240, fun _ => by kernel_rfl, fun _ _ => by kernel_rfl, fun w => digits_check c w⟩
  compute s h1 h2 h3 := ⟨254, fun _ => by kernel_rfl, fun _ _ => by kernel_rfl, fun w => iso97_any s w h1 (allDig_of h2)⟩
  found w := by
    go_enter Tryz.func122, Tryz.ntmps122
    go_wp2
    go_ret2
    exact ⟨rfl, (by repeat (first | exact Ext.refl _ | assumption | refine Ext.alloc ?_ _ | refine Ext.drew ?_ | refine Ext.trans ?_ (by assumption)))⟩

set_option maxHeartbeats 400000 in
theorem sys7 : SysAt 7 178 where
  size := ⟨260, fun _ => by kernel_rfl, fun _ _ => by kernel_rfl, fun w => code39_size w⟩
  length := ⟨259, fun _ => by kernel_rfl, fun _ _ => by kernel_rfl, fun w => code39_length w⟩
  data c := ⟨258, fun _ => by kernel_rfl, fun _ _ => by kernel_rfl, fun w => code39_data c w⟩
  check c := ⟨256, fun _ => by kernel_rfl, fun _ _ => by kernel_rfl, fun w => code39_check c w⟩
  compute s h1 h2 h3 := ⟨257, fun _ => by kernel_rfl, fun _ _ => by kernel_rfl, fun w => code39_any s w h1 (fun c hc => by have := h2 c hc; simpa [Cd.datB] using this)⟩
  found w := by
    go_enter Tryz.func122, Tryz.ntmps122
    go_wp2
    go_ret2
    exact ⟨rfl, (by repeat (first | exact Ext.refl _ | assumption | refine Ext.alloc ?_ _ | refine Ext.drew ?_ | refine Ext.trans ?_ (by assumption)))⟩

set_option maxHeartbeats 400000 in
theorem sys8 : SysAt 8 179 where
  size := ⟨243, fun _ => by kernel_rfl, fun _ _ => by kernel_rfl, fun w => digits_size w⟩
  length := ⟨242, fun _ => by kernel_rfl, fun _ _ => by kernel_rfl, fun w => digits_length w⟩
  data c := ⟨241, fun _ => by kernel_rfl, fun _ _ => by kernel_rfl, fun w => digits_data c w⟩
  check c := ⟨261, fun _ => by kernel_rfl, fun _ _ => by kernel_rfl, fun w => iso11_check c w⟩
  compute s h1 h2 h3 := ⟨262, fun _ => by kernel_rfl, fun _ _ => by kernel_rfl, fun w => iso11_any s w h1 (allDig_of h2)⟩
  found w := by
    go_enter Tryz.func122, Tryz.ntmps122
    go_wp2
    go_ret2
    exact ⟨rfl, (by repeat (first | exact Ext.refl _ | assumption | refine Ext.alloc ?_ _ | refine Ext.drew ?_ | refine Ext.trans ?_ (by assumption)))⟩

theorem sys_of (k : Nat) (h1 : 1 ≤ k) (h2 : k ≤ 8) : ∃ T, SysAt k T := by
  match k, h1, h2 with
  | 1, _, _ => exact ⟨_, sys1⟩
  | 2, _, _ => exact ⟨_, sys2⟩
  | 3, _, _ => exact ⟨_, sys3⟩
  | 4, _, _ => exact ⟨_, sys4⟩
  | 5, _, _ => exact ⟨_, sys5⟩
  | 6, _, _ => exact ⟨_, sys6⟩
  | 7, _, _ => exact ⟨_, sys7⟩
  | 8, _, _ => exact ⟨_, sys8⟩

set_option maxHeartbeats 400000 in
theorem find_none (k : Int) (w : World) (h : k < 1 ∨ 8 < k) : Calls Tryz.prog 122 #[.int .i64 k] w fun e w' => e = .returned (.tuple #[.nilIface, .bool false]) ∧ Ext w w' := by
  have h1 : (k == 1) = false := by simp; omega
  have h2 : (k == 2) = false := by simp; omega
  have h3 : (k == 3) = false := by simp; omega
  have h4 : (k == 4) = false := by simp; omega
  have h5 : (k == 5) = false := by simp; omega
  have h6 : (k == 6) = false := by simp; omega
  have h7 : (k == 7) = false := by simp; omega
  have h8 : (k == 8) = false := by simp; omega
  clear h
  go_enter Tryz.func122, Tryz.ntmps122
  go_wp2
  go_ret2
  exact ⟨rfl, (by repeat (first | exact Ext.refl _ | assumption | refine Ext.alloc ?_ _ | refine Ext.drew ?_ | refine Ext.trans ?_ (by assumption)))⟩
end Go.Proofs.YtkpfehfcgpapiaaGreatDoor

/-
  'all', 'complete', Verify, Compute, Append and Size of checkdigit, walked.
  Conditions: strings within the reach.
-/
namespace Go.Proofs.YtkpfehfcgpapiaaGreatDoor
open Go.RowKit

theorem all_take_succ (s : ByteArray) (p : UInt8 → Bool) (k : Nat) (h : k < s.size) : (s.data.toList.take (k + 1)).all p = ((s.data.toList.take k).all p && p s[k]) := by
  rw [take_snoc s k h]; simp
theorem all_false_at (s : ByteArray) (p : UInt8 → Bool) (k : Nat) (h : k < s.size) (hp : p s[k] = false) : s.data.toList.all p = false := by
  rw [List.all_eq_false]
  exact ⟨s[k], mem_at s k h, by simp [hp]⟩

set_option maxHeartbeats 400000 in
theorem all_meth (nm : String) (T : Nat) (p : Int → Bool) (hm : ∀ c : Int, Meth T nm #[.int .u8 c] (.bool (p c))) (s : ByteArray) (w : World) (hs : s.size ≤ 9223372036854775807) :
    Calls Tryz.prog 124 #[.string s, .func (.method nm) #[.iface T (.agg #[])] #[]] w fun e w' => e = .returned (.bool (s.data.toList.all fun c => p c.toNat)) ∧ Ext w w' := by
  have HM := Lib.hid hm
  clear hm
  go_enter Tryz.func124, Tryz.ntmps124
  go_wp2
  go_loopw [8] (fun i wr => ∃ k : Nat, k ≤ s.size ∧ i = .int .i64 k ∧ Hid ((s.data.toList.take k).all (fun c => p c.toNat) = true) ∧ Ext w wr) (fun i _ => s.size - (intOf i).toNat)
  case atStart => exact ⟨0, Nat.zero_le _, rfl, rfl, Ext.refl _⟩
  case round =>
    obtain ⟨k, hk, rfl, ha, hx⟩ := hrel
    by_cases hlt : k < s.size
    · obtain ⟨f, h1, h2, h3⟩ := HM.out (s[k].toNat : Int)
      have HA := Lib.hid (all_take_succ s (fun c => p c.toNat) k hlt)
      have HF := Lib.hid (all_false_at s (fun c => p c.toNat) k hlt)
      have H3 := Lib.hid h3
      clear h3
      cases hp : p (s[k].toNat : Int)
      · rw [hp] at H3
        have HP := Lib.hid hp
        clear hp
        go_wp2_with fail
        refine (H3.out _).mono ?_
        rintro e w1 ⟨rfl, hx1⟩
        go_wp2
        go_ret
        exact ⟨ret_bool (HF.out HP.out).symm, hx.trans hx1⟩
      · rw [hp] at H3
        have HP := Lib.hid hp
        clear hp
        go_wp2_with fail
        refine (H3.out _).mono ?_
        rintro e w1 ⟨rfl, hx1⟩
        go_wp2
        go_roundw
        case rel => exact ⟨k + 1, by omega, by go_num, by show _ = _; rw [HA.out, ha.out]; simpa using HP.out, hx.trans hx1⟩
        case measure => simp [intOf]; omega
    · obtain rfl : k = s.size := by omega
      rw [take_all] at ha
      clear hk hlt
      go_wp2
      go_ret
      exact ⟨ret_bool ha.out.symm, hx⟩

set_option maxHeartbeats 400000 in
theorem complete_any (k : Nat) (T : Nat) (hy : SysAt k T) (n : Nat) (w : World) (_hn : n ≤ 1000000) :
    Calls Tryz.prog 123 #[.iface T (.agg #[]), .int .i64 n] w fun e w' => e = .returned (.bool (Cd.fits k n)) ∧ Ext w w' := by
  obtain ⟨f1, h1, h2, h3⟩ := hy.size
  obtain ⟨f2, g1, g2, g3⟩ := hy.length
  have H3 := Lib.hid h3
  have G3 := Lib.hid g3
  clear h3 g3 hy
  by_cases hk : k = 3
  · subst hk
    simp only [if_true] at G3
    rw [show Cd.size 3 = 1 from rfl] at H3
    go_enter Tryz.func123, Tryz.ntmps123
    go_wp2_with fail
    refine (G3.out _).mono ?_
    rintro e w1 ⟨rfl, hx1⟩
    go_wp2_with fail
    refine (G3.out _).mono ?_
    rintro e w2 ⟨rfl, hx2⟩
    go_wp2_with fail
    refine (H3.out _).mono ?_
    rintro e w3 ⟨rfl, hx3⟩
    go_wp2
    go_ret
    exact ⟨ret_bool (by rw [Bool.eq_iff_iff]; simp [Cd.fits]; omega), (hx1.trans hx2).trans hx3⟩
  · simp only [hk, if_false] at G3
    have hsz : Cd.size k ≤ 2 := by unfold Cd.size; split <;> omega
    have HK := Lib.hid hk
    clear hk
    go_enter Tryz.func123, Tryz.ntmps123
    go_wp2_with fail
    refine (G3.out _).mono ?_
    rintro e w1 ⟨rfl, hx1⟩
    go_wp2_with fail
    refine (H3.out _).mono ?_
    rintro e w3 ⟨rfl, hx3⟩
    go_wp2
    go_ret
    exact ⟨ret_bool (by simp [Cd.fits, HK.out]), hx1.trans hx3⟩

theorem verify_bad (k : Int) (s : ByteArray) (w : World) (h : k < 1 ∨ 8 < k) :
    Calls Tryz.prog 89 #[.int .i64 k, .string s] w fun e w' => e = .returned (.int .i64 1) ∧ Ext w w' := by
  have H := Lib.hid (find_none k w h)
  clear h
  go_enter Tryz.func89, Tryz.ntmps89
  go_wp2_with fail
  refine H.out.mono ?_
  rintro e w1 ⟨rfl, hx1⟩
  go_wp2
  go_ret
  exact ⟨rfl, hx1⟩

set_option maxRecDepth 100000 in
set_option maxHeartbeats 1000000 in
theorem verify_sys (k : Nat) (T : Nat) (hy : SysAt k T) (s : ByteArray) (w : World) (hs : s.size ≤ 9223372036854775807) :
    Calls Tryz.prog 89 #[.int .i64 k, .string s] w fun e w' => e = .returned (.int .i64 (Cd.ver k s.data.toList)) ∧ Ext w w' := by
  have HF := Lib.hid (hy.found w)
  by_cases hl : 4096 < s.size
  · have HV : Hid (Cd.ver k s.data.toList = 4) := by show _ = _; unfold Cd.ver; rw [len_data, if_pos hl]
    clear hy
    go_enter Tryz.func89, Tryz.ntmps89
    go_wp2_with fail
    refine HF.out.mono ?_
    rintro e w1 ⟨rfl, hx1⟩
    go_wp2
    go_ret
    exact ⟨ret_int HV.out.symm, hx1⟩
  · have HC := Lib.hid (fun w => complete_any k T hy s.size w (by omega))
    have hl' : s.size ≤ 4096 := by omega
    cases hf : Cd.fits k s.size
    · have HV : Hid (Cd.ver k s.data.toList = 7) := by show _ = _; unfold Cd.ver; rw [len_data, if_neg hl, if_pos hf]
      rw [hf] at HC
      clear hy hl hf
      go_enter Tryz.func89, Tryz.ntmps89
      go_wp2_with fail
      refine HF.out.mono ?_
      rintro e w1 ⟨rfl, hx1⟩
      go_wp2_with fail
      refine (HC.out _).mono ?_
      rintro e w2 ⟨rfl, hx2⟩
      go_wp2
      go_ret
      exact ⟨ret_int HV.out.symm, hx1.trans hx2⟩
    · have hlt := Cd.fits_lt k s.size hf
      have h9 : Hid (k = 3 → s.size = 10) := by rintro rfl; exact Cd.fits_isbn _ hf
      obtain ⟨f1, h1, h2, h3⟩ := hy.size
      have HS := Lib.hid h3
      have HY := Lib.hid hy
      rw [hf] at HC
      have HFT := Lib.hid hf
      clear h3 hy hl hf
      go_enter Tryz.func89, Tryz.ntmps89
      go_wp2_with fail
      refine HF.out.mono ?_
      rintro e w1 ⟨rfl, hx1⟩
      go_wp2_with fail
      refine (HC.out _).mono ?_
      rintro e w2 ⟨rfl, hx2⟩
      go_wp2_with fail
      refine wp_region_quiet (C := fun w' => ∃ x : Ahead w2, w' = x.at') (by kernel_rfl) (by kernel_rfl) (Ahead.drawn _) ?_
      try dsimp only
      repeat (first | go_big_quiet_step ((exact ahead_of (HS.out _))) | quiet_step ((exact ahead_of (HS.out _))))
      refine wpQuiet_nil ?_
      intro _ hx0
      obtain ⟨x0, hx0⟩ := hx0
      subst hx0
      obtain ⟨w3, hx3⟩ := x0
      try dsimp only
      have hD := cut_front s (s.size - Cd.size k)
      have hE := cut_back s (s.size - Cd.size k)
      have hDs : (s.extract 0 (s.size - Cd.size k)).size = s.size - Cd.size k := by rw [size_of_toList hD, len_take _ _ (by omega)]
      have hEs : (s.extract (s.size - Cd.size k) s.size).size = s.size - (s.size - Cd.size k) := by rw [size_of_toList hE, len_drop]
      generalize s.extract 0 (s.size - Cd.size k) = D at *
      generalize s.extract (s.size - Cd.size k) s.size = E at *
      have hDl : D.size ≤ 4096 := by omega
      have hEl : E.size ≤ 4096 := by omega
      have HV : Hid (Cd.ver k s.data.toList = if D.data.toList.all (fun c => Cd.datB k c.toNat) = false then 6 else if E.data.toList.all (fun c => Cd.chkB k c.toNat) = false then 6 else if Cd.cmp k D.data.toList = E.data.toList then 0 else 8) := by
        show _ = _
        unfold Cd.ver
        rw [len_data, if_neg (by omega), if_neg (by rw [HFT.out]; exact Bool.noConfusion), ← hD, ← hE]
      have h9' : Hid (k = 3 → D.size = 9) := fun e => by have h1 := h9.out e; subst e; have h2 : Cd.size 3 = 1 := rfl; omega
      clear hD hE hDs hEs
      have HAD := Lib.hid (fun w => all_meth "barscan/checkdigit.data" T (Cd.datB k) HY.out.data D w (by omega))
      have HAE := Lib.hid (fun w => all_meth "barscan/checkdigit.check" T (Cd.chkB k) HY.out.check E w (by omega))
      have HDA := Lib.hid (fun h => HY.out.compute D hDl h h9'.out)
      have hXX := (hx1.trans hx2).trans hx3
      clear hx1 hx2 hx3
      cases hda : D.data.toList.all (fun c => Cd.datB k c.toNat)
      · rw [hda] at HAD HV
        simp only [if_true] at HV
        clear hda HDA
        go_wp2_with fail
        refine (HAD.out _).mono ?_
        rintro e w4 ⟨rfl, hx4⟩
        go_wp2
        go_ret
        exact ⟨ret_int HV.out.symm, hXX.trans hx4⟩
      · rw [hda] at HAD HV
        simp only [Bool.true_eq_false, if_false] at HV
        have hda' : ∀ c ∈ D.data.toList, Cd.datB k (c.toNat : Int) = true := List.all_eq_true.1 hda
        obtain ⟨f2, g1, g2, g3⟩ := HDA.out hda'
        have HG := Lib.hid g3
        clear g3 hda hda' HDA
        cases hea : E.data.toList.all (fun c => Cd.chkB k c.toNat)
        · rw [hea] at HAE HV
          simp only [if_true] at HV
          clear hea
          go_wp2_with fail
          refine (HAD.out _).mono ?_
          rintro e w4 ⟨rfl, hx4⟩
          go_wp2_with fail
          refine (HAE.out _).mono ?_
          rintro e w5 ⟨rfl, hx5⟩
          go_wp2
          go_ret
          exact ⟨ret_int HV.out.symm, (hXX.trans hx4).trans hx5⟩
        · rw [hea] at HAE HV
          simp only [Bool.true_eq_false, if_false] at HV
          clear hea
          go_wp2_with fail
          refine (HAD.out _).mono ?_
          rintro e w4 ⟨rfl, hx4⟩
          go_wp2_with fail
          refine (HAE.out _).mono ?_
          rintro e w5 ⟨rfl, hx5⟩
          go_wp2_with fail
          refine (HG.out _).mono ?_
          rintro e w6 ⟨rfl, hx6⟩
          have hXY := ((hXX.trans hx4).trans hx5).trans hx6
          by_cases hq : Cd.cmp k D.data.toList = E.data.toList
          · have hq' : (!Cd.cmp k D.data.toList == E.toList) = false := by rw [Lib.toList_data, hq]; simp
            rw [if_pos hq] at HV
            clear hq
            go_wp2
            go_ret
            exact ⟨ret_int HV.out.symm, hXY⟩
          · have hq' : (!Cd.cmp k D.data.toList == E.toList) = true := by rw [Lib.toList_data]; simpa using hq
            rw [if_neg hq] at HV
            clear hq
            go_wp2
            go_ret
            exact ⟨ret_int HV.out.symm, hXY⟩

theorem verify_any (k : Int) (s : ByteArray) (w : World) (hs : s.size ≤ 9223372036854775807) :
    Calls Tryz.prog 89 #[.int .i64 k, .string s] w fun e w' => e = .returned (.int .i64 (Cd.verI k s.data.toList)) ∧ Ext w w' := by
  by_cases h : k < 1 ∨ 8 < k
  · rw [Cd.verI, if_pos h]; exact verify_bad k s w h
  · rw [Cd.verI, if_neg h]
    obtain ⟨n, rfl⟩ := Int.eq_ofNat_of_zero_le (show 0 ≤ k by omega)
    obtain ⟨T, hT⟩ := sys_of n (by omega) (by omega)
    exact verify_sys n T hT s w hs

theorem ret_pair {a b : ByteArray} {x y : Int} (h1 : a = b) (h2 : x = y) : Ending.returned (.tuple #[.string a, .int .i64 x]) = .returned (.tuple #[.string b, .int .i64 y]) := by rw [h1, h2]
theorem empty_iff (s : ByteArray) : s.data.toList = [] ↔ s.size = 0 := by
  rw [← len_data]; exact ⟨fun h => by rw [h]; rfl, fun h => List.eq_nil_of_length_eq_zero h⟩

end Go.Proofs.YtkpfehfcgpapiaaGreatDoor
