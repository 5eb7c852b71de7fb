/-
  The reference's quasigroup and dihedral group, its check characters, Compute, Append and Verify, walked.
  Conditions: strings within the reach.
-/
import Derived.Test.YthjlnpcaclfopaaGreatCdR2
import Derived.Test.YthjlnpcaclfopaaGreatCdW4
namespace Go.Proofs.YthjlnpcaclfopaaGreat
open Go.RowKit

theorem q_at : ∀ (c x : Fin 10) (h : 10 * c.1 + x.1 < (⟨#[48, 51, 49, 55, 53, 57, 56, 54, 52, 50, 55, 48, 57, 50, 49, 53, 52, 56, 54, 51, 52, 50, 48, 54, 56, 55, 49, 51, 53, 57, 49, 55, 53, 48, 57, 56, 51, 52, 50, 54, 54, 49, 50, 51, 48, 52, 53, 57, 55, 56, 51, 54, 55, 52, 50, 48, 57, 53, 56, 49, 53, 56, 54, 57, 55, 50, 48, 49, 51, 52, 56, 57, 52, 53, 51, 54, 50, 48, 49, 55, 57, 52, 51, 56, 54, 49, 55, 50, 48, 53, 50, 53, 56, 49, 52, 51, 54, 55, 57, 48]⟩ : ByteArray).size), ((((⟨#[48, 51, 49, 55, 53, 57, 56, 54, 52, 50, 55, 48, 57, 50, 49, 53, 52, 56, 54, 51, 52, 50, 48, 54, 56, 55, 49, 51, 53, 57, 49, 55, 53, 48, 57, 56, 51, 52, 50, 54, 54, 49, 50, 51, 48, 52, 53, 57, 55, 56, 51, 54, 55, 52, 50, 48, 57, 53, 56, 49, 53, 56, 54, 57, 55, 50, 48, 49, 51, 52, 56, 57, 52, 53, 51, 54, 50, 48, 49, 55, 57, 52, 51, 56, 54, 49, 55, 50, 48, 53, 50, 53, 56, 49, 52, 51, 54, 55, 57, 48]⟩ : ByteArray)[10 * c.1 + x.1]'h).toNat : Int) - 48) % 256 = Cd.dmAt (c.1 : Int) (x.1 : Int) := by decide +kernel
set_option maxHeartbeats 400000 in
theorem rquasi_any (s : ByteArray) (w : World) (hs : s.size ≤ 4096) (HD : Hid (Cd.AllDig s.data.toList)) :
    Calls Tryz.prog 87 #[.string s] w fun e w' => e = .returned (.int .i64 (Cd.dm s.data.toList)) ∧ w = w' := by
  go_enter Tryz.func87, Tryz.ntmps87
  go_wp2
  go_loop [3, 4] (fun t i => ∃ k : Nat, k ≤ s.size ∧ i = .int .i64 ((k : Int) - 1) ∧ t = .int .i64 (Cd.dm (s.data.toList.take (s.size - k)))) (fun _ i => (intOf i + 1).toNat)
  case atStart => exact ⟨s.size, Nat.le_refl _, rfl, by rw [Nat.sub_self]; rfl⟩
  case round =>
    obtain ⟨k, hk, rfl, rfl⟩ := hrel
    obtain ⟨hb1, hb2⟩ := Cd.dm_bd (s.data.toList.take (s.size - k)) (Cd.allDig_take HD.out _)
    by_cases h0 : k = 0
    · subst h0
      rw [Nat.sub_zero, take_all] at hb1 hb2 ⊢
      go_wp2
      go_ret
      exact ⟨rfl, rfl⟩
    · obtain ⟨j, rfl⟩ : ∃ j, k = j + 1 := ⟨k - 1, by omega⟩
      have hjl : j < s.size := by omega
      obtain ⟨hd1, hd2⟩ := Cd.dg_bd (HD.out _ (mem_at s (s.size - 1 - j) (by omega)))
      have HV := Lib.hid (fun w => value_any s j w (by omega) hjl HD)
      have hs1 : Cd.dm (s.data.toList.take (s.size - j)) = Cd.dmAt (Cd.dm (s.data.toList.take (s.size - (j + 1)))) (Cd.dg (s[s.size - 1 - j]'(by omega))) := by
        rw [take_back s j hjl]; unfold Cd.dm; rw [Cd.foldl_snoc]
      generalize Cd.dm (s.data.toList.take (s.size - (j + 1))) = g at *
      generalize Cd.dg (s[s.size - 1 - j]'(by omega)) = d at *
      have HS := Lib.hid hs1
      clear hs1 h0
      obtain ⟨c, rfl⟩ := Int.eq_ofNat_of_zero_le hb1
      obtain ⟨x, rfl⟩ := Int.eq_ofNat_of_zero_le hd1
      go_wp2_with fail
      refine (HV.out _).mono ?_
      rintro e w' ⟨rfl, rfl⟩
      go_wp2
      go_round
      case rel => exact ⟨j, by omega, by go_num, by rw [HS.out]; exact congrArg _ (q_at ⟨c, by omega⟩ ⟨x, by omega⟩ _)⟩
      case measure => simp [intOf]

theorem p_at : ∀ (x : Fin 10) (h : x.1 < (⟨#[49, 53, 55, 54, 50, 56, 51, 48, 57, 52]⟩ : ByteArray).size), ((((⟨#[49, 53, 55, 54, 50, 56, 51, 48, 57, 52]⟩ : ByteArray)[x.1]'h).toNat : Int) - 48) % 256 = Cd.perm (x.1 : Int) := by decide +kernel
theorem perm8 : ∀ x : Fin 10, Cd.permN 8 (x.1 : Int) = (x.1 : Int) := by decide +kernel
theorem permN_add (a b : Nat) (x : Int) : Cd.permN (a + b) x = Cd.permN a (Cd.permN b x) := by
  induction a with
  | zero => rw [Nat.zero_add]; rfl
  | succ a ih => rw [show a + 1 + b = (a + b) + 1 by omega]; exact congrArg Cd.perm ih
theorem permN_8mul (q : Nat) (x : Nat) (h : x < 10) : Cd.permN (8 * q) (x : Int) = (x : Int) := by
  induction q with
  | zero => rfl
  | succ q ih => rw [show 8 * (q + 1) = 8 * q + 8 by omega, permN_add, perm8 ⟨x, h⟩]; exact ih
theorem permN_mod (i x : Nat) (h : x < 10) : Cd.permN (i % 8 + 1) (x : Int) = Cd.permN (i + 1) (x : Int) := by
  have e : i + 1 = (i % 8 + 1) + 8 * (i / 8) := by omega
  have h2 : Cd.permN (i + 1) (x : Int) = Cd.permN ((i % 8 + 1) + 8 * (i / 8)) (x : Int) := congrArg (fun n => Cd.permN n (x : Int)) e
  rw [h2, permN_add (i % 8 + 1) (8 * (i / 8)), permN_8mul (i / 8) x h]

set_option maxHeartbeats 1000000 in
theorem rverhoeff_any (s : ByteArray) (w : World) (hs : s.size ≤ 4096) (HD : Hid (Cd.AllDig s.data.toList)) :
    Calls Tryz.prog 86 #[.string s] w fun e w' => e = .returned (.int .i64 (Cd.inv (Cd.vh s.data.toList))) ∧ w = w' := by
  go_enter Tryz.func86, Tryz.ntmps86
  go_wp2
  go_loop [3, 4] (fun t i => ∃ j : Nat, j ≤ s.size ∧ i = .int .i64 (j : Int) ∧ t = .int .i64 (Cd.vh (s.data.toList.drop (s.size - j)))) (fun _ i => s.size - (intOf i).toNat)
  case atStart => exact ⟨0, Nat.zero_le _, rfl, by rw [Nat.sub_zero, drop_all]; rfl⟩
  case round =>
    obtain ⟨j, hj, rfl, rfl⟩ := hrel
    obtain ⟨hb1, hb2⟩ := Cd.vh_bd _ (Cd.allDig_drop HD.out (s.size - j))
    by_cases hlt : j < s.size
    · obtain ⟨hd1, hd2⟩ := Cd.dg_bd (HD.out _ (mem_at s (s.size - 1 - j) (by omega)))
      have HV := Lib.hid (fun w => value_any s j w (by omega) hlt HD)
      have hs1 : Cd.vh (s.data.toList.drop (s.size - (j + 1))) = Cd.dih (Cd.vh (s.data.toList.drop (s.size - j))) (Cd.permN ((s.data.toList.drop (s.size - j)).length + 1) (Cd.dg (s[s.size - 1 - j]'(by omega)))) := congrArg Cd.vh (drop_back s j hlt)
      rw [len_drop, show s.size - (s.size - j) = j by omega] at hs1
      generalize Cd.vh (s.data.toList.drop (s.size - j)) = g at *
      generalize Cd.dg (s[s.size - 1 - j]'(by omega)) = d at *
      obtain ⟨x, rfl⟩ := Int.eq_ofNat_of_zero_le hd1
      rw [← permN_mod j x (by omega)] at hs1
      have HS := Lib.hid hs1
      clear hs1
      have hm : j % 8 < 8 := Nat.mod_lt _ (by omega)
      have hx9 : x ≤ 9 := by omega
      go_wp2_with fail
      refine (HV.out _).mono ?_
      rintro e w' ⟨rfl, rfl⟩
      go_wp2
      go_loop [5, 6] (fun t i => ∃ m : Nat, m ≤ j % 8 + 1 ∧ i = .int .i64 (m : Int) ∧ t = .int .i64 (Cd.permN m (x : Int))) (fun _ i => j % 8 + 1 - (intOf i).toNat)
      case atStart => exact ⟨0, by omega, rfl, rfl⟩
      case round =>
        obtain ⟨m, hm', rfl, rfl⟩ := hrel
        obtain ⟨hq1, hq2⟩ := Cd.permN_bd m (x : Int) (by omega)
        by_cases hml : m < j % 8 + 1
        · have HP : Hid (Cd.permN (m + 1) (x : Int) = Cd.perm (Cd.permN m (x : Int))) := rfl
          generalize Cd.permN m (x : Int) = q at *
          obtain ⟨q, rfl⟩ := Int.eq_ofNat_of_zero_le hq1
          have hle : (m : Int) ≤ (j : Int) % 8 := by omega
          go_wp2
          go_round
          case rel => exact ⟨m + 1, by omega, by go_num, by rw [HP.out]; exact congrArg _ (p_at ⟨q, by omega⟩ _)⟩
          case measure => simp [intOf]; omega
        · obtain rfl : m = j % 8 + 1 := by omega
          have hgt : ¬ ((j : Int) % 8 + 1 ≤ (j : Int) % 8) := by omega
          generalize Cd.permN (j % 8 + 1) (x : Int) = q at *
          have hcast : ((j % 8 + 1 : Nat) : Int) = (j : Int) % 8 + 1 := by omega
          rw [hcast]
          clear hm' hml hcast
          go_wp2_with fail
          refine (product_any _ _ _ hb1 hb2 hq1 hq2).mono ?_
          rintro e w' ⟨rfl, rfl⟩
          go_wp2
          go_round
          case rel => exact ⟨j + 1, by omega, by go_num, by rw [HS.out]⟩
          case measure => simp [intOf]; omega
    · obtain rfl : j = s.size := by omega
      rw [Nat.sub_self, List.drop_zero] at hb1 hb2 ⊢
      clear hj hlt
      obtain ⟨c, hc⟩ : ∃ c, Cd.vh s.data.toList = c := ⟨_, rfl⟩
      rw [hc] at hb1 hb2 ⊢
      have HC := Lib.hid hc
      clear hc
      obtain ⟨hi1, hi2⟩ := Cd.inv_bd c ⟨hb1, hb2⟩
      go_wp2
      go_loop [7] (fun t => ∃ n : Int, 0 ≤ n ∧ n ≤ Cd.inv c ∧ t = .int .i64 n) (fun t => (10 - intOf t).toNat)
      case atStart => exact ⟨0, by omega, by omega, rfl⟩
      case round =>
        obtain ⟨n, hn1, hn2, rfl⟩ := hrel
        by_cases hn : n = Cd.inv c
        · have h0 : (Cd.dih n c == 0) = true := by rw [hn, Cd.dih_inv c ⟨hb1, hb2⟩]; rfl
          have HN := Lib.hid hn
          clear hn
          go_wp2_with fail
          refine (product_any _ _ _ hn1 (by omega) hb1 hb2).mono ?_
          rintro e w' ⟨rfl, rfl⟩
          go_wp2
          go_ret
          exact ⟨ret_int (by rw [HN.out, HC.out]), rfl⟩
        · have h0 : (Cd.dih n c == 0) = false := by
            rw [beq_eq_false_iff_ne]
            exact fun h => hn (Cd.dih_inv_only c n ⟨hb1, hb2⟩ (by omega) h)
          have HN : Hid (n + 1 ≤ Cd.inv c) := by show n + 1 ≤ Cd.inv c; omega
          clear hn
          go_wp2_with fail
          refine (product_any _ _ _ hn1 (by omega) hb1 hb2).mono ?_
          rintro e w' ⟨rfl, rfl⟩
          go_wp2
          go_round
          case rel => exact ⟨n + 1, by omega, HN.out, by go_num⟩
          case measure => simp [intOf]; omega

set_option maxHeartbeats 400000 in
theorem rcomp1 (s : ByteArray) (w : World) (hs : s.size ≤ 4096) (HD : Hid (Cd.AllDig s.data.toList)) :
    Calls Tryz.prog 78 #[.int .i64 1, .string s] w fun e w' => e = .returned (.string ⟨(Cd.cmp 1 s.data.toList).toArray⟩) ∧ w = w' := by
  go_enter Tryz.func78, Tryz.ntmps78
  go_wp2_with fail
  refine (rgs1_any s _ hs HD).mono ?_
  rintro e w' ⟨rfl, rfl⟩
  go_wp2_with fail
  refine (rchar_any _ _ (by omega) (by omega)).mono ?_
  rintro e w' ⟨rfl, rfl⟩
  go_wp2
  go_ret
  exact ⟨ret_string (by simp [Cd.cmp]), rfl⟩

set_option maxHeartbeats 400000 in
theorem rcomp2 (s : ByteArray) (w : World) (hs : s.size ≤ 4096) (HD : Hid (Cd.AllDig s.data.toList)) :
    Calls Tryz.prog 78 #[.int .i64 2, .string s] w fun e w' => e = .returned (.string ⟨(Cd.cmp 2 s.data.toList).toArray⟩) ∧ w = w' := by
  go_enter Tryz.func78, Tryz.ntmps78
  go_wp2_with fail
  refine (rluhn_any s _ hs HD).mono ?_
  rintro e w' ⟨rfl, rfl⟩
  go_wp2_with fail
  refine (rchar_any _ _ (by omega) (by omega)).mono ?_
  rintro e w' ⟨rfl, rfl⟩
  go_wp2
  go_ret
  exact ⟨ret_string (by simp [Cd.cmp]), rfl⟩

set_option maxHeartbeats 400000 in
theorem rcomp3 (s : ByteArray) (w : World) (hs : s.size = 9) (HD : Hid (Cd.AllDig s.data.toList)) :
    Calls Tryz.prog 78 #[.int .i64 3, .string s] w fun e w' => e = .returned (.string ⟨(Cd.cmp 3 s.data.toList).toArray⟩) ∧ w = w' := by
  have HN := Lib.hid hs
  clear hs
  go_enter Tryz.func78, Tryz.ntmps78
  go_wp2_with fail
  refine (risbn_any s _ HN.out HD).mono ?_
  rintro e w' ⟨rfl, rfl⟩
  go_wp2_with fail
  refine (rchar_any _ _ (by omega) (by omega)).mono ?_
  rintro e w' ⟨rfl, rfl⟩
  go_wp2
  go_ret
  exact ⟨ret_string (by simp [Cd.cmp]), rfl⟩

set_option maxHeartbeats 400000 in
theorem rcomp4 (s : ByteArray) (w : World) (hs : s.size ≤ 4096) (HD : Hid (Cd.AllDig s.data.toList)) :
    Calls Tryz.prog 78 #[.int .i64 4, .string s] w fun e w' => e = .returned (.string ⟨(Cd.cmp 4 s.data.toList).toArray⟩) ∧ w = w' := by
  have hb := Cd.inv_bd _ (Cd.vh_bd _ HD.out)
  go_enter Tryz.func78, Tryz.ntmps78
  go_wp2_with fail
  refine (rverhoeff_any s _ hs HD).mono ?_
  rintro e w' ⟨rfl, rfl⟩
  go_wp2_with fail
  refine (rchar_any _ _ (by omega) (by omega)).mono ?_
  rintro e w' ⟨rfl, rfl⟩
  go_wp2
  go_ret
  exact ⟨ret_string (by simp [Cd.cmp]), rfl⟩

set_option maxHeartbeats 400000 in
theorem rcomp5 (s : ByteArray) (w : World) (hs : s.size ≤ 4096) (HD : Hid (Cd.AllDig s.data.toList)) :
    Calls Tryz.prog 78 #[.int .i64 5, .string s] w fun e w' => e = .returned (.string ⟨(Cd.cmp 5 s.data.toList).toArray⟩) ∧ w = w' := by
  have hb := Cd.dm_bd _ HD.out
  go_enter Tryz.func78, Tryz.ntmps78
  go_wp2_with fail
  refine (rquasi_any s _ hs HD).mono ?_
  rintro e w' ⟨rfl, rfl⟩
  go_wp2_with fail
  refine (rchar_any _ _ (by omega) (by omega)).mono ?_
  rintro e w' ⟨rfl, rfl⟩
  go_wp2
  go_ret
  exact ⟨ret_string (by simp [Cd.cmp]), rfl⟩

set_option maxHeartbeats 400000 in
theorem rcomp8 (s : ByteArray) (w : World) (hs : s.size ≤ 4096) (HD : Hid (Cd.AllDig s.data.toList)) :
    Calls Tryz.prog 78 #[.int .i64 8, .string s] w fun e w' => e = .returned (.string ⟨(Cd.cmp 8 s.data.toList).toArray⟩) ∧ w = w' := by
  have hb := Cd.i11_bd s.data.toList
  go_enter Tryz.func78, Tryz.ntmps78
  go_wp2_with fail
  refine (riso11_any s _ hs HD).mono ?_
  rintro e w' ⟨rfl, rfl⟩
  go_wp2_with fail
  refine (rchar_any _ _ (by omega) (by omega)).mono ?_
  rintro e w' ⟨rfl, rfl⟩
  go_wp2
  go_ret
  exact ⟨ret_string (by simp [Cd.cmp]), rfl⟩

set_option maxHeartbeats 400000 in
theorem rcomp6 (s : ByteArray) (w : World) (hs : s.size ≤ 4096) (HD : Hid (Cd.AllDig s.data.toList)) :
    Calls Tryz.prog 78 #[.int .i64 6, .string s] w fun e w' => e = .returned (.string ⟨(Cd.cmp 6 s.data.toList).toArray⟩) ∧ w = w' := by
  obtain ⟨hb1, hb2⟩ := Cd.i97_bd s.data.toList
  go_enter Tryz.func78, Tryz.ntmps78
  go_wp2_with fail
  refine (riso97_any s _ hs HD).mono ?_
  rintro e w' ⟨rfl, rfl⟩
  go_wp2_with fail
  refine (rchar_any _ _ (by omega) (by omega)).mono ?_
  rintro e w' ⟨rfl, rfl⟩
  go_wp2_with fail
  refine (riso97_any s _ hs HD).mono ?_
  rintro e w' ⟨rfl, rfl⟩
  go_wp2_with fail
  refine (rchar_any _ _ (by omega) (by omega)).mono ?_
  rintro e w' ⟨rfl, rfl⟩
  go_wp2
  go_ret
  exact ⟨rfl, rfl⟩

set_option maxHeartbeats 400000 in
theorem rcomp7 (s : ByteArray) (w : World) (hs : s.size ≤ 4096) (HD : Hid (∀ c ∈ s.data.toList, 0 ≤ Cd.plc c)) :
    Calls Tryz.prog 78 #[.int .i64 7, .string s] w fun e w' => e = .returned (.string ⟨(Cd.cmp 7 s.data.toList).toArray⟩) ∧ w = w' := by
  go_enter Tryz.func78, Tryz.ntmps78
  go_wp2_with fail
  refine (rmod43_any s _ hs HD).mono ?_
  rintro e w' ⟨rfl, rfl⟩
  go_wp2_with fail
  refine (rmod43_any s _ hs HD).mono ?_
  rintro e w' ⟨rfl, rfl⟩
  go_wp2
  go_ret
  exact ⟨ret_string (by
        obtain ⟨n, hn⟩ : ∃ n : Nat, Cd.c39 s.data.toList % 43 = (n : Int) := ⟨(Cd.c39 s.data.toList % 43).toNat, by omega⟩
        simp only [Cd.cmp, hn]
        exact syms_at n (by omega)), rfl⟩

theorem rcomputed_any (k : Nat) (s : ByteArray) (w : World) (h1 : 1 ≤ k) (h8 : k ≤ 8) (hs : s.size ≤ 4096) (hd : ∀ c ∈ s.data.toList, Cd.datB k (c.toNat : Int) = true) (h9 : k = 3 → s.size = 9) :
    Calls Tryz.prog 78 #[.int .i64 (k : Int), .string s] w fun e w' => e = .returned (.string ⟨(Cd.cmp k s.data.toList).toArray⟩) ∧ w = w' := by
  match k, h1, h8 with
  | 1, _, _ => exact rcomp1 s w hs (allDig_of hd)
  | 2, _, _ => exact rcomp2 s w hs (allDig_of hd)
  | 3, _, _ => exact rcomp3 s w (h9 rfl) (allDig_of hd)
  | 4, _, _ => exact rcomp4 s w hs (allDig_of hd)
  | 5, _, _ => exact rcomp5 s w hs (allDig_of hd)
  | 6, _, _ => exact rcomp6 s w hs (allDig_of hd)
  | 7, _, _ => exact rcomp7 s w hs (fun c hc => by have := hd c hc; simpa [Cd.datB] using this)
  | 8, _, _ => exact rcomp8 s w hs (allDig_of hd)
end Go.Proofs.YthjlnpcaclfopaaGreat
