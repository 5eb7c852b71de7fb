/-
  The laws CheckdigitComputes and CheckdigitLimits, walked.
  Condition: the string is within the reach.
-/
import Derived.Test.YtciogogpoiijcaaCdL1
namespace Go.Proofs.Ytciogogpoiijcaa
open Go.RowKit

theorem bs_refl (l : List UInt8) : (l == l) = true := beq_self_eq_true l
theorem int_refl (x : Int) : (x == x) = true := beq_self_eq_true x

set_option maxRecDepth 100000 in
set_option maxHeartbeats 1000000 in
theorem law_computes (k : Int) (s : ByteArray) (w : World) (hs : s.size ≤ 9223372036854775807) :
    Calls Try.prog 11 #[.int .i64 k, .string s] w fun e w' => e = .returned (.bool true) ∧ Ext w w' := by
  by_cases hl : 300 < s.size
  · go_enter Try.func11, Try.ntmps11
    go_wp2_with fail
    refine (examples_any _).mono ?_
    rintro e w1 ⟨rfl, hx1⟩
    go_wp2
    go_ret
    exact ⟨rfl, hx1⟩
  · have H1 := Lib.hid (size_any k)
    have H2 := Lib.hid (rsize_any k)
    have H3 := Lib.hid (fun w => compute_any k s w hs)
    have H4 := Lib.hid (fun w => rcompute_any k s w hs)
    have H5 := Lib.hid (fun w => append_any k s w hs)
    have H6 := Lib.hid (fun w => rappend_any k s w hs)
    generalize (if k < 1 ∨ 8 < k then 0 else (Cd.size k.toNat : Int)) = x1 at *
    generalize (if k < 1 ∨ 8 < k then (1 : Int) else 0) = x2 at *
    generalize Cd.compI k s.data.toList = r at *
    generalize Cd.app k s.data.toList = q at *
    obtain ⟨c, x3⟩ := r
    obtain ⟨d, x4⟩ := q
    dsimp only at H3 H4 H5 H6
    have b1 := int_refl x1
    have b2 := int_refl x2
    have b3 := int_refl x3
    have b4 := int_refl x4
    have b5 := bs_refl c
    have b6 := bs_refl d
    go_enter Try.func11, Try.ntmps11
    go_wp2_with fail
    refine (H1.out _).mono ?_
    rintro e w1 ⟨rfl, hx1⟩
    go_wp2_with fail
    refine (H2.out _).mono ?_
    rintro e w2 ⟨rfl, rfl⟩
    go_wp2_with fail
    refine (H3.out _).mono ?_
    rintro e w3 ⟨rfl, hx3⟩
    go_wp2_with fail
    refine (H4.out _).mono ?_
    rintro e w4 ⟨rfl, rfl⟩
    go_wp2_with fail
    refine (H5.out _).mono ?_
    rintro e w5 ⟨rfl, hx5⟩
    go_wp2_with fail
    refine (H6.out _).mono ?_
    rintro e w6 ⟨rfl, rfl⟩
    go_wp2_with fail
    refine (examples_any _).mono ?_
    rintro e w7 ⟨rfl, hx7⟩
    go_wp2
    go_ret
    exact ⟨rfl, ((hx1.trans hx3).trans hx5).trans hx7⟩

/-- n digits 0. -/
def zeros (n : Nat) : ByteArray := ⟨(List.replicate n 48).toArray⟩
theorem zeros_list (n : Nat) : (zeros n).data.toList = List.replicate n 48 := rfl
theorem zeros_size (n : Nat) : (zeros n).size = n := by rw [size_of_toList (zeros_list n), List.length_replicate]
theorem zeros_add (a b : Nat) : zeros a ++ zeros b = zeros (a + b) := bytes_ext (by simp [zeros_list])
theorem zeros_cut (a b : Nat) (h : b ≤ a) : (zeros a).extract 0 b = zeros b := bytes_ext (by rw [cut_front, zeros_list, zeros_list, List.take_replicate]; congr 1; omega)

set_option maxHeartbeats 400000 in
theorem long_any (n : Nat) (w : World) (h1 : 1 ≤ n) (h2 : n ≤ 10000) :
    Calls Try.prog 21 #[.int .i64 (n : Int)] w fun e w' => e = .returned (.string (zeros n)) ∧ w = w' := by
  go_enter Try.func21, Try.ntmps21
  go_wp2
  go_loop [3] (fun v => ∃ m : Nat, 1 ≤ m ∧ m ≤ n ∧ v = .string (zeros m)) (fun v => match v with | .string s => n - s.size | _ => 0)
  case atStart => exact ⟨1, by omega, h1, rfl⟩
  case round =>
    obtain ⟨m, hm1, hm2, rfl⟩ := hrel
    have hz := zeros_size m
    by_cases hlt : m < n
    · by_cases hd : 2 * m ≤ n
      · have HA := Lib.hid (zeros_add m m)
        have HZ := Lib.hid (zeros_size (m + m))
        go_wp2
        go_round
        case rel => exact ⟨m + m, by omega, by omega, by rw [HA.out]⟩
        case measure => show n - (zeros m ++ zeros m).size < n - (zeros m).size; rw [HA.out, HZ.out, hz]; omega
      · have HA := Lib.hid (zeros_add m (n - m))
        have HC := Lib.hid (zeros_cut m (n - m) (by omega))
        have HZ := Lib.hid (zeros_size n)
        have hnm : m + (n - m) = n := by omega
        rw [hnm] at HA
        clear hnm
        go_wp2
        go_round
        case rel => exact ⟨n, by omega, by omega, by rw [HC.out, HA.out]⟩
        case measure => show n - (zeros m ++ (zeros m).extract 0 (n - m)).size < n - (zeros m).size; rw [HC.out, HA.out, HZ.out, hz]; omega
    · obtain rfl : m = n := by omega
      have HC := Lib.hid (zeros_cut m m (Nat.le_refl _))
      clear hm2 hlt
      go_wp2
      go_ret
      exact ⟨ret_string HC.out, rfl⟩

theorem wsum_zeros (n : Nat) : (Cd.wsum (zeros n).data.toList [1] 10).2 = if 4096 < n then 4 else 0 := by
  unfold Cd.wsum
  rw [if_neg (by omega), if_neg (by simp), len_data, zeros_size]
  by_cases h : 4096 < n
  · rw [if_pos h, if_pos h]
  · rw [if_neg h, if_neg h, if_neg]
    rw [zeros_list, List.all_eq_false]
    rintro ⟨x, hx, hn⟩
    rw [List.mem_replicate] at hx
    rw [hx.2] at hn
    exact hn (by decide)

set_option maxRecDepth 100000 in
set_option maxHeartbeats 1000000 in
theorem law_limits (k : Int) (n : Int) (w : World) (h0 : 0 ≤ n) (h1 : n ≤ 65535) :
    Calls Try.prog 7 #[.int .i64 k, .int .u16 n] w fun e w' => e = .returned (.bool true) ∧ Ext w w' := by
  obtain ⟨m, hm⟩ : ∃ m : Nat, 4090 + n % 12 = (m : Int) := ⟨(4090 + n % 12).toNat, by omega⟩
  have hm1 : 4090 ≤ m := by omega
  have hm2 : m ≤ 4101 := by omega
  have hsz : (zeros m).size ≤ 9223372036854775807 := by rw [zeros_size]; omega
  have H3 := Lib.hid (fun w => compute_any k (zeros m) w hsz)
  have H4 := Lib.hid (fun w => rcompute_any k (zeros m) w hsz)
  have H5 := Lib.hid (fun w => append_any k (zeros m) w hsz)
  have H6 := Lib.hid (fun w => rappend_any k (zeros m) w hsz)
  have H7 := Lib.hid (fun w => verify_any k (zeros m) w hsz)
  have H8 := Lib.hid (fun w => rverify_any k (zeros m) w hsz)
  have HW := Lib.hid (fun v w hv => weighted_any (zeros m) v [1] 10 w hsz hv (by decide))
  rw [wsum_zeros m] at HW
  have HL := Lib.hid (fun w => long_any m w (by omega) (by omega))
  generalize Cd.compI k (zeros m).data.toList = r at *
  generalize Cd.app k (zeros m).data.toList = q at *
  generalize Cd.verI k (zeros m).data.toList = x5 at *
  generalize (Cd.wsum (zeros m).data.toList [1] 10).1 = x6 at *
  generalize zeros m = s at *
  obtain ⟨c, x3⟩ := r
  obtain ⟨d, x4⟩ := q
  dsimp only at H3 H4 H5 H6
  have b3 := int_refl x3
  have b4 := int_refl x4
  have b5 := int_refl x5
  by_cases hbig : 4096 < m
  all_goals
    first | rw [if_pos hbig] at HW | rw [if_neg hbig] at HW
    go_enter Try.func7, Try.ntmps7
    go_wp2_with fail
    refine (HL.out _).mono ?_
    rintro e w1 ⟨rfl, rfl⟩
    go_wp2_with fail
    refine (H3.out _).mono ?_
    rintro e w3 ⟨rfl, hx3⟩
    go_wp2_with fail
    refine (H5.out _).mono ?_
    rintro e w5 ⟨rfl, hx5⟩
    go_wp2_with fail
    refine (HW.out _ _ (.inr ⟨w5.heap.size, 0, 1, rfl, by simp, fun i hi => by match i, hi with | 0, _ => simp [go_sem]⟩)).mono ?_
    rintro e w6 ⟨rfl, rfl⟩
    have hX := (hx3.trans hx5).alloc (.cells #[.int .i64 1] 3)
    clear hx3 hx5
    go_wp2_with fail
    refine (H4.out _).mono ?_
    rintro e w7 ⟨rfl, rfl⟩
    go_wp2_with fail
    refine (H6.out _).mono ?_
    rintro e w8 ⟨rfl, rfl⟩
    go_wp2_with fail
    refine (H7.out _).mono ?_
    rintro e w9 ⟨rfl, hx9⟩
    go_wp2_with fail
    refine (H8.out _).mono ?_
    rintro e w10 ⟨rfl, hx10⟩
    go_wp2_with fail
    refine (examples_any _).mono ?_
    rintro e w11 ⟨rfl, hx11⟩
    go_wp2
    go_ret
    exact ⟨ret_bool (by simp; omega), ((hX.trans hx9).trans hx10).trans hx11⟩
end Go.Proofs.Ytciogogpoiijcaa
