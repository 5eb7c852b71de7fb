/-
  Size, lengthFits, Compute, Append, Verify and Weighted of the reference, walked: they return what the program's return.
  Conditions: strings within the reach; the weights are readable.
-/
import Derived.Test.YthjlnpcaclfopaaGreatCdR3
namespace Go.Proofs.YthjlnpcaclfopaaGreat
open Go.RowKit

theorem rcompute_bad (k : Int) (s : ByteArray) (w : World) (h : k < 1 ∨ 8 < k) :
    Calls Tryz.prog 64 #[.int .i64 k, .string s] w fun e w' => e = .returned (.tuple #[.string ⟨#[]⟩, .int .i64 1]) ∧ w = w' := by
  by_cases h1 : k < 1
  · clear h
    go_enter Tryz.func64, Tryz.ntmps64
    go_wp2
    go_ret2
    exact ⟨rfl, rfl⟩
  · have h2 : 8 < k := by omega
    clear h
    go_enter Tryz.func64, Tryz.ntmps64
    go_wp2
    go_ret2
    exact ⟨rfl, rfl⟩

theorem fits_of (k n : Nat) (h : 0 < n) : Cd.fits k (n + Cd.size k) = (decide (k ≠ 3) || decide (n = 9)) := by
  unfold Cd.fits
  by_cases h3 : k = 3
  · subst h3; rw [Bool.eq_iff_iff]; simp [show Cd.size 3 = 1 from rfl]
  · simp [h3]; omega

set_option maxRecDepth 100000 in
set_option maxHeartbeats 1000000 in
theorem rcompute_sys (k : Nat) (s : ByteArray) (w : World) (hk1 : 1 ≤ k) (hk8 : k ≤ 8) (hs : s.size ≤ 9223372036854775807) :
    Calls Tryz.prog 64 #[.int .i64 (k : Int), .string s] w fun e w' => e = .returned (.tuple #[.string ⟨(Cd.comp k s.data.toList).1.toArray⟩, .int .i64 (Cd.comp k s.data.toList).2]) ∧ w = w' := by
  by_cases h0 : s.size = 0
  · have HV : Hid (Cd.comp k s.data.toList = ([], 5)) := by show _ = _; unfold Cd.comp; rw [if_pos ((empty_iff s).2 h0)]
    have hb : ((s.size : Int) == 0) = true := by rw [h0]; rfl
    clear h0
    go_enter Tryz.func64, Tryz.ntmps64
    go_wp2
    go_ret2
    exact ⟨by rw [HV.out]; rfl, rfl⟩
  · have hne : s.data.toList ≠ [] := fun h => h0 ((empty_iff s).1 h)
    have hb : ((s.size : Int) == 0) = false := by rw [beq_eq_false_iff_ne]; omega
    have hpos : 0 < s.size := by omega
    clear h0
    by_cases hl : 4096 < s.size
    · have HV : Hid (Cd.comp k s.data.toList = ([], 4)) := by show _ = _; unfold Cd.comp; rw [if_neg hne, len_data, if_pos hl]
      clear hne
      go_enter Tryz.func64, Tryz.ntmps64
      go_wp2
      go_ret2
      exact ⟨by rw [HV.out]; rfl, rfl⟩
    · have HV : Hid (Cd.comp k s.data.toList = if s.data.toList.all (fun c => Cd.datB k c.toNat) = false then ([], 6) else if Cd.fits k (s.size + Cd.size k) = false then ([], 7) else (Cd.cmp k s.data.toList, 0)) := by
        show _ = _; unfold Cd.comp; rw [if_neg hne, len_data, if_neg hl]
      have hl' : s.size ≤ 4096 := by omega
      have HFT := Lib.hid (fits_of k s.size hpos)
      clear hne hl
      go_enter Tryz.func64, Tryz.ntmps64
      go_wp2
      go_loop [6] (fun i => ∃ j : Nat, j ≤ s.size ∧ i = .int .i64 (j : Int) ∧ Hid ((s.data.toList.take j).all (fun c => Cd.datB k c.toNat) = true)) (fun i => s.size - (intOf i).toNat)
      case atStart => exact ⟨0, Nat.zero_le _, rfl, rfl⟩
      case round =>
        obtain ⟨j, hj, rfl, ha⟩ := hrel
        by_cases hlt : j < s.size
        · have H3 := Lib.hid (rdata_any k s[j] w hk8)
          have HA := Lib.hid (all_take_succ s (fun c => Cd.datB k c.toNat) j hlt)
          have HF := Lib.hid (all_false_at s (fun c => Cd.datB k c.toNat) j hlt)
          cases hp : Cd.datB k (s[j].toNat : Int)
          · rw [hp] at H3
            have HP := Lib.hid hp
            clear hp
            go_wp2_with fail
            refine H3.out.mono ?_
            rintro e w1 ⟨rfl, rfl⟩
            go_wp2
            go_ret2
            exact ⟨by rw [HV.out, if_pos (HF.out HP.out)]; rfl, rfl⟩
          · rw [hp] at H3
            have HP := Lib.hid hp
            clear hp
            go_wp2_with fail
            refine H3.out.mono ?_
            rintro e w1 ⟨rfl, rfl⟩
            go_wp2
            go_round
            case rel => exact ⟨j + 1, by omega, by go_num, by show _ = _; rw [HA.out, ha.out]; simpa using HP.out⟩
            case measure => simp [intOf]; omega
        · obtain rfl : j = s.size := by omega
          rw [take_all] at ha
          have hda := List.all_eq_true.1 ha.out
          have HV2 := Lib.hid (HV.out.trans (if_neg (by rw [ha.out]; exact Bool.noConfusion)))
          rw [HFT.out] at HV2
          clear hj hlt
          by_cases h3 : k = 3
          · subst h3
            by_cases h9 : s.size = 9
            · have hb9 : ((s.size : Int) != 9) = false := by rw [h9]; rfl
              have HC := Lib.hid (rcomputed_any 3 s w hk1 hk8 hl' hda (fun _ => h9))
              have HV3 : Hid (Cd.comp 3 s.data.toList = (Cd.cmp 3 s.data.toList, 0)) := by show _ = _; rw [HV2.out, h9]; rfl
              clear h9 hda
              go_wp2_with fail
              refine HC.out.mono ?_
              rintro e w1 ⟨rfl, rfl⟩
              go_wp2
              go_ret2
              exact ⟨by rw [HV3.out]; rfl, rfl⟩
            · have hb9 : ((s.size : Int) != 9) = true := by rw [bne_iff_ne]; omega
              have HV3 : Hid (Cd.comp 3 s.data.toList = ([], 7)) := by show _ = _; rw [HV2.out]; simp [h9]
              clear h9 hda
              go_wp2
              go_ret2
              exact ⟨by rw [HV3.out]; rfl, rfl⟩
          · have hb3 : ((k : Int) == 3) = false := by rw [beq_eq_false_iff_ne]; omega
            have HC := Lib.hid (rcomputed_any k s w hk1 hk8 hl' hda (fun e => absurd e h3))
            have HV3 : Hid (Cd.comp k s.data.toList = (Cd.cmp k s.data.toList, 0)) := by show _ = _; rw [HV2.out]; simp [h3]
            clear h3 hda
            go_wp2_with fail
            refine HC.out.mono ?_
            rintro e w1 ⟨rfl, rfl⟩
            go_wp2
            go_ret2
            exact ⟨by rw [HV3.out]; rfl, rfl⟩

theorem rcompute_any (k : Int) (s : ByteArray) (w : World) (hs : s.size ≤ 9223372036854775807) :
    Calls Tryz.prog 64 #[.int .i64 k, .string s] w fun e w' => e = .returned (.tuple #[.string ⟨(Cd.compI k s.data.toList).1.toArray⟩, .int .i64 (Cd.compI k s.data.toList).2]) ∧ w = w' := by
  by_cases h : k < 1 ∨ 8 < k
  · rw [Cd.compI, if_pos h]; exact rcompute_bad k s w h
  · rw [Cd.compI, if_neg h]
    obtain ⟨n, rfl⟩ := Int.eq_ofNat_of_zero_le (show 0 ≤ k by omega)
    exact rcompute_sys n s w (by omega) (by omega) hs

theorem rcmp_len (k : Nat) (l : List UInt8) : (Cd.cmp k l).length ≤ 2 := by
  unfold Cd.cmp; split <;> simp
theorem rcompI_len (k : Int) (l : List UInt8) : (Cd.compI k l).1.length ≤ 2 := by
  unfold Cd.compI Cd.comp
  repeat' split
  all_goals first | exact rcmp_len _ _ | simp
theorem rcompI_le (k : Int) (l : List UInt8) (h : (Cd.compI k l).2 = 0) : l.length ≤ 4096 := by
  unfold Cd.compI Cd.comp at h
  repeat' split at h
  all_goals first | omega | simp at h

set_option maxHeartbeats 400000 in
theorem rappend_any (k : Int) (s : ByteArray) (w : World) (hs : s.size ≤ 9223372036854775807) :
    Calls Tryz.prog 39 #[.int .i64 k, .string s] w fun e w' => e = .returned (.tuple #[.string ⟨(Cd.app k s.data.toList).1.toArray⟩, .int .i64 (Cd.app k s.data.toList).2]) ∧ w = w' := by
  have HC := Lib.hid (rcompute_any k s w hs)
  have hl := rcompI_len k s.data.toList
  have hok := rcompI_le k s.data.toList
  have HA := Lib.hid (Cd.app.eq_1 k s.data.toList)
  rw [len_data] at HA hok
  generalize Cd.compI k s.data.toList = r at *
  obtain ⟨c, x⟩ := r
  dsimp only at HA hl hok HC
  by_cases h0 : x = 0
  · have hok' := hok h0
    subst h0
    rw [if_pos rfl] at HA
    by_cases h4 : 4096 < s.size + c.length
    · rw [if_pos h4] at HA
      clear hok
      go_enter Tryz.func39, Tryz.ntmps39
      go_wp2_with fail
      refine HC.out.mono ?_
      rintro e w1 ⟨rfl, rfl⟩
      go_wp2
      go_ret2
      exact ⟨by rw [HA.out]; rfl, rfl⟩
    · rw [if_neg h4] at HA
      have hX := Lib.hid (show s ++ ⟨c.toArray⟩ = (⟨(s.data.toList ++ c).toArray⟩ : ByteArray) from bytes_ext (by simp))
      clear hok
      go_enter Tryz.func39, Tryz.ntmps39
      go_wp2_with fail
      refine HC.out.mono ?_
      rintro e w1 ⟨rfl, rfl⟩
      go_wp2
      go_ret2
      exact ⟨by rw [HA.out]; exact ret_pair hX.out rfl, rfl⟩
  · rw [if_neg h0] at HA
    have hb : (x != 0) = true := by simpa using h0
    clear hok h0
    go_enter Tryz.func39, Tryz.ntmps39
    go_wp2_with fail
    refine HC.out.mono ?_
    rintro e w1 ⟨rfl, rfl⟩
    go_wp2
    go_ret2
    exact ⟨by rw [HA.out]; rfl, rfl⟩
end Go.Proofs.YthjlnpcaclfopaaGreat
