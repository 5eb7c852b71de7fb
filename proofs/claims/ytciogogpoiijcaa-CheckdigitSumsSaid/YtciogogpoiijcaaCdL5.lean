/-
  The law CheckdigitSums, walked.
  Condition: the string is within the reach.
-/
import Derived.Test.YtciogogpoiijcaaCdL2
import Derived.Test.YtciogogpoiijcaaCdM4
namespace Go.Proofs.Ytciogogpoiijcaa
open Go.RowKit

set_option maxHeartbeats 400000 in
theorem decimal_any (s : ByteArray) (w : World) (hs : s.size ≤ 9223372036854775807) :
    Calls Try.prog 19 #[.string s] w fun e w' => e = .returned (.bool (allDigB s)) ∧ w = w' := by
  go_enter Try.func19, Try.ntmps19
  go_wp2
  go_loop [3] (fun i => ∃ k : Nat, k ≤ s.size ∧ i = .int .i64 k ∧ Hid ((s.data.toList.take k).all (fun c => Cd.isDig c.toNat) = true)) (fun i => s.size - (intOf i).toNat)
  case atStart => exact ⟨0, Nat.zero_le _, rfl, rfl⟩
  case round =>
    obtain ⟨k, hk, rfl, ha⟩ := hrel
    by_cases hlt : k < s.size
    · have HA := Lib.hid (all_take_succ s (fun c => Cd.isDig c.toNat) k hlt)
      have HF := Lib.hid (all_false_at s (fun c => Cd.isDig c.toNat) k hlt)
      by_cases h1 : (s[k].toNat : Int) < 48
      · have HR : Hid (allDigB s = false) := HF.out (by simp only [Cd.isDig, Bool.and_eq_false_iff, decide_eq_false_iff_not]; omega)
        go_wp2
        go_ret
        exact ⟨ret_bool HR.out.symm, rfl⟩
      · by_cases h2 : 57 < (s[k].toNat : Int)
        · have HR : Hid (allDigB s = false) := HF.out (by simp only [Cd.isDig, Bool.and_eq_false_iff, decide_eq_false_iff_not]; omega)
          go_wp2
          go_ret
          exact ⟨ret_bool HR.out.symm, rfl⟩
        · have HP : Hid (Cd.isDig (s[k].toNat : Int) = true) := by show _ = _; simp only [Cd.isDig, Bool.and_eq_true, decide_eq_true_eq]; omega
          go_wp2
          go_round
          case rel => exact ⟨k + 1, by omega, by go_num, by show _ = _; rw [HA.out, ha.out]; simpa using HP.out⟩
          case measure => simp [intOf]; omega
    · obtain rfl : k = s.size := by omega
      rw [take_all] at ha
      clear hk hlt
      go_wp2
      go_ret
      exact ⟨ret_bool ha.out.symm, rfl⟩

set_option maxHeartbeats 400000 in
theorem sumIs_any (s : ByteArray) (v : Value) (ws : List Int) (m want : Int) (w : World) (hs : s.size ≤ 4096) (hd : Hid (Cd.AllDig s.data.toList)) (hv : IntsAt w v ws) (hws : ws.length ≤ 1000000) (hw : ws ≠ []) (h1 : 1 ≤ m) (h2 : m ≤ 65536) :
    Calls Try.prog 20 #[.string s, v, .int .i64 m, .int .i64 want] w fun e w' => e = .returned (.bool (Cd.wsP ws m s.data.toList == want)) ∧ w = w' := by
  have H := Lib.hid (weighted_any s v ws m w (by omega) hv hws)
  rw [Cd.wsum_digits _ _ _ hd.out (by rw [len_data]; exact hs) hw h1 h2] at H
  generalize Cd.wsP ws m s.data.toList = x at *
  clear hv hw
  go_enter Try.func20, Try.ntmps20
  go_wp2_with fail
  refine H.out.mono ?_
  rintro e w1 ⟨rfl, rfl⟩
  go_wp2
  go_ret
  exact ⟨rfl, rfl⟩

theorem ints_alloc (w : World) (zs : List Int) (T : TypeId) (cap : Nat) : IntsAt (w.alloc (.cells (zs.map (Value.int .i64)).toArray T)) (.slice (some ⟨w.heap.size, 0, none⟩) zs.length cap) zs := by
  refine .inr ⟨w.heap.size, 0, cap, rfl, by simp, fun i hi => ?_⟩
  rw [Nat.zero_add, World.cell?_alloc_new]
  simp [hi]
theorem ints_13 (w : World) : IntsAt (w.alloc (.cells #[.int .i64 1, .int .i64 3] 3)) (.slice (some ⟨w.heap.size, 0, none⟩) 2 2) [1, 3] := ints_alloc w [1, 3] _ 2
theorem ints_11 (w : World) : IntsAt (w.alloc (.cells #[.int .i64 1, .int .i64 2, .int .i64 4, .int .i64 8, .int .i64 5, .int .i64 10, .int .i64 9, .int .i64 7, .int .i64 3, .int .i64 6] 3)) (.slice (some ⟨w.heap.size, 0, none⟩) 10 10) Cd.w11 := ints_alloc w Cd.w11 _ 10
theorem ints_10 (w : World) : IntsAt (w.alloc (.cells #[.int .i64 1, .int .i64 2, .int .i64 3, .int .i64 4, .int .i64 5, .int .i64 6, .int .i64 7, .int .i64 8, .int .i64 9, .int .i64 10] 3)) (.slice (some ⟨w.heap.size, 0, none⟩) 10 10) Cd.w10 := ints_alloc w Cd.w10 _ 10

set_option maxRecDepth 100000 in
set_option maxHeartbeats 2000000 in
theorem law_sums (s : ByteArray) (w : World) (hs : s.size ≤ 9223372036854775807) :
    Calls Try.prog 6 #[.string s] w fun e w' => e = .returned (.bool true) ∧ Ext w w' := by
  by_cases hl : 300 < s.size
  · go_enter Try.func6, Try.ntmps6
    go_wp2_with fail
    refine (examples_any _).mono ?_
    rintro e w1 ⟨rfl, hx1⟩
    go_wp2
    go_ret
    exact ⟨rfl, hx1⟩
  · by_cases h2 : s.size < 2
    · go_enter Try.func6, Try.ntmps6
      go_wp2_with fail
      refine (examples_any _).mono ?_
      rintro e w1 ⟨rfl, hx1⟩
      go_wp2
      go_ret
      exact ⟨rfl, hx1⟩
    · have HD := Lib.hid (decimal_any s w hs)
      have hl' : s.size ≤ 300 := by omega
      have h2' : 2 ≤ s.size := by omega
      clear hl h2
      cases hda : allDigB s
      · rw [hda] at HD
        clear hda
        go_enter Try.func6, Try.ntmps6
        go_wp2_with fail
        refine HD.out.mono ?_
        rintro e w1 ⟨rfl, rfl⟩
        go_wp2_with fail
        refine (examples_any _).mono ?_
        rintro e w1 ⟨rfl, hx1⟩
        go_wp2
        go_ret
        exact ⟨rfl, hx1⟩
      · rw [hda] at HD
        have hA : Cd.AllDig s.data.toList := allDig_of (List.all_eq_true.1 hda)
        have HA := Lib.hid hA
        have e1 := Cd.sums1 s.data.toList hA (by rw [len_data]; exact h2') (by rw [len_data]; omega)
        have e8 := Cd.sums8 s.data.toList hA (by rw [len_data]; exact h2') (by rw [len_data]; omega)
        have e3 := Cd.sums3 s.data.toList hA (by rw [len_data]; exact h2') (by rw [len_data]; omega)
        rw [len_data] at e3
        have HV1 := Lib.hid (fun w => verify_any 1 s w hs)
        have HV8 := Lib.hid (fun w => verify_any 8 s w hs)
        have HV3 := Lib.hid (fun w => verify_any 3 s w hs)
        rw [show Cd.verI 1 s.data.toList = Cd.ver 1 s.data.toList from rfl] at HV1
        rw [show Cd.verI 8 s.data.toList = Cd.ver 8 s.data.toList from rfl] at HV8
        rw [show Cd.verI 3 s.data.toList = Cd.ver 3 s.data.toList from rfl] at HV3
        have HS1 := Lib.hid (fun v w hv => sumIs_any s v [1, 3] 10 0 w (by omega) HA hv (by decide) (by decide) (by decide) (by decide))
        have HS8 := Lib.hid (fun v w hv => sumIs_any s v Cd.w11 11 1 w (by omega) HA hv (by decide) (by decide) (by decide) (by decide))
        have HS3 := Lib.hid (fun v w hv => sumIs_any s v Cd.w10 11 0 w (by omega) HA hv (by decide) (by decide) (by decide) (by decide))
        have b1 : (Cd.ver 1 s.data.toList == 0) = (Cd.wsP [1, 3] 10 s.data.toList == 0) := by rw [Bool.eq_iff_iff, beq_iff_eq, beq_iff_eq]; exact e1
        have b8 : (Cd.ver 8 s.data.toList == 0) = (Cd.wsP Cd.w11 11 s.data.toList == 1) := by rw [Bool.eq_iff_iff, beq_iff_eq, beq_iff_eq]; exact e8
        have b3 : (Cd.ver 3 s.data.toList == 0) = (decide (s.size = 10) && (Cd.wsP Cd.w10 11 s.data.toList == 0)) := by rw [Bool.eq_iff_iff, beq_iff_eq, Bool.and_eq_true, decide_eq_true_eq, beq_iff_eq]; exact e3
        generalize Cd.ver 1 s.data.toList = v1 at *
        generalize Cd.ver 8 s.data.toList = v8 at *
        generalize Cd.ver 3 s.data.toList = v3 at *
        generalize (Cd.wsP [1, 3] 10 s.data.toList == 0) = p1 at *
        generalize (Cd.wsP Cd.w11 11 s.data.toList == 1) = p8 at *
        generalize (Cd.wsP Cd.w10 11 s.data.toList == 0) = p3 at *
        clear e1 e8 e3 hA hda
        have hd10 : decide (s.size = 10) = ((s.size : Int) == 10) := by rw [Bool.eq_iff_iff, decide_eq_true_eq, beq_iff_eq]; omega
        rw [hd10] at b3
        clear hd10
        cases hb10 : ((s.size : Int) == 10)
        · rw [hb10, Bool.false_and] at b3
          go_enter Try.func6, Try.ntmps6
          go_wp2_with fail
          refine HD.out.mono ?_
          rintro e w1 ⟨rfl, rfl⟩
          go_wp2_with fail
          refine (HV1.out _).mono ?_
          rintro e w1 ⟨rfl, hx1⟩
          go_wp2_with fail
          refine (HV8.out _).mono ?_
          rintro e w2 ⟨rfl, hx2⟩
          go_wp2_with fail
          refine (HV3.out _).mono ?_
          rintro e w3 ⟨rfl, hx3⟩
          have hX3 := (hx1.trans hx2).trans hx3
          clear hx1 hx2 hx3
          go_wp2_with fail
          refine (HS1.out _ _ (ints_13 w3)).mono ?_
          rintro e w4 ⟨rfl, rfl⟩
          have hX4 := hX3.alloc (.cells #[.int .i64 1, .int .i64 3] 3)
          clear hX3
          generalize w3.alloc (.cells #[.int .i64 1, .int .i64 3] 3) = w5 at *
          go_wp2_with fail
          refine (HS8.out _ _ (ints_11 w5)).mono ?_
          rintro e w4 ⟨rfl, rfl⟩
          have hX5 := hX4.alloc (.cells #[.int .i64 1, .int .i64 2, .int .i64 4, .int .i64 8, .int .i64 5, .int .i64 10, .int .i64 9, .int .i64 7, .int .i64 3, .int .i64 6] 3)
          clear hX4
          generalize w5.alloc (.cells #[.int .i64 1, .int .i64 2, .int .i64 4, .int .i64 8, .int .i64 5, .int .i64 10, .int .i64 9, .int .i64 7, .int .i64 3, .int .i64 6] 3) = w6 at *
          go_wp2_with fail
          refine (examples_any _).mono ?_
          rintro e w7 ⟨rfl, hx7⟩
          go_wp2
          go_ret
          exact ⟨rfl, hX5.trans hx7⟩
        · rw [hb10, Bool.true_and] at b3
          go_enter Try.func6, Try.ntmps6
          go_wp2_with fail
          refine HD.out.mono ?_
          rintro e w1 ⟨rfl, rfl⟩
          go_wp2_with fail
          refine (HV1.out _).mono ?_
          rintro e w1 ⟨rfl, hx1⟩
          go_wp2_with fail
          refine (HV8.out _).mono ?_
          rintro e w2 ⟨rfl, hx2⟩
          go_wp2_with fail
          refine (HV3.out _).mono ?_
          rintro e w3 ⟨rfl, hx3⟩
          have hX3 := (hx1.trans hx2).trans hx3
          clear hx1 hx2 hx3
          go_wp2_with fail
          refine (HS1.out _ _ (ints_13 w3)).mono ?_
          rintro e w4 ⟨rfl, rfl⟩
          have hX4 := hX3.alloc (.cells #[.int .i64 1, .int .i64 3] 3)
          clear hX3
          generalize w3.alloc (.cells #[.int .i64 1, .int .i64 3] 3) = w5 at *
          go_wp2_with fail
          refine (HS8.out _ _ (ints_11 w5)).mono ?_
          rintro e w4 ⟨rfl, rfl⟩
          have hX5 := hX4.alloc (.cells #[.int .i64 1, .int .i64 2, .int .i64 4, .int .i64 8, .int .i64 5, .int .i64 10, .int .i64 9, .int .i64 7, .int .i64 3, .int .i64 6] 3)
          clear hX4
          generalize w5.alloc (.cells #[.int .i64 1, .int .i64 2, .int .i64 4, .int .i64 8, .int .i64 5, .int .i64 10, .int .i64 9, .int .i64 7, .int .i64 3, .int .i64 6] 3) = w6 at *
          go_wp2_with fail
          refine (HS3.out _ _ (ints_10 w6)).mono ?_
          rintro e w4 ⟨rfl, rfl⟩
          have hX6 := hX5.alloc (.cells #[.int .i64 1, .int .i64 2, .int .i64 3, .int .i64 4, .int .i64 5, .int .i64 6, .int .i64 7, .int .i64 8, .int .i64 9, .int .i64 10] 3)
          clear hX5
          generalize w6.alloc (.cells #[.int .i64 1, .int .i64 2, .int .i64 3, .int .i64 4, .int .i64 5, .int .i64 6, .int .i64 7, .int .i64 8, .int .i64 9, .int .i64 10] 3) = w7 at *
          go_wp2_with fail
          refine (examples_any _).mono ?_
          rintro e w8 ⟨rfl, hx8⟩
          go_wp2
          go_ret
          exact ⟨rfl, hX6.trans hx8⟩
end Go.Proofs.Ytciogogpoiijcaa
