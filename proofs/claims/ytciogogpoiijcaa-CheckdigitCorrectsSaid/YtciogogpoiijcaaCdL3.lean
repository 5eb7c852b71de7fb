/-
  The law CheckdigitAccepts, walked.
  Condition: the string is within the reach.
-/
import Derived.Test.YtciogogpoiijcaaCdL2
import Derived.Test.YtciogogpoiijcaaCdM3
namespace Go.Proofs.Ytciogogpoiijcaa
open Go.RowKit

theorem wrap_of (x : Int) (h0 : -9223372036854775808 ≤ x) (h1 : x ≤ 9223372036854775807) : IntKind.i64.wrap x = x := IntWalk.i64_in _ ⟨h0, h1⟩
/-- string([]byte{c}), behind the draw. -/
theorem conv_one (cb : UInt8) (W : World) : (convert 41 9 (.slice (some ⟨W.heap.size, 0, none⟩) 1 1)).run Try.prog (W.alloc (.cells #[.int .u8 (cb.toNat : Int)] 5)).drew = .ok (.string ⟨#[cb]⟩) (W.alloc (.cells #[.int .u8 (cb.toNat : Int)] 5)).drew := by
  have h := run_convert_bytes_back (P := Try.prog) (W.alloc (.cells #[.int .u8 (cb.toNat : Int)] 5)).drew 41 9 5 ⟨W.heap.size, 0, none⟩ 1 [cb] Try.underlying41 Try.underlying5 Try.underlying9 (fun j hj => by
    have e : j = 0 := by simpa using hj
    subst e
    simp [go_sem, Addr.add])
  exact h

set_option maxRecDepth 100000 in
set_option maxHeartbeats 1000000 in
theorem law_accepts (k : Int) (s : ByteArray) (cb : UInt8) (w : World) (hs : s.size ≤ 9223372036854775807) :
    Calls Try.prog 8 #[.int .i64 k, .string s, .int .u8 (cb.toNat : Int)] w fun e w' => e = .returned (.bool true) ∧ Ext w w' := by
  by_cases hl : 300 < s.size
  · go_enter Try.func8, Try.ntmps8
    go_wp2_with fail
    refine (examples_any _).mono ?_
    rintro e w1 ⟨rfl, hx1⟩
    go_wp2
    go_ret
    exact ⟨rfl, hx1⟩
  · have HA := Lib.hid (fun w => append_any k s w hs)
    by_cases h0 : (Cd.app k s.data.toList).2 = 0
    · obtain ⟨n, hk, hn1, hn8, hne, hd, hf, hll, happ⟩ := Cd.app_ok k s.data.toList h0
      subst hk
      rw [h0, happ] at HA
      have hv0 := Cd.ver_app n s.data.toList hn1 hn8 hd hf hll
      obtain ⟨t, ht⟩ : ∃ t : ByteArray, t = ⟨(s.data.toList ++ Cd.cmp n s.data.toList).toArray⟩ := ⟨_, rfl⟩
      rw [← ht] at HA
      have htl : t.data.toList = s.data.toList ++ Cd.cmp n s.data.toList := by rw [ht]
      have hts : t.size = s.size + Cd.size n := by rw [size_of_toList htl, List.length_append, Cd.cmp_size n _ hn1 hn8, len_data]
      have hz := Cd.size_bd n
      have hll' : s.size + Cd.size n ≤ 4096 := by rw [← len_data s]; exact hll
      have hts1 : 1 ≤ t.size := by omega
      have hts2 : t.size ≤ 4096 := by omega
      have HT := Lib.hid htl
      have HSZ := Lib.hid hts
      have HV := Lib.hid (fun w => verify_any (n : Int) t w (by omega))
      rw [htl, Cd.verI_nat n _ hn1 hn8, hv0] at HV
      clear ht htl hts happ hv0 h0 hne hd hf hll
      have hbt : ((t.size : Int) == 0) = false := by rw [beq_eq_false_iff_ne]; omega
      go_enter Try.func8, Try.ntmps8
      go_wp2_with fail
      refine (HA.out _).mono ?_
      rintro e w1 ⟨rfl, hx1⟩
      go_wp2
      have hcv := conv_one cb w1
      have hwr := wrap_of ((t.size : Int) - 1) (by omega) (by omega)
      have hn0 : (0 : Int) ≤ (t.size : Int) - 1 := by omega
      have hn1' : (1 : Int) ≤ (t.size : Int) := by omega
      have hn2 : (t.size : Int) - 1 ≤ (t.size : Int) := by omega
      have hn3 : ((t.size : Int) - 1).toNat = t.size - 1 := by omega
      go_region
      have hx2 := (hx1.alloc (.cells #[.int .u8 (cb.toNat : Int)] 5)).drew
      clear hcv hwr hn0 hn1' hn2 hn3 hx1
      generalize (w1.alloc (.cells #[.int .u8 (cb.toNat : Int)] 5)).drew = w2 at *
      have hul : (t.extract 0 (t.size - 1) ++ (⟨#[cb]⟩ : ByteArray)).data.toList = t.data.toList.take (t.size - 1) ++ [cb] := by
        simp only [ByteArray.data_append, Array.toList_append, cut_front]
      generalize t.extract 0 (t.size - 1) ++ (⟨#[cb]⟩ : ByteArray) = u at *
      have hus : u.size = t.size := by rw [size_of_toList hul, List.length_append, len_take _ _ (by omega), List.length_singleton]; omega
      have HVU := Lib.hid (fun w => verify_any (n : Int) u w (by omega))
      rw [Cd.verI_nat n _ hn1 hn8] at HVU
      have hutk : u.data.toList.take s.data.toList.length = s.data.toList := by
        rw [hul, List.take_append_of_le_length (by rw [len_take _ _ (by omega), len_data]; have := HSZ.out; omega), List.take_take, len_data, show min s.size (t.size - 1) = s.size by have := HSZ.out; omega, HT.out, ← len_data s, List.take_left]
      have huEq : Cd.ver n u.data.toList = 0 → u = t := fun h => by
        have := Cd.ver_same n s.data.toList u.data.toList hn1 hn8 (by rw [len_data, hus, len_data]; exact HSZ.out) hutk h
        exact bytes_ext (by rw [this, HT.out])
      by_cases hut : u = t
      · subst hut
        have hq : (u.toList == u.toList) = true := by simp
        clear hul hutk huEq hus
        go_wp2_with fail
        refine (HV.out _).mono ?_
        rintro e w3 ⟨rfl, hx3⟩
        go_wp2_with fail
        refine (HV.out _).mono ?_
        rintro e w4 ⟨rfl, hx4⟩
        go_wp2_with fail
        refine (examples_any _).mono ?_
        rintro e w5 ⟨rfl, hx5⟩
        go_wp2
        go_ret
        exact ⟨rfl, ((hx2.trans hx3).trans hx4).trans hx5⟩
      · have hq : (u.toList == t.toList) = false := by
          rw [beq_eq_false_iff_ne, Lib.toList_data, Lib.toList_data]
          exact fun h => hut (bytes_ext h)
        have hv : (Cd.ver n u.data.toList == 0) = false := by
          rw [beq_eq_false_iff_ne]; exact fun h => hut (huEq h)
        generalize Cd.ver n u.data.toList = x at *
        clear hul hutk huEq hus hut
        go_wp2_with fail
        refine (HV.out _).mono ?_
        rintro e w3 ⟨rfl, hx3⟩
        go_wp2_with fail
        refine (HVU.out _).mono ?_
        rintro e w4 ⟨rfl, hx4⟩
        go_wp2_with fail
        refine (examples_any _).mono ?_
        rintro e w5 ⟨rfl, hx5⟩
        go_wp2
        go_ret
        exact ⟨rfl, ((hx2.trans hx3).trans hx4).trans hx5⟩
    · have hno := Cd.app_no k s.data.toList h0
      rw [hno] at HA
      have hb : ((Cd.app k s.data.toList).2 != 0) = true := by rw [bne_iff_ne]; exact h0
      generalize (Cd.app k s.data.toList).2 = x at *
      clear h0 hno
      go_enter Try.func8, Try.ntmps8
      go_wp2_with fail
      refine (HA.out _).mono ?_
      rintro e w1 ⟨rfl, hx1⟩
      go_wp2_with fail
      refine (examples_any _).mono ?_
      rintro e w2 ⟨rfl, hx2⟩
      go_wp2
      go_ret
      exact ⟨rfl, hx1.trans hx2⟩

theorem byte_of (c : Int) (h0 : 0 ≤ c) (h1 : c ≤ 255) : ∃ b : UInt8, c = (b.toNat : Int) :=
  ⟨UInt8.ofNat c.toNat, by rw [UInt8.toNat_ofNat_of_lt' (by show c.toNat < 256; omega)]; omega⟩
theorem law_accepts' (k : Int) (s : ByteArray) (c : Int) (w : World) (hs : s.size ≤ 9223372036854775807) (h : 0 ≤ c ∧ c ≤ 255) :
    Calls Try.prog 8 #[.int .i64 k, .string s, .int .u8 c] w fun e w' => e = .returned (.bool true) ∧ Ext w w' := by
  obtain ⟨b, rfl⟩ := byte_of c h.1 h.2
  exact law_accepts k s b w hs
end Go.Proofs.Ytciogogpoiijcaa
