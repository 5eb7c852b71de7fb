/-
  Chapter 51: names, words, bounds: the program and the reference.
  No condition.
-/
import Derived.Test.YtkpfehfcgpapiaaGreatDoorFmPa
import Derived.Test.YtkpfehfcgpapiaaGreatDoorIdx
import Derived.Test.YtkpfehfcgpapiaaGreatDoorFmMa
import Derived.Carry

/-
  Chapter 51: names, words, bounds: the program and the reference.
  No condition.
-/
namespace Go.Proofs.YtkpfehfcgpapiaaGreatDoor
open Go.RowKit

set_option maxHeartbeats 1000000 in
theorem within_any (lo a b hi : Int) (w : World) : Calls Tryz.prog 76 #[.int .i64 lo, .int .i64 a, .int .i64 b, .int .i64 hi] w fun e w' => e = .returned (.bool (Fm.within lo a b hi)) ∧ w = w' := by
  by_cases h0 : lo ≤ a
  rotate_left
  · have d0 : decide (lo ≤ a) = false := decide_eq_false h0
    have hr : (Fm.within lo a b hi) = false := by unfold Fm.within; simp [d0]
    rw [hr]
    clear hr h0
    go_enter Tryz.func76, Tryz.ntmps76
    go_wp2
    go_ret
    exact ⟨rfl, rfl⟩
  have d0 : decide (lo ≤ a) = true := decide_eq_true h0
  by_cases h1 : a ≤ b
  rotate_left
  · have d1 : decide (a ≤ b) = false := decide_eq_false h1
    have hr : (Fm.within lo a b hi) = false := by unfold Fm.within; simp [d0, d1]
    rw [hr]
    clear hr h0 h1
    go_enter Tryz.func76, Tryz.ntmps76
    go_wp2
    go_ret
    exact ⟨rfl, rfl⟩
  have d1 : decide (a ≤ b) = true := decide_eq_true h1
  by_cases h2 : b ≤ hi
  rotate_left
  · have d2 : decide (b ≤ hi) = false := decide_eq_false h2
    have hr : (Fm.within lo a b hi) = false := by unfold Fm.within; simp [d0, d1, d2]
    rw [hr]
    clear hr h0 h1 h2
    go_enter Tryz.func76, Tryz.ntmps76
    go_wp2
    go_ret
    exact ⟨rfl, rfl⟩
  have d2 : decide (b ≤ hi) = true := decide_eq_true h2
  have hr : (Fm.within lo a b hi) = true := by unfold Fm.within; simp [d0, d1, d2]
  rw [hr]
  clear hr h0 h1 h2
  go_enter Tryz.func76, Tryz.ntmps76
  go_wp2
  go_ret
  exact ⟨rfl, rfl⟩

theorem up_int (c : UInt8) : Fm.up c = (decide ((65 : Int) ≤ (c.toNat : Int)) && decide ((c.toNat : Int) ≤ 90)) := by
  unfold Fm.up
  congr 1 <;> · rw [decide_eq_decide]; omega
theorem dg_int (c : UInt8) : Fm.dg c = (decide ((48 : Int) ≤ (c.toNat : Int)) && decide ((c.toNat : Int) ≤ 57)) := by
  unfold Fm.dg
  congr 1 <;> · rw [decide_eq_decide]; omega
theorem xupper_any (c : UInt8) (w : World) : Calls Tryz.prog 77 #[.int .u8 (c.toNat : Int)] w fun e w' => e = .returned (.bool (Fm.up c)) ∧ w = w' := by
  rw [up_int]
  generalize (c.toNat : Int) = n
  by_cases h : 65 ≤ n
  · have d : decide (65 ≤ n) = true := decide_eq_true h
    clear h
    go_enter Tryz.func77, Tryz.ntmps77
    go_wp2
    go_ret
    exact ⟨ret_bool (by rw [d]; rfl), rfl⟩
  · have d : decide (65 ≤ n) = false := decide_eq_false h
    clear h
    go_enter Tryz.func77, Tryz.ntmps77
    go_wp2
    go_ret
    exact ⟨ret_bool (by rw [d]; rfl), rfl⟩
theorem xdigit_any (c : UInt8) (w : World) : Calls Tryz.prog 78 #[.int .u8 (c.toNat : Int)] w fun e w' => e = .returned (.bool (Fm.dg c)) ∧ w = w' := by
  rw [dg_int]
  generalize (c.toNat : Int) = n
  by_cases h : 48 ≤ n
  · have d : decide (48 ≤ n) = true := decide_eq_true h
    clear h
    go_enter Tryz.func78, Tryz.ntmps78
    go_wp2
    go_ret
    exact ⟨ret_bool (by rw [d]; rfl), rfl⟩
  · have d : decide (48 ≤ n) = false := decide_eq_false h
    clear h
    go_enter Tryz.func78, Tryz.ntmps78
    go_wp2
    go_ret
    exact ⟨ret_bool (by rw [d]; rfl), rfl⟩

theorem only_succ (o : List UInt8) (s : ByteArray) (k : Nat) (h : k < s.size) (hd : Fm.only o (s.data.toList.take k) = true) : Fm.only o (s.data.toList.take (k + 1)) = (Fm.up s[k] || Fm.dg s[k] || o.contains s[k]) := by
  rw [take_snoc s k h]; unfold Fm.only at hd ⊢; rw [List.all_append, hd]; simp
theorem only_false (o : List UInt8) (s : ByteArray) (k : Nat) (h : k < s.size) (hd : (Fm.up s[k] || Fm.dg s[k] || o.contains s[k]) = false) : Fm.only o s.data.toList = false := by
  unfold Fm.only
  rw [List.all_eq_false]
  exact ⟨s[k], mem_at s k h, by rw [hd]; decide⟩
theorem index_has (o : List UInt8) (c : UInt8) : decide (0 ≤ Lib.indexByte o c) = o.contains c := by
  by_cases h : 0 ≤ Lib.indexByte o c
  · obtain ⟨n, hn⟩ : ∃ n : Nat, Lib.indexByte o c = n := ⟨(Lib.indexByte o c).toNat, by omega⟩
    have := (Lib.indexByte_some hn).1
    rw [decide_eq_true h]
    exact (List.contains_iff_mem.2 (List.mem_of_getElem? this)).symm
  · rw [decide_eq_false h]
    symm
    rw [Bool.eq_false_iff]
    intro hc
    have hg := Lib.indexByte_ge o c
    obtain ⟨k, hk⟩ := List.getElem?_of_mem (List.contains_iff_mem.1 hc)
    exact Lib.indexByte_none (show Lib.indexByte o c = -1 by omega) k hk

set_option maxHeartbeats 1000000 in
theorem only_any (s o : ByteArray) (hs : s.size ≤ 9223372036854775807) (w : World) : Calls Tryz.prog 73 #[.string s, .string o] w fun e w' => e = .returned (.bool (Fm.only o.data.toList s.data.toList)) ∧ w = w' := by
  obtain ⟨res, hres⟩ : ∃ res, Fm.only o.data.toList s.data.toList = res := ⟨_, rfl⟩
  rw [hres]
  have HRES := Lib.hid hres
  clear hres
  go_enter Tryz.func73, Tryz.ntmps73
  go_wp2
  go_loop [9] (fun i => ∃ k : Nat, k ≤ s.size ∧ i = .int .i64 (k : Int) ∧ Hid (Fm.only o.data.toList (s.data.toList.take k) = true)) (fun i => s.size - (intOf i).toNat)
  case atStart => exact ⟨0, Nat.zero_le _, rfl, Lib.hid rfl⟩
  case round =>
    obtain ⟨k, hk, rfl, hal⟩ := hrel
    by_cases hlt : k < s.size
    · have HA := Lib.hid (only_succ o.data.toList s k hlt hal.out)
      have HN := Lib.hid (only_false o.data.toList s k hlt)
      have HI := Lib.hid (index_has o.data.toList s[k])
      have HX : Hid (∀ w, Calls Tryz.prog 114 #[.string o, .int .u8 (s[k].toNat : Int)] w fun e w' => e = .returned (.int .i64 (Lib.indexByte o.data.toList s[k])) ∧ w = w') := Lib.hid (fun w => by
        have := index_any o (s[k].toNat : Int) w
        rw [byte_num] at this; exact this)
      have HU := Lib.hid (up_int s[k])
      have HD := Lib.hid (dg_int s[k])
      generalize Lib.indexByte o.data.toList s[k] = x at *
      have h5 : (s[k].toNat < 48) ∨ (48 ≤ s[k].toNat ∧ s[k].toNat ≤ 57) ∨ (57 < s[k].toNat ∧ s[k].toNat < 65) ∨ (65 ≤ s[k].toNat ∧ s[k].toNat ≤ 90) ∨ (90 < s[k].toNat) := by omega
      rcases h5 with h5 | h5 | h5 | h5 | h5
      · have d1 : decide ((65 : Int) ≤ (s[k].toNat : Int)) = false := decide_eq_false (by omega)
        have d2 : decide ((48 : Int) ≤ (s[k].toNat : Int)) = false := decide_eq_false (by omega)
        by_cases hx : 0 ≤ x
        · have dx : decide (0 ≤ x) = true := decide_eq_true hx
          have HO : Hid (Fm.only o.data.toList (s.data.toList.take (k + 1)) = true) := Lib.hid (by rw [HA.out, ← HI.out, dx]; simp)
          clear h5 HA HN HI HU HD hx
          go_wp2_with fail
          refine (HX.out _).mono ?_
          rintro e w1 ⟨rfl, rfl⟩
          go_wp2
          go_round
          case rel => exact ⟨k + 1, by omega, by go_num, HO⟩
          case measure => simp [intOf]; omega
        · have dx : decide (0 ≤ x) = false := decide_eq_false hx
          have HF : Hid (res = false) := Lib.hid (by rw [← HRES.out]; exact HN.out (by rw [HU.out, HD.out, ← HI.out]; simp [dx, d1, d2]))
          clear h5 HA HN HI HU HD hx
          go_wp2_with fail
          refine (HX.out _).mono ?_
          rintro e w1 ⟨rfl, rfl⟩
          go_wp2
          go_ret
          exact ⟨ret_bool HF.out.symm, rfl⟩
      · have d1 : decide ((65 : Int) ≤ (s[k].toNat : Int)) = false := decide_eq_false (by omega)
        have d2 : decide ((48 : Int) ≤ (s[k].toNat : Int)) = true := decide_eq_true (by omega)
        have d3 : decide ((s[k].toNat : Int) ≤ 57) = true := decide_eq_true (by omega)
        have HO : Hid (Fm.only o.data.toList (s.data.toList.take (k + 1)) = true) := Lib.hid (by rw [HA.out, HU.out, HD.out]; simp [d1, d2, d3])
        clear h5 HA HN HI HU HD
        go_wp2
        go_round
        case rel => exact ⟨k + 1, by omega, by go_num, HO⟩
        case measure => simp [intOf]; omega
      · have d1 : decide ((65 : Int) ≤ (s[k].toNat : Int)) = false := decide_eq_false (by omega)
        have d2 : decide ((48 : Int) ≤ (s[k].toNat : Int)) = true := decide_eq_true (by omega)
        have d3 : decide ((s[k].toNat : Int) ≤ 57) = false := decide_eq_false (by omega)
        by_cases hx : 0 ≤ x
        · have dx : decide (0 ≤ x) = true := decide_eq_true hx
          have HO : Hid (Fm.only o.data.toList (s.data.toList.take (k + 1)) = true) := Lib.hid (by rw [HA.out, ← HI.out, dx]; simp)
          clear h5 HA HN HI HU HD hx
          go_wp2_with fail
          refine (HX.out _).mono ?_
          rintro e w1 ⟨rfl, rfl⟩
          go_wp2
          go_round
          case rel => exact ⟨k + 1, by omega, by go_num, HO⟩
          case measure => simp [intOf]; omega
        · have dx : decide (0 ≤ x) = false := decide_eq_false hx
          have HF : Hid (res = false) := Lib.hid (by rw [← HRES.out]; exact HN.out (by rw [HU.out, HD.out, ← HI.out]; simp [dx, d1, d2, d3]))
          clear h5 HA HN HI HU HD hx
          go_wp2_with fail
          refine (HX.out _).mono ?_
          rintro e w1 ⟨rfl, rfl⟩
          go_wp2
          go_ret
          exact ⟨ret_bool HF.out.symm, rfl⟩
      · have d1 : decide ((65 : Int) ≤ (s[k].toNat : Int)) = true := decide_eq_true (by omega)
        have d4 : decide ((s[k].toNat : Int) ≤ 90) = true := decide_eq_true (by omega)
        have HO : Hid (Fm.only o.data.toList (s.data.toList.take (k + 1)) = true) := Lib.hid (by rw [HA.out, HU.out, HD.out]; simp [d1, d4])
        clear h5 HA HN HI HU HD
        go_wp2
        go_round
        case rel => exact ⟨k + 1, by omega, by go_num, HO⟩
        case measure => simp [intOf]; omega
      · have d1 : decide ((65 : Int) ≤ (s[k].toNat : Int)) = true := decide_eq_true (by omega)
        have d4 : decide ((s[k].toNat : Int) ≤ 90) = false := decide_eq_false (by omega)
        have d2 : decide ((48 : Int) ≤ (s[k].toNat : Int)) = true := decide_eq_true (by omega)
        have d3 : decide ((s[k].toNat : Int) ≤ 57) = false := decide_eq_false (by omega)
        by_cases hx : 0 ≤ x
        · have dx : decide (0 ≤ x) = true := decide_eq_true hx
          have HO : Hid (Fm.only o.data.toList (s.data.toList.take (k + 1)) = true) := Lib.hid (by rw [HA.out, ← HI.out, dx]; simp)
          clear h5 HA HN HI HU HD hx
          go_wp2_with fail
          refine (HX.out _).mono ?_
          rintro e w1 ⟨rfl, rfl⟩
          go_wp2
          go_round
          case rel => exact ⟨k + 1, by omega, by go_num, HO⟩
          case measure => simp [intOf]; omega
        · have dx : decide (0 ≤ x) = false := decide_eq_false hx
          have HF : Hid (res = false) := Lib.hid (by rw [← HRES.out]; exact HN.out (by rw [HU.out, HD.out, ← HI.out]; simp [dx, d1, d4, d2, d3]))
          clear h5 HA HN HI HU HD hx
          go_wp2_with fail
          refine (HX.out _).mono ?_
          rintro e w1 ⟨rfl, rfl⟩
          go_wp2
          go_ret
          exact ⟨ret_bool HF.out.symm, rfl⟩
    · obtain rfl : k = s.size := by omega
      have HF : Hid (res = true) := Lib.hid (by rw [← HRES.out]; have := hal.out; rw [take_all] at this; exact this)
      clear hk hlt hal
      go_wp2
      go_ret
      exact ⟨ret_bool HF.out.symm, rfl⟩

theorem head_at (s : ByteArray) (h : 0 < s.size) : s.data.toList.headD 0 = s[0] := by
  have := drop_cons s 0 h
  rw [List.drop_zero] at this
  rw [this]; rfl

set_option maxHeartbeats 1000000 in
theorem isName_any (s : ByteArray) (w : World) : Calls Tryz.prog 41 #[.string s] w fun e w' => e = .returned (.bool (Fm.isName s.data.toList)) ∧ w = w' := by
  obtain ⟨res, hres⟩ : ∃ res, Fm.isName s.data.toList = res := ⟨_, rfl⟩
  rw [hres]
  have HR : Hid (res = (decide (1 ≤ s.size) && decide (s.size ≤ 20) && Fm.up (s.data.toList.headD 0) && Fm.only [95] s.data.toList)) := Lib.hid (by rw [← hres]; unfold Fm.isName; rw [len_data])
  clear hres
  by_cases h1 : 1 ≤ s.size
  rotate_left
  · have d1 : decide ((1 : Int) ≤ (s.size : Int)) = false := decide_eq_false (by omega)
    have HF : Hid (res = false) := Lib.hid (by rw [HR.out, decide_eq_false h1]; rfl)
    clear h1 HR
    go_enter Tryz.func41, Tryz.ntmps41
    go_wp2
    go_ret
    exact ⟨ret_bool HF.out.symm, rfl⟩
  have d1 : decide ((1 : Int) ≤ (s.size : Int)) = true := decide_eq_true (by omega)
  by_cases h2 : s.size ≤ 20
  rotate_left
  · have d2 : decide ((s.size : Int) ≤ 20) = false := decide_eq_false (by omega)
    have HF : Hid (res = false) := Lib.hid (by rw [HR.out, decide_eq_true h1, decide_eq_false h2]; rfl)
    clear h1 h2 HR
    go_enter Tryz.func41, Tryz.ntmps41
    go_wp2
    go_ret
    exact ⟨ret_bool HF.out.symm, rfl⟩
  have d2 : decide ((s.size : Int) ≤ 20) = true := decide_eq_true (by omega)
  have HX : Hid (∀ w, Calls Tryz.prog 73 #[.string s, .string ⟨#[95]⟩] w fun e w' => e = .returned (.bool (Fm.only [95] s.data.toList)) ∧ w = w') := Lib.hid (fun w => only_any s ⟨#[95]⟩ (by omega) w)
  have hlt : (0 : Int) < (s.size : Int) := by omega
  have h0 : 0 < s.size := by omega
  have hh := head_at s h0
  obtain ⟨c, hc⟩ : ∃ c, s[0] = c := ⟨_, rfl⟩
  rw [hc] at hh
  rw [hh] at HR
  have HU := Lib.hid (up_int c)
  by_cases h3 : (65 : Int) ≤ (c.toNat : Int)
  rotate_left
  · have d3 : decide ((65 : Int) ≤ (c.toNat : Int)) = false := decide_eq_false h3
    have HF : Hid (res = false) := Lib.hid (by rw [HR.out, decide_eq_true h1, decide_eq_true h2, HU.out, d3]; rfl)
    clear h1 h2 h3 HR HU HX hh
    go_enter Tryz.func41, Tryz.ntmps41
    go_wp2
    go_ret
    exact ⟨ret_bool HF.out.symm, rfl⟩
  have d3 : decide ((65 : Int) ≤ (c.toNat : Int)) = true := decide_eq_true h3
  by_cases h4 : (c.toNat : Int) ≤ 90
  rotate_left
  · have d4 : decide ((c.toNat : Int) ≤ 90) = false := decide_eq_false h4
    have HF : Hid (res = false) := Lib.hid (by rw [HR.out, decide_eq_true h1, decide_eq_true h2, HU.out, d3, d4]; rfl)
    clear h1 h2 h3 h4 HR HU HX hh
    go_enter Tryz.func41, Tryz.ntmps41
    go_wp2
    go_ret
    exact ⟨ret_bool HF.out.symm, rfl⟩
  have d4 : decide ((c.toNat : Int) ≤ 90) = true := decide_eq_true h4
  generalize Fm.only [95] s.data.toList = b at *
  have HF : Hid (res = b) := Lib.hid (by rw [HR.out, decide_eq_true h1, decide_eq_true h2, HU.out, d3, d4]; rfl)
  clear h1 h2 h3 h4 HR HU hh
  go_enter Tryz.func41, Tryz.ntmps41
  go_wp2_with fail
  refine (HX.out _).mono ?_
  rintro e w1 ⟨rfl, rfl⟩
  go_wp2
  go_ret
  exact ⟨ret_bool HF.out.symm, rfl⟩

set_option maxHeartbeats 1000000 in
theorem isWord_any (s : ByteArray) (w : World) : Calls Tryz.prog 116 #[.string s] w fun e w' => e = .returned (.bool (Fm.isWord s.data.toList)) ∧ w = w' := by
  obtain ⟨res, hres⟩ : ∃ res, Fm.isWord s.data.toList = res := ⟨_, rfl⟩
  rw [hres]
  have HR : Hid (res = (decide (1 ≤ s.size) && decide (s.size ≤ 20) && Fm.only [45, 95] s.data.toList)) := Lib.hid (by rw [← hres]; unfold Fm.isWord; rw [len_data])
  clear hres
  by_cases h1 : 1 ≤ s.size
  rotate_left
  · have d1 : decide ((1 : Int) ≤ (s.size : Int)) = false := decide_eq_false (by omega)
    have HF : Hid (res = false) := Lib.hid (by rw [HR.out, decide_eq_false h1]; rfl)
    clear h1 HR
    go_enter Tryz.func116, Tryz.ntmps116
    go_wp2
    go_ret
    exact ⟨ret_bool HF.out.symm, rfl⟩
  have d1 : decide ((1 : Int) ≤ (s.size : Int)) = true := decide_eq_true (by omega)
  by_cases h2 : s.size ≤ 20
  rotate_left
  · have d2 : decide ((s.size : Int) ≤ 20) = false := decide_eq_false (by omega)
    have HF : Hid (res = false) := Lib.hid (by rw [HR.out, decide_eq_true h1, decide_eq_false h2]; rfl)
    clear h1 h2 HR
    go_enter Tryz.func116, Tryz.ntmps116
    go_wp2
    go_ret
    exact ⟨ret_bool HF.out.symm, rfl⟩
  have d2 : decide ((s.size : Int) ≤ 20) = true := decide_eq_true (by omega)
  have HX : Hid (∀ w, Calls Tryz.prog 73 #[.string s, .string ⟨#[45, 95]⟩] w fun e w' => e = .returned (.bool (Fm.only [45, 95] s.data.toList)) ∧ w = w') := Lib.hid (fun w => only_any s ⟨#[45, 95]⟩ (by omega) w)
  generalize Fm.only [45, 95] s.data.toList = b at *
  have HF : Hid (res = b) := Lib.hid (by rw [HR.out, decide_eq_true h1, decide_eq_true h2]; rfl)
  clear h1 h2 HR
  go_enter Tryz.func116, Tryz.ntmps116
  go_wp2_with fail
  refine (HX.out _).mono ?_
  rintro e w1 ⟨rfl, rfl⟩
  go_wp2
  go_ret
  exact ⟨ret_bool HF.out.symm, rfl⟩

end Go.Proofs.YtkpfehfcgpapiaaGreatDoor

/-
  Chapter 51: the reference's names and words.
  No condition.
-/
namespace Go.Proofs.YtkpfehfcgpapiaaGreatDoor
open Go.RowKit

theorem has_95 (c : UInt8) : ([95] : List UInt8).contains c = ((c.toNat : Int) == 95) := by
  rw [Bool.eq_iff_iff, beq_iff_eq, List.contains_iff_mem, List.mem_singleton]
  exact ⟨fun e => by rw [e]; rfl, fun e => UInt8.toNat_inj.1 (by have : (95 : UInt8).toNat = 95 := rfl; omega)⟩
theorem has_4595 (c : UInt8) : ([45, 95] : List UInt8).contains c = (((c.toNat : Int) == 45) || ((c.toNat : Int) == 95)) := by
  rw [Bool.eq_iff_iff, Bool.or_eq_true, beq_iff_eq, beq_iff_eq, List.contains_iff_mem, List.mem_cons, List.mem_singleton]
  have h1 : (95 : UInt8).toNat = 95 := rfl
  have h2 : (45 : UInt8).toNat = 45 := rfl
  constructor
  · rintro (e | e)
    · exact .inl (by rw [e]; rfl)
    · exact .inr (by rw [e]; rfl)
  · rintro (e | e)
    · exact .inl (UInt8.toNat_inj.1 (by omega))
    · exact .inr (UInt8.toNat_inj.1 (by omega))

set_option maxHeartbeats 1000000 in
theorem xname_any (s : ByteArray) (w : World) : Calls Tryz.prog 44 #[.string s] w fun e w' => e = .returned (.bool (Fm.isName s.data.toList)) ∧ w = w' := by
  obtain ⟨res, hres⟩ : ∃ res, Fm.isName s.data.toList = res := ⟨_, rfl⟩
  rw [hres]
  have HR : Hid (res = (decide (1 ≤ s.size) && decide (s.size ≤ 20) && Fm.up (s.data.toList.headD 0) && Fm.only [95] s.data.toList)) := Lib.hid (by rw [← hres]; unfold Fm.isName; rw [len_data])
  clear hres
  by_cases h1 : 1 ≤ s.size
  rotate_left
  · have d1 : (s.size : Int) < 1 := by omega
    have HF : Hid (res = false) := Lib.hid (by rw [HR.out, decide_eq_false h1]; rfl)
    clear h1 HR
    go_enter Tryz.func44, Tryz.ntmps44
    go_wp2
    go_ret
    exact ⟨ret_bool HF.out.symm, rfl⟩
  have d1 : ¬ (s.size : Int) < 1 := by omega
  by_cases h2 : s.size ≤ 20
  rotate_left
  · have d2 : (20 : Int) < (s.size : Int) := by omega
    have HF : Hid (res = false) := Lib.hid (by rw [HR.out, decide_eq_true h1, decide_eq_false h2]; rfl)
    clear h1 h2 HR
    go_enter Tryz.func44, Tryz.ntmps44
    go_wp2
    go_ret
    exact ⟨ret_bool HF.out.symm, rfl⟩
  have d2 : ¬ (20 : Int) < (s.size : Int) := by omega
  have hlt0 : (0 : Int) < (s.size : Int) := by omega
  have h0 : 0 < s.size := by omega
  have hh := head_at s h0
  obtain ⟨c, hc⟩ : ∃ c, s[0] = c := ⟨_, rfl⟩
  rw [hc] at hh
  rw [hh] at HR
  have H0 := Lib.hid (fun w => xupper_any c w)
  cases hu : Fm.up c with
  | false =>
    rw [hu] at H0 HR
    have HF : Hid (res = false) := Lib.hid (by rw [HR.out, decide_eq_true h1, decide_eq_true h2]; rfl)
    clear h1 h2 HR hh hu
    go_enter Tryz.func44, Tryz.ntmps44
    go_wp2_with fail
    refine (H0.out _).mono ?_
    rintro e w1 ⟨rfl, rfl⟩
    go_wp2
    go_ret
    exact ⟨ret_bool HF.out.symm, rfl⟩
  | true =>
    rw [hu] at H0 HR
    have HBAD : Fm.only [95] s.data.toList = false → res = false := fun h => by rw [HR.out, h]; simp
    have HGOOD : Hid (Fm.only [95] s.data.toList = true → res = true) := Lib.hid fun h => by rw [HR.out, h, decide_eq_true h1, decide_eq_true h2]; rfl
    clear h1 h2 HR hh hu
    go_enter Tryz.func44, Tryz.ntmps44
    go_wp2_with fail
    refine (H0.out _).mono ?_
    rintro e w1 ⟨rfl, rfl⟩
    go_wp2
    go_loop [3] (fun i => ∃ k : Nat, k ≤ s.size ∧ i = .int .i64 (k : Int) ∧ Hid (Fm.only [95] (s.data.toList.take k) = true)) (fun i => s.size - (intOf i).toNat)
    case atStart => exact ⟨0, Nat.zero_le _, rfl, Lib.hid rfl⟩
    case round =>
      obtain ⟨k, hk, rfl, hal⟩ := hrel
      by_cases hlt : k < s.size
      · have HA := Lib.hid (only_succ [95] s k hlt hal.out)
        have HN := Lib.hid (only_false [95] s k hlt)
        have HI := Lib.hid (has_95 s[k])
        have HU := Lib.hid (fun w => xupper_any s[k] w)
        have HD := Lib.hid (fun w => xdigit_any s[k] w)
        generalize Fm.up s[k] = u at *
        generalize Fm.dg s[k] = d at *
        cases u with
        | true =>
          have HO : Hid (Fm.only [95] (s.data.toList.take (k + 1)) = true) := Lib.hid (by rw [HA.out]; rfl)
          clear HA HN HI HD
          go_wp2_with fail
          refine (HU.out _).mono ?_
          rintro e w1 ⟨rfl, rfl⟩
          go_wp2
          go_round
          case rel => exact ⟨k + 1, by omega, by go_num, HO⟩
          case measure => simp [intOf]; omega
        | false =>
          cases d with
          | true =>
            have HO : Hid (Fm.only [95] (s.data.toList.take (k + 1)) = true) := Lib.hid (by rw [HA.out]; rfl)
            clear HA HN HI
            go_wp2_with fail
            refine (HU.out _).mono ?_
            rintro e w1 ⟨rfl, rfl⟩
            go_wp2_with fail
            refine (HD.out _).mono ?_
            rintro e w1 ⟨rfl, rfl⟩
            go_wp2
            go_round
            case rel => exact ⟨k + 1, by omega, by go_num, HO⟩
            case measure => simp [intOf]; omega
          | false =>
            by_cases q0 : (s[k].toNat : Int) = 95
            · have c0 : ((s[k].toNat : Int) == 95) = true := beq_iff_eq.2 q0
              have b0 : ((s[k].toNat : Int) != 95) = false := by rw [bne, c0]; rfl
              have HO : Hid (Fm.only [95] (s.data.toList.take (k + 1)) = true) := Lib.hid (by rw [HA.out, HI.out]; simp [c0])
              clear HA HN HI q0 c0
              go_wp2_with fail
              refine (HU.out _).mono ?_
              rintro e w1 ⟨rfl, rfl⟩
              go_wp2_with fail
              refine (HD.out _).mono ?_
              rintro e w1 ⟨rfl, rfl⟩
              go_wp2
              go_round
              case rel => exact ⟨k + 1, by omega, by go_num, HO⟩
              case measure => simp [intOf]; omega
            have c0 : ((s[k].toNat : Int) == 95) = false := beq_eq_false_iff_ne.2 q0
            have b0 : ((s[k].toNat : Int) != 95) = true := by rw [bne, c0]; rfl
            have HF : Hid (res = false) := Lib.hid (HBAD (HN.out (by rw [HI.out]; simp [c0])))
            clear HA HN HI q0 c0
            go_wp2_with fail
            refine (HU.out _).mono ?_
            rintro e w1 ⟨rfl, rfl⟩
            go_wp2_with fail
            refine (HD.out _).mono ?_
            rintro e w1 ⟨rfl, rfl⟩
            go_wp2
            go_ret
            exact ⟨ret_bool HF.out.symm, rfl⟩
      · obtain rfl : k = s.size := by omega
        have HT : Hid (Fm.only [95] s.data.toList = true) := Lib.hid (by have := hal.out; rw [take_all] at this; exact this)
        clear hk hlt hal
        have HF := Lib.hid (HGOOD.out HT.out)
        clear HT HBAD HGOOD
        go_wp2
        go_ret
        exact ⟨ret_bool HF.out.symm, rfl⟩

set_option maxHeartbeats 1000000 in
theorem xword_any (s : ByteArray) (hs : s.size ≤ 9223372036854775807) (w : World) : Calls Tryz.prog 117 #[.string s] w fun e w' => e = .returned (.bool (Fm.isWord s.data.toList)) ∧ w = w' := by
  obtain ⟨res, hres⟩ : ∃ res, Fm.isWord s.data.toList = res := ⟨_, rfl⟩
  rw [hres]
  have HR : Hid (res = (decide (1 ≤ s.size) && decide (s.size ≤ 20) && Fm.only [45, 95] s.data.toList)) := Lib.hid (by rw [← hres]; unfold Fm.isWord; rw [len_data])
  clear hres
  have HBAD : Fm.only [45, 95] s.data.toList = false → res = false := fun h => by rw [HR.out, h]; simp
  go_enter Tryz.func117, Tryz.ntmps117
  go_wp2
  go_loop [3] (fun i => ∃ k : Nat, k ≤ s.size ∧ i = .int .i64 (k : Int) ∧ Hid (Fm.only [45, 95] (s.data.toList.take k) = true)) (fun i => s.size - (intOf i).toNat)
  case atStart => exact ⟨0, Nat.zero_le _, rfl, Lib.hid rfl⟩
  case round =>
    obtain ⟨k, hk, rfl, hal⟩ := hrel
    by_cases hlt : k < s.size
    · have HA := Lib.hid (only_succ [45, 95] s k hlt hal.out)
      have HN := Lib.hid (only_false [45, 95] s k hlt)
      have HI := Lib.hid (has_4595 s[k])
      have HU := Lib.hid (fun w => xupper_any s[k] w)
      have HD := Lib.hid (fun w => xdigit_any s[k] w)
      generalize Fm.up s[k] = u at *
      generalize Fm.dg s[k] = d at *
      cases u with
      | true =>
        have HO : Hid (Fm.only [45, 95] (s.data.toList.take (k + 1)) = true) := Lib.hid (by rw [HA.out]; rfl)
        clear HA HN HI HD
        go_wp2_with fail
        refine (HU.out _).mono ?_
        rintro e w1 ⟨rfl, rfl⟩
        go_wp2
        go_round
        case rel => exact ⟨k + 1, by omega, by go_num, HO⟩
        case measure => simp [intOf]; omega
      | false =>
        cases d with
        | true =>
          have HO : Hid (Fm.only [45, 95] (s.data.toList.take (k + 1)) = true) := Lib.hid (by rw [HA.out]; rfl)
          clear HA HN HI
          go_wp2_with fail
          refine (HU.out _).mono ?_
          rintro e w1 ⟨rfl, rfl⟩
          go_wp2_with fail
          refine (HD.out _).mono ?_
          rintro e w1 ⟨rfl, rfl⟩
          go_wp2
          go_round
          case rel => exact ⟨k + 1, by omega, by go_num, HO⟩
          case measure => simp [intOf]; omega
        | false =>
          by_cases q0 : (s[k].toNat : Int) = 95
          · have c0 : ((s[k].toNat : Int) == 95) = true := beq_iff_eq.2 q0
            have b0 : ((s[k].toNat : Int) != 95) = false := by rw [bne, c0]; rfl
            have HO : Hid (Fm.only [45, 95] (s.data.toList.take (k + 1)) = true) := Lib.hid (by rw [HA.out, HI.out]; simp [c0])
            clear HA HN HI q0 c0
            go_wp2_with fail
            refine (HU.out _).mono ?_
            rintro e w1 ⟨rfl, rfl⟩
            go_wp2_with fail
            refine (HD.out _).mono ?_
            rintro e w1 ⟨rfl, rfl⟩
            go_wp2
            go_round
            case rel => exact ⟨k + 1, by omega, by go_num, HO⟩
            case measure => simp [intOf]; omega
          have c0 : ((s[k].toNat : Int) == 95) = false := beq_eq_false_iff_ne.2 q0
          have b0 : ((s[k].toNat : Int) != 95) = true := by rw [bne, c0]; rfl
          by_cases q1 : (s[k].toNat : Int) = 45
          · have c1 : ((s[k].toNat : Int) == 45) = true := beq_iff_eq.2 q1
            have b1 : ((s[k].toNat : Int) != 45) = false := by rw [bne, c1]; rfl
            have HO : Hid (Fm.only [45, 95] (s.data.toList.take (k + 1)) = true) := Lib.hid (by rw [HA.out, HI.out]; simp [c0, c1])
            clear HA HN HI q0 c0 q1 c1
            go_wp2_with fail
            refine (HU.out _).mono ?_
            rintro e w1 ⟨rfl, rfl⟩
            go_wp2_with fail
            refine (HD.out _).mono ?_
            rintro e w1 ⟨rfl, rfl⟩
            go_wp2
            go_round
            case rel => exact ⟨k + 1, by omega, by go_num, HO⟩
            case measure => simp [intOf]; omega
          have c1 : ((s[k].toNat : Int) == 45) = false := beq_eq_false_iff_ne.2 q1
          have b1 : ((s[k].toNat : Int) != 45) = true := by rw [bne, c1]; rfl
          have HF : Hid (res = false) := Lib.hid (HBAD (HN.out (by rw [HI.out]; simp [c0, c1])))
          clear HA HN HI q0 c0 q1 c1
          go_wp2_with fail
          refine (HU.out _).mono ?_
          rintro e w1 ⟨rfl, rfl⟩
          go_wp2_with fail
          refine (HD.out _).mono ?_
          rintro e w1 ⟨rfl, rfl⟩
          go_wp2
          go_ret
          exact ⟨ret_bool HF.out.symm, rfl⟩
    · obtain rfl : k = s.size := by omega
      have HT : Hid (Fm.only [45, 95] s.data.toList = true) := Lib.hid (by have := hal.out; rw [take_all] at this; exact this)
      clear hk hlt hal
      by_cases h1 : 1 ≤ s.size
      rotate_left
      · have d1 : decide ((1 : Int) ≤ (s.size : Int)) = false := decide_eq_false (by omega)
        have HF : Hid (res = false) := Lib.hid (by rw [HR.out, decide_eq_false h1]; rfl)
        clear h1 HR HT HBAD
        go_wp2
        go_ret
        exact ⟨ret_bool HF.out.symm, rfl⟩
      have d1 : decide ((1 : Int) ≤ (s.size : Int)) = true := decide_eq_true (by omega)
      by_cases h2 : s.size ≤ 20
      · have d2 : decide ((s.size : Int) ≤ 20) = true := decide_eq_true (by omega)
        have HF : Hid (res = true) := Lib.hid (by rw [HR.out, decide_eq_true h1, decide_eq_true h2, HT.out]; rfl)
        clear h1 h2 HR HT HBAD
        go_wp2
        go_ret
        exact ⟨ret_bool HF.out.symm, rfl⟩
      · have d2 : decide ((s.size : Int) ≤ 20) = false := decide_eq_false (by omega)
        have HF : Hid (res = false) := Lib.hid (by rw [HR.out, decide_eq_true h1, decide_eq_false h2]; rfl)
        clear h1 h2 HR HT HBAD
        go_wp2
        go_ret
        exact ⟨ret_bool HF.out.symm, rfl⟩

end Go.Proofs.YtkpfehfcgpapiaaGreatDoor

/-
  Chapter 51: lists of strings, bounds, choices: the reference.
  No condition.
-/
namespace Go.Proofs.YtkpfehfcgpapiaaGreatDoor
open Go.RowKit

theorem has_none {l : List Fm.S} {s : Fm.S} {i : Nat} {x : Fm.S} (h : l[i]? = some x) (hn : (l.take i).contains s = false) (hx : x ≠ s) : (l.take (i + 1)).contains s = false := by
  rw [snoc_take h]
  rw [Bool.eq_false_iff] at hn ⊢
  rw [Ne, List.contains_iff_mem] at hn ⊢
  rw [List.mem_append, List.mem_singleton]
  rintro (q | q)
  · exact hn q
  · exact hx q.symm
theorem has_here {l : List Fm.S} {s : Fm.S} {i : Nat} (h : l[i]? = some s) : l.contains s = true := List.contains_iff_mem.2 (List.mem_of_getElem? h)
theorem same_bytes {A B : ByteArray} {x : Fm.S} (h : A.data.toList = x) (e : x = B.data.toList) : (A.toList == B.toList) = true := by
  rw [Lib.toList_data, Lib.toList_data, h, e]; simp
theorem other_bytes {A B : ByteArray} {x : Fm.S} (h : A.data.toList = x) (e : x ≠ B.data.toList) : (A.toList == B.toList) = false := by
  rw [Lib.toList_data, Lib.toList_data, h]; simpa using e

set_option maxRecDepth 100000 in
set_option maxHeartbeats 1000000 in
theorem xhas_any (v : Value) (l : List Fm.S) (s : ByteArray) (w : World) (hl : StrsR w v l) (hn : l.length ≤ 9223372036854775807) :
    Calls Tryz.prog 45 #[v, .string s] w fun e w' => e = .returned (.bool (l.contains s.data.toList)) ∧ w = w' := by
  obtain ⟨a, c, rfl, hc⟩ := hl.form
  obtain ⟨res, hres⟩ : ∃ res, l.contains s.data.toList = res := ⟨_, rfl⟩
  rw [hres]
  obtain ⟨N, hN⟩ : ∃ N, l.length = N := ⟨_, rfl⟩
  have HN := Lib.hid hN
  have HR := Lib.hid hres
  have HL := Lib.hid hl
  rw [hN] at hn HL ⊢
  clear hl hN hres hc
  go_enter Tryz.func45, Tryz.ntmps45
  go_wp2
  go_loop [5] (fun i => ∃ k : Nat, k ≤ N ∧ i = .int .i64 (k : Int) ∧ Hid ((l.take k).contains s.data.toList = false)) (fun i => N - (intOf i).toNat)
  case atStart => exact ⟨0, Nat.zero_le _, rfl, Lib.hid rfl⟩
  case round =>
    obtain ⟨k, hk, rfl, hv⟩ := hrel
    by_cases hlt : k < N
    · obtain ⟨x, hxk⟩ : ∃ x, l[k]? = some x := ⟨_, List.getElem?_eq_getElem (by rw [HN.out]; exact hlt)⟩
      obtain ⟨bb, off, X, ha, hb, d0, hX⟩ := HL.out.bytes hxk
      subst ha
      by_cases he : x = s.data.toList
      · have hq := same_bytes hX he
        have HF : Hid (res = true) := Lib.hid (by rw [← HR.out, ← he]; exact has_here hxk)
        clear he hX hv hxk
        go_wp2
        go_ret
        exact ⟨ret_bool HF.out.symm, rfl⟩
      · have hq := other_bytes hX he
        have HV := Lib.hid (has_none hxk hv.out he)
        clear he hX hv hxk
        go_wp2
        go_round
        case rel => exact ⟨k + 1, by omega, by go_num, HV⟩
        case measure => simp [intOf]; omega
    · obtain rfl : k = N := by omega
      have HF : Hid (res = false) := Lib.hid (by rw [← HR.out]; have := hv.out; rw [List.take_of_length_le (by rw [HN.out]; exact Nat.le_refl _)] at this; exact this)
      clear hk hlt hv
      go_wp2
      go_ret
      exact ⟨ret_bool HF.out.symm, rfl⟩

set_option maxHeartbeats 400000 in
theorem xbounds_any (lo a b hi : Int) (w : World) : Calls Tryz.prog 57 #[.int .i64 lo, .int .i64 a, .int .i64 b, .int .i64 hi] w fun e w' => e = .returned (.int .i64 (if Fm.within lo a b hi then 0 else 3)) ∧ w = w' := by
  by_cases h0 : a < lo
  · have hr : Fm.within lo a b hi = false := by unfold Fm.within; rw [decide_eq_false (show ¬ lo ≤ a by omega)]; rfl
    rw [hr]
    clear hr
    go_enter Tryz.func57, Tryz.ntmps57
    go_wp2
    go_ret
    exact ⟨rfl, rfl⟩
  by_cases h1 : b < a
  · have hr : Fm.within lo a b hi = false := by unfold Fm.within; rw [decide_eq_false (show ¬ a ≤ b by omega)]; simp
    rw [hr]
    clear hr
    go_enter Tryz.func57, Tryz.ntmps57
    go_wp2
    go_ret
    exact ⟨rfl, rfl⟩
  by_cases h2 : hi < b
  · have hr : Fm.within lo a b hi = false := by unfold Fm.within; rw [decide_eq_false (show ¬ b ≤ hi by omega)]; simp
    rw [hr]
    clear hr
    go_enter Tryz.func57, Tryz.ntmps57
    go_wp2
    go_ret
    exact ⟨rfl, rfl⟩
  have hr : Fm.within lo a b hi = true := by unfold Fm.within; rw [decide_eq_true (show lo ≤ a by omega), decide_eq_true (show a ≤ b by omega), decide_eq_true (show b ≤ hi by omega)]; rfl
  rw [hr]
  clear hr
  go_enter Tryz.func57, Tryz.ntmps57
  go_wp2
  go_ret
  exact ⟨rfl, rfl⟩

/-! ### Slices cut -/
theorem sizeOf_str (w : World) : (sizeOf 9).run Tryz.prog w = .ok 1 w := by kernel_rfl
theorem sliced_strs {w : World} {a : Option Addr} {c : Nat} {l : List Fm.S} {lo hi : Nat} (h : StrsR w (.slice a l.length c) l) (hl : lo ≤ hi) (hh : hi ≤ l.length) : StrsR w (sliced a lo hi c 1) ((l.drop lo).take (hi - lo)) := by
  obtain ⟨hk, a', c', he, hc⟩ := h
  injection he with h1 h2 h3
  subst h1 h3
  have hlen : ((l.drop lo).take (hi - lo)).length = hi - lo := by rw [List.length_take, List.length_drop]; omega
  unfold sliced
  refine ⟨?_, _, c - lo, by rw [hlen], by rw [hlen]; omega⟩
  by_cases hz : hi - lo = 0
  · left
    exact ⟨List.eq_nil_of_length_eq_zero (by rw [hlen]; exact hz), _, _, by rw [hz]⟩
  · right
    rw [if_neg (by omega), Nat.mul_one]
    rcases hk with ⟨h0, _⟩ | ⟨b, off, cap, he, hb, hcell⟩
    · rw [h0] at hh; simp at hh; omega
    · injection he with h1 h2 h3
      subst h1
      refine ⟨b, off + lo, c - lo, by rw [hlen]; simp [add_off], hb, fun i x hi' q hq => ?_⟩
      rw [List.getElem?_take] at hi'
      split at hi'
      · rw [List.getElem?_drop] at hi'
        have := hcell (lo + i) x hi' q hq
        rw [← this]
        congr 2
        omega
      · simp at hi'
/-- The first strings of a slice. -/
theorem slice_front {w : World} {v : Value} {l : List Fm.S} (hs : StrsR w v l) (h : Nat) (hh : h ≤ l.length) :
    ∃ v', (∀ w', (Instr.slice 37 v none (some (.int .i64 (h : Int))) none).run Tryz.prog w' = .ok v' w') ∧ StrsR w v' (l.take h) := by
  obtain ⟨a, c, rfl, hc⟩ := hs.form
  have h1 := sliced_strs hs (lo := 0) (hi := h) (Nat.zero_le _) hh
  rw [List.drop_zero, Nat.sub_zero] at h1
  refine ⟨_, fun w' => ?_, h1⟩
  have e : Tryz.prog.elem 37 = 9 := by kernel_rfl
  have ht : Tryz.prog.underlying 37 = some (.slice (Tryz.prog.elem 37)) := by rw [e]; exact Tryz.underlying37
  rw [run_slice_h w' 37 a l.length c ht .i64 (h : Int) (by omega) (by omega), e, sizeOf_str]
  rfl
/-- The strings behind the first ones. -/
theorem slice_back {w : World} {v : Value} {l : List Fm.S} (hs : StrsR w v l) (h : Nat) (hh : h ≤ l.length) :
    ∃ v', (∀ w', (Instr.slice 37 v (some (.int .i64 (h : Int))) none none).run Tryz.prog w' = .ok v' w') ∧ StrsR w v' (l.drop h) := by
  obtain ⟨a, c, rfl, hc⟩ := hs.form
  have h1 := sliced_strs hs (lo := h) (hi := l.length) hh (Nat.le_refl _)
  rw [List.take_of_length_le (by rw [List.length_drop]; exact Nat.le_refl _)] at h1
  refine ⟨_, fun w' => ?_, h1⟩
  have e : Tryz.prog.elem 37 = 9 := by kernel_rfl
  have ht : Tryz.prog.underlying 37 = some (.slice (Tryz.prog.elem 37)) := by rw [e]; exact Tryz.underlying37
  rw [run_slice_l w' 37 a l.length c ht .i64 (h : Int) (by omega) (by omega), e, sizeOf_str]
  rfl
end Go.Proofs.YtkpfehfcgpapiaaGreatDoor

/-
  Chapter 51: the choices of a field, the parts of a sum rule: the program.
  No condition.
-/
namespace Go.Proofs.YtkpfehfcgpapiaaGreatDoor
open Go.RowKit

theorem SetB.ext {w w' : World} {b : Nat} {met : List Fm.S} (h : SetB Tryz.prog 9 w b met) (hx : Ext w w') : SetB Tryz.prog 9 w' b met := h.kept hx.asGrown (by simp)
abbrev SetS (w : World) (b : Nat) (met : List Fm.S) : Prop := SetB Tryz.prog 9 w b met
theorem set_get {w : World} {b : Nat} {met : List Fm.S} (h : SetS w b met) (X : ByteArray) (x : Fm.S) (hX : X.data.toList = x) (hs : x.length ≤ Go.maxLen) :
    (Instr.lookup 67 (.map (some b)) (.string X) false).run Tryz.prog w = .ok (.bool (met.contains x)) w := by
  have := SetB.get (T := 67) h Tryz.underlying9 Tryz.underlying67 (by kernel_rfl) X (by rw [← len_data, hX]; exact hs)
  rw [hX] at this
  exact this
theorem set_put {w : World} {b : Nat} {met : List Fm.S} (h : SetS w b met) (X : ByteArray) (x : Fm.S) (hX : X.data.toList = x) (hs : x.length ≤ Go.maxLen) (hn : met.length < Go.maxLen) :
    ∃ w', (Instr.mapUpdate 67 (.map (some b)) (.string X) (.bool true)).run Tryz.prog w = .ok () w' ∧ SetS w' b (met ++ [x]) ∧ w.grownBy w' (some b) := by
  have := SetB.put (T := 67) h Tryz.underlying9 Tryz.underlying67 X (by rw [← len_data, hX]; exact hs) hn
  rw [hX] at this
  exact this

theorem set_made {w : World} {n : Nat} (h : w.heap.size = n) : SetS (w.alloc (.map #[] 0)) n [] := by subst h; exact SetB.made w

set_option maxRecDepth 100000 in
set_option maxHeartbeats 1000000 in
theorem checkChoices_any (v : Value) (l : List Fm.S) (w : World) (hl : StrsR w v l) (hs : Short Go.maxLen l) (hn : l.length ≤ Go.maxLen) :
    Calls Tryz.prog 75 #[v] w fun e w' => e = .returned (.int .i64 (Fm.chsE l)) ∧ Ext w w' := by
  obtain ⟨a, c, rfl, hc⟩ := hl.form
  have HR := Lib.hid (Fm.chsE.eq_1 l)
  generalize Fm.chsE l = res at *
  obtain ⟨N, hN⟩ : ∃ N, l.length = N := ⟨_, rfl⟩
  have HN := Lib.hid hN
  have HL := Lib.hid hl
  have HS := Lib.hid hs
  rw [hN] at hn HL HR ⊢
  clear hl hN hc hs
  by_cases h0 : N = 0
  · have d0 : ((N : Int) == 0) = true := by rw [h0]; rfl
    rw [if_pos h0] at HR
    clear h0 HS HL HN
    go_enter Tryz.func75, Tryz.ntmps75
    go_wp2
    go_ret
    exact ⟨ret_int HR.out.symm, Ext.refl _⟩
  have d0 : ((N : Int) == 0) = false := by rw [beq_eq_false_iff_ne]; omega
  rw [if_neg h0] at HR
  by_cases h1 : 32 < N
  · have d1 : (32 : Int) < (N : Int) := by omega
    rw [if_pos h1] at HR
    clear h0 h1 HS HL HN
    go_enter Tryz.func75, Tryz.ntmps75
    go_wp2
    go_ret
    exact ⟨ret_int HR.out.symm, Ext.refl _⟩
  have d1 : ¬ (32 : Int) < (N : Int) := by omega
  rw [if_neg h1] at HR
  clear h0
  have hmm := @run_makeMap Tryz.prog
  go_enter Tryz.func75, Tryz.ntmps75
  go_wp2
  go_loopw [15] (fun t wr => ∃ k : Nat, k ≤ N ∧ t = .int .i64 (k : Int) ∧ Hid (res = Fm.chsGo (l.take k) (l.drop k)) ∧ SetS wr w.heap.size (l.take k) ∧ Ext w wr) (fun t _ => N - (intOf t).toNat)
  case atStart => exact ⟨0, Nat.zero_le _, rfl, HR, SetB.made w, (Ext.refl w).alloc _⟩
  case round =>
    obtain ⟨k, hk, rfl, hv, hS, hx⟩ := hrel
    by_cases hlt : k < N
    · obtain ⟨x, hxk⟩ : ∃ x, l[k]? = some x := ⟨_, List.getElem?_eq_getElem (by rw [HN.out]; exact hlt)⟩
      obtain ⟨bb, off, X, ha, hb, q0, hX⟩ := HL.out.bytes hxk
      subst ha
      have e0 := (hx.cell (p := ⟨bb, off + k, none⟩) hb).trans q0
      have HV := Lib.hid (hv.out.trans (by rw [cons_drop hxk, Fm.chsGo]))
      have HT := Lib.hid (snoc_take hxk)
      have HW := Lib.hid (fun w => isWord_any X w)
      rw [hX] at HW
      have hxs := HS.out x (List.mem_of_getElem? hxk)
      have hg := set_get hS X x hX hxs
      have hml : (l.take k).length ≤ k := List.length_take_le _ _
      cases hw : Fm.isWord x with
      | false =>
        rw [hw, if_neg (by simp)] at HV
        rw [hw] at HW
        clear hX hxk q0 hw hv hg HT hml
        go_wp2_with fail
        refine (HW.out _).mono ?_
        rintro e w1 ⟨rfl, rfl⟩
        go_wp2
        go_ret
        exact ⟨ret_int HV.out.symm, hx⟩
      | true =>
        rw [hw, if_pos rfl] at HV
        rw [hw] at HW
        cases hm : (l.take k).contains x with
        | true =>
          rw [hm, if_pos rfl] at HV
          rw [hm] at hg
          clear hX hxk q0 hw hv HT hm hml
          go_wp2_with fail
          refine (HW.out _).mono ?_
          rintro e w1 ⟨rfl, rfl⟩
          go_wp2
          go_ret
          exact ⟨ret_int HV.out.symm, hx⟩
        | false =>
          rw [hm, if_neg (by simp), ← HT.out] at HV
          rw [hm] at hg
          obtain ⟨w2, hrun, hS2, hg2⟩ := set_put hS X x hX hxs (by unfold Go.maxLen at *; omega)
          rw [← HT.out] at hS2
          have hx2 := hx.ofGrown hg2 (fun j hj => by cases hj; exact Nat.le_refl _)
          clear hX hxk q0 hw hv HT hm hml hS hg2
          go_wp2_with fail
          refine (HW.out _).mono ?_
          rintro e w1 ⟨rfl, rfl⟩
          go_wp2
          go_roundw
          case rel => exact ⟨k + 1, by omega, by go_num, HV, hS2, hx2⟩
          case measure => simp [intOf]; omega
    · obtain rfl : k = N := by omega
      have HF : Hid (res = 0) := Lib.hid (by rw [hv.out, List.drop_of_length_le (by rw [HN.out]; exact Nat.le_refl _)]; rfl)
      clear hk hlt hv
      go_wp2
      go_ret
      exact ⟨ret_int HF.out.symm, hx⟩

theorem nodup_len {l : List Fm.S} (hn : l.Nodup) : ∀ {m : List Fm.S}, (∀ x ∈ l, x ∈ m) → l.length ≤ m.length := by
  induction l with
  | nil => intro m _; exact Nat.zero_le _
  | cons x l ih =>
    intro m h
    rw [List.nodup_cons] at hn
    have hx := h x (List.mem_cons_self ..)
    have := ih hn.2 (m := m.erase x) (fun y hy => (List.mem_erase_of_ne (fun e => hn.1 (by rw [← e]; exact hy))).2 (h y (List.mem_cons_of_mem _ hy)))
    rw [List.length_erase_of_mem hx] at this
    have hp : 0 < m.length := List.length_pos_of_mem hx
    rw [List.length_cons]; omega

set_option maxRecDepth 100000 in
set_option maxHeartbeats 1000000 in
theorem checkSum_any (T : ByteArray) (v : Value) (l ns : List Fm.S) (nb : Nat) (w : World) (hl : StrsR w v l) (hs : Short Go.maxLen l) (hn : l.length ≤ Go.maxLen) (hT : T.size ≤ Go.maxLen) (hN : SetS w nb ns) (hns : ns.length ≤ 1000) :
    Calls Tryz.prog 43 #[.agg #[.string T, v], .map (some nb)] w fun e w' => e = .returned (.int .i64 (Fm.sumE ns ⟨T.data.toList, l⟩)) ∧ Ext w w' := by
  obtain ⟨a, c, rfl, hc⟩ := hl.form
  have HR := Lib.hid (Fm.sumE.eq_1 ns ⟨T.data.toList, l⟩)
  dsimp only at HR
  generalize Fm.sumE ns ⟨T.data.toList, l⟩ = res at *
  obtain ⟨N, hNN⟩ : ∃ N, l.length = N := ⟨_, rfl⟩
  have HN := Lib.hid hNN
  have HL := Lib.hid hl
  have HS := Lib.hid hs
  rw [hNN] at hn HL HR ⊢
  clear hl hNN hc hs
  have hnN : N ≤ 9223372036854775807 := hn
  obtain ⟨t, ht⟩ : ∃ t, T.data.toList = t := ⟨_, rfl⟩
  rw [ht] at HR
  have hts : t.length ≤ Go.maxLen := by rw [← ht, len_data]; exact hT
  have hN0 : SetS (w.alloc (.cells #[.string T, .slice a N c] 56)) nb ns := hN.ext ((Ext.refl w).alloc _)
  have hg0 := set_get hN0 T t ht hts
  cases hc : ns.contains t with
  | false =>
    rw [hc, if_neg (by simp)] at HR
    rw [hc] at hg0
    clear hc ht HS HL HN hts hN hN0
    go_enter Tryz.func43, Tryz.ntmps43
    go_wp2
    go_ret
    exact ⟨ret_int HR.out.symm, (by repeat (first | exact Ext.refl _ | assumption | refine Ext.alloc ?_ _ | refine Ext.drew ?_ | refine Ext.trans ?_ (by assumption)))⟩
  | true =>
  rw [hc, if_pos rfl] at HR
  rw [hc] at hg0
  have HD0 : Hid ((t :: l.take 0).Nodup ∧ ∀ x ∈ t :: l.take 0, x ∈ ns) := Lib.hid ⟨by simp, fun x hx => by
    rw [List.take_zero, List.mem_singleton] at hx
    rw [hx]; exact List.contains_iff_mem.1 hc⟩
  clear hc
  by_cases h0 : N = 0
  · have d0 : ((N : Int) == 0) = true := by rw [h0]; rfl
    rw [if_pos h0] at HR
    clear ht h0 HS HL HN hts hN hN0
    go_enter Tryz.func43, Tryz.ntmps43
    go_wp2
    go_ret
    exact ⟨ret_int HR.out.symm, (by repeat (first | exact Ext.refl _ | assumption | refine Ext.alloc ?_ _ | refine Ext.drew ?_ | refine Ext.trans ?_ (by assumption)))⟩
  have d0 : ((N : Int) == 0) = false := by rw [beq_eq_false_iff_ne]; omega
  rw [if_neg h0] at HR
  have hnb : nb < w.heap.size := hN.lt
  obtain ⟨W, hrun0, hS0, hgW⟩ := set_put (met := []) (set_made (w := (w.alloc (.cells #[.string T, .slice a N c] 56))) (n := w.heap.size + 1) (by simp)) T t ht hts (by unfold Go.maxLen; simp)
  have hxW := (((Ext.refl w).alloc (.cells #[.string T, .slice a N c] 56)).alloc (.map #[] 0)).ofGrown hgW (fun j hj => by cases hj; omega)
  have hN1 : SetS W nb ns := hN.ext hxW
  rw [List.nil_append] at hS0
  have rB := (hgW.block w.heap.size (by simp; omega) (by intro e; injection e with e; omega)).trans (row_on (heap_alloc_new w (.cells #[.string T, .slice a N c] 56)) ((Ext.refl _).alloc (.map #[] 0)))
  have kB := cell_at rB (i := 1) rfl
  clear rB h0 hN hN0 hgW hts ht
  have hmm := @run_makeMap Tryz.prog
  go_enter Tryz.func43, Tryz.ntmps43
  go_wp2
  go_loopw [24] (fun t' wr => ∃ k : Nat, k ≤ N ∧ t' = .int .i64 (k : Int) ∧ Hid (res = Fm.prtGo ns (t :: l.take k) (l.drop k)) ∧ SetS wr (w.heap.size + 1) (t :: l.take k) ∧ SetS wr nb ns ∧ Hid ((t :: l.take k).Nodup ∧ ∀ x ∈ t :: l.take k, x ∈ ns) ∧ Ext w wr) (fun t _ => N - (intOf t).toNat)
  case atStart => exact ⟨0, Nat.zero_le _, rfl, HR, hS0, hN1, HD0, hxW⟩
  case round =>
    clear hrun0 hS0 hN1 HD0 hxW hg0 hmm kB
    obtain ⟨k, hk, rfl, hv, hS, hM, HD, hx⟩ := hrel
    by_cases hlt : k < N
    · obtain ⟨x, hxk⟩ : ∃ x, l[k]? = some x := ⟨_, List.getElem?_eq_getElem (by rw [HN.out]; exact hlt)⟩
      obtain ⟨bb, off, X, ha, hb, q0, hX⟩ := HL.out.bytes hxk
      subst ha
      have e0 := (hx.cell (p := ⟨bb, off + k, none⟩) hb).trans q0
      have HV := Lib.hid (hv.out.trans (by rw [cons_drop hxk, Fm.prtGo]))
      have HT : Hid (t :: l.take (k + 1) = t :: l.take k ++ [x]) := Lib.hid (by rw [snoc_take hxk]; rfl)
      have hxs := HS.out x (List.mem_of_getElem? hxk)
      have hg := set_get hS X x hX hxs
      have hgn := set_get hM X x hX hxs
      cases hw : ns.contains x with
      | false =>
        rw [hw, if_neg (by simp)] at HV
        rw [hw] at hgn
        clear hX hxk q0 hw hv hg HT hS hM HD
        go_wp2
        go_ret
        exact ⟨ret_int HV.out.symm, hx⟩
      | true =>
        rw [hw, if_pos rfl] at HV
        rw [hw] at hgn
        cases hm : (t :: l.take k).contains x with
        | true =>
          rw [hm, if_pos rfl] at HV
          rw [hm] at hg
          clear hX hxk q0 hw hv HT hm hS hM HD
          go_wp2
          go_ret
          exact ⟨ret_int HV.out.symm, hx⟩
        | false =>
          rw [hm, if_neg (by simp), ← HT.out] at HV
          rw [hm] at hg
          obtain ⟨w2, hrun, hS2, hg2⟩ := set_put hS X x hX hxs (by have := nodup_len HD.out.1 HD.out.2; unfold Go.maxLen; omega)
          have HD2 : Hid ((t :: l.take (k + 1)).Nodup ∧ ∀ x ∈ t :: l.take (k + 1), x ∈ ns) := Lib.hid (by
            rw [HT.out]
            refine ⟨List.nodup_append.2 ⟨HD.out.1, by simp, ?_⟩, fun y hy => ?_⟩
            · intro p hp q hq e
              rw [List.mem_singleton] at hq
              subst hq e
              rw [Bool.eq_false_iff] at hm
              exact hm (List.contains_iff_mem.2 hp)
            · rcases List.mem_append.1 hy with hy | hy
              · exact HD.out.2 y hy
              · rw [List.mem_singleton] at hy; rw [hy]; exact List.contains_iff_mem.1 hw)
          rw [← HT.out] at hS2
          have hx2 := hx.ofGrown hg2 (fun j hj => by cases hj; omega)
          have hM2 : SetS w2 nb ns := hM.kept hg2 (by intro e; injection e with e; omega)
          clear hX hxk q0 hw hv HT hm hS hg2 hM HD
          go_wp2
          go_roundw
          case rel => exact ⟨k + 1, by omega, by go_num, HV, hS2, hM2, HD2, hx2⟩
          case measure => simp [intOf]; omega
    · obtain rfl : k = N := by omega
      have HF : Hid (res = 0) := Lib.hid (by rw [hv.out, List.drop_of_length_le (by rw [HN.out]; exact Nat.le_refl _)]; rfl)
      clear hk hlt hv
      go_wp2
      go_ret
      exact ⟨ret_int HF.out.symm, hx⟩
end Go.Proofs.YtkpfehfcgpapiaaGreatDoor
