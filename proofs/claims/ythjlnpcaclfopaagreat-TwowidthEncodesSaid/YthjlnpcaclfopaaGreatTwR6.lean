/-
  Chapter 12: the reference's wrong, walked.
  Condition: the text is not empty nor too long.
-/
import Derived.Test.YthjlnpcaclfopaaGreatTwR5
namespace Go.Proofs.YthjlnpcaclfopaaGreat
open Go.RowKit

theorem only_all (l cs : List UInt8) : Tw.only l cs = l.all fun c => decide (0 ≤ Lib.indexByte cs c) := rfl
theorem comp7_ok (l : List UInt8) (h0 : 1 ≤ l.length) (h1 : l.length ≤ 1001) (ho : Tw.only l Cd.syms = true) : (Cd.compI 7 l).2 = 0 := by
  have hne : l ≠ [] := by intro e; rw [e] at h0; simp at h0
  have hall : (l.all fun c => Cd.datB 7 c.toNat) = true := by
    rw [List.all_eq_true]
    intro c hc
    rw [only_all, List.all_eq_true] at ho
    have := ho c hc
    unfold Cd.datB Cd.plc
    rw [if_pos rfl, byte_num]; exact this
  unfold Cd.compI
  rw [if_neg (by omega)]
  unfold Cd.comp
  rw [if_neg hne, if_neg (by omega), if_neg (by rw [show Int.toNat 7 = 7 from rfl, hall]; exact Bool.noConfusion), if_neg (by rw [Bool.not_eq_false]; simp [Cd.fits, Cd.size]; omega)]
theorem comp1_ok (l : List UInt8) (h0 : 1 ≤ l.length) (h1 : l.length ≤ 1001) (ho : Tw.only l Tw.cItf = true) : (Cd.compI 1 l).2 = 0 := by
  have hne : l ≠ [] := by intro e; rw [e] at h0; simp at h0
  have hall : (l.all fun c => Cd.datB 1 c.toNat) = true := by
    rw [List.all_eq_true]
    intro c hc
    rw [only_all, List.all_eq_true] at ho
    have h2 := ho c hc
    have h3 := dig_eq ⟨c.toNat, c.toNat_lt⟩
    simp only [ofNat_toNat] at h3
    rw [← h3] at h2
    unfold Cd.datB Cd.isDig
    rw [if_neg (by decide)]
    simp only [Bool.and_eq_true, decide_eq_true_eq] at h2 ⊢
    omega
  unfold Cd.compI
  rw [if_neg (by omega)]
  unfold Cd.comp
  rw [if_neg hne, if_neg (by omega), if_neg (by rw [show Int.toNat 1 = 1 from rfl, hall]; exact Bool.noConfusion), if_neg (by rw [Bool.not_eq_false]; simp [Cd.fits, Cd.size]; omega)]
theorem comp39_err (l : List UInt8) (check : Bool) (h0 : 1 ≤ l.length) (h1 : l.length ≤ 1000) : (Tw.comp39 l check).2 = if Tw.only l Cd.syms = true then 0 else 6 := by
  unfold Tw.comp39
  cases ho : Tw.only l Cd.syms
  · rw [if_pos rfl]; rfl
  · rw [if_neg Bool.noConfusion, if_pos rfl]
    cases check
    · rw [if_pos rfl]
    · rw [if_neg Bool.noConfusion, if_pos (comp7_ok l h0 (by omega) ho)]

theorem compCb_err (l : List UInt8) (check : Bool) : (Tw.compCb l check).2 = if l.length < 2 then 7 else if Tw.only (l.take 1) Tw.eCb = false then 19 else if Tw.only (l.drop (l.length - 1)) Tw.eCb = false then 20 else if Tw.only ((l.drop 1).take (l.length - 2)) Tw.dCb = false then 6 else 0 := by
  unfold Tw.compCb
  split
  · rfl
  split
  · rfl
  split
  · rfl
  split
  · rfl
  split <;> rfl
theorem compItf_err (l : List UInt8) (check : Bool) (h0 : 1 ≤ l.length) (h1 : l.length ≤ 1000) : (Tw.compItf l check).2 = if Tw.only l Tw.cItf = false then 6 else if (decide (l.length % 2 = 1) != check) then 7 else 0 := by
  unfold Tw.compItf
  cases ho : Tw.only l Tw.cItf
  · rw [if_pos rfl, if_pos rfl]
  · rw [if_neg (show ¬ (true = false) from Bool.noConfusion), if_neg (show ¬ (true = false) from Bool.noConfusion)]
    cases check
    · rw [if_pos rfl]
      by_cases h : l.length % 2 = 0
      · rw [if_pos h, if_neg (by simp; omega)]
      · rw [if_neg h, if_pos (by simp; omega)]
    · rw [if_neg Bool.noConfusion]
      have hz : (Cd.compI 1 l).2 = 0 := comp1_ok l h0 (by omega) ho
      rw [if_pos hz, List.length_append, compI_ok 1 l hz, show (Cd.cmp (Int.toNat 1) l).length = 1 from rfl]
      by_cases h : (l.length + 1) % 2 = 0
      · rw [if_pos h, if_neg (by simp; omega)]
      · rw [if_neg h, if_pos (by simp; omega)]

set_option maxRecDepth 100000 in
set_option maxHeartbeats 4000000 in
theorem wrong5_any (s : ByteArray) (check : Bool) (w : World) (h0 : 1 ≤ s.size) (h1 : s.size ≤ 1000) :
    Calls Tryz.prog 18 #[.int .i64 5, .string s, .bool check] w fun e w' => e = .returned (.int .i64 (Tw.compK 0 s.data.toList check).2) ∧ w = w' := by
  have HE : Hid ((Tw.compK 0 s.data.toList check).2 = if Tw.only s.data.toList Cd.syms = true then 0 else 6) := Lib.hid (comp39_err s.data.toList check (by rw [len_data]; exact h0) (by rw [len_data]; exact h1))
  generalize (Tw.compK 0 s.data.toList check).2 = res at *
  go_enter Tryz.func18, Tryz.ntmps18
  go_wp2
  go_loop [9] (fun i => ∃ j : Nat, j ≤ s.size ∧ i = .int .i64 (j : Int) ∧ Hid (∀ c ∈ s.data.toList.take j, 0 ≤ Lib.indexByte Cd.syms c)) (fun i => s.size - (intOf i).toNat)
  case atStart => exact ⟨0, Nat.zero_le _, rfl, Lib.hid (fun c hc => by simp at hc)⟩
  case round =>
    obtain ⟨j, hj, rfl, HB⟩ := hrel
    by_cases hlt : j < s.size
    · have HI := Lib.hid (fun w => inner5_any s[j] w)
      by_cases hx : 0 ≤ Lib.indexByte Cd.syms s[j]
      · rw [decide_eq_true hx] at HI
        have HX := Lib.hid hx
        clear hx
        go_wp2_with fail
        refine (HI.out _).mono ?_
        rintro e w1 ⟨rfl, rfl⟩
        go_wp2
        go_round
        case rel => exact ⟨j + 1, by omega, by go_num, Lib.hid (fun c hc => by
          rw [take_snoc s j hlt, List.mem_append] at hc
          rcases hc with h | h
          · exact HB.out c h
          · rw [List.mem_singleton] at h; rw [h]; exact HX.out)⟩
        case measure => simp [intOf]; omega
      · rw [decide_eq_false hx] at HI
        have hno : ¬ (Tw.only s.data.toList Cd.syms = true) := by
          rw [only_all, List.all_eq_true]
          intro h
          exact hx (by simpa using h s[j] (mem_at s j hlt))
        rw [if_neg hno] at HE
        clear hno hx
        go_wp2_with fail
        refine (HI.out _).mono ?_
        rintro e w1 ⟨rfl, rfl⟩
        go_wp2
        go_ret
        exact ⟨ret_int HE.out.symm, rfl⟩
    · obtain rfl : j = s.size := by omega
      rw [take_all] at HB
      have hyes : Tw.only s.data.toList Cd.syms = true := by
        rw [only_all, List.all_eq_true]
        intro c hc; simpa using HB.out c hc
      rw [if_pos hyes] at HE
      clear hyes hj hlt
      go_wp2
      go_ret
      exact ⟨ret_int HE.out.symm, rfl⟩

set_option maxRecDepth 100000 in
set_option maxHeartbeats 4000000 in
theorem wrong7_any (s : ByteArray) (check : Bool) (w : World) (h0 : 1 ≤ s.size) (h1 : s.size ≤ 1000) :
    Calls Tryz.prog 18 #[.int .i64 7, .string s, .bool check] w fun e w' => e = .returned (.int .i64 (Tw.compK 2 s.data.toList check).2) ∧ w = w' := by
  have HE : Hid ((Tw.compK 2 s.data.toList check).2 = if Tw.only s.data.toList Tw.cItf = false then 6 else if (decide (s.size % 2 = 1) != check) then 7 else 0) := Lib.hid (by
    have := compItf_err s.data.toList check (by rw [len_data]; exact h0) (by rw [len_data]; exact h1)
    rw [len_data] at this; exact this)
  generalize (Tw.compK 2 s.data.toList check).2 = res at *
  go_enter Tryz.func18, Tryz.ntmps18
  go_wp2
  go_loop [9] (fun i => ∃ j : Nat, j ≤ s.size ∧ i = .int .i64 (j : Int) ∧ Hid (∀ c ∈ s.data.toList.take j, 0 ≤ Lib.indexByte Tw.cItf c)) (fun i => s.size - (intOf i).toNat)
  case atStart => exact ⟨0, Nat.zero_le _, rfl, Lib.hid (fun c hc => by simp at hc)⟩
  case round =>
    obtain ⟨j, hj, rfl, HB⟩ := hrel
    by_cases hlt : j < s.size
    · have hde := dig_eq ⟨s[j].toNat, s[j].toNat_lt⟩
      simp only [ofNat_toNat] at hde
      by_cases hx : 0 ≤ Lib.indexByte Tw.cItf s[j]
      · have HX := Lib.hid hx
        rw [decide_eq_true hx] at hde
        simp only [Bool.and_eq_true, decide_eq_true_eq] at hde
        obtain ⟨g1, g2⟩ := hde
        have d1 : decide ((s[j].toNat : Int) < 48) = false := by simp; omega
        have d2 : decide (57 < (s[j].toNat : Int)) = false := by simp; omega
        clear hx g1 g2
        go_wp2
        go_round
        case rel => exact ⟨j + 1, by omega, by go_num, Lib.hid (fun c hc => by
          rw [take_snoc s j hlt, List.mem_append] at hc
          rcases hc with h | h
          · exact HB.out c h
          · rw [List.mem_singleton] at h; rw [h]; exact HX.out)⟩
        case measure => simp [intOf]; omega
      · have hno : Tw.only s.data.toList Tw.cItf = false := by
          rw [only_all, List.all_eq_false]
          exact ⟨s[j], mem_at s j hlt, by simpa using hx⟩
        rw [if_pos hno] at HE
        rw [decide_eq_false hx] at hde
        have hor : s[j].toNat < 48 ∨ 57 < s[j].toNat := by
          rw [Bool.and_eq_false_iff, decide_eq_false_iff_not, decide_eq_false_iff_not] at hde
          omega
        clear hno hx hde
        by_cases g1 : s[j].toNat < 48
        · have d1 : decide ((s[j].toNat : Int) < 48) = true := by simp; omega
          go_wp2
          go_ret
          exact ⟨ret_int HE.out.symm, rfl⟩
        · have d1 : decide ((s[j].toNat : Int) < 48) = false := by simp; omega
          have d2 : decide (57 < (s[j].toNat : Int)) = true := by simp; omega
          go_wp2
          go_ret
          exact ⟨ret_int HE.out.symm, rfl⟩
    · obtain rfl : j = s.size := by omega
      rw [take_all] at HB
      have hyes : ¬ (Tw.only s.data.toList Tw.cItf = false) := by
        rw [Bool.not_eq_false, only_all, List.all_eq_true]
        intro c hc; simpa using HB.out c hc
      rw [if_neg hyes] at HE
      clear hyes hj hlt
      by_cases hp : s.size % 2 = 1
      · have dp : ((s.size : Int) % 2 == 1) = true := by rw [beq_iff_eq]; omega
        rw [decide_eq_true hp] at HE
        cases check
        all_goals
          go_wp2
          go_ret
          exact ⟨ret_int HE.out.symm, rfl⟩
      · have dp : ((s.size : Int) % 2 == 1) = false := by rw [beq_eq_false_iff_ne]; omega
        rw [decide_eq_false hp] at HE
        cases check
        all_goals
          go_wp2
          go_ret
          exact ⟨ret_int HE.out.symm, rfl⟩

theorem only_one (c : UInt8) (cs : List UInt8) : Tw.only [c] cs = decide (0 ≤ Lib.indexByte cs c) := by simp [Tw.only]
theorem take_one (s : ByteArray) (h : 0 < s.size) : s.data.toList.take 1 = [s[0]] := by rw [take_snoc s 0 h]; rfl
theorem drop_last (s : ByteArray) (k : Nat) (h : k < s.size) (hk : k + 1 = s.size) : s.data.toList.drop k = [s[k]] := by rw [drop_cons s k h, hk, drop_all]

theorem mid_snoc (s : ByteArray) (j : Nat) (h1 : 1 ≤ j) (h : j < s.size) : (s.data.toList.drop 1).take (j - 1 + 1) = (s.data.toList.drop 1).take (j - 1) ++ [s[j]] := by
  have hl : j - 1 < (s.data.toList.drop 1).length := by rw [len_drop]; omega
  rw [List.take_succ_eq_append_getElem hl, List.getElem_drop]
  congr 2
  simp only [show 1 + (j - 1) = j by omega]
  rfl
theorem mid_mem (s : ByteArray) (j z : Nat) (h1 : 1 ≤ j) (h : j < z) (hz : z < s.size) : (s[j]'(by omega)) ∈ (s.data.toList.drop 1).take (z - 1) := by
  have e : (s.data.toList.drop 1).take (j - 1 + 1) <+: (s.data.toList.drop 1).take (z - 1) := List.take_prefix_take_left (by omega)
  apply e.subset
  rw [mid_snoc s j h1 (by omega)]
  simp

set_option maxRecDepth 100000 in
set_option maxHeartbeats 4000000 in
theorem wrong6_any (s : ByteArray) (check : Bool) (w : World) (h0 : 1 ≤ s.size) (h1 : s.size ≤ 1000) :
    Calls Tryz.prog 18 #[.int .i64 6, .string s, .bool check] w fun e w' => e = .returned (.int .i64 (Tw.compK 1 s.data.toList check).2) ∧ w = w' := by
  have HE : Hid ((Tw.compK 1 s.data.toList check).2 = _) := Lib.hid (compCb_err s.data.toList check)
  rw [len_data] at HE
  generalize (Tw.compK 1 s.data.toList check).2 = res at *
  by_cases h2 : s.size < 2
  · rw [if_pos h2] at HE
    go_enter Tryz.func18, Tryz.ntmps18
    go_wp2
    go_ret
    exact ⟨ret_int HE.out.symm, rfl⟩
  rw [if_neg h2] at HE
  obtain ⟨z, hz⟩ : ∃ z, s.size - 1 = z := ⟨_, rfl⟩
  have hzs : z < s.size := by omega
  have hz1 : 1 ≤ z := by omega
  have hzi : (s.size : Int) - 1 = (z : Int) := by omega
  have hs0 : 0 < s.size := by omega
  have hs2 : 2 ≤ s.size := by omega
  rw [take_one s hs0, only_one, show s.size - 1 = z from hz, drop_last s z hzs (by omega), only_one, show s.size - 2 = z - 1 by omega] at HE
  have HL0 := Lib.hid (fun w => letter_any (s[0]'hs0) w)
  have HLZ := Lib.hid (fun w => letter_any s[z] w)
  have hd2 : decide ((s.size : Int) < 2) = false := by simp; omega
  have HZS : Hid (z + 1 = s.size) := Lib.hid (by omega)
  clear hz h2
  generalize decide (0 ≤ Lib.indexByte Tw.eCb (s[0]'hs0)) = b0 at *
  generalize decide (0 ≤ Lib.indexByte Tw.eCb s[z]) = bz at *
  cases b0
  · rw [if_pos rfl] at HE
    go_enter Tryz.func18, Tryz.ntmps18
    go_wp2_with fail
    refine (HL0.out _).mono ?_
    rintro e w1 ⟨rfl, rfl⟩
    go_wp2
    go_ret
    exact ⟨ret_int HE.out.symm, rfl⟩
  rw [if_neg (show ¬ (true = false) from Bool.noConfusion)] at HE
  cases bz
  · rw [if_pos rfl] at HE
    go_enter Tryz.func18, Tryz.ntmps18
    go_wp2_with fail
    refine (HL0.out _).mono ?_
    rintro e w1 ⟨rfl, rfl⟩
    go_wp2_with fail
    refine (HLZ.out _).mono ?_
    rintro e w1 ⟨rfl, rfl⟩
    go_wp2
    go_ret
    exact ⟨ret_int HE.out.symm, rfl⟩
  rw [if_neg (show ¬ (true = false) from Bool.noConfusion)] at HE
  go_enter Tryz.func18, Tryz.ntmps18
  go_wp2_with fail
  refine (HL0.out _).mono ?_
  rintro e w1 ⟨rfl, rfl⟩
  go_wp2_with fail
  refine (HLZ.out _).mono ?_
  rintro e w1 ⟨rfl, rfl⟩
  have HMID : Hid (res = if Tw.only ((s.data.toList.drop 1).take (z - 1)) Tw.dCb = false then 6 else 0) := Lib.hid HE.out
  clear HL0 HLZ
  go_wp2
  go_loop [9] (fun i => ∃ j : Nat, 1 ≤ j ∧ j ≤ z ∧ i = .int .i64 (j : Int) ∧ Hid (∀ c ∈ (s.data.toList.drop 1).take (j - 1), 0 ≤ Lib.indexByte Tw.dCb c)) (fun i => z - (intOf i).toNat)
  case atStart => exact ⟨1, Nat.le_refl _, hz1, rfl, Lib.hid (fun c hc => by simp at hc)⟩
  case round =>
    obtain ⟨j, hj1, hj, rfl, HB⟩ := hrel
    by_cases hlt : j < z
    · have hjs : j < s.size := by omega
      have HI := Lib.hid (fun w => inner6_any s[j] w)
      by_cases hx : 0 ≤ Lib.indexByte Tw.dCb s[j]
      · rw [decide_eq_true hx] at HI
        have HX := Lib.hid hx
        clear hx
        go_wp2_with fail
        refine (HI.out _).mono ?_
        rintro e w1 ⟨rfl, rfl⟩
        go_wp2
        go_round
        case rel => exact ⟨j + 1, by omega, by omega, by go_num, Lib.hid (fun c hc => by
          rw [show j + 1 - 1 = (j - 1) + 1 by omega, mid_snoc s j hj1 hjs, List.mem_append] at hc
          rcases hc with h | h
          · exact HB.out c h
          · rw [List.mem_singleton] at h; rw [h]; exact HX.out)⟩
        case measure => simp [intOf]; omega
      · rw [decide_eq_false hx] at HI
        have hno : Tw.only ((s.data.toList.drop 1).take (z - 1)) Tw.dCb = false := by
          rw [only_all, List.all_eq_false]
          exact ⟨s[j], mid_mem s j z hj1 hlt hzs, by simpa using hx⟩
        rw [if_pos hno] at HMID
        clear hno hx
        go_wp2_with fail
        refine (HI.out _).mono ?_
        rintro e w1 ⟨rfl, rfl⟩
        go_wp2
        go_ret
        exact ⟨ret_int HMID.out.symm, rfl⟩
    · obtain rfl : j = z := by omega
      have hyes : ¬ (Tw.only ((s.data.toList.drop 1).take (j - 1)) Tw.dCb = false) := by
        rw [Bool.not_eq_false, only_all, List.all_eq_true]
        intro c hc; simpa using HB.out c hc
      rw [if_neg hyes] at HMID
      clear hyes hj hlt
      go_wp2
      go_ret
      exact ⟨ret_int HMID.out.symm, rfl⟩
end Go.Proofs.YthjlnpcaclfopaaGreat
