/-
  Chapter 12: the reference's letter, inner, wrong, walked.
  Condition: the text is not empty nor too long.
-/
import Derived.Test.YthjlnpcaclfopaaGreatTwE2
import Derived.Test.YthjlnpcaclfopaaGreatTwR4
import Derived.Test.YthjlnpcaclfopaaGreatCdRa

/-
  Chapter 12: the reference's letter, inner, wrong, walked.
  Condition: the text is not empty nor too long.
-/
namespace Go.Proofs.YthjlnpcaclfopaaGreat
open Go.RowKit

theorem letter_eq : ∀ i : Fin 256, (decide (65 ≤ i.val) && decide (i.val ≤ 68)) = decide (0 ≤ Lib.indexByte Tw.eCb (UInt8.ofNat i.val)) := by decide +kernel
theorem inner_eq : ∀ i : Fin 256, (decide (0 ≤ Lib.indexByte Tw.cCb (UInt8.ofNat i.val)) && !decide (0 ≤ Lib.indexByte Tw.eCb (UInt8.ofNat i.val))) = decide (0 ≤ Lib.indexByte Tw.dCb (UInt8.ofNat i.val)) := by decide +kernel
theorem dig_eq : ∀ i : Fin 256, (decide (48 ≤ i.val) && decide (i.val ≤ 57)) = decide (0 ≤ Lib.indexByte Tw.cItf (UInt8.ofNat i.val)) := by decide +kernel

set_option maxHeartbeats 1000000 in
theorem letter_any (c : UInt8) (w : World) : Calls Tryz.prog 37 #[.int .u8 (c.toNat : Int)] w fun e w' => e = .returned (.bool (decide (0 ≤ Lib.indexByte Tw.eCb c))) ∧ w = w' := by
  have HE := Lib.hid (letter_eq ⟨c.toNat, c.toNat_lt⟩)
  simp only [ofNat_toNat] at HE
  generalize decide (0 ≤ Lib.indexByte Tw.eCb c) = r at *
  go_enter Tryz.func37, Tryz.ntmps37
  go_wp2
  all_goals
    go_ret
    refine ⟨ret_bool ?_, rfl⟩
    rw [← HE.out, Bool.eq_iff_iff]
    simp
    omega

set_option maxHeartbeats 1000000 in
theorem inner5_any (c : UInt8) (w : World) : Calls Tryz.prog 38 #[.int .i64 5, .int .u8 (c.toNat : Int)] w fun e w' => e = .returned (.bool (decide (0 ≤ Lib.indexByte Cd.syms c))) ∧ w = w' := by
  have HP := Lib.hid (fun w => plc_any c w)
  unfold Cd.plc at HP
  generalize Lib.indexByte Cd.syms c = x at *
  go_enter Tryz.func38, Tryz.ntmps38
  go_wp2_with fail
  refine (HP.out _).mono ?_
  rintro e w1 ⟨rfl, rfl⟩
  go_wp2
  go_ret
  exact ⟨rfl, rfl⟩

set_option maxHeartbeats 1000000 in
theorem inner6_any (c : UInt8) (w : World) : Calls Tryz.prog 38 #[.int .i64 6, .int .u8 (c.toNat : Int)] w fun e w' => e = .returned (.bool (decide (0 ≤ Lib.indexByte Tw.dCb c))) ∧ w = w' := by
  have HE := inner_eq ⟨c.toNat, c.toNat_lt⟩
  simp only [ofNat_toNat] at HE
  rw [← HE]
  have HP : Hid (∀ w, Calls Tryz.prog 40 #[.string ⟨#[48, 49, 50, 51, 52, 53, 54, 55, 56, 57, 45, 36, 58, 47, 46, 43, 65, 66, 67, 68]⟩, .int .u8 (c.toNat : Int)] w fun e w' => e = .returned (.int .i64 (Lib.indexByte Tw.cCb c)) ∧ w = w') := Lib.hid (fun w => place_lit Tw.cCb c (by decide) w)
  have HL := Lib.hid (fun w => letter_any c w)
  generalize decide (0 ≤ Lib.indexByte Tw.eCb c) = le at *
  clear HE
  by_cases h : 0 ≤ Lib.indexByte Tw.cCb c
  · rw [decide_eq_true h]
    generalize Lib.indexByte Tw.cCb c = x at *
    have d1 : decide (0 ≤ x) = true := by simpa using h
    cases le
    all_goals
      go_enter Tryz.func38, Tryz.ntmps38
      go_wp2_with fail
      refine (HP.out _).mono ?_
      rintro e w1 ⟨rfl, rfl⟩
      go_wp2_with fail
      refine (HL.out _).mono ?_
      rintro e w1 ⟨rfl, rfl⟩
      go_wp2
      go_ret
      exact ⟨rfl, rfl⟩
  · rw [decide_eq_false h]
    generalize Lib.indexByte Tw.cCb c = x at *
    have d1 : decide (0 ≤ x) = false := by simpa using h
    go_enter Tryz.func38, Tryz.ntmps38
    go_wp2_with fail
    refine (HP.out _).mono ?_
    rintro e w1 ⟨rfl, rfl⟩
    go_wp2
    go_ret
    exact ⟨rfl, rfl⟩
end Go.Proofs.YthjlnpcaclfopaaGreat

/-
  Chapter 12: the reference's wrong, walked.
  Condition: the text is not empty nor too long.
-/
namespace Go.Proofs.YthjlnpcaclfopaaGreat
open Go.RowKit

theorem only_all (l cs : List UInt8) : Tw.only l cs = l.all fun c => decide (0 ≤ Lib.indexByte cs c) := rfl
theorem comp7_ok (l : List UInt8) (h0 : 1 ≤ l.length) (h1 : l.length ≤ 1001) (ho : Tw.only l Cd.syms = true) : (Cd.compI 7 l).2 = 0 := by
  have hne : l ≠ [] := by intro e; rw [e] at h0; simp at h0
  have hall : (l.all fun c => Cd.datB 7 c.toNat) = true := by
    rw [List.all_eq_true]
    intro c hc
    rw [only_all, List.all_eq_true] at ho
    have := ho c hc
    unfold Cd.datB Cd.plc
    rw [if_pos rfl, byte_num]; exact this
  unfold Cd.compI
  rw [if_neg (by omega)]
  unfold Cd.comp
  rw [if_neg hne, if_neg (by omega), if_neg (by rw [show Int.toNat 7 = 7 from rfl, hall]; exact Bool.noConfusion), if_neg (by rw [Bool.not_eq_false]; simp [Cd.fits, Cd.size]; omega)]
theorem comp1_ok (l : List UInt8) (h0 : 1 ≤ l.length) (h1 : l.length ≤ 1001) (ho : Tw.only l Tw.cItf = true) : (Cd.compI 1 l).2 = 0 := by
  have hne : l ≠ [] := by intro e; rw [e] at h0; simp at h0
  have hall : (l.all fun c => Cd.datB 1 c.toNat) = true := by
    rw [List.all_eq_true]
    intro c hc
    rw [only_all, List.all_eq_true] at ho
    have h2 := ho c hc
    have h3 := dig_eq ⟨c.toNat, c.toNat_lt⟩
    simp only [ofNat_toNat] at h3
    rw [← h3] at h2
    unfold Cd.datB Cd.isDig
    rw [if_neg (by decide)]
    simp only [Bool.and_eq_true, decide_eq_true_eq] at h2 ⊢
    omega
  unfold Cd.compI
  rw [if_neg (by omega)]
  unfold Cd.comp
  rw [if_neg hne, if_neg (by omega), if_neg (by rw [show Int.toNat 1 = 1 from rfl, hall]; exact Bool.noConfusion), if_neg (by rw [Bool.not_eq_false]; simp [Cd.fits, Cd.size]; omega)]
theorem comp39_err (l : List UInt8) (check : Bool) (h0 : 1 ≤ l.length) (h1 : l.length ≤ 1000) : (Tw.comp39 l check).2 = if Tw.only l Cd.syms = true then 0 else 6 := by
  unfold Tw.comp39
  cases ho : Tw.only l Cd.syms
  · rw [if_pos rfl]; rfl
  · rw [if_neg Bool.noConfusion, if_pos rfl]
    cases check
    · rw [if_pos rfl]
    · rw [if_neg Bool.noConfusion, if_pos (comp7_ok l h0 (by omega) ho)]

theorem compCb_err (l : List UInt8) (check : Bool) : (Tw.compCb l check).2 = if l.length < 2 then 7 else if Tw.only (l.take 1) Tw.eCb = false then 19 else if Tw.only (l.drop (l.length - 1)) Tw.eCb = false then 20 else if Tw.only ((l.drop 1).take (l.length - 2)) Tw.dCb = false then 6 else 0 := by
  unfold Tw.compCb
  split
  · rfl
  split
  · rfl
  split
  · rfl
  split
  · rfl
  split <;> rfl
theorem compItf_err (l : List UInt8) (check : Bool) (h0 : 1 ≤ l.length) (h1 : l.length ≤ 1000) : (Tw.compItf l check).2 = if Tw.only l Tw.cItf = false then 6 else if (decide (l.length % 2 = 1) != check) then 7 else 0 := by
  unfold Tw.compItf
  cases ho : Tw.only l Tw.cItf
  · rw [if_pos rfl, if_pos rfl]
  · rw [if_neg (show ¬ (true = false) from Bool.noConfusion), if_neg (show ¬ (true = false) from Bool.noConfusion)]
    cases check
    · rw [if_pos rfl]
      by_cases h : l.length % 2 = 0
      · rw [if_pos h, if_neg (by simp; omega)]
      · rw [if_neg h, if_pos (by simp; omega)]
    · rw [if_neg Bool.noConfusion]
      have hz : (Cd.compI 1 l).2 = 0 := comp1_ok l h0 (by omega) ho
      rw [if_pos hz, List.length_append, compI_ok 1 l hz, show (Cd.cmp (Int.toNat 1) l).length = 1 from rfl]
      by_cases h : (l.length + 1) % 2 = 0
      · rw [if_pos h, if_neg (by simp; omega)]
      · rw [if_neg h, if_pos (by simp; omega)]

set_option maxRecDepth 100000 in
set_option maxHeartbeats 4000000 in
theorem wrong5_any (s : ByteArray) (check : Bool) (w : World) (h0 : 1 ≤ s.size) (h1 : s.size ≤ 1000) :
    Calls Tryz.prog 18 #[.int .i64 5, .string s, .bool check] w fun e w' => e = .returned (.int .i64 (Tw.compK 0 s.data.toList check).2) ∧ w = w' := by
  have HE : Hid ((Tw.compK 0 s.data.toList check).2 = if Tw.only s.data.toList Cd.syms = true then 0 else 6) := Lib.hid (comp39_err s.data.toList check (by rw [len_data]; exact h0) (by rw [len_data]; exact h1))
  generalize (Tw.compK 0 s.data.toList check).2 = res at *
  go_enter Tryz.func18, Tryz.ntmps18
  go_wp2
  go_loop [9] (fun i => ∃ j : Nat, j ≤ s.size ∧ i = .int .i64 (j : Int) ∧ Hid (∀ c ∈ s.data.toList.take j, 0 ≤ Lib.indexByte Cd.syms c)) (fun i => s.size - (intOf i).toNat)
  case atStart => exact ⟨0, Nat.zero_le _, rfl, Lib.hid (fun c hc => by simp at hc)⟩
  case round =>
    obtain ⟨j, hj, rfl, HB⟩ := hrel
    by_cases hlt : j < s.size
    · have HI := Lib.hid (fun w => inner5_any s[j] w)
      by_cases hx : 0 ≤ Lib.indexByte Cd.syms s[j]
      · rw [decide_eq_true hx] at HI
        have HX := Lib.hid hx
        clear hx
        go_wp2_with fail
        refine (HI.out _).mono ?_
        rintro e w1 ⟨rfl, rfl⟩
        go_wp2
        go_round
        case rel => exact ⟨j + 1, by omega, by go_num, Lib.hid (fun c hc => by
          rw [take_snoc s j hlt, List.mem_append] at hc
          rcases hc with h | h
          · exact HB.out c h
          · rw [List.mem_singleton] at h; rw [h]; exact HX.out)⟩
        case measure => simp [intOf]; omega
      · rw [decide_eq_false hx] at HI
        have hno : ¬ (Tw.only s.data.toList Cd.syms = true) := by
          rw [only_all, List.all_eq_true]
          intro h
          exact hx (by simpa using h s[j] (mem_at s j hlt))
        rw [if_neg hno] at HE
        clear hno hx
        go_wp2_with fail
        refine (HI.out _).mono ?_
        rintro e w1 ⟨rfl, rfl⟩
        go_wp2
        go_ret
        exact ⟨ret_int HE.out.symm, rfl⟩
    · obtain rfl : j = s.size := by omega
      rw [take_all] at HB
      have hyes : Tw.only s.data.toList Cd.syms = true := by
        rw [only_all, List.all_eq_true]
        intro c hc; simpa using HB.out c hc
      rw [if_pos hyes] at HE
      clear hyes hj hlt
      go_wp2
      go_ret
      exact ⟨ret_int HE.out.symm, rfl⟩

set_option maxRecDepth 100000 in
set_option maxHeartbeats 4000000 in
theorem wrong7_any (s : ByteArray) (check : Bool) (w : World) (h0 : 1 ≤ s.size) (h1 : s.size ≤ 1000) :
    Calls Tryz.prog 18 #[.int .i64 7, .string s, .bool check] w fun e w' => e = .returned (.int .i64 (Tw.compK 2 s.data.toList check).2) ∧ w = w' := by
  have HE : Hid ((Tw.compK 2 s.data.toList check).2 = if Tw.only s.data.toList Tw.cItf = false then 6 else if (decide (s.size % 2 = 1) != check) then 7 else 0) := Lib.hid (by
    have := compItf_err s.data.toList check (by rw [len_data]; exact h0) (by rw [len_data]; exact h1)
    rw [len_data] at this; exact this)
  generalize (Tw.compK 2 s.data.toList check).2 = res at *
  go_enter Tryz.func18, Tryz.ntmps18
  go_wp2
  go_loop [9] (fun i => ∃ j : Nat, j ≤ s.size ∧ i = .int .i64 (j : Int) ∧ Hid (∀ c ∈ s.data.toList.take j, 0 ≤ Lib.indexByte Tw.cItf c)) (fun i => s.size - (intOf i).toNat)
  case atStart => exact ⟨0, Nat.zero_le _, rfl, Lib.hid (fun c hc => by simp at hc)⟩
  case round =>
    obtain ⟨j, hj, rfl, HB⟩ := hrel
    by_cases hlt : j < s.size
    · have hde := dig_eq ⟨s[j].toNat, s[j].toNat_lt⟩
      simp only [ofNat_toNat] at hde
      by_cases hx : 0 ≤ Lib.indexByte Tw.cItf s[j]
      · have HX := Lib.hid hx
        rw [decide_eq_true hx] at hde
        simp only [Bool.and_eq_true, decide_eq_true_eq] at hde
        obtain ⟨g1, g2⟩ := hde
        have d1 : decide ((s[j].toNat : Int) < 48) = false := by simp; omega
        have d2 : decide (57 < (s[j].toNat : Int)) = false := by simp; omega
        clear hx g1 g2
        go_wp2
        go_round
        case rel => exact ⟨j + 1, by omega, by go_num, Lib.hid (fun c hc => by
          rw [take_snoc s j hlt, List.mem_append] at hc
          rcases hc with h | h
          · exact HB.out c h
          · rw [List.mem_singleton] at h; rw [h]; exact HX.out)⟩
        case measure => simp [intOf]; omega
      · have hno : Tw.only s.data.toList Tw.cItf = false := by
          rw [only_all, List.all_eq_false]
          exact ⟨s[j], mem_at s j hlt, by simpa using hx⟩
        rw [if_pos hno] at HE
        rw [decide_eq_false hx] at hde
        have hor : s[j].toNat < 48 ∨ 57 < s[j].toNat := by
          rw [Bool.and_eq_false_iff, decide_eq_false_iff_not, decide_eq_false_iff_not] at hde
          omega
        clear hno hx hde
        by_cases g1 : s[j].toNat < 48
        · have d1 : decide ((s[j].toNat : Int) < 48) = true := by simp; omega
          go_wp2
          go_ret
          exact ⟨ret_int HE.out.symm, rfl⟩
        · have d1 : decide ((s[j].toNat : Int) < 48) = false := by simp; omega
          have d2 : decide (57 < (s[j].toNat : Int)) = true := by simp; omega
          go_wp2
          go_ret
          exact ⟨ret_int HE.out.symm, rfl⟩
    · obtain rfl : j = s.size := by omega
      rw [take_all] at HB
      have hyes : ¬ (Tw.only s.data.toList Tw.cItf = false) := by
        rw [Bool.not_eq_false, only_all, List.all_eq_true]
        intro c hc; simpa using HB.out c hc
      rw [if_neg hyes] at HE
      clear hyes hj hlt
      by_cases hp : s.size % 2 = 1
      · have dp : ((s.size : Int) % 2 == 1) = true := by rw [beq_iff_eq]; omega
        rw [decide_eq_true hp] at HE
        cases check
        all_goals
          go_wp2
          go_ret
          exact ⟨ret_int HE.out.symm, rfl⟩
      · have dp : ((s.size : Int) % 2 == 1) = false := by rw [beq_eq_false_iff_ne]; omega
        rw [decide_eq_false hp] at HE
        cases check
        all_goals
          go_wp2
          go_ret
          exact ⟨ret_int HE.out.symm, rfl⟩

theorem only_one (c : UInt8) (cs : List UInt8) : Tw.only [c] cs = decide (0 ≤ Lib.indexByte cs c) := by simp [Tw.only]
theorem take_one (s : ByteArray) (h : 0 < s.size) : s.data.toList.take 1 = [s[0]] := by rw [take_snoc s 0 h]; rfl
theorem drop_last (s : ByteArray) (k : Nat) (h : k < s.size) (hk : k + 1 = s.size) : s.data.toList.drop k = [s[k]] := by rw [drop_cons s k h, hk, drop_all]

theorem mid_snoc (s : ByteArray) (j : Nat) (h1 : 1 ≤ j) (h : j < s.size) : (s.data.toList.drop 1).take (j - 1 + 1) = (s.data.toList.drop 1).take (j - 1) ++ [s[j]] := by
  have hl : j - 1 < (s.data.toList.drop 1).length := by rw [len_drop]; omega
  rw [List.take_succ_eq_append_getElem hl, List.getElem_drop]
  congr 2
  simp only [show 1 + (j - 1) = j by omega]
  rfl
theorem mid_mem (s : ByteArray) (j z : Nat) (h1 : 1 ≤ j) (h : j < z) (hz : z < s.size) : (s[j]'(by omega)) ∈ (s.data.toList.drop 1).take (z - 1) := by
  have e : (s.data.toList.drop 1).take (j - 1 + 1) <+: (s.data.toList.drop 1).take (z - 1) := List.take_prefix_take_left (by omega)
  apply e.subset
  rw [mid_snoc s j h1 (by omega)]
  simp

set_option maxRecDepth 100000 in
set_option maxHeartbeats 4000000 in
theorem wrong6_any (s : ByteArray) (check : Bool) (w : World) (h0 : 1 ≤ s.size) (h1 : s.size ≤ 1000) :
    Calls Tryz.prog 18 #[.int .i64 6, .string s, .bool check] w fun e w' => e = .returned (.int .i64 (Tw.compK 1 s.data.toList check).2) ∧ w = w' := by
  have HE : Hid ((Tw.compK 1 s.data.toList check).2 = _) := Lib.hid (compCb_err s.data.toList check)
  rw [len_data] at HE
  generalize (Tw.compK 1 s.data.toList check).2 = res at *
  by_cases h2 : s.size < 2
  · rw [if_pos h2] at HE
    go_enter Tryz.func18, Tryz.ntmps18
    go_wp2
    go_ret
    exact ⟨ret_int HE.out.symm, rfl⟩
  rw [if_neg h2] at HE
  obtain ⟨z, hz⟩ : ∃ z, s.size - 1 = z := ⟨_, rfl⟩
  have hzs : z < s.size := by omega
  have hz1 : 1 ≤ z := by omega
  have hzi : (s.size : Int) - 1 = (z : Int) := by omega
  have hs0 : 0 < s.size := by omega
  have hs2 : 2 ≤ s.size := by omega
  rw [take_one s hs0, only_one, show s.size - 1 = z from hz, drop_last s z hzs (by omega), only_one, show s.size - 2 = z - 1 by omega] at HE
  have HL0 := Lib.hid (fun w => letter_any (s[0]'hs0) w)
  have HLZ := Lib.hid (fun w => letter_any s[z] w)
  have hd2 : decide ((s.size : Int) < 2) = false := by simp; omega
  have HZS : Hid (z + 1 = s.size) := Lib.hid (by omega)
  clear hz h2
  generalize decide (0 ≤ Lib.indexByte Tw.eCb (s[0]'hs0)) = b0 at *
  generalize decide (0 ≤ Lib.indexByte Tw.eCb s[z]) = bz at *
  cases b0
  · rw [if_pos rfl] at HE
    go_enter Tryz.func18, Tryz.ntmps18
    go_wp2_with fail
    refine (HL0.out _).mono ?_
    rintro e w1 ⟨rfl, rfl⟩
    go_wp2
    go_ret
    exact ⟨ret_int HE.out.symm, rfl⟩
  rw [if_neg (show ¬ (true = false) from Bool.noConfusion)] at HE
  cases bz
  · rw [if_pos rfl] at HE
    go_enter Tryz.func18, Tryz.ntmps18
    go_wp2_with fail
    refine (HL0.out _).mono ?_
    rintro e w1 ⟨rfl, rfl⟩
    go_wp2_with fail
    refine (HLZ.out _).mono ?_
    rintro e w1 ⟨rfl, rfl⟩
    go_wp2
    go_ret
    exact ⟨ret_int HE.out.symm, rfl⟩
  rw [if_neg (show ¬ (true = false) from Bool.noConfusion)] at HE
  go_enter Tryz.func18, Tryz.ntmps18
  go_wp2_with fail
  refine (HL0.out _).mono ?_
  rintro e w1 ⟨rfl, rfl⟩
  go_wp2_with fail
  refine (HLZ.out _).mono ?_
  rintro e w1 ⟨rfl, rfl⟩
  have HMID : Hid (res = if Tw.only ((s.data.toList.drop 1).take (z - 1)) Tw.dCb = false then 6 else 0) := Lib.hid HE.out
  clear HL0 HLZ
  go_wp2
  go_loop [9] (fun i => ∃ j : Nat, 1 ≤ j ∧ j ≤ z ∧ i = .int .i64 (j : Int) ∧ Hid (∀ c ∈ (s.data.toList.drop 1).take (j - 1), 0 ≤ Lib.indexByte Tw.dCb c)) (fun i => z - (intOf i).toNat)
  case atStart => exact ⟨1, Nat.le_refl _, hz1, rfl, Lib.hid (fun c hc => by simp at hc)⟩
  case round =>
    obtain ⟨j, hj1, hj, rfl, HB⟩ := hrel
    by_cases hlt : j < z
    · have hjs : j < s.size := by omega
      have HI := Lib.hid (fun w => inner6_any s[j] w)
      by_cases hx : 0 ≤ Lib.indexByte Tw.dCb s[j]
      · rw [decide_eq_true hx] at HI
        have HX := Lib.hid hx
        clear hx
        go_wp2_with fail
        refine (HI.out _).mono ?_
        rintro e w1 ⟨rfl, rfl⟩
        go_wp2
        go_round
        case rel => exact ⟨j + 1, by omega, by omega, by go_num, Lib.hid (fun c hc => by
          rw [show j + 1 - 1 = (j - 1) + 1 by omega, mid_snoc s j hj1 hjs, List.mem_append] at hc
          rcases hc with h | h
          · exact HB.out c h
          · rw [List.mem_singleton] at h; rw [h]; exact HX.out)⟩
        case measure => simp [intOf]; omega
      · rw [decide_eq_false hx] at HI
        have hno : Tw.only ((s.data.toList.drop 1).take (z - 1)) Tw.dCb = false := by
          rw [only_all, List.all_eq_false]
          exact ⟨s[j], mid_mem s j z hj1 hlt hzs, by simpa using hx⟩
        rw [if_pos hno] at HMID
        clear hno hx
        go_wp2_with fail
        refine (HI.out _).mono ?_
        rintro e w1 ⟨rfl, rfl⟩
        go_wp2
        go_ret
        exact ⟨ret_int HMID.out.symm, rfl⟩
    · obtain rfl : j = z := by omega
      have hyes : ¬ (Tw.only ((s.data.toList.drop 1).take (j - 1)) Tw.dCb = false) := by
        rw [Bool.not_eq_false, only_all, List.all_eq_true]
        intro c hc; simpa using HB.out c hc
      rw [if_neg hyes] at HMID
      clear hyes hj hlt
      go_wp2
      go_ret
      exact ⟨ret_int HMID.out.symm, rfl⟩
end Go.Proofs.YthjlnpcaclfopaaGreat

/-
  Chapter 12: the reference's Checked, walked.
  Condition: a Codabar text holds Codabar's characters.
-/
namespace Go.Proofs.YthjlnpcaclfopaaGreat
open Go.RowKit

/-- A text with its check character. -/
def Tw.cbc (l : List UInt8) : List UInt8 := l.take (l.length - 1) ++ [Tw.dCb.getD ((16 - Tw.sumCb l % 16) % 16).toNat 0] ++ l.drop (l.length - 1)
def Tw.chkK (k : Nat) (l : List UInt8) : List UInt8 := match k with
  | 0 => (Cd.app 7 l).1
  | 1 => Tw.cbc l
  | _ => (Cd.app 1 l).1
theorem app_is (k : Int) (l : List UInt8) (hl : l.length ≤ 1001) (h : (Cd.compI k l).2 = 0) : Cd.app k l = (l ++ (Cd.compI k l).1, 0) := by
  have := rcompI_len k l
  unfold Cd.app
  rw [if_pos h, if_neg (by omega)]
theorem comp_chk0 (l : List UInt8) (hl : l.length ≤ 1000) (h0 : 1 ≤ l.length) (h : (Tw.comp39 l true).2 = 0) : (Tw.comp39 l true).1 = 42 :: (Cd.app 7 l).1 ++ [42] := by
  have he := comp39_err l true h0 hl
  rw [h] at he
  have ho : Tw.only l Cd.syms = true := by
    cases hh : Tw.only l Cd.syms
    · rw [hh] at he; simp at he
    · rfl
  have hz := comp7_ok l h0 (by omega) ho
  unfold Tw.comp39
  rw [ho, if_neg Bool.noConfusion, if_neg Bool.noConfusion, if_pos hz, app_is 7 l (by omega) hz]
  simp
theorem comp_chk1 (l : List UInt8) (h : (Tw.compCb l true).2 = 0) : (Tw.compCb l true).1 = Tw.cbc l := by
  have he := compCb_err l true
  rw [h] at he
  unfold Tw.compCb
  split
  · rename_i g; rw [if_pos g] at he; simp at he
  · rename_i g; rw [if_neg g] at he
    split
    · rename_i g; rw [if_pos g] at he; simp at he
    · rename_i g; rw [if_neg g] at he
      split
      · rename_i g; rw [if_pos g] at he; simp at he
      · rename_i g; rw [if_neg g] at he
        split
        · rename_i g; rw [if_pos g] at he; simp at he
        · rw [if_neg Bool.noConfusion]; rfl
theorem comp_chk2 (l : List UInt8) (hl : l.length ≤ 1000) (h0 : 1 ≤ l.length) (h : (Tw.compItf l true).2 = 0) : (Tw.compItf l true).1 = (Cd.app 1 l).1 := by
  have he := compItf_err l true h0 hl
  rw [h] at he
  have ho : Tw.only l Tw.cItf = true := by
    cases hh : Tw.only l Tw.cItf
    · rw [hh] at he; simp at he
    · rfl
  have hz := comp1_ok l h0 (by omega) ho
  unfold Tw.compItf at h ⊢
  rw [ho, if_neg (show ¬ (true = false) from Bool.noConfusion), if_neg (show ¬ (true = false) from Bool.noConfusion), if_pos hz] at h ⊢
  rw [app_is 1 l (by omega) hz]
  split
  · rfl
  · rename_i g; rw [if_neg g] at h; simp at h
theorem cb_cut : ∀ v : Nat, v < 16 → ((⟨#[48, 49, 50, 51, 52, 53, 54, 55, 56, 57, 45, 36, 58, 47, 46, 43, 65, 66, 67, 68]⟩ : ByteArray).extract v (v + 1)).data.toList = [Tw.dCb.getD v 0] := by
  intro v hv
  rw [cut_mid]
  have : ∀ v : Fin 16, (([48, 49, 50, 51, 52, 53, 54, 55, 56, 57, 45, 36, 58, 47, 46, 43, 65, 66, 67, 68] : List UInt8).drop v.val).take (v.val + 1 - v.val) = [Tw.dCb.getD v.val 0] := by decide
  exact this ⟨v, hv⟩
theorem ret_strV {a : ByteArray} {l : List UInt8} (h1 : a.data.toList = l) : Ending.returned (.string a) = .returned (strV l) := by
  rw [← h1]; unfold strV; rw [mk_toList]

set_option maxHeartbeats 1000000 in
theorem checked_5 (s : ByteArray) (w : World) (hs : s.size ≤ 1000000) :
    Calls Tryz.prog 19 #[.int .i64 5, .string s] w fun e w' => e = .returned (strV (Tw.chkK 0 s.data.toList)) ∧ Ext w w' := by
  have HA := Lib.hid (fun w => rappend_any 7 s w (by omega))
  show Calls Tryz.prog 19 #[.int .i64 5, .string s] w fun e w' => e = .returned (strV (Cd.app 7 s.data.toList).1) ∧ Ext w w'
  unfold strV
  generalize Cd.app 7 s.data.toList = r at *
  obtain ⟨r1, r2⟩ := r
  dsimp only at HA ⊢
  go_enter Tryz.func19, Tryz.ntmps19
  go_wp2_with fail
  refine (HA.out _).mono ?_
  rintro e w1 ⟨rfl, rfl⟩
  go_wp2
  go_ret
  exact ⟨rfl, Ext.refl _⟩
set_option maxHeartbeats 1000000 in
theorem checked_7 (s : ByteArray) (w : World) (hs : s.size ≤ 1000000) :
    Calls Tryz.prog 19 #[.int .i64 7, .string s] w fun e w' => e = .returned (strV (Tw.chkK 2 s.data.toList)) ∧ Ext w w' := by
  have HA := Lib.hid (fun w => rappend_any 1 s w (by omega))
  show Calls Tryz.prog 19 #[.int .i64 7, .string s] w fun e w' => e = .returned (strV (Cd.app 1 s.data.toList).1) ∧ Ext w w'
  unfold strV
  generalize Cd.app 1 s.data.toList = r at *
  obtain ⟨r1, r2⟩ := r
  dsimp only at HA ⊢
  go_enter Tryz.func19, Tryz.ntmps19
  go_wp2_with fail
  refine (HA.out _).mono ?_
  rintro e w1 ⟨rfl, rfl⟩
  go_wp2
  go_ret
  exact ⟨rfl, Ext.refl _⟩

set_option maxRecDepth 100000 in
set_option maxHeartbeats 2000000 in
theorem checked_6 (s : ByteArray) (w : World) (hs : s.size ≤ 1000000) (h1 : 1 ≤ s.size) (HVV : Hid (∀ c ∈ s.data.toList, 0 ≤ Lib.indexByte Tw.cCb c)) :
    Calls Tryz.prog 19 #[.int .i64 6, .string s] w fun e w' => e = .returned (strV (Tw.chkK 1 s.data.toList)) ∧ Ext w w' := by
  have HT : Hid (Tw.chkK 1 s.data.toList = _) := Lib.hid (Tw.cbc.eq_1 s.data.toList)
  rw [len_data] at HT
  generalize Tw.chkK 1 s.data.toList = res at *
  go_enter Tryz.func19, Tryz.ntmps19
  go_wp2
  go_loop [10, 9] (fun i x => ∃ j : Nat, j ≤ s.size ∧ i = .int .i64 (j : Int) ∧ x = .int .i64 (Tw.sumCb (s.data.toList.take j))) (fun i _ => s.size - (intOf i).toNat)
  case atStart => exact ⟨0, Nat.zero_le _, rfl, rfl⟩
  case round =>
    obtain ⟨j, hj, rfl, rfl⟩ := hrel
    have hb := sumCb_bd (s.data.toList.take j) (fun c hc => HVV.out c (List.mem_of_mem_take hc))
    rw [len_take s j hj] at hb
    obtain ⟨hb1, hb2⟩ := hb
    by_cases hlt : j < s.size
    · have HI : Hid (∀ w, Calls Tryz.prog 40 #[.string ⟨#[48, 49, 50, 51, 52, 53, 54, 55, 56, 57, 45, 36, 58, 47, 46, 43, 65, 66, 67, 68]⟩, .int .u8 (s[j].toNat : Int)] w fun e w' => e = .returned (.int .i64 (Lib.indexByte Tw.cCb s[j])) ∧ w = w') := Lib.hid (fun w => place_lit Tw.cCb s[j] (by decide) w)
      have HSN := Lib.hid (sumCb_snoc (s.data.toList.take j) s[j])
      rw [← take_snoc s j hlt] at HSN
      have hi0 := HVV.out s[j] (mem_at s j hlt)
      have hi1 : Lib.indexByte Tw.cCb s[j] < 20 := by
        obtain ⟨n, hn⟩ := Int.eq_ofNat_of_zero_le hi0
        have := index_lt _ _ _ hn
        have h4 : Tw.cCb.length = 20 := rfl
        omega
      generalize Lib.indexByte Tw.cCb s[j] = x at *
      generalize Tw.sumCb (s.data.toList.take j) = g at *
      go_wp2_with fail
      refine (HI.out _).mono ?_
      rintro e w1 ⟨rfl, rfl⟩
      go_wp2
      go_round
      case rel => exact ⟨j + 1, by omega, by go_num, by rw [HSN.out]⟩
      case measure => simp [intOf]; omega
    · obtain rfl : j = s.size := by omega
      rw [take_all] at hb1 hb2 ⊢
      clear hj hlt
      generalize Tw.sumCb s.data.toList = g at *
      obtain ⟨v, hv, hv16⟩ : ∃ v : Nat, (16 - g % 16) % 16 = (v : Int) ∧ v < 16 := ⟨((16 - g % 16) % 16).toNat, by omega, by omega⟩
      rw [hv, Int.toNat_natCast] at HT
      have HDC := Lib.hid (cb_cut v hv16)
      obtain ⟨u, hu⟩ : ∃ u : Nat, v + 1 = u := ⟨_, rfl⟩
      rw [hu] at HDC
      have hv1 : (v : Int) + 1 = (u : Int) := by omega
      have hu1 : v ≤ u := by omega
      have hu2 : u ≤ 16 := by omega
      have hsn : ((s.size : Int) - 1).toNat = s.size - 1 := by omega
      clear hu
      go_wp2
      go_region
      go_wp2
      go_ret
      refine ⟨?_, ?_⟩
      · rw [HT.out]
        refine ret_strV ?_
        rw [app3, cut_front, HDC.out, cut_back]
      · exact (Ext.refl _).drewN _
end Go.Proofs.YthjlnpcaclfopaaGreat
