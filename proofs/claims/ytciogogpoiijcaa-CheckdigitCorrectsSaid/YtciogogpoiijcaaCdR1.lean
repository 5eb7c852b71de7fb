/-
  The reference's systems, walked: they compute the same plain functions.
  Conditions: the data are characters of the system, at most 4096.
-/
import Derived.Test.YtciogogpoiijcaaCdW2
namespace Go.Proofs.Ytciogogpoiijcaa
open Go.RowKit

set_option maxHeartbeats 400000 in
theorem rdigit_any (c : Int) (w : World) :
    Calls Try.prog 40 #[.int .u8 c] w fun e w' => e = .returned (.bool (Cd.isDig c)) ∧ w = w' := by
  go_enter Try.func40, Try.ntmps40
  go_wp2
  · have h : 48 ≤ c := by assumption
    go_ret
    exact ⟨ret_bool (by simp [Cd.isDig, h]), rfl⟩
  · have h : c < 48 := by assumption
    go_ret
    exact ⟨ret_bool (by simp [Cd.isDig]; omega), rfl⟩

theorem index_first (l : List UInt8) (c : UInt8) : ∀ k, k < l.length → (∀ i, i < k → l.getD i 0 ≠ c) → l.getD k 0 = c → Lib.indexByte l c = (k : Int) := by
  induction l with
  | nil => intro k hk; simp at hk
  | cons b l ih =>
    intro k hk hno he
    cases k with
    | zero =>
      simp only [List.getD_cons_zero] at he
      simp [Lib.indexByte, he]
    | succ k =>
      have hb : ¬ b = c := by have := hno 0 (by omega); simpa using this
      have := ih k (by simpa using hk) (fun i hi => by have := hno (i + 1) (by omega); simpa using this) (by simpa using he)
      simp only [Lib.indexByte, beq_iff_eq, if_neg hb, this]
      rw [if_neg (by omega)]; omega
theorem index_none (l : List UInt8) (c : UInt8) (h : ∀ i, i < l.length → l.getD i 0 ≠ c) : Lib.indexByte l c = -1 := by
  induction l with
  | nil => rfl
  | cons b l ih =>
    have hb : ¬ b = c := by have := h 0 (by simp); simpa using this
    have := ih (fun i hi => by have := h (i + 1) (by simpa using hi); simpa using this)
    simp [Lib.indexByte, hb, this]
theorem getDat (s : ByteArray) (i : Nat) (h : i < s.size) : s.data.toList.getD i 0 = s[i] := by
  have h' : i < s.data.toList.length := by rw [len_data]; exact h
  rw [List.getD_eq_getElem?_getD, List.getElem?_eq_getElem h']; rfl
theorem u8_ne (a b : UInt8) (h : a ≠ b) : ((a.toNat : Int) == (b.toNat : Int)) = false := by
  rw [beq_eq_false_iff_ne]; intro e; exact h (UInt8.toNat_inj.1 (by omega))

set_option maxHeartbeats 400000 in
theorem place_any (s : ByteArray) (c : UInt8) (w : World) (hs : s.size ≤ 9223372036854775807) :
    Calls Try.prog 44 #[.string s, .int .u8 (c.toNat : Int)] w fun e w' => e = .returned (.int .i64 (Lib.indexByte s.data.toList c)) ∧ w = w' := by
  go_enter Try.func44, Try.ntmps44
  go_wp2
  go_loop [5] (fun i => ∃ j : Nat, j ≤ s.size ∧ i = .int .i64 (j : Int) ∧ Hid (∀ i, i < j → s.data.toList.getD i 0 ≠ c)) (fun i => s.size - (intOf i).toNat)
  case atStart => exact ⟨0, Nat.zero_le _, rfl, fun i hi => by omega⟩
  case round =>
    obtain ⟨j, hj, rfl, hno⟩ := hrel
    by_cases hlt : j < s.size
    · have hg := getDat s j hlt
      by_cases he : s[j] = c
      · have HR := Lib.hid (index_first s.data.toList c j (by rw [len_data]; exact hlt) hno.out (by rw [hg]; exact he))
        have hb : ((s[j].toNat : Int) == (c.toNat : Int)) = true := by rw [he]; simp
        clear he hg
        go_wp2
        go_ret
        exact ⟨ret_int HR.out.symm, rfl⟩
      · have HN : Hid (∀ i, i < j + 1 → s.data.toList.getD i 0 ≠ c) := fun i hi => by
          by_cases e : i = j
          · subst e; rw [hg]; exact he
          · exact hno.out i (by omega)
        have hb := u8_ne _ _ he
        clear he hg
        go_wp2
        go_round
        case rel => exact ⟨j + 1, by omega, by go_num, HN⟩
        case measure => simp [intOf]; omega
    · obtain rfl : j = s.size := by omega
      have HR := Lib.hid (index_none s.data.toList c (by rw [len_data]; exact hno.out))
      clear hj hlt
      go_wp2
      go_ret
      exact ⟨ret_int HR.out.symm, rfl⟩

theorem plc_any (c : UInt8) (w : World) :
    Calls Try.prog 44 #[.string ⟨#[48, 49, 50, 51, 52, 53, 54, 55, 56, 57, 65, 66, 67, 68, 69, 70, 71, 72, 73, 74, 75, 76, 77, 78, 79, 80, 81, 82, 83, 84, 85, 86, 87, 88, 89, 90, 45, 46, 32, 36, 47, 43, 37]⟩, .int .u8 (c.toNat : Int)] w fun e w' => e = .returned (.int .i64 (Cd.plc c)) ∧ w = w' :=
  place_any _ c w (by decide)

set_option maxHeartbeats 400000 in
theorem rdata_any (k : Nat) (c : UInt8) (w : World) (hk : k ≤ 8) :
    Calls Try.prog 36 #[.int .i64 (k : Int), .int .u8 (c.toNat : Int)] w fun e w' => e = .returned (.bool (Cd.datB k (c.toNat : Int))) ∧ w = w' := by
  by_cases h7 : k = 7
  · subst h7
    go_enter Try.func36, Try.ntmps36
    go_wp2_with fail
    refine (plc_any c _).mono ?_
    rintro e w' ⟨rfl, rfl⟩
    go_wp2
    go_ret
    exact ⟨ret_bool (by simp [Cd.datB]), rfl⟩
  · have hb : ((k : Int) == 7) = false := by rw [beq_eq_false_iff_ne]; omega
    have HE : Hid (Cd.datB k (c.toNat : Int) = Cd.isDig (c.toNat : Int)) := if_neg h7
    clear h7
    go_enter Try.func36, Try.ntmps36
    go_wp2_with fail
    refine (rdigit_any _ _).mono ?_
    rintro e w' ⟨rfl, rfl⟩
    go_wp2
    go_ret
    exact ⟨ret_bool HE.out.symm, rfl⟩

set_option maxHeartbeats 400000 in
theorem rcheck_any (k : Nat) (c : UInt8) (w : World) (hk : k ≤ 8) :
    Calls Try.prog 37 #[.int .i64 (k : Int), .int .u8 (c.toNat : Int)] w fun e w' => e = .returned (.bool (Cd.chkB k (c.toNat : Int))) ∧ w = w' := by
  have HD := Lib.hid (rdata_any k c w hk)
  cases hd : Cd.datB k (c.toNat : Int)
  · rw [hd] at HD
    cases hx : ((c.toNat : Int) == 88)
    · have HE : Hid (Cd.chkB k (c.toNat : Int) = false) := by
        show _ = _
        unfold Cd.datB at hd; unfold Cd.chkB
        rw [hx]; repeat' split
        all_goals simp_all
      clear hd
      go_enter Try.func37, Try.ntmps37
      go_wp2_with fail
      refine HD.out.mono ?_
      rintro e w' ⟨rfl, rfl⟩
      go_wp2
      go_ret
      exact ⟨ret_bool HE.out.symm, rfl⟩
    · by_cases h3 : k = 3
      · subst h3
        clear hd
        go_enter Try.func37, Try.ntmps37
        go_wp2_with fail
        refine HD.out.mono ?_
        rintro e w' ⟨rfl, rfl⟩
        go_wp2
        go_ret
        exact ⟨ret_bool (by simp [Cd.chkB, hx]), rfl⟩
      · have hb3 : ((k : Int) == 3) = false := by rw [beq_eq_false_iff_ne]; omega
        by_cases h8 : k = 8
        · subst h8
          clear hd
          go_enter Try.func37, Try.ntmps37
          go_wp2_with fail
          refine HD.out.mono ?_
          rintro e w' ⟨rfl, rfl⟩
          go_wp2
          go_ret
          exact ⟨ret_bool (by simp [Cd.chkB, hx]), rfl⟩
        · have hb8 : ((k : Int) == 8) = false := by rw [beq_eq_false_iff_ne]; omega
          have HE : Hid (Cd.chkB k (c.toNat : Int) = false) := by
            show _ = _
            unfold Cd.datB at hd; unfold Cd.chkB
            rw [if_neg (show ¬ (k = 3 ∨ k = 8) by omega)]; exact hd
          clear hd h3 h8
          go_enter Try.func37, Try.ntmps37
          go_wp2_with fail
          refine HD.out.mono ?_
          rintro e w' ⟨rfl, rfl⟩
          go_wp2
          go_ret
          exact ⟨ret_bool HE.out.symm, rfl⟩
  · rw [hd] at HD
    have HE : Hid (Cd.chkB k (c.toNat : Int) = true) := by
      show _ = _
      unfold Cd.datB at hd; unfold Cd.chkB
      split
      · simp_all
      · split <;> simp_all
    clear hd
    go_enter Try.func37, Try.ntmps37
    go_wp2_with fail
    refine HD.out.mono ?_
    rintro e w' ⟨rfl, rfl⟩
    go_wp2
    go_ret
    exact ⟨ret_bool HE.out.symm, rfl⟩

set_option maxHeartbeats 400000 in
theorem value_any (s : ByteArray) (i : Nat) (w : World) (hs : s.size ≤ 9223372036854775807) (h : i < s.size) (hd : Hid (Cd.AllDig s.data.toList)) :
    Calls Try.prog 41 #[.string s, .int .i64 (i : Int)] w fun e w' => e = .returned (.int .i64 (Cd.dg (s[s.size - 1 - i]'(by omega)))) ∧ w = w' := by
  obtain ⟨hx1, hx2⟩ := hd.out _ (mem_at s (s.size - 1 - i) (by omega))
  go_enter Try.func41, Try.ntmps41
  go_wp2
  go_ret
  exact ⟨rfl, rfl⟩

theorem drop_back (s : ByteArray) (i : Nat) (h : i < s.size) : s.data.toList.drop (s.size - (i + 1)) = (s[s.size - 1 - i]'(by omega)) :: s.data.toList.drop (s.size - i) := by
  have e1 : s.size - (i + 1) = s.size - 1 - i := by omega
  rw [e1, drop_cons s (s.size - 1 - i) (by omega), show s.size - 1 - i + 1 = s.size - i by omega]

theorem char_cut : ∀ n : Fin 11, ((⟨#[48, 49, 50, 51, 52, 53, 54, 55, 56, 57, 88]⟩ : ByteArray).extract n.1 (n.1 + 1)).data.toList = [Cd.chr (n.1 : Int)] := by decide +kernel
set_option maxHeartbeats 400000 in
theorem char_any (v : Int) (w : World) (h0 : 0 ≤ v) (h1 : v ≤ 10) :
    Calls Try.prog 45 #[.int .i64 v] w fun e w' => e = .returned (.string ⟨#[Cd.chr v]⟩) ∧ w = w' := by
  obtain ⟨n, rfl⟩ := Int.eq_ofNat_of_zero_le h0
  have hn : n ≤ 10 := by omega
  have HC := Lib.hid (bytes_ext (b := ⟨[Cd.chr (n : Int)].toArray⟩) (char_cut ⟨n, by omega⟩))
  go_enter Try.func45, Try.ntmps45
  go_wp2
  go_ret
  exact ⟨ret_string HC.out, rfl⟩
end Go.Proofs.Ytciogogpoiijcaa
