/-
  Chapter 12: the functions of Code 39, walked.
  Condition: the strings are within the reach.
-/
import Derived.Test.YthjlnpcaclfopaaGreatTwW2
import Derived.Test.YthjlnpcaclfopaaGreatCdM1
namespace Go.Proofs.YthjlnpcaclfopaaGreat
open Go.RowKit

set_option maxHeartbeats 1000000 in
theorem counts_any (z bc bp bz ba be bi bl bm : Nat) (edge inner : ByteArray) (least most : Nat) (n : Nat) (check : Bool) (w : World) (hz : z = 7 ∨ z = 9) (hA : SpacedAt w z bc bp bz ba be bi bl bm edge inner least most) (hl : least ≤ 1) (hm : most ≤ 1000) (hn : n ≤ 9223372036854775806) :
    Calls Tryz.prog 67 #[.int .i64 (n : Int), .bool check, .pointer (some ⟨ba, 0, none⟩), .pointer (some ⟨bl, 0, none⟩), .pointer (some ⟨bm, 0, none⟩)] w
      fun e w' => e = .returned (.bool (Tw.counts z least most n check)) ∧ w = w' := by
  obtain ⟨h1, _, _, _, _, h2, h3, _, _, _, _, _⟩ := hA
  have HT := Lib.hid (Tw.counts.eq_1 z least most n check)
  rcases hz with rfl | rfl
  all_goals
    cases check
    all_goals
      go_enter Tryz.func67, Tryz.ntmps67
      go_wp2
      all_goals
        go_ret
        refine ⟨ret_bool ?_, rfl⟩
        rw [HT.out, Bool.eq_iff_iff]
        simp
        omega

theorem only_snoc (l cs : List UInt8) (c : UInt8) : Tw.only (l ++ [c]) cs = (Tw.only l cs && decide (0 ≤ Lib.indexByte cs c)) := by simp [Tw.only]

set_option maxHeartbeats 1000000 in
theorem only_any (s cs : ByteArray) (w : World) (hs : s.size ≤ 9223372036854775807) :
    Calls Tryz.prog 54 #[.string s, .string cs] w fun e w' => e = .returned (.bool (Tw.only s.data.toList cs.data.toList)) ∧ w = w' := by
  have HL := Lib.hid (fun c => index_any cs c w)
  go_enter Tryz.func54, Tryz.ntmps54
  go_wp2
  go_loop [8] (fun i => ∃ j : Nat, j ≤ s.size ∧ i = .int .i64 (j : Int) ∧ Hid (∀ c ∈ s.data.toList.take j, 0 ≤ Lib.indexByte cs.data.toList c)) (fun i => s.size - (intOf i).toNat)
  case atStart => exact ⟨0, Nat.zero_le _, rfl, Lib.hid (fun c hc => by simp at hc)⟩
  case round =>
    obtain ⟨j, hj, rfl, HB⟩ := hrel
    by_cases hlt : j < s.size
    · have HI := Lib.hid (HL.out (s[j].toNat : Int))
      rw [byte_num] at HI
      obtain ⟨x, hx⟩ : ∃ x, Lib.indexByte cs.data.toList s[j] = x := ⟨_, rfl⟩
      rw [hx] at HI
      have HX := Lib.hid hx
      clear hx
      by_cases h0 : x < 0
      · have hd : decide (x < 0) = true := by simpa using h0
        go_wp2_with fail
        refine HI.out.mono ?_
        rintro e w1 ⟨rfl, rfl⟩
        go_wp2
        go_ret
        refine ⟨ret_bool ?_, rfl⟩
        symm
        unfold Tw.only
        rw [List.all_eq_false]
        exact ⟨s[j], mem_at s j hlt, by rw [HX.out]; simp; omega⟩
      · have hd : decide (x < 0) = false := by simpa using h0
        go_wp2_with fail
        refine HI.out.mono ?_
        rintro e w1 ⟨rfl, rfl⟩
        go_wp2
        go_round
        case rel => exact ⟨j + 1, by omega, by go_num, Lib.hid (fun c hc => by
          rw [take_snoc s j hlt, List.mem_append] at hc
          rcases hc with h | h
          · exact HB.out c h
          · rw [List.mem_singleton] at h; rw [h, HX.out]; omega)⟩
        case measure => simp [intOf]; omega
    · obtain rfl : j = s.size := by omega
      rw [take_all] at HB
      clear hj hlt
      go_wp2
      go_ret
      refine ⟨ret_bool ?_, rfl⟩
      symm
      unfold Tw.only
      rw [List.all_eq_true]
      exact fun c hc => by simpa using HB.out c hc

theorem ret_pair' {a : ByteArray} {l : List UInt8} {x y : Int} (h1 : a.data.toList = l) (h2 : x = y) : Ending.returned (.tuple #[.string a, .int .i64 x]) = .returned (.tuple #[.string ⟨l.toArray⟩, .int .i64 y]) := by
  rw [← h1, mk_toList, h2]
theorem ret_str' {a : ByteArray} {l : List UInt8} (h1 : a.data.toList = l) : Ending.returned (.string a) = .returned (.string ⟨l.toArray⟩) := by rw [← h1, mk_toList]

theorem compI_len (k : Int) (l : List UInt8) : (Cd.compI k l).1.length ≤ 2 := by
  unfold Cd.compI
  split
  · simp
  · rename_i h
    unfold Cd.comp
    repeat' split
    all_goals first | (simp; done) | (rw [Cd.cmp_size _ _ (by omega) (by omega)]; exact Cd.size_bd _) | (rw [Cd.cmp_size _ _ (by omega) (by omega)]; have := Cd.size_bd k.toNat; omega)

set_option maxHeartbeats 1000000 in
theorem comp39_any (s : ByteArray) (check : Bool) (w : World) (hs : s.size ≤ 1000000) :
    Calls Tryz.prog 53 #[.string s, .bool check] w fun e w' => e = .returned (.tuple #[.string ⟨(Tw.comp39 s.data.toList check).1.toArray⟩, .int .i64 (Tw.comp39 s.data.toList check).2]) ∧ Ext w w' := by
  have HO := Lib.hid (fun w => only_any s ⟨Cd.syms.toArray⟩ w (by omega))
  have HT := Lib.hid (Tw.comp39.eq_1 s.data.toList check)
  change Hid (∀ w, Calls Tryz.prog 54 #[.string s, .string ⟨#[48, 49, 50, 51, 52, 53, 54, 55, 56, 57, 65, 66, 67, 68, 69, 70, 71, 72, 73, 74, 75, 76, 77, 78, 79, 80, 81, 82, 83, 84, 85, 86, 87, 88, 89, 90, 45, 46, 32, 36, 47, 43, 37]⟩] w fun e w' => e = .returned (.bool (Tw.only s.data.toList Cd.syms)) ∧ w = w') at HO
  cases ho : Tw.only s.data.toList Cd.syms
  · rw [ho] at HO HT
    rw [if_pos rfl] at HT
    rw [HT.out]
    go_enter Tryz.func53, Tryz.ntmps53
    go_wp2_with fail
    refine (HO.out _).mono ?_
    rintro e w1 ⟨rfl, rfl⟩
    go_wp2
    go_ret2
    exact ⟨rfl, Ext.refl _⟩
  · rw [ho] at HO HT
    rw [if_neg Bool.noConfusion] at HT
    clear ho
    cases check
    · rw [if_pos rfl] at HT
      rw [HT.out]
      go_enter Tryz.func53, Tryz.ntmps53
      go_wp2_with fail
      refine (HO.out _).mono ?_
      rintro e w1 ⟨rfl, rfl⟩
      go_wp2
      go_ret2
      exact ⟨ret_pair' (by simp) rfl, Ext.refl _⟩
    · rw [if_neg Bool.noConfusion] at HT
      have HC := Lib.hid (fun w => compute_any 7 s w (by omega))
      by_cases h0 : (Cd.compI 7 s.data.toList).2 = 0
      · rw [if_pos h0] at HT
        rw [HT.out]
        rw [h0] at HC
        clear h0
        have hdl := compI_len 7 s.data.toList
        generalize (Cd.compI 7 s.data.toList).1 = d at *
        obtain ⟨D, rfl⟩ : ∃ D : ByteArray, d = D.data.toList := ⟨⟨d.toArray⟩, by simp⟩
        rw [mk_toList] at HC
        rw [len_data] at hdl
        go_enter Tryz.func53, Tryz.ntmps53
        go_wp2_with fail
        refine (HO.out _).mono ?_
        rintro e w1 ⟨rfl, rfl⟩
        go_wp2_with fail
        refine (HC.out _).mono ?_
        rintro e w2 ⟨rfl, hx2⟩
        go_wp2
        go_ret2
        exact ⟨ret_pair' (by simp) rfl, hx2⟩
      · rw [if_neg h0] at HT
        rw [HT.out]
        have hb : ((Cd.compI 7 s.data.toList).2 != 0) = true := by rw [bne_iff_ne]; exact h0
        generalize (Cd.compI 7 s.data.toList).2 = x at *
        generalize (Cd.compI 7 s.data.toList).1 = d at *
        clear h0 HT
        go_enter Tryz.func53, Tryz.ntmps53
        go_wp2_with fail
        refine (HO.out _).mono ?_
        rintro e w1 ⟨rfl, rfl⟩
        go_wp2_with fail
        refine (HC.out _).mono ?_
        rintro e w2 ⟨rfl, hx2⟩
        go_wp2
        go_ret2
        exact ⟨rfl, hx2⟩

set_option maxHeartbeats 1000000 in
theorem text39_any (s : ByteArray) (check : Bool) (w : World) (hs : s.size ≤ 1000000) (h3 : 3 ≤ s.size) :
    Calls Tryz.prog 56 #[.string s, .bool check] w fun e w' => e = .returned (.string ⟨(Tw.text39 s.data.toList check).toArray⟩) ∧ w = w' := by
  have HT := Lib.hid (Tw.text39.eq_1 s.data.toList check)
  rw [len_data] at HT
  have HC1 := Lib.hid (cut_mid s 1 (s.size - 1))
  have HC2 := Lib.hid (cut_mid s 1 (s.size - 2))
  cases check
  · have hn : ((s.size : Int) - 1).toNat = s.size - 1 := by omega
    go_enter Tryz.func56, Tryz.ntmps56
    go_wp2
    go_ret
    refine ⟨ret_str' ?_, rfl⟩
    rw [HT.out]
    first | rw [HC1.out] | (rw [hn, HC1.out]) | skip
    simp only [Bool.toNat_false]
    congr 1
  · have hn : ((s.size : Int) - 2).toNat = s.size - 2 := by omega
    go_enter Tryz.func56, Tryz.ntmps56
    go_wp2
    go_ret
    refine ⟨ret_str' ?_, rfl⟩
    rw [HT.out]
    first | rw [HC2.out] | (rw [hn, HC2.out]) | skip
    simp only [Bool.toNat_true]
    try congr 1
end Go.Proofs.YthjlnpcaclfopaaGreat
