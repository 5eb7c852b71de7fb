/-
  Corrections of the reference, walked: it returns the same strings.
  Conditions: strings within the reach.
-/
import Derived.Test.YtkpfehfcgpapiaaGreatDoorCdR7
import Derived.Test.YtkpfehfcgpapiaaGreatDoorCdSw
import Derived.Test.YtkpfehfcgpapiaaGreatDoorCdR5
import Derived.Test.YtkpfehfcgpapiaaGreatDoorCdW6
namespace Go.Proofs.YtkpfehfcgpapiaaGreatDoor
open Go.RowKit Go.Sort

theorem refTo_len (k : Int) (l : List UInt8) (n : Nat) : (Cd.refTo k l n).length ≤ 44 * n := by
  induction n with
  | zero => simp [Cd.refTo]
  | succ n ih =>
    rw [Cd.refTo_succ, List.length_append, List.length_append]
    have h1 := Cd.subs_len k l n Cd.syms
    have h2 := Cd.swps_len k l n
    have h3 : Cd.syms.length = 43 := rfl
    omega
theorem insAll_len (l : List (List UInt8)) : (Cd.insAll l).length = l.length := (Cd.insAll_ok l).1.length_eq
theorem swpOk_at2 (k : Int) (s : ByteArray) (n m : Nat) (h0 : n < s.size) (hm : m = n + 1) (h : m < s.size) :
    Cd.swpOk k s.data.toList n = (((s[n]).toNat : Int) != ((s[m]).toNat : Int) && Cd.verI k (Cd.swp s.data.toList n) == 0) := by
  subst hm
  unfold Cd.swpOk
  rw [len_data, getD_at s n (by omega), getD_at s (n + 1) h]
  have e : ∀ a b : UInt8, (a != b) = ((a.toNat : Int) != (b.toNat : Int)) := by
    intro a b
    rw [Bool.eq_iff_iff, bne_iff_ne, bne_iff_ne]
    constructor
    · intro h1 h2; exact h1 (UInt8.toNat_inj.1 (by omega))
    · intro h1 h2; exact h1 (by rw [h2])
  rw [e]
  simp [h]

theorem rcorr_bad (k : Int) (s : ByteArray) (w : World) (h : k < 1 ∨ 8 < k) :
    Calls Tryz.prog 65 #[.int .i64 k, .string s] w (RetStrs w [] 1) := by
  by_cases h1 : k < 1
  · clear h
    go_enter Tryz.func65, Tryz.ntmps65
    go_wp2
    go_ret2
    exact ⟨_, rfl, OwnS.nil _ _, Ext.refl _⟩
  · have h2 : 8 < k := by omega
    clear h
    go_enter Tryz.func65, Tryz.ntmps65
    go_wp2
    go_ret2
    exact ⟨_, rfl, OwnS.nil _ _, Ext.refl _⟩

set_option maxRecDepth 100000 in
set_option maxHeartbeats 4000000 in
theorem rcorr_sys (k : Nat) (hk1 : 1 ≤ k) (hk8 : k ≤ 8) (s : ByteArray) (w : World) (hs : s.size ≤ 9223372036854775807) :
    Calls Tryz.prog 65 #[.int .i64 (k : Int), .string s] w (RetStrs w (Cd.cor k s.data.toList).1 (Cd.cor k s.data.toList).2) := by
  have HV := Lib.hid (Cd.cor.eq_1 k s.data.toList)
  rw [if_neg (by omega), len_data, Int.toNat_natCast] at HV
  by_cases hl : 64 < s.size
  · rw [if_pos hl] at HV
    rw [HV.out]
    clear HV
    go_enter Tryz.func65, Tryz.ntmps65
    go_wp2
    go_ret2
    exact ⟨_, rfl, OwnS.nil _ _, Ext.refl _⟩
  · rw [if_neg hl] at HV
    have HC := Lib.hid (rfits_any k s.size w hk1 hk8 (by omega))
    have hl' : s.size ≤ 64 := by omega
    cases hf : Cd.fits k s.size
    · rw [hf] at HC HV
      rw [if_pos rfl] at HV
      rw [HV.out]
      clear hl hf HV
      go_enter Tryz.func65, Tryz.ntmps65
      go_wp2_with fail
      refine HC.out.mono ?_
      rintro e w2 ⟨rfl, rfl⟩
      go_wp2
      go_ret2
      exact ⟨_, rfl, OwnS.nil _ _, Ext.refl _⟩
    · rw [hf] at HC HV
      rw [if_neg (by exact Bool.noConfusion)] at HV
      have hfin := Cd.ref_is k s.data.toList
      rw [len_data] at hfin
      rw [HV.out, show (Cd.corTo k s.data.toList s.size).mergeSort (fun x y => decide (x ≤ y)) = Cd.insAll (Cd.refTo k s.data.toList s.size) from hfin.symm]
      clear hl hf HV hfin
      go_enter Tryz.func65, Tryz.ntmps65
      go_wp2_with fail
      refine HC.out.mono ?_
      rintro e w2 ⟨rfl, rfl⟩
      go_wp2
      go_loopw [6, 7] (fun v i wr => ∃ n : Nat, n ≤ s.size ∧ i = .int .i64 (n : Int) ∧ OwnS wr w.heap.size v (Cd.insAll (Cd.refTo k s.data.toList n)) ∧ Ext w wr) (fun _ i _ => s.size - (intOf i).toNat)
      case atStart => exact ⟨0, Nat.zero_le _, rfl, OwnS.nil _ _, Ext.refl _⟩
      case round =>
        obtain ⟨n, hn, rfl, hown, hxw⟩ := hrel
        by_cases hlt : n < s.size
        · obtain ⟨wo, rfl⟩ : ∃ wo : World, wo = wr := ⟨_, rfl⟩
          have hcl := refTo_len k s.data.toList n
          go_wp2
          go_loopw [6, 8] (fun v i wq => ∃ j : Nat, j ≤ 43 ∧ i = .int .i64 (j : Int) ∧ OwnS wq w.heap.size v (Cd.insAll (Cd.refTo k s.data.toList n ++ Cd.subs k s.data.toList n (Cd.syms.take j))) ∧ Ext w wq) (fun _ i _ => 43 - (intOf i).toNat)
          case atStart => exact ⟨0, by omega, rfl, by simpa [Cd.subs] using hown, hxw⟩
          case round =>
            clear hown hxw
            obtain ⟨j, hj, rfl, hown, hxw⟩ := hrel
            by_cases hjl : j < 43
            · have HT := Lib.hid (sub1_bytes s n j hjl)
              have hsl := Cd.subs_len k s.data.toList n (Cd.syms.take j)
              rw [List.length_take] at hsl
              have hil := insAll_len (Cd.refTo k s.data.toList n ++ Cd.subs k s.data.toList n (Cd.syms.take j))
              rw [List.length_append] at hil
              have hil' : (Cd.insAll (Cd.refTo k s.data.toList n ++ Cd.subs k s.data.toList n (Cd.syms.take j))).length ≤ 1000000 := by omega
              clear hil
              have HN := Lib.hid (Cd.subs_snoc k s.data.toList n (Cd.syms.take j) (Cd.syms.getD j 48))
              rw [← syms_take j hjl] at HN
              have HO : Hid (Cd.subsOk k s.data.toList n (Cd.syms.getD j 48) = (Cd.sub1 s.data.toList n (Cd.syms.getD j 48) != s.data.toList && Cd.verI k (Cd.sub1 s.data.toList n (Cd.syms.getD j 48)) == 0)) := rfl
              generalize Cd.syms.getD j 48 = c at *
              go_wp2
              refine wp_region_quiet (C := fun w' => ∃ x : Ahead wr, w' = x.at') (by kernel_rfl) (by kernel_rfl) (Ahead.drawn _) ?_
              try dsimp only
              repeat (first | go_big_quiet_step (fail) | quiet_step (fail))
              refine wpQuiet_nil ?_
              intro _ hx0
              obtain ⟨x0, hx0⟩ := hx0
              subst hx0
              obtain ⟨w3, hx3⟩ := x0
              try dsimp only
              generalize s.extract 0 n ++ (⟨#[48, 49, 50, 51, 52, 53, 54, 55, 56, 57, 65, 66, 67, 68, 69, 70, 71, 72, 73, 74, 75, 76, 77, 78, 79, 80, 81, 82, 83, 84, 85, 86, 87, 88, 89, 90, 45, 46, 32, 36, 47, 43, 37]⟩ : ByteArray).extract j (j + 1) ++ s.extract (n + 1) s.size = tt at *
              have hown3 := hown.ext hx3
              have hxw3 := hxw.trans hx3
              clear hown hxw hx3
              have hts : tt.size ≤ 9223372036854775807 := by
                have := size_of_toList HT.out
                simp only [Cd.sub1, List.length_append, List.length_take, List.length_drop, len_data, List.length_singleton] at this
                omega
              by_cases heq : Cd.sub1 s.data.toList n c = s.data.toList
              · have hq : (!tt.toList == s.toList) = false := by rw [Lib.toList_data, Lib.toList_data, HT.out, heq]; simp
                have hno : Cd.subsOk k s.data.toList n c = false := by rw [HO.out, heq]; simp
                rw [hno] at HN
                clear heq hno
                go_wp2
                go_roundw
                case rel => exact ⟨j + 1, by omega, by go_num, by rw [HN.out]; simpa using hown3, hxw3⟩
                case measure => simp [intOf]; omega
              · have hq : (!tt.toList == s.toList) = true := by rw [Lib.toList_data, Lib.toList_data, HT.out]; simpa using heq
                have HVF := Lib.hid (fun w => rverify_any (k : Int) tt w hts)
                rw [HT.out] at HVF
                have hno : Cd.subsOk k s.data.toList n c = (Cd.verI k (Cd.sub1 s.data.toList n c) == 0) := by rw [HO.out]; simp [heq]
                rw [hno] at HN
                clear heq hno
                go_wp2_with fail
                refine (HVF.out _).mono ?_
                rintro e w4 ⟨rfl, hx4⟩
                have hown4 := hown3.ext hx4
                have hxw4 := hxw3.trans hx4
                clear hown3 hxw3 hx4
                cases hv0 : (Cd.verI k (Cd.sub1 s.data.toList n c) == 0)
                · rw [hv0] at HN
                  go_wp2
                  go_roundw
                  case rel => exact ⟨j + 1, by omega, by go_num, by rw [HN.out]; simpa using hown4, hxw4⟩
                  case measure => simp [intOf]; omega
                · rw [hv0] at HN
                  have HINS := Lib.hid (insert_own w.heap.size _ _ tt w4 hown4 hil')
                  rw [HT.out, ← Cd.insAll_snoc] at HINS
                  go_wp2_with fail
                  refine HINS.out.mono ?_
                  rintro e w5 ⟨v5, rfl, hown5, hx5⟩
                  have hown6 := hown5.mono hxw4.size
                  have hxw5 := hxw4.trans hx5
                  clear hown5 hx5 hown4
                  go_wp2
                  go_roundw
                  case rel => exact ⟨j + 1, by omega, by go_num, by rw [HN.out, ← List.append_assoc]; exact hown6, hxw5⟩
                  case measure => simp [intOf]; omega
            · obtain rfl : j = 43 := by omega
              rw [show Cd.syms.take 43 = Cd.syms from rfl] at hown
              have hsl := Cd.subs_len k s.data.toList n Cd.syms
              have hsy : Cd.syms.length = 43 := rfl
              have HCS := Lib.hid (Cd.refTo_succ k s.data.toList n)
              have hil := insAll_len (Cd.refTo k s.data.toList n ++ Cd.subs k s.data.toList n Cd.syms)
              rw [List.length_append] at hil
              have hil' : (Cd.insAll (Cd.refTo k s.data.toList n ++ Cd.subs k s.data.toList n Cd.syms)).length ≤ 1000000 := by omega
              have HSW : Hid (Cd.swps k s.data.toList n = if Cd.swpOk k s.data.toList n then [Cd.swp s.data.toList n] else []) := rfl
              clear hj hjl hil
              by_cases hn1 : n + 1 < s.size
              · obtain ⟨m, hm⟩ : ∃ m, m = n + 1 := ⟨_, rfl⟩
                have hms : m < s.size := by omega
                have hij : (n : Int) + 1 = (m : Int) := by omega
                have hmi : (m : Int) < (s.size : Int) := by omega
                have hg0 : decide ((m : Int) < (s.size : Int)) = true := by simpa using hms
                have HSO := Lib.hid (swpOk_at2 k s n m hlt hm hms)
                have HT := Lib.hid (swp_cut s n)
                clear hm
                cases hne : (((s[n]).toNat : Int) != ((s[m]).toNat : Int))
                · rw [hne] at HSO
                  rw [HSO.out] at HSW
                  go_wp2
                  refine wp_region_quiet (C := fun w' => ∃ x : Ahead wr, w' = x.at') (by kernel_rfl) (by kernel_rfl) (Ahead.drawn _) ?_
                  try dsimp only
                  repeat (first | go_big_quiet_step (fail) | quiet_step (fail))
                  refine wpQuiet_nil ?_
                  intro _ hx0
                  obtain ⟨x0, hx0⟩ := hx0
                  subst hx0
                  obtain ⟨w3, hx3⟩ := x0
                  try dsimp only
                  go_wp2
                  go_roundw
                  case rel => exact ⟨n + 1, by omega, by rw [show ((n + 1 : Nat) : Int) = (m : Int) by omega], by rw [HCS.out, HSW.out]; simpa using hown.ext hx3, hxw.trans hx3⟩
                  case measure => simp [intOf]; omega
                · rw [hne] at HSO
                  rw [HSO.out] at HSW
                  go_wp2
                  refine wp_region_quiet (C := fun w' => ∃ x : Ahead wr, w' = x.at') (by kernel_rfl) (by kernel_rfl) (Ahead.drawn _) ?_
                  try dsimp only
                  repeat (first | go_big_quiet_step (fail) | quiet_step (fail))
                  refine wpQuiet_nil ?_
                  intro _ hx0
                  obtain ⟨x0, hx0⟩ := hx0
                  subst hx0
                  obtain ⟨w3, hx3⟩ := x0
                  try dsimp only
                  have hown3 := hown.ext hx3
                  have hxw3 := hxw.trans hx3
                  clear hown hxw hx3 hij
                  go_wp2
                  refine wp_region_quiet (C := fun w' => ∃ x : Ahead w3, w' = x.at') (by kernel_rfl) (by kernel_rfl) (Ahead.drawn _) ?_
                  try dsimp only
                  repeat (first | go_big_quiet_step (fail) | quiet_step (fail))
                  refine wpQuiet_nil ?_
                  intro _ hx0
                  obtain ⟨x0, hx0⟩ := hx0
                  subst hx0
                  obtain ⟨w4, hx4⟩ := x0
                  try dsimp only
                  generalize s.extract 0 n ++ s.extract (n + 1) (n + 2) ++ s.extract n (n + 1) ++ s.extract (n + 2) s.size = tt at *
                  have hown4 := hown3.ext hx4
                  have hxw4 := hxw3.trans hx4
                  clear hown3 hxw3 hx4
                  have hts : tt.size ≤ 9223372036854775807 := by
                    have := size_of_toList HT.out
                    rw [Cd.len_swp _ _ (by rw [len_data]; exact hn1), len_data] at this
                    omega
                  have HVF := Lib.hid (fun w => rverify_any (k : Int) tt w hts)
                  rw [HT.out] at HVF
                  go_wp2_with fail
                  refine (HVF.out _).mono ?_
                  rintro e w5 ⟨rfl, hx5⟩
                  have hown5 := hown4.ext hx5
                  have hxw5 := hxw4.trans hx5
                  clear hown4 hxw4 hx5
                  cases hv0 : (Cd.verI k (Cd.swp s.data.toList n) == 0)
                  · rw [hv0] at HSW
                    go_wp2
                    go_roundw
                    case rel => exact ⟨n + 1, by omega, by go_num, by rw [HCS.out, HSW.out]; simpa using hown5, hxw5⟩
                    case measure => simp [intOf]; omega
                  · rw [hv0] at HSW
                    have HINS := Lib.hid (insert_own w.heap.size _ _ tt w5 hown5 hil')
                    rw [HT.out, ← Cd.insAll_snoc] at HINS
                    go_wp2_with fail
                    refine HINS.out.mono ?_
                    rintro e w6 ⟨v6, rfl, hown6, hx6⟩
                    have hown7 := hown6.mono hxw5.size
                    have hxw6 := hxw5.trans hx6
                    clear hown6 hx6 hown5
                    go_wp2
                    go_roundw
                    case rel => exact ⟨n + 1, by omega, by go_num, by rw [HCS.out, HSW.out]; simpa using hown7, hxw6⟩
                    case measure => simp [intOf]; omega
              · have hg0 : decide ((n : Int) + 1 < (s.size : Int)) = false := by simp; omega
                have hno : Cd.swpOk k s.data.toList n = false := by unfold Cd.swpOk; rw [len_data]; simp [hn1]
                rw [hno] at HSW
                clear hno
                go_wp2
                refine wp_region_quiet (C := fun w' => ∃ x : Ahead wr, w' = x.at') (by kernel_rfl) (by kernel_rfl) (Ahead.drawn _) ?_
                try dsimp only
                repeat (first | go_big_quiet_step (fail) | quiet_step (fail))
                refine wpQuiet_nil ?_
                intro _ hx0
                obtain ⟨x0, hx0⟩ := hx0
                subst hx0
                obtain ⟨w3, hx3⟩ := x0
                try dsimp only
                go_wp2
                go_roundw
                case rel => exact ⟨n + 1, by omega, by go_num, by rw [HCS.out, HSW.out]; simpa using hown.ext hx3, hxw.trans hx3⟩
                case measure => simp [intOf]; omega
        · obtain rfl : n = s.size := by omega
          clear hn hlt
          go_wp2
          go_ret2
          exact ⟨_, rfl, hown, hxw⟩

theorem rcorr_any (k : Int) (s : ByteArray) (w : World) (hs : s.size ≤ 9223372036854775807) :
    Calls Tryz.prog 65 #[.int .i64 k, .string s] w (RetStrs w (Cd.cor k s.data.toList).1 (Cd.cor k s.data.toList).2) := by
  by_cases h : k < 1 ∨ 8 < k
  · rw [Cd.cor, if_pos h]; exact rcorr_bad k s w h
  · obtain ⟨n, rfl⟩ := Int.eq_ofNat_of_zero_le (show 0 ≤ k by omega)
    exact rcorr_sys n (by omega) (by omega) s w hs
end Go.Proofs.YtkpfehfcgpapiaaGreatDoor
