/-
  Corrections of checkdigit, walked.
  Conditions: strings within the reach.
-/
import Derived.Test.YtkpfehfcgpapiaaGreatDoorCdW5
import Derived.Test.YtkpfehfcgpapiaaGreatDoorStr
namespace Go.Proofs.YtkpfehfcgpapiaaGreatDoor
open Go.RowKit Go.Sort

/-- Strings of the call's own and an error number are returned. -/
def RetStrs (w : World) (ss : List (List UInt8)) (x : Int) (e : Ending) (w' : World) : Prop :=
  ∃ v, e = .returned (.tuple #[v, .int .i64 x]) ∧ OwnS w' w.heap.size v ss ∧ Ext w w'

theorem syms_cut (n : Nat) (h : n < 43) : (⟨Cd.syms.toArray⟩ : ByteArray).extract n (n + 1) = ⟨[Cd.syms.getD n 48].toArray⟩ := by
  have h1 := syms_at' ⟨n, h⟩
  dsimp only at h1
  rw [← h1]
theorem syms_take (n : Nat) (h : n < 43) : Cd.syms.take (n + 1) = Cd.syms.take n ++ [Cd.syms.getD n 48] := by
  have h' : n < Cd.syms.length := h
  rw [List.take_succ_eq_append_getElem h']
  simp [List.getD, List.getElem?_eq_getElem h']
theorem sub1_bytes (s : ByteArray) (i n : Nat) (h : n < 43) :
    (s.extract 0 i ++ (⟨#[48, 49, 50, 51, 52, 53, 54, 55, 56, 57, 65, 66, 67, 68, 69, 70, 71, 72, 73, 74, 75, 76, 77, 78, 79, 80, 81, 82, 83, 84, 85, 86, 87, 88, 89, 90, 45, 46, 32, 36, 47, 43, 37]⟩ : ByteArray).extract n (n + 1) ++ s.extract (i + 1) s.size).data.toList = Cd.sub1 s.data.toList i (Cd.syms.getD n 48) := by
  show (s.extract 0 i ++ (⟨Cd.syms.toArray⟩ : ByteArray).extract n (n + 1) ++ s.extract (i + 1) s.size).data.toList = _
  rw [syms_cut n h]
  simp only [ByteArray.data_append, Array.toList_append, cut_front, cut_back, Cd.sub1]

theorem swp_bytes (s : ByteArray) (n : Nat) (h : 0 < n) :
    (s.extract 0 (n - 1) ++ s.extract n (n + 1) ++ s.extract (n - 1) n ++ s.extract (n + 1) s.size).data.toList = Cd.swp s.data.toList (n - 1) := by
  simp only [ByteArray.data_append, Array.toList_append, cut_mid, Cd.swp]
  rw [show n - 1 + 1 = n by omega, show n - 1 + 2 = n + 1 by omega, show n + 1 - n = 1 by omega, show n - (n - 1) = 1 by omega, Nat.sub_zero, List.drop_zero,
    List.take_of_length_le (i := s.size - (n + 1)) (by rw [len_drop]; exact Nat.le_refl _)]
theorem getD_at (s : ByteArray) (i : Nat) (h : i < s.size) : s.data.toList.getD i 0 = s[i] := by
  have h' : i < s.data.toList.length := by rw [len_data]; exact h
  rw [List.getD_eq_getElem?_getD, List.getElem?_eq_getElem h']; rfl
theorem swpOk_at (k : Int) (s : ByteArray) (n : Nat) (h0 : 0 < n) (h : n < s.size) :
    Cd.swpOk k s.data.toList (n - 1) = (((s[n - 1]'(by omega)).toNat : Int) != ((s[n]).toNat : Int) && Cd.verI k (Cd.swp s.data.toList (n - 1)) == 0) := by
  unfold Cd.swpOk
  rw [len_data, show n - 1 + 1 = n by omega, getD_at s (n - 1) (by omega), getD_at s n h]
  have e : ∀ a b : UInt8, (a != b) = ((a.toNat : Int) != (b.toNat : Int)) := by
    intro a b
    rw [Bool.eq_iff_iff, bne_iff_ne, bne_iff_ne]
    constructor
    · intro h1 h2; exact h1 (UInt8.toNat_inj.1 (by omega))
    · intro h1 h2; exact h1 (by rw [h2])
  rw [e]
  simp [h]
theorem corAt_pos (k : Int) (l : List UInt8) (n : Nat) (h : 0 < n) : Cd.corAt k l n = Cd.subs k l n Cd.syms ++ Cd.swps k l (n - 1) := by
  cases n with
  | zero => omega
  | succ n => rfl

set_option maxRecDepth 100000 in
set_option maxHeartbeats 1000000 in
theorem corr_bad (k : Int) (s : ByteArray) (w : World) (h : k < 1 ∨ 8 < k) :
    Calls Tryz.prog 106 #[.int .i64 k, .string s] w (RetStrs w [] 1) := by
  have H := Lib.hid (find_none k w h)
  clear h
  go_enter Tryz.func106, Tryz.ntmps106
  go_wp2_with fail
  refine H.out.mono ?_
  rintro e w1 ⟨rfl, hx1⟩
  go_wp2
  go_ret2
  exact ⟨_, rfl, OwnS.nil _ _, hx1⟩

set_option maxRecDepth 100000 in
set_option maxHeartbeats 2000000 in
theorem corr_sys (k : Nat) (T : Nat) (hk1 : 1 ≤ k) (hk8 : k ≤ 8) (hy : SysAt k T) (s : ByteArray) (w : World) (hs : s.size ≤ 9223372036854775807) :
    Calls Tryz.prog 106 #[.int .i64 k, .string s] w (RetStrs w (Cd.cor k s.data.toList).1 (Cd.cor k s.data.toList).2) := by
  have HV := Lib.hid (Cd.cor.eq_1 k s.data.toList)
  rw [if_neg (by omega), len_data, Int.toNat_natCast] at HV
  have HF := Lib.hid (hy.found w)
  by_cases hl : 64 < s.size
  · rw [if_pos hl] at HV
    rw [HV.out]
    clear hy HV
    go_enter Tryz.func106, Tryz.ntmps106
    go_wp2_with fail
    refine HF.out.mono ?_
    rintro e w1 ⟨rfl, hx1⟩
    go_wp2
    go_ret2
    exact ⟨_, rfl, OwnS.nil _ _, hx1⟩
  · rw [if_neg hl] at HV
    have HC := Lib.hid (fun w => complete_any k T hy s.size w (by omega))
    have hl' : s.size ≤ 64 := by omega
    cases hf : Cd.fits k s.size
    · rw [hf] at HC HV
      rw [if_pos rfl] at HV
      rw [HV.out]
      clear hy hl hf HV
      go_enter Tryz.func106, Tryz.ntmps106
      go_wp2_with fail
      refine HF.out.mono ?_
      rintro e w1 ⟨rfl, hx1⟩
      go_wp2_with fail
      refine (HC.out _).mono ?_
      rintro e w2 ⟨rfl, hx2⟩
      go_wp2
      go_ret2
      exact ⟨_, rfl, OwnS.nil _ _, hx1.trans hx2⟩
    · rw [hf] at HC HV
      rw [if_neg (by exact Bool.noConfusion)] at HV
      rw [HV.out]
      clear hy hl hf HV
      go_enter Tryz.func106, Tryz.ntmps106
      go_wp2_with fail
      refine HF.out.mono ?_
      rintro e w1 ⟨rfl, hx1⟩
      go_wp2_with fail
      refine (HC.out _).mono ?_
      rintro e w2 ⟨rfl, hx2⟩
      have hx := hx1.trans hx2
      clear hx1 hx2
      go_wp2
      go_loopw [8, 30] (fun v i wr => ∃ n : Nat, n ≤ s.size ∧ i = .int .i64 (n : Int) ∧ OwnS wr w.heap.size v (Cd.corTo k s.data.toList n) ∧ Ext w wr) (fun _ i _ => s.size - (intOf i).toNat)
      case atStart => exact ⟨0, Nat.zero_le _, rfl, OwnS.nil _ _, hx⟩
      case round =>
        obtain ⟨n, hn, rfl, hown, hxw⟩ := hrel
        by_cases hlt : n < s.size
        · obtain ⟨wo, rfl⟩ : ∃ wo : World, wo = wr := ⟨_, rfl⟩
          have hcl := Cd.corTo_len k s.data.toList n
          clear hx
          go_wp2
          go_loopw [8, 33] (fun v i wq => ∃ j : Nat, j ≤ 43 ∧ i = .int .i64 (j : Int) ∧ OwnS wq w.heap.size v (Cd.corTo k s.data.toList n ++ Cd.subs k s.data.toList n (Cd.syms.take j)) ∧ Ext w wq) (fun _ i _ => 43 - (intOf i).toNat)
          case atStart => exact ⟨0, by omega, rfl, by simpa [Cd.subs] using hown, hxw⟩
          case round =>
            clear hown hxw
            obtain ⟨j, hj, rfl, hown, hxw⟩ := hrel
            by_cases hjl : j < 43
            · have HT := Lib.hid (sub1_bytes s n j hjl)
              have hsl := Cd.subs_len k s.data.toList n (Cd.syms.take j)
              rw [List.length_take] at hsl
              have HN := Lib.hid (Cd.subs_snoc k s.data.toList n (Cd.syms.take j) (Cd.syms.getD j 48))
              rw [← syms_take j hjl] at HN
              have HO : Hid (Cd.subsOk k s.data.toList n (Cd.syms.getD j 48) = (Cd.sub1 s.data.toList n (Cd.syms.getD j 48) != s.data.toList && Cd.verI k (Cd.sub1 s.data.toList n (Cd.syms.getD j 48)) == 0)) := rfl
              generalize Cd.syms.getD j 48 = c at *
              go_wp2
              refine wp_region_quiet (C := fun w' => ∃ x : Ahead wr, w' = x.at') (by kernel_rfl) (by kernel_rfl) (Ahead.drawn _) ?_
              try dsimp only
              repeat (first | go_big_quiet_step (fail) | quiet_step (fail))
              refine wpQuiet_nil ?_
              intro _ hx0
              obtain ⟨x0, hx0⟩ := hx0
              subst hx0
              obtain ⟨w3, hx3⟩ := x0
              try dsimp only
              generalize s.extract 0 n ++ (⟨#[48, 49, 50, 51, 52, 53, 54, 55, 56, 57, 65, 66, 67, 68, 69, 70, 71, 72, 73, 74, 75, 76, 77, 78, 79, 80, 81, 82, 83, 84, 85, 86, 87, 88, 89, 90, 45, 46, 32, 36, 47, 43, 37]⟩ : ByteArray).extract j (j + 1) ++ s.extract (n + 1) s.size = tt at *
              have hown3 := hown.ext hx3
              have hxw3 := hxw.trans hx3
              clear hown hxw hx3
              have hts : tt.size ≤ 9223372036854775807 := by
                have := size_of_toList HT.out
                simp only [Cd.sub1, List.length_append, List.length_take, List.length_drop, len_data, List.length_singleton] at this
                omega
              by_cases heq : Cd.sub1 s.data.toList n c = s.data.toList
              · have hq : (!tt.toList == s.toList) = false := by rw [Lib.toList_data, Lib.toList_data, HT.out, heq]; simp
                have hno : Cd.subsOk k s.data.toList n c = false := by rw [HO.out, heq]; simp
                rw [hno] at HN
                clear heq hno
                go_wp2
                go_roundw
                case rel => exact ⟨j + 1, by omega, by go_num, by rw [HN.out]; simpa using hown3, hxw3⟩
                case measure => simp [intOf]; omega
              · have hq : (!tt.toList == s.toList) = true := by rw [Lib.toList_data, Lib.toList_data, HT.out]; simpa using heq
                have HVF := Lib.hid (fun w => verify_any (k : Int) tt w hts)
                rw [HT.out] at HVF
                have hno : Cd.subsOk k s.data.toList n c = (Cd.verI k (Cd.sub1 s.data.toList n c) == 0) := by rw [HO.out]; simp [heq]
                rw [hno] at HN
                clear heq hno
                go_wp2_with fail
                refine (HVF.out _).mono ?_
                rintro e w4 ⟨rfl, hx4⟩
                have hown4 := hown3.ext hx4
                have hxw4 := hxw3.trans hx4
                clear hown3 hxw3 hx4
                cases hv0 : (Cd.verI k (Cd.sub1 s.data.toList n c) == 0)
                · rw [hv0] at HN
                  go_wp2
                  go_roundw
                  case rel => exact ⟨j + 1, by omega, by go_num, by rw [HN.out]; simpa using hown4, hxw4⟩
                  case measure => simp [intOf]; omega
                · rw [hv0] at HN
                  go_wp2_with (at_builtin; refine wpList_append_str rfl _ _ rfl w.heap.size _ _ rfl (hown4.alloc _) tt _ rfl ?c1 ?c2 ?c3 ?_)
                  case c1 => simp [go_sem]
                  case c2 => rw [List.length_append]; omega
                  case c3 => have := hxw4.size; simp; omega
                  intro v' w5 hown5 hg5
                  have hxw5 := (hxw4.alloc _).grownBy hg5 hown4.low
                  simp only [HT.out] at hown5
                  go_wp2
                  go_roundw
                  case rel => exact ⟨j + 1, by omega, by go_num, by rw [HN.out]; exact hown5, hxw5⟩
                  case measure => simp [intOf]; omega
            · obtain rfl : j = 43 := by omega
              rw [show Cd.syms.take 43 = Cd.syms from rfl] at hown
              have hsl := Cd.subs_len k s.data.toList n Cd.syms
              have hsy : Cd.syms.length = 43 := rfl
              have HCS := Lib.hid (Cd.corTo_succ k s.data.toList n)
              clear hj hjl
              by_cases hn0 : 0 < n
              · have hg0 : decide ((0 : Int) < (n : Int)) = true := by simpa using hn0
                have HCA := Lib.hid (corAt_pos k s.data.toList n hn0)
                have HSO := Lib.hid (swpOk_at k s n hn0 hlt)
                have HSW : Hid (Cd.swps k s.data.toList (n - 1) = if Cd.swpOk k s.data.toList (n - 1) then [Cd.swp s.data.toList (n - 1)] else []) := rfl
                have HT := Lib.hid (swp_bytes s n hn0)
                have hn1 : n - 1 < s.size := by omega
                have hi1 : (n : Int) - 1 = ((n - 1 : Nat) : Int) := by omega
                cases hne : (((s[n - 1]'(by omega)).toNat : Int) != ((s[n]).toNat : Int))
                · rw [hne] at HSO
                  rw [HSO.out] at HSW
                  go_wp2
                  refine wp_region_quiet (C := fun w' => ∃ x : Ahead wr, w' = x.at') (by kernel_rfl) (by kernel_rfl) (Ahead.drawn _) ?_
                  try dsimp only
                  repeat (first | go_big_quiet_step (fail) | quiet_step (fail))
                  refine wpQuiet_nil ?_
                  intro _ hx0
                  obtain ⟨x0, hx0⟩ := hx0
                  subst hx0
                  obtain ⟨w3, hx3⟩ := x0
                  try dsimp only
                  go_wp2
                  go_roundw
                  case rel => exact ⟨n + 1, by omega, by go_num, by rw [HCS.out, HCA.out, HSW.out]; simpa using hown.ext hx3, hxw.trans hx3⟩
                  case measure => simp [intOf]; omega
                · rw [hne] at HSO
                  rw [HSO.out] at HSW
                  go_wp2
                  refine wp_region_quiet (C := fun w' => ∃ x : Ahead wr, w' = x.at') (by kernel_rfl) (by kernel_rfl) (Ahead.drawn _) ?_
                  try dsimp only
                  repeat (first | go_big_quiet_step (fail) | quiet_step (fail))
                  refine wpQuiet_nil ?_
                  intro _ hx0
                  obtain ⟨x0, hx0⟩ := hx0
                  subst hx0
                  obtain ⟨w3, hx3⟩ := x0
                  try dsimp only
                  have hown3 := hown.ext hx3
                  have hxw3 := hxw.trans hx3
                  clear hown hxw hx3
                  go_wp2
                  refine wp_region_quiet (C := fun w' => ∃ x : Ahead w3, w' = x.at') (by kernel_rfl) (by kernel_rfl) (Ahead.drawn _) ?_
                  try dsimp only
                  repeat (first | go_big_quiet_step (fail) | quiet_step (fail))
                  refine wpQuiet_nil ?_
                  intro _ hx0
                  obtain ⟨x0, hx0⟩ := hx0
                  subst hx0
                  obtain ⟨w4, hx4⟩ := x0
                  try dsimp only
                  generalize s.extract 0 (n - 1) ++ s.extract n (n + 1) ++ s.extract (n - 1) n ++ s.extract (n + 1) s.size = tt at *
                  have hown4 := hown3.ext hx4
                  have hxw4 := hxw3.trans hx4
                  clear hown3 hxw3 hx4
                  have hts : tt.size ≤ 9223372036854775807 := by
                    have := size_of_toList HT.out
                    simp only [Cd.swp, List.length_append, List.length_take, List.length_drop, len_data] at this
                    omega
                  have HVF := Lib.hid (fun w => verify_any (k : Int) tt w hts)
                  rw [HT.out] at HVF
                  go_wp2_with fail
                  refine (HVF.out _).mono ?_
                  rintro e w5 ⟨rfl, hx5⟩
                  have hown5 := hown4.ext hx5
                  have hxw5 := hxw4.trans hx5
                  clear hown4 hxw4 hx5
                  cases hv0 : (Cd.verI k (Cd.swp s.data.toList (n - 1)) == 0)
                  · rw [hv0] at HSW
                    go_wp2
                    go_roundw
                    case rel => exact ⟨n + 1, by omega, by go_num, by rw [HCS.out, HCA.out, HSW.out]; simpa using hown5, hxw5⟩
                    case measure => simp [intOf]; omega
                  · rw [hv0] at HSW
                    go_wp2_with (at_builtin; refine wpList_append_str rfl _ _ rfl w.heap.size _ _ rfl (hown5.alloc _) tt _ rfl ?c1 ?c2 ?c3 ?_)
                    case c1 => simp [go_sem]
                    case c2 => rw [List.length_append]; omega
                    case c3 => have := hxw5.size; simp; omega
                    intro v' w6 hown6 hg6
                    have hxw6 := (hxw5.alloc _).grownBy hg6 hown5.low
                    simp only [HT.out] at hown6
                    go_wp2
                    go_roundw
                    case rel => exact ⟨n + 1, by omega, by go_num, by rw [HCS.out, HCA.out, HSW.out]; simpa using hown6, hxw6⟩
                    case measure => simp [intOf]; omega
              · obtain rfl : n = 0 := by omega
                have hg0 : decide ((0 : Int) < ((0 : Nat) : Int)) = false := by simp
                go_wp2
                refine wp_region_quiet (C := fun w' => ∃ x : Ahead wr, w' = x.at') (by kernel_rfl) (by kernel_rfl) (Ahead.drawn _) ?_
                try dsimp only
                repeat (first | go_big_quiet_step (fail) | quiet_step (fail))
                refine wpQuiet_nil ?_
                intro _ hx0
                obtain ⟨x0, hx0⟩ := hx0
                subst hx0
                obtain ⟨w3, hx3⟩ := x0
                try dsimp only
                go_wp2
                go_roundw
                case rel => exact ⟨1, by omega, by go_num, by rw [HCS.out]; simpa [Cd.corAt] using hown.ext hx3, hxw.trans hx3⟩
                case measure => simp [intOf]; omega
        · obtain rfl : n = s.size := by omega
          have hcl := Cd.corTo_len k s.data.toList s.size
          clear hn hlt hx
          have HS := Lib.hid (sort_own hown (by omega))
          go_wp2_with fail
          refine HS.out.mono ?_
          rintro e w3 ⟨rfl, ho3, hg3⟩
          go_wp2
          go_ret2
          exact ⟨_, rfl, ho3, hxw.grownBy hg3 hown.low⟩

theorem corr_any (k : Int) (s : ByteArray) (w : World) (hs : s.size ≤ 9223372036854775807) :
    Calls Tryz.prog 106 #[.int .i64 k, .string s] w (RetStrs w (Cd.cor k s.data.toList).1 (Cd.cor k s.data.toList).2) := by
  by_cases h : k < 1 ∨ 8 < k
  · rw [Cd.cor, if_pos h]; exact corr_bad k s w h
  · obtain ⟨n, rfl⟩ := Int.eq_ofNat_of_zero_le (show 0 ≤ k by omega)
    obtain ⟨T, hT⟩ := sys_of n (by omega) (by omega)
    exact corr_sys n T (by omega) (by omega) hT s w hs
end Go.Proofs.YtkpfehfcgpapiaaGreatDoor
