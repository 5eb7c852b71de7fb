/-
  The law CheckdigitRestores, walked.
  Condition: the string is within the reach.
-/
import Derived.Test.YtciogogpoiijcaaCdL4
import Derived.Test.YtciogogpoiijcaaCdM5
namespace Go.Proofs.Ytciogogpoiijcaa
open Go.RowKit Go.Sort

theorem hasB_sort (l : List (List UInt8)) (t : List UInt8) : hasB (l.mergeSort Cd.leS) t = true ↔ t ∈ l := by
  unfold hasB; rw [List.contains_iff_mem, List.mem_mergeSort]

/-- What the corrections of a changed string are. -/
theorem cor_facts (n : Nat) (t r : List UInt8) (h1 : 1 ≤ n) (h8 : n ≤ 8) (hv : Cd.ver n t = 0) (hlen : r.length = t.length) (hl : t.length ≤ 64) (hin : r ≠ t → t ∈ Cd.corTo n r t.length) :
    ∃ ss, Cd.cor n r = (ss, 0) ∧ hasB ss t = decide (r ≠ t) ∧ ss.length ≤ 100000 ∧ (∀ j, j < ss.length → Cd.verI n (ss.getD j []) = 0 ∧ (ss.getD j []).length ≤ 64) ∧ (∀ j, j + 1 < ss.length → ss.getD j [] < ss.getD (j + 1) []) := by
  have hf : Cd.fits n r.length = true := by rw [hlen]; exact ((Cd.ver_zero_iff n t).1 hv).2.1
  refine ⟨(Cd.corTo n r r.length).mergeSort Cd.leS, ?_, ?_, ?_, ?_, ?_⟩
  · unfold Cd.cor
    rw [if_neg (by omega), if_neg (by omega), Int.toNat_natCast, if_neg (by rw [hf]; exact Bool.noConfusion)]
  · rw [Bool.eq_iff_iff, hasB_sort, decide_eq_true_eq]
    constructor
    · intro h e
      exact (Cd.mem_ok n r r.length t (Nat.le_refl _) h).1 e.symm
    · intro h; rw [hlen]; exact hin h
  · rw [List.length_mergeSort]
    have := Cd.corTo_len n r r.length
    omega
  · intro j hj
    have hm : ((Cd.corTo n r r.length).mergeSort Cd.leS).getD j [] ∈ Cd.corTo n r r.length := by
      rw [← List.mem_mergeSort (le := Cd.leS), List.getD_eq_getElem?_getD, List.getElem?_eq_getElem hj]
      exact List.getElem_mem _
    obtain ⟨_, h2, h3⟩ := Cd.mem_ok n r r.length _ (Nat.le_refl _) hm
    exact ⟨h2, by omega⟩
  · intro j hj
    exact Cd.cor_strict n r j hj

set_option maxRecDepth 100000 in
set_option maxHeartbeats 4000000 in
theorem law_restores (k : Int) (s : ByteArray) (at' : Int) (cb : UInt8) (sw : Bool) (w : World) (hs : s.size ≤ 9223372036854775807) (ha0 : 0 ≤ at') (ha1 : at' ≤ 65535) :
    Calls Try.prog 10 #[.int .i64 k, .string s, .int .u16 at', .int .u8 (cb.toNat : Int), .bool sw] w fun e w' => e = .returned (.bool true) ∧ Ext w w' := by
  by_cases hl : 38 < s.size
  · go_enter Try.func10, Try.ntmps10
    go_wp2_with fail
    refine (examples_any _).mono ?_
    rintro e w1 ⟨rfl, hx1⟩
    go_wp2
    go_ret
    exact ⟨rfl, hx1⟩
  · have HA := Lib.hid (fun w => append_any k s w hs)
    by_cases h0 : (Cd.app k s.data.toList).2 = 0
    · obtain ⟨n, hk, hn1, hn8, hne, hd, hf, hll, happ⟩ := Cd.app_ok k s.data.toList h0
      subst hk
      rw [h0, happ] at HA
      have hv0 := Cd.ver_app n s.data.toList hn1 hn8 hd hf hll
      obtain ⟨t, ht⟩ : ∃ t : ByteArray, t = ⟨(s.data.toList ++ Cd.cmp n s.data.toList).toArray⟩ := ⟨_, rfl⟩
      rw [← ht] at HA
      have htl : t.data.toList = s.data.toList ++ Cd.cmp n s.data.toList := by rw [ht]
      have hts : t.size = s.size + Cd.size n := by rw [size_of_toList htl, List.length_append, Cd.cmp_size n _ hn1 hn8, len_data]
      have hz := Cd.size_bd n
      have hpos : 0 < s.size := by rw [← len_data]; exact List.length_pos_iff.2 hne
      have hts1 : 2 ≤ t.size := by omega
      have hts2 : t.size ≤ 40 := by omega
      rw [← htl] at hv0
      have HT0 := Lib.hid hv0
      clear ht htl hts happ hv0 h0 hne hd hf hll hpos hz
      have hiN : at' % ((t.size : Int) - 1) = ((at'.toNat % (t.size - 1) : Nat) : Int) := by
        obtain ⟨a, rfl⟩ := Int.eq_ofNat_of_zero_le ha0
        rw [Int.toNat_natCast, Int.natCast_emod]
        congr 1; omega
      have hilt : at'.toNat % (t.size - 1) < t.size - 1 := Nat.mod_lt _ (by omega)
      obtain ⟨i, hi⟩ : ∃ i, i = at'.toNat % (t.size - 1) := ⟨_, rfl⟩
      rw [← hi] at hiN hilt
      clear hi
      have hi1 : i + 1 < t.size := by omega
      have HE := Lib.hid (fun w => exchanged_any t i w (by omega) hi1)
      cases sw
      · go_enter Try.func10, Try.ntmps10
        go_wp2_with fail
        refine (HA.out _).mono ?_
        rintro e w1 ⟨rfl, hx1⟩
        go_wp2
        rw [hiN]
        clear hiN hilt
        have hcv := conv_one cb w1
        have hwr := wrap_of ((i : Int) + 1) (by omega) (by omega)
        have hn0 : (0 : Int) ≤ (i : Int) + 1 := by omega
        have hn2 : (i : Int) ≤ (t.size : Int) := by omega
        have hn4 : (i : Int) + 1 ≤ (t.size : Int) := by omega
        have hn3 : ((i : Int) + 1).toNat = i + 1 := by omega
        go_region
        have hx2 := (hx1.alloc (.cells #[.int .u8 (cb.toNat : Int)] 5)).drew
        clear hcv hwr hn0 hn2 hn3 hn4 hx1
        generalize (w1.alloc (.cells #[.int .u8 (cb.toNat : Int)] 5)).drew = w2 at *
        have hul := sub1_cut t i cb
        generalize t.extract 0 i ++ (⟨#[cb]⟩ : ByteArray) ++ t.extract (i + 1) t.size = u at *
        have HR := Lib.hid (cor_facts n t.data.toList u.data.toList hn1 hn8 HT0.out (by rw [hul, Cd.len_sub1 _ _ _ (by rw [len_data]; omega)]) (by rw [len_data]; omega) (fun h => by rw [hul] at h ⊢; exact Cd.restores_sub n t.data.toList i cb hn1 hn8 (by rw [len_data]; omega) HT0.out h))
        have hus : u.size = t.size := by rw [size_of_toList hul, Cd.len_sub1 _ _ _ (by rw [len_data]; omega), len_data]
        clear hul HE
        obtain ⟨ss, hcor, hhas, hssl, hall, hstr⟩ := HR.out
        have HC := Lib.hid (fun w => corr_any (n : Int) u w (by omega))
        rw [hcor] at HC
        dsimp only at HC
        have HALL := Lib.hid hall
        have HSTR := Lib.hid hstr
        have hqn : (!u.toList == t.toList) = decide (u.data.toList ≠ t.data.toList) := by
          rw [Lib.toList_data, Lib.toList_data, Bool.eq_iff_iff]; simp
        rw [← hqn] at hhas
        obtain ⟨q, hq⟩ : ∃ q, (!u.toList == t.toList) = q := ⟨_, rfl⟩
        rw [hq] at hhas
        have hqq : (q != q) = false := bne_self_eq_false q
        have HHAS := Lib.hid hhas
        clear hcor hall hstr hhas hqn HR
        go_wp2_with fail
        refine (HC.out _).mono ?_
        rintro e w3 ⟨v, rfl, hown, hx3⟩
        have hX3 := hx2.trans hx3
        clear hx2 hx3
        have hstrs := hown.strs
        have HH := Lib.hid (has_any v ss t w3 hstrs (by omega))
        rw [HHAS.out] at HH
        rcases hstrs with ⟨rfl, a, c, rfl⟩ | ⟨b, off, cap, rfl, hb, hc⟩
        · go_wp2_with fail
          refine HH.out.mono ?_
          rintro e w4 ⟨rfl, rfl⟩
          go_wp2
          go_loop [18] (fun i => i = .int .i64 0) (fun _ => 0)
          case atStart => rfl
          case round =>
            subst hrel
            go_wp2_with fail
            refine (examples_any _).mono ?_
            rintro e w5 ⟨rfl, hx5⟩
            go_wp2
            go_ret
            exact ⟨rfl, hX3.trans hx5⟩
        · have HCC := Lib.hid hc
          have HBB := Lib.hid hb
          clear hc hb hown
          go_wp2_with fail
          refine HH.out.mono ?_
          rintro e w4 ⟨rfl, rfl⟩
          go_wp2
          go_loopw [18] (fun i wr => ∃ j : Nat, j ≤ ss.length ∧ i = .int .i64 (j : Int) ∧ Ext w3 wr) (fun i _ => ss.length - (intOf i).toNat)
          case atStart => exact ⟨0, Nat.zero_le _, rfl, Ext.refl _⟩
          case round =>
            obtain ⟨j, hj, rfl, hxr⟩ := hrel
            by_cases hlt : j < ss.length
            · have hcj : ∀ x : Ahead wr, x.at'.cell? ⟨b, off + j, none⟩ = some (.string ⟨(ss.getD j []).toArray⟩) := fun x => by
                rw [(hxr.trans x.ext).cell (p := ⟨b, off + j, none⟩) HBB.out]; exact HCC.out j hlt
              have HVF := Lib.hid (fun w => verify_any (n : Int) ⟨(ss.getD j []).toArray⟩ w (by have := (HALL.out j hlt).2; rw [show (⟨(ss.getD j []).toArray⟩ : ByteArray).size = (ss.getD j []).length from by simp [ByteArray.size]]; omega))
              rw [show (⟨(ss.getD j []).toArray⟩ : ByteArray).data.toList = ss.getD j [] from rfl, (HALL.out j hlt).1] at HVF
              have hji : (j : Int) < (ss.length : Int) := by omega
              by_cases h0 : 0 < j
              · have hg0 : decide ((0 : Int) < (j : Int)) = true := by simpa using h0
                have hj1 : (j : Int) - 1 = ((j - 1 : Nat) : Int) := by omega
                have hj2 : ((j - 1 : Nat) : Int) < (ss.length : Int) := by omega
                have hj3 : j - 1 < ss.length := by omega
                have hcp : ∀ x : Ahead wr, x.at'.cell? ⟨b, off + (j - 1), none⟩ = some (.string ⟨(ss.getD (j - 1) []).toArray⟩) := fun x => by
                  rw [(hxr.trans x.ext).cell (p := ⟨b, off + (j - 1), none⟩) HBB.out]; exact HCC.out (j - 1) (by omega)
                have hless : Op.bytesLess (ss.getD (j - 1) []) (ss.getD j []) = true := by
                  rw [bytesLess_eq, decide_eq_true_eq]
                  have := HSTR.out (j - 1) (by omega)
                  rwa [show j - 1 + 1 = j by omega] at this
                generalize ss.getD (j - 1) [] = p at *
                generalize ss.getD j [] = y at *
                go_wp2
                refine wp_region_quiet (C := fun w' => ∃ x : Ahead wr, w' = x.at') (by kernel_rfl) (by kernel_rfl) (Ahead.drawn _) ?_
                try dsimp only
                repeat (first | go_big_quiet_step ((go_at_call 13; exact ahead_of (HVF.out _))) | quiet_step ((go_at_call 13; exact ahead_of (HVF.out _))))
                refine wpQuiet_nil ?_
                intro _ hx0
                obtain ⟨x0, hx0⟩ := hx0
                subst hx0
                obtain ⟨w8, hx8⟩ := x0
                try dsimp only
                go_wp2
                go_roundw
                case rel => exact ⟨j + 1, by omega, by go_num, hxr.trans hx8⟩
                case measure => simp [intOf]; omega
              · obtain rfl : j = 0 := by omega
                have hg0 : decide ((0 : Int) < ((0 : Nat) : Int)) = false := by simp
                generalize ss.getD 0 [] = y at *
                simp only [Nat.add_zero] at hcj
                go_wp2
                refine wp_region_quiet (C := fun w' => ∃ x : Ahead wr, w' = x.at') (by kernel_rfl) (by kernel_rfl) (Ahead.drawn _) ?_
                try dsimp only
                repeat (first | go_big_quiet_step ((go_at_call 13; exact ahead_of (HVF.out _))) | quiet_step ((go_at_call 13; exact ahead_of (HVF.out _))))
                refine wpQuiet_nil ?_
                intro _ hx0
                obtain ⟨x0, hx0⟩ := hx0
                subst hx0
                obtain ⟨w8, hx8⟩ := x0
                try dsimp only
                go_wp2
                go_roundw
                case rel => exact ⟨1, by omega, by go_num, hxr.trans hx8⟩
                case measure => simp [intOf]; omega
            · obtain rfl : j = ss.length := by omega
              clear hj hlt
              go_wp2_with fail
              refine (examples_any _).mono ?_
              rintro e w5 ⟨rfl, hx5⟩
              go_wp2
              go_ret
              exact ⟨rfl, (hX3.trans hxr).trans hx5⟩
      · go_enter Try.func10, Try.ntmps10
        go_wp2_with fail
        refine (HA.out _).mono ?_
        rintro e w1 ⟨rfl, hx1⟩
        go_wp2
        rw [hiN]
        clear hiN hilt
        have hcv := conv_one cb w1
        have hwr := wrap_of ((i : Int) + 1) (by omega) (by omega)
        have hn0 : (0 : Int) ≤ (i : Int) + 1 := by omega
        have hn2 : (i : Int) ≤ (t.size : Int) := by omega
        have hn4 : (i : Int) + 1 ≤ (t.size : Int) := by omega
        have hn3 : ((i : Int) + 1).toNat = i + 1 := by omega
        go_region
        have hx2 := (hx1.alloc (.cells #[.int .u8 (cb.toNat : Int)] 5)).drew
        clear hcv hwr hn0 hn2 hn3 hn4 hx1
        generalize (w1.alloc (.cells #[.int .u8 (cb.toNat : Int)] 5)).drew = w2 at *
        have hul := sub1_cut t i cb
        generalize t.extract 0 i ++ (⟨#[cb]⟩ : ByteArray) ++ t.extract (i + 1) t.size = u at *
        clear hul
        go_wp2_with fail
        refine (HE.out _).mono ?_
        rintro e w2' ⟨rfl, hx2'⟩
        replace hx2 := hx2.trans hx2'
        clear hx2'
        have hul : (swpB t i).data.toList = Cd.swp t.data.toList i := rfl
        have HR := Lib.hid (cor_facts n t.data.toList (swpB t i).data.toList hn1 hn8 HT0.out (by rw [hul, Cd.len_swp _ _ (by rw [len_data]; exact hi1)]) (by rw [len_data]; omega) (fun h => by rw [hul] at h ⊢; exact Cd.restores_swp n t.data.toList i hn1 hn8 (by rw [len_data]; exact hi1) HT0.out h))
        have hus : (swpB t i).size = t.size := by rw [size_of_toList hul, Cd.len_swp _ _ (by rw [len_data]; exact hi1), len_data]
        clear hul
        generalize swpB t i = u at *
        obtain ⟨ss, hcor, hhas, hssl, hall, hstr⟩ := HR.out
        have HC := Lib.hid (fun w => corr_any (n : Int) u w (by omega))
        rw [hcor] at HC
        dsimp only at HC
        have HALL := Lib.hid hall
        have HSTR := Lib.hid hstr
        have hqn : (!u.toList == t.toList) = decide (u.data.toList ≠ t.data.toList) := by
          rw [Lib.toList_data, Lib.toList_data, Bool.eq_iff_iff]; simp
        rw [← hqn] at hhas
        obtain ⟨q, hq⟩ : ∃ q, (!u.toList == t.toList) = q := ⟨_, rfl⟩
        rw [hq] at hhas
        have hqq : (q != q) = false := bne_self_eq_false q
        have HHAS := Lib.hid hhas
        clear hcor hall hstr hhas hqn HR
        go_wp2_with fail
        refine (HC.out _).mono ?_
        rintro e w3 ⟨v, rfl, hown, hx3⟩
        have hX3 := hx2.trans hx3
        clear hx2 hx3
        have hstrs := hown.strs
        have HH := Lib.hid (has_any v ss t w3 hstrs (by omega))
        rw [HHAS.out] at HH
        rcases hstrs with ⟨rfl, a, c, rfl⟩ | ⟨b, off, cap, rfl, hb, hc⟩
        · go_wp2_with fail
          refine HH.out.mono ?_
          rintro e w4 ⟨rfl, rfl⟩
          go_wp2
          go_loop [18] (fun i => i = .int .i64 0) (fun _ => 0)
          case atStart => rfl
          case round =>
            subst hrel
            go_wp2_with fail
            refine (examples_any _).mono ?_
            rintro e w5 ⟨rfl, hx5⟩
            go_wp2
            go_ret
            exact ⟨rfl, hX3.trans hx5⟩
        · have HCC := Lib.hid hc
          have HBB := Lib.hid hb
          clear hc hb hown
          go_wp2_with fail
          refine HH.out.mono ?_
          rintro e w4 ⟨rfl, rfl⟩
          go_wp2
          go_loopw [18] (fun i wr => ∃ j : Nat, j ≤ ss.length ∧ i = .int .i64 (j : Int) ∧ Ext w3 wr) (fun i _ => ss.length - (intOf i).toNat)
          case atStart => exact ⟨0, Nat.zero_le _, rfl, Ext.refl _⟩
          case round =>
            obtain ⟨j, hj, rfl, hxr⟩ := hrel
            by_cases hlt : j < ss.length
            · have hcj : ∀ x : Ahead wr, x.at'.cell? ⟨b, off + j, none⟩ = some (.string ⟨(ss.getD j []).toArray⟩) := fun x => by
                rw [(hxr.trans x.ext).cell (p := ⟨b, off + j, none⟩) HBB.out]; exact HCC.out j hlt
              have HVF := Lib.hid (fun w => verify_any (n : Int) ⟨(ss.getD j []).toArray⟩ w (by have := (HALL.out j hlt).2; rw [show (⟨(ss.getD j []).toArray⟩ : ByteArray).size = (ss.getD j []).length from by simp [ByteArray.size]]; omega))
              rw [show (⟨(ss.getD j []).toArray⟩ : ByteArray).data.toList = ss.getD j [] from rfl, (HALL.out j hlt).1] at HVF
              have hji : (j : Int) < (ss.length : Int) := by omega
              by_cases h0 : 0 < j
              · have hg0 : decide ((0 : Int) < (j : Int)) = true := by simpa using h0
                have hj1 : (j : Int) - 1 = ((j - 1 : Nat) : Int) := by omega
                have hj2 : ((j - 1 : Nat) : Int) < (ss.length : Int) := by omega
                have hj3 : j - 1 < ss.length := by omega
                have hcp : ∀ x : Ahead wr, x.at'.cell? ⟨b, off + (j - 1), none⟩ = some (.string ⟨(ss.getD (j - 1) []).toArray⟩) := fun x => by
                  rw [(hxr.trans x.ext).cell (p := ⟨b, off + (j - 1), none⟩) HBB.out]; exact HCC.out (j - 1) (by omega)
                have hless : Op.bytesLess (ss.getD (j - 1) []) (ss.getD j []) = true := by
                  rw [bytesLess_eq, decide_eq_true_eq]
                  have := HSTR.out (j - 1) (by omega)
                  rwa [show j - 1 + 1 = j by omega] at this
                generalize ss.getD (j - 1) [] = p at *
                generalize ss.getD j [] = y at *
                go_wp2
                refine wp_region_quiet (C := fun w' => ∃ x : Ahead wr, w' = x.at') (by kernel_rfl) (by kernel_rfl) (Ahead.drawn _) ?_
                try dsimp only
                repeat (first | go_big_quiet_step ((go_at_call 13; exact ahead_of (HVF.out _))) | quiet_step ((go_at_call 13; exact ahead_of (HVF.out _))))
                refine wpQuiet_nil ?_
                intro _ hx0
                obtain ⟨x0, hx0⟩ := hx0
                subst hx0
                obtain ⟨w8, hx8⟩ := x0
                try dsimp only
                go_wp2
                go_roundw
                case rel => exact ⟨j + 1, by omega, by go_num, hxr.trans hx8⟩
                case measure => simp [intOf]; omega
              · obtain rfl : j = 0 := by omega
                have hg0 : decide ((0 : Int) < ((0 : Nat) : Int)) = false := by simp
                generalize ss.getD 0 [] = y at *
                simp only [Nat.add_zero] at hcj
                go_wp2
                refine wp_region_quiet (C := fun w' => ∃ x : Ahead wr, w' = x.at') (by kernel_rfl) (by kernel_rfl) (Ahead.drawn _) ?_
                try dsimp only
                repeat (first | go_big_quiet_step ((go_at_call 13; exact ahead_of (HVF.out _))) | quiet_step ((go_at_call 13; exact ahead_of (HVF.out _))))
                refine wpQuiet_nil ?_
                intro _ hx0
                obtain ⟨x0, hx0⟩ := hx0
                subst hx0
                obtain ⟨w8, hx8⟩ := x0
                try dsimp only
                go_wp2
                go_roundw
                case rel => exact ⟨1, by omega, by go_num, hxr.trans hx8⟩
                case measure => simp [intOf]; omega
            · obtain rfl : j = ss.length := by omega
              clear hj hlt
              go_wp2_with fail
              refine (examples_any _).mono ?_
              rintro e w5 ⟨rfl, hx5⟩
              go_wp2
              go_ret
              exact ⟨rfl, (hX3.trans hxr).trans hx5⟩
    · have hb : ((Cd.app k s.data.toList).2 != 0) = true := by rw [bne_iff_ne]; exact h0
      generalize (Cd.app k s.data.toList).2 = x at *
      generalize (Cd.app k s.data.toList).1 = y at *
      clear h0
      go_enter Try.func10, Try.ntmps10
      go_wp2_with fail
      refine (HA.out _).mono ?_
      rintro e w1 ⟨rfl, hx1⟩
      go_wp2_with fail
      refine (examples_any _).mono ?_
      rintro e w2 ⟨rfl, hx2⟩
      go_wp2
      go_ret
      exact ⟨rfl, hx1.trans hx2⟩

theorem law_restores' (k : Int) (s : ByteArray) (at' c : Int) (sw : Bool) (w : World) (hs : s.size ≤ 9223372036854775807) (ha : 0 ≤ at' ∧ at' ≤ 65535) (h : 0 ≤ c ∧ c ≤ 255) :
    Calls Try.prog 10 #[.int .i64 k, .string s, .int .u16 at', .int .u8 c, .bool sw] w fun e w' => e = .returned (.bool true) ∧ Ext w w' := by
  obtain ⟨b, rfl⟩ := byte_of c h.1 h.2
  exact law_restores k s at' b sw w hs ha.1 ha.2
end Go.Proofs.Ytciogogpoiijcaa
