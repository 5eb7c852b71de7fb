/-
  Chapter 51: dates in values: the reference.
  No condition.
-/
import Derived.Test.YtkpfehfcgpapiaaGreatDoorFmXE
namespace Go.Proofs.YtkpfehfcgpapiaaGreatDoor
set_option linter.unusedVariables false
open Go.RowKit

theorem Fm.nat_cut (p : ByteArray) (t : Fm.S) (h : p.data.toList = t) (hl : t.length ≤ 10) (hd : t.all Fm.dg = true) : p.data.toList.foldl Fm.sat 0 = Fm.natOf t := by
  rw [h, Fm.sat_nat]
  have h1 := Fm.natOf_lt t hd
  have h2 : 10 ^ t.length ≤ 10 ^ 10 := Nat.pow_le_pow_right (by decide) hl
  omega
theorem Fm.dateB_parts {s : Fm.S} (h : Fm.dateB s = true) : (s.take 4).all Fm.dg = true ∧ ((s.drop 5).take 2).all Fm.dg = true ∧ (s.drop 8).all Fm.dg = true := by
  unfold Fm.dateB at h
  rw [List.all_append, List.all_append] at h
  simp only [Bool.and_eq_true] at h
  exact ⟨h.2.1.1, h.2.1.2, h.2.2⟩

set_option maxRecDepth 100000 in
set_option maxHeartbeats 4000000 in
theorem xdate_any (nm : ByteArray) (op mn mx ck : Int) (a : Option Addr) (n c : Nat) (opt : Bool) (l : List Fm.S) (s : ByteArray) (hs : s.size ≤ 9223372036854775807) (w : World) :
    Calls Tryz.prog 59 #[.agg #[.string nm, .int .i64 op, .int .i64 mn, .int .i64 mx, .int .i64 ck, .slice a n c, .bool opt], .string s] w fun e w' => e = .returned (.int .i64 (Fm.dateV ⟨nm.data.toList, op, mn, mx, ck, l, opt⟩ s.data.toList)) ∧ Ext w w' := by
  have HR := Lib.hid (Fm.dateV.eq_1 ⟨nm.data.toList, op, mn, mx, ck, l, opt⟩ s.data.toList)
  dsimp only at HR
  generalize Fm.dateV ⟨nm.data.toList, op, mn, mx, ck, l, opt⟩ s.data.toList = res at *
  obtain ⟨V, hV⟩ : ∃ V, V = w.alloc (.cells #[.string nm, .int .i64 op, .int .i64 mn, .int .i64 mx, .int .i64 ck, .slice a n c, .bool opt] 39) := ⟨_, rfl⟩
  have hxV : Ext w V := by rw [hV]; exact (Ext.refl w).alloc _
  have HRV : Hid (V.heap[w.heap.size]? = some (.cells #[.string nm, .int .i64 op, .int .i64 mn, .int .i64 mx, .int .i64 ck, .slice a n c, .bool opt] 39 (0, 0))) := Lib.hid (by rw [hV]; exact heap_alloc_new w _)
  have HVE := Lib.hid hV
  have HXV := Lib.hid hxV
  clear hV hxV
  by_cases h10 : s.size = 10
  rotate_left
  · have HF : Hid (res = 9) := Lib.hid (by
      rw [HR.out, show Fm.dateB s.data.toList = false from by unfold Fm.dateB; rw [len_data, decide_eq_false h10]; rfl]
      rfl)
    have d10 : ((s.size : Int) != 10) = true := by rw [bne_iff_ne]; omega
    clear h10 HR
    go_enter Tryz.func59, Tryz.ntmps59
    go_wp2_with fail
    go_ret
    exact ⟨ret_int HF.out.symm, (by repeat (first | exact Ext.refl _ | assumption | refine Ext.alloc ?_ _ | refine Ext.drew ?_ | refine Ext.trans ?_ (by assumption)))⟩
  have d10 : ((s.size : Int) != 10) = false := by rw [h10]; rfl
  have HAT := Lib.hid (dateB_at s.data.toList (by rw [len_data]; exact h10))
  have HPT : Hid (Fm.dateB s.data.toList = true → (s.data.toList.take 4).all Fm.dg = true ∧ ((s.data.toList.drop 5).take 2).all Fm.dg = true ∧ (s.data.toList.drop 8).all Fm.dg = true) := Lib.hid Fm.dateB_parts
  generalize Fm.dateB s.data.toList = db at *
  have hsz : s.size ≤ 10 := by omega
  have HSZ := Lib.hid h10
  clear h10
  go_enter Tryz.func59, Tryz.ntmps59
  go_wp2_with fail
  rw [← HVE.out]
  go_loopw [5] (fun t wr => ∃ k : Nat, k ≤ 10 ∧ t = .int .i64 (k : Int) ∧ Hid (∀ (i : Nat) (h : i < s.data.toList.length), i < k → if i = 4 ∨ i = 7 then s.data.toList[i] = 45 else Fm.dg s.data.toList[i] = true) ∧ Hid (Ext V wr)) (fun t _ => 10 - (intOf t).toNat)
  case atStart => exact ⟨0, Nat.zero_le _, rfl, Lib.hid (fun i h hi => by omega), Lib.hid (Ext.refl _)⟩
  case round =>
    obtain ⟨k, hk, rfl, HV, HX⟩ := hrel
    have hxw : Ext w wr := HXV.out.trans HX.out
    by_cases hlt : k < 10
    · have hltI : (k : Int) < 10 := by omega
      have hls : k < s.size := by have := HSZ.out; omega
      have hlsI : (k : Int) < (s.size : Int) := by omega
      have HD := Lib.hid (fun w' => xdigit_any s[k] w')
      obtain ⟨x, hx⟩ : ∃ x : Nat, s[k].toNat = x := ⟨_, rfl⟩
      rw [hx] at HD
      have HEL : Hid (∀ h : k < s.data.toList.length, s.data.toList[k] = s[k]) := Lib.hid (fun h => rfl)
      have HXK := Lib.hid hx
      by_cases h4 : k = 4
      · have z4 : ((k : Int) == 4) = true := beq_iff_eq.2 (by omega)
        have z7 : ((k : Int) == 7) = false := beq_eq_false_iff_ne.2 (by omega)
        have n4 : ((k : Int) != 4) = false := by rw [bne_eq_false_iff_eq]; omega
        have n7 : ((k : Int) != 7) = true := by rw [bne_iff_ne]; omega
        by_cases hx45 : x = 45
        · have zx : ((x : Int) == 45) = true := beq_iff_eq.2 (by omega)
          have HV2 : Hid (∀ (i : Nat) (h : i < s.data.toList.length), i < k + 1 → if i = 4 ∨ i = 7 then s.data.toList[i] = 45 else Fm.dg s.data.toList[i] = true) := Lib.hid (fun i h hi => by
            by_cases hik : i = k
            · subst hik
              rw [if_pos (.inl h4), HEL.out]; exact UInt8.toNat_inj.1 (by rw [HXK.out, hx45]; rfl)
            · exact HV.out i h (by omega))
          clear hx45 h4 hk
          go_wp2_with fail
          go_roundw
          case rel => exact ⟨k + 1, by omega, by go_num, HV2, HX⟩
          case measure => (simp [intOf]; try omega)
        · have zx : ((x : Int) == 45) = false := beq_eq_false_iff_ne.2 (by omega)
          have HF : Hid (res = 9) := Lib.hid (by
            have hdb : db = false := by
              rw [← Bool.not_eq_true]
              intro hc
              have h1 := HAT.out.1 hc k (by rw [len_data]; exact hls)
              rw [HEL.out] at h1
              rw [if_pos (.inl h4)] at h1; exact hx45 (by rw [← HXK.out, h1]; rfl)
            rw [HR.out, hdb]
            rfl)
          clear hx45 h4 hk
          go_wp2_with fail
          go_ret
          exact ⟨ret_int HF.out.symm, hxw⟩
      have z4 : ((k : Int) == 4) = false := beq_eq_false_iff_ne.2 (by omega)
      have n4 : ((k : Int) != 4) = true := by rw [bne_iff_ne]; omega
      by_cases h7 : k = 7
      · have z7 : ((k : Int) == 7) = true := beq_iff_eq.2 (by omega)
        have n7 : ((k : Int) != 7) = false := by rw [bne_eq_false_iff_eq]; omega
        by_cases hx45 : x = 45
        · have zx : ((x : Int) == 45) = true := beq_iff_eq.2 (by omega)
          have HV2 : Hid (∀ (i : Nat) (h : i < s.data.toList.length), i < k + 1 → if i = 4 ∨ i = 7 then s.data.toList[i] = 45 else Fm.dg s.data.toList[i] = true) := Lib.hid (fun i h hi => by
            by_cases hik : i = k
            · subst hik
              rw [if_pos (.inr h7), HEL.out]; exact UInt8.toNat_inj.1 (by rw [HXK.out, hx45]; rfl)
            · exact HV.out i h (by omega))
          clear hx45 h7 hk
          go_wp2_with fail
          go_roundw
          case rel => exact ⟨k + 1, by omega, by go_num, HV2, HX⟩
          case measure => (simp [intOf]; try omega)
        · have zx : ((x : Int) == 45) = false := beq_eq_false_iff_ne.2 (by omega)
          have HF : Hid (res = 9) := Lib.hid (by
            have hdb : db = false := by
              rw [← Bool.not_eq_true]
              intro hc
              have h1 := HAT.out.1 hc k (by rw [len_data]; exact hls)
              rw [HEL.out] at h1
              rw [if_pos (.inr h7)] at h1; exact hx45 (by rw [← HXK.out, h1]; rfl)
            rw [HR.out, hdb]
            rfl)
          clear hx45 h7 hk
          go_wp2_with fail
          go_ret
          exact ⟨ret_int HF.out.symm, hxw⟩
      have z7 : ((k : Int) == 7) = false := beq_eq_false_iff_ne.2 (by omega)
      have n7 : ((k : Int) != 7) = true := by rw [bne_iff_ne]; omega
      by_cases hx45 : x = 45
      · have zx : ((x : Int) == 45) = true := beq_iff_eq.2 (by omega)
        have HF : Hid (res = 9) := Lib.hid (by
          have hdb : db = false := by
            rw [← Bool.not_eq_true]
            intro hc
            have h1 := HAT.out.1 hc k (by rw [len_data]; exact hls)
            rw [HEL.out] at h1
            rw [if_neg (by omega)] at h1; have h2 : s[k] = 45 := UInt8.toNat_inj.1 (by rw [HXK.out, hx45]; rfl); rw [h2] at h1; cases h1
          rw [HR.out, hdb]
          rfl)
        clear hx45 h4 h7 hk
        go_wp2_with fail
        go_ret
        exact ⟨ret_int HF.out.symm, hxw⟩
      have zx : ((x : Int) == 45) = false := beq_eq_false_iff_ne.2 (by omega)
      cases hd : Fm.dg s[k] with
      | true =>
        have HV2 : Hid (∀ (i : Nat) (h : i < s.data.toList.length), i < k + 1 → if i = 4 ∨ i = 7 then s.data.toList[i] = 45 else Fm.dg s.data.toList[i] = true) := Lib.hid (fun i h hi => by
          by_cases hik : i = k
          · subst hik
            rw [if_neg (by omega), HEL.out]; exact hd
          · exact HV.out i h (by omega))
        rw [hd] at HD
        clear hd hx45 h4 h7 hk
        go_wp2_with fail
        refine Calls.mono (HD.out _) ?_
        rintro e w1 ⟨rfl, rfl⟩
        go_wp2_with fail
        go_roundw
        case rel => exact ⟨k + 1, by omega, by go_num, HV2, HX⟩
        case measure => (simp [intOf]; try omega)
      | false =>
        have HF : Hid (res = 9) := Lib.hid (by
          have hdb : db = false := by
            rw [← Bool.not_eq_true]
            intro hc
            have h1 := HAT.out.1 hc k (by rw [len_data]; exact hls)
            rw [HEL.out] at h1
            rw [if_neg (by omega), hd] at h1; cases h1
          rw [HR.out, hdb]
          rfl)
        rw [hd] at HD
        clear hd hx45 h4 h7 hk
        go_wp2_with fail
        refine Calls.mono (HD.out _) ?_
        rintro e w1 ⟨rfl, rfl⟩
        go_wp2_with fail
        go_ret
        exact ⟨ret_int HF.out.symm, hxw⟩
    · obtain rfl : k = 10 := by omega
      have hdb : db = true := HAT.out.2 (fun i h => HV.out i h (by rw [len_data] at h; have := HSZ.out; omega))
      obtain ⟨p1, p2, p3⟩ := HPT.out hdb
      rw [hdb, if_pos rfl] at HR
      have c1 := cut_front s 4
      have c2 := cut_mid s 5 7
      have c3 := cut_back s 8
      have hz := HSZ.out
      have A1 := Lib.hid (fun w => xinteger_pos (s.extract 0 4) (by simp only [ByteArray.size_extract]; omega) (by simp only [ByteArray.size_extract]; omega) (by rw [c1]; exact p1) w)
      have A2 := Lib.hid (fun w => xinteger_pos (s.extract 5 7) (by simp only [ByteArray.size_extract]; omega) (by simp only [ByteArray.size_extract]; omega) (by rw [c2]; exact p2) w)
      have A3 := Lib.hid (fun w => xinteger_pos (s.extract 8 s.size) (by simp only [ByteArray.size_extract]; omega) (by simp only [ByteArray.size_extract]; omega) (by rw [c3]; exact p3) w)
      rw [Fm.nat_cut _ _ c1 (by simp; omega) p1] at A1
      rw [Fm.nat_cut _ _ c2 (by simp; omega) p2, show 7 - 5 = 2 from rfl] at A2
      rw [Fm.nat_cut _ _ c3 (by simp; rw [← ByteArray.size_data] at hz; simp at hz ⊢; omega) p3] at A3
      have b8 : (8 : Int) ≤ (s.size : Int) := by omega
      have b8n : 8 ≤ s.size := by omega
      have b7n : 7 ≤ s.size := by omega
      have b4n : 4 ≤ s.size := by omega
      have b7 : (7 : Int) ≤ (s.size : Int) := by omega
      have b4 : (4 : Int) ≤ (s.size : Int) := by omega
      clear hdb p1 p2 p3 c1 c2 c3 hz hlt hk HAT HV HPT
      generalize Fm.natOf (s.data.toList.take 4) = y at *
      generalize Fm.natOf ((s.data.toList.drop 5).take 2) = m at *
      generalize Fm.natOf (s.data.toList.drop 8) = d at *
      have HY := Lib.hid (fun w => xdays_any y m w)
      generalize Fm.days y m = dy at *
      have r1 := row_on HRV.out HX.out
      have g2 : ∀ x : Ahead wr, x.at'.cell? ⟨w.heap.size, 2, none⟩ = some (.int .i64 mn) := fun x => cell_at (row_on r1 x.ext) rfl
      have g3 : ∀ x : Ahead wr, x.at'.cell? ⟨w.heap.size, 3, none⟩ = some (.int .i64 mx) := fun x => cell_at (row_on r1 x.ext) rfl
      have HRW := Lib.hid r1
      clear r1
      by_cases h2 : (m : Int) < 1
      · have HF : Hid (res = 3) := Lib.hid (by rw [HR.out, if_pos (.inr (.inr (.inl (by omega))))])
        clear HR
        go_wp2_with fail
        refine wp_region_quiet (C := fun w' => ∃ x : Ahead wr, w' = x.at') (by kernel_rfl) (by kernel_rfl) (Ahead.drawn _) ?_
        try dsimp only
        repeat (first | go_big_quiet_step ((first | with_reducible exact ahead_of (A1.out _) | with_reducible exact ahead_of (A2.out _) | with_reducible exact ahead_of (A3.out _))) | quiet_step ((first | with_reducible exact ahead_of (A1.out _) | with_reducible exact ahead_of (A2.out _) | with_reducible exact ahead_of (A3.out _))))
        refine wpQuiet_nil ?_
        intro _ hx0
        obtain ⟨x0, hx0⟩ := hx0
        subst hx0
        obtain ⟨w4, hx5⟩ := x0
        try dsimp only
        go_wp2_with fail
        go_ret
        exact ⟨ret_int HF.out.symm, hxw.trans hx5⟩
      by_cases h3 : (12 : Int) < (m : Int)
      · have HF : Hid (res = 3) := Lib.hid (by rw [HR.out, if_pos (.inr (.inr (.inr (.inl (by omega)))))])
        clear HR
        go_wp2_with fail
        refine wp_region_quiet (C := fun w' => ∃ x : Ahead wr, w' = x.at') (by kernel_rfl) (by kernel_rfl) (Ahead.drawn _) ?_
        try dsimp only
        repeat (first | go_big_quiet_step ((first | with_reducible exact ahead_of (A1.out _) | with_reducible exact ahead_of (A2.out _) | with_reducible exact ahead_of (A3.out _))) | quiet_step ((first | with_reducible exact ahead_of (A1.out _) | with_reducible exact ahead_of (A2.out _) | with_reducible exact ahead_of (A3.out _))))
        refine wpQuiet_nil ?_
        intro _ hx0
        obtain ⟨x0, hx0⟩ := hx0
        subst hx0
        obtain ⟨w4, hx5⟩ := x0
        try dsimp only
        go_wp2_with fail
        go_ret
        exact ⟨ret_int HF.out.symm, hxw.trans hx5⟩
      by_cases h4 : (d : Int) < 1
      · have HF : Hid (res = 3) := Lib.hid (by rw [HR.out, if_pos (.inr (.inr (.inr (.inr (.inl (by omega))))))])
        clear HR
        go_wp2_with fail
        refine wp_region_quiet (C := fun w' => ∃ x : Ahead wr, w' = x.at') (by kernel_rfl) (by kernel_rfl) (Ahead.drawn _) ?_
        try dsimp only
        repeat (first | go_big_quiet_step ((first | with_reducible exact ahead_of (A1.out _) | with_reducible exact ahead_of (A2.out _) | with_reducible exact ahead_of (A3.out _))) | quiet_step ((first | with_reducible exact ahead_of (A1.out _) | with_reducible exact ahead_of (A2.out _) | with_reducible exact ahead_of (A3.out _))))
        refine wpQuiet_nil ?_
        intro _ hx0
        obtain ⟨x0, hx0⟩ := hx0
        subst hx0
        obtain ⟨w4, hx5⟩ := x0
        try dsimp only
        go_wp2_with fail
        go_ret
        exact ⟨ret_int HF.out.symm, hxw.trans hx5⟩
      by_cases h5 : dy < (d : Int)
      · have HF : Hid (res = 3) := Lib.hid (by rw [HR.out, if_pos (.inr (.inr (.inr (.inr (.inr h5)))))])
        clear HR
        go_wp2_with fail
        refine wp_region_quiet (C := fun w' => ∃ x : Ahead wr, w' = x.at') (by kernel_rfl) (by kernel_rfl) (Ahead.drawn _) ?_
        try dsimp only
        repeat (first | go_big_quiet_step ((first | with_reducible exact ahead_of (A1.out _) | with_reducible exact ahead_of (A2.out _) | with_reducible exact ahead_of (A3.out _))) | quiet_step ((first | with_reducible exact ahead_of (A1.out _) | with_reducible exact ahead_of (A2.out _) | with_reducible exact ahead_of (A3.out _))))
        refine wpQuiet_nil ?_
        intro _ hx0
        obtain ⟨x0, hx0⟩ := hx0
        subst hx0
        obtain ⟨w4, hx5⟩ := x0
        try dsimp only
        go_wp2_with fail
        refine (HY.out _).mono ?_
        rintro e w5 ⟨rfl, rfl⟩
        go_wp2_with fail
        go_ret
        exact ⟨ret_int HF.out.symm, hxw.trans hx5⟩
      have HB := Lib.hid (fun w => xbounds_any mn (y : Int) (y : Int) mx w)
      obtain ⟨rb, hrb⟩ : ∃ rb, rb = (if Fm.within mn (y : Int) (y : Int) mx then (0 : Int) else 3) := ⟨_, rfl⟩
      rw [← hrb] at HB
      have HF : Hid (res = rb) := Lib.hid (by
        rw [HR.out, hrb]
        unfold Fm.within
        by_cases q1 : mn ≤ (y : Int)
        · by_cases q2 : (y : Int) ≤ mx
          · rw [if_neg (by omega), decide_eq_true q1, decide_eq_true q2, decide_eq_true (Int.le_refl _)]; rfl
          · rw [if_pos (.inr (.inl (by omega))), decide_eq_false q2, Bool.and_false]; rfl
        · rw [if_pos (.inl (by omega)), decide_eq_false q1]; rfl)
      clear HR hrb
      go_wp2_with fail
      refine wp_region_quiet (C := fun w' => ∃ x : Ahead wr, w' = x.at') (by kernel_rfl) (by kernel_rfl) (Ahead.drawn _) ?_
      try dsimp only
      repeat (first | go_big_quiet_step ((first | with_reducible exact ahead_of (A1.out _) | with_reducible exact ahead_of (A2.out _) | with_reducible exact ahead_of (A3.out _))) | quiet_step ((first | with_reducible exact ahead_of (A1.out _) | with_reducible exact ahead_of (A2.out _) | with_reducible exact ahead_of (A3.out _))))
      refine wpQuiet_nil ?_
      intro _ hx0
      obtain ⟨x0, hx0⟩ := hx0
      subst hx0
      obtain ⟨w4, hx5⟩ := x0
      try dsimp only
      go_wp2_with fail
      refine (HY.out _).mono ?_
      rintro e w5 ⟨rfl, rfl⟩
      have r5 := row_on HRW.out hx5
      have m2 : w4.cell? ⟨w.heap.size, 2, none⟩ = some (.int .i64 mn) := cell_at r5 rfl
      have m3 : w4.cell? ⟨w.heap.size, 3, none⟩ = some (.int .i64 mx) := cell_at r5 rfl
      clear r5
      go_wp2_with fail
      refine (HB.out _).mono ?_
      rintro e w6 ⟨rfl, rfl⟩
      go_wp2_with fail
      go_ret
      exact ⟨ret_int HF.out.symm, hxw.trans hx5⟩
end Go.Proofs.YtkpfehfcgpapiaaGreatDoor
