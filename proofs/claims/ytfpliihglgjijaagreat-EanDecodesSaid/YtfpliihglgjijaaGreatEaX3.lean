/-
  Chapter 11, the reference: complete, Expand, Compress.
  Condition: strings within the reach.
-/
import Derived.Test.YtfpliihglgjijaaGreatEaX2
namespace Go.Proofs.YtfpliihglgjijaaGreat
set_option linter.unusedVariables false
open Go.RowKit

set_option maxRecDepth 100000 in
set_option maxHeartbeats 2000000 in
theorem xfull_any (k : Int) (s : ByteArray) (hs : s.size ≤ 9223372036854775807) (w : World) :
    Calls Tryz.prog 36 #[.int .i64 k, .string s] w fun e w' => e = .returned (.int .i64 (Ea.full k s.data.toList)) ∧ Ext w w' := by
  have HX := Lib.hid (Ea.full.eq_1 k s.data.toList)
  have HD := Lib.hid (xdigits_any s hs)
  have HZ := Lib.hid (xlength_any k)
  have HC := Lib.hid (fun w => xComplete_any k s hs w)
  rw [len_data] at HX
  unfold strE at HC
  obtain ⟨⟨cl, ce⟩, hc⟩ : ∃ r, Ea.comp k s.data.toList = r := ⟨_, rfl⟩
  rw [hc] at HC HX
  dsimp only at HC HX
  generalize Ea.bS cl = CL at HC
  have hnb : Ea.size k ≤ 13 := by unfold Ea.size; (repeat' split) <;> omega
  generalize Ea.full k s.data.toList = res at *
  generalize Ea.digs s.data.toList = d at *
  generalize Ea.size k = n at *
  clear hc
  by_cases h : n ≠ 0 ∧ d = true ∧ s.size + 1 = n
  · rw [if_pos h] at HX
    obtain ⟨h1, rfl, h3⟩ := h
    have b1 : decide (0 < (n : Int)) = true := decide_eq_true (by omega)
    have b3 : ((s.size : Int) == (n : Int) - 1) = true := beq_iff_eq.2 (by omega)
    clear HC h1 h3
    go_enter Tryz.func36, Tryz.ntmps36
    go_wp2_with fail
    refine (HZ.out _).mono ?_
    rintro e w1 ⟨rfl, rfl⟩
    go_wp2_with fail
    refine (HD.out _).mono ?_
    rintro e w1 ⟨rfl, rfl⟩
    go_wp2_with fail
    refine (HZ.out _).mono ?_
    rintro e w1 ⟨rfl, rfl⟩
    go_wp2
    go_ret
    exact ⟨by rw [HX.out]; rfl, Ext.refl _⟩
  · rw [if_neg h] at HX
    by_cases h1 : n = 0
    · subst h1
      clear h
      go_enter Tryz.func36, Tryz.ntmps36
      go_wp2_with fail
      refine (HZ.out _).mono ?_
      rintro e w1 ⟨rfl, rfl⟩
      go_wp2_with fail
      refine (HC.out _).mono ?_
      rintro e w1 ⟨rfl, hx⟩
      go_wp2
      go_ret
      exact ⟨by rw [HX.out]; rfl, hx⟩
    · have b1 : decide (0 < (n : Int)) = true := decide_eq_true (by omega)
      have hn1 : 0 < n := by omega
      cases d
      · clear h h1
        go_enter Tryz.func36, Tryz.ntmps36
        go_wp2_with fail
        refine (HZ.out _).mono ?_
        rintro e w1 ⟨rfl, rfl⟩
        go_wp2_with fail
        refine (HD.out _).mono ?_
        rintro e w1 ⟨rfl, rfl⟩
        go_wp2_with fail
        refine (HC.out _).mono ?_
        rintro e w1 ⟨rfl, hx⟩
        go_wp2
        go_ret
        exact ⟨by rw [HX.out]; rfl, hx⟩
      · have h3 : s.size + 1 ≠ n := fun e => h ⟨h1, rfl, e⟩
        have b3 : ((s.size : Int) == (n : Int) - 1) = false := beq_eq_false_iff_ne.2 (by omega)
        clear h h1 h3
        go_enter Tryz.func36, Tryz.ntmps36
        go_wp2_with fail
        refine (HZ.out _).mono ?_
        rintro e w1 ⟨rfl, rfl⟩
        go_wp2_with fail
        refine (HD.out _).mono ?_
        rintro e w1 ⟨rfl, rfl⟩
        go_wp2_with fail
        refine (HZ.out _).mono ?_
        rintro e w1 ⟨rfl, rfl⟩
        go_wp2_with fail
        refine (HC.out _).mono ?_
        rintro e w1 ⟨rfl, hx⟩
        go_wp2
        go_ret
        exact ⟨by rw [HX.out]; rfl, hx⟩

set_option maxRecDepth 100000 in
set_option maxHeartbeats 2000000 in
theorem xExpand_any (s : ByteArray) (hs : s.size ≤ 9223372036854775807) (w : World) :
    Calls Tryz.prog 22 #[.string s] w fun e w' => e = .returned (strE (Ea.expd s.data.toList)) ∧ Ext w w' := by
  have HX := Lib.hid (Ea.expd.eq_1 s.data.toList)
  have HF := Lib.hid (fun w => xfull_any 4 s hs w)
  by_cases h : Ea.full 4 s.data.toList = 0
  · obtain ⟨_, h2, h3, _⟩ := Ea.full_ok h
    rw [len_data, show Ea.size 4 = 8 from rfl] at h3
    rw [if_neg (fun g => g h)] at HX
    rw [h] at HF
    have h7 : (s.extract 0 7).size = 7 := by rw [ByteArray.size_extract]; omega
    have HE := Lib.hid (fun w => xexpand_any (s.extract 0 7) h7 (Lib.hid (by rw [cut_front]; exact Ea.digs_take h2 7)) w)
    rw [cut_front] at HE
    obtain ⟨X, hX⟩ : ∃ X, Ea.bS (Ea.exp7 (s.data.toList.take 7)) = X := ⟨_, rfl⟩
    have hXz : X.size = 11 := by rw [← hX, size_of_toList (Ea.bS_list _), Ea.exp7_len (by rw [List.length_take, len_data]; omega)]
    have hX11 : X.size ≤ 11 := by omega
    have hsl : 7 ≤ s.size := by omega
    have hsu : s.size ≤ 8 := by omega
    have HG : Hid (Ending.returned (.tuple #[.string (X ++ s.extract 7 s.size), .int .i64 0]) = .returned (strE (Ea.exp8 s.data.toList, 0))) := Lib.hid (by
      have e : (X ++ s.extract 7 s.size).data.toList = Ea.exp8 s.data.toList := by
        rw [ByteArray.data_append, Array.toList_append, cut_back, ← hX, Ea.bS_list]; rfl
      unfold strE; rw [← e, Ea.bS_of])
    rw [hX] at HE
    rw [HX.out]
    clear HX hX hXz h7 h h2 h3
    go_enter Tryz.func22, Tryz.ntmps22
    go_wp2_with fail
    refine (HF.out _).mono ?_
    rintro e w1 ⟨rfl, hx⟩
    go_wp2_with fail
    refine wp_region_quiet (C := fun w' => ∃ x : Ahead w1, w' = x.at') (by kernel_rfl) (by kernel_rfl) (Ahead.drawn _) ?_
    try dsimp only
    repeat (first | go_big_quiet_step ((go_at_call 54; with_reducible exact ahead_of (HE.out _))) | quiet_step ((go_at_call 54; with_reducible exact ahead_of (HE.out _))))
    refine wpQuiet_nil ?_
    intro _ hx0
    obtain ⟨x0, hx0⟩ := hx0
    subst hx0
    obtain ⟨w8, hx8⟩ := x0
    try dsimp only
    go_wp2
    go_ret2
    exact ⟨HG.out, hx.trans hx8⟩
  · rw [if_pos h] at HX
    have b : (Ea.full 4 s.data.toList != 0) = true := bne_iff_ne.2 h
    rw [HX.out]
    generalize Ea.full 4 s.data.toList = f at *
    clear HX h
    go_enter Tryz.func22, Tryz.ntmps22
    go_wp2_with fail
    refine (HF.out _).mono ?_
    rintro e w1 ⟨rfl, hx⟩
    go_wp2
    go_ret2
    exact ⟨rfl, hx⟩

theorem u8_add : ∀ j : Fin 10, (UInt8.ofNat (48 + j.1)).toNat = 48 + j.1 := by decide
theorem try7_len (l : List UInt8) (f : UInt8) (h : l.length = 12) : (Ea.try7 l f).length = 7 := by
  obtain ⟨a0, a1, a2, a3, a4, a5, a6, a7, a8, a9, a10, a11, rfl⟩ := Ea.len12 h
  unfold Ea.try7; (repeat' split) <;> rfl
theorem try7_digs (l : List UInt8) (f : UInt8) (hd : Ea.digs l = true) (hf : 48 ≤ f.toNat ∧ f.toNat ≤ 57) : Ea.digs (Ea.try7 l f) = true := by
  have hF : Ea.digs [f] = true := Ea.digs_cons hf rfl
  unfold Ea.try7
  (repeat' split) <;> simp only [Ea.digs_app] <;> simp [Ea.digs_take, Ea.digs_drop, hd, hF]

set_option maxRecDepth 100000 in
set_option maxHeartbeats 4000000 in
theorem xCompress_any (s : ByteArray) (hs : s.size ≤ 9223372036854775807) (w : World) :
    Calls Tryz.prog 20 #[.string s] w fun e w' => e = .returned (strE (Ea.cprs s.data.toList)) ∧ Ext w w' := by
  obtain ⟨res, hres⟩ : ∃ res, Ea.cprs s.data.toList = res := ⟨_, rfl⟩
  have HX := Lib.hid (Ea.cprs.eq_1 s.data.toList)
  rw [hres] at HX ⊢
  clear hres
  have HF := Lib.hid (fun w => xfull_any 3 s hs w)
  by_cases h : Ea.full 3 s.data.toList = 0
  · obtain ⟨_, h2, h3, _⟩ := Ea.full_ok h
    rw [show Ea.size 3 = 12 from rfl] at h3
    have hT := Ea.try_cut h3 h2
    have HL := Lib.hid (And.intro h2 h3)
    rw [len_data] at h3
    rw [if_neg (fun g => g h), ← hT] at HX
    rw [h] at HF
    have hsl : 12 ≤ s.size := by omega
    have hsu : s.size ≤ 12 := by omega
    have hs0 : 0 < s.size := by omega
    have h00 : s.data.toList.getD 0 0 = s[0] := by
      rw [List.getD_eq_getElem?_getD, List.getElem?_eq_getElem (by rw [len_data]; exact hs0)]; rfl
    have H00 := Lib.hid h00
    clear h h2 h3 hT h00
    go_enter Tryz.func20, Tryz.ntmps20
    go_wp2_with fail
    refine (HF.out _).mono ?_
    rintro e w1 ⟨rfl, hx⟩
    go_wp2_with fail
    go_loopw [5, 6, 7] (fun v5 v6 v7 wr => ∃ j : Nat, j ≤ 10 ∧ v5 = .int .u8 (48 + (j : Int)) ∧ Hid (Ea.tryN s.data.toList 10 48 = Ea.tryN s.data.toList (10 - j) (UInt8.ofNat (48 + j))) ∧ Ext w wr) (fun v5 _ _ _ => (58 - intOf v5).toNat)
    case atStart => exact ⟨0, Nat.zero_le _, rfl, Lib.hid rfl, hx⟩
    case round =>
      obtain ⟨j, hj, rfl, HT, hxr⟩ := hrel
      by_cases hlt : j < 10
      · have hf := u8_add ⟨j, hlt⟩
        dsimp only at hf
        obtain ⟨q, hq⟩ : ∃ q, 10 - j = q + 1 := ⟨9 - j, by omega⟩
        obtain ⟨f, hff⟩ : ∃ f, UInt8.ofNat (48 + j) = f := ⟨_, rfl⟩
        rw [hff] at hf
        have HT2 : Hid (Ea.tryN s.data.toList 10 48 = match Ea.tryF s.data.toList f with
          | some r => some r
          | none => Ea.tryN s.data.toList (10 - (j + 1)) (UInt8.ofNat (48 + (j + 1)))) := Lib.hid (by
          rw [HT.out, hq, hff, Ea.tryN, show 10 - (j + 1) = q by omega]
          have : f + 1 = UInt8.ofNat (48 + (j + 1)) := by
            rw [← hff]
            have h : ∀ j : Fin 10, UInt8.ofNat (48 + j.1) + 1 = UInt8.ofNat (48 + (j.1 + 1)) := by decide
            exact h ⟨j, hlt⟩
          rw [this]
          cases Ea.tryF s.data.toList f <;> rfl)
        have hcv := conv_one wr f (48 + (j : Int)) (by rw [hf]; omega)
        obtain ⟨LS, hLS⟩ : ∃ LS, Ea.bS [f] = LS := ⟨_, rfl⟩
        have HLS : Hid (LS.data.toList = [f]) := Lib.hid (by rw [← hLS]; rfl)
        have hLz : LS.size ≤ 1 := by rw [size_of_toList HLS.out]; exact Nat.le_refl _
        rw [hLS] at hcv
        have HFB : Hid (48 ≤ f.toNat ∧ f.toNat ≤ 57) := Lib.hid (by omega)
        have H7 : Hid (∀ S : ByteArray, S.data.toList = Ea.try7 s.data.toList f → S.size = 7 ∧ (∀ w, Calls Tryz.prog 54 #[.string S] w fun e w' => e = .returned (.string (Ea.bS (Ea.exp7 (Ea.try7 s.data.toList f)))) ∧ Ext w w') ∧ ∀ h : 0 < S.size, S[0].toNat = s[0].toNat) := Lib.hid (fun S hS => by
          have hz : S.size = 7 := by rw [size_of_toList hS]; exact try7_len _ _ HL.out.2
          refine ⟨hz, fun w => ?_, fun h => ?_⟩
          · have := xexpand_any S hz (Lib.hid (by rw [hS]; exact try7_digs _ _ HL.out.1 HFB.out)) w
            rw [hS] at this; exact this
          · have h1 := Ea.try7_head s.data.toList f HL.out.2
            rw [← hS, H00.out, List.getD_eq_getElem?_getD, List.getElem?_eq_getElem (by rw [len_data]; exact h)] at h1
            exact congrArg UInt8.toNat h1)
        have HCM : Hid (((Ea.bS (Ea.exp7 (Ea.try7 s.data.toList f))).toList == (s.extract 0 11).toList) = decide (Ea.exp7 (Ea.try7 s.data.toList f) = s.data.toList.take 11)) := Lib.hid (cmp_str _ _ _ _ (Ea.bS_list _) (cut_front _ _))
        have HTF : Hid (∀ S : ByteArray, S.data.toList = Ea.try7 s.data.toList f → s[0].toNat ≤ 49 → decide (Ea.exp7 (Ea.try7 s.data.toList f) = s.data.toList.take 11) = true → Ending.returned (.tuple #[.string (S ++ s.extract 11 s.size), .int .i64 0]) = .returned (strE res)) := Lib.hid (fun S hS h0 h1 => by
          have e : Ea.tryF s.data.toList f = some (Ea.try7 s.data.toList f ++ s.data.toList.drop 11) := by
            unfold Ea.tryF
            rw [if_pos ⟨by rw [Ea.try7_head _ _ HL.out.2, H00.out, UInt8.le_iff_toNat_le]; exact h0, of_decide_eq_true h1⟩]
          rw [HX.out, HT2.out, e]
          have e2 : (S ++ s.extract 11 s.size).data.toList = Ea.try7 s.data.toList f ++ s.data.toList.drop 11 := by
            rw [ByteArray.data_append, Array.toList_append, cut_back, hS]
          unfold strE; dsimp only; rw [← e2, Ea.bS_of])
        have HTN : Hid (¬ (s[0].toNat ≤ 49 ∧ Ea.exp7 (Ea.try7 s.data.toList f) = s.data.toList.take 11) → Ea.tryN s.data.toList 10 48 = Ea.tryN s.data.toList (10 - (j + 1)) (UInt8.ofNat (48 + (j + 1)))) := Lib.hid (fun h => by
          have e : Ea.tryF s.data.toList f = none := by
            unfold Ea.tryF
            rw [if_neg]
            rintro ⟨h1, h2⟩
            rw [Ea.try7_head _ _ HL.out.2, H00.out, UInt8.le_iff_toNat_le] at h1
            exact h ⟨h1, h2⟩
          rw [HT2.out, e])
        have HSW : Hid (Ea.try7 s.data.toList f = if j = 3 then s.data.toList.take 4 ++ (s.data.toList.drop 9).take 2 ++ [f] else if j = 4 then s.data.toList.take 5 ++ (s.data.toList.drop 10).take 1 ++ [f] else if 4 < j then s.data.toList.take 6 ++ [f] else s.data.toList.take 3 ++ (s.data.toList.drop 8).take 3 ++ [f]) := Lib.hid (by
          have e51 : f = 51 ↔ j = 3 := by rw [← UInt8.toNat_inj, show (51 : UInt8).toNat = 51 from rfl]; omega
          have e52 : f = 52 ↔ j = 4 := by rw [← UInt8.toNat_inj, show (52 : UInt8).toNat = 52 from rfl]; omega
          have e53 : 52 < f ↔ 4 < j := by rw [UInt8.lt_iff_toNat_lt, show (52 : UInt8).toNat = 52 from rfl]; omega
          unfold Ea.try7
          simp only [e51, e52, e53])
        clear hq hff hf HT HT2 hLS
        have hjc : j < 3 ∨ j = 3 ∨ j = 4 ∨ 4 < j := by omega
        have d9 : decide ((48 : Int) + (j : Int) ≤ 57) = true := decide_eq_true (by omega)
        rcases hjc with hjc | hjc | hjc | hjc
        · have d1 : ((48 : Int) + (j : Int) == 51) = false := beq_eq_false_iff_ne.2 (by omega)
          have d2 : ((48 : Int) + (j : Int) == 52) = false := beq_eq_false_iff_ne.2 (by omega)
          have d3 : decide ((52 : Int) < (48 : Int) + (j : Int)) = false := decide_eq_false (by omega)
          have HS : Hid ((s.extract 0 3 ++ s.extract 8 11 ++ LS).data.toList = Ea.try7 s.data.toList f) := Lib.hid (by
            rw [HSW.out, if_neg (by omega), if_neg (by omega), if_neg (by omega)]
            simp only [ByteArray.data_append, Array.toList_append, cut_mid, HLS.out]
            rfl)
          clear hjc HSW
          go_wp2_with fail
          go_quiet (fail)
          obtain ⟨wy, hwy⟩ : ∃ wy, (wr.alloc (.cells #[.int .u8 (48 + (j : Int))] 5)).drewN nq = wy := ⟨_, rfl⟩
          have hxy : Ext w wy := by rw [← hwy]; exact (hxr.alloc _).drewN _
          rw [hwy]
          clear hwy hcv hxr
          go_wp2_with fail
          obtain ⟨S, hS⟩ : ∃ S, s.extract 0 3 ++ s.extract 8 11 ++ LS = S := ⟨_, rfl⟩
          rw [hS] at HS ⊢
          clear hS
          have hxz := hxy
          obtain ⟨hz, hE, h0S⟩ := H7.out _ HS.out
          have hz0 : 0 < S.size := by omega
          have hSz : S.size ≤ 7 := by omega
          have h0s := h0S hz0
          have HEX := Lib.hid hE
          clear hz hE h0S H7 d1 d2 d3
          by_cases h49 : s[0].toNat ≤ 49
          · have d0 : decide ((S[0].toNat : Int) ≤ 49) = true := decide_eq_true (by omega)
            obtain ⟨E7, hE7⟩ : ∃ E7, Ea.bS (Ea.exp7 (Ea.try7 s.data.toList f)) = E7 := ⟨_, rfl⟩
            rw [hE7] at HEX HCM
            cases hb : decide (Ea.exp7 (Ea.try7 s.data.toList f) = s.data.toList.take 11)
            · have HN2 := Lib.hid (HTN.out (fun h => of_decide_eq_false hb h.2))
              have hcm : (E7.toList == (s.extract 0 11).toList) = false := by rw [HCM.out, hb]
              clear h0s h49 hE7 hb HTF HTN HCM
              refine wp_region_quiet (C := fun w' => ∃ x : Ahead _, w' = x.at') (by kernel_rfl) (by kernel_rfl) (Ahead.drawn _) ?_
              try dsimp only
              repeat (first | go_big_quiet_step ((go_at_call 54; with_reducible exact ahead_of (HEX.out _))) | quiet_step ((go_at_call 54; with_reducible exact ahead_of (HEX.out _))))
              refine wpQuiet_nil ?_
              intro _ hx0
              obtain ⟨x0, hx0⟩ := hx0
              subst hx0
              obtain ⟨w8, hx8⟩ := x0
              try dsimp only
              go_wp2
              go_roundw
              case rel => exact ⟨j + 1, by omega, by go_num, HN2, hxz.trans hx8⟩
              case measure => simp [intOf]; omega
            · have HG := Lib.hid (HTF.out S HS.out h49 hb)
              have hcm : (E7.toList == (s.extract 0 11).toList) = true := by rw [HCM.out, hb]
              clear h0s h49 hE7 hb HTF HTN HCM
              refine wp_region_quiet (C := fun w' => ∃ x : Ahead _, w' = x.at') (by kernel_rfl) (by kernel_rfl) (Ahead.drawn _) ?_
              try dsimp only
              repeat (first | go_big_quiet_step ((go_at_call 54; with_reducible exact ahead_of (HEX.out _))) | quiet_step ((go_at_call 54; with_reducible exact ahead_of (HEX.out _))))
              refine wpQuiet_nil ?_
              intro _ hx0
              obtain ⟨x0, hx0⟩ := hx0
              subst hx0
              obtain ⟨w8, hx8⟩ := x0
              try dsimp only
              go_wp2
              go_ret2
              exact ⟨HG.out, hxz.trans hx8⟩
          · have d0 : decide ((S[0].toNat : Int) ≤ 49) = false := decide_eq_false (by omega)
            have HN2 := Lib.hid (HTN.out (fun h => h49 h.1))
            clear h0s h49 HTF HTN HCM HEX
            go_quiet (fail)
            go_wp2
            go_roundw
            case rel => exact ⟨j + 1, by omega, by go_num, HN2, hxz.drewN _⟩
            case measure => simp [intOf]; omega
        · have d1 : ((48 : Int) + (j : Int) == 51) = true := beq_iff_eq.2 (by omega)
          have d2 : ((48 : Int) + (j : Int) == 52) = false := beq_eq_false_iff_ne.2 (by omega)
          have d3 : decide ((52 : Int) < (48 : Int) + (j : Int)) = false := decide_eq_false (by omega)
          have HS : Hid ((s.extract 0 4 ++ s.extract 9 11 ++ LS).data.toList = Ea.try7 s.data.toList f) := Lib.hid (by
            rw [HSW.out, if_pos hjc]
            simp only [ByteArray.data_append, Array.toList_append, cut_mid, HLS.out]
            rfl)
          clear hjc HSW
          go_wp2_with fail
          go_quiet (fail)
          obtain ⟨wy, hwy⟩ : ∃ wy, (wr.alloc (.cells #[.int .u8 (48 + (j : Int))] 5)).drewN nq = wy := ⟨_, rfl⟩
          have hxy : Ext w wy := by rw [← hwy]; exact (hxr.alloc _).drewN _
          rw [hwy]
          clear hwy hcv hxr
          go_wp2_with fail
          go_quiet (fail)
          obtain ⟨wz, hwz⟩ : ∃ wz, wy.drewN nq = wz := ⟨_, rfl⟩
          have hxz2 : Ext w wz := by rw [← hwz]; exact hxy.drewN _
          rw [hwz]
          clear hwz hxy
          have hxy := hxz2
          clear hxz2
          go_wp2_with fail
          obtain ⟨S, hS⟩ : ∃ S, s.extract 0 4 ++ s.extract 9 11 ++ LS = S := ⟨_, rfl⟩
          rw [hS] at HS ⊢
          clear hS
          have hxz := hxy
          obtain ⟨hz, hE, h0S⟩ := H7.out _ HS.out
          have hz0 : 0 < S.size := by omega
          have hSz : S.size ≤ 7 := by omega
          have h0s := h0S hz0
          have HEX := Lib.hid hE
          clear hz hE h0S H7 d1 d2 d3
          by_cases h49 : s[0].toNat ≤ 49
          · have d0 : decide ((S[0].toNat : Int) ≤ 49) = true := decide_eq_true (by omega)
            obtain ⟨E7, hE7⟩ : ∃ E7, Ea.bS (Ea.exp7 (Ea.try7 s.data.toList f)) = E7 := ⟨_, rfl⟩
            rw [hE7] at HEX HCM
            cases hb : decide (Ea.exp7 (Ea.try7 s.data.toList f) = s.data.toList.take 11)
            · have HN2 := Lib.hid (HTN.out (fun h => of_decide_eq_false hb h.2))
              have hcm : (E7.toList == (s.extract 0 11).toList) = false := by rw [HCM.out, hb]
              clear h0s h49 hE7 hb HTF HTN HCM
              refine wp_region_quiet (C := fun w' => ∃ x : Ahead _, w' = x.at') (by kernel_rfl) (by kernel_rfl) (Ahead.drawn _) ?_
              try dsimp only
              repeat (first | go_big_quiet_step ((go_at_call 54; with_reducible exact ahead_of (HEX.out _))) | quiet_step ((go_at_call 54; with_reducible exact ahead_of (HEX.out _))))
              refine wpQuiet_nil ?_
              intro _ hx0
              obtain ⟨x0, hx0⟩ := hx0
              subst hx0
              obtain ⟨w8, hx8⟩ := x0
              try dsimp only
              go_wp2
              go_roundw
              case rel => exact ⟨j + 1, by omega, by go_num, HN2, hxz.trans hx8⟩
              case measure => simp [intOf]; omega
            · have HG := Lib.hid (HTF.out S HS.out h49 hb)
              have hcm : (E7.toList == (s.extract 0 11).toList) = true := by rw [HCM.out, hb]
              clear h0s h49 hE7 hb HTF HTN HCM
              refine wp_region_quiet (C := fun w' => ∃ x : Ahead _, w' = x.at') (by kernel_rfl) (by kernel_rfl) (Ahead.drawn _) ?_
              try dsimp only
              repeat (first | go_big_quiet_step ((go_at_call 54; with_reducible exact ahead_of (HEX.out _))) | quiet_step ((go_at_call 54; with_reducible exact ahead_of (HEX.out _))))
              refine wpQuiet_nil ?_
              intro _ hx0
              obtain ⟨x0, hx0⟩ := hx0
              subst hx0
              obtain ⟨w8, hx8⟩ := x0
              try dsimp only
              go_wp2
              go_ret2
              exact ⟨HG.out, hxz.trans hx8⟩
          · have d0 : decide ((S[0].toNat : Int) ≤ 49) = false := decide_eq_false (by omega)
            have HN2 := Lib.hid (HTN.out (fun h => h49 h.1))
            clear h0s h49 HTF HTN HCM HEX
            go_quiet (fail)
            go_wp2
            go_roundw
            case rel => exact ⟨j + 1, by omega, by go_num, HN2, hxz.drewN _⟩
            case measure => simp [intOf]; omega
        · have d1 : ((48 : Int) + (j : Int) == 51) = false := beq_eq_false_iff_ne.2 (by omega)
          have d2 : ((48 : Int) + (j : Int) == 52) = true := beq_iff_eq.2 (by omega)
          have d3 : decide ((52 : Int) < (48 : Int) + (j : Int)) = false := decide_eq_false (by omega)
          have HS : Hid ((s.extract 0 5 ++ s.extract 10 11 ++ LS).data.toList = Ea.try7 s.data.toList f) := Lib.hid (by
            rw [HSW.out, if_neg (by omega), if_pos hjc]
            simp only [ByteArray.data_append, Array.toList_append, cut_mid, HLS.out]
            rfl)
          clear hjc HSW
          go_wp2_with fail
          go_quiet (fail)
          obtain ⟨wy, hwy⟩ : ∃ wy, (wr.alloc (.cells #[.int .u8 (48 + (j : Int))] 5)).drewN nq = wy := ⟨_, rfl⟩
          have hxy : Ext w wy := by rw [← hwy]; exact (hxr.alloc _).drewN _
          rw [hwy]
          clear hwy hcv hxr
          go_wp2_with fail
          go_quiet (fail)
          obtain ⟨wz, hwz⟩ : ∃ wz, wy.drewN nq = wz := ⟨_, rfl⟩
          have hxz2 : Ext w wz := by rw [← hwz]; exact hxy.drewN _
          rw [hwz]
          clear hwz hxy
          have hxy := hxz2
          clear hxz2
          go_wp2_with fail
          obtain ⟨S, hS⟩ : ∃ S, s.extract 0 5 ++ s.extract 10 11 ++ LS = S := ⟨_, rfl⟩
          rw [hS] at HS ⊢
          clear hS
          have hxz := hxy
          obtain ⟨hz, hE, h0S⟩ := H7.out _ HS.out
          have hz0 : 0 < S.size := by omega
          have hSz : S.size ≤ 7 := by omega
          have h0s := h0S hz0
          have HEX := Lib.hid hE
          clear hz hE h0S H7 d1 d2 d3
          by_cases h49 : s[0].toNat ≤ 49
          · have d0 : decide ((S[0].toNat : Int) ≤ 49) = true := decide_eq_true (by omega)
            obtain ⟨E7, hE7⟩ : ∃ E7, Ea.bS (Ea.exp7 (Ea.try7 s.data.toList f)) = E7 := ⟨_, rfl⟩
            rw [hE7] at HEX HCM
            cases hb : decide (Ea.exp7 (Ea.try7 s.data.toList f) = s.data.toList.take 11)
            · have HN2 := Lib.hid (HTN.out (fun h => of_decide_eq_false hb h.2))
              have hcm : (E7.toList == (s.extract 0 11).toList) = false := by rw [HCM.out, hb]
              clear h0s h49 hE7 hb HTF HTN HCM
              refine wp_region_quiet (C := fun w' => ∃ x : Ahead _, w' = x.at') (by kernel_rfl) (by kernel_rfl) (Ahead.drawn _) ?_
              try dsimp only
              repeat (first | go_big_quiet_step ((go_at_call 54; with_reducible exact ahead_of (HEX.out _))) | quiet_step ((go_at_call 54; with_reducible exact ahead_of (HEX.out _))))
              refine wpQuiet_nil ?_
              intro _ hx0
              obtain ⟨x0, hx0⟩ := hx0
              subst hx0
              obtain ⟨w8, hx8⟩ := x0
              try dsimp only
              go_wp2
              go_roundw
              case rel => exact ⟨j + 1, by omega, by go_num, HN2, hxz.trans hx8⟩
              case measure => simp [intOf]; omega
            · have HG := Lib.hid (HTF.out S HS.out h49 hb)
              have hcm : (E7.toList == (s.extract 0 11).toList) = true := by rw [HCM.out, hb]
              clear h0s h49 hE7 hb HTF HTN HCM
              refine wp_region_quiet (C := fun w' => ∃ x : Ahead _, w' = x.at') (by kernel_rfl) (by kernel_rfl) (Ahead.drawn _) ?_
              try dsimp only
              repeat (first | go_big_quiet_step ((go_at_call 54; with_reducible exact ahead_of (HEX.out _))) | quiet_step ((go_at_call 54; with_reducible exact ahead_of (HEX.out _))))
              refine wpQuiet_nil ?_
              intro _ hx0
              obtain ⟨x0, hx0⟩ := hx0
              subst hx0
              obtain ⟨w8, hx8⟩ := x0
              try dsimp only
              go_wp2
              go_ret2
              exact ⟨HG.out, hxz.trans hx8⟩
          · have d0 : decide ((S[0].toNat : Int) ≤ 49) = false := decide_eq_false (by omega)
            have HN2 := Lib.hid (HTN.out (fun h => h49 h.1))
            clear h0s h49 HTF HTN HCM HEX
            go_quiet (fail)
            go_wp2
            go_roundw
            case rel => exact ⟨j + 1, by omega, by go_num, HN2, hxz.drewN _⟩
            case measure => simp [intOf]; omega
        · have d1 : ((48 : Int) + (j : Int) == 51) = false := beq_eq_false_iff_ne.2 (by omega)
          have d2 : ((48 : Int) + (j : Int) == 52) = false := beq_eq_false_iff_ne.2 (by omega)
          have d3 : decide ((52 : Int) < (48 : Int) + (j : Int)) = true := decide_eq_true (by omega)
          have HS : Hid ((s.extract 0 6 ++ LS).data.toList = Ea.try7 s.data.toList f) := Lib.hid (by
            rw [HSW.out, if_neg (by omega), if_neg (by omega), if_pos hjc]
            simp only [ByteArray.data_append, Array.toList_append, cut_mid, HLS.out]
            rfl)
          clear hjc HSW
          go_wp2_with fail
          go_quiet (fail)
          obtain ⟨wy, hwy⟩ : ∃ wy, (wr.alloc (.cells #[.int .u8 (48 + (j : Int))] 5)).drewN nq = wy := ⟨_, rfl⟩
          have hxy : Ext w wy := by rw [← hwy]; exact (hxr.alloc _).drewN _
          rw [hwy]
          clear hwy hcv hxr
          go_wp2_with fail
          obtain ⟨S, hS⟩ : ∃ S, s.extract 0 6 ++ LS = S := ⟨_, rfl⟩
          rw [hS] at HS ⊢
          clear hS
          have hxz := hxy
          obtain ⟨hz, hE, h0S⟩ := H7.out _ HS.out
          have hz0 : 0 < S.size := by omega
          have hSz : S.size ≤ 7 := by omega
          have h0s := h0S hz0
          have HEX := Lib.hid hE
          clear hz hE h0S H7 d1 d2 d3
          by_cases h49 : s[0].toNat ≤ 49
          · have d0 : decide ((S[0].toNat : Int) ≤ 49) = true := decide_eq_true (by omega)
            obtain ⟨E7, hE7⟩ : ∃ E7, Ea.bS (Ea.exp7 (Ea.try7 s.data.toList f)) = E7 := ⟨_, rfl⟩
            rw [hE7] at HEX HCM
            cases hb : decide (Ea.exp7 (Ea.try7 s.data.toList f) = s.data.toList.take 11)
            · have HN2 := Lib.hid (HTN.out (fun h => of_decide_eq_false hb h.2))
              have hcm : (E7.toList == (s.extract 0 11).toList) = false := by rw [HCM.out, hb]
              clear h0s h49 hE7 hb HTF HTN HCM
              refine wp_region_quiet (C := fun w' => ∃ x : Ahead _, w' = x.at') (by kernel_rfl) (by kernel_rfl) (Ahead.drawn _) ?_
              try dsimp only
              repeat (first | go_big_quiet_step ((go_at_call 54; with_reducible exact ahead_of (HEX.out _))) | quiet_step ((go_at_call 54; with_reducible exact ahead_of (HEX.out _))))
              refine wpQuiet_nil ?_
              intro _ hx0
              obtain ⟨x0, hx0⟩ := hx0
              subst hx0
              obtain ⟨w8, hx8⟩ := x0
              try dsimp only
              go_wp2
              go_roundw
              case rel => exact ⟨j + 1, by omega, by go_num, HN2, hxz.trans hx8⟩
              case measure => simp [intOf]; omega
            · have HG := Lib.hid (HTF.out S HS.out h49 hb)
              have hcm : (E7.toList == (s.extract 0 11).toList) = true := by rw [HCM.out, hb]
              clear h0s h49 hE7 hb HTF HTN HCM
              refine wp_region_quiet (C := fun w' => ∃ x : Ahead _, w' = x.at') (by kernel_rfl) (by kernel_rfl) (Ahead.drawn _) ?_
              try dsimp only
              repeat (first | go_big_quiet_step ((go_at_call 54; with_reducible exact ahead_of (HEX.out _))) | quiet_step ((go_at_call 54; with_reducible exact ahead_of (HEX.out _))))
              refine wpQuiet_nil ?_
              intro _ hx0
              obtain ⟨x0, hx0⟩ := hx0
              subst hx0
              obtain ⟨w8, hx8⟩ := x0
              try dsimp only
              go_wp2
              go_ret2
              exact ⟨HG.out, hxz.trans hx8⟩
          · have d0 : decide ((S[0].toNat : Int) ≤ 49) = false := decide_eq_false (by omega)
            have HN2 := Lib.hid (HTN.out (fun h => h49 h.1))
            clear h0s h49 HTF HTN HCM HEX
            go_quiet (fail)
            go_wp2
            go_roundw
            case rel => exact ⟨j + 1, by omega, by go_num, HN2, hxz.drewN _⟩
            case measure => simp [intOf]; omega
      · obtain rfl : j = 10 := by omega
        have HG : Hid (Ea.tryN s.data.toList 10 48 = none) := Lib.hid (by rw [HT.out]; rfl)
        clear hlt hj
        go_wp2
        go_ret2
        exact ⟨by rw [HX.out, HG.out]; rfl, hxr⟩
  · rw [if_pos h] at HX
    have b : (Ea.full 3 s.data.toList != 0) = true := bne_iff_ne.2 h
    rw [HX.out]
    generalize Ea.full 3 s.data.toList = f at *
    clear HX h
    go_enter Tryz.func20, Tryz.ntmps20
    go_wp2_with fail
    refine (HF.out _).mono ?_
    rintro e w1 ⟨rfl, hx⟩
    go_wp2
    go_ret2
    exact ⟨rfl, hx⟩
end Go.Proofs.YtfpliihglgjijaaGreat
