/-
  Chapter 11, the reference: Complete, complete, Expand.
  Condition: strings within the reach.
-/
import Derived.Test.YtfpliihglgjijaaGreatEaX1
import Derived.Test.YtfpliihglgjijaaGreatEaW3
namespace Go.Proofs.YtfpliihglgjijaaGreat
set_option linter.unusedVariables false
open Go.RowKit

theorem cmp_str (a b : ByteArray) (l r : List UInt8) (ha : a.data.toList = l) (hb : b.data.toList = r) : (a.toList == b.toList) = decide (l = r) := by
  rw [Lib.toList_data, Lib.toList_data, ha, hb, Bool.eq_iff_iff, beq_iff_eq, decide_eq_true_eq]
theorem cmp_strN (a b : ByteArray) (l r : List UInt8) (ha : a.data.toList = l) (hb : b.data.toList = r) : (a.toList != b.toList) = !decide (l = r) := by
  rw [bne, cmp_str a b l r ha hb]

set_option maxRecDepth 100000 in
set_option maxHeartbeats 3000000 in
theorem xComplete_any (k : Int) (s : ByteArray) (hs : s.size ≤ 9223372036854775807) (w : World) :
    Calls Tryz.prog 18 #[.int .i64 k, .string s] w fun e w' => e = .returned (strE (Ea.comp k s.data.toList)) ∧ Ext w w' := by
  have HX := Lib.hid (Ea.comp.eq_1 k s.data.toList)
  have HD := Lib.hid (xdigits_any s hs)
  have HZ := Lib.hid (xlength_any k)
  rw [len_data] at HX
  by_cases h1 : Ea.size k = 0
  · rw [if_pos h1] at HX
    rw [h1] at HZ
    generalize Ea.comp k s.data.toList = res at *
    clear h1
    go_enter Tryz.func18, Tryz.ntmps18
    go_wp2_with fail
    refine (HZ.out _).mono ?_
    rintro e w1 ⟨rfl, rfl⟩
    go_wp2
    go_ret2
    exact ⟨by rw [HX.out]; rfl, Ext.refl _⟩
  · rw [if_neg h1] at HX
    have hkk := Ea.kinds h1
    obtain ⟨hn1, hn2⟩ : 8 ≤ Ea.size k ∧ Ea.size k ≤ 13 := by rcases hkk with rfl | rfl | rfl | rfl <;> decide
    have hn4 : k = 4 → Ea.size k = 8 := by rintro rfl; rfl
    by_cases h2 : Ea.digs s.data.toList = false
    · rw [if_pos h2] at HX
      rw [h2] at HD
      generalize Ea.comp k s.data.toList = res at *
      generalize Ea.size k = n at *
      have b1 : ((n : Int) == 0) = false := beq_eq_false_iff_ne.2 (by omega)
      clear h1 h2 hkk hn4
      go_enter Tryz.func18, Tryz.ntmps18
      go_wp2_with fail
      refine (HZ.out _).mono ?_
      rintro e w1 ⟨rfl, rfl⟩
      go_wp2_with fail
      refine (HD.out _).mono ?_
      rintro e w1 ⟨rfl, rfl⟩
      go_wp2
      go_ret2
      exact ⟨by rw [HX.out]; rfl, Ext.refl _⟩
    · have h2' : Ea.digs s.data.toList = true := by simpa using h2
      have HD2 := Lib.hid h2'
      rw [if_neg h2] at HX
      rw [h2'] at HD
      have b1 : ((Ea.size k : Int) == 0) = false := beq_eq_false_iff_ne.2 (by omega)
      by_cases h3 : s.size ≠ Ea.size k ∧ s.size + 1 ≠ Ea.size k
      · rw [if_pos h3] at HX
        generalize Ea.comp k s.data.toList = res at *
        generalize Ea.size k = n at *
        have b3 : ((s.size : Int) != (n : Int)) = true := by simp; omega
        have b4 : ((s.size : Int) != (n : Int) - 1) = true := by simp; omega
        clear h1 h2 hkk hn4 h3 h2'
        go_enter Tryz.func18, Tryz.ntmps18
        go_wp2_with fail
        refine (HZ.out _).mono ?_
        rintro e w1 ⟨rfl, rfl⟩
        go_wp2_with fail
        refine (HD.out _).mono ?_
        rintro e w1 ⟨rfl, rfl⟩
        go_wp2
        go_ret2
        exact ⟨by rw [HX.out]; rfl, Ext.refl _⟩
      · rw [if_neg h3] at HX
        have h0 : 0 < s.size := by omega
        have h00 : s.data.toList.getD 0 0 = s[0] := by
          rw [List.getD_eq_getElem?_getD, List.getElem?_eq_getElem (by rw [len_data]; exact h0)]; rfl
        obtain ⟨m, hm⟩ : ∃ m, Ea.size k - 1 = m := ⟨_, rfl⟩
        have hmi : (Ea.size k : Int) - 1 = (m : Int) := by omega
        have hms : m ≤ s.size := by omega
        have hm12 : m ≤ 12 := by omega
        rw [h00, hm] at HX
        have hs13 : s.size ≤ 13 := by omega
        have HCO := Lib.hid (fun w => xcheckOf_any k (s.extract 0 m) (by intro e; rw [ByteArray.size_extract]; have := hn4 e; omega) (by rw [ByteArray.size_extract]; omega) (Lib.hid (by rw [cut_front]; exact Ea.digs_take h2' m)) w)
        rw [cut_front] at HCO
        obtain ⟨c, hc⟩ : ∃ c, Ea.chkOf k (s.data.toList.take m) = c := ⟨_, rfl⟩
        rw [hc] at HCO HX
        obtain ⟨CB, hCB⟩ : ∃ CB, Ea.bS [c] = CB := ⟨_, rfl⟩
        have hCz : CB.size = 1 := by rw [← hCB]; rfl
        have hTz : (s.extract 0 m).size ≤ 12 := by rw [ByteArray.size_extract]; omega
        have hout : (s.extract 0 m ++ CB).data.toList = s.data.toList.take m ++ [c] := by rw [ByteArray.data_append, Array.toList_append, cut_front, ← hCB]; rfl
        have HO := Lib.hid hout
        have HW1 := Lib.hid (cmp_strN s (s.extract 0 m ++ CB) _ _ rfl hout)
        rw [hCB] at HCO
        clear hc hCB hout hn4 h2 h2' h00
        by_cases h4 : k = 4 ∧ (49 : UInt8) < s[0]
        · rw [if_pos h4] at HX
          obtain ⟨rfl, h4⟩ := h4
          have h4n : 49 < s[0].toNat := by rw [UInt8.lt_iff_toNat_lt] at h4; exact h4
          have d4 : decide ((49 : Int) < (s[0].toNat : Int)) = true := decide_eq_true (by omega)
          generalize Ea.comp 4 s.data.toList = res at *
          generalize Ea.size 4 = n at *
          by_cases h5 : s.size = n
          · have b3 : ((s.size : Int) != (n : Int)) = false := by simp; omega
            clear h1 hkk h3 h4 h5 h4n hm
            go_enter Tryz.func18, Tryz.ntmps18
            go_wp2_with fail
            refine (HZ.out _).mono ?_
            rintro e w1 ⟨rfl, rfl⟩
            go_wp2_with fail
            refine (HD.out _).mono ?_
            rintro e w1 ⟨rfl, rfl⟩
            go_wp2
            go_ret2
            exact ⟨by rw [HX.out]; rfl, Ext.refl _⟩
          · have b3 : ((s.size : Int) != (n : Int)) = true := by simp; omega
            have b4 : ((s.size : Int) != (m : Int)) = false := by simp; omega
            clear h1 hkk h3 h4 h5 h4n hm
            go_enter Tryz.func18, Tryz.ntmps18
            go_wp2_with fail
            refine (HZ.out _).mono ?_
            rintro e w1 ⟨rfl, rfl⟩
            go_wp2_with fail
            refine (HD.out _).mono ?_
            rintro e w1 ⟨rfl, rfl⟩
            go_wp2
            go_ret2
            exact ⟨by rw [HX.out]; rfl, Ext.refl _⟩
        · rw [if_neg h4] at HX
          have h49 : k = 4 → s[0].toNat ≤ 49 := fun e => by
            have : ¬ (49 : UInt8) < s[0] := fun e2 => h4 ⟨e, e2⟩
            rw [UInt8.lt_iff_toNat_lt] at this
            have e49 : (49 : UInt8).toNat = 49 := rfl
            omega
          clear h4
          have hk4 : ((k == 4) = true ∧ decide ((49 : Int) < (s[0].toNat : Int)) = false) ∨ (k == 4) = false := by
            by_cases e : k = 4
            · exact .inl ⟨beq_iff_eq.2 e, decide_eq_false (by have := h49 e; omega)⟩
            · exact .inr (beq_eq_false_iff_ne.2 e)
          have HFE : Hid (∀ res, res = (s.data.toList.take m ++ [c], (0 : Int)) → Ending.returned (.tuple #[.string (s.extract 0 m ++ CB), .int .i64 0]) = .returned (strE res)) := Lib.hid (fun res e => by
            rw [e]; unfold strE; rw [← HO.out, Ea.bS_of])
          by_cases h5 : s.size = Ea.size k
          · have b3 : ((s.size : Int) != (Ea.size k : Int)) = false := by simp; omega
            have b3' : ((s.size : Int) == (Ea.size k : Int)) = true := by simp; omega
            by_cases h8 : s.data.toList = s.data.toList.take m ++ [c]
            · rw [if_neg (fun h => h.2 h8)] at HX
              rw [decide_eq_true h8] at HW1
              have HW2 : (s.toList != (s.extract 0 m ++ CB).toList) = false := HW1.out
              have HW3 : (s.toList == (s.extract 0 m ++ CB).toList) = true := by simpa using HW2
              have HG := Lib.hid (HFE.out _ HX.out)
              clear HX HW1 HFE HO
              generalize Ea.comp k s.data.toList = res at *
              generalize Ea.size k = n at *
              clear h1 hkk h3 h5 h8 hm h49
              rcases hk4 with ⟨d4, d5⟩ | d4
              all_goals
                go_enter Tryz.func18, Tryz.ntmps18
                go_wp2_with fail
                refine (HZ.out _).mono ?_
                rintro e w1 ⟨rfl, rfl⟩
                go_wp2_with fail
                refine (HD.out _).mono ?_
                rintro e w1 ⟨rfl, rfl⟩
                go_wp2_with fail
                refine wp_region_quiet (C := fun w' => ∃ x : Ahead w, w' = x.at') (by kernel_rfl) (by kernel_rfl) (Ahead.drawn _) ?_
                try dsimp only
                repeat (first | go_big_quiet_step ((go_at_call 52; with_reducible exact ahead_of (HCO.out _))) | quiet_step ((go_at_call 52; with_reducible exact ahead_of (HCO.out _))))
                refine wpQuiet_nil ?_
                intro _ hx0
                obtain ⟨x0, hx0⟩ := hx0
                subst hx0
                obtain ⟨w8, hx8⟩ := x0
                try dsimp only
                go_wp2
                go_ret2
                exact ⟨HG.out, hx8⟩
            · rw [if_pos ⟨h5, h8⟩] at HX
              rw [decide_eq_false h8] at HW1
              have HW2 : (s.toList != (s.extract 0 m ++ CB).toList) = true := HW1.out
              have HW3 : (s.toList == (s.extract 0 m ++ CB).toList) = false := by simpa using HW2
              clear HW1 HFE HO
              generalize Ea.comp k s.data.toList = res at *
              generalize Ea.size k = n at *
              clear h1 hkk h3 h5 h8 hm h49
              rcases hk4 with ⟨d4, d5⟩ | d4
              all_goals
                go_enter Tryz.func18, Tryz.ntmps18
                go_wp2_with fail
                refine (HZ.out _).mono ?_
                rintro e w1 ⟨rfl, rfl⟩
                go_wp2_with fail
                refine (HD.out _).mono ?_
                rintro e w1 ⟨rfl, rfl⟩
                go_wp2_with fail
                refine wp_region_quiet (C := fun w' => ∃ x : Ahead w, w' = x.at') (by kernel_rfl) (by kernel_rfl) (Ahead.drawn _) ?_
                try dsimp only
                repeat (first | go_big_quiet_step ((go_at_call 52; with_reducible exact ahead_of (HCO.out _))) | quiet_step ((go_at_call 52; with_reducible exact ahead_of (HCO.out _))))
                refine wpQuiet_nil ?_
                intro _ hx0
                obtain ⟨x0, hx0⟩ := hx0
                subst hx0
                obtain ⟨w8, hx8⟩ := x0
                try dsimp only
                go_wp2
                go_ret2
                exact ⟨by rw [HX.out]; rfl, hx8⟩
          · have b3 : ((s.size : Int) != (Ea.size k : Int)) = true := by simp; omega
            have b3' : ((s.size : Int) == (Ea.size k : Int)) = false := by simp; omega
            have b4 : ((s.size : Int) != (m : Int)) = false := by simp; omega
            rw [if_neg (fun h => h5 h.1)] at HX
            have HG := Lib.hid (HFE.out _ HX.out)
            clear HX HW1 HFE HO
            generalize Ea.comp k s.data.toList = res at *
            generalize Ea.size k = n at *
            clear h1 hkk h3 h5 hm h49
            rcases hk4 with ⟨d4, d5⟩ | d4
            all_goals
              go_enter Tryz.func18, Tryz.ntmps18
              go_wp2_with fail
              refine (HZ.out _).mono ?_
              rintro e w1 ⟨rfl, rfl⟩
              go_wp2_with fail
              refine (HD.out _).mono ?_
              rintro e w1 ⟨rfl, rfl⟩
              go_wp2_with fail
              refine wp_region_quiet (C := fun w' => ∃ x : Ahead w, w' = x.at') (by kernel_rfl) (by kernel_rfl) (Ahead.drawn _) ?_
              try dsimp only
              repeat (first | go_big_quiet_step ((go_at_call 52; with_reducible exact ahead_of (HCO.out _))) | quiet_step ((go_at_call 52; with_reducible exact ahead_of (HCO.out _))))
              refine wpQuiet_nil ?_
              intro _ hx0
              obtain ⟨x0, hx0⟩ := hx0
              subst hx0
              obtain ⟨w8, hx8⟩ := x0
              try dsimp only
              go_wp2
              go_ret2
              exact ⟨HG.out, hx8⟩
end Go.Proofs.YtfpliihglgjijaaGreat
