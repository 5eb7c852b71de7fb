/-
  Chapter 11: Encode and Digits, walked.
  Condition: strings within the reach.
-/
import Derived.Test.YtfpliihglgjijaaGreatEaWB
namespace Go.Proofs.YtfpliihglgjijaaGreat
set_option linter.unusedVariables false
open Go.RowKit

/-- A row of modules and an error. -/
def BoolsE (r : List Bool × Int) (w : World) (e : Ending) (w' : World) : Prop := ∃ v, e = .returned (.tuple #[v, .int .i64 r.2]) ∧ SlK w' v (r.1.map encT) ∧ Ext w w'

set_option maxRecDepth 100000 in
set_option maxHeartbeats 1500000 in
theorem eEncode_any (k : Int) (s a : ByteArray) (hs : s.size ≤ 9223372036854775807) (ha : a.size ≤ 9223372036854775807) (w : World) :
    Calls Tryz.prog 11 #[.int .i64 k, .string s, .string a] w (BoolsE (Ea.enc k s.data.toList a.data.toList) w) := by
  have HX := Lib.hid (Ea.enc.eq_1 k s.data.toList a.data.toList)
  have HF := Lib.hid (full_steps k s.data.toList)
  have HD := Lib.hid (digitsOnly_any s hs)
  have HDA := Lib.hid (digitsOnly_any a ha)
  have HZ := Lib.hid (esize_any k)
  have HQ := Lib.hid (quiet_any k)
  rw [len_data] at HX HF
  by_cases h1 : Ea.size k = 0
  · rw [if_pos h1] at HF
    rw [HF.out, if_pos (by decide)] at HX
    rw [h1] at HZ
    generalize Ea.enc k s.data.toList a.data.toList = res at *
    clear h1 HF
    go_enter Tryz.func11, Tryz.ntmps11
    go_wp2_with fail
    refine (HZ.out _).mono ?_
    rintro e w1 ⟨rfl, rfl⟩
    go_wp2
    go_ret2
    exact ⟨_, by rw [HX.out]; rfl, by rw [HX.out]; exact SlK.nil _, Ext.refl _⟩
  · rw [if_neg h1] at HF
    have hkk := Ea.kinds h1
    obtain ⟨hn1, hn2⟩ : 8 ≤ Ea.size k ∧ Ea.size k ≤ 13 := by rcases hkk with rfl | rfl | rfl | rfl <;> decide
    have b1 : ((Ea.size k : Int) == 0) = false := beq_eq_false_iff_ne.2 (by omega)
    by_cases h2 : Ea.digs s.data.toList = false
    · rw [if_pos h2] at HF
      rw [HF.out, if_pos (by decide)] at HX
      rw [h2] at HD
      generalize Ea.enc k s.data.toList a.data.toList = res at *
      generalize Ea.size k = n at *
      clear h1 h2 hkk hn1 hn2 HF
      go_enter Tryz.func11, Tryz.ntmps11
      go_wp2_with fail
      refine (HZ.out _).mono ?_
      rintro e w1 ⟨rfl, rfl⟩
      go_wp2_with fail
      refine (HD.out _).mono ?_
      rintro e w1 ⟨rfl, rfl⟩
      go_wp2
      go_ret2
      exact ⟨_, by rw [HX.out]; rfl, by rw [HX.out]; exact SlK.nil _, Ext.refl _⟩
    · have h2' : Ea.digs s.data.toList = true := by simpa using h2
      rw [if_neg h2] at HF
      rw [h2'] at HD
      by_cases h3 : s.size ≠ Ea.size k
      · rw [if_pos h3] at HF
        rw [HF.out, if_pos (by decide)] at HX
        generalize Ea.enc k s.data.toList a.data.toList = res at *
        generalize Ea.size k = n at *
        have b3 : ((s.size : Int) != (n : Int)) = true := by simp; omega
        clear h1 h2 h2' h3 hkk hn1 hn2 HF
        go_enter Tryz.func11, Tryz.ntmps11
        go_wp2_with fail
        refine (HZ.out _).mono ?_
        rintro e w1 ⟨rfl, rfl⟩
        go_wp2_with fail
        refine (HD.out _).mono ?_
        rintro e w1 ⟨rfl, rfl⟩
        go_wp2
        go_ret2
        exact ⟨_, by rw [HX.out]; rfl, by rw [HX.out]; exact SlK.nil _, Ext.refl _⟩
      · rw [if_neg h3] at HF
        have h3' : s.size = Ea.size k := by omega
        have b3 : ((s.size : Int) != (Ea.size k : Int)) = false := by simp; omega
        have hn4 : k = 4 → Ea.size k = 8 := by rintro rfl; rfl
        have HRI := Lib.hid (right_any k s h2' (by by_cases e : k = 4; exact .inl ⟨e, by rw [h3', hn4 e]⟩; exact .inr ⟨e, by omega, by omega⟩))
        have HN := Lib.hid (numbered_any s (by omega))
        rw [num_iff s (by omega) h2'] at HN
        clear h3' hn4
        by_cases h4 : k = 4
        · subst h4
          by_cases h6 : s.data.toList.getD 0 0 ≤ 49
          · rw [if_neg (fun h => h.2 h6)] at HF
            rw [decide_eq_true h6] at HN
            clear h6
            by_cases h5 : Ea.good (if (4 : Int) = 4 then Ea.exp8 s.data.toList else s.data.toList)
            · rw [if_pos h5] at HF
              rw [decide_eq_true h5] at HRI
              have hf0 : Ea.full 4 s.data.toList = 0 := HF.out
              rw [HF.out, if_neg (by decide)] at HX
              by_cases a1 : Ea.digs a.data.toList = false
              · rw [if_pos a1] at HX
                rw [a1] at HDA
                generalize Ea.enc 4 s.data.toList a.data.toList = res at *
                generalize Ea.size 4 = n at *
                clear h1 h2 h2' h3 h5 hkk hn1 HF
                go_enter Tryz.func11, Tryz.ntmps11
                go_wp2_with fail
                refine (HZ.out _).mono ?_
                rintro e w1 ⟨rfl, rfl⟩
                go_wp2_with fail
                refine (HD.out _).mono ?_
                rintro e w1 ⟨rfl, rfl⟩
                go_wp2_with fail
                refine (HN.out _).mono ?_
                rintro e w1 ⟨rfl, rfl⟩
                go_wp2_with fail
                refine (HRI.out _).mono ?_
                rintro e w2 ⟨rfl, hx2⟩
                go_wp2_with fail
                refine (HDA.out _).mono ?_
                rintro e w1 ⟨rfl, rfl⟩
                go_wp2
                go_ret2
                exact ⟨_, by rw [HX.out]; rfl, by rw [HX.out]; exact SlK.nil _, hx2⟩
              · have a1' : Ea.digs a.data.toList = true := by simpa using a1
                rw [if_neg a1] at HX
                rw [a1'] at HDA
                by_cases a2 : a.size ≠ 0 ∧ a.size ≠ 2 ∧ a.size ≠ 5
                · rw [if_pos a2] at HX
                  generalize Ea.enc 4 s.data.toList a.data.toList = res at *
                  generalize Ea.size 4 = n at *
                  have z0 : ((a.size : Int) != 0) = true := bne_iff_ne.2 (by omega)
                  have z2 : ((a.size : Int) != 2) = true := bne_iff_ne.2 (by omega)
                  have z5 : ((a.size : Int) != 5) = true := bne_iff_ne.2 (by omega)
                  clear a1 a1' a2
                  clear h1 h2 h2' h3 h5 hkk hn1 HF
                  go_enter Tryz.func11, Tryz.ntmps11
                  go_wp2_with fail
                  refine (HZ.out _).mono ?_
                  rintro e w1 ⟨rfl, rfl⟩
                  go_wp2_with fail
                  refine (HD.out _).mono ?_
                  rintro e w1 ⟨rfl, rfl⟩
                  go_wp2_with fail
                  refine (HN.out _).mono ?_
                  rintro e w1 ⟨rfl, rfl⟩
                  go_wp2_with fail
                  refine (HRI.out _).mono ?_
                  rintro e w2 ⟨rfl, hx2⟩
                  go_wp2_with fail
                  refine (HDA.out _).mono ?_
                  rintro e w1 ⟨rfl, rfl⟩
                  go_wp2
                  go_ret2
                  exact ⟨_, by rw [HX.out]; rfl, by rw [HX.out]; exact SlK.nil _, hx2⟩
                · rw [if_neg a2] at HX
                  have HSY := Lib.hid (symbol_any 4 s hf0)
                  obtain ⟨Y, hY, hYl, hYs⟩ := named (l := Ea.sym 4 s.data.toList)
                  rw [hY] at HSY
                  rw [Ea.sym_len hf0] at hYs
                  have hYs : Y.size ≤ 95 := by rw [hYs]; unfold Ea.wOf; (repeat' split) <;> omega
                  have hlq : Ea.lq 4 ≤ 11 := by unfold Ea.lq; (repeat' split) <;> omega
                  have hrq : Ea.rq 4 ≤ 9 := by unfold Ea.rq; split <;> omega
                  have HL := Lib.hid (repeat_any (Ea.lq 4) (by omega))
                  obtain ⟨L, hL, hLl, hLs⟩ := named (l := Ea.lgt (Ea.lq 4))
                  rw [hL] at HL
                  rw [Ea.lgt_len] at hLs
                  by_cases a3 : a.size = 0
                  · rw [if_pos a3] at HX
                    have HRQ := Lib.hid (repeat_any (Ea.rq 4) (by omega))
                    obtain ⟨Q, hQ, hQl, hQs⟩ := named (l := Ea.lgt (Ea.rq 4))
                    rw [hQ] at HRQ
                    rw [Ea.lgt_len] at hQs
                    have HMO := Lib.hid (modules_any (L ++ Y ++ Q) (Ea.lgt (Ea.lq 4) ++ Ea.sym 4 s.data.toList ++ Ea.lgt (Ea.rq 4)) (by
                      simp only [ByteArray.data_append, Array.toList_append, hLl, hYl, hQl, Ea.mS_app]) (by rw [List.length_append, List.length_append, Ea.lgt_len, Ea.lgt_len, ← Ea.mS_len (Ea.sym 4 s.data.toList), ← hYl, len_data]; omega))
                    have hLs : L.size ≤ 11 := by omega
                    have hQs : Q.size ≤ 9 := by omega
                    have zz : a.toList = [] := by rw [Lib.toList_data, (empty_iff a).2 a3]
                    have zy : a.toList.isEmpty = true := by rw [zz]; rfl
                    have z0 : ((a.size : Int) != 0) = false := by rw [a3]; rfl
                    generalize Ea.enc 4 s.data.toList a.data.toList = res at *
                    generalize Ea.size 4 = n at *
                    generalize Ea.lq 4 = lq at *
                    generalize Ea.rq 4 = rq at *
                    clear a1 a1' a2 a3 hf0 hY hYl hL hLl hQ hQl
                    clear h1 h2 h2' h3 h5 hkk hn1 HF
                    go_enter Tryz.func11, Tryz.ntmps11
                    go_wp2_with fail
                    refine (HZ.out _).mono ?_
                    rintro e w1 ⟨rfl, rfl⟩
                    go_wp2_with fail
                    refine (HD.out _).mono ?_
                    rintro e w1 ⟨rfl, rfl⟩
                    go_wp2_with fail
                    refine (HN.out _).mono ?_
                    rintro e w1 ⟨rfl, rfl⟩
                    go_wp2_with fail
                    refine (HRI.out _).mono ?_
                    rintro e w2 ⟨rfl, hx2⟩
                    go_wp2_with fail
                    refine (HDA.out _).mono ?_
                    rintro e w1 ⟨rfl, rfl⟩
                    go_wp2_with fail
                    refine (HQ.out _).mono ?_
                    rintro e w1 ⟨rfl, rfl⟩
                    go_wp2_with fail
                    refine (HL.out _).mono ?_
                    rintro e w3 ⟨rfl, hx3⟩
                    go_wp2_with fail
                    refine (HSY.out _).mono ?_
                    rintro e w4 ⟨rfl, hx4⟩
                    go_wp2_with fail
                    refine (HRQ.out _).mono ?_
                    rintro e w5 ⟨rfl, hx5⟩
                    go_wp2_with fail
                    refine (HMO.out _).mono ?_
                    rintro e w6 ⟨v, rfl, hs6, hx6⟩
                    go_wp2
                    go_ret2
                    exact ⟨v, by rw [HX.out]; rfl, by rw [HX.out]; exact hs6, (((hx2.trans hx3).trans hx4).trans hx5).trans hx6⟩
                  · rw [if_neg a3] at HX
                    have a25 : a.size = 2 ∨ a.size = 5 := by omega
                    obtain ⟨e1, e2⟩ := Ea.setsAdd_ok (a := a.data.toList) (by rw [len_data]; exact a25)
                    have HAS := Lib.hid (addOnSets_any a a25 a1')
                    have HDR := Lib.hid (draw_any a (Ea.bS (Ea.sS (Ea.setsAdd a.data.toList))) ⟨#[48, 49]⟩ (Ea.setsAdd a.data.toList) Ea.gA a1' rfl (by rw [e1, len_data]) (fun u hu => by have := e2 u hu; omega) rfl (by omega) (by decide))
                    have hAL := Ea.addn_len a1' (by rw [len_data]; exact a25)
                    unfold Ea.addn at hAL
                    rw [List.length_append, len_data] at hAL
                    obtain ⟨G, hG, hGl, hGs⟩ := named (l := Ea.drw Ea.gA a.data.toList (Ea.setsAdd a.data.toList))
                    rw [hG] at HDR
                    have hw47 : Ea.wAdd a.size ≤ 47 := by unfold Ea.wAdd; (repeat' split) <;> omega
                    have hGs : G.size ≤ 47 := by omega
                    have HL9 := Lib.hid (repeat_any 9 (by omega))
                    obtain ⟨N9, h9, h9l, h9s⟩ := named (l := Ea.lgt 9)
                    rw [h9] at HL9
                    rw [Ea.lgt_len] at h9s
                    have HL7 := Lib.hid (repeat_any 7 (by omega))
                    obtain ⟨N7, h7, h7l, h7s⟩ := named (l := Ea.lgt 7)
                    rw [h7] at HL7
                    rw [Ea.lgt_len] at h7s
                    have HMO := Lib.hid (modules_any (L ++ Y ++ (N9 ++ ⟨#[49, 48, 49, 49]⟩ ++ G) ++ N7) (Ea.lgt (Ea.lq 4) ++ Ea.sym 4 s.data.toList ++ Ea.lgt 9 ++ Ea.addn a.data.toList ++ Ea.lgt 7) (by
                      simp only [ByteArray.data_append, Array.toList_append, hLl, hYl, h9l, h7l, hGl, Ea.mS_app, Ea.addn, List.append_assoc]
                      rfl) (by
                      have e3 : (Ea.addn a.data.toList).length ≤ 47 := by rw [Ea.addn_len a1' (by rw [len_data]; exact a25), len_data]; exact hw47
                      simp only [List.length_append, Ea.lgt_len]
                      rw [← Ea.mS_len (Ea.sym 4 s.data.toList), ← hYl, len_data]; omega))
                    have hLs : L.size ≤ 11 := by omega
                    obtain ⟨T, hT⟩ : ∃ T, Ea.bS (Ea.sS (Ea.setsAdd a.data.toList)) = T := ⟨_, rfl⟩
                    rw [hT] at HAS HDR
                    have zy : a.toList.isEmpty = false := by
                      rw [Lib.toList_data, Bool.eq_false_iff]; intro h; exact a3 ((empty_iff a).1 (List.isEmpty_iff.1 h))
                    have z0 : ((a.size : Int) != 0) = true := bne_iff_ne.2 (by omega)
                    have z25 : ((a.size : Int) != 2 && (a.size : Int) != 5) = false := by
                      rcases a25 with h | h <;> rw [h] <;> rfl
                    generalize Ea.enc 4 s.data.toList a.data.toList = res at *
                    generalize Ea.size 4 = n at *
                    generalize Ea.lq 4 = lq at *
                    generalize Ea.rq 4 = rq at *
                    have ha5 : a.size ≤ 5 := by omega
                    clear a1 a1' a2 a3 hf0 hY hYl hL hLl h9 h9l h7 h7l hG hGl e1 e2 hAL hw47 hT
                    rcases a25 with a25 | a25
                    · have z2 : ((a.size : Int) != 2) = false := by rw [a25]; rfl
                      clear a25 z25
                      clear h1 h2 h2' h3 h5 hkk hn1 HF
                      go_enter Tryz.func11, Tryz.ntmps11
                      go_wp2_with fail
                      refine (HZ.out _).mono ?_
                      rintro e w1 ⟨rfl, rfl⟩
                      go_wp2_with fail
                      refine (HD.out _).mono ?_
                      rintro e w1 ⟨rfl, rfl⟩
                      go_wp2_with fail
                      refine (HN.out _).mono ?_
                      rintro e w1 ⟨rfl, rfl⟩
                      go_wp2_with fail
                      refine (HRI.out _).mono ?_
                      rintro e w2 ⟨rfl, hx2⟩
                      go_wp2_with fail
                      refine (HDA.out _).mono ?_
                      rintro e w1 ⟨rfl, rfl⟩
                      go_wp2_with fail
                      refine (HQ.out _).mono ?_
                      rintro e w1 ⟨rfl, rfl⟩
                      go_wp2_with fail
                      refine (HL.out _).mono ?_
                      rintro e w3 ⟨rfl, hx3⟩
                      go_wp2_with fail
                      refine (HSY.out _).mono ?_
                      rintro e w4 ⟨rfl, hx4⟩
                      go_wp2_with fail
                      refine (HL9.out _).mono ?_
                      rintro e w5 ⟨rfl, hx5⟩
                      go_wp2_with fail
                      refine (HAS.out _).mono ?_
                      rintro e w6 ⟨rfl, hx6⟩
                      go_wp2_with fail
                      refine (HDR.out _).mono ?_
                      rintro e w7 ⟨rfl, hx7⟩
                      go_wp2_with fail
                      refine (HL7.out _).mono ?_
                      rintro e w8 ⟨rfl, hx8⟩
                      go_wp2_with fail
                      refine (HMO.out _).mono ?_
                      rintro e w9 ⟨v, rfl, hs9, hx9⟩
                      go_wp2
                      go_ret2
                      exact ⟨v, by rw [HX.out]; rfl, by rw [HX.out]; exact hs9, ((((((hx2.trans hx3).trans hx4).trans hx5).trans hx6).trans hx7).trans hx8).trans hx9⟩
                    · have z2 : ((a.size : Int) != 2) = true := by rw [a25]; rfl
                      have z5 : ((a.size : Int) != 5) = false := by rw [a25]; rfl
                      clear a25 z25
                      clear h1 h2 h2' h3 h5 hkk hn1 HF
                      go_enter Tryz.func11, Tryz.ntmps11
                      go_wp2_with fail
                      refine (HZ.out _).mono ?_
                      rintro e w1 ⟨rfl, rfl⟩
                      go_wp2_with fail
                      refine (HD.out _).mono ?_
                      rintro e w1 ⟨rfl, rfl⟩
                      go_wp2_with fail
                      refine (HN.out _).mono ?_
                      rintro e w1 ⟨rfl, rfl⟩
                      go_wp2_with fail
                      refine (HRI.out _).mono ?_
                      rintro e w2 ⟨rfl, hx2⟩
                      go_wp2_with fail
                      refine (HDA.out _).mono ?_
                      rintro e w1 ⟨rfl, rfl⟩
                      go_wp2_with fail
                      refine (HQ.out _).mono ?_
                      rintro e w1 ⟨rfl, rfl⟩
                      go_wp2_with fail
                      refine (HL.out _).mono ?_
                      rintro e w3 ⟨rfl, hx3⟩
                      go_wp2_with fail
                      refine (HSY.out _).mono ?_
                      rintro e w4 ⟨rfl, hx4⟩
                      go_wp2_with fail
                      refine (HL9.out _).mono ?_
                      rintro e w5 ⟨rfl, hx5⟩
                      go_wp2_with fail
                      refine (HAS.out _).mono ?_
                      rintro e w6 ⟨rfl, hx6⟩
                      go_wp2_with fail
                      refine (HDR.out _).mono ?_
                      rintro e w7 ⟨rfl, hx7⟩
                      go_wp2_with fail
                      refine (HL7.out _).mono ?_
                      rintro e w8 ⟨rfl, hx8⟩
                      go_wp2_with fail
                      refine (HMO.out _).mono ?_
                      rintro e w9 ⟨v, rfl, hs9, hx9⟩
                      go_wp2
                      go_ret2
                      exact ⟨v, by rw [HX.out]; rfl, by rw [HX.out]; exact hs9, ((((((hx2.trans hx3).trans hx4).trans hx5).trans hx6).trans hx7).trans hx8).trans hx9⟩
            · rw [if_neg h5] at HF
              rw [decide_eq_false h5] at HRI
              rw [HF.out, if_pos (by decide)] at HX
              generalize Ea.enc 4 s.data.toList a.data.toList = res at *
              generalize Ea.size 4 = n at *
              clear h1 h2 h2' h3 h5 hkk hn1 HF
              go_enter Tryz.func11, Tryz.ntmps11
              go_wp2_with fail
              refine (HZ.out _).mono ?_
              rintro e w1 ⟨rfl, rfl⟩
              go_wp2_with fail
              refine (HD.out _).mono ?_
              rintro e w1 ⟨rfl, rfl⟩
              go_wp2_with fail
              refine (HN.out _).mono ?_
              rintro e w1 ⟨rfl, rfl⟩
              go_wp2_with fail
              refine (HRI.out _).mono ?_
              rintro e w2 ⟨rfl, hx2⟩
              go_wp2
              go_ret2
              exact ⟨_, by rw [HX.out]; rfl, by rw [HX.out]; exact SlK.nil _, hx2⟩
          · rw [if_pos ⟨rfl, h6⟩] at HF
            rw [HF.out, if_pos (by decide)] at HX
            rw [decide_eq_false h6] at HN
            generalize Ea.enc 4 s.data.toList a.data.toList = res at *
            generalize Ea.size 4 = n at *
            clear h1 h2 h2' h3 h6 hkk hn1 HF HRI
            go_enter Tryz.func11, Tryz.ntmps11
            go_wp2_with fail
            refine (HZ.out _).mono ?_
            rintro e w1 ⟨rfl, rfl⟩
            go_wp2_with fail
            refine (HD.out _).mono ?_
            rintro e w1 ⟨rfl, rfl⟩
            go_wp2_with fail
            refine (HN.out _).mono ?_
            rintro e w1 ⟨rfl, rfl⟩
            go_wp2
            go_ret2
            exact ⟨_, by rw [HX.out]; rfl, by rw [HX.out]; exact SlK.nil _, Ext.refl _⟩
        · have b4 : (k == 4) = false := beq_eq_false_iff_ne.2 h4
          rw [if_neg (fun h => h4 h.1)] at HF
          by_cases h5 : Ea.good (if k = 4 then Ea.exp8 s.data.toList else s.data.toList)
          · rw [if_pos h5] at HF
            rw [decide_eq_true h5] at HRI
            have hf0 : Ea.full k s.data.toList = 0 := HF.out
            rw [HF.out, if_neg (by decide)] at HX
            by_cases a1 : Ea.digs a.data.toList = false
            · rw [if_pos a1] at HX
              rw [a1] at HDA
              generalize Ea.enc k s.data.toList a.data.toList = res at *
              generalize Ea.size k = n at *
              clear h1 h2 h2' h3 h5 hkk hn1 HF h4
              go_enter Tryz.func11, Tryz.ntmps11
              go_wp2_with fail
              refine (HZ.out _).mono ?_
              rintro e w1 ⟨rfl, rfl⟩
              go_wp2_with fail
              refine (HD.out _).mono ?_
              rintro e w1 ⟨rfl, rfl⟩
              go_wp2_with fail
              refine (HRI.out _).mono ?_
              rintro e w2 ⟨rfl, hx2⟩
              go_wp2_with fail
              refine (HDA.out _).mono ?_
              rintro e w1 ⟨rfl, rfl⟩
              go_wp2
              go_ret2
              exact ⟨_, by rw [HX.out]; rfl, by rw [HX.out]; exact SlK.nil _, hx2⟩
            · have a1' : Ea.digs a.data.toList = true := by simpa using a1
              rw [if_neg a1] at HX
              rw [a1'] at HDA
              by_cases a2 : a.size ≠ 0 ∧ a.size ≠ 2 ∧ a.size ≠ 5
              · rw [if_pos a2] at HX
                generalize Ea.enc k s.data.toList a.data.toList = res at *
                generalize Ea.size k = n at *
                have z0 : ((a.size : Int) != 0) = true := bne_iff_ne.2 (by omega)
                have z2 : ((a.size : Int) != 2) = true := bne_iff_ne.2 (by omega)
                have z5 : ((a.size : Int) != 5) = true := bne_iff_ne.2 (by omega)
                clear a1 a1' a2
                clear h1 h2 h2' h3 h5 hkk hn1 HF h4
                go_enter Tryz.func11, Tryz.ntmps11
                go_wp2_with fail
                refine (HZ.out _).mono ?_
                rintro e w1 ⟨rfl, rfl⟩
                go_wp2_with fail
                refine (HD.out _).mono ?_
                rintro e w1 ⟨rfl, rfl⟩
                go_wp2_with fail
                refine (HRI.out _).mono ?_
                rintro e w2 ⟨rfl, hx2⟩
                go_wp2_with fail
                refine (HDA.out _).mono ?_
                rintro e w1 ⟨rfl, rfl⟩
                go_wp2
                go_ret2
                exact ⟨_, by rw [HX.out]; rfl, by rw [HX.out]; exact SlK.nil _, hx2⟩
              · rw [if_neg a2] at HX
                have HSY := Lib.hid (symbol_any k s hf0)
                obtain ⟨Y, hY, hYl, hYs⟩ := named (l := Ea.sym k s.data.toList)
                rw [hY] at HSY
                rw [Ea.sym_len hf0] at hYs
                have hYs : Y.size ≤ 95 := by rw [hYs]; unfold Ea.wOf; (repeat' split) <;> omega
                have hlq : Ea.lq k ≤ 11 := by unfold Ea.lq; (repeat' split) <;> omega
                have hrq : Ea.rq k ≤ 9 := by unfold Ea.rq; split <;> omega
                have HL := Lib.hid (repeat_any (Ea.lq k) (by omega))
                obtain ⟨L, hL, hLl, hLs⟩ := named (l := Ea.lgt (Ea.lq k))
                rw [hL] at HL
                rw [Ea.lgt_len] at hLs
                by_cases a3 : a.size = 0
                · rw [if_pos a3] at HX
                  have HRQ := Lib.hid (repeat_any (Ea.rq k) (by omega))
                  obtain ⟨Q, hQ, hQl, hQs⟩ := named (l := Ea.lgt (Ea.rq k))
                  rw [hQ] at HRQ
                  rw [Ea.lgt_len] at hQs
                  have HMO := Lib.hid (modules_any (L ++ Y ++ Q) (Ea.lgt (Ea.lq k) ++ Ea.sym k s.data.toList ++ Ea.lgt (Ea.rq k)) (by
                    simp only [ByteArray.data_append, Array.toList_append, hLl, hYl, hQl, Ea.mS_app]) (by rw [List.length_append, List.length_append, Ea.lgt_len, Ea.lgt_len, ← Ea.mS_len (Ea.sym k s.data.toList), ← hYl, len_data]; omega))
                  have hLs : L.size ≤ 11 := by omega
                  have hQs : Q.size ≤ 9 := by omega
                  have zz : a.toList = [] := by rw [Lib.toList_data, (empty_iff a).2 a3]
                  have zy : a.toList.isEmpty = true := by rw [zz]; rfl
                  have z0 : ((a.size : Int) != 0) = false := by rw [a3]; rfl
                  generalize Ea.enc k s.data.toList a.data.toList = res at *
                  generalize Ea.size k = n at *
                  generalize Ea.lq k = lq at *
                  generalize Ea.rq k = rq at *
                  clear a1 a1' a2 a3 hf0 hY hYl hL hLl hQ hQl
                  clear h1 h2 h2' h3 h5 hkk hn1 HF h4
                  go_enter Tryz.func11, Tryz.ntmps11
                  go_wp2_with fail
                  refine (HZ.out _).mono ?_
                  rintro e w1 ⟨rfl, rfl⟩
                  go_wp2_with fail
                  refine (HD.out _).mono ?_
                  rintro e w1 ⟨rfl, rfl⟩
                  go_wp2_with fail
                  refine (HRI.out _).mono ?_
                  rintro e w2 ⟨rfl, hx2⟩
                  go_wp2_with fail
                  refine (HDA.out _).mono ?_
                  rintro e w1 ⟨rfl, rfl⟩
                  go_wp2_with fail
                  refine (HQ.out _).mono ?_
                  rintro e w1 ⟨rfl, rfl⟩
                  go_wp2_with fail
                  refine (HL.out _).mono ?_
                  rintro e w3 ⟨rfl, hx3⟩
                  go_wp2_with fail
                  refine (HSY.out _).mono ?_
                  rintro e w4 ⟨rfl, hx4⟩
                  go_wp2_with fail
                  refine (HRQ.out _).mono ?_
                  rintro e w5 ⟨rfl, hx5⟩
                  go_wp2_with fail
                  refine (HMO.out _).mono ?_
                  rintro e w6 ⟨v, rfl, hs6, hx6⟩
                  go_wp2
                  go_ret2
                  exact ⟨v, by rw [HX.out]; rfl, by rw [HX.out]; exact hs6, (((hx2.trans hx3).trans hx4).trans hx5).trans hx6⟩
                · rw [if_neg a3] at HX
                  have a25 : a.size = 2 ∨ a.size = 5 := by omega
                  obtain ⟨e1, e2⟩ := Ea.setsAdd_ok (a := a.data.toList) (by rw [len_data]; exact a25)
                  have HAS := Lib.hid (addOnSets_any a a25 a1')
                  have HDR := Lib.hid (draw_any a (Ea.bS (Ea.sS (Ea.setsAdd a.data.toList))) ⟨#[48, 49]⟩ (Ea.setsAdd a.data.toList) Ea.gA a1' rfl (by rw [e1, len_data]) (fun u hu => by have := e2 u hu; omega) rfl (by omega) (by decide))
                  have hAL := Ea.addn_len a1' (by rw [len_data]; exact a25)
                  unfold Ea.addn at hAL
                  rw [List.length_append, len_data] at hAL
                  obtain ⟨G, hG, hGl, hGs⟩ := named (l := Ea.drw Ea.gA a.data.toList (Ea.setsAdd a.data.toList))
                  rw [hG] at HDR
                  have hw47 : Ea.wAdd a.size ≤ 47 := by unfold Ea.wAdd; (repeat' split) <;> omega
                  have hGs : G.size ≤ 47 := by omega
                  have HL9 := Lib.hid (repeat_any 9 (by omega))
                  obtain ⟨N9, h9, h9l, h9s⟩ := named (l := Ea.lgt 9)
                  rw [h9] at HL9
                  rw [Ea.lgt_len] at h9s
                  have HL7 := Lib.hid (repeat_any 7 (by omega))
                  obtain ⟨N7, h7, h7l, h7s⟩ := named (l := Ea.lgt 7)
                  rw [h7] at HL7
                  rw [Ea.lgt_len] at h7s
                  have HMO := Lib.hid (modules_any (L ++ Y ++ (N9 ++ ⟨#[49, 48, 49, 49]⟩ ++ G) ++ N7) (Ea.lgt (Ea.lq k) ++ Ea.sym k s.data.toList ++ Ea.lgt 9 ++ Ea.addn a.data.toList ++ Ea.lgt 7) (by
                    simp only [ByteArray.data_append, Array.toList_append, hLl, hYl, h9l, h7l, hGl, Ea.mS_app, Ea.addn, List.append_assoc]
                    rfl) (by
                    have e3 : (Ea.addn a.data.toList).length ≤ 47 := by rw [Ea.addn_len a1' (by rw [len_data]; exact a25), len_data]; exact hw47
                    simp only [List.length_append, Ea.lgt_len]
                    rw [← Ea.mS_len (Ea.sym k s.data.toList), ← hYl, len_data]; omega))
                  have hLs : L.size ≤ 11 := by omega
                  obtain ⟨T, hT⟩ : ∃ T, Ea.bS (Ea.sS (Ea.setsAdd a.data.toList)) = T := ⟨_, rfl⟩
                  rw [hT] at HAS HDR
                  have zy : a.toList.isEmpty = false := by
                    rw [Lib.toList_data, Bool.eq_false_iff]; intro h; exact a3 ((empty_iff a).1 (List.isEmpty_iff.1 h))
                  have z0 : ((a.size : Int) != 0) = true := bne_iff_ne.2 (by omega)
                  have z25 : ((a.size : Int) != 2 && (a.size : Int) != 5) = false := by
                    rcases a25 with h | h <;> rw [h] <;> rfl
                  generalize Ea.enc k s.data.toList a.data.toList = res at *
                  generalize Ea.size k = n at *
                  generalize Ea.lq k = lq at *
                  generalize Ea.rq k = rq at *
                  have ha5 : a.size ≤ 5 := by omega
                  clear a1 a1' a2 a3 hf0 hY hYl hL hLl h9 h9l h7 h7l hG hGl e1 e2 hAL hw47 hT
                  rcases a25 with a25 | a25
                  · have z2 : ((a.size : Int) != 2) = false := by rw [a25]; rfl
                    clear a25 z25
                    clear h1 h2 h2' h3 h5 hkk hn1 HF h4
                    go_enter Tryz.func11, Tryz.ntmps11
                    go_wp2_with fail
                    refine (HZ.out _).mono ?_
                    rintro e w1 ⟨rfl, rfl⟩
                    go_wp2_with fail
                    refine (HD.out _).mono ?_
                    rintro e w1 ⟨rfl, rfl⟩
                    go_wp2_with fail
                    refine (HRI.out _).mono ?_
                    rintro e w2 ⟨rfl, hx2⟩
                    go_wp2_with fail
                    refine (HDA.out _).mono ?_
                    rintro e w1 ⟨rfl, rfl⟩
                    go_wp2_with fail
                    refine (HQ.out _).mono ?_
                    rintro e w1 ⟨rfl, rfl⟩
                    go_wp2_with fail
                    refine (HL.out _).mono ?_
                    rintro e w3 ⟨rfl, hx3⟩
                    go_wp2_with fail
                    refine (HSY.out _).mono ?_
                    rintro e w4 ⟨rfl, hx4⟩
                    go_wp2_with fail
                    refine (HL9.out _).mono ?_
                    rintro e w5 ⟨rfl, hx5⟩
                    go_wp2_with fail
                    refine (HAS.out _).mono ?_
                    rintro e w6 ⟨rfl, hx6⟩
                    go_wp2_with fail
                    refine (HDR.out _).mono ?_
                    rintro e w7 ⟨rfl, hx7⟩
                    go_wp2_with fail
                    refine (HL7.out _).mono ?_
                    rintro e w8 ⟨rfl, hx8⟩
                    go_wp2_with fail
                    refine (HMO.out _).mono ?_
                    rintro e w9 ⟨v, rfl, hs9, hx9⟩
                    go_wp2
                    go_ret2
                    exact ⟨v, by rw [HX.out]; rfl, by rw [HX.out]; exact hs9, ((((((hx2.trans hx3).trans hx4).trans hx5).trans hx6).trans hx7).trans hx8).trans hx9⟩
                  · have z2 : ((a.size : Int) != 2) = true := by rw [a25]; rfl
                    have z5 : ((a.size : Int) != 5) = false := by rw [a25]; rfl
                    clear a25 z25
                    clear h1 h2 h2' h3 h5 hkk hn1 HF h4
                    go_enter Tryz.func11, Tryz.ntmps11
                    go_wp2_with fail
                    refine (HZ.out _).mono ?_
                    rintro e w1 ⟨rfl, rfl⟩
                    go_wp2_with fail
                    refine (HD.out _).mono ?_
                    rintro e w1 ⟨rfl, rfl⟩
                    go_wp2_with fail
                    refine (HRI.out _).mono ?_
                    rintro e w2 ⟨rfl, hx2⟩
                    go_wp2_with fail
                    refine (HDA.out _).mono ?_
                    rintro e w1 ⟨rfl, rfl⟩
                    go_wp2_with fail
                    refine (HQ.out _).mono ?_
                    rintro e w1 ⟨rfl, rfl⟩
                    go_wp2_with fail
                    refine (HL.out _).mono ?_
                    rintro e w3 ⟨rfl, hx3⟩
                    go_wp2_with fail
                    refine (HSY.out _).mono ?_
                    rintro e w4 ⟨rfl, hx4⟩
                    go_wp2_with fail
                    refine (HL9.out _).mono ?_
                    rintro e w5 ⟨rfl, hx5⟩
                    go_wp2_with fail
                    refine (HAS.out _).mono ?_
                    rintro e w6 ⟨rfl, hx6⟩
                    go_wp2_with fail
                    refine (HDR.out _).mono ?_
                    rintro e w7 ⟨rfl, hx7⟩
                    go_wp2_with fail
                    refine (HL7.out _).mono ?_
                    rintro e w8 ⟨rfl, hx8⟩
                    go_wp2_with fail
                    refine (HMO.out _).mono ?_
                    rintro e w9 ⟨v, rfl, hs9, hx9⟩
                    go_wp2
                    go_ret2
                    exact ⟨v, by rw [HX.out]; rfl, by rw [HX.out]; exact hs9, ((((((hx2.trans hx3).trans hx4).trans hx5).trans hx6).trans hx7).trans hx8).trans hx9⟩
          · rw [if_neg h5] at HF
            rw [decide_eq_false h5] at HRI
            rw [HF.out, if_pos (by decide)] at HX
            generalize Ea.enc k s.data.toList a.data.toList = res at *
            generalize Ea.size k = n at *
            clear h1 h2 h2' h3 h5 hkk hn1 HF h4
            go_enter Tryz.func11, Tryz.ntmps11
            go_wp2_with fail
            refine (HZ.out _).mono ?_
            rintro e w1 ⟨rfl, rfl⟩
            go_wp2_with fail
            refine (HD.out _).mono ?_
            rintro e w1 ⟨rfl, rfl⟩
            go_wp2_with fail
            refine (HRI.out _).mono ?_
            rintro e w2 ⟨rfl, hx2⟩
            go_wp2
            go_ret2
            exact ⟨_, by rw [HX.out]; rfl, by rw [HX.out]; exact SlK.nil _, hx2⟩
end Go.Proofs.YtfpliihglgjijaaGreat
