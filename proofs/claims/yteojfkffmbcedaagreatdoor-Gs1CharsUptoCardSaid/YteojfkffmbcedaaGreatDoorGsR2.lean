/-
  Chapter 14: the reference's table and Fixed, walked.
  No condition.
-/
import Derived.Test.YteojfkffmbcedaaGreatDoorGsR1
import Derived.Test.YteojfkffmbcedaaGreatDoorGsW6
namespace Go.Proofs.YteojfkffmbcedaaGreatDoor
set_option linter.unusedVariables false
open Go.RowKit

def NoKey (s : ByteArray) : Prop := (s.toList == [48, 48]) = false ∧ (s.toList == [48, 49]) = false ∧ (s.toList == [48, 50]) = false ∧ (s.toList == [49, 49]) = false ∧ (s.toList == [49, 50]) = false ∧ (s.toList == [49, 51]) = false ∧ (s.toList == [49, 53]) = false ∧ (s.toList == [49, 54]) = false ∧ (s.toList == [49, 55]) = false ∧ (s.toList == [50, 48]) = false ∧ (s.toList == [51, 48]) = false ∧ (s.toList == [51, 55]) = false ∧ (s.toList == [49, 48]) = false ∧ (s.toList == [50, 49]) = false ∧ (s.toList == [50, 50]) = false ∧ (s.toList == [50, 53, 52]) = false ∧ (s.toList == [56, 48, 50, 48]) = false ∧ (s.toList == [50, 52, 48]) = false ∧ (s.toList == [50, 52, 49]) = false ∧ (s.toList == [50, 53, 48]) = false ∧ (s.toList == [50, 53, 49]) = false ∧ (s.toList == [52, 48, 48]) = false ∧ (s.toList == [52, 48, 49]) = false ∧ (s.toList == [52, 48, 51]) = false ∧ (s.toList == [57, 48]) = false
theorem noKey_of (s : ByteArray) (h : (Gs.tabL.find? fun p => p.1 == s.data.toList) = none) : NoKey s := by
  rw [List.find?_eq_none] at h
  simp only [Gs.tabL, List.mem_cons, List.not_mem_nil, or_false, forall_eq_or_imp, forall_eq, beq_iff_eq] at h
  obtain ⟨h00, h01, h02, h11, h12, h13, h15, h16, h17, h20, h30, h37, h10, h21, h22, h254, h8020, h240, h241, h250, h251, h400, h401, h403, h90⟩ := h
  unfold NoKey
  rw [Lib.toList_data]
  exact ⟨beq_eq_false_iff_ne.2 (fun e => h00 e.symm), beq_eq_false_iff_ne.2 (fun e => h01 e.symm), beq_eq_false_iff_ne.2 (fun e => h02 e.symm), beq_eq_false_iff_ne.2 (fun e => h11 e.symm), beq_eq_false_iff_ne.2 (fun e => h12 e.symm), beq_eq_false_iff_ne.2 (fun e => h13 e.symm), beq_eq_false_iff_ne.2 (fun e => h15 e.symm), beq_eq_false_iff_ne.2 (fun e => h16 e.symm), beq_eq_false_iff_ne.2 (fun e => h17 e.symm), beq_eq_false_iff_ne.2 (fun e => h20 e.symm), beq_eq_false_iff_ne.2 (fun e => h30 e.symm), beq_eq_false_iff_ne.2 (fun e => h37 e.symm), beq_eq_false_iff_ne.2 (fun e => h10 e.symm), beq_eq_false_iff_ne.2 (fun e => h21 e.symm), beq_eq_false_iff_ne.2 (fun e => h22 e.symm), beq_eq_false_iff_ne.2 (fun e => h254 e.symm), beq_eq_false_iff_ne.2 (fun e => h8020 e.symm), beq_eq_false_iff_ne.2 (fun e => h240 e.symm), beq_eq_false_iff_ne.2 (fun e => h241 e.symm), beq_eq_false_iff_ne.2 (fun e => h250 e.symm), beq_eq_false_iff_ne.2 (fun e => h251 e.symm), beq_eq_false_iff_ne.2 (fun e => h400 e.symm), beq_eq_false_iff_ne.2 (fun e => h401 e.symm), beq_eq_false_iff_ne.2 (fun e => h403 e.symm), beq_eq_false_iff_ne.2 (fun e => h90 e.symm)⟩
/-- What table returns. -/
def TabR (r : Int × Int) (w : World) (e : Ending) (w' : World) : Prop := e = .returned (.tuple #[.int .i64 r.1, .int .i64 r.2]) ∧ Ext w w'
theorem sub3 (s : ByteArray) : (s.extract 0 3).toList = s.data.toList.take 3 := by rw [Lib.toList_data, cut_front]

set_option maxRecDepth 100000 in
set_option maxHeartbeats 8000000 in
theorem table_no (s : ByteArray) (hs : s.size ≤ maxLen) (w : World) (h : NoKey s) :
    Calls Tryz.prog 24 #[.string s] w (TabR (Gs.tab2 s.data.toList) w) := by
  have HD := Lib.hid (digits_any s hs w)
  have HT := Lib.hid (Gs.tab2.eq_1 s.data.toList)
  generalize Gs.tab2 s.data.toList = res at *
  unfold NoKey at h
  obtain ⟨h00, h01, h02, h11, h12, h13, h15, h16, h17, h20, h30, h37, h10, h21, h22, h254, h8020, h240, h241, h250, h251, h400, h401, h403, h90⟩ := h
  rw [len_data] at HT
  cases hdd : s.data.toList.all (fun c => Cd.isDig c.toNat)
  · rw [hdd] at HD HT
    have HR : Hid (res = (0, 0)) := Lib.hid (by rw [HT.out, if_pos rfl])
    clear HT hdd
    go_enter Tryz.func24, Tryz.ntmps24
    go_wp2_with fail
    refine HD.out.mono ?_
    rintro e w' ⟨rfl, rfl⟩
    go_wp2
    go_ret2
    exact ⟨by rw [HR.out]; rfl, Ext.refl _⟩
  · rw [hdd] at HD HT
    have HT1 := Lib.hid (HT.out.trans (if_neg (by simp)))
    clear HT hdd
    by_cases h2 : s.size = 2
    · have i2 : ((s.size : Int) == 2) = true := by rw [h2]; rfl
      have i3 : ((s.size : Int) == 3) = false := by rw [h2]; rfl
      have i4 : ((s.size : Int) == 4) = false := by rw [h2]; rfl
      cases hb : Gs.leB s.data.toList [57, 48]
      · have HR : Hid (res = (5, 90)) := Lib.hid (by rw [HT1.out, if_pos ⟨h2, hb⟩])
        unfold Gs.leB at hb
        rw [← Lib.toList_data, Bool.or_eq_false_iff] at hb
        obtain ⟨j1, j2⟩ := hb
        clear HT1 h2
        go_enter Tryz.func24, Tryz.ntmps24
        go_wp2_with fail
        refine HD.out.mono ?_
        rintro e w' ⟨rfl, rfl⟩
        go_wp2
        go_ret2
        exact ⟨by rw [HR.out]; rfl, Ext.refl _⟩
      · have HR : Hid (res = (0, 0)) := Lib.hid (by rw [HT1.out, if_neg (by rw [hb]; simp), if_neg (by omega), if_neg (by omega), if_neg (by omega)])
        unfold Gs.leB at hb
        rw [← Lib.toList_data] at hb
        clear HT1 h2
        go_enter Tryz.func24, Tryz.ntmps24
        go_wp2_with fail
        refine HD.out.mono ?_
        rintro e w' ⟨rfl, rfl⟩
        cases hlt : Op.bytesLess s.toList [57, 48]
        · rw [hlt, Bool.false_or, h90] at hb
          exact Bool.noConfusion hb
        · clear hb
          go_wp2
          go_ret2
          exact ⟨by rw [HR.out]; rfl, Ext.refl _⟩
    by_cases h3 : s.size = 3
    · have i2 : ((s.size : Int) == 2) = false := by rw [h3]; rfl
      have i3 : ((s.size : Int) == 3) = true := by rw [h3]; rfl
      have i4 : ((s.size : Int) == 4) = false := by rw [h3]; rfl
      cases hb1 : Op.bytesLess s.data.toList [52, 49, 48]
      · cases hb : Gs.leB s.data.toList [52, 49, 55]
        · have HR : Hid (res = (0, 0)) := Lib.hid (by rw [HT1.out, if_neg (by omega), if_neg (by rw [hb]; simp), if_neg (by omega), if_neg (by omega)])
          unfold Gs.leB at hb
          rw [← Lib.toList_data] at hb hb1
          rw [Bool.or_eq_false_iff] at hb
          obtain ⟨j1, j2⟩ := hb
          clear HT1 h2 h3
          go_enter Tryz.func24, Tryz.ntmps24
          go_wp2_with fail
          refine HD.out.mono ?_
          rintro e w' ⟨rfl, rfl⟩
          go_wp2
          go_ret2
          exact ⟨by rw [HR.out]; rfl, Ext.refl _⟩
        · have HR : Hid (res = (2, 13)) := Lib.hid (by rw [HT1.out, if_neg (by omega), if_pos ⟨h3, hb1, hb⟩])
          unfold Gs.leB at hb
          rw [← Lib.toList_data] at hb hb1
          clear HT1 h2 h3
          cases hlt : Op.bytesLess s.toList [52, 49, 55]
          · rw [hlt, Bool.false_or] at hb
            go_enter Tryz.func24, Tryz.ntmps24
            go_wp2_with fail
            refine HD.out.mono ?_
            rintro e w' ⟨rfl, rfl⟩
            go_wp2
            go_ret2
            exact ⟨by rw [HR.out]; rfl, Ext.refl _⟩
          · clear hb
            go_enter Tryz.func24, Tryz.ntmps24
            go_wp2_with fail
            refine HD.out.mono ?_
            rintro e w' ⟨rfl, rfl⟩
            go_wp2
            go_ret2
            exact ⟨by rw [HR.out]; rfl, Ext.refl _⟩
      · have HR : Hid (res = (0, 0)) := Lib.hid (by rw [HT1.out, if_neg (by omega), if_neg (by rw [hb1]; simp), if_neg (by omega), if_neg (by omega)])
        rw [← Lib.toList_data] at hb1
        clear HT1 h2 h3
        go_enter Tryz.func24, Tryz.ntmps24
        go_wp2_with fail
        refine HD.out.mono ?_
        rintro e w' ⟨rfl, rfl⟩
        go_wp2
        go_ret2
        exact ⟨by rw [HR.out]; rfl, Ext.refl _⟩
    by_cases h4 : s.size = 4
    · have i2 : ((s.size : Int) == 2) = false := by rw [h4]; rfl
      have i3 : ((s.size : Int) == 3) = false := by rw [h4]; rfl
      have i4 : ((s.size : Int) == 4) = true := by rw [h4]; rfl
      have hs3 : 3 < s.size := by omega
      obtain ⟨X, hX⟩ : ∃ X, s.extract 0 3 = X := ⟨_, rfl⟩
      have HX : Hid (s.data.toList.take 3 = X.toList) := Lib.hid (by rw [← hX, sub3])
      rw [HX.out, gdat s 3 hs3] at HT1
      have HT2 := Lib.hid (HT1.out.trans ((if_neg (by omega)).trans (if_neg (by omega))))
      obtain ⟨c, hc⟩ : ∃ c, s[3] = c := ⟨_, rfl⟩
      rw [hc] at HT2
      clear HT1 h2 h3 HX
      cases e0 : X.toList == [51, 57, 48]
      · cases e2 : X.toList == [51, 57, 50]
        · have HT3 := Lib.hid (HT2.out.trans (if_neg (fun h => h.2.elim (fun e => by rw [e] at e0; exact absurd e0 (by decide)) (fun e => by rw [e] at e2; exact absurd e2 (by decide)))))
          clear HT2
          by_cases h5 : c.toNat ≤ 53
          · have HRB := Lib.hid (Gs.rngB.eq_1 X.toList)
            unfold Gs.leB at HRB
            have HT4 : Hid (res = if Gs.rngB X.toList = true then (1, 6) else (0, 0)) := Lib.hid (by
              rw [HT3.out]
              by_cases hr : Gs.rngB X.toList = true
              · rw [if_pos ⟨h4, h5, hr⟩, if_pos hr]
              · rw [if_neg (fun h => hr h.2.2), if_neg hr])
            clear HT3
            generalize Gs.rngB X.toList = rb at *
            have h5i : (c.toNat : Int) ≤ 53 := by omega
            cases l1 : Op.bytesLess X.toList [51, 49, 48]
            · cases l2 : Op.bytesLess X.toList [51, 49, 54]
              · cases q2 : X.toList == [51, 49, 54]
                · cases l3 : Op.bytesLess X.toList [51, 50, 48]
                  · cases l4 : Op.bytesLess X.toList [51, 51, 55]
                    · cases q4 : X.toList == [51, 51, 55]
                      · have HR : Hid (res = (0, 0)) := Lib.hid (by rw [HT4.out, HRB.out, l1, l2, q2, l3, l4, q4]; rfl)
                        clear HT4 HRB h4 h5
                        go_enter Tryz.func24, Tryz.ntmps24
                        go_wp2_with fail
                        refine HD.out.mono ?_
                        rintro e w' ⟨rfl, rfl⟩
                        go_wp2
                        go_ret2
                        exact ⟨by rw [HR.out]; rfl, Ext.refl _⟩
                      · have HR : Hid (res = (1, 6)) := Lib.hid (by rw [HT4.out, HRB.out, l1, l2, q2, l3, l4, q4]; rfl)
                        clear HT4 HRB h4 h5
                        go_enter Tryz.func24, Tryz.ntmps24
                        go_wp2_with fail
                        refine HD.out.mono ?_
                        rintro e w' ⟨rfl, rfl⟩
                        go_wp2
                        go_ret2
                        exact ⟨by rw [HR.out]; rfl, Ext.refl _⟩
                    · have HR : Hid (res = (1, 6)) := Lib.hid (by rw [HT4.out, HRB.out, l1, l2, q2, l3, l4]; rfl)
                      clear HT4 HRB h4 h5
                      go_enter Tryz.func24, Tryz.ntmps24
                      go_wp2_with fail
                      refine HD.out.mono ?_
                      rintro e w' ⟨rfl, rfl⟩
                      go_wp2
                      go_ret2
                      exact ⟨by rw [HR.out]; rfl, Ext.refl _⟩
                  · have HR : Hid (res = (0, 0)) := Lib.hid (by rw [HT4.out, HRB.out, l1, l2, q2, l3]; rfl)
                    clear HT4 HRB h4 h5
                    go_enter Tryz.func24, Tryz.ntmps24
                    go_wp2_with fail
                    refine HD.out.mono ?_
                    rintro e w' ⟨rfl, rfl⟩
                    go_wp2
                    go_ret2
                    exact ⟨by rw [HR.out]; rfl, Ext.refl _⟩
                · have HR : Hid (res = (1, 6)) := Lib.hid (by rw [HT4.out, HRB.out, l1, l2, q2]; rfl)
                  clear HT4 HRB h4 h5
                  go_enter Tryz.func24, Tryz.ntmps24
                  go_wp2_with fail
                  refine HD.out.mono ?_
                  rintro e w' ⟨rfl, rfl⟩
                  go_wp2
                  go_ret2
                  exact ⟨by rw [HR.out]; rfl, Ext.refl _⟩
              · have HR : Hid (res = (1, 6)) := Lib.hid (by rw [HT4.out, HRB.out, l1, l2]; rfl)
                clear HT4 HRB h4 h5
                go_enter Tryz.func24, Tryz.ntmps24
                go_wp2_with fail
                refine HD.out.mono ?_
                rintro e w' ⟨rfl, rfl⟩
                go_wp2
                go_ret2
                exact ⟨by rw [HR.out]; rfl, Ext.refl _⟩
            · cases l3 : Op.bytesLess X.toList [51, 50, 48]
              · cases l4 : Op.bytesLess X.toList [51, 51, 55]
                · cases q4 : X.toList == [51, 51, 55]
                  · have HR : Hid (res = (0, 0)) := Lib.hid (by rw [HT4.out, HRB.out, l1, l3, l4, q4]; rfl)
                    clear HT4 HRB h4 h5
                    go_enter Tryz.func24, Tryz.ntmps24
                    go_wp2_with fail
                    refine HD.out.mono ?_
                    rintro e w' ⟨rfl, rfl⟩
                    go_wp2
                    go_ret2
                    exact ⟨by rw [HR.out]; rfl, Ext.refl _⟩
                  · have HR : Hid (res = (1, 6)) := Lib.hid (by rw [HT4.out, HRB.out, l1, l3, l4, q4]; rfl)
                    clear HT4 HRB h4 h5
                    go_enter Tryz.func24, Tryz.ntmps24
                    go_wp2_with fail
                    refine HD.out.mono ?_
                    rintro e w' ⟨rfl, rfl⟩
                    go_wp2
                    go_ret2
                    exact ⟨by rw [HR.out]; rfl, Ext.refl _⟩
                · have HR : Hid (res = (1, 6)) := Lib.hid (by rw [HT4.out, HRB.out, l1, l3, l4]; rfl)
                  clear HT4 HRB h4 h5
                  go_enter Tryz.func24, Tryz.ntmps24
                  go_wp2_with fail
                  refine HD.out.mono ?_
                  rintro e w' ⟨rfl, rfl⟩
                  go_wp2
                  go_ret2
                  exact ⟨by rw [HR.out]; rfl, Ext.refl _⟩
              · have HR : Hid (res = (0, 0)) := Lib.hid (by rw [HT4.out, HRB.out, l1, l3]; rfl)
                clear HT4 HRB h4 h5
                go_enter Tryz.func24, Tryz.ntmps24
                go_wp2_with fail
                refine HD.out.mono ?_
                rintro e w' ⟨rfl, rfl⟩
                go_wp2
                go_ret2
                exact ⟨by rw [HR.out]; rfl, Ext.refl _⟩
          · have HR : Hid (res = (0, 0)) := Lib.hid (by rw [HT3.out, if_neg (fun h => h5 h.2.1)])
            have h5i : ¬ ((c.toNat : Int) ≤ 53) := by omega
            have h5j : (53 : Int) < (c.toNat : Int) := by omega
            clear HT3 h4 h5
            go_enter Tryz.func24, Tryz.ntmps24
            go_wp2_with fail
            refine HD.out.mono ?_
            rintro e w' ⟨rfl, rfl⟩
            go_wp2
            go_ret2
            exact ⟨by rw [HR.out]; rfl, Ext.refl _⟩
        · have HR : Hid (res = (4, 15)) := Lib.hid (by rw [HT2.out, if_pos ⟨h4, .inr (by simpa using e2)⟩])
          clear HT2 h4
          go_enter Tryz.func24, Tryz.ntmps24
          go_wp2_with fail
          refine HD.out.mono ?_
          rintro e w' ⟨rfl, rfl⟩
          go_wp2
          go_ret2
          exact ⟨by rw [HR.out]; rfl, Ext.refl _⟩
      · have HR : Hid (res = (4, 15)) := Lib.hid (by rw [HT2.out, if_pos ⟨h4, .inl (by simpa using e0)⟩])
        clear HT2 h4
        go_enter Tryz.func24, Tryz.ntmps24
        go_wp2_with fail
        refine HD.out.mono ?_
        rintro e w' ⟨rfl, rfl⟩
        go_wp2
        go_ret2
        exact ⟨by rw [HR.out]; rfl, Ext.refl _⟩
    · have i2 : ((s.size : Int) == 2) = false := by rw [beq_eq_false_iff_ne]; omega
      have i3 : ((s.size : Int) == 3) = false := by rw [beq_eq_false_iff_ne]; omega
      have i4 : ((s.size : Int) == 4) = false := by rw [beq_eq_false_iff_ne]; omega
      have HR : Hid (res = (0, 0)) := Lib.hid (by rw [HT1.out, if_neg (by omega), if_neg (by omega), if_neg (by omega), if_neg (by omega)])
      clear HT1 h2 h3 h4
      go_enter Tryz.func24, Tryz.ntmps24
      go_wp2_with fail
      refine HD.out.mono ?_
      rintro e w' ⟨rfl, rfl⟩
      go_wp2
      go_ret2
      exact ⟨by rw [HR.out]; rfl, Ext.refl _⟩
end Go.Proofs.YteojfkffmbcedaaGreatDoor
