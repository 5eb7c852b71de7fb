/-
  Chapter 11: EanExpands, walked.
  Condition: a string within the reach.
-/
import Derived.Test.YtfpliihglgjijaaGreatEaL1
namespace Go.Proofs.YtfpliihglgjijaaGreat
set_option linter.unusedVariables false
open Go.RowKit

set_option maxRecDepth 100000 in
set_option maxHeartbeats 1000000 in
theorem expands_yyy (k : Int) (s : ByteArray) (hs : s.size ≤ 9223372036854775807) (U : ByteArray) (h1 : Ea.cprs s.data.toList = (U.data.toList, 0)) (E V : ByteArray) (h2 : Ea.expd s.data.toList = (E.data.toList, 0)) (h3 : Ea.cprs E.data.toList = (V.data.toList, 0)) (h4 : Ea.expd V.data.toList = (E.data.toList, 0)) (P : ByteArray) (h5 : Ea.comp k s.data.toList = (P.data.toList, 0)) (w : World) :
    Calls Tryz.prog 7 #[.int .i64 k, .string s] w fun e w' => e = .returned (.bool true) ∧ Ext w w' := by
  have HX := Lib.hid examples_any
  obtain ⟨e1, e2, e3, e4⟩ := Ea.expd_cprs h1
  rw [len_data] at e2 e3
  have H1 := Lib.hid (fun w => eCompress_any s hs w)
  have H2 := Lib.hid (fun w => eExpand_any U (by omega) w)
  rw [h1] at H1
  rw [e1] at H2
  unfold strE at H1 H2
  dsimp only at H1 H2
  rw [Ea.bS_of] at H1 H2
  have b1 : ((U.size : Int) != 8) = false := by rw [e2]; rfl
  have b2 : ((s.size : Int) != 12) = false := by rw [e3]; rfl
  have i1 : 7 < U.size := by omega
  have i2 : 11 < s.size := by omega
  have i3 : U.size ≤ 8 := by omega
  have i4 : s.size ≤ 12 := by omega
  have e5 : U[7] = s[11] := by
    have e6 := congrArg (fun l => l[0]?) e4
    simp only [List.getElem?_drop, Nat.add_zero] at e6
    rw [List.getElem?_eq_getElem (by rw [len_data]; omega), List.getElem?_eq_getElem (by rw [len_data]; omega)] at e6
    exact Option.some.inj e6
  obtain ⟨x, hx⟩ : ∃ x, s[11].toNat = x := ⟨_, rfl⟩
  have hy : U[7].toNat = x := by rw [e5]; exact hx
  have j1 : (7 : Int) < (U.size : Int) := by omega
  have j2 : (11 : Int) < (s.size : Int) := by omega
  clear e1 e2 e3 e4 e5 h1
  obtain ⟨_, g2, g3, _⟩ := Ea.expd_cprs h3
  rw [len_data] at g2 g3
  have H3 := Lib.hid (fun w => eExpand_any s hs w)
  have H4 := Lib.hid (fun w => eCompress_any E (by omega) w)
  have H5 := Lib.hid (fun w => eExpand_any V (by omega) w)
  rw [h2] at H3
  rw [h3] at H4
  rw [h4] at H5
  unfold strE at H3 H4 H5
  dsimp only at H3 H4 H5
  rw [Ea.bS_of] at H3 H4 H5
  clear g2 g3 h2 h3 h4
  obtain ⟨p1, p2, p3, p4⟩ := Ea.comp_ok h5
  obtain ⟨_, _, q3, _⟩ := Ea.full_ok p1
  rw [len_data] at q3
  rw [len_data, len_data] at p3
  have q4 : Ea.size k ≤ 13 := by unfold Ea.size; (repeat' split) <;> omega
  have H6 := Lib.hid (fun w => eComplete_any k s hs w)
  have H7 := Lib.hid (fun w => eComplete_any k P (by omega) w)
  have H8 := Lib.hid (fun w => eEncode_any k P ⟨#[]⟩ (by omega) (by decide) w)
  have he : (Ea.enc k P.data.toList []).2 = 0 := by unfold Ea.enc; rw [if_neg (fun g => g p1), if_neg (by decide), if_neg (by decide), if_pos (show ([] : List UInt8).length = 0 from rfl)]
  rw [h5] at H6
  rw [p2] at H7
  unfold strE at H6 H7
  dsimp only at H6 H7
  rw [Ea.bS_of] at H6 H7
  have b6 : ((P.extract 0 s.size).toList == s.toList) = true := by rw [Lib.toList_data, Lib.toList_data, cut_front, beq_iff_eq, ← len_data s]; exact p4
  have b7 : ((P.extract 0 s.size).toList != s.toList) = false := by simpa using b6
  have hps : s.size ≤ P.size := p3
  have hpz : P.size ≤ 13 := by omega
  have HE := Lib.hid he
  clear p1 p2 p3 p4 q3 q4 h5 he
  go_enter Tryz.func7, Tryz.ntmps7
  go_wp2_with fail
  refine (H1.out _).mono ?_
  rintro e w1 ⟨rfl, hx1⟩
  go_wp2_with fail
  refine (H2.out _).mono ?_
  rintro e w2 ⟨rfl, hx2⟩
  go_wp2_with fail
  go_quiet (fail)
  go_wp2_with fail
  refine (H3.out _).mono ?_
  rintro e w3 ⟨rfl, hx3⟩
  go_wp2_with fail
  refine (H4.out _).mono ?_
  rintro e w4 ⟨rfl, hx4⟩
  go_wp2_with fail
  refine (H5.out _).mono ?_
  rintro e w5 ⟨rfl, hx5⟩
  go_wp2_with fail
  refine (H6.out _).mono ?_
  rintro e w6 ⟨rfl, hx6⟩
  go_wp2_with fail
  refine (H7.out _).mono ?_
  rintro e w7 ⟨rfl, hx7⟩
  go_wp2_with fail
  refine (H8.out _).mono ?_
  rintro e wr ⟨vr, rfl, hvr, hxr⟩
  rw [show (Ea.enc k P.data.toList (⟨#[]⟩ : ByteArray).data.toList).2 = 0 from HE.out]
  clear hvr
  go_wp2_with fail
  refine (HX.out _).mono ?_
  rintro e wx ⟨rfl, hxx⟩
  go_wp2
  go_ret
  exact ⟨rfl, hx1.trans (hx2.trans (((Ext.refl w2).drewN nq).trans (hx3.trans (hx4.trans (hx5.trans (hx6.trans (hx7.trans (hxr.trans (hxx)))))))))⟩
set_option maxRecDepth 100000 in
set_option maxHeartbeats 1000000 in
theorem expands_yyn (k : Int) (s : ByteArray) (hs : s.size ≤ 9223372036854775807) (U : ByteArray) (h1 : Ea.cprs s.data.toList = (U.data.toList, 0)) (E V : ByteArray) (h2 : Ea.expd s.data.toList = (E.data.toList, 0)) (h3 : Ea.cprs E.data.toList = (V.data.toList, 0)) (h4 : Ea.expd V.data.toList = (E.data.toList, 0)) (P : ByteArray) (pe : Int) (h5 : Ea.comp k s.data.toList = (P.data.toList, pe)) (z3 : pe ≠ 0) (w : World) :
    Calls Tryz.prog 7 #[.int .i64 k, .string s] w fun e w' => e = .returned (.bool true) ∧ Ext w w' := by
  have HX := Lib.hid examples_any
  obtain ⟨e1, e2, e3, e4⟩ := Ea.expd_cprs h1
  rw [len_data] at e2 e3
  have H1 := Lib.hid (fun w => eCompress_any s hs w)
  have H2 := Lib.hid (fun w => eExpand_any U (by omega) w)
  rw [h1] at H1
  rw [e1] at H2
  unfold strE at H1 H2
  dsimp only at H1 H2
  rw [Ea.bS_of] at H1 H2
  have b1 : ((U.size : Int) != 8) = false := by rw [e2]; rfl
  have b2 : ((s.size : Int) != 12) = false := by rw [e3]; rfl
  have i1 : 7 < U.size := by omega
  have i2 : 11 < s.size := by omega
  have i3 : U.size ≤ 8 := by omega
  have i4 : s.size ≤ 12 := by omega
  have e5 : U[7] = s[11] := by
    have e6 := congrArg (fun l => l[0]?) e4
    simp only [List.getElem?_drop, Nat.add_zero] at e6
    rw [List.getElem?_eq_getElem (by rw [len_data]; omega), List.getElem?_eq_getElem (by rw [len_data]; omega)] at e6
    exact Option.some.inj e6
  obtain ⟨x, hx⟩ : ∃ x, s[11].toNat = x := ⟨_, rfl⟩
  have hy : U[7].toNat = x := by rw [e5]; exact hx
  have j1 : (7 : Int) < (U.size : Int) := by omega
  have j2 : (11 : Int) < (s.size : Int) := by omega
  clear e1 e2 e3 e4 e5 h1
  obtain ⟨_, g2, g3, _⟩ := Ea.expd_cprs h3
  rw [len_data] at g2 g3
  have H3 := Lib.hid (fun w => eExpand_any s hs w)
  have H4 := Lib.hid (fun w => eCompress_any E (by omega) w)
  have H5 := Lib.hid (fun w => eExpand_any V (by omega) w)
  rw [h2] at H3
  rw [h3] at H4
  rw [h4] at H5
  unfold strE at H3 H4 H5
  dsimp only at H3 H4 H5
  rw [Ea.bS_of] at H3 H4 H5
  clear g2 g3 h2 h3 h4
  have H6 := Lib.hid (fun w => eComplete_any k s hs w)
  rw [h5] at H6
  unfold strE at H6
  dsimp only at H6
  rw [Ea.bS_of] at H6
  have b8 : (pe == 0) = false := beq_eq_false_iff_ne.2 z3
  clear h5 z3
  go_enter Tryz.func7, Tryz.ntmps7
  go_wp2_with fail
  refine (H1.out _).mono ?_
  rintro e w1 ⟨rfl, hx1⟩
  go_wp2_with fail
  refine (H2.out _).mono ?_
  rintro e w2 ⟨rfl, hx2⟩
  go_wp2_with fail
  go_quiet (fail)
  go_wp2_with fail
  refine (H3.out _).mono ?_
  rintro e w3 ⟨rfl, hx3⟩
  go_wp2_with fail
  refine (H4.out _).mono ?_
  rintro e w4 ⟨rfl, hx4⟩
  go_wp2_with fail
  refine (H5.out _).mono ?_
  rintro e w5 ⟨rfl, hx5⟩
  go_wp2_with fail
  refine (H6.out _).mono ?_
  rintro e w6 ⟨rfl, hx6⟩
  go_wp2_with fail
  refine (HX.out _).mono ?_
  rintro e wx ⟨rfl, hxx⟩
  go_wp2
  go_ret
  exact ⟨rfl, hx1.trans (hx2.trans (((Ext.refl w2).drewN nq).trans (hx3.trans (hx4.trans (hx5.trans (hx6.trans (hxx)))))))⟩
set_option maxRecDepth 100000 in
set_option maxHeartbeats 1000000 in
theorem expands_yny (k : Int) (s : ByteArray) (hs : s.size ≤ 9223372036854775807) (U : ByteArray) (h1 : Ea.cprs s.data.toList = (U.data.toList, 0)) (E : ByteArray) (ee : Int) (h2 : Ea.expd s.data.toList = (E.data.toList, ee)) (z2 : ee ≠ 0) (P : ByteArray) (h5 : Ea.comp k s.data.toList = (P.data.toList, 0)) (w : World) :
    Calls Tryz.prog 7 #[.int .i64 k, .string s] w fun e w' => e = .returned (.bool true) ∧ Ext w w' := by
  have HX := Lib.hid examples_any
  obtain ⟨e1, e2, e3, e4⟩ := Ea.expd_cprs h1
  rw [len_data] at e2 e3
  have H1 := Lib.hid (fun w => eCompress_any s hs w)
  have H2 := Lib.hid (fun w => eExpand_any U (by omega) w)
  rw [h1] at H1
  rw [e1] at H2
  unfold strE at H1 H2
  dsimp only at H1 H2
  rw [Ea.bS_of] at H1 H2
  have b1 : ((U.size : Int) != 8) = false := by rw [e2]; rfl
  have b2 : ((s.size : Int) != 12) = false := by rw [e3]; rfl
  have i1 : 7 < U.size := by omega
  have i2 : 11 < s.size := by omega
  have i3 : U.size ≤ 8 := by omega
  have i4 : s.size ≤ 12 := by omega
  have e5 : U[7] = s[11] := by
    have e6 := congrArg (fun l => l[0]?) e4
    simp only [List.getElem?_drop, Nat.add_zero] at e6
    rw [List.getElem?_eq_getElem (by rw [len_data]; omega), List.getElem?_eq_getElem (by rw [len_data]; omega)] at e6
    exact Option.some.inj e6
  obtain ⟨x, hx⟩ : ∃ x, s[11].toNat = x := ⟨_, rfl⟩
  have hy : U[7].toNat = x := by rw [e5]; exact hx
  have j1 : (7 : Int) < (U.size : Int) := by omega
  have j2 : (11 : Int) < (s.size : Int) := by omega
  clear e1 e2 e3 e4 e5 h1
  have H3 := Lib.hid (fun w => eExpand_any s hs w)
  rw [h2] at H3
  unfold strE at H3
  dsimp only at H3
  rw [Ea.bS_of] at H3
  have b5 : (ee == 0) = false := beq_eq_false_iff_ne.2 z2
  clear h2 z2
  obtain ⟨p1, p2, p3, p4⟩ := Ea.comp_ok h5
  obtain ⟨_, _, q3, _⟩ := Ea.full_ok p1
  rw [len_data] at q3
  rw [len_data, len_data] at p3
  have q4 : Ea.size k ≤ 13 := by unfold Ea.size; (repeat' split) <;> omega
  have H6 := Lib.hid (fun w => eComplete_any k s hs w)
  have H7 := Lib.hid (fun w => eComplete_any k P (by omega) w)
  have H8 := Lib.hid (fun w => eEncode_any k P ⟨#[]⟩ (by omega) (by decide) w)
  have he : (Ea.enc k P.data.toList []).2 = 0 := by unfold Ea.enc; rw [if_neg (fun g => g p1), if_neg (by decide), if_neg (by decide), if_pos (show ([] : List UInt8).length = 0 from rfl)]
  rw [h5] at H6
  rw [p2] at H7
  unfold strE at H6 H7
  dsimp only at H6 H7
  rw [Ea.bS_of] at H6 H7
  have b6 : ((P.extract 0 s.size).toList == s.toList) = true := by rw [Lib.toList_data, Lib.toList_data, cut_front, beq_iff_eq, ← len_data s]; exact p4
  have b7 : ((P.extract 0 s.size).toList != s.toList) = false := by simpa using b6
  have hps : s.size ≤ P.size := p3
  have hpz : P.size ≤ 13 := by omega
  have HE := Lib.hid he
  clear p1 p2 p3 p4 q3 q4 h5 he
  go_enter Tryz.func7, Tryz.ntmps7
  go_wp2_with fail
  refine (H1.out _).mono ?_
  rintro e w1 ⟨rfl, hx1⟩
  go_wp2_with fail
  refine (H2.out _).mono ?_
  rintro e w2 ⟨rfl, hx2⟩
  go_wp2_with fail
  go_quiet (fail)
  go_wp2_with fail
  refine (H3.out _).mono ?_
  rintro e w3 ⟨rfl, hx3⟩
  go_wp2_with fail
  refine (H6.out _).mono ?_
  rintro e w4 ⟨rfl, hx4⟩
  go_wp2_with fail
  refine (H7.out _).mono ?_
  rintro e w5 ⟨rfl, hx5⟩
  go_wp2_with fail
  refine (H8.out _).mono ?_
  rintro e wr ⟨vr, rfl, hvr, hxr⟩
  rw [show (Ea.enc k P.data.toList (⟨#[]⟩ : ByteArray).data.toList).2 = 0 from HE.out]
  clear hvr
  go_wp2_with fail
  refine (HX.out _).mono ?_
  rintro e wx ⟨rfl, hxx⟩
  go_wp2
  go_ret
  exact ⟨rfl, hx1.trans (hx2.trans (((Ext.refl w2).drewN nq).trans (hx3.trans (hx4.trans (hx5.trans (hxr.trans (hxx)))))))⟩
set_option maxRecDepth 100000 in
set_option maxHeartbeats 1000000 in
theorem expands_ynn (k : Int) (s : ByteArray) (hs : s.size ≤ 9223372036854775807) (U : ByteArray) (h1 : Ea.cprs s.data.toList = (U.data.toList, 0)) (E : ByteArray) (ee : Int) (h2 : Ea.expd s.data.toList = (E.data.toList, ee)) (z2 : ee ≠ 0) (P : ByteArray) (pe : Int) (h5 : Ea.comp k s.data.toList = (P.data.toList, pe)) (z3 : pe ≠ 0) (w : World) :
    Calls Tryz.prog 7 #[.int .i64 k, .string s] w fun e w' => e = .returned (.bool true) ∧ Ext w w' := by
  have HX := Lib.hid examples_any
  obtain ⟨e1, e2, e3, e4⟩ := Ea.expd_cprs h1
  rw [len_data] at e2 e3
  have H1 := Lib.hid (fun w => eCompress_any s hs w)
  have H2 := Lib.hid (fun w => eExpand_any U (by omega) w)
  rw [h1] at H1
  rw [e1] at H2
  unfold strE at H1 H2
  dsimp only at H1 H2
  rw [Ea.bS_of] at H1 H2
  have b1 : ((U.size : Int) != 8) = false := by rw [e2]; rfl
  have b2 : ((s.size : Int) != 12) = false := by rw [e3]; rfl
  have i1 : 7 < U.size := by omega
  have i2 : 11 < s.size := by omega
  have i3 : U.size ≤ 8 := by omega
  have i4 : s.size ≤ 12 := by omega
  have e5 : U[7] = s[11] := by
    have e6 := congrArg (fun l => l[0]?) e4
    simp only [List.getElem?_drop, Nat.add_zero] at e6
    rw [List.getElem?_eq_getElem (by rw [len_data]; omega), List.getElem?_eq_getElem (by rw [len_data]; omega)] at e6
    exact Option.some.inj e6
  obtain ⟨x, hx⟩ : ∃ x, s[11].toNat = x := ⟨_, rfl⟩
  have hy : U[7].toNat = x := by rw [e5]; exact hx
  have j1 : (7 : Int) < (U.size : Int) := by omega
  have j2 : (11 : Int) < (s.size : Int) := by omega
  clear e1 e2 e3 e4 e5 h1
  have H3 := Lib.hid (fun w => eExpand_any s hs w)
  rw [h2] at H3
  unfold strE at H3
  dsimp only at H3
  rw [Ea.bS_of] at H3
  have b5 : (ee == 0) = false := beq_eq_false_iff_ne.2 z2
  clear h2 z2
  have H6 := Lib.hid (fun w => eComplete_any k s hs w)
  rw [h5] at H6
  unfold strE at H6
  dsimp only at H6
  rw [Ea.bS_of] at H6
  have b8 : (pe == 0) = false := beq_eq_false_iff_ne.2 z3
  clear h5 z3
  go_enter Tryz.func7, Tryz.ntmps7
  go_wp2_with fail
  refine (H1.out _).mono ?_
  rintro e w1 ⟨rfl, hx1⟩
  go_wp2_with fail
  refine (H2.out _).mono ?_
  rintro e w2 ⟨rfl, hx2⟩
  go_wp2_with fail
  go_quiet (fail)
  go_wp2_with fail
  refine (H3.out _).mono ?_
  rintro e w3 ⟨rfl, hx3⟩
  go_wp2_with fail
  refine (H6.out _).mono ?_
  rintro e w4 ⟨rfl, hx4⟩
  go_wp2_with fail
  refine (HX.out _).mono ?_
  rintro e wx ⟨rfl, hxx⟩
  go_wp2
  go_ret
  exact ⟨rfl, hx1.trans (hx2.trans (((Ext.refl w2).drewN nq).trans (hx3.trans (hx4.trans (hxx)))))⟩
set_option maxRecDepth 100000 in
set_option maxHeartbeats 1000000 in
theorem expands_nyy (k : Int) (s : ByteArray) (hs : s.size ≤ 9223372036854775807) (U : ByteArray) (ce : Int) (h1 : Ea.cprs s.data.toList = (U.data.toList, ce)) (z1 : ce ≠ 0) (E V : ByteArray) (h2 : Ea.expd s.data.toList = (E.data.toList, 0)) (h3 : Ea.cprs E.data.toList = (V.data.toList, 0)) (h4 : Ea.expd V.data.toList = (E.data.toList, 0)) (P : ByteArray) (h5 : Ea.comp k s.data.toList = (P.data.toList, 0)) (w : World) :
    Calls Tryz.prog 7 #[.int .i64 k, .string s] w fun e w' => e = .returned (.bool true) ∧ Ext w w' := by
  have HX := Lib.hid examples_any
  have H1 := Lib.hid (fun w => eCompress_any s hs w)
  rw [h1] at H1
  unfold strE at H1
  dsimp only at H1
  rw [Ea.bS_of] at H1
  have b1 : (ce == 0) = false := beq_eq_false_iff_ne.2 z1
  clear h1 z1
  obtain ⟨_, g2, g3, _⟩ := Ea.expd_cprs h3
  rw [len_data] at g2 g3
  have H3 := Lib.hid (fun w => eExpand_any s hs w)
  have H4 := Lib.hid (fun w => eCompress_any E (by omega) w)
  have H5 := Lib.hid (fun w => eExpand_any V (by omega) w)
  rw [h2] at H3
  rw [h3] at H4
  rw [h4] at H5
  unfold strE at H3 H4 H5
  dsimp only at H3 H4 H5
  rw [Ea.bS_of] at H3 H4 H5
  clear g2 g3 h2 h3 h4
  obtain ⟨p1, p2, p3, p4⟩ := Ea.comp_ok h5
  obtain ⟨_, _, q3, _⟩ := Ea.full_ok p1
  rw [len_data] at q3
  rw [len_data, len_data] at p3
  have q4 : Ea.size k ≤ 13 := by unfold Ea.size; (repeat' split) <;> omega
  have H6 := Lib.hid (fun w => eComplete_any k s hs w)
  have H7 := Lib.hid (fun w => eComplete_any k P (by omega) w)
  have H8 := Lib.hid (fun w => eEncode_any k P ⟨#[]⟩ (by omega) (by decide) w)
  have he : (Ea.enc k P.data.toList []).2 = 0 := by unfold Ea.enc; rw [if_neg (fun g => g p1), if_neg (by decide), if_neg (by decide), if_pos (show ([] : List UInt8).length = 0 from rfl)]
  rw [h5] at H6
  rw [p2] at H7
  unfold strE at H6 H7
  dsimp only at H6 H7
  rw [Ea.bS_of] at H6 H7
  have b6 : ((P.extract 0 s.size).toList == s.toList) = true := by rw [Lib.toList_data, Lib.toList_data, cut_front, beq_iff_eq, ← len_data s]; exact p4
  have b7 : ((P.extract 0 s.size).toList != s.toList) = false := by simpa using b6
  have hps : s.size ≤ P.size := p3
  have hpz : P.size ≤ 13 := by omega
  have HE := Lib.hid he
  clear p1 p2 p3 p4 q3 q4 h5 he
  go_enter Tryz.func7, Tryz.ntmps7
  go_wp2_with fail
  refine (H1.out _).mono ?_
  rintro e w1 ⟨rfl, hx1⟩
  go_wp2_with fail
  refine (H3.out _).mono ?_
  rintro e w2 ⟨rfl, hx2⟩
  go_wp2_with fail
  refine (H4.out _).mono ?_
  rintro e w3 ⟨rfl, hx3⟩
  go_wp2_with fail
  refine (H5.out _).mono ?_
  rintro e w4 ⟨rfl, hx4⟩
  go_wp2_with fail
  refine (H6.out _).mono ?_
  rintro e w5 ⟨rfl, hx5⟩
  go_wp2_with fail
  refine (H7.out _).mono ?_
  rintro e w6 ⟨rfl, hx6⟩
  go_wp2_with fail
  refine (H8.out _).mono ?_
  rintro e wr ⟨vr, rfl, hvr, hxr⟩
  rw [show (Ea.enc k P.data.toList (⟨#[]⟩ : ByteArray).data.toList).2 = 0 from HE.out]
  clear hvr
  go_wp2_with fail
  refine (HX.out _).mono ?_
  rintro e wx ⟨rfl, hxx⟩
  go_wp2
  go_ret
  exact ⟨rfl, hx1.trans (hx2.trans (hx3.trans (hx4.trans (hx5.trans (hx6.trans (hxr.trans (hxx)))))))⟩
set_option maxRecDepth 100000 in
set_option maxHeartbeats 1000000 in
theorem expands_nyn (k : Int) (s : ByteArray) (hs : s.size ≤ 9223372036854775807) (U : ByteArray) (ce : Int) (h1 : Ea.cprs s.data.toList = (U.data.toList, ce)) (z1 : ce ≠ 0) (E V : ByteArray) (h2 : Ea.expd s.data.toList = (E.data.toList, 0)) (h3 : Ea.cprs E.data.toList = (V.data.toList, 0)) (h4 : Ea.expd V.data.toList = (E.data.toList, 0)) (P : ByteArray) (pe : Int) (h5 : Ea.comp k s.data.toList = (P.data.toList, pe)) (z3 : pe ≠ 0) (w : World) :
    Calls Tryz.prog 7 #[.int .i64 k, .string s] w fun e w' => e = .returned (.bool true) ∧ Ext w w' := by
  have HX := Lib.hid examples_any
  have H1 := Lib.hid (fun w => eCompress_any s hs w)
  rw [h1] at H1
  unfold strE at H1
  dsimp only at H1
  rw [Ea.bS_of] at H1
  have b1 : (ce == 0) = false := beq_eq_false_iff_ne.2 z1
  clear h1 z1
  obtain ⟨_, g2, g3, _⟩ := Ea.expd_cprs h3
  rw [len_data] at g2 g3
  have H3 := Lib.hid (fun w => eExpand_any s hs w)
  have H4 := Lib.hid (fun w => eCompress_any E (by omega) w)
  have H5 := Lib.hid (fun w => eExpand_any V (by omega) w)
  rw [h2] at H3
  rw [h3] at H4
  rw [h4] at H5
  unfold strE at H3 H4 H5
  dsimp only at H3 H4 H5
  rw [Ea.bS_of] at H3 H4 H5
  clear g2 g3 h2 h3 h4
  have H6 := Lib.hid (fun w => eComplete_any k s hs w)
  rw [h5] at H6
  unfold strE at H6
  dsimp only at H6
  rw [Ea.bS_of] at H6
  have b8 : (pe == 0) = false := beq_eq_false_iff_ne.2 z3
  clear h5 z3
  go_enter Tryz.func7, Tryz.ntmps7
  go_wp2_with fail
  refine (H1.out _).mono ?_
  rintro e w1 ⟨rfl, hx1⟩
  go_wp2_with fail
  refine (H3.out _).mono ?_
  rintro e w2 ⟨rfl, hx2⟩
  go_wp2_with fail
  refine (H4.out _).mono ?_
  rintro e w3 ⟨rfl, hx3⟩
  go_wp2_with fail
  refine (H5.out _).mono ?_
  rintro e w4 ⟨rfl, hx4⟩
  go_wp2_with fail
  refine (H6.out _).mono ?_
  rintro e w5 ⟨rfl, hx5⟩
  go_wp2_with fail
  refine (HX.out _).mono ?_
  rintro e wx ⟨rfl, hxx⟩
  go_wp2
  go_ret
  exact ⟨rfl, hx1.trans (hx2.trans (hx3.trans (hx4.trans (hx5.trans (hxx)))))⟩
set_option maxRecDepth 100000 in
set_option maxHeartbeats 1000000 in
theorem expands_nny (k : Int) (s : ByteArray) (hs : s.size ≤ 9223372036854775807) (U : ByteArray) (ce : Int) (h1 : Ea.cprs s.data.toList = (U.data.toList, ce)) (z1 : ce ≠ 0) (E : ByteArray) (ee : Int) (h2 : Ea.expd s.data.toList = (E.data.toList, ee)) (z2 : ee ≠ 0) (P : ByteArray) (h5 : Ea.comp k s.data.toList = (P.data.toList, 0)) (w : World) :
    Calls Tryz.prog 7 #[.int .i64 k, .string s] w fun e w' => e = .returned (.bool true) ∧ Ext w w' := by
  have HX := Lib.hid examples_any
  have H1 := Lib.hid (fun w => eCompress_any s hs w)
  rw [h1] at H1
  unfold strE at H1
  dsimp only at H1
  rw [Ea.bS_of] at H1
  have b1 : (ce == 0) = false := beq_eq_false_iff_ne.2 z1
  clear h1 z1
  have H3 := Lib.hid (fun w => eExpand_any s hs w)
  rw [h2] at H3
  unfold strE at H3
  dsimp only at H3
  rw [Ea.bS_of] at H3
  have b5 : (ee == 0) = false := beq_eq_false_iff_ne.2 z2
  clear h2 z2
  obtain ⟨p1, p2, p3, p4⟩ := Ea.comp_ok h5
  obtain ⟨_, _, q3, _⟩ := Ea.full_ok p1
  rw [len_data] at q3
  rw [len_data, len_data] at p3
  have q4 : Ea.size k ≤ 13 := by unfold Ea.size; (repeat' split) <;> omega
  have H6 := Lib.hid (fun w => eComplete_any k s hs w)
  have H7 := Lib.hid (fun w => eComplete_any k P (by omega) w)
  have H8 := Lib.hid (fun w => eEncode_any k P ⟨#[]⟩ (by omega) (by decide) w)
  have he : (Ea.enc k P.data.toList []).2 = 0 := by unfold Ea.enc; rw [if_neg (fun g => g p1), if_neg (by decide), if_neg (by decide), if_pos (show ([] : List UInt8).length = 0 from rfl)]
  rw [h5] at H6
  rw [p2] at H7
  unfold strE at H6 H7
  dsimp only at H6 H7
  rw [Ea.bS_of] at H6 H7
  have b6 : ((P.extract 0 s.size).toList == s.toList) = true := by rw [Lib.toList_data, Lib.toList_data, cut_front, beq_iff_eq, ← len_data s]; exact p4
  have b7 : ((P.extract 0 s.size).toList != s.toList) = false := by simpa using b6
  have hps : s.size ≤ P.size := p3
  have hpz : P.size ≤ 13 := by omega
  have HE := Lib.hid he
  clear p1 p2 p3 p4 q3 q4 h5 he
  go_enter Tryz.func7, Tryz.ntmps7
  go_wp2_with fail
  refine (H1.out _).mono ?_
  rintro e w1 ⟨rfl, hx1⟩
  go_wp2_with fail
  refine (H3.out _).mono ?_
  rintro e w2 ⟨rfl, hx2⟩
  go_wp2_with fail
  refine (H6.out _).mono ?_
  rintro e w3 ⟨rfl, hx3⟩
  go_wp2_with fail
  refine (H7.out _).mono ?_
  rintro e w4 ⟨rfl, hx4⟩
  go_wp2_with fail
  refine (H8.out _).mono ?_
  rintro e wr ⟨vr, rfl, hvr, hxr⟩
  rw [show (Ea.enc k P.data.toList (⟨#[]⟩ : ByteArray).data.toList).2 = 0 from HE.out]
  clear hvr
  go_wp2_with fail
  refine (HX.out _).mono ?_
  rintro e wx ⟨rfl, hxx⟩
  go_wp2
  go_ret
  exact ⟨rfl, hx1.trans (hx2.trans (hx3.trans (hx4.trans (hxr.trans (hxx)))))⟩
set_option maxRecDepth 100000 in
set_option maxHeartbeats 1000000 in
theorem expands_nnn (k : Int) (s : ByteArray) (hs : s.size ≤ 9223372036854775807) (U : ByteArray) (ce : Int) (h1 : Ea.cprs s.data.toList = (U.data.toList, ce)) (z1 : ce ≠ 0) (E : ByteArray) (ee : Int) (h2 : Ea.expd s.data.toList = (E.data.toList, ee)) (z2 : ee ≠ 0) (P : ByteArray) (pe : Int) (h5 : Ea.comp k s.data.toList = (P.data.toList, pe)) (z3 : pe ≠ 0) (w : World) :
    Calls Tryz.prog 7 #[.int .i64 k, .string s] w fun e w' => e = .returned (.bool true) ∧ Ext w w' := by
  have HX := Lib.hid examples_any
  have H1 := Lib.hid (fun w => eCompress_any s hs w)
  rw [h1] at H1
  unfold strE at H1
  dsimp only at H1
  rw [Ea.bS_of] at H1
  have b1 : (ce == 0) = false := beq_eq_false_iff_ne.2 z1
  clear h1 z1
  have H3 := Lib.hid (fun w => eExpand_any s hs w)
  rw [h2] at H3
  unfold strE at H3
  dsimp only at H3
  rw [Ea.bS_of] at H3
  have b5 : (ee == 0) = false := beq_eq_false_iff_ne.2 z2
  clear h2 z2
  have H6 := Lib.hid (fun w => eComplete_any k s hs w)
  rw [h5] at H6
  unfold strE at H6
  dsimp only at H6
  rw [Ea.bS_of] at H6
  have b8 : (pe == 0) = false := beq_eq_false_iff_ne.2 z3
  clear h5 z3
  go_enter Tryz.func7, Tryz.ntmps7
  go_wp2_with fail
  refine (H1.out _).mono ?_
  rintro e w1 ⟨rfl, hx1⟩
  go_wp2_with fail
  refine (H3.out _).mono ?_
  rintro e w2 ⟨rfl, hx2⟩
  go_wp2_with fail
  refine (H6.out _).mono ?_
  rintro e w3 ⟨rfl, hx3⟩
  go_wp2_with fail
  refine (HX.out _).mono ?_
  rintro e wx ⟨rfl, hxx⟩
  go_wp2
  go_ret
  exact ⟨rfl, hx1.trans (hx2.trans (hx3.trans (hxx)))⟩

theorem pairB (r : List UInt8 × Int) : ∃ (U : ByteArray) (e : Int), r = (U.data.toList, e) := ⟨Ea.bS r.1, r.2, by rw [Ea.bS_list]⟩
theorem law_expands (k : Int) (s : ByteArray) (hs : s.size ≤ 9223372036854775807) (w : World) :
    Calls Tryz.prog 7 #[.int .i64 k, .string s] w fun e w' => e = .returned (.bool true) ∧ Ext w w' := by
  obtain ⟨U, ce, h1⟩ := pairB (Ea.cprs s.data.toList)
  obtain ⟨E, ee, h2⟩ := pairB (Ea.expd s.data.toList)
  obtain ⟨P, pe, h5⟩ := pairB (Ea.comp k s.data.toList)
  by_cases z1 : ce = 0
  · subst z1
    by_cases z2 : ee = 0
    · subst z2
      obtain ⟨v, h3, h4⟩ := Ea.cprs_expd h2
      by_cases z3 : pe = 0
      · subst z3
        exact expands_yyy k s hs U h1 E (Ea.bS v) h2 (by rw [Ea.bS_list]; exact h3) (by rw [Ea.bS_list]; exact h4) P h5 w
      · exact expands_yyn k s hs U h1 E (Ea.bS v) h2 (by rw [Ea.bS_list]; exact h3) (by rw [Ea.bS_list]; exact h4) P pe h5 z3 w
    · by_cases z3 : pe = 0
      · subst z3
        exact expands_yny k s hs U h1 E ee h2 z2 P h5 w
      · exact expands_ynn k s hs U h1 E ee h2 z2 P pe h5 z3 w
  · by_cases z2 : ee = 0
    · subst z2
      obtain ⟨v, h3, h4⟩ := Ea.cprs_expd h2
      by_cases z3 : pe = 0
      · subst z3
        exact expands_nyy k s hs U ce h1 z1 E (Ea.bS v) h2 (by rw [Ea.bS_list]; exact h3) (by rw [Ea.bS_list]; exact h4) P h5 w
      · exact expands_nyn k s hs U ce h1 z1 E (Ea.bS v) h2 (by rw [Ea.bS_list]; exact h3) (by rw [Ea.bS_list]; exact h4) P pe h5 z3 w
    · by_cases z3 : pe = 0
      · subst z3
        exact expands_nny k s hs U ce h1 z1 E ee h2 z2 P h5 w
      · exact expands_nnn k s hs U ce h1 z1 E ee h2 z2 P pe h5 z3 w
end Go.Proofs.YtfpliihglgjijaaGreat
