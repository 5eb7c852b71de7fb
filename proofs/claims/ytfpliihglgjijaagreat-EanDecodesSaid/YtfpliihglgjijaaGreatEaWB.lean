/-
  Chapter 11: symbol, Encode and Digits, walked.
  Condition: strings within the reach.
-/
import Derived.Test.YtfpliihglgjijaaGreatEaWA
import Derived.Test.YtfpliihglgjijaaGreatEaW6
import Derived.Test.YtfpliihglgjijaaGreatEaW8
import Derived.Test.YtfpliihglgjijaaGreatEaW9
import Derived.Test.YtfpliihglgjijaaGreatEaW3
import Derived.BigQuiet
namespace Go.Proofs.YtfpliihglgjijaaGreat
set_option linter.unusedVariables false
open Go.RowKit

theorem rep_lgt (n : Nat) : Lib.repeatL [48] n = Ea.mS (Ea.lgt n) := by
  induction n with
  | zero => rfl
  | succ n ih =>
    rw [Lib.repeatL, ih]
    unfold Ea.lgt
    rw [List.replicate_succ]; rfl
theorem repeat_any (n : Nat) (hn : n ≤ 1000000) (w : World) : Calls Tryz.prog 31 #[.string ⟨#[48]⟩, .int .i64 (n : Int)] w fun e w' => e = .returned (.string (Ea.bS (Ea.mS (Ea.lgt n)))) ∧ Ext w w' := by
  have h := Tryz.strings_Repeat ⟨#[48]⟩ n w (by omega) (by rw [show (⟨#[48]⟩ : ByteArray).size = 1 from rfl]; omega)
  refine h.mono ?_
  rintro e w' ⟨rfl, hx⟩
  exact ⟨by rw [← rep_lgt]; rfl, hx⟩
theorem left_len : Ea.leftB.length = 10 := by decide
theorem left_at {d : Nat} (hd : d < 10) : Ea.leftB[d]? = some (Ea.bS (Ea.sS (Ea.sets13 d))) := by
  unfold Ea.leftB Ea.sets13
  rw [List.getElem?_map, List.getD_eq_getElem?_getD, List.getElem?_eq_getElem (show d < Ea.setsL.length from hd)]; rfl
theorem compB_len (y : Nat) : (Ea.compB y).length = 10 := by
  unfold Ea.compB; split <;> rfl
theorem compB_at {y d : Nat} (hy : y < 2) (hd : d < 10) : (Ea.compB y)[d]? = some (Ea.bS (Ea.sS (Ea.setsE y d))) := by
  unfold Ea.compB Ea.setsE
  rcases (by omega : y = 0 ∨ y = 1) with rfl | rfl
  · rw [if_pos rfl, if_pos rfl, List.getElem?_map, List.getD_eq_getElem?_getD, List.getElem?_eq_getElem (show d < Ea.setsE0.length from hd)]; rfl
  · rw [if_neg (by decide), if_neg (by decide)]
    unfold Ea.setsE1
    rw [List.map_map, List.getElem?_map, List.getD_eq_getElem?_getD, List.getElem?_eq_getElem (show d < Ea.setsE0.length from hd)]; rfl
/-- A string of modules, under a name. -/
theorem named {l : List Bool} : ∃ S : ByteArray, Ea.bS (Ea.mS l) = S ∧ S.data.toList = Ea.mS l ∧ S.size = l.length := ⟨_, rfl, rfl, by rw [size_of_toList (Ea.bS_list _), Ea.mS_len]⟩

set_option maxRecDepth 100000 in
set_option maxHeartbeats 1000000 in
theorem symbol13_any (s : ByteArray) (hd : Ea.digs s.data.toList = true) (h13 : s.size = 13) (w : World) :
    Calls Tryz.prog 32 #[.int .i64 1, .string s] w fun e w' => e = .returned (.string (Ea.bS (Ea.mS (Ea.sym13 s.data.toList)))) ∧ Ext w w' := by
  obtain ⟨a, b, hq⟩ := Ea.sets13_ok ⟨Ea.dv s.data.toList 0, Ea.dv_lt hd 0⟩
  clear hq
  dsimp only at a b
  have hd0 := Ea.dv_lt hd 0
  have h48 := Ea.digs_iff.1 hd s[0] (mem_at s 0 (by omega))
  have hdv := dv_at s 0 (by omega)
  have HSY := Lib.hid (Ea.sym13.eq_1 s.data.toList)
  have c1 : (s.extract 1 7).data.toList = (s.data.toList.drop 1).take 6 := cut_mid s 1 7
  have c2 : (s.extract 7 13).data.toList = s.data.toList.drop 7 := by
    rw [cut_mid]; exact List.take_of_length_le (by rw [List.length_drop, len_data]; omega)
  have d1 := Ea.digs_take (Ea.digs_drop hd 1) 6
  have d2 := Ea.digs_drop hd 7
  have s1 : (s.extract 1 7).size = 6 := by rw [ByteArray.size_extract]; omega
  have s2 : (s.extract 7 13).size = 6 := by rw [ByteArray.size_extract]; omega
  obtain ⟨d, hdd⟩ : ∃ d, Ea.dv s.data.toList 0 = d := ⟨_, rfl⟩
  rw [hdd] at a b hd0 hdv HSY
  have hsub : (s[0].toNat : Int) - 48 = (d : Int) := by omega
  have l1 := Ea.drw6_len d1 (by rw [List.length_take, List.length_drop, len_data]; omega) a (fun u hu => by have := b u hu; omega)
  have l2 := Ea.drw6_len d2 (by rw [List.length_drop, len_data]; omega) (us := [2, 2, 2, 2, 2, 2]) rfl (by simp)
  have HD1 := Lib.hid (fun w' => draw_any (s.extract 1 7) (Ea.bS (Ea.sS (Ea.sets13 d))) ⟨#[]⟩ (Ea.sets13 d) [] (by rw [c1]; exact d1) rfl (by rw [a, s1]) (fun u hu => by have := b u hu; omega) rfl (by omega) (by simp) w')
  have HD2 := Lib.hid (fun w' => draw_any (s.extract 7 13) ⟨#[67, 67, 67, 67, 67, 67]⟩ ⟨#[]⟩ [2, 2, 2, 2, 2, 2] [] (by rw [c2]; exact d2) rfl (by rw [s2]; rfl) (by simp) rfl (by omega) (by simp) w')
  rw [c1] at HD1
  rw [c2] at HD2
  generalize Ea.drw [] ((s.data.toList.drop 1).take 6) (Ea.sets13 d) = m1 at *
  generalize Ea.drw [] (s.data.toList.drop 7) [2, 2, 2, 2, 2, 2] = m2 at *
  obtain ⟨A, hA, hAl, hAs⟩ := named (l := m1)
  obtain ⟨B, hB, hBl, hBs⟩ := named (l := m2)
  rw [hA] at HD1
  rw [hB] at HD2
  have HRES : Hid ((⟨#[49, 48, 49]⟩ ++ A ++ ⟨#[48, 49, 48, 49, 48]⟩ ++ B ++ ⟨#[49, 48, 49]⟩ : ByteArray) = Ea.bS (Ea.mS (Ea.sym13 s.data.toList))) := Lib.hid (by
    apply bytes_ext
    simp only [ByteArray.data_append, Array.toList_append, hAl, hBl]
    rw [Ea.bS_list, HSY.out]
    simp only [Ea.mS_app]
    rfl)
  have hAs : A.size = 42 := by rw [hAs, l1]
  have hBs : B.size = 42 := by rw [hBs, l2]
  have HL := Lib.hid (leftSets_any w)
  have hRd := left_at hd0
  unfold arrV at HL
  obtain ⟨R, hR⟩ : ∃ R, (Ea.leftB.map Value.string).toArray = R := ⟨_, rfl⟩
  have hRs : R.size = 10 := by rw [← hR]; simp [left_len]
  have HR1 : Hid (R.all (·.oneCell') = true) := Lib.hid (by rw [← hR]; simp [Value.oneCell'])
  have HRd : Hid (R[d]? = some (.string (Ea.bS (Ea.sS (Ea.sets13 d))))) := Lib.hid (by rw [← hR]; simp only [List.getElem?_toArray, List.getElem?_map, hRd]; rfl)
  rw [hR] at HL
  have h013 : (0 : Nat) < s.size := by omega
  clear hd h48 hdv HSY c1 c2 d1 d2 s1 s2 hdd a b l1 l2 hA hAl hB hBl hRd hR
  go_enter Tryz.func32, Tryz.ntmps32
  go_wp2_with fail
  refine HL.out.mono ?_
  rintro e w4 ⟨rfl, hx4⟩
  have hst := run_store_ten R hRs HR1.out w4
  have hnc := new_cell R 70 w4 HRd.out
  have hx5 : Ext w (w4.alloc (.cells R 70)) := hx4.alloc _
  go_wp2_with fail
  obtain ⟨w5, hw5⟩ : ∃ w5, w4.alloc (.cells R 70) = w5 := ⟨_, rfl⟩
  have hsz : w4.heap.size < w5.heap.size := by rw [← hw5]; simp
  rw [hw5] at hx5 hnc ⊢
  have hz : ∀ x : Ahead w5, x.at'.cell? ⟨w4.heap.size, d, none⟩ = some (.string (Ea.bS (Ea.sS (Ea.sets13 d)))) := fun x => (x.ext.cell (p := ⟨w4.heap.size, d, none⟩) hsz).trans hnc
  clear hst hw5 hsz hnc
  refine wp_region_quiet (C := fun w' => ∃ x : Ahead w5, w' = x.at') (by kernel_rfl) (by kernel_rfl) (Ahead.drawn _) ?_
  try dsimp only
  repeat (first | go_big_quiet_step ((first | (go_at_call 33; with_reducible exact ahead_of (HD1.out _)) | (go_at_call 33; with_reducible exact ahead_of (HD2.out _)))) | quiet_step ((first | (go_at_call 33; with_reducible exact ahead_of (HD1.out _)) | (go_at_call 33; with_reducible exact ahead_of (HD2.out _)))))
  refine wpQuiet_nil ?_
  intro _ hx0
  obtain ⟨x0, hx0⟩ := hx0
  subst hx0
  obtain ⟨w8, hx8⟩ := x0
  try dsimp only
  go_wp2
  go_ret
  exact ⟨by rw [← HRES.out]; rfl, hx5.trans hx8⟩

set_option maxRecDepth 100000 in
set_option maxHeartbeats 1000000 in
theorem symbol8_any (s : ByteArray) (hd : Ea.digs s.data.toList = true) (h8 : s.size = 8) (w : World) :
    Calls Tryz.prog 32 #[.int .i64 2, .string s] w fun e w' => e = .returned (.string (Ea.bS (Ea.mS (Ea.sym8 s.data.toList)))) ∧ Ext w w' := by
  have HSY := Lib.hid (Ea.sym8.eq_1 s.data.toList)
  have c1 : (s.extract 0 4).data.toList = s.data.toList.take 4 := cut_front s 4
  have c2 : (s.extract 4 8).data.toList = s.data.toList.drop 4 := by
    rw [cut_mid]; exact List.take_of_length_le (by rw [List.length_drop, len_data]; omega)
  have d1 := Ea.digs_take hd 4
  have d2 := Ea.digs_drop hd 4
  have s1 : (s.extract 0 4).size = 4 := by rw [ByteArray.size_extract]; omega
  have s2 : (s.extract 4 8).size = 4 := by rw [ByteArray.size_extract]; omega
  have l1 := Ea.drw4_len d1 (by rw [List.length_take, len_data]; omega) (us := [0, 0, 0, 0]) rfl (by simp)
  have l2 := Ea.drw4_len d2 (by rw [List.length_drop, len_data]; omega) (us := [2, 2, 2, 2]) rfl (by simp)
  have HD1 := Lib.hid (fun w' => draw_any (s.extract 0 4) ⟨#[65, 65, 65, 65]⟩ ⟨#[]⟩ [0, 0, 0, 0] [] (by rw [c1]; exact d1) rfl (by rw [s1]; rfl) (by simp) rfl (by omega) (by simp) w')
  have HD2 := Lib.hid (fun w' => draw_any (s.extract 4 8) ⟨#[67, 67, 67, 67]⟩ ⟨#[]⟩ [2, 2, 2, 2] [] (by rw [c2]; exact d2) rfl (by rw [s2]; rfl) (by simp) rfl (by omega) (by simp) w')
  rw [c1] at HD1
  rw [c2] at HD2
  generalize Ea.drw [] (s.data.toList.take 4) [0, 0, 0, 0] = m1 at *
  generalize Ea.drw [] (s.data.toList.drop 4) [2, 2, 2, 2] = m2 at *
  obtain ⟨A, hA, hAl, hAs⟩ := named (l := m1)
  obtain ⟨B, hB, hBl, hBs⟩ := named (l := m2)
  rw [hA] at HD1
  rw [hB] at HD2
  have HRES : Hid ((⟨#[49, 48, 49]⟩ ++ A ++ ⟨#[48, 49, 48, 49, 48]⟩ ++ B ++ ⟨#[49, 48, 49]⟩ : ByteArray) = Ea.bS (Ea.mS (Ea.sym8 s.data.toList))) := Lib.hid (by
    apply bytes_ext
    simp only [ByteArray.data_append, Array.toList_append, hAl, hBl]
    rw [Ea.bS_list, HSY.out]
    simp only [Ea.mS_app]
    rfl)
  have hAs : A.size = 28 := by rw [hAs, l1]
  have hBs : B.size = 28 := by rw [hBs, l2]
  clear hd HSY c1 c2 d1 d2 s1 s2 l1 l2 hA hAl hB hBl
  go_enter Tryz.func32, Tryz.ntmps32
  go_wp2_with fail
  refine wp_region_quiet (C := fun w' => ∃ x : Ahead w, w' = x.at') (by kernel_rfl) (by kernel_rfl) (Ahead.drawn _) ?_
  try dsimp only
  repeat (first | go_big_quiet_step ((first | (go_at_call 33; with_reducible exact ahead_of (HD1.out _)) | (go_at_call 33; with_reducible exact ahead_of (HD2.out _)))) | quiet_step ((first | (go_at_call 33; with_reducible exact ahead_of (HD1.out _)) | (go_at_call 33; with_reducible exact ahead_of (HD2.out _)))))
  refine wpQuiet_nil ?_
  intro _ hx0
  obtain ⟨x0, hx0⟩ := hx0
  subst hx0
  obtain ⟨w8, hx8⟩ := x0
  try dsimp only
  go_wp2
  go_ret
  exact ⟨by rw [← HRES.out]; rfl, hx8⟩

set_option maxRecDepth 100000 in
set_option maxHeartbeats 1000000 in
theorem symbolE_any (s : ByteArray) (hd : Ea.digs s.data.toList = true) (h8 : s.size = 8) (hy : Ea.dv s.data.toList 0 < 2) (w : World) :
    Calls Tryz.prog 32 #[.int .i64 4, .string s] w fun e w' => e = .returned (.string (Ea.bS (Ea.mS (Ea.symE s.data.toList)))) ∧ Ext w w' := by
  obtain ⟨a, b, hq⟩ := Ea.setsE_ok ⟨Ea.dv s.data.toList 0, hy⟩ ⟨Ea.dv s.data.toList 7, Ea.dv_lt hd 7⟩
  clear hq
  dsimp only at a b
  have hd7 := Ea.dv_lt hd 7
  have h48 := Ea.digs_iff.1 hd s[0] (mem_at s 0 (by omega))
  have h748 := Ea.digs_iff.1 hd s[7] (mem_at s 7 (by omega))
  have hdv := dv_at s 0 (by omega)
  have hdv7 := dv_at s 7 (by omega)
  have HSY := Lib.hid (Ea.symE.eq_1 s.data.toList)
  have c1 : (s.extract 1 7).data.toList = (s.data.toList.drop 1).take 6 := cut_mid s 1 7
  have d1 := Ea.digs_take (Ea.digs_drop hd 1) 6
  have s1 : (s.extract 1 7).size = 6 := by rw [ByteArray.size_extract]; omega
  obtain ⟨y, hyy⟩ : ∃ y, Ea.dv s.data.toList 0 = y := ⟨_, rfl⟩
  obtain ⟨d, hdd⟩ : ∃ d, Ea.dv s.data.toList 7 = d := ⟨_, rfl⟩
  rw [hyy] at a b hy hdv HSY
  rw [hdd] at a b hd7 hdv7 HSY
  have hn0 : s[0].toNat = 48 + y := by omega
  have hsub : (s[7].toNat : Int) - 48 = (d : Int) := by omega
  have l1 := Ea.drw6_len d1 (by rw [List.length_take, List.length_drop, len_data]; omega) a (fun u hu => by have := b u hu; omega)
  have HD1 := Lib.hid (fun w' => draw_any (s.extract 1 7) (Ea.bS (Ea.sS (Ea.setsE y d))) ⟨#[]⟩ (Ea.setsE y d) [] (by rw [c1]; exact d1) rfl (by rw [a, s1]) (fun u hu => by have := b u hu; omega) rfl (by omega) (by simp) w')
  rw [c1] at HD1
  generalize Ea.drw [] ((s.data.toList.drop 1).take 6) (Ea.setsE y d) = m1 at *
  obtain ⟨A, hA, hAl, hAs⟩ := named (l := m1)
  rw [hA] at HD1
  have HRES : Hid ((⟨#[49, 48, 49]⟩ ++ A ++ ⟨#[48, 49, 48, 49, 48, 49]⟩ : ByteArray) = Ea.bS (Ea.mS (Ea.symE s.data.toList))) := Lib.hid (by
    apply bytes_ext
    simp only [ByteArray.data_append, Array.toList_append, hAl]
    rw [Ea.bS_list, HSY.out]
    simp only [Ea.mS_app]
    rfl)
  have hAs : A.size = 42 := by rw [hAs, l1]
  have HL := Lib.hid (compactSets_any y hy w)
  have hRd := compB_at hy hd7
  unfold arrV at HL
  obtain ⟨R, hR⟩ : ∃ R, ((Ea.compB y).map Value.string).toArray = R := ⟨_, rfl⟩
  have hRs : R.size = 10 := by rw [← hR]; simp [compB_len]
  have HR1 : Hid (R.all (·.oneCell') = true) := Lib.hid (by rw [← hR]; simp [Value.oneCell'])
  have HRd : Hid (R[d]? = some (.string (Ea.bS (Ea.sS (Ea.setsE y d))))) := Lib.hid (by rw [← hR]; simp only [List.getElem?_toArray, List.getElem?_map, hRd]; rfl)
  rw [hR] at HL
  have h08 : (0 : Nat) < s.size := by omega
  have h78 : (7 : Nat) < s.size := by omega
  clear hd h48 h748 hdv hdv7 HSY c1 d1 s1 hyy hdd a b l1 hA hAl hRd hR
  go_enter Tryz.func32, Tryz.ntmps32
  go_wp2_with fail
  refine HL.out.mono ?_
  rintro e w4 ⟨rfl, hx4⟩
  have hst := run_store_ten R hRs HR1.out w4
  have hnc := new_cell R 70 w4 HRd.out
  have hx5 : Ext w (w4.alloc (.cells R 70)) := hx4.alloc _
  go_wp2_with fail
  obtain ⟨w5, hw5⟩ : ∃ w5, w4.alloc (.cells R 70) = w5 := ⟨_, rfl⟩
  have hsz : w4.heap.size < w5.heap.size := by rw [← hw5]; simp
  rw [hw5] at hx5 hnc ⊢
  have hz : ∀ x : Ahead w5, x.at'.cell? ⟨w4.heap.size, d, none⟩ = some (.string (Ea.bS (Ea.sS (Ea.setsE y d)))) := fun x => (x.ext.cell (p := ⟨w4.heap.size, d, none⟩) hsz).trans hnc
  clear hst hw5 hsz hnc
  refine wp_region_quiet (C := fun w' => ∃ x : Ahead w5, w' = x.at') (by kernel_rfl) (by kernel_rfl) (Ahead.drawn _) ?_
  try dsimp only
  repeat (first | go_big_quiet_step ((go_at_call 33; with_reducible exact ahead_of (HD1.out _))) | quiet_step ((go_at_call 33; with_reducible exact ahead_of (HD1.out _))))
  refine wpQuiet_nil ?_
  intro _ hx0
  obtain ⟨x0, hx0⟩ := hx0
  subst hx0
  obtain ⟨w8, hx8⟩ := x0
  try dsimp only
  go_wp2
  go_ret
  exact ⟨by rw [← HRES.out]; rfl, hx5.trans hx8⟩

set_option maxRecDepth 100000 in
theorem symbol_any (k : Int) (s : ByteArray) (hf : Ea.full k s.data.toList = 0) (w : World) :
    Calls Tryz.prog 32 #[.int .i64 k, .string s] w fun e w' => e = .returned (.string (Ea.bS (Ea.mS (Ea.sym k s.data.toList)))) ∧ Ext w w' := by
  obtain ⟨h1, h2, h3, h4, _⟩ := Ea.full_ok hf
  rw [len_data] at h3
  rcases Ea.kinds h1 with rfl | rfl | rfl | rfl
  · exact symbol13_any s h2 h3 w
  · exact symbol8_any s h2 h3 w
  · have hz := Ea.full_13 hf
    have h3 : s.size = 12 := h3
    have e : (⟨#[48]⟩ ++ s : ByteArray).data.toList = 48 :: s.data.toList := by rw [ByteArray.data_append, Array.toList_append]; rfl
    have HS := Lib.hid (symbol13_any (⟨#[48]⟩ ++ s) (by rw [e]; exact (Ea.full_ok hz).2.1) (by rw [ByteArray.size_append, h3]; rfl) w)
    rw [e] at HS
    obtain ⟨U, hU⟩ : ∃ U, Ea.bS (Ea.mS (Ea.sym13 (48 :: s.data.toList))) = U := ⟨_, rfl⟩
    rw [hU] at HS
    have HR : Hid (U = Ea.bS (Ea.mS (Ea.sym 3 s.data.toList))) := Lib.hid (by rw [← hU]; rfl)
    clear hf h1 h2 h4 hz e hU
    go_enter Tryz.func32, Tryz.ntmps32
    go_wp2_with fail
    refine HS.out.mono ?_
    rintro e w4 ⟨rfl, hx4⟩
    clear HS
    go_wp2
    go_ret
    exact ⟨by rw [← HR.out]; rfl, hx4⟩
  · exact symbolE_any s h2 h3 (Ea.dv2 h2 (by rw [len_data, h3]; decide) (h4 rfl)) w
end Go.Proofs.YtfpliihglgjijaaGreat
