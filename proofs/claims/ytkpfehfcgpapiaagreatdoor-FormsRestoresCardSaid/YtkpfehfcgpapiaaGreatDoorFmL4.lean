/-
  The law FormsRestores, walked.
  Condition: the listed variables are there; the examples hold.
-/
import Derived.Test.YtkpfehfcgpapiaaGreatDoorFmLa
import Derived.Test.YtkpfehfcgpapiaaGreatDoorFmH
import Derived.Test.YtkpfehfcgpapiaaGreatDoorFmVe
import Derived.Test.YtkpfehfcgpapiaaGreatDoorCdR5
import Derived.Deep.Cut
namespace Go.Proofs.YtkpfehfcgpapiaaGreatDoor
set_option linter.unusedVariables false
open Go.RowKit

/-- The law's field and form. -/
def qF (k : Nat) : Fm.Fld := ⟨[65], 1, 3, 60, (k : Int), [], false⟩
def qFrm (k : Nat) : Fm.Frm := ⟨[70], [qF k], []⟩
theorem qF_B (k : Nat) : ∀ f ∈ (qFrm k).fields, FldB f := fun f hf => by
  rw [List.mem_singleton.1 hf]
  refine ⟨by show 1 ≤ Go.maxLen; decide, fun s hs => ?_, Nat.zero_le _⟩
  cases hs
theorem qF_row {w : World} {g : Nat} {k : Nat} (h : w.heap[g]? = some (.cells #[.string ⟨#[65]⟩, .int .i64 1, .int .i64 3, .int .i64 60, .int .i64 (k : Int), .slice none 0 0, .bool false] 39 (0, 0))) : FldsR w (.slice (some ⟨g, 0, none⟩) 1 1) (qFrm k).fields := by
  refine ⟨[(qF k, (none, 0, 0))], rfl, .inr ⟨g, 0, 1, rfl, lt_at h, ?_⟩, fun x hx => ?_⟩
  · intro i x hi c hc
    cases i with
    | succ i => simp at hi
    | zero =>
      simp only [List.getElem?_cons_zero, Option.some.injEq] at hi
      subst hi
      rw [Nat.zero_mul, Nat.zero_add]
      match c, hc with
      | 0, _ => exact cell_at h rfl
      | 1, _ => exact cell_at h rfl
      | 2, _ => exact cell_at h rfl
      | 3, _ => exact cell_at h rfl
      | 4, _ => exact cell_at h rfl
      | 5, _ => exact cell_at h rfl
      | 6, _ => exact cell_at h rfl
  · rw [List.mem_singleton.1 hx]
    exact StrsR.nil w
theorem q_repair {k : Nat} (h1 : 1 ≤ k) (h8 : k ≤ 8) (hc : Fm.check (qFrm k) = 0) {s : Fm.S} (h0 : 0 < s.length) (h30 : s.length ≤ 30) (hv : Fm.value (qF k) s = 0) {p : Nat} (hp : p < s.length) : Fm.repair (qFrm k) [Cd.sub1 s p 63] = ([s], 0) := by
  unfold Fm.repair
  rw [if_pos hc, if_pos (show [Cd.sub1 s p 63].length = (qFrm k).fields.length from rfl)]
  show ([Fm.fix (qF k) (Cd.sub1 s p 63)], (0 : Int)) = _
  rw [Fm.fix_q rfl (n := k) rfl h1 h8 h0 (by omega) hv hp]
theorem strs_one {w : World} {v : Value} {x : Fm.S} (h : StrsR w v [x]) : ∃ g o c', v = .slice (some ⟨g, o, none⟩) 1 c' ∧ g < w.heap.size ∧ w.cell? ⟨g, o, none⟩ = some (strV x) := by
  obtain ⟨hk, -⟩ := h
  rcases hk with ⟨h1, -⟩ | ⟨g, o, c', rfl, hg, hc⟩
  · cases h1
  exact ⟨g, o, c', rfl, hg, hc 0 _ rfl 0 (by decide)⟩
set_option maxRecDepth 100000 in
set_option maxHeartbeats 4000000 in
theorem law_restores (D : ByteArray) (hD : D.size ≤ Go.maxLen) (ck aq : Int) (c0 : 0 ≤ ck) (c1 : ck ≤ 255) (q0 : 0 ≤ aq) (q1 : aq ≤ 255) (w : World) (hE : Errs w) (hP : Pow w) (hX : ExH) :
    Calls Tryz.prog 11 #[.string D, .int .u8 ck, .int .u8 aq] w fun e w' => e = .returned (.bool true) ∧ Ext w w' := by
  obtain ⟨k, hk, k1, k8⟩ : ∃ k : Nat, 1 + ck % 8 = (k : Int) ∧ 1 ≤ k ∧ k ≤ 8 := ⟨(1 + ck % 8).toNat, by omega, by omega, by omega⟩
  have hDs : D.size ≤ 9223372036854775807 := by unfold Go.maxLen at hD; omega
  have HAP := Lib.hid (rappend_any (k : Int) D w hDs)
  have hapl : (Cd.app (k : Int) D.data.toList).2 = 0 → True := fun _ => trivial
  obtain ⟨T, hT⟩ : ∃ T : ByteArray, T = ⟨(Cd.app (k : Int) D.data.toList).1.toArray⟩ := ⟨_, rfl⟩
  obtain ⟨z, hz⟩ : ∃ z, z = (Cd.app (k : Int) D.data.toList).2 := ⟨_, rfl⟩
  rw [← hT, ← hz] at HAP
  obtain ⟨V1, hV1⟩ : ∃ V, V = w.alloc (.cells #[.string ⟨#[65]⟩, .int .i64 1, .int .i64 3, .int .i64 60, .int .i64 (k : Int), .slice none 0 0, .bool false] 39) := ⟨_, rfl⟩
  obtain ⟨V, hV⟩ : ∃ V, V = V1.alloc (.cells #[.string ⟨#[70]⟩, .slice (some ⟨w.heap.size, 0, none⟩) 1 1, .slice none 0 0] 25) := ⟨_, rfl⟩
  have hz1 : V1.heap.size = w.heap.size + 1 := by rw [hV1]; simp
  have hx1 : Ext w V1 := by rw [hV1]; exact (Ext.refl w).alloc _
  have hx12 : Ext V1 V := by rw [hV]; exact (Ext.refl V1).alloc _
  have HRF : Hid (V.heap[w.heap.size]? = some (.cells #[.string ⟨#[65]⟩, .int .i64 1, .int .i64 3, .int .i64 60, .int .i64 (k : Int), .slice none 0 0, .bool false] 39 (0, 0))) := Lib.hid (row_on (by rw [hV1]; exact heap_alloc_new w _) hx12)
  have HRV : Hid (V.heap[w.heap.size + 1]? = some (.cells #[.string ⟨#[70]⟩, .slice (some ⟨w.heap.size, 0, none⟩) 1 1, .slice none 0 0] 25 (0, 0))) := Lib.hid (by rw [← hz1, hV]; exact heap_alloc_new V1 _)
  have HXV := Lib.hid (hx1.trans hx12)
  have HFF := Lib.hid (qF_row HRF.out)
  have HCK := Lib.hid (fun (w' : World) (hx : Ext V w') => check_any ⟨#[70]⟩ (some ⟨w.heap.size, 0, none⟩) 1 1 none 0 0 (qFrm k).fields [] w' (HFF.out.ext hx) ⟨[], rfl, KSl.nil _ _ _, fun x hx => by cases hx⟩ (qF_B k) (fun r hr => by cases hr))
  have HRP := Lib.hid (fun (w' : World) (hx : Ext V w') => fun va vn vc vs => repair_any ⟨#[70]⟩ (some ⟨w.heap.size, 0, none⟩) 1 1 none 0 0 (qFrm k).fields [] va vn vc vs w' (HFF.out.ext hx) ⟨[], rfl, KSl.nil _ _ _, fun x hx => by cases hx⟩ (qF_B k) (fun r hr => by cases hr))
  have HE := Lib.hid hE
  have HP := Lib.hid hP
  have HEX := Lib.hid hX
  have HVE : Hid (V = (w.alloc (.cells #[.string ⟨#[65]⟩, .int .i64 1, .int .i64 3, .int .i64 60, .int .i64 (k : Int), .slice none 0 0, .bool false] 39)).alloc (.cells #[.string ⟨#[70]⟩, .slice (some ⟨w.heap.size, 0, none⟩) 1 1, .slice none 0 0] 25)) := Lib.hid (by rw [hV, hV1])
  have hzV : V.heap.size = w.heap.size + 2 := by rw [hV, World.size_alloc, hz1]
  clear hT hz hV hV1 hx1 hx12 hE hP hX hapl hz1
  go_enter Tryz.func11, Tryz.ntmps11
  go_wp2_with fail
  refine Calls.mono HAP.out ?_
  rintro e w0 ⟨rfl, rfl⟩
  by_cases hz0 : z = 0
  rotate_left
  · have zz : (z != 0) = true := bne_iff_ne.2 hz0
    have hxw := HXV.out
    clear hz0
    rw [HVE.out] at hxw
    have HEXW := Lib.hid (HEX.out _ (HE.out.ext hxw) (HP.out.ext hxw))
    go_wp2_with fail
    refine Calls.mono HEXW.out ?_
    rintro e w9 ⟨rfl, hx9⟩
    go_wp2_with fail
    go_ret
    exact ⟨rfl, hxw.trans hx9⟩
  subst hz0
  by_cases h30 : 30 < T.size
  · have zz : (30 : Int) < (T.size : Int) := by omega
    have hxw := HXV.out
    clear h30
    rw [HVE.out] at hxw
    have HEXW := Lib.hid (HEX.out _ (HE.out.ext hxw) (HP.out.ext hxw))
    go_wp2_with fail
    refine Calls.mono HEXW.out ?_
    rintro e w9 ⟨rfl, hx9⟩
    go_wp2_with fail
    go_ret
    exact ⟨rfl, hxw.trans hx9⟩
  have z30 : ¬ (30 : Int) < (T.size : Int) := by omega
  by_cases h3 : T.size < 3
  · have zz : (T.size : Int) < 3 := by omega
    have hxw := HXV.out
    clear h30 h3
    rw [HVE.out] at hxw
    have HEXW := Lib.hid (HEX.out _ (HE.out.ext hxw) (HP.out.ext hxw))
    go_wp2_with fail
    refine Calls.mono HEXW.out ?_
    rintro e w9 ⟨rfl, hx9⟩
    go_wp2_with fail
    go_ret
    exact ⟨rfl, hxw.trans hx9⟩
  have z3 : ¬ (T.size : Int) < 3 := by omega
  have hT3 : 3 ≤ T.size := by omega
  have hT30 : T.size ≤ 30 := by omega
  have HCV := Lib.hid (HCK.out V (Ext.refl _))
  obtain ⟨y, hy⟩ : ∃ y, y = Fm.check (qFrm k) := ⟨_, rfl⟩
  rw [show (⟨(⟨#[70]⟩ : ByteArray).data.toList, (qFrm k).fields, []⟩ : Fm.Frm) = qFrm k from rfl, ← hy] at HCV
  have HY := Lib.hid hy
  clear h30 h3 hy
  go_wp2_with fail
  rw [← HVE.out]
  refine Calls.mono HCV.out ?_
  rintro e w1 ⟨rfl, hx1⟩
  have hxw := HXV.out.trans hx1
  by_cases hy0 : y = 0
  rotate_left
  · have zz : (y != 0) = true := bne_iff_ne.2 hy0
    clear hy0
    have HEXW := Lib.hid (HEX.out w1 (HE.out.ext hxw) (HP.out.ext hxw))
    go_wp2_with fail
    refine Calls.mono HEXW.out ?_
    rintro e w9 ⟨rfl, hx9⟩
    go_wp2_with fail
    go_ret
    exact ⟨rfl, hxw.trans hx9⟩
  subst hy0
  have rF := row_on HRF.out hx1
  have rV := row_on HRV.out hx1
  have v1 : w1.cell? ⟨w.heap.size + 1, 1, none⟩ = some (.slice (some ⟨w.heap.size, 0, none⟩) 1 1) := cell_at rV rfl
  have x0 : w1.cell? ⟨w.heap.size, 0, none⟩ = some (.string ⟨#[65]⟩) := cell_at rF rfl
  have x1 : w1.cell? ⟨w.heap.size, 1, none⟩ = some (.int .i64 1) := cell_at rF rfl
  have x2 : w1.cell? ⟨w.heap.size, 2, none⟩ = some (.int .i64 3) := cell_at rF rfl
  have x3 : w1.cell? ⟨w.heap.size, 3, none⟩ = some (.int .i64 60) := cell_at rF rfl
  have x4 : w1.cell? ⟨w.heap.size, 4, none⟩ = some (.int .i64 (k : Int)) := cell_at rF rfl
  have x5 : w1.cell? ⟨w.heap.size, 5, none⟩ = some (.slice none 0 0) := cell_at rF rfl
  have x6 : w1.cell? ⟨w.heap.size, 6, none⟩ = some (.bool false) := cell_at rF rfl
  have HVA := Lib.hid (fvalue_any ⟨#[65]⟩ 1 3 60 (k : Int) none 0 0 false [] T (by omega) w1 (StrsR.nil _) (fun s hs => by cases hs) (by decide) (HE.out.ext hxw))
  obtain ⟨u, hu⟩ : ∃ u, u = Fm.value (qF k) T.data.toList := ⟨_, rfl⟩
  rw [show (⟨(⟨#[65]⟩ : ByteArray).data.toList, 1, 3, 60, (k : Int), [], false⟩ : Fm.Fld) = qF k from rfl, ← hu] at HVA
  have HU := Lib.hid hu
  have HX1 := Lib.hid hx1
  have HXW1 := Lib.hid hxw
  clear rF rV hu hx1 hxw
  go_wp2_with fail
  refine Calls.mono HVA.out ?_
  rintro e w2 ⟨rfl, hx2⟩
  have hxw := HXW1.out.trans hx2
  by_cases hu0 : u = 0
  rotate_left
  · have zz : (u != 0) = true := bne_iff_ne.2 hu0
    clear hu0 v1 x0 x1 x2 x3 x4 x5 x6
    have HEXW := Lib.hid (HEX.out w2 (HE.out.ext hxw) (HP.out.ext hxw))
    go_wp2_with fail
    refine Calls.mono HEXW.out ?_
    rintro e w9 ⟨rfl, hx9⟩
    go_wp2_with fail
    go_ret
    exact ⟨rfl, hxw.trans hx9⟩
  subst hu0
  obtain ⟨p, hp, hpl⟩ : ∃ p : Nat, aq % (T.size : Int) = (p : Int) ∧ p < T.size := ⟨(aq % (T.size : Int)).toNat, by have := Int.emod_nonneg aq (show (T.size : Int) ≠ 0 by omega); omega, by have h1 := Int.emod_nonneg aq (show (T.size : Int) ≠ 0 by omega); have h2 := Int.emod_lt_of_pos aq (show (0 : Int) < (T.size : Int) by omega); omega⟩
  have HX2 := Lib.hid (HX1.out.trans hx2)
  have HXW2 := Lib.hid hxw
  have hT0 : ((T.size : Int) == 0) = false := by rw [beq_eq_false_iff_ne]; omega
  clear v1 x0 x1 x2 x3 x4 x5 x6 hx2 hxw
  obtain ⟨p1, hp1⟩ : ∃ p1 : Nat, p1 = p + 1 := ⟨_, rfl⟩
  have hp1I : (p : Int) + 1 = (p1 : Int) := by omega
  have hpI : (p : Int) ≤ (T.size : Int) := by omega
  have hp1l : (p1 : Int) ≤ (T.size : Int) := by omega
  obtain ⟨S, hS⟩ : ∃ S : ByteArray, S = T.extract 0 p ++ ⟨#[63]⟩ ++ T.extract p1 T.size := ⟨_, rfl⟩
  have hSr : T.extract 0 p ++ ⟨#[63]⟩ ++ T.extract p1 T.size = S := hS.symm
  have hSl : S.data.toList = Cd.sub1 T.data.toList p 63 := by
    rw [hS]
    simp only [ByteArray.data_append, Array.toList_append, cut_front, cut_back]
    unfold Cd.sub1
    rw [hp1]
  have hSs : S.size ≤ 31 := by rw [← len_data, hSl, Cd.len_sub1 _ _ _ (by rw [len_data]; exact hpl), len_data]; omega
  have sA : (T.extract 0 p).size = p := by rw [← len_data, cut_front, List.length_take, len_data]; omega
  have sB : (T.extract p1 T.size).size = T.size - p1 := by rw [← len_data, cut_back, List.length_drop, len_data]
  have hp1b : p1 ≤ 31 := by omega
  have hwp : IntKind.i64.wrap (p1 : Int) = (p1 : Int) := IntWalk.i64_in _ ⟨by omega, by omega⟩
  have hq1 : ¬ 9223372036854775807 < p + 1 := by omega
  have hq2 : ¬ 9223372036854775807 < p + 1 + (T.size - p1) := by omega
  obtain ⟨W, hW⟩ : ∃ W, W = (w2.alloc (.cells #[.string S] 9)).drew := ⟨_, rfl⟩
  have hxW : Ext w2 W := by rw [hW]; exact ((Ext.refl w2).alloc _).drew
  have hRW : StrsR W (.slice (some ⟨w2.heap.size, 0, none⟩) 1 1) [Cd.sub1 T.data.toList p 63] := by
    refine strs_row (T := 9) (l := [Cd.sub1 T.data.toList p 63]) ?_ rfl
    rw [hW]
    have h := heap_alloc_new w2 (.cells #[.string S] 9)
    rw [← hSl]
    show (w2.alloc (.cells #[.string S] 9)).heap[w2.heap.size]? = some (.cells #[strV S.data.toList] 9 (0, 0))
    rw [strV_mk]
    exact h
  have HREP := HRP.out W (HX2.out.trans hxW) _ _ _ _ hRW (fun s hs => by rw [List.mem_singleton.1 hs, ← hSl, len_data]; unfold Go.maxLen; omega) (HE.out.ext (HXW2.out.trans hxW))
  rw [show (⟨(⟨#[70]⟩ : ByteArray).data.toList, (qFrm k).fields, []⟩ : Fm.Frm) = qFrm k from rfl, q_repair k1 k8 HY.out.symm (by rw [len_data]; omega) (by rw [len_data]; omega) HU.out.symm (by rw [len_data]; exact hpl)] at HREP
  have HREPS := Lib.hid HREP
  have HXW := Lib.hid (HXW2.out.trans hxW)
  have HSR := Lib.hid hSr
  rw [hW] at HREPS
  have rV := row_on HRV.out HX2.out
  have v0 : w2.cell? ⟨w.heap.size + 1, 0, none⟩ = some (.string ⟨#[70]⟩) := cell_at rV rfl
  have v1 : w2.cell? ⟨w.heap.size + 1, 1, none⟩ = some (.slice (some ⟨w.heap.size, 0, none⟩) 1 1) := cell_at rV rfl
  have v2 : w2.cell? ⟨w.heap.size + 1, 2, none⟩ = some (.slice none 0 0) := cell_at rV rfl
  have vlt : w.heap.size + 1 < w2.heap.size := lt_at rV
  have HWE := Lib.hid hW
  clear hSl hS hRW HREP hxW hW rV hp1
  go_upto_region 7 with fail
  go_region_with (go_at_call 30; refine Calls.mono HREPS.out ?_; intro e w3 he3; obtain ⟨v3, rfl, hs3, hx3⟩ := he3)
  all_goals
    obtain ⟨gl, ol, cl, rfl, hgl, l0⟩ := strs_one hs3
    rw [strV_mk] at l0
    have hTT : (T.toList == T.toList) = true := beq_self_eq_true _
    have hxw : Ext w w3 := HXW.out.trans (by rw [HWE.out]; exact hx3)
    clear hs3 hx3 v0 v1 v2
    have HEXW := Lib.hid (HEX.out w3 (HE.out.ext hxw) (HP.out.ext hxw))
    go_wp2_with fail
    refine Calls.mono HEXW.out ?_
    rintro e w9 ⟨rfl, hx9⟩
    go_wp2_with fail
    go_ret
    exact ⟨rfl, hxw.trans hx9⟩
end Go.Proofs.YtkpfehfcgpapiaaGreatDoor
