/-
  The law FormsRepairs, walked.
  Condition: the listed variables are there; the examples hold.
-/
import Derived.Test.YtkpfehfcgpapiaaGreatDoorFmXM
import Derived.Test.YtkpfehfcgpapiaaGreatDoorFmLa
namespace Go.Proofs.YtkpfehfcgpapiaaGreatDoor
set_option linter.unusedVariables false
open Go.RowKit

theorem Fm.fixGo_le : ∀ (fs : List Fm.Fld) (vs : List Fm.S), (Fm.fixGo fs vs).length ≤ fs.length
  | [], vs => by cases vs <;> exact Nat.le_refl _
  | _ :: _, [] => Nat.zero_le _
  | f :: fs, v :: vs => by
    have := Fm.fixGo_le fs vs
    unfold Fm.fixGo
    rw [List.length_cons, List.length_cons]
    omega
theorem Fm.repair_len (F : Fm.Frm) (l : List Fm.S) : (Fm.repair F l).1.length ≤ F.fields.length := by
  unfold Fm.repair
  split
  · split
    · exact Fm.fixGo_le _ _
    · exact Nat.zero_le _
  · exact Nat.zero_le _

set_option maxRecDepth 100000 in
set_option maxHeartbeats 4000000 in
theorem law_repairs (NM : ByteArray) (a : Option Addr) (n c : Nat) (a2 : Option Addr) (n2 c2 : Nat) (fs : List Fm.Fld) (ss : List Fm.Sm) (va : Option Addr) (vn vc : Nat) (vs : List Fm.S) (w : World) (hf : FldsR w (.slice a n c) fs) (hm : SumsR w (.slice a2 n2 c2) ss) (hB : ∀ f ∈ fs, FldB f) (hM : ∀ r ∈ ss, SmB r) (hN0 : n ≤ Go.maxLen)
    (hv : StrsR w (.slice va vn vc) vs) (hsv : Short Go.maxLen vs) (hvb0 : vs.length ≤ Go.maxLen) (hE : Errs w) (hP : Pow w) (hX : ExH) :
    Calls Tryz.prog 8 #[.agg #[.string NM, .slice a n c, .slice a2 n2 c2], .slice va vn vc] w fun e w' => e = .returned (.bool true) ∧ Ext w w' := by
  obtain ⟨a', c', he⟩ := hf.form
  injection he with e1 e2 e3
  subst e1 e3
  obtain ⟨a', c', he⟩ := hm.form
  injection he with e1 e4 e3
  subst e1 e3
  obtain ⟨a', c', he, _⟩ := hv.form
  injection he with e1 e5 e3
  subst e1 e3
  have hn9 : n ≤ 9223372036854775807 := by unfold Go.maxLen at hN0; omega
  have hvb : vn ≤ 9223372036854775807 := by unfold Go.maxLen at hvb0; omega
  have HN := Lib.hid e2.symm
  have HN2 := Lib.hid e4.symm
  have HN3 := Lib.hid e5.symm
  obtain ⟨V, hV⟩ : ∃ V, V = w.alloc (.cells #[.string NM, .slice a n c, .slice a2 n2 c2] 25) := ⟨_, rfl⟩
  have hxV : Ext w V := by rw [hV]; exact (Ext.refl w).alloc _
  have HRV : Hid (V.heap[w.heap.size]? = some (.cells #[.string NM, .slice a n c, .slice a2 n2 c2] 25 (0, 0))) := Lib.hid (by rw [hV]; exact heap_alloc_new w _)
  have HFEW := Lib.hid (few_any NM a n c a2 n2 c2 fs ss V (hf.ext hxV) (hm.ext hxV) hB hM)
  have HSH := Lib.hid (fun (w' : World) (hx : Ext w w') => short_any (.slice va vn vc) vs 20 w' (hv.ext hx) hsv hvb0)
  have HV1 := Lib.hid (fun (w' : World) (hx : Ext w w') => repair_any NM a n c a2 n2 c2 fs ss va vn vc vs w' (hf.ext hx) (hm.ext hx) hB hM (hv.ext hx) hsv (hE.ext hx))
  have HV2 := Lib.hid (fun (w' : World) (hx : Ext w w') => xrepair_any NM a n c a2 n2 c2 fs ss va vn vc vs w' (hf.ext hx) (hm.ext hx) hB hM hn9 (hv.ext hx) hsv hvb0)
  have HV := Lib.hid hv
  have HSV := Lib.hid hsv
  have HE := Lib.hid hE
  have HP := Lib.hid hP
  have HEX := Lib.hid hX
  have HVE := Lib.hid hV
  have HXV := Lib.hid hxV
  clear hf hm hB hM e2 e4 e5 hv hsv hvb0 hE hP hX hV hxV hN0
  go_enter Tryz.func8, Tryz.ntmps8
  go_wp2_with fail
  rw [← HVE.out]
  refine Calls.mono HFEW.out ?_
  rintro e w1 ⟨⟨b, rfl, hb⟩, hx1⟩
  have hxw := HXV.out.trans hx1
  cases b with
  | false =>
    clear hb
    have HEXW := Lib.hid (HEX.out w1 (HE.out.ext hxw) (HP.out.ext hxw))
    go_wp2_with fail
    refine Calls.mono HEXW.out ?_
    rintro e w9 ⟨rfl, hx9⟩
    go_wp2_with fail
    go_ret
    exact ⟨rfl, (hxw).trans hx9⟩
  | true =>
  obtain ⟨hn1, hn2⟩ := hb rfl
  have HSW := Lib.hid (HSH.out w1 hxw)
  have HXW1 := Lib.hid hxw
  have HX1 := Lib.hid hx1
  clear hb hxw hx1
  have r1 := row_on HRV.out HX1.out
  have j1 : w1.cell? ⟨w.heap.size, 1, none⟩ = some (.slice a n c) := cell_at r1 rfl
  clear r1
  by_cases h20 : 20 < n
  · have z20 : (20 : Int) < (n : Int) := by omega
    clear h20
    have HEXW := Lib.hid (HEX.out w1 (HE.out.ext HXW1.out) (HP.out.ext HXW1.out))
    go_wp2_with fail
    refine Calls.mono HEXW.out ?_
    rintro e w9 ⟨rfl, hx9⟩
    go_wp2_with fail
    go_ret
    exact ⟨rfl, (HXW1.out).trans hx9⟩
  have z20 : ¬ (20 : Int) < (n : Int) := by omega
  clear h20
  go_wp2_with fail
  refine Calls.mono HSW.out ?_
  rintro e w2 ⟨⟨b, rfl, hb⟩, hx2⟩
  have hxw := HXW1.out.trans hx2
  cases b with
  | false =>
    clear hb
    have HEXW := Lib.hid (HEX.out w2 (HE.out.ext hxw) (HP.out.ext hxw))
    go_wp2_with fail
    refine Calls.mono HEXW.out ?_
    rintro e w9 ⟨rfl, hx9⟩
    go_wp2_with fail
    go_ret
    exact ⟨rfl, (hxw).trans hx9⟩
  | true =>
  obtain ⟨hsh, hvl⟩ := hb rfl
  have HX2 := Lib.hid (HX1.out.trans hx2)
  have HXW2 := Lib.hid hxw
  have r2 := row_on HRV.out HX2.out
  have k0 : w2.cell? ⟨w.heap.size, 0, none⟩ = some (.string NM) := cell_at r2 rfl
  have k1 : w2.cell? ⟨w.heap.size, 1, none⟩ = some (.slice a n c) := cell_at r2 rfl
  have k2 : w2.cell? ⟨w.heap.size, 2, none⟩ = some (.slice a2 n2 c2) := cell_at r2 rfl
  clear hb hxw hx2 r2
  obtain ⟨W2, hW2⟩ : ∃ W2, W2 = w2 := ⟨_, rfl⟩
  subst hW2
  clear k0 k1 k2 j1
  go_wp2_with fail
  go_loopw [5] (fun t wr => ∃ k : Nat, k ≤ vn ∧ t = .int .i64 (k : Int) ∧ Hid (Ext W2 wr)) (fun t _ => vn - (intOf t).toNat)
  case atStart => exact ⟨0, Nat.zero_le _, rfl, Lib.hid (Ext.refl _)⟩
  case round =>
    obtain ⟨k, hk, rfl, HY⟩ := hrel
    have hxw := HXW2.out.trans HY.out
    by_cases hlt : k < vn
    · obtain ⟨x, hxk⟩ : ∃ x, vs[k]? = some x := ⟨_, List.getElem?_eq_getElem (by rw [HN3.out]; exact hlt)⟩
      obtain ⟨bb, off, Y, ha, hbb, rfl, d0⟩ := HV.out.here hxw hxk
      subst ha
      have hkI : (k : Int) < (vn : Int) := by omega
      clear hxk
      by_cases h30 : 30 < Y.size
      · have z30 : (30 : Int) < (Y.size : Int) := by omega
        clear h30
        have HEXW := Lib.hid (HEX.out wr (HE.out.ext hxw) (HP.out.ext hxw))
        go_wp2_with fail
        refine Calls.mono HEXW.out ?_
        rintro e w9 ⟨rfl, hx9⟩
        go_wp2_with fail
        go_ret
        exact ⟨rfl, (hxw).trans hx9⟩
      · have z30 : ¬ (30 : Int) < (Y.size : Int) := by omega
        clear h30
        go_wp2_with fail
        go_roundw
        case rel => exact ⟨k + 1, by omega, by go_num, HY⟩
        case measure => (simp [intOf]; try omega)
    · have r9 := row_on HRV.out (HX2.out.trans HY.out)
      have k0 : wr.cell? ⟨w.heap.size, 0, none⟩ = some (.string NM) := cell_at r9 rfl
      have k1 : wr.cell? ⟨w.heap.size, 1, none⟩ = some (.slice a n c) := cell_at r9 rfl
      have k2 : wr.cell? ⟨w.heap.size, 2, none⟩ = some (.slice a2 n2 c2) := cell_at r9 rfl
      have HX2 := Lib.hid (HX2.out.trans HY.out)
      have HXW2 := Lib.hid hxw
      obtain ⟨ke, hke⟩ : ∃ ke : Nat, ke = k := ⟨_, rfl⟩
      obtain rfl : k = vn := by omega
      clear r9 hxw hlt hk hke
      have HC1 := Lib.hid (HV1.out wr HXW2.out)
      go_wp2_with fail
      refine Calls.mono HC1.out ?_
      intro e w3 he3
      obtain ⟨v3, rfl, hs3, hx3⟩ := he3
      have HX3 := Lib.hid (HX2.out.trans hx3)
      have HXW3 := Lib.hid (HXW2.out.trans hx3)
      have r3 := row_on HRV.out HX3.out
      have q0 : w3.cell? ⟨w.heap.size, 0, none⟩ = some (.string NM) := cell_at r3 rfl
      have q1 : w3.cell? ⟨w.heap.size, 1, none⟩ = some (.slice a n c) := cell_at r3 rfl
      have q2 : w3.cell? ⟨w.heap.size, 2, none⟩ = some (.slice a2 n2 c2) := cell_at r3 rfl
      have HC2 := Lib.hid (HV2.out w3 HXW3.out)
      have HS3 := Lib.hid hs3
      clear k0 k1 k2 r3 hx3 hs3
      go_wp2_with fail
      refine Calls.mono HC2.out ?_
      intro e w4 he4
      obtain ⟨v4, rfl, hs4, hx4⟩ := he4
      have HXW4 := Lib.hid (HXW3.out.trans hx4)
      have HS34 := Lib.hid (HS3.out.ext hx4)
      have HS4 := Lib.hid hs4
      clear q0 q1 q2 hx4 hs4
      obtain ⟨L, hL⟩ : ∃ L, L = (Fm.repair ⟨NM.data.toList, fs, ss⟩ vs).1 := ⟨_, rfl⟩
      obtain ⟨z, hz⟩ : ∃ z, z = (Fm.repair ⟨NM.data.toList, fs, ss⟩ vs).2 := ⟨_, rfl⟩
      have hlen : L.length ≤ 9223372036854775807 := by rw [hL]; exact Nat.le_trans (Fm.repair_len _ _) (by have := HN.out; dsimp only; omega)
      rw [← hL] at HS34 HS4
      rw [← hz]
      have hzz : (z == z) = true := beq_self_eq_true _
      have HC3 := Lib.hid (sameList_any v3 v4 L w4 HS34.out HS4.out hlen)
      clear hL hz hsh hvl
      go_wp2_with fail
      refine Calls.mono HC3.out ?_
      rintro e w5 ⟨rfl, hx5⟩
      have hxw := HXW4.out.trans hx5
      clear hx5
      have HEXW := Lib.hid (HEX.out w5 (HE.out.ext hxw) (HP.out.ext hxw))
      go_wp2_with fail
      refine Calls.mono HEXW.out ?_
      rintro e w9 ⟨rfl, hx9⟩
      go_wp2_with fail
      go_ret
      exact ⟨rfl, (hxw).trans hx9⟩
end Go.Proofs.YtkpfehfcgpapiaaGreatDoor
