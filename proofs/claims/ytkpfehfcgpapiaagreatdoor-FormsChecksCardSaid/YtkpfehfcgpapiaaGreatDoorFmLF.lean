/-
  The law FormsChecks, walked.
  Condition: the listed variables are there; the examples hold.
-/
import Derived.Test.YtkpfehfcgpapiaaGreatDoorFmX7
import Derived.Test.YtkpfehfcgpapiaaGreatDoorFmLa
import Derived.Test.YtkpfehfcgpapiaaGreatDoorFmVf
namespace Go.Proofs.YtkpfehfcgpapiaaGreatDoor
set_option linter.unusedVariables false
open Go.RowKit

set_option maxRecDepth 100000 in
set_option maxHeartbeats 4000000 in
theorem law_checks (NM : ByteArray) (a : Option Addr) (n c : Nat) (a2 : Option Addr) (n2 c2 : Nat) (fs : List Fm.Fld) (ss : List Fm.Sm) (w : World) (hf : FldsR w (.slice a n c) fs) (hm : SumsR w (.slice a2 n2 c2) ss) (hB : ∀ f ∈ fs, FldB f) (hM : ∀ r ∈ ss, SmB r) (hN0 : n ≤ Go.maxLen) (hE : Errs w) (hP : Pow w) (hX : ExH) :
    Calls Tryz.prog 3 #[.agg #[.string NM, .slice a n c, .slice a2 n2 c2]] w fun e w' => e = .returned (.bool true) ∧ Ext w w' := by
  obtain ⟨a', c', he⟩ := hf.form
  injection he with e1 e2 e3
  subst e1 e3
  obtain ⟨a', c', he⟩ := hm.form
  injection he with e1 e4 e3
  subst e1 e3
  have hn9 : n ≤ 9223372036854775807 := by unfold Go.maxLen at hN0; omega
  obtain ⟨V, hV⟩ : ∃ V, V = w.alloc (.cells #[.string NM, .slice a n c, .slice a2 n2 c2] 25) := ⟨_, rfl⟩
  have hxV : Ext w V := by rw [hV]; exact (Ext.refl w).alloc _
  have HRV : Hid (V.heap[w.heap.size]? = some (.cells #[.string NM, .slice a n c, .slice a2 n2 c2] 25 (0, 0))) := Lib.hid (by rw [hV]; exact heap_alloc_new w _)
  have HFEW := Lib.hid (few_any NM a n c a2 n2 c2 fs ss V (hf.ext hxV) (hm.ext hxV) hB hM)
  have HFM := Lib.hid (fun (w' : World) (hx : Ext w w') => format_any NM a n c a2 n2 c2 fs ss w' (hf.ext hx) (hm.ext hx) hB hM (hP.ext hx))
  have HXF := Lib.hid (fun (w' : World) (hx : Ext w w') => xformat_any NM a n c a2 n2 c2 fs ss w' (hf.ext hx) (hm.ext hx) hB hM hn9)
  have HCK := Lib.hid (fun (w' : World) (hx : Ext w w') => check_any NM a n c a2 n2 c2 fs ss w' (hf.ext hx) (hm.ext hx) hB hM)
  have HXC := Lib.hid (fun (w' : World) (hx : Ext w w') => xcheck_any NM a n c a2 n2 c2 fs ss w' (hf.ext hx) (hm.ext hx) hB hM hn9)
  have HE := Lib.hid hE
  have HP := Lib.hid hP
  have HEX := Lib.hid hX
  have HVE := Lib.hid hV
  have HXV := Lib.hid hxV
  clear hf hm hB hM e2 e4 hE hP hX hV hxV hN0
  generalize Fm.check ⟨NM.data.toList, fs, ss⟩ = y at *
  obtain ⟨T, hT⟩ : ∃ T : ByteArray, T = ⟨(Fm.format ⟨NM.data.toList, fs, ss⟩).1.toArray⟩ := ⟨_, rfl⟩
  obtain ⟨z, hz⟩ : ∃ z, z = (Fm.format ⟨NM.data.toList, fs, ss⟩).2 := ⟨_, rfl⟩
  rw [← hT, ← hz] at HFM HXF
  clear hT hz
  have hTT : (T.toList == T.toList) = true := beq_self_eq_true _
  have hyy : (y == y) = true := beq_self_eq_true _
  have hzz : (z == z) = true := beq_self_eq_true _
  go_enter Tryz.func3, Tryz.ntmps3
  go_wp2_with fail
  rw [← HVE.out]
  refine Calls.mono HFEW.out ?_
  rintro e w1 ⟨⟨b, rfl, -⟩, hx1⟩
  have hxw := HXV.out.trans hx1
  cases b with
  | false =>
    have HEXW := Lib.hid (HEX.out w1 (HE.out.ext hxw) (HP.out.ext hxw))
    go_wp2_with fail
    refine Calls.mono HEXW.out ?_
    rintro e w9 ⟨rfl, hx9⟩
    go_wp2_with fail
    go_ret
    exact ⟨rfl, hxw.trans hx9⟩
  | true =>
  have r1 := row_on HRV.out hx1
  have k0 : w1.cell? ⟨w.heap.size, 0, none⟩ = some (.string NM) := cell_at r1 rfl
  have k1 : w1.cell? ⟨w.heap.size, 1, none⟩ = some (.slice a n c) := cell_at r1 rfl
  have k2 : w1.cell? ⟨w.heap.size, 2, none⟩ = some (.slice a2 n2 c2) := cell_at r1 rfl
  have HF1 := Lib.hid (HFM.out w1 hxw)
  have HX1 := Lib.hid hxw
  have HR1 := Lib.hid r1
  clear r1 hxw hx1
  go_wp2_with fail
  refine Calls.mono HF1.out ?_
  rintro e w2 ⟨rfl, hx2⟩
  have r2 := row_on HR1.out hx2
  have q0 : w2.cell? ⟨w.heap.size, 0, none⟩ = some (.string NM) := cell_at r2 rfl
  have q1 : w2.cell? ⟨w.heap.size, 1, none⟩ = some (.slice a n c) := cell_at r2 rfl
  have q2 : w2.cell? ⟨w.heap.size, 2, none⟩ = some (.slice a2 n2 c2) := cell_at r2 rfl
  have HF2 := Lib.hid (HXF.out w2 (HX1.out.trans hx2))
  have HX2 := Lib.hid (HX1.out.trans hx2)
  have HR2 := Lib.hid r2
  clear r2 hx2 k0 k1 k2
  go_wp2_with fail
  refine Calls.mono HF2.out ?_
  rintro e w3 ⟨rfl, hx3⟩
  have r3 := row_on HR2.out hx3
  have hxw := HX2.out.trans hx3
  have g0 : ∀ x : Ahead w3, x.at'.cell? ⟨w.heap.size, 0, none⟩ = some (.string NM) := fun x => cell_at (row_on r3 x.ext) rfl
  have g1 : ∀ x : Ahead w3, x.at'.cell? ⟨w.heap.size, 1, none⟩ = some (.slice a n c) := fun x => cell_at (row_on r3 x.ext) rfl
  have g2 : ∀ x : Ahead w3, x.at'.cell? ⟨w.heap.size, 2, none⟩ = some (.slice a2 n2 c2) := fun x => cell_at (row_on r3 x.ext) rfl
  have HC1 := Lib.hid (fun x : Ahead w3 => HCK.out x.at' (hxw.trans x.ext))
  have HC2 := Lib.hid (fun x : Ahead w3 => HXC.out x.at' (hxw.trans x.ext))
  have HC3 := Lib.hid (fun x : Ahead w3 => HEX.out x.at' (HE.out.ext (hxw.trans x.ext)) (HP.out.ext (hxw.trans x.ext)))
  have HXW := Lib.hid hxw
  clear r3 hx3 hxw q0 q1 q2
  go_upto_region 5 with fail
  refine wp_region_quiet (C := fun w' => ∃ x : Ahead w3, w' = x.at') (by kernel_rfl) (by kernel_rfl) (Ahead.drawn _) ?_
  try dsimp only
  repeat (first | go_big_quiet_step ((first | (go_at_call 18; exact ahead_of (HC1.out _)) | (go_at_call 19; exact ahead_of (HC2.out _)) | (go_at_call 15; exact ahead_of (HC3.out _)))) | quiet_step ((first | (go_at_call 18; exact ahead_of (HC1.out _)) | (go_at_call 19; exact ahead_of (HC2.out _)) | (go_at_call 15; exact ahead_of (HC3.out _)))))
  refine wpQuiet_nil ?_
  intro _ hx0
  obtain ⟨x0, hx0⟩ := hx0
  subst hx0
  obtain ⟨w8, hx8⟩ := x0
  try dsimp only
  go_wp2_with fail
  go_ret
  exact ⟨rfl, HXW.out.trans hx8⟩
end Go.Proofs.YtkpfehfcgpapiaaGreatDoor
