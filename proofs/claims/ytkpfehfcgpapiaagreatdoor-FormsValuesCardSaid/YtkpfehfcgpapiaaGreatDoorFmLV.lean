/-
  The law FormsValues, walked.
  Condition: the listed variables are there; the examples hold.
-/
import Derived.Test.YtkpfehfcgpapiaaGreatDoorFmXH
import Derived.Test.YtkpfehfcgpapiaaGreatDoorFmLa
import Derived.Test.YtkpfehfcgpapiaaGreatDoorFmVc
namespace Go.Proofs.YtkpfehfcgpapiaaGreatDoor
set_option linter.unusedVariables false
open Go.RowKit

set_option maxRecDepth 100000 in
set_option maxHeartbeats 4000000 in
theorem law_values (NM : ByteArray) (op mn mx ck : Int) (a : Option Addr) (n c : Nat) (opt : Bool) (l : List Fm.S) (s : ByteArray) (w : World) (hl : StrsR w (.slice a n c) l) (hB : FldB ⟨NM.data.toList, op, mn, mx, ck, l, opt⟩) (hs : s.size ≤ Go.maxLen) (hE : Errs w) (hP : Pow w) (hX : ExH) :
    Calls Tryz.prog 5 #[.agg #[.string NM, .int .i64 op, .int .i64 mn, .int .i64 mx, .int .i64 ck, .slice a n c, .bool opt], .string s] w fun e w' => e = .returned (.bool true) ∧ Ext w w' := by
  obtain ⟨b1, b2, b3⟩ := hB
  dsimp only at b1 b2 b3
  have hs9 : s.size ≤ 9223372036854775807 := by unfold Go.maxLen at hs; omega
  obtain ⟨V, hV⟩ : ∃ V, V = w.alloc (.cells #[.string NM, .int .i64 op, .int .i64 mn, .int .i64 mx, .int .i64 ck, .slice a n c, .bool opt] 39) := ⟨_, rfl⟩
  have hxV : Ext w V := by rw [hV]; exact (Ext.refl w).alloc _
  have HRV : Hid (V.heap[w.heap.size]? = some (.cells #[.string NM, .int .i64 op, .int .i64 mn, .int .i64 mx, .int .i64 ck, .slice a n c, .bool opt] 39 (0, 0))) := Lib.hid (by rw [hV]; exact heap_alloc_new w _)
  have HSH := Lib.hid (short_any (.slice a n c) l 40 V (hl.ext hxV) b2 b3)
  have HV1 := Lib.hid (fun (w' : World) (hx : Ext w w') => fvalue_any NM op mn mx ck a n c opt l s hs9 w' (hl.ext hx) b2 b3 (hE.ext hx))
  have HV2 := Lib.hid (fun (w' : World) (hx : Ext w w') => xvalue_any NM op mn mx ck a n c opt l s hs9 w' (hl.ext hx) b2 b3)
  have HE := Lib.hid hE
  have HP := Lib.hid hP
  have HEX := Lib.hid hX
  have HVE := Lib.hid hV
  have HXV := Lib.hid hxV
  generalize Fm.value ⟨NM.data.toList, op, mn, mx, ck, l, opt⟩ s.data.toList = y at *
  clear hl b1 b2 b3 hs hE hP hX hV hxV
  have hyy : (y == y) = true := beq_self_eq_true _
  by_cases h0 : 100 < NM.size
  · have z0 : (100 : Int) < (NM.size : Int) := by omega
    clear h0
    have HEXW := Lib.hid (HEX.out V (HE.out.ext HXV.out) (HP.out.ext HXV.out))
    go_enter Tryz.func5, Tryz.ntmps5
    go_wp2_with fail
    rw [← HVE.out]
    refine Calls.mono HEXW.out ?_
    rintro e w9 ⟨rfl, hx9⟩
    go_wp2_with fail
    go_ret
    exact ⟨rfl, HXV.out.trans hx9⟩
  have z0 : ¬ (100 : Int) < (NM.size : Int) := by omega
  clear h0
  go_enter Tryz.func5, Tryz.ntmps5
  go_wp2_with fail
  rw [← HVE.out]
  refine Calls.mono HSH.out ?_
  rintro e w1 ⟨⟨b, rfl, -⟩, hx1⟩
  have hxw := HXV.out.trans hx1
  cases b with
  | false =>
    have HEXW := Lib.hid (HEX.out w1 (HE.out.ext hxw) (HP.out.ext hxw))
    go_wp2_with fail
    refine Calls.mono HEXW.out ?_
    rintro e w9 ⟨rfl, hx9⟩
    go_wp2_with fail
    go_ret
    exact ⟨rfl, (hxw).trans hx9⟩
  | true =>
  by_cases h3 : 300 < s.size
  · have z3 : (300 : Int) < (s.size : Int) := by omega
    clear h3
    have HEXW := Lib.hid (HEX.out w1 (HE.out.ext hxw) (HP.out.ext hxw))
    go_wp2_with fail
    refine Calls.mono HEXW.out ?_
    rintro e w9 ⟨rfl, hx9⟩
    go_wp2_with fail
    go_ret
    exact ⟨rfl, (hxw).trans hx9⟩
  have z3 : ¬ (300 : Int) < (s.size : Int) := by omega
  clear h3
  have r3 := row_on HRV.out hx1
  have g0 : ∀ x : Ahead w1, x.at'.cell? ⟨w.heap.size, 0, none⟩ = some (.string NM) := fun x => cell_at (row_on r3 x.ext) rfl
  have g1 : ∀ x : Ahead w1, x.at'.cell? ⟨w.heap.size, 1, none⟩ = some (.int .i64 op) := fun x => cell_at (row_on r3 x.ext) rfl
  have g2 : ∀ x : Ahead w1, x.at'.cell? ⟨w.heap.size, 2, none⟩ = some (.int .i64 mn) := fun x => cell_at (row_on r3 x.ext) rfl
  have g3 : ∀ x : Ahead w1, x.at'.cell? ⟨w.heap.size, 3, none⟩ = some (.int .i64 mx) := fun x => cell_at (row_on r3 x.ext) rfl
  have g4 : ∀ x : Ahead w1, x.at'.cell? ⟨w.heap.size, 4, none⟩ = some (.int .i64 ck) := fun x => cell_at (row_on r3 x.ext) rfl
  have g5 : ∀ x : Ahead w1, x.at'.cell? ⟨w.heap.size, 5, none⟩ = some (.slice a n c) := fun x => cell_at (row_on r3 x.ext) rfl
  have g6 : ∀ x : Ahead w1, x.at'.cell? ⟨w.heap.size, 6, none⟩ = some (.bool opt) := fun x => cell_at (row_on r3 x.ext) rfl
  have HC1 := Lib.hid (fun x : Ahead w1 => HV1.out x.at' (hxw.trans x.ext))
  have HC2 := Lib.hid (fun x : Ahead w1 => HV2.out x.at' (hxw.trans x.ext))
  have HC3 := Lib.hid (fun x : Ahead w1 => HEX.out x.at' (HE.out.ext (hxw.trans x.ext)) (HP.out.ext (hxw.trans x.ext)))
  have HXW := Lib.hid hxw
  clear r3 hx1 hxw
  go_upto_region 3 with fail
  refine wp_region_quiet (C := fun w' => ∃ x : Ahead w1, w' = x.at') (by kernel_rfl) (by kernel_rfl) (Ahead.drawn _) ?_
  try dsimp only
  repeat (first | go_big_quiet_step ((first | (go_at_call 22; exact ahead_of (HC1.out _)) | (go_at_call 23; exact ahead_of (HC2.out _)) | (go_at_call 15; exact ahead_of (HC3.out _)))) | quiet_step ((first | (go_at_call 22; exact ahead_of (HC1.out _)) | (go_at_call 23; exact ahead_of (HC2.out _)) | (go_at_call 15; exact ahead_of (HC3.out _)))))
  refine wpQuiet_nil ?_
  intro _ hx0
  obtain ⟨x0, hx0⟩ := hx0
  subst hx0
  obtain ⟨w8, hx8⟩ := x0
  try dsimp only
  go_wp2_with fail
  go_ret
  exact ⟨rfl, HXW.out.trans hx8⟩
end Go.Proofs.YtkpfehfcgpapiaaGreatDoor
