/-
  The law FormsRoundTrip, walked.
  Condition: the listed variables are there; the examples hold.
-/
import Derived.Test.YtkpfehfcgpapiaaGreatDoorFmL5
import Derived.Test.YtkpfehfcgpapiaaGreatDoorFmLa
import Derived.Test.YtkpfehfcgpapiaaGreatDoorFmVf
import Derived.Test.YtkpfehfcgpapiaaGreatDoorFmVi
namespace Go.Proofs.YtkpfehfcgpapiaaGreatDoor
set_option linter.unusedVariables false
open Go.RowKit

set_option maxRecDepth 100000 in
set_option maxHeartbeats 4000000 in
theorem law_roundtrip (NM : ByteArray) (a : Option Addr) (n c : Nat) (a2 : Option Addr) (n2 c2 : Nat) (fs : List Fm.Fld) (ss : List Fm.Sm) (w : World) (hf : FldsR w (.slice a n c) fs) (hm : SumsR w (.slice a2 n2 c2) ss) (hB : ∀ f ∈ fs, FldB f) (hM : ∀ r ∈ ss, SmB r) (hE : Errs w) (hP : Pow w) (hX : ExH) :
    Calls Tryz.prog 9 #[.agg #[.string NM, .slice a n c, .slice a2 n2 c2]] w fun e w' => e = .returned (.bool true) ∧ Ext w w' := by
  obtain ⟨a', c', he⟩ := hf.form
  injection he with e1 e2 e3
  subst e1 e3
  obtain ⟨a', c', he⟩ := hm.form
  injection he with e1 e4 e3
  subst e1 e3
  have HN := Lib.hid e2.symm
  have HN2 := Lib.hid e4.symm
  obtain ⟨V, hV⟩ : ∃ V, V = w.alloc (.cells #[.string NM, .slice a n c, .slice a2 n2 c2] 25) := ⟨_, rfl⟩
  have hxV : Ext w V := by rw [hV]; exact (Ext.refl w).alloc _
  have hzV : V.heap.size = w.heap.size + 1 := by rw [hV]; simp
  have HRV : Hid (V.heap[w.heap.size]? = some (.cells #[.string NM, .slice a n c, .slice a2 n2 c2] 25 (0, 0))) := Lib.hid (by rw [hV]; exact heap_alloc_new w _)
  have HFM := Lib.hid (format_any NM a n c a2 n2 c2 fs ss V (hf.ext hxV) (hm.ext hxV) hB hM (hP.ext hxV))
  have HFEW := Lib.hid (fun (w' : World) (hx : Ext w w') => few_any NM a n c a2 n2 c2 fs ss w' (hf.ext hx) (hm.ext hx) hB hM)
  have HF := Lib.hid hf
  have HS := Lib.hid hm
  have HB := Lib.hid hB
  have HM := Lib.hid hM
  have HE := Lib.hid hE
  have HP := Lib.hid hP
  have HEX := Lib.hid hX
  have HVE := Lib.hid hV
  have HXV := Lib.hid hxV
  clear hf hm hB hM e2 e4 hE hP hX hV hxV
  obtain ⟨T, hT⟩ : ∃ T : ByteArray, T = ⟨(Fm.format ⟨NM.data.toList, fs, ss⟩).1.toArray⟩ := ⟨_, rfl⟩
  obtain ⟨z, hz⟩ : ∃ z, z = (Fm.format ⟨NM.data.toList, fs, ss⟩).2 := ⟨_, rfl⟩
  rw [← hT, ← hz] at HFM
  have HT := Lib.hid hT
  have HZ := Lib.hid hz
  clear hT hz
  go_enter Tryz.func9, Tryz.ntmps9
  go_wp2_with fail
  rw [← HVE.out]
  refine Calls.mono HFM.out ?_
  rintro e w1 ⟨rfl, hx1⟩
  have hxw := HXV.out.trans hx1
  have HX1 := Lib.hid hx1
  have r1 := row_on HRV.out hx1
  have k0 : w1.cell? ⟨w.heap.size, 0, none⟩ = some (.string NM) := cell_at r1 rfl
  have k1 : w1.cell? ⟨w.heap.size, 1, none⟩ = some (.slice a n c) := cell_at r1 rfl
  have k2 : w1.cell? ⟨w.heap.size, 2, none⟩ = some (.slice a2 n2 c2) := cell_at r1 rfl
  have HFW := Lib.hid (HFEW.out w1 hxw)
  have HXW1 := Lib.hid hxw
  clear r1 hxw hx1
  go_wp2_with fail
  refine Calls.mono HFW.out ?_
  rintro e w2 ⟨⟨b, rfl, hb⟩, hx2⟩
  have hxw := HXW1.out.trans hx2
  have HX2 := Lib.hid (HX1.out.trans hx2)
  cases b with
  | false =>
    clear hb k0 k1 k2
    have HEXW := Lib.hid (HEX.out w2 (HE.out.ext hxw) (HP.out.ext hxw))
    go_wp2_with fail
    refine Calls.mono HEXW.out ?_
    rintro e w9 ⟨rfl, hx9⟩
    go_wp2_with fail
    go_ret
    exact ⟨rfl, hxw.trans hx9⟩
  | true =>
  obtain ⟨hn1, hn2⟩ := hb rfl
  by_cases hz0 : z = 0
  rotate_left
  · have zz : (z != 0) = true := bne_iff_ne.2 hz0
    clear hz0 hb k0 k1 k2
    have HEXW := Lib.hid (HEX.out w2 (HE.out.ext hxw) (HP.out.ext hxw))
    go_wp2_with fail
    refine Calls.mono HEXW.out ?_
    rintro e w9 ⟨rfl, hx9⟩
    go_wp2_with fail
    go_ret
    exact ⟨rfl, hxw.trans hx9⟩
  subst hz0
  by_cases hsz : 65536 < T.size
  · have zz : (65536 : Int) < (T.size : Int) := by omega
    clear hsz hb k0 k1 k2
    have HEXW := Lib.hid (HEX.out w2 (HE.out.ext hxw) (HP.out.ext hxw))
    go_wp2_with fail
    refine Calls.mono HEXW.out ?_
    rintro e w9 ⟨rfl, hx9⟩
    go_wp2_with fail
    go_ret
    exact ⟨rfl, hxw.trans hx9⟩
  have zz : ¬ (65536 : Int) < (T.size : Int) := by omega
  have hck : Fm.check ⟨NM.data.toList, fs, ss⟩ = 0 := by
    have h := HZ.out
    unfold Fm.format at h
    split at h
    · assumption
    · exact h.symm
  have hTl : T.data.toList = Fm.text ⟨NM.data.toList, fs, ss⟩ := by
    rw [HT.out]
    unfold Fm.format
    rw [if_pos hck]
  have HPR := Lib.hid (fparse_any T ⟨NM.data.toList, fs, ss⟩ w2 (by omega) (by rw [hTl]; exact Fm.parse_format hck) hck HB.out HM.out (HE.out.ext hxw))
  have HXW2 := Lib.hid hxw
  clear hck hTl hsz hb k0 k1 k2 hxw hx2
  go_wp2_with fail
  refine Calls.mono HPR.out ?_
  intro e w3 he3
  obtain ⟨⟨vf, vs, rfl, hf3, hm3⟩, hx3⟩ := he3
  obtain ⟨fa, fc, rfl⟩ := hf3.form
  obtain ⟨sa, sc, rfl⟩ := hm3.form
  rw [show strV (⟨NM.data.toList, fs, ss⟩ : Fm.Frm).name = .string NM from strV_mk NM]
  dsimp only at hf3 hm3 ⊢
  rw [HN.out] at hf3 ⊢
  rw [HN2.out] at hm3 ⊢
  obtain ⟨W4, hW4⟩ : ∃ W, W = w3.alloc (.cells #[.string NM, .slice fa n fc, .slice sa n2 sc] 25) := ⟨_, rfl⟩
  have hx4 : Ext w3 W4 := by rw [hW4]; exact (Ext.refl w3).alloc _
  have r4 := row_on HRV.out (HX2.out.trans (hx3.trans hx4))
  have q0 : W4.cell? ⟨w.heap.size, 0, none⟩ = some (.string NM) := cell_at r4 rfl
  have q1 : W4.cell? ⟨w.heap.size, 1, none⟩ = some (.slice a n c) := cell_at r4 rfl
  have q2 : W4.cell? ⟨w.heap.size, 2, none⟩ = some (.slice a2 n2 c2) := cell_at r4 rfl
  have hlt4 : w.heap.size < w3.heap.size := by have := HX2.out.size; have := hx3.size; omega
  have hx4w : Ext w W4 := HXW2.out.trans (hx3.trans hx4)
  have HSF := Lib.hid (sameForm_any NM fa a n n fc c sa a2 n2 n2 sc c2 fs ss W4 (hf3.ext hx4) (hm3.ext hx4) (HF.out.ext hx4w) (HS.out.ext hx4w) HB.out HM.out (by rw [HN.out]; omega) (by rw [HN2.out]; omega))
  have HW4 := Lib.hid hW4
  have HX4W := Lib.hid hx4w
  have R3 := row_on HRV.out (HX2.out.trans hx3)
  have p0 : w3.cell? ⟨w.heap.size, 0, none⟩ = some (.string NM) := cell_at R3 rfl
  have p1 : w3.cell? ⟨w.heap.size, 1, none⟩ = some (.slice a n c) := cell_at R3 rfl
  have p2 : w3.cell? ⟨w.heap.size, 2, none⟩ = some (.slice a2 n2 c2) := cell_at R3 rfl
  clear hf3 hm3 hx3 hx4 hx4w hW4 r4 R3 q0 q1 q2
  go_wp2_with fail
  rw [← HW4.out]
  refine Calls.mono HSF.out ?_
  rintro e w5 ⟨rfl, hx5⟩
  have hxw := HX4W.out.trans hx5
  have HEXW := Lib.hid (HEX.out w5 (HE.out.ext hxw) (HP.out.ext hxw))
  go_wp2_with fail
  refine Calls.mono HEXW.out ?_
  rintro e w9 ⟨rfl, hx9⟩
  go_wp2_with fail
  go_ret
  exact ⟨rfl, hxw.trans hx9⟩
end Go.Proofs.YtkpfehfcgpapiaaGreatDoor
