/-
  Chapter 11: text, modules and Margins, walked.
  Condition: rows of at most a thousand million modules.
-/
import Derived.Test.YtfpliihglgjijaaGreatEaS
import Derived.Test.YtfpliihglgjijaaGreatSlK
import Derived.Test.YtfpliihglgjijaaGreatArr
namespace Go.Proofs.YtfpliihglgjijaaGreat
set_option linter.unusedVariables false
open Go.RowKit

/-- A row of modules that a call made. -/
def BoolsR (m : List Bool) (w : World) (e : Ending) (w' : World) : Prop := ∃ v, e = .returned v ∧ SlK w' v (m.map encT) ∧ Ext w w'

set_option maxRecDepth 100000 in
set_option maxHeartbeats 2000000 in
theorem modules_any (s : ByteArray) (m : List Bool) (hs : s.data.toList = Ea.mS m) (hm : m.length ≤ 1000000) (w : World) :
    Calls Tryz.prog 35 #[.string s] w (BoolsR m w) := by
  have hsz : s.size = m.length := by rw [size_of_toList hs, Ea.mS_len]
  have HS := Lib.hid hs
  have HZ := Lib.hid hsz
  have hss : s.size ≤ 1000000 := by omega
  have hmk := run_make_row' (P := Tryz.prog) 23 4 (.bool false) 1 Tryz.underlying23 (by kernel_rfl) rfl .i64 .i64 s.size (by omega) (by omega)
  clear hs hsz
  go_enter Tryz.func35, Tryz.ntmps35
  go_wp2
  clear hmk
  go_loopw [10] (fun i wr => ∃ j : Nat, j ≤ s.size ∧ i = .int .i64 (j : Int) ∧ wr.rowIs w.heap.size 4 s.size (fun k => if k < j then encT (m.getD k false) else .bool false) ∧ Ext w wr) (fun i _ => s.size - (intOf i).toNat)
  case atStart => exact ⟨0, Nat.zero_le _, rfl, (World.rowIs_made w _ _ _).congr (fun i _ => by simp), (by repeat (first | exact Ext.refl _ | assumption | refine Ext.alloc ?_ _ | refine Ext.drew ?_ | refine Ext.trans ?_ (by assumption)))⟩
  case round =>
    obtain ⟨j, hj, rfl, hrow, hxr⟩ := hrel
    by_cases hlt : j < s.size
    · have hcell := hrow.cell hlt
      have hfz := hrow.frozen j
      obtain ⟨b, hb⟩ : ∃ b, m[j]? = some b := ⟨_, List.getElem?_eq_getElem (by rw [← HZ.out]; exact hlt)⟩
      have hsj : s[j] = Ea.mb b := by
        have h1 : s.data.toList[j]? = some s[j] := List.getElem?_eq_getElem (by rw [len_data]; exact hlt)
        rw [HS.out] at h1
        unfold Ea.mS at h1
        rw [List.getElem?_map, hb] at h1
        simpa using h1.symm
      have HB : Hid (m.getD j false = b) := Lib.hid (by rw [List.getD_eq_getElem?_getD, hb]; rfl)
      have hbit : ((s[j].toNat : Int) == 49) = b := by rw [hsj]; cases b <;> rfl
      have HR5 : Hid ((wr.setCell ⟨w.heap.size, j, none⟩ (.bool b)).rowIs w.heap.size 4 s.size (fun k => if k < j + 1 then encT (m.getD k false) else .bool false)) :=
        Lib.hid ((hrow.set j (.bool b)).congr (fun k hk => by
          by_cases h1 : k = j
          · subst h1; rw [if_pos rfl, if_pos (by omega), HB.out]; rfl
          · rw [if_neg h1]
            by_cases h2 : k < j
            · rw [if_pos h2, if_pos (by omega)]
            · rw [if_neg h2, if_neg (by omega)]))
      have HX := Lib.hid (hxr.setCell (p := ⟨w.heap.size, j, none⟩) (Nat.le_refl _) (.bool b))
      clear hrow hxr hb hsj
      go_wp2
      go_roundw
      case rel => exact ⟨j + 1, by omega, by go_num, HR5.out, HX.out⟩
      case measure => simp [intOf]; omega
    · obtain rfl : j = s.size := by omega
      have hsl := SlK.row hrow
      clear hj hlt hrow
      go_wp2
      go_ret
      refine ⟨_, rfl, hsl.congr ?_, hxr⟩
      apply List.ext_getElem
      · simp [HZ.out]
      · intro i h1 h2
        simp at h1 h2
        simp [h1, h2]

set_option maxRecDepth 100000 in
set_option maxHeartbeats 2000000 in
theorem text_any (v : Value) (m : List Bool) (w : World) (hv : SlK w v (m.map encT)) (hm : m.length ≤ 1000000) :
    Calls Tryz.prog 44 #[v] w fun e w' => e = .returned (.string (Ea.bS (Ea.mS m))) ∧ Ext w w' := by
  obtain ⟨hsl, a, c, rfl, _⟩ := hv
  rw [List.length_map] at hsl ⊢
  have HV := Lib.hid hsl
  have hmk := run_make_row' (P := Tryz.prog) 40 5 (.int .u8 0) 1 Tryz.underlying40 (by kernel_rfl) rfl .i64 .i64 m.length (by omega) (by omega)
  clear hsl
  go_enter Tryz.func44, Tryz.ntmps44
  go_wp2
  clear hmk
  go_loopw [11] (fun i wr => ∃ j : Nat, j ≤ m.length ∧ i = .int .i64 (j : Int) ∧ wr.rowIs w.heap.size 5 m.length (fun k => if k < j then encB (Ea.mb (m.getD k false)) else .int .u8 0) ∧ Ext w wr) (fun i _ => m.length - (intOf i).toNat)
  case atStart => exact ⟨0, Nat.zero_le _, rfl, (World.rowIs_made w _ _ _).congr (fun i _ => by simp), (by repeat (first | exact Ext.refl _ | assumption | refine Ext.alloc ?_ _ | refine Ext.drew ?_ | refine Ext.trans ?_ (by assumption)))⟩
  case round =>
    obtain ⟨j, hj, rfl, hrow, hxr⟩ := hrel
    by_cases hlt : j < m.length
    · have hcell := hrow.cell hlt
      have hfz := hrow.frozen j
      obtain ⟨bb, off, ha, hbl, hc0⟩ := HV.out.at_ (k := j) (by rw [List.length_map]; exact hlt)
      subst ha
      obtain ⟨b, hb⟩ : ∃ b, m[j] = b := ⟨_, rfl⟩
      rw [List.getElem_map, hb] at hc0
      have hcc := (hxr.cell (p := ⟨bb, off + j, none⟩) hbl).trans hc0
      have HB : Hid (m.getD j false = b) := Lib.hid (by rw [List.getD_eq_getElem?_getD, List.getElem?_eq_getElem hlt]; exact hb)
      have hne : ¬ bb = w.heap.size := by omega
      have HX1 := Lib.hid (fun u => hxr.setCell (p := ⟨w.heap.size, j, none⟩) (Nat.le_refl _) u)
      have HX2 := Lib.hid (fun u v => (hxr.setCell (p := ⟨w.heap.size, j, none⟩) (Nat.le_refl _) u).setCell (p := ⟨w.heap.size, j, none⟩) (Nat.le_refl _) v)
      have HR1 : ∀ x, encB (Ea.mb b) = x → Hid ((wr.setCell ⟨w.heap.size, j, none⟩ x).rowIs w.heap.size 5 m.length (fun k => if k < j + 1 then encB (Ea.mb (m.getD k false)) else .int .u8 0)) := fun x hx =>
        Lib.hid ((hrow.set j x).congr (fun k hk => by
          by_cases h1 : k = j
          · subst h1; rw [if_pos rfl, if_pos (by omega), HB.out]; exact hx.symm
          · rw [if_neg h1]
            by_cases h2 : k < j
            · rw [if_pos h2, if_pos (by omega)]
            · rw [if_neg h2, if_neg (by omega)]))
      have HR2 : ∀ x y, encB (Ea.mb b) = y → Hid (((wr.setCell ⟨w.heap.size, j, none⟩ x).setCell ⟨w.heap.size, j, none⟩ y).rowIs w.heap.size 5 m.length (fun k => if k < j + 1 then encB (Ea.mb (m.getD k false)) else .int .u8 0)) := fun x y hx =>
        Lib.hid (((hrow.set j x).set j y).congr (fun k hk => by
          by_cases h1 : k = j
          · subst h1; rw [if_pos rfl, if_pos (by omega), HB.out]; exact hx.symm
          · rw [if_neg h1, if_neg h1]
            by_cases h2 : k < j
            · rw [if_pos h2, if_pos (by omega)]
            · rw [if_neg h2, if_neg (by omega)]))
      cases b with
      | true =>
        have hR := HR2 (.int .u8 48) (.int .u8 49) rfl
        have hrow2 := hrow.set j (.int .u8 48)
        have hcell2 := hrow2.cell hlt
        have hfz2 := hrow2.frozen j
        clear hrow hxr HR1 HR2 hrow2 hb
        go_wp2
        go_roundw
        case rel => exact ⟨j + 1, by omega, by go_num, by first | exact hR.out | simpa using hR.out, by first | exact HX2.out _ _ | simpa using HX2.out _ _⟩
        case measure => simp [intOf]; omega
      | false =>
        have hR := HR1 (.int .u8 48) rfl
        clear hrow hxr HR1 HR2 hb
        go_wp2
        go_roundw
        case rel => exact ⟨j + 1, by omega, by go_num, hR.out, HX1.out _⟩
        case measure => simp [intOf]; omega
    · obtain rfl : j = m.length := by omega
      have hsl := Sl.row hrow
      have hcv := run_convert_sl (l := Ea.mS m) (hsl.congr (by
        apply List.ext_getElem
        · simp [Ea.mS]
        · intro i h1 h2
          simp at h1
          simp [h1, Ea.mS]))
      clear hj hlt hrow hsl
      go_wp2
      go_ret
      exact ⟨rfl, hxr⟩
end Go.Proofs.YtfpliihglgjijaaGreat
