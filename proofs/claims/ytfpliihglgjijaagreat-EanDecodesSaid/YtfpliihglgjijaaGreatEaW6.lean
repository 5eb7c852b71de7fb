/-
  Chapter 11: draw and modules, walked.
  Condition: strings of at most a million bytes.
-/
import Derived.Test.YtfpliihglgjijaaGreatEaW5
namespace Go.Proofs.YtfpliihglgjijaaGreat
set_option linter.unusedVariables false
open Go.RowKit

theorem row_len {t : Nat} (ht : t < 3) : (Ea.rowB t).length = 10 := by
  have : ∀ t : Fin 3, (Ea.rowB t).length = 10 := by decide
  exact this ⟨t, ht⟩
theorem row_at {t d : Nat} (ht : t < 3) (hd : d < 10) : (Ea.rowB t)[d]? = some (Ea.bS (Ea.mS (Ea.modl t d))) := by
  have h : d < (Ea.tab.getD t []).length := by
    have : ∀ t : Fin 3, (Ea.tab.getD t.1 []).length = 10 := by decide
    rw [this ⟨t, ht⟩]; exact hd
  unfold Ea.rowB Ea.modl
  generalize Ea.tab.getD t [] = L at *
  rw [List.getElem?_map, List.getD_eq_getElem?_getD, List.getElem?_eq_getElem h]; rfl

set_option maxRecDepth 100000 in
set_option maxHeartbeats 4000000 in
theorem draw_any (D S P : ByteArray) (us : List Nat) (sep : List Bool) (hd : Ea.digs D.data.toList = true) (hS : S.data.toList = Ea.sS us) (hl : us.length = D.size) (hu : ∀ u ∈ us, u < 3) (hP : P.data.toList = Ea.mS sep)
    (hD : D.size ≤ 1000) (hsep : sep.length ≤ 10) (w : World) :
    Calls Tryz.prog 33 #[.string D, .string S, .string P] w fun e w' => e = .returned (.string (Ea.bS (Ea.mS (Ea.drw sep D.data.toList us)))) ∧ Ext w w' := by
  have hll : us.length = D.data.toList.length := by rw [hl, len_data]
  have HRES := Lib.hid (Ea.join_draw sep D.data.toList us hll)
  have HLEN := Lib.hid (Ea.drw_len sep D.data.toList us hd hll hu)
  rw [len_data] at HLEN
  have HDG := Lib.hid (Ea.digs_iff.1 hd)
  have HU := Lib.hid hu
  have HSS := Lib.hid hS
  have HPP := Lib.hid hP
  have HLL := Lib.hid hl
  have HDL := Lib.hid (Ea.dl_len hll)
  have HDA := Lib.hid (fun i c t h1 h2 => @Ea.dl_at D.data.toList us i c t h1 h2)
  have hSs : S.size = D.size := by rw [size_of_toList hS, Ea.sS_len, hl]
  have hmk := run_make_row' (P := Tryz.prog) 89 9 (.string ⟨#[]⟩) 16 Tryz.underlying89 (by kernel_rfl) rfl .i64 .i64 D.size (by omega) (by omega)
  have hSlt : ∀ j : Nat, j < D.size → j < S.size := fun j hj => by omega
  clear hd hS hl hu hP hll hSs
  go_enter Tryz.func33, Tryz.ntmps33
  go_wp2
  clear hmk
  go_loopw [15] (fun i wr => ∃ j : Nat, j ≤ D.size ∧ i = .int .i64 (j : Int) ∧ wr.rowIs w.heap.size 9 D.size (fun k => if k < j then .string (Ea.bS (Ea.mS ((Ea.dl D.data.toList us).getD k []))) else .string ⟨#[]⟩) ∧ Ext w wr) (fun i _ => D.size - (intOf i).toNat)
  case atStart => exact ⟨0, Nat.zero_le _, rfl, (World.rowIs_made w _ _ _).congr (fun i _ => by simp), (by repeat (first | exact Ext.refl _ | assumption | refine Ext.alloc ?_ _ | refine Ext.drew ?_ | refine Ext.trans ?_ (by assumption)))⟩
  case round =>
    obtain ⟨j, hj, rfl, hrow, hxr⟩ := hrel
    by_cases hlt : j < D.size
    · obtain ⟨t, hut⟩ : ∃ t, us[j]? = some t := ⟨_, List.getElem?_eq_getElem (by rw [HLL.out]; exact hlt)⟩
      have hSj : j < S.size := hSlt j hlt
      have hcell := hrow.cell hlt
      have hfz := hrow.frozen j
      have ht : t < 3 := HU.out t (List.mem_of_getElem? hut)
      have hdc : D.data.toList[j]? = some D[j] := List.getElem?_eq_getElem (by rw [len_data]; exact hlt)
      have hd48 := HDG.out D[j] (List.mem_of_getElem? hdc)
      have HDLJ := Lib.hid (HDA.out j D[j] t hdc hut)
      have HSJ : Hid (S[j].toNat = 65 + t) := Lib.hid (by
        have h1 : S.data.toList[j]? = some S[j] := List.getElem?_eq_getElem (by rw [len_data]; exact hSj)
        rw [HSS.out] at h1
        unfold Ea.sS at h1
        rw [List.getElem?_map, hut] at h1
        have h2 : Ea.cS t = S[j] := by simpa using h1
        rw [← h2]
        unfold Ea.cS
        simp; omega)
      obtain ⟨c, hc⟩ : ∃ c, D[j] = c := ⟨_, rfl⟩
      rw [hc] at hd48 HDLJ
      obtain ⟨d, hdd⟩ : ∃ d, c.toNat - 48 = d := ⟨_, rfl⟩
      rw [hdd] at HDLJ
      have hd10 : d < 10 := by omega
      have hsub : (c.toNat : Int) - 48 = (d : Int) := by omega
      have HDR : Hid (∀ w, Calls Tryz.prog 55 #[.int .u8 (65 + (t : Int))] w fun e w' => e = .returned (arrV (Ea.rowB t)) ∧ Ext w w') := Lib.hid (fun w => digitRow_any t ht w)
      have hRd := row_at ht hd10
      have hRl := row_len ht
      unfold arrV at HDR
      obtain ⟨R, hR⟩ : ∃ R, ((Ea.rowB t).map Value.string).toArray = R := ⟨_, rfl⟩
      have hRs : R.size = 10 := by rw [← hR]; simp [hRl]
      have HR1 : Hid (R.all (·.oneCell') = true) := Lib.hid (by rw [← hR]; simp [Value.oneCell'])
      have HRd : Hid (R[d]? = some (.string (Ea.bS (Ea.mS (Ea.modl t d))))) := Lib.hid (by rw [← hR]; simp only [List.getElem?_toArray, List.getElem?_map, hRd]; rfl)
      rw [hR] at HDR
      obtain ⟨m, hm⟩ : ∃ m, Ea.bS (Ea.mS (Ea.modl t d)) = m := ⟨_, rfl⟩
      rw [hm] at HRd
      have HM := Lib.hid hm
      clear hm
      have hSJ := HSJ.out
      clear hut ht hdc hd48 hdd hRd hRl hR
      go_wp2_with fail
      refine (HDR.out _).mono ?_
      rintro e w4 ⟨rfl, hx4⟩
      have hst := run_store_ten R hRs HR1.out w4
      have hnc := new_cell R 70 w4 HRd.out
      have hx5 : Ext wr (w4.alloc (.cells R 70)) := hx4.alloc _
      have hrow5 := Ext.rowX hrow hx5
      have hcell5 := hrow5.cell hlt
      have hfz5 := hrow5.frozen j
      have HR5 : Hid (((w4.alloc (.cells R 70)).setCell ⟨w.heap.size, j, none⟩ (.string m)).rowIs w.heap.size 9 D.size (fun k => if k < j + 1 then .string (Ea.bS (Ea.mS ((Ea.dl D.data.toList us).getD k []))) else .string ⟨#[]⟩)) :=
        Lib.hid ((hrow5.set j (.string m)).congr (fun k hk => by
          by_cases h1 : k = j
          · subst h1; rw [if_pos rfl, if_pos (by omega), List.getD_eq_getElem?_getD, HDLJ.out]; exact congrArg Value.string HM.out.symm
          · rw [if_neg h1]
            by_cases h2 : k < j
            · rw [if_pos h2, if_pos (by omega)]
            · rw [if_neg h2, if_neg (by omega)]))
      have HX := Lib.hid ((hxr.trans hx5).setCell (p := ⟨w.heap.size, j, none⟩) (Nat.le_refl _) (.string m))
      clear hcell hfz hrow hrow5 hxr
      go_wp2
      go_roundw
      case rel => exact ⟨j + 1, by omega, by go_num, HR5.out, HX.out⟩
      case measure => simp [intOf]; omega
    · obtain rfl : j = D.size := by omega
      have HJ := Lib.hid (Tryz.strings_Join w.heap.size 0 D.size ((Ea.dl D.data.toList us).map fun m => Ea.bS (Ea.mS m)) P wr (fun k x hx => by
        rw [List.getElem?_map, Option.map_eq_some_iff] at hx
        obtain ⟨m, hm, rfl⟩ := hx
        have hk := (List.getElem?_eq_some_iff.1 hm).1
        rw [HDL.out, len_data] at hk
        rw [Nat.zero_add, hrow.cell hk, if_pos hk, List.getD_eq_getElem?_getD, hm]; rfl) (by have := hrow.lt; exact this) (by rw [List.length_map, HDL.out, len_data]; omega) (by rw [List.length_map, HDL.out, len_data]; omega)
        (by
          have e : ((Ea.dl D.data.toList us).map fun m => Ea.bS (Ea.mS m)).map (·.data.toList) = (Ea.dl D.data.toList us).map Ea.mS := by rw [List.map_map]; rfl
          rw [e, HPP.out, HRES.out, Ea.mS_len, HLEN.out]
          have h1 : sep.length * (D.size - 1) ≤ 10 * 1000 := Nat.mul_le_mul hsep (by omega)
          omega))
      have e : ((Ea.dl D.data.toList us).map fun m => Ea.bS (Ea.mS m)).map (·.data.toList) = (Ea.dl D.data.toList us).map Ea.mS := by rw [List.map_map]; rfl
      rw [e, HPP.out, HRES.out, List.length_map, HDL.out, len_data] at HJ
      clear hrow hj hlt e
      go_wp2_with fail
      refine HJ.out.mono ?_
      rintro e w1 ⟨rfl, hx1⟩
      go_wp2
      go_ret
      exact ⟨rfl, hxr.trans hx1⟩
end Go.Proofs.YtfpliihglgjijaaGreat
