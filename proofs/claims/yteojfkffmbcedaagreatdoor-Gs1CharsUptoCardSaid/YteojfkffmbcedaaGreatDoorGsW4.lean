/-
  Chapter 14: dates, walked.
  Condition: six digits.
-/
import Derived.Test.YteojfkffmbcedaaGreatDoorGsW3
namespace Go.Proofs.YteojfkffmbcedaaGreatDoor
open Go.RowKit

def Gs.num2 (l : List UInt8) (k : Nat) : Int := 10 * Cd.dg (l.getD k 0) + Cd.dg (l.getD (k + 1) 0)
def Gs.days : List Int := [31, 28, 31, 30, 31, 30, 31, 31, 30, 31, 30, 31]
def Gs.dateOf (y m d : Int) : Bool := if m < 1 ∨ 12 < m then false else decide (d ≤ Gs.days.getD (m - 1).toNat 0 + (if m = 2 ∧ y % 4 = 0 then 1 else 0))
def Gs.dateB (l : List UInt8) : Bool := Gs.dateOf (Gs.num2 l 0) (Gs.num2 l 2) (Gs.num2 l 4)
theorem gdat (s : ByteArray) (i : Nat) (h : i < s.size) : s.data.toList.getD i 0 = s[i] := by
  rw [List.getD_eq_getElem?_getD, List.getElem?_eq_getElem (by rw [len_data]; exact h)]; rfl
theorem num2_bd {l : List UInt8} (h : Cd.AllDig l) {k : Nat} (hk : k + 1 < l.length) : 0 ≤ Gs.num2 l k ∧ Gs.num2 l k ≤ 99 := by
  have h1 : ∀ i, i < l.length → 0 ≤ Cd.dg (l.getD i 0) ∧ Cd.dg (l.getD i 0) ≤ 9 := fun i hi => by
    rw [List.getD_eq_getElem?_getD, List.getElem?_eq_getElem hi]
    exact Cd.dg_bd (h _ (List.getElem_mem _))
  have a := h1 k (by omega)
  have b := h1 (k + 1) hk
  unfold Gs.num2
  omega

set_option maxHeartbeats 1000000 in
theorem number_any (s : ByteArray) (k : Nat) (h1 : k + 1 < s.size) (hd : Cd.AllDig s.data.toList) (b : Nat) (w : World) (hc : w.cell? ⟨b, 0, none⟩ = some (.string s)) (hs : s.size ≤ 1000) :
    Calls Tryz.prog 51 #[.int .i64 (k : Int), .pointer (some ⟨b, 0, none⟩)] w fun e w' => e = .returned (.int .i64 (Gs.num2 s.data.toList k)) ∧ Ext w w' := by
  have HN := Lib.hid (Gs.num2.eq_1 s.data.toList k)
  have hk0 : k < s.size := by omega
  rw [gdat s k hk0, gdat s (k + 1) h1] at HN
  generalize Gs.num2 s.data.toList k = N at *
  obtain ⟨a1, a2⟩ := hd _ (mem_at s k hk0)
  obtain ⟨a3, a4⟩ := hd _ (mem_at s (k + 1) h1)
  obtain ⟨j, hj⟩ : ∃ j, j = k + 1 := ⟨_, rfl⟩
  have hji : (k : Int) + 1 = (j : Int) := by omega
  have hjs : j < s.size := by omega
  have HJ : Hid (s[k+1] = s[j]) := Lib.hid (by subst hj; rfl)
  rw [HJ.out] at a3 a4 HN
  clear HJ h1 hd
  have HE := Lib.hid hj
  clear hj
  go_enter Tryz.func51, Tryz.ntmps51
  go_wp2
  go_quiet (fail)
  go_wp2
  go_ret
  exact ⟨ret_int (by rw [HN.out]; simp [Cd.dg]), (by repeat (first | exact Ext.refl _ | assumption | refine Ext.alloc ?_ _ | refine Ext.drew ?_ | refine Ext.drewN ?_ _ | refine Ext.setCell ?_ (Nat.le_refl _) _ | refine Ext.trans ?_ (by assumption)))⟩

set_option maxRecDepth 100000 in
set_option maxHeartbeats 4000000 in
theorem date_any (s : ByteArray) (hs : s.size = 6) (hd : Cd.AllDig s.data.toList) (w : World) :
    Calls Tryz.prog 37 #[.string s] w fun e w' => e = .returned (.bool (Gs.dateB s.data.toList)) ∧ Ext w w' := by
  have hl : s.data.toList.length = 6 := by rw [len_data]; exact hs
  obtain ⟨y0, y9⟩ := num2_bd hd (k := 0) (by omega)
  obtain ⟨m0, m9⟩ := num2_bd hd (k := 2) (by omega)
  obtain ⟨d0, d9⟩ := num2_bd hd (k := 4) (by omega)
  have H0 := Lib.hid (fun w' h => number_any s 0 (by omega) hd w.heap.size w' h (by omega))
  have H2 := Lib.hid (fun w' h => number_any s 2 (by omega) hd w.heap.size w' h (by omega))
  have H4 := Lib.hid (fun w' h => number_any s 4 (by omega) hd w.heap.size w' h (by omega))
  have HB := Lib.hid (Gs.dateB.eq_1 s.data.toList)
  generalize Gs.dateB s.data.toList = res at *
  generalize Gs.num2 s.data.toList 0 = y at *
  generalize Gs.num2 s.data.toList 2 = m at *
  generalize Gs.num2 s.data.toList 4 = d at *
  clear hl hs hd
  go_enter Tryz.func37, Tryz.ntmps37
  go_wp2_with fail
  have hc0 : (w.alloc (.cells #[.string s] 9)).cell? ⟨w.heap.size, 0, none⟩ = some (.string s) := by unfold World.cell?; rw [heap_alloc_new]; rfl
  refine (H0.out _ hc0).mono ?_
  rintro e w1 ⟨rfl, hx1⟩
  have hc1 := (hx1.cell (p := ⟨w.heap.size, 0, none⟩) (by simp)).trans hc0
  go_wp2_with fail
  refine (H2.out _ hc1).mono ?_
  rintro e w2 ⟨rfl, hx2⟩
  have hc2 := (hx2.cell (p := ⟨w.heap.size, 0, none⟩) (by have := hx1.size; simp at this ⊢; omega)).trans hc1
  go_wp2_with fail
  refine (H4.out _ hc2).mono ?_
  rintro e w3 ⟨rfl, hx3⟩
  have hx : Ext w w3 := ((((Ext.refl w).alloc _).trans hx1).trans hx2).trans hx3
  clear hx1 hx2 hx3 hc0 hc1 hc2 H0 H2 H4
  by_cases hm1 : m < 1
  · have HR : Hid (res = false) := Lib.hid (by rw [HB.out, Gs.dateOf, if_pos (.inl hm1)])
    clear HB
    go_wp2
    go_ret
    exact ⟨ret_bool HR.out.symm, hx⟩
  by_cases hm2 : 12 < m
  · have HR : Hid (res = false) := Lib.hid (by rw [HB.out, Gs.dateOf, if_pos (.inr hm2)])
    have hm3 : 1 ≤ m := by omega
    clear HB hm1
    go_wp2
    go_ret
    exact ⟨ret_bool HR.out.symm, hx⟩
  have HR : Hid (res = decide (d ≤ Gs.days.getD (m - 1).toNat 0 + (if m = 2 ∧ y % 4 = 0 then 1 else 0))) := Lib.hid (by rw [HB.out, Gs.dateOf, if_neg (by omega)])
  have hmm : m = 1 ∨ m = 2 ∨ m = 3 ∨ m = 4 ∨ m = 5 ∨ m = 6 ∨ m = 7 ∨ m = 8 ∨ m = 9 ∨ m = 10 ∨ m = 11 ∨ m = 12 := by omega
  clear HB hm1 hm2 m0 m9
  rcases hmm with rfl | hmm
  · replace HR : Hid (res = decide (d ≤ 31)) := Lib.hid HR.out
    go_wp2
    go_ret
    exact ⟨ret_bool HR.out.symm, (by repeat (first | exact Ext.refl _ | assumption | refine Ext.alloc ?_ _ | refine Ext.drew ?_ | refine Ext.drewN ?_ _ | refine Ext.setCell ?_ (Nat.le_refl _) _ | refine Ext.trans ?_ (by assumption)))⟩
  rcases hmm with rfl | hmm
  · have HR1 : Hid (res = decide (d ≤ 28 + (if (2 : Int) = 2 ∧ y % 4 = 0 then 1 else 0))) := Lib.hid HR.out
    clear HR
    by_cases hy : y % 4 = 0
    · have HR : Hid (res = decide (d ≤ 29)) := Lib.hid (by rw [HR1.out, if_pos ⟨rfl, hy⟩]; rfl)
      clear HR1
      go_wp2
      go_ret
      exact ⟨ret_bool HR.out.symm, (by repeat (first | exact Ext.refl _ | assumption | refine Ext.alloc ?_ _ | refine Ext.drew ?_ | refine Ext.drewN ?_ _ | refine Ext.setCell ?_ (Nat.le_refl _) _ | refine Ext.trans ?_ (by assumption)))⟩
    · have HR : Hid (res = decide (d ≤ 28)) := Lib.hid (by rw [HR1.out, if_neg (fun h => hy h.2)]; rfl)
      clear HR1
      go_wp2
      go_ret
      exact ⟨ret_bool HR.out.symm, (by repeat (first | exact Ext.refl _ | assumption | refine Ext.alloc ?_ _ | refine Ext.drew ?_ | refine Ext.drewN ?_ _ | refine Ext.setCell ?_ (Nat.le_refl _) _ | refine Ext.trans ?_ (by assumption)))⟩
  rcases hmm with rfl | rfl | rfl | rfl | rfl | rfl | rfl | rfl | rfl | rfl
  all_goals
    replace HR : Hid (res = decide (d ≤ _)) := Lib.hid HR.out
    go_wp2
    go_ret
    exact ⟨ret_bool HR.out.symm, (by repeat (first | exact Ext.refl _ | assumption | refine Ext.alloc ?_ _ | refine Ext.drew ?_ | refine Ext.drewN ?_ _ | refine Ext.setCell ?_ (Nat.le_refl _) _ | refine Ext.trans ?_ (by assumption)))⟩
end Go.Proofs.YteojfkffmbcedaaGreatDoor
