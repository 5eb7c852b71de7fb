/-
  Chapter 11: the add-on's sets, walked.
  Condition: two or five digits.
-/
import Derived.Test.YtfpliihglgjijaaGreatEaW5
namespace Go.Proofs.YtfpliihglgjijaaGreat
set_option linter.unusedVariables false
open Go.RowKit

set_option maxHeartbeats 1000000 in
theorem dAt_any (p : Addr) (s : ByteArray) (i : Nat) (d : Nat) (hi : i < s.size) (hd : s[i].toNat = 48 + d) (w : World) (hc : w.cell? p = some (.string s)) :
    Calls Tryz.prog 67 #[.int .i64 (i : Int), .pointer (some p)] w fun e w' => e = .returned (.int .i64 (d : Int)) ∧ w = w' := by
  have hlt : (s[i].toNat : Int) - 48 = (d : Int) := by omega
  have hd2 : d ≤ 255 := by have := UInt8.toNat_lt s[i]; omega
  clear hd
  go_enter Tryz.func67, Tryz.ntmps67
  go_wp2
  go_ret
  exact ⟨rfl, rfl⟩

theorem dv_at (s : ByteArray) (i : Nat) (h : i < s.size) : Ea.dv s.data.toList i = s[i].toNat - 48 := by
  unfold Ea.dv
  rw [List.getD_eq_getElem?_getD, List.getElem?_eq_getElem (by rw [len_data]; exact h)]; rfl

set_option maxRecDepth 100000 in
set_option maxHeartbeats 2000000 in
theorem addOnSets_two (s : ByteArray) (h2 : s.size = 2) (hd : Ea.digs s.data.toList = true) (w : World) :
    Calls Tryz.prog 34 #[.string s] w fun e w' => e = .returned (.string (Ea.bS (Ea.sS (Ea.setsAdd s.data.toList)))) ∧ Ext w w' := by
  have b2 : ((s.size : Int) == 2) = true := by rw [h2]; rfl
  obtain ⟨d0, hd0⟩ : ∃ d, s[0].toNat = 48 + d := ⟨s[0].toNat - 48, by have := Ea.digs_iff.1 hd s[0] (mem_at s 0 (by omega)); omega⟩
  obtain ⟨d1, hd1⟩ : ∃ d, s[1].toNat = 48 + d := ⟨s[1].toNat - 48, by have := Ea.digs_iff.1 hd s[1] (mem_at s 1 (by omega)); omega⟩
  have h09 := Ea.digs_iff.1 hd s[0] (mem_at s 0 (by omega))
  have h19 := Ea.digs_iff.1 hd s[1] (mem_at s 1 (by omega))
  have hd0' : d0 ≤ 9 := by omega
  have hd1' : d1 ≤ 9 := by omega
  have H0 := Lib.hid (fun (p : Addr) (w' : World) (hc : w'.cell? p = some (.string s)) => dAt_any p s 0 d0 (by omega) hd0 w' hc)
  have H1 := Lib.hid (fun (p : Addr) (w' : World) (hc : w'.cell? p = some (.string s)) => dAt_any p s 1 d1 (by omega) hd1 w' hc)
  have HDV : Hid (10 * Ea.dv s.data.toList 0 + Ea.dv s.data.toList 1 = 10 * d0 + d1) := Lib.hid (by rw [dv_at s 0 (by omega), dv_at s 1 (by omega)]; omega)
  clear hd h09 h19 hd0 hd1
  go_enter Tryz.func34, Tryz.ntmps34
  go_wp2_with fail
  refine (H0.out _ _ (by simp)).mono ?_
  rintro e w1 ⟨rfl, rfl⟩
  go_wp2_with fail
  refine (H1.out _ _ (by simp)).mono ?_
  rintro e w1 ⟨rfl, rfl⟩
  obtain ⟨x, hx⟩ : ∃ x, (10 * d0 + d1) % 4 = x := ⟨_, rfl⟩
  have hm : (10 * (d0 : Int) + (d1 : Int)).tmod 4 = (x : Int) := by rw [← hx, Int.tmod_eq_emod_of_nonneg (by omega)]; omega
  have hx4 : x < 4 := by omega
  have HX : Hid (Ea.bS (Ea.sS (Ea.setsA2.getD x [])) = Ea.bS (Ea.sS (Ea.setsAdd s.data.toList))) := Lib.hid (by
    unfold Ea.setsAdd
    rw [if_pos (by rw [len_data]; exact h2)]
    congr 3
    rw [← hx]
    congr 1
    exact HDV.out.symm)
  have hcl : ((w.alloc (Obj.cells #[Value.string s] 9)).alloc (Obj.cells #[.string ⟨#[65, 65]⟩, .string ⟨#[65, 66]⟩, .string ⟨#[66, 65]⟩, .string ⟨#[66, 66]⟩] 68)).cell? ⟨w.heap.size + 1, x, none⟩ = some (.string (Ea.bS (Ea.sS (Ea.setsA2.getD x [])))) := by
    have h1 : (w.alloc (Obj.cells #[Value.string s] 9)).heap.size = w.heap.size + 1 := by simp
    rw [← h1]
    refine new_cell _ _ _ ?_
    rcases (by omega : x = 0 ∨ x = 1 ∨ x = 2 ∨ x = 3) with h | h | h | h <;> rw [h] <;> rfl
  rw [HX.out] at hcl
  clear hx HX
  go_wp2
  go_ret
  exact ⟨rfl, (by repeat (first | exact Ext.refl _ | assumption | refine Ext.alloc ?_ _ | refine Ext.drew ?_ | refine Ext.drewN ?_ _ | refine Ext.setCell ?_ (Nat.le_refl _) _ | refine Ext.trans ?_ (by assumption)))⟩

set_option maxRecDepth 100000 in
set_option maxHeartbeats 2000000 in
theorem addOnSets_five (s : ByteArray) (h2 : s.size = 5) (hd : Ea.digs s.data.toList = true) (w : World) :
    Calls Tryz.prog 34 #[.string s] w fun e w' => e = .returned (.string (Ea.bS (Ea.sS (Ea.setsAdd s.data.toList)))) ∧ Ext w w' := by
  have b2 : ((s.size : Int) == 2) = false := by rw [h2]; rfl
  obtain ⟨d0, hd0⟩ : ∃ d, s[0].toNat = 48 + d := ⟨s[0].toNat - 48, by have := Ea.digs_iff.1 hd s[0] (mem_at s 0 (by omega)); omega⟩
  have hd0' : d0 ≤ 9 := by have := Ea.digs_iff.1 hd s[0] (mem_at s 0 (by omega)); omega
  have H0 := Lib.hid (fun (p : Addr) (w' : World) (hc : w'.cell? p = some (.string s)) => dAt_any p s 0 d0 (by omega) hd0 w' hc)
  obtain ⟨d1, hd1⟩ : ∃ d, s[1].toNat = 48 + d := ⟨s[1].toNat - 48, by have := Ea.digs_iff.1 hd s[1] (mem_at s 1 (by omega)); omega⟩
  have hd1' : d1 ≤ 9 := by have := Ea.digs_iff.1 hd s[1] (mem_at s 1 (by omega)); omega
  have H1 := Lib.hid (fun (p : Addr) (w' : World) (hc : w'.cell? p = some (.string s)) => dAt_any p s 1 d1 (by omega) hd1 w' hc)
  obtain ⟨d2, hd2⟩ : ∃ d, s[2].toNat = 48 + d := ⟨s[2].toNat - 48, by have := Ea.digs_iff.1 hd s[2] (mem_at s 2 (by omega)); omega⟩
  have hd2' : d2 ≤ 9 := by have := Ea.digs_iff.1 hd s[2] (mem_at s 2 (by omega)); omega
  have H2 := Lib.hid (fun (p : Addr) (w' : World) (hc : w'.cell? p = some (.string s)) => dAt_any p s 2 d2 (by omega) hd2 w' hc)
  obtain ⟨d3, hd3⟩ : ∃ d, s[3].toNat = 48 + d := ⟨s[3].toNat - 48, by have := Ea.digs_iff.1 hd s[3] (mem_at s 3 (by omega)); omega⟩
  have hd3' : d3 ≤ 9 := by have := Ea.digs_iff.1 hd s[3] (mem_at s 3 (by omega)); omega
  have H3 := Lib.hid (fun (p : Addr) (w' : World) (hc : w'.cell? p = some (.string s)) => dAt_any p s 3 d3 (by omega) hd3 w' hc)
  obtain ⟨d4, hd4⟩ : ∃ d, s[4].toNat = 48 + d := ⟨s[4].toNat - 48, by have := Ea.digs_iff.1 hd s[4] (mem_at s 4 (by omega)); omega⟩
  have hd4' : d4 ≤ 9 := by have := Ea.digs_iff.1 hd s[4] (mem_at s 4 (by omega)); omega
  have H4 := Lib.hid (fun (p : Addr) (w' : World) (hc : w'.cell? p = some (.string s)) => dAt_any p s 4 d4 (by omega) hd4 w' hc)
  have HDV : Hid (3 * (Ea.dv s.data.toList 0 + Ea.dv s.data.toList 2 + Ea.dv s.data.toList 4) + 9 * (Ea.dv s.data.toList 1 + Ea.dv s.data.toList 3) = 3 * (d0 + d2 + d4) + 9 * (d1 + d3)) := Lib.hid (by
    rw [dv_at s 0 (by omega), dv_at s 1 (by omega), dv_at s 2 (by omega), dv_at s 3 (by omega), dv_at s 4 (by omega)]; omega)
  clear hd hd0 hd1 hd2 hd3 hd4
  go_enter Tryz.func34, Tryz.ntmps34
  go_wp2_with fail
  refine (H0.out _ _ (by simp)).mono ?_
  rintro e w1 ⟨rfl, rfl⟩
  go_wp2_with fail
  refine (H2.out _ _ (by simp)).mono ?_
  rintro e w1 ⟨rfl, rfl⟩
  go_wp2_with fail
  refine (H4.out _ _ (by simp)).mono ?_
  rintro e w1 ⟨rfl, rfl⟩
  go_wp2_with fail
  refine (H1.out _ _ (by simp)).mono ?_
  rintro e w1 ⟨rfl, rfl⟩
  go_wp2_with fail
  refine (H3.out _ _ (by simp)).mono ?_
  rintro e w1 ⟨rfl, rfl⟩
  obtain ⟨x, hx⟩ : ∃ x, (3 * (d0 + d2 + d4) + 9 * (d1 + d3)) % 10 = x := ⟨_, rfl⟩
  have hm : (3 * ((d0 : Int) + (d2 : Int) + (d4 : Int)) + 9 * ((d1 : Int) + (d3 : Int))).tmod 10 = (x : Int) := by rw [← hx, Int.tmod_eq_emod_of_nonneg (by omega)]; omega
  have hx10 : x < 10 := by omega
  have HX : Hid (Ea.bS (Ea.sS (Ea.setsA5.getD x [])) = Ea.bS (Ea.sS (Ea.setsAdd s.data.toList))) := Lib.hid (by
    unfold Ea.setsAdd
    rw [if_neg (by rw [len_data]; omega)]
    congr 3
    rw [← hx]
    congr 1
    exact HDV.out.symm)
  have hcl : ((w.alloc (Obj.cells #[Value.string s] 9)).alloc (Obj.cells #[.string ⟨#[66, 66, 65, 65, 65]⟩, .string ⟨#[66, 65, 66, 65, 65]⟩, .string ⟨#[66, 65, 65, 66, 65]⟩, .string ⟨#[66, 65, 65, 65, 66]⟩, .string ⟨#[65, 66, 66, 65, 65]⟩, .string ⟨#[65, 65, 66, 66, 65]⟩, .string ⟨#[65, 65, 65, 66, 66]⟩, .string ⟨#[65, 66, 65, 66, 65]⟩, .string ⟨#[65, 66, 65, 65, 66]⟩, .string ⟨#[65, 65, 66, 65, 66]⟩] 70)).cell? ⟨w.heap.size + 1, x, none⟩ = some (.string (Ea.bS (Ea.sS (Ea.setsA5.getD x [])))) := by
    have h1 : (w.alloc (Obj.cells #[Value.string s] 9)).heap.size = w.heap.size + 1 := by simp
    rw [← h1]
    refine new_cell _ _ _ ?_
    rcases (by omega : x = 0 ∨ x = 1 ∨ x = 2 ∨ x = 3 ∨ x = 4 ∨ x = 5 ∨ x = 6 ∨ x = 7 ∨ x = 8 ∨ x = 9) with h | h | h | h | h | h | h | h | h | h <;> rw [h] <;> rfl
  rw [HX.out] at hcl
  clear hx HX
  go_wp2
  go_ret
  exact ⟨rfl, (by repeat (first | exact Ext.refl _ | assumption | refine Ext.alloc ?_ _ | refine Ext.drew ?_ | refine Ext.drewN ?_ _ | refine Ext.setCell ?_ (Nat.le_refl _) _ | refine Ext.trans ?_ (by assumption)))⟩
theorem addOnSets_any (s : ByteArray) (h : s.size = 2 ∨ s.size = 5) (hd : Ea.digs s.data.toList = true) (w : World) :
    Calls Tryz.prog 34 #[.string s] w fun e w' => e = .returned (.string (Ea.bS (Ea.sS (Ea.setsAdd s.data.toList)))) ∧ Ext w w' := by
  rcases h with h | h
  · exact addOnSets_two s h hd w
  · exact addOnSets_five s h hd w
end Go.Proofs.YtfpliihglgjijaaGreat
