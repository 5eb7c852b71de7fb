/-
  Chapter 11: readLong, walked.
  Condition: a string of 95 modules.
-/
import Derived.Test.YtfpliihglgjijaaGreatEaWH
namespace Go.Proofs.YtfpliihglgjijaaGreat
set_option linter.unusedVariables false
open Go.RowKit

theorem row3_far {w : World} {b g : Nat} {o : Option Obj} {p q r : Value} (hne : b ≠ g) (h : Hid (w.heap[g]? = o)) :
    Hid ((((w.setCell ⟨b, 0, none⟩ p).setCell ⟨b, 1, none⟩ q).setCell ⟨b, 2, none⟩ r).heap[g]? = o) := by
  have e : ∀ (w : World) (i : Nat) (u : Value), (w.setCell ⟨b, i, none⟩ u).heap[g]? = w.heap[g]? := fun w i u => by
    simp [World.setCell, Array.getElem?_modify, hne]
  exact Lib.hid (by rw [e, e, e]; exact h.out)
set_option maxRecDepth 100000 in
set_option maxHeartbeats 1500000 in
theorem readLong_any (s : ByteArray) (sl : List Bool) (hs : s.data.toList = Ea.mS sl) (hW : sl.length = 95) (w : World) :
    Calls Tryz.prog 74 #[.string s] w fun e w' => e = .returned (symV (Ea.rdSym 95 sl)) ∧ Ext w w' := by
  have HH := Lib.hid (fun w => halves_long s sl hs hW w)
  rw [long_eq sl hW]
  obtain ⟨⟨⟨l, u⟩, er⟩, hh⟩ : ∃ r, halv true 0 6 sl = r := ⟨_, rfl⟩
  rw [hh] at HH ⊢
  simp only [halV] at HH
  have hk : er = 0 → Ea.digs l = true ∧ l.length = 2 * 6 ∧ ∀ x ∈ u, x < 3 := fun h0 => by
    subst h0
    obtain ⟨a, b, c, _⟩ := halv_ok hh (by omega)
    exact ⟨a, b, c⟩
  clear hs hW hh
  by_cases h0 : er = 0
  · subst h0
    obtain ⟨hd, hl, hu⟩ := hk rfl
    have HLI := Lib.hid (Ea.left_idx u hu)
    have hLs : (Ea.bS l).size ≤ 12 := by rw [size_of_toList (Ea.bS_list l)]; omega
    have HLD := Lib.hid (And.intro hd hl)
    have HPL : Hid (∀ d, Ea.find13 u = some d → d < 10) := Lib.hid (fun d h => (Ea.find13_some h).1)
    obtain ⟨Q, hQ⟩ : ∃ Q, (Ea.leftB.map Value.string).toArray = Q := ⟨_, rfl⟩
    have hRl : Ea.leftB.length = 10 := rfl
    have hQs : Q.size = 10 := by rw [← hQ]; simp [hRl]
    have HQ1 : Hid (Q.all (·.oneCell') = true) := Lib.hid (by rw [← hQ]; simp [Value.oneCell'])
    have HQd : Hid (∀ i, i < 10 → Q[i]? = some (.string (Ea.leftB.getD i ByteArray.empty))) := Lib.hid (fun i hi => by
      rw [← hQ]
      simp only [List.getElem?_toArray, List.getElem?_map]
      rw [List.getElem?_eq_getElem (by rw [hRl]; exact hi), List.getD_eq_getElem?_getD, List.getElem?_eq_getElem (by rw [hRl]; exact hi)]; rfl)
    have HRL := Lib.hid hRl
    have HDR := Lib.hid (fun w => leftSets_any w)
    unfold arrV at HDR
    rw [hQ] at HDR
    clear hk hQ hRl hu hd hl
    obtain ⟨res, hres⟩ : ∃ res, longP ((l, u), 0) = res := ⟨_, rfl⟩
    rw [hres]
    have HRS := Lib.hid hres
    clear hres
    obtain ⟨L, hL⟩ : ∃ L, Ea.bS l = L := ⟨_, rfl⟩
    have HL := Lib.hid hL
    obtain ⟨U, hU⟩ : ∃ U, Ea.bS (Ea.sS u) = U := ⟨_, rfl⟩
    rw [hL] at HH hLs
    rw [hU] at HH HLI
    clear hL hU
    go_enter Tryz.func74, Tryz.ntmps74
    go_wp2_with fail
    refine (HH.out _).mono ?_
    rintro e w1 ⟨rfl, hx1⟩
    go_wp2_with fail
    refine (HDR.out _).mono ?_
    rintro e w4 ⟨rfl, hx4⟩
    have hst := run_store_ten Q hQs HQ1.out w4
    have HNC := Lib.hid (fun i hi => new_cell Q 70 w4 (HQd.out i hi))
    go_wp2_with fail
    obtain ⟨w5, hw5⟩ : ∃ w5, w4.alloc (.cells Q 70) = w5 := ⟨_, rfl⟩
    have hsz : w4.heap.size < w5.heap.size := by rw [← hw5]; simp
    have hx5 := (hx1.trans hx4).alloc (.cells Q 70)
    rw [hw5] at hx5
    rw [hw5] at HNC ⊢
    clear hx1 hx4
    have HIX := Lib.hid (Tryz.slices_Index_string w4.heap.size 0 10 10 Ea.leftB U w5 (by rw [HRL.out]; exact Nat.le_refl _) (by omega) (fun i hi => by
      rw [Nat.zero_add]
      exact HNC.out i (by rw [← HRL.out]; exact hi)))
    rw [show Ea.leftB.take 10 = Ea.leftB from rfl, HLI.out] at HIX
    clear hst hw5 HNC HRL HQd HQ1 HLI
    cases hf : Ea.find13 u with
    | none =>
      rw [hf] at HIX
      simp only [Ea.plcO] at HIX
      have HG : Hid (res = ((0, []), 18)) := Lib.hid (by rw [← HRS.out]; unfold longP; rw [if_neg (by simp)]; dsimp only; rw [hf])
      clear hf HPL
      refine HIX.out.mono ?_
      rintro e w8 ⟨rfl, rfl⟩
      have hx := hx5
      obtain ⟨z0, z1, z2, z3, z4, z5, z6, HB⟩ := row3 hx
      have hxw := hx.before
      clear hx5 hx
      go_wp2
      refine bodyPost_ret (results_lin Tryz.results74 rfl (row3_set HB) rfl) rfl ?_
      exact ⟨by rw [HG.out]; rfl, (by repeat (first | exact Ext.refl _ | assumption | refine Ext.alloc ?_ _ | refine Ext.drew ?_ | refine Ext.drewN ?_ _ | refine Ext.setCell ?_ (Nat.le_refl _) _ | refine Ext.trans ?_ (by assumption)))⟩
    | some d =>
      rw [hf] at HIX
      simp only [Ea.plcO] at HIX
      have hd10 := HPL.out d hf
      have HF := Lib.hid hf
      clear hf HPL
      refine HIX.out.mono ?_
      rintro e w8 ⟨rfl, rfl⟩
      have hc1 : (Utf8.encode (48 + (d : Int))).data.toList = [Ea.chr d] := by rw [show (48 + (d : Int)) = ((48 + d : Nat) : Int) by omega]; exact encode_ascii (48 + d) (by omega)
      have hz1 : (Utf8.encode (48 + (d : Int))).size = 1 := size_of_toList hc1
      obtain ⟨CD, hCD⟩ : ∃ CD, Utf8.encode (48 + (d : Int)) = CD := ⟨_, rfl⟩
      rw [hCD] at hc1 hz1
      have hr1 : ∀ w, (convert 21 9 (.int .i32 (48 + (d : Int)))).run Tryz.prog w = .ok (.string CD) w := fun w => by rw [← hCD]; exact run_convert_int_string w _ _ _ _ (by kernel_rfl) Tryz.underlying9
      have HSS : Hid (CD ++ L = Ea.bS (Ea.chr d :: l)) := Lib.hid (by
        apply bytes_ext
        rw [ByteArray.data_append, Array.toList_append, hc1, ← HL.out]; rfl)
      have HR := Lib.hid (fun w => right_any 1 (Ea.bS (Ea.chr d :: l)) (Ea.digs_cons (chr_dig hd10) HLD.out.1) (.inr ⟨by decide, by rw [size_of_toList (Ea.bS_list _), List.length_cons, HLD.out.2]; omega, by rw [size_of_toList (Ea.bS_list _), List.length_cons, HLD.out.2]; omega⟩) w)
      rw [if_neg (show ¬(1 : Int) = 4 by decide), Ea.bS_list, ← HSS.out] at HR
      clear hc1 hCD
      by_cases hg : Ea.good (Ea.chr d :: l)
      · rw [decide_eq_true hg] at HR
        by_cases hd0 : d = 0
        · have HG : Hid (res = ((3, l), 0)) := Lib.hid (by rw [← HRS.out]; unfold longP; rw [if_neg (by simp)]; dsimp only; rw [HF.out]; dsimp only; rw [if_pos hg, if_pos hd0])
          have hb0 : ((d : Int) == 0) = true := by rw [hd0]; rfl
          clear hg hd0
          go_wp2_with fail
          refine (HR.out _).mono ?_
          rintro e w9 ⟨rfl, hx9⟩
          have hx := (hx5.alloc _).trans hx9
          have hlt : w.heap.size < w8.heap.size := by have := hx5.size; simp at this; omega
          obtain ⟨z0, z1, z2, z3, z4, z5, z6, HB⟩ := row3 hx
          obtain ⟨y0, y1, y2, y3, y4, y5, y6, HC⟩ := row3 hx9
          have hxw := hx.before
          clear hx5 hx hx9
          have HL2 : Hid (w8.heap.size ≠ w.heap.size ∧ w.heap.size ≤ w8.heap.size) := Lib.hid ⟨by omega, by omega⟩
          go_wp2
          refine bodyPost_ret (results_lin Tryz.results74 rfl (row3_set (row3_far HL2.out.1 HB)) rfl) rfl ?_
          have HX := (((hxw.setCell (p := ⟨w8.heap.size, 0, none⟩) HL2.out.2 (.int .i64 3)).setCell (p := ⟨w8.heap.size, 1, none⟩) HL2.out.2 (.string L)).setCell (p := ⟨w8.heap.size, 2, none⟩) HL2.out.2 (.string ⟨#[]⟩))
          exact ⟨by rw [HG.out]; unfold symV linV; dsimp only; rw [HL.out]; rfl, ((HX.setCell (Nat.le_refl _) _).setCell (Nat.le_refl _) _).setCell (Nat.le_refl _) _⟩
        · have HG : Hid (res = ((1, Ea.chr d :: l), 0)) := Lib.hid (by rw [← HRS.out]; unfold longP; rw [if_neg (by simp)]; dsimp only; rw [HF.out]; dsimp only; rw [if_pos hg, if_neg hd0])
          have hb0 : ((d : Int) == 0) = false := by rw [beq_eq_false_iff_ne]; omega
          clear hg hd0
          go_wp2_with fail
          refine (HR.out _).mono ?_
          rintro e w9 ⟨rfl, hx9⟩
          have hx := (hx5.alloc _).trans hx9
          have hlt : w.heap.size < w8.heap.size := by have := hx5.size; simp at this; omega
          obtain ⟨z0, z1, z2, z3, z4, z5, z6, HB⟩ := row3 hx
          obtain ⟨y0, y1, y2, y3, y4, y5, y6, HC⟩ := row3 hx9
          have hxw := hx.before
          clear hx5 hx hx9
          go_wp2
          refine bodyPost_ret (results_lin Tryz.results74 rfl (row3_set HB) rfl) rfl ?_
          exact ⟨by rw [HG.out]; unfold symV linV; dsimp only; rw [← HSS.out]; rfl, (by repeat (first | exact Ext.refl _ | assumption | refine Ext.alloc ?_ _ | refine Ext.drew ?_ | refine Ext.drewN ?_ _ | refine Ext.setCell ?_ (Nat.le_refl _) _ | refine Ext.trans ?_ (by assumption)))⟩
      · rw [decide_eq_false hg] at HR
        have HG : Hid (res = ((0, []), 8)) := Lib.hid (by rw [← HRS.out]; unfold longP; rw [if_neg (by simp)]; dsimp only; rw [HF.out]; dsimp only; rw [if_neg hg])
        clear hg
        go_wp2_with fail
        refine (HR.out _).mono ?_
        rintro e w9 ⟨rfl, hx9⟩
        have hx := (hx5.alloc _).trans hx9
        have hlt : w.heap.size < w8.heap.size := by have := hx5.size; simp at this; omega
        obtain ⟨z0, z1, z2, z3, z4, z5, z6, HB⟩ := row3 hx
        obtain ⟨y0, y1, y2, y3, y4, y5, y6, HC⟩ := row3 hx9
        have hxw := hx.before
        clear hx5 hx hx9
        go_wp2
        refine bodyPost_ret (results_lin Tryz.results74 rfl (row3_set HB) rfl) rfl ?_
        exact ⟨by rw [HG.out]; rfl, (by repeat (first | exact Ext.refl _ | assumption | refine Ext.alloc ?_ _ | refine Ext.drew ?_ | refine Ext.drewN ?_ _ | refine Ext.setCell ?_ (Nat.le_refl _) _ | refine Ext.trans ?_ (by assumption)))⟩
  · have HG : Hid (longP ((l, u), er) = ((0, []), er)) := Lib.hid (by unfold longP; rw [if_pos h0])
    rw [HG.out]
    clear HG hk
    unfold symV linV
    dsimp only
    generalize Ea.bS l = L at *
    generalize Ea.bS (Ea.sS u) = U at *
    have hb : (er != 0) = true := bne_iff_ne.2 h0
    go_enter Tryz.func74, Tryz.ntmps74
    go_wp2_with fail
    refine (HH.out _).mono ?_
    rintro e w2 ⟨rfl, hx⟩
    obtain ⟨z0, z1, z2, z3, z4, z5, z6, HB⟩ := row3 hx
    have hxw := hx.before
    clear hx
    go_wp2
    refine bodyPost_ret (results_lin Tryz.results74 rfl (row3_set HB) rfl) rfl ?_
    exact ⟨rfl, (by repeat (first | exact Ext.refl _ | assumption | refine Ext.alloc ?_ _ | refine Ext.drew ?_ | refine Ext.drewN ?_ _ | refine Ext.setCell ?_ (Nat.le_refl _) _ | refine Ext.trans ?_ (by assumption)))⟩
end Go.Proofs.YtfpliihglgjijaaGreat
