/-
  runs.Wide, walked.
  Condition: the widths are readable.
-/
import Derived.Test.YthjlnpcaclfopaaGreatTwW11
import Derived.Lib.Slices
namespace Go.Proofs.YthjlnpcaclfopaaGreat
open Go.RowKit

theorem foldl_min_bd (l : List Int) : ∀ a : Int, l.foldl min a ≤ a ∧ ∀ x ∈ l, l.foldl min a ≤ x := by
  induction l with
  | nil => intro a; simp
  | cons y l ih =>
    intro a
    have h := ih (min a y)
    simp only [List.foldl_cons]
    refine ⟨by omega, fun x hx => ?_⟩
    rcases List.mem_cons.1 hx with rfl | hx
    · omega
    · exact h.2 x hx
theorem foldl_max_bd (l : List Int) : ∀ a : Int, a ≤ l.foldl max a ∧ ∀ x ∈ l, x ≤ l.foldl max a := by
  induction l with
  | nil => intro a; simp
  | cons y l ih =>
    intro a
    have h := ih (max a y)
    simp only [List.foldl_cons]
    refine ⟨by omega, fun x hx => ?_⟩
    rcases List.mem_cons.1 hx with rfl | hx
    · omega
    · exact h.2 x hx
theorem foldl_min_mem (l : List Int) : ∀ a : Int, l.foldl min a = a ∨ l.foldl min a ∈ l := by
  induction l with
  | nil => intro a; simp
  | cons y l ih =>
    intro a
    simp only [List.foldl_cons]
    rcases ih (min a y) with h | h
    · rw [h]
      rcases Int.le_total a y with h1 | h1
      · exact .inl (by omega)
      · exact .inr (by rw [show min a y = y by omega]; exact List.mem_cons_self ..)
    · exact .inr (List.mem_cons_of_mem _ h)
theorem foldl_max_mem (l : List Int) : ∀ a : Int, l.foldl max a = a ∨ l.foldl max a ∈ l := by
  induction l with
  | nil => intro a; simp
  | cons y l ih =>
    intro a
    simp only [List.foldl_cons]
    rcases ih (max a y) with h | h
    · rw [h]
      rcases Int.le_total a y with h1 | h1
      · exact .inr (by rw [show max a y = y by omega]; exact List.mem_cons_self ..)
      · exact .inl (by omega)
    · exact .inr (List.mem_cons_of_mem _ h)
theorem getD0_mem {ws : List Int} (h : ws ≠ []) : ws.getD 0 0 ∈ ws := by
  cases ws with
  | nil => exact absurd rfl h
  | cons y l => simp
theorem lo_mem {ws : List Int} (h : ws ≠ []) : Tw.lo ws ∈ ws := by
  unfold Tw.lo
  rcases foldl_min_mem ws (ws.getD 0 0) with e | e
  · rw [e]; exact getD0_mem h
  · exact e
theorem hi_mem {ws : List Int} (h : ws ≠ []) : Tw.hi ws ∈ ws := by
  unfold Tw.hi
  rcases foldl_max_mem ws (ws.getD 0 0) with e | e
  · rw [e]; exact getD0_mem h
  · exact e
theorem lo_le {ws : List Int} {x : Int} (h : x ∈ ws) : Tw.lo ws ≤ x := (foldl_min_bd ws (ws.getD 0 0)).2 x h
theorem le_hi {ws : List Int} {x : Int} (h : x ∈ ws) : x ≤ Tw.hi ws := (foldl_max_bd ws (ws.getD 0 0)).2 x h
theorem inRng_mem {ws : List Int} (h : Tw.inRng ws = true) {x : Int} (hx : x ∈ ws) : 1 ≤ x ∧ x ≤ 65536 := by
  unfold Tw.inRng at h
  rw [List.all_eq_true] at h
  have := h x hx
  simpa using this
theorem lw_bd (ws l : List Int) (h : ∀ x ∈ l, 1 ≤ x ∧ x ≤ 65536) (h2 : 1 ≤ Tw.hi ws ∧ Tw.hi ws ≤ 65536) : 1 ≤ Tw.leastWide ws l ∧ Tw.leastWide ws l ≤ 65536 := by
  unfold Tw.leastWide
  generalize Tw.hi ws = a at h2 ⊢
  induction l generalizing a with
  | nil => exact h2
  | cons y l ih =>
    have hy := h y (List.mem_cons_self ..)
    simp only [List.foldl_cons]
    refine ih (fun x hx => h x (List.mem_cons_of_mem _ hx)) _ ?_
    split <;> omega
theorem mn_bd (ws l : List Int) (h : ∀ x ∈ l, 1 ≤ x ∧ x ≤ 65536) (h2 : 1 ≤ Tw.lo ws ∧ Tw.lo ws ≤ 65536) : 1 ≤ Tw.mostNarrow ws l ∧ Tw.mostNarrow ws l ≤ 65536 := by
  unfold Tw.mostNarrow
  generalize Tw.lo ws = a at h2 ⊢
  induction l generalizing a with
  | nil => exact h2
  | cons y l ih =>
    have hy := h y (List.mem_cons_self ..)
    simp only [List.foldl_cons]
    refine ih (fun x hx => h x (List.mem_cons_of_mem _ hx)) _ ?_
    split <;> omega
theorem take_at (ws : List Int) (j : Nat) (h : j < ws.length) : ws.take (j + 1) = ws.take j ++ [ws.getD j 0] := by
  rw [List.take_succ_eq_append_getElem h, List.getD_eq_getElem?_getD, List.getElem?_eq_getElem h]; rfl
theorem getD_mem (ws : List Int) (j : Nat) (h : j < ws.length) : ws.getD j 0 ∈ ws := by
  rw [List.getD_eq_getElem?_getD, List.getElem?_eq_getElem h]; exact List.getElem_mem _
theorem lw_snoc (ws l : List Int) (x : Int) : Tw.leastWide ws (l ++ [x]) = if Tw.isWide ws x then min (Tw.leastWide ws l) x else Tw.leastWide ws l := by simp [Tw.leastWide]
theorem mn_snoc (ws l : List Int) (x : Int) : Tw.mostNarrow ws (l ++ [x]) = if Tw.isWide ws x then Tw.mostNarrow ws l else max (Tw.mostNarrow ws l) x := by simp [Tw.mostNarrow]
theorem lo_eq (ws : List Int) : Tw.lo ws = Lib.minOf ws := by cases ws <;> rfl
theorem hi_eq (ws : List Int) : Tw.hi ws = Lib.maxOf ws := by cases ws <;> rfl

set_option maxHeartbeats 1000000 in
theorem inRange_any (b off cap : Nat) (ws : List Int) (w : World) (hc : ∀ j, j < ws.length → w.cell? ⟨b, off + j, none⟩ = some (.int .i64 (ws.getD j 0))) (hl : ws.length ≤ 1000000000) :
    Calls Tryz.prog 43 #[.slice (some ⟨b, off, none⟩) ws.length cap] w fun e w' => e = .returned (.bool (Tw.inRng ws)) ∧ w = w' := by
  have HC := Lib.hid hc
  have HT := Lib.hid (Tw.inRng.eq_1 ws)
  generalize Tw.inRng ws = res at *
  clear hc
  go_enter Tryz.func43, Tryz.ntmps43
  go_wp2
  go_loop [7] (fun i => ∃ j : Nat, j ≤ ws.length ∧ i = .int .i64 (j : Int) ∧ Hid (∀ x ∈ ws.take j, 1 ≤ x ∧ x ≤ 65536)) (fun i => ws.length - (intOf i).toNat)
  case atStart => exact ⟨0, Nat.zero_le _, rfl, Lib.hid (fun x hx => by simp at hx)⟩
  case round =>
    obtain ⟨j, hj, rfl, HB⟩ := hrel
    by_cases hlt : j < ws.length
    · have hcj := HC.out j hlt
      have HM := Lib.hid (getD_mem ws j hlt)
      have HTA := Lib.hid (take_at ws j hlt)
      generalize ws.getD j 0 = x at *
      by_cases hx : 1 ≤ x ∧ x ≤ 65536
      · obtain ⟨hx1, hx2⟩ := hx
        go_wp2
        go_round
        case rel => exact ⟨j + 1, by omega, by go_num, Lib.hid (fun y hy => by
          rw [HTA.out, List.mem_append] at hy
          rcases hy with h | h
          · exact HB.out y h
          · rw [List.mem_singleton] at h; subst h; omega)⟩
        case measure => simp [intOf]; omega
      · have HN : Hid (res = false) := Lib.hid (by
          rw [HT.out, List.all_eq_false]
          exact ⟨x, HM.out, by simp; omega⟩)
        by_cases h1 : x < 1
        · clear hx
          go_wp2
          go_ret
          exact ⟨ret_bool HN.out.symm, rfl⟩
        · have h2 : 65536 < x := by omega
          clear hx
          go_wp2
          go_ret
          exact ⟨ret_bool HN.out.symm, rfl⟩
    · obtain rfl : j = ws.length := by omega
      rw [List.take_length] at HB
      have HN : Hid (res = true) := Lib.hid (by
        rw [HT.out, List.all_eq_true]
        intro x hx; simpa using HB.out x hx)
      clear hj hlt
      go_wp2
      go_ret
      exact ⟨ret_bool HN.out.symm, rfl⟩

/-- What Wide returns. -/
def WideR (r : List Bool × Int) (w : World) (e : Ending) (w' : World) : Prop := ∃ v, e = .returned (.tuple #[v, .int .i64 r.2]) ∧ Sl w' v (r.1.map encT) ∧ Ext w w'

set_option maxRecDepth 100000 in
set_option maxHeartbeats 4000000 in
theorem wide_any (v : Value) (ws : List Int) (w : World) (hv : Sl w v (ws.map encI)) (hl : ws.length ≤ 1000000) :
    Calls Tryz.prog 23 #[v] w (WideR (Tw.wide ws) w) := by
  have HT := Lib.hid (Tw.wide.eq_1 ws)
  generalize Tw.wide ws = res at *
  by_cases h0 : ws = []
  · rw [if_pos h0] at HT
    subst h0
    obtain ⟨a, c, rfl⟩ := hv.form
    simp only [List.map_nil, List.length_nil]
    clear hv
    go_enter Tryz.func23, Tryz.ntmps23
    go_wp2
    go_ret2
    exact ⟨.slice none 0 0, by rw [HT.out]; rfl, by rw [HT.out]; exact sl_nil _, Ext.refl _⟩
  · rw [if_neg h0] at HT
    rcases hv with ⟨h1, _⟩ | ⟨b, off, cap, rfl, hb, hcell⟩
    · exact absurd (by simpa using h1) h0
    rw [List.length_map] at hcell ⊢
    have hpos : 0 < ws.length := List.length_pos_iff.2 h0
    have hlb : ((ws.length : Int) == 0) = false := beq_eq_false_iff_ne.2 (by omega)
    have HC : Hid (∀ w', Ext w w' → ∀ j, j < ws.length → w'.cell? ⟨b, off + j, none⟩ = some (.int .i64 (ws.getD j 0))) := Lib.hid (fun w' hx j hj => by
      rw [hx.cell (p := ⟨b, off + j, none⟩) hb, hcell j hj, List.getElem?_map, List.getD_eq_getElem?_getD, List.getElem?_eq_getElem hj]; rfl)
    have HI := Lib.hid (fun w' hx => inRange_any b off cap ws w' (HC.out w' hx) (by omega))
    have HLO := Lib.hid (lo_mem h0)
    have HHI := Lib.hid (hi_mem h0)
    clear hcell h0
    cases hrg : Tw.inRng ws
    · rw [hrg] at HI HT
      rw [if_pos rfl] at HT
      clear hrg
      go_enter Tryz.func23, Tryz.ntmps23
      go_wp2_with fail
      refine (HI.out _ (Ext.refl _)).mono ?_
      rintro e w1 ⟨rfl, rfl⟩
      go_wp2
      go_ret2
      exact ⟨.slice none 0 0, by rw [HT.out]; rfl, by rw [HT.out]; exact sl_nil _, Ext.refl _⟩
    · have HR := Lib.hid (fun x hx => inRng_mem hrg (x := x) hx)
      rw [hrg] at HI HT
      rw [if_neg Bool.noConfusion] at HT
      clear hrg
      have hmk := run_make_row' (P := Tryz.prog) 56 4 (.bool false) 1 Tryz.underlying56 (by kernel_rfl) rfl .i64 .i64 ws.length (by omega) (by omega)
      have HMIN : Hid (∀ w', Ext w w' → Calls Tryz.prog 44 #[.slice (some ⟨b, off, none⟩) ws.length cap] w' fun e w'' => e = .returned (.int .i64 (Tw.lo ws)) ∧ w' = w'') := Lib.hid (fun w' hx => by
        have := Tryz.slices_Min_int b off ws.length cap ws w' hpos (Nat.le_refl _) (by omega) (HC.out w' hx)
        rw [List.take_length, ← lo_eq] at this
        exact this.mono fun _ _ h => ⟨h.1, h.2.symm⟩)
      have HMAX : Hid (∀ w', Ext w w' → Calls Tryz.prog 45 #[.slice (some ⟨b, off, none⟩) ws.length cap] w' fun e w'' => e = .returned (.int .i64 (Tw.hi ws)) ∧ w' = w'') := Lib.hid (fun w' hx => by
        have := Tryz.slices_Max_int b off ws.length cap ws w' hpos (Nat.le_refl _) (by omega) (HC.out w' hx)
        rw [List.take_length, ← hi_eq] at this
        exact this.mono fun _ _ h => ⟨h.1, h.2.symm⟩)
      have hlo := HR.out _ HLO.out
      have hhi := HR.out _ HHI.out
      obtain ⟨hlo1, hlo2⟩ := hlo
      obtain ⟨hhi1, hhi2⟩ := hhi
      have HW : Hid (∀ x, Tw.isWide ws x = decide (Tw.lo ws + Tw.hi ws < 2 * x)) := Lib.hid (fun x => rfl)
      have HLW := Lib.hid (fun j => lw_bd ws (ws.take j) (fun x hx => HR.out x (List.mem_of_mem_take hx)) ⟨hhi1, hhi2⟩)
      have HMN := Lib.hid (fun j => mn_bd ws (ws.take j) (fun x hx => HR.out x (List.mem_of_mem_take hx)) ⟨hlo1, hlo2⟩)
      have HL0 : Hid (Tw.leastWide ws [] = Tw.hi ws ∧ Tw.mostNarrow ws [] = Tw.lo ws) := Lib.hid ⟨rfl, rfl⟩
      clear HLO HHI
      generalize Tw.lo ws = lo at *
      generalize Tw.hi ws = hi at *
      by_cases h23 : 2 * hi < 3 * lo
      · rw [if_pos h23] at HT
        go_enter Tryz.func23, Tryz.ntmps23
        go_wp2_with fail
        refine (HI.out _ (Ext.refl _)).mono ?_
        rintro e w1 ⟨rfl, rfl⟩
        go_wp2_with fail
        refine (HMIN.out _ (by repeat (first | exact Ext.refl _ | assumption | refine Ext.alloc ?_ _ | refine Ext.drew ?_ | refine Ext.trans ?_ (by assumption)))).mono ?_
        rintro e w1 ⟨rfl, rfl⟩
        go_wp2_with fail
        refine (HMAX.out _ (by repeat (first | exact Ext.refl _ | assumption | refine Ext.alloc ?_ _ | refine Ext.drew ?_ | refine Ext.trans ?_ (by assumption)))).mono ?_
        rintro e w1 ⟨rfl, rfl⟩
        go_wp2
        go_ret2
        refine ⟨.slice (some ⟨w.heap.size, 0, none⟩) ws.length ws.length, by rw [HT.out]; rfl, ?_, (by repeat (first | exact Ext.refl _ | assumption | refine Ext.alloc ?_ _ | refine Ext.drew ?_ | refine Ext.trans ?_ (by assumption)))⟩
        rw [HT.out]
        refine (Sl.row (World.rowIs_made w (.bool false) ws.length 4)).congr ?_
        apply List.ext_getElem
        · simp
        · intro i h1 h2; simp [encT]
      · rw [if_neg h23] at HT
        go_enter Tryz.func23, Tryz.ntmps23
        go_wp2_with fail
        refine (HI.out _ (Ext.refl _)).mono ?_
        rintro e w1 ⟨rfl, rfl⟩
        go_wp2_with fail
        refine (HMIN.out _ (by repeat (first | exact Ext.refl _ | assumption | refine Ext.alloc ?_ _ | refine Ext.drew ?_ | refine Ext.trans ?_ (by assumption)))).mono ?_
        rintro e w1 ⟨rfl, rfl⟩
        go_wp2_with fail
        refine (HMAX.out _ (by repeat (first | exact Ext.refl _ | assumption | refine Ext.alloc ?_ _ | refine Ext.drew ?_ | refine Ext.trans ?_ (by assumption)))).mono ?_
        rintro e w1 ⟨rfl, rfl⟩
        go_wp2
        clear hmk
        go_loopw [34, 7, 8] (fun i a c wr => ∃ j : Nat, j ≤ ws.length ∧ i = .int .i64 (j : Int) ∧ a = .int .i64 (Tw.leastWide ws (ws.take j)) ∧ c = .int .i64 (Tw.mostNarrow ws (ws.take j)) ∧ wr.rowIs w.heap.size 4 ws.length (fun k => if k < j then encT (Tw.isWide ws (ws.getD k 0)) else .bool false) ∧ Ext w wr) (fun i _ _ _ => ws.length - (intOf i).toNat)
        case atStart =>
          refine ⟨0, Nat.zero_le _, rfl, ?_, ?_, (World.rowIs_made w _ _ _).congr (fun i _ => by simp), (by repeat (first | exact Ext.refl _ | assumption | refine Ext.alloc ?_ _ | refine Ext.drew ?_ | refine Ext.trans ?_ (by assumption)))⟩
          · rw [List.take_zero, HL0.out.1]
          · rw [List.take_zero, HL0.out.2]
        case round =>
          obtain ⟨j, hj, rfl, rfl, rfl, hrow, hxr⟩ := hrel
          obtain ⟨b1, b2⟩ := HLW.out j
          obtain ⟨b3, b4⟩ := HMN.out j
          by_cases hlt : j < ws.length
          · have hcj := hrow.cell hlt
            have hfj := hrow.frozen j
            have hwj := HC.out wr hxr j hlt
            obtain ⟨b5, b6⟩ := HR.out _ (getD_mem ws j hlt)
            have HS1 := Lib.hid (lw_snoc ws (ws.take j) (ws.getD j 0))
            have HS2 := Lib.hid (mn_snoc ws (ws.take j) (ws.getD j 0))
            rw [← take_at ws j hlt] at HS1 HS2
            have HWJ := Lib.hid (HW.out (ws.getD j 0))
            have hbn : b ≠ w.heap.size := by omega
            have HRW : ∀ bb, Tw.isWide ws (ws.getD j 0) = bb → Hid ((wr.setCell ⟨w.heap.size, j, none⟩ (.bool bb)).rowIs w.heap.size 4 ws.length (fun k => if k < j + 1 then encT (Tw.isWide ws (ws.getD k 0)) else .bool false)) := fun bb hbb =>
              Lib.hid ((hrow.set j (.bool bb)).congr (fun k hk => by
                by_cases h1 : k = j
                · subst h1; rw [if_pos rfl, if_pos (show k < k + 1 by omega), hbb]; rfl
                · rw [if_neg h1]
                  by_cases h2 : k < j
                  · rw [if_pos h2, if_pos (show k < j + 1 by omega)]
                  · rw [if_neg h2, if_neg (show ¬ k < j + 1 by omega)]))
            have HX := Lib.hid (fun u => hxr.setCell (p := ⟨w.heap.size, j, none⟩) (Nat.le_refl _) u)
            generalize Tw.leastWide ws (ws.take j) = lw at *
            generalize Tw.mostNarrow ws (ws.take j) = mn at *
            by_cases hw : lo + hi < 2 * ws.getD j 0
            · have hiw : Tw.isWide ws (ws.getD j 0) = true := by rw [HWJ.out]; simpa using hw
              have HR1 := HRW true hiw
              rw [hiw, if_pos rfl] at HS1 HS2
              clear hrow HRW HWJ hiw
              generalize ws.getD j 0 = x at *
              go_wp2
              go_roundw
              case rel => exact ⟨j + 1, by omega, by go_num, by rw [HS1.out], by rw [HS2.out], HR1.out, HX.out _⟩
              case measure => simp [intOf]; omega
            · have hiw : Tw.isWide ws (ws.getD j 0) = false := by rw [HWJ.out]; simpa using hw
              have HR1 := HRW false hiw
              rw [hiw, if_neg Bool.noConfusion] at HS1 HS2
              clear hrow HRW HWJ hiw
              generalize ws.getD j 0 = x at *
              go_wp2
              go_roundw
              case rel => exact ⟨j + 1, by omega, by go_num, by rw [HS1.out], by rw [HS2.out], HR1.out, HX.out _⟩
              case measure => simp [intOf]; omega
          · obtain rfl : j = ws.length := by omega
            rw [List.take_length] at b1 b2 b3 b4 ⊢
            have hsl := Sl.row hrow
            clear hj hlt hrow
            generalize Tw.leastWide ws ws = lw at *
            generalize Tw.mostNarrow ws ws = mn at *
            by_cases h5 : 2 * lw < 3 * mn
            · rw [if_pos h5] at HT
              go_wp2
              go_ret2
              exact ⟨.slice none 0 0, by rw [HT.out]; rfl, by rw [HT.out]; exact sl_nil _, hxr⟩
            · rw [if_neg h5] at HT
              go_wp2
              go_ret2
              refine ⟨.slice (some ⟨w.heap.size, 0, none⟩) ws.length ws.length, by rw [HT.out]; rfl, ?_, hxr⟩
              rw [HT.out]
              refine hsl.congr ?_
              apply List.ext_getElem
              · simp
              · intro i h1 h2
                simp at h1
                simp [h1]
end Go.Proofs.YthjlnpcaclfopaaGreat
