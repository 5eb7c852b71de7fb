/-
  Chapter 12: Decode, walked.
  Condition: the widths are readable.
-/
import Derived.Test.YthjlnpcaclfopaaGreatRuns
namespace Go.Proofs.YthjlnpcaclfopaaGreat
open Go.RowKit

theorem wide_len (ws : List Int) (h : (Tw.wide ws).2 = 0) : (Tw.wide ws).1.length = ws.length := by
  unfold Tw.wide at h ⊢
  repeat' split
  all_goals first | (simp; done) | (simp_all; done)
theorem readK_len (k : Nat) (e : List UInt8) (check : Bool) (hc : Tw.countsK k e.length check = true) (h : (Tw.readK k e).2 = 0) : least3 k ≤ (Tw.readK k e).1.length ∧ (Tw.readK k e).1.length ≤ 100000 := by
  have hb : check.toNat ≤ 1 := Bool.toNat_le check
  match k with
  | 0 =>
    have hc' : Tw.counts 9 1 1000 e.length check = true := hc
    unfold Tw.counts at hc'
    simp only [Bool.and_eq_true, decide_eq_true_eq] at hc'
    have h' : (Tw.read Tw.c39 Tw.p39 [42] Cd.syms 9 e).2 = 0 := h
    show 3 ≤ (Tw.read Tw.c39 Tw.p39 [42] Cd.syms 9 e).1.length ∧ (Tw.read Tw.c39 Tw.p39 [42] Cd.syms 9 e).1.length ≤ 100000
    unfold Tw.read at h' ⊢
    split
    · rename_i i hi
      rw [hi] at h'
      have := List.find?_some hi
      simp only at h'
      simp [h'] at this
    · simp only [List.length_map, List.length_range]; omega
  | 1 =>
    have hc' : Tw.counts 7 0 998 e.length check = true := hc
    unfold Tw.counts at hc'
    simp only [Bool.and_eq_true, decide_eq_true_eq] at hc'
    have h' : (Tw.read Tw.cCb Tw.pCb Tw.eCb Tw.dCb 7 e).2 = 0 := h
    show 2 ≤ (Tw.read Tw.cCb Tw.pCb Tw.eCb Tw.dCb 7 e).1.length ∧ (Tw.read Tw.cCb Tw.pCb Tw.eCb Tw.dCb 7 e).1.length ≤ 100000
    unfold Tw.read at h' ⊢
    split
    · rename_i i hi
      rw [hi] at h'
      have := List.find?_some hi
      simp only at h'
      simp [h'] at this
    · simp only [List.length_map, List.length_range]; omega
  | k + 2 =>
    have hc' : Tw.countsItf e.length = true := hc
    unfold Tw.countsItf at hc'
    simp only [Bool.and_eq_true, decide_eq_true_eq] at hc'
    have h' : (Tw.readItf e).2 = 0 := h
    have h3 : least3 (k + 2) ≤ 1 := by unfold least3; omega
    show least3 (k + 2) ≤ (Tw.readItf e).1.length ∧ (Tw.readItf e).1.length ≤ 100000
    unfold Tw.readItf at h' ⊢
    split
    · rename_i h1; rw [if_pos h1] at h'; simp at h'
    · rename_i h1; rw [if_neg h1] at h'
      split
      · rename_i h2; rw [if_pos h2] at h'; simp at h'
      · rename_i h2; rw [if_neg h2] at h'
        split
        · rename_i h4; rw [if_pos h4] at h'; simp at h'
        · rw [flat2_len, List.length_range]; omega
theorem textK_len (k : Nat) (l : List UInt8) (check : Bool) : (Tw.textK k l check).length ≤ l.length := by
  unfold Tw.textK
  split
  · simp only [Tw.text39, List.length_take, List.length_drop]; omega
  · unfold Tw.textCb; split
    · simp only [List.length_append, List.length_take, List.length_drop]; omega
    · omega
  · unfold Tw.textItf; split
    · simp only [List.length_take]; omega
    · omega
theorem counts_pos (k n : Nat) (check : Bool) (hc : Tw.countsK k n check = true) : 1 ≤ n := by
  match k with
  | 0 =>
    have hc' : Tw.counts 9 1 1000 n check = true := hc
    unfold Tw.counts at hc'
    simp only [Bool.and_eq_true, decide_eq_true_eq] at hc'
    omega
  | 1 =>
    have hc' : Tw.counts 7 0 998 n check = true := hc
    unfold Tw.counts at hc'
    simp only [Bool.and_eq_true, decide_eq_true_eq] at hc'
    omega
  | k + 2 =>
    have hc' : Tw.countsItf n = true := hc
    unfold Tw.countsItf at hc'
    simp only [Bool.and_eq_true, decide_eq_true_eq] at hc'
    omega
theorem elems_row (l : List Bool) : (List.range l.length).map (fun k => encB (if l.getD k false then 119 else 110)) = (Tw.elems l).map encB := by
  apply List.ext_getElem
  · simp [Tw.elems]
  · intro i h1 h2
    simp [Tw.elems] at h1 h2 ⊢
    simp [h1]

/-- What Decode returns. -/
def DecR (r : List UInt8 × Int) (w : World) (e : Ending) (w' : World) : Prop := e = .returned (.tuple #[strV r.1, .int .i64 r.2]) ∧ Ext w w'

set_option maxRecDepth 100000 in
set_option maxHeartbeats 4000000 in
theorem decode_k (k : Nat) (kind : Int) (v : Value) (ws : List Int) (check : Bool) (w : World) (hv : Sl w v (ws.map encI)) (hl : ws.length ≤ 1000000) (hf : ∀ w, Calls Tryz.prog 17 #[.int .i64 kind] w (Found k w)) :
    Calls Tryz.prog 11 #[.int .i64 kind, v, .bool check] w (DecR (Tw.decK k ws check) w) := by
  have HF := Lib.hid hf
  have HT := Lib.hid (Tw.decK.eq_1 k ws check)
  generalize Tw.decK k ws check = res at *
  clear hf
  obtain ⟨a, c, rfl⟩ := hv.form
  have HW := Lib.hid (fun w' hx => wide_any _ ws w' (Sl.ext hv hx) hl)
  rw [List.length_map] at HW ⊢
  clear hv
  cases hct : Tw.countsK k ws.length check
  · rw [hct, if_pos rfl] at HT
    go_enter Tryz.func11, Tryz.ntmps11
    go_wp2_with fail
    refine (HF.out _).mono ?_
    rintro e w1 ⟨B, F, rfl, hF, hx1⟩
    have hen1 : ∀ xs w, (callFunc F.cf xs).run Tryz.prog w = .ok (.enter F.cf xs) w := hF.ent.2.1
    have HC := Lib.hid (fun w' hx => hF.counts w' hx ws.length check (by omega))
    rw [hct] at HC
    clear hF hct
    unfold SymFns.val
    go_wp2_with fail
    refine (HC.out _ (Above.of_ext _ (by repeat (first | exact Ext.refl _ | assumption | refine Ext.alloc ?_ _ | refine Ext.drew ?_ | refine Ext.trans ?_ (by assumption))))).mono ?_
    rintro e w2 ⟨rfl, rfl⟩
    go_wp2
    go_ret2
    exact ⟨by rw [HT.out]; rfl, (by repeat (first | exact Ext.refl _ | assumption | refine Ext.alloc ?_ _ | refine Ext.drew ?_ | refine Ext.trans ?_ (by assumption)))⟩
  · rw [hct, if_neg Bool.noConfusion] at HT
    have HCT := Lib.hid hct
    have hpos := counts_pos k ws.length check hct
    go_enter Tryz.func11, Tryz.ntmps11
    go_wp2_with fail
    refine (HF.out _).mono ?_
    rintro e w1 ⟨B, F, rfl, hF, hx1⟩
    have hen1 : ∀ xs w, (callFunc F.cf xs).run Tryz.prog w = .ok (.enter F.cf xs) w := hF.ent.2.1
    have hen2 : ∀ xs w, (callFunc F.mf xs).run Tryz.prog w = .ok (.enter F.mf xs) w := hF.ent.2.2.1
    have hen3 : ∀ xs w, (callFunc F.rf xs).run Tryz.prog w = .ok (.enter F.rf xs) w := hF.ent.2.2.2.2.1
    have hen4 : ∀ xs w, (callFunc F.tf xs).run Tryz.prog w = .ok (.enter F.tf xs) w := hF.ent.2.2.2.2.2
    have HC := Lib.hid (fun w' hx => hF.counts w' hx ws.length check (by omega))
    have HRD := Lib.hid (fun w' hx s hs => hF.read w' hx s check hs)
    have HTX := Lib.hid (fun w' hx s h1 h2 => hF.text w' hx s check h1 h2)
    have HCM := Lib.hid (fun w' hx s h1 => hF.comp w' hx s true h1)
    rw [hct] at HC
    clear hF hct HF
    unfold SymFns.val
    go_wp2_with fail
    refine (HC.out _ (Above.of_ext _ (by repeat (first | exact Ext.refl _ | assumption | refine Ext.alloc ?_ _ | refine Ext.drew ?_ | refine Ext.trans ?_ (by assumption))))).mono ?_
    rintro e w2 ⟨rfl, rfl⟩
    clear HC
    go_wp2_with fail
    refine (HW.out _ (hx1.alloc _)).mono ?_
    rintro e w2 ⟨vw, rfl, hsl, hx2⟩
    clear HW
    have hz1 : w1.heap.size < w2.heap.size := by have := hx2.size; simp at this; omega
    have hx12 : Ext w1 w2 := ((Ext.refl w1).alloc _).trans hx2
    have FY : Hid (∀ w', Ext w2 w' → w'.cell? ⟨w1.heap.size, 4, none⟩ = some (.func (.func F.mf) #[] #[]) ∧ w'.cell? ⟨w1.heap.size, 6, none⟩ = some (.func (.func F.rf) F.rr F.rc) ∧ w'.cell? ⟨w1.heap.size, 7, none⟩ = some (.func (.func F.tf) #[] #[])) := Lib.hid (fun w' hx => by
      refine ⟨?_, ?_, ?_⟩
      · rw [(hx2.trans hx).cell (p := ⟨w1.heap.size, 4, none⟩) (by simp)]; simp [go_sem]
      · rw [(hx2.trans hx).cell (p := ⟨w1.heap.size, 6, none⟩) (by simp)]; simp [go_sem]
      · rw [(hx2.trans hx).cell (p := ⟨w1.heap.size, 7, none⟩) (by simp)]; simp [go_sem])
    replace hx1 := hx1.trans hx12
    clear hx2
    by_cases he : (Tw.wide ws).2 ≠ 0
    · rw [if_pos he] at HT
      have d1 : ((Tw.wide ws).2 != 0) = true := bne_iff_ne.2 he
      generalize (Tw.wide ws).2 = we at *
      clear he hsl
      go_wp2
      go_ret2
      exact ⟨by rw [HT.out]; rfl, hx1⟩
    · rw [if_neg he] at HT
      have he0 : (Tw.wide ws).2 = 0 := Decidable.of_not_not he
      have hlb := wide_len ws he0
      simp only [he0]
      clear he he0
      generalize (Tw.wide ws).1 = lb at *
      have HLB := Lib.hid hlb
      have hlb1 : lb.length ≤ 1000000 := by omega
      have hlb2 : 1 ≤ lb.length := by omega
      rcases hsl with ⟨h1, _⟩ | ⟨b2, o2, c2, rfl, hb2, hcell⟩
      · have : lb = [] := by simpa using h1
        rw [this] at hlb2; simp at hlb2
      rw [List.length_map] at hcell ⊢
      have HCB : Hid (∀ w', Ext w2 w' → ∀ j, j < lb.length → w'.cell? ⟨b2, o2 + j, none⟩ = some (.bool (lb.getD j false))) := Lib.hid (fun w' hx j hj => by
        rw [hx.cell (p := ⟨b2, o2 + j, none⟩) hb2, hcell j hj, List.getElem?_map, List.getD_eq_getElem?_getD, List.getElem?_eq_getElem hj]; rfl)
      have hmk := run_make_row' (P := Tryz.prog) 61 5 (.int .u8 0) 1 Tryz.underlying61 (by kernel_rfl) rfl .i64 .i64 lb.length (by omega) (by omega)
      have hbn : b2 ≠ w2.heap.size := by omega
      clear hcell hlb
      go_wp2
      clear hmk
      go_loopw [45] (fun i wr => ∃ j : Nat, j ≤ lb.length ∧ i = .int .i64 (j : Int) ∧ wr.rowIs w2.heap.size 5 lb.length (fun k => if k < j then encB (if lb.getD k false then 119 else 110) else .int .u8 0) ∧ Ext w2 wr) (fun i _ => lb.length - (intOf i).toNat)
      case atStart =>
        exact ⟨0, Nat.zero_le _, rfl, (World.rowIs_made w2 _ _ _).congr (fun i _ => by simp), (by repeat (first | exact Ext.refl _ | assumption | refine Ext.alloc ?_ _ | refine Ext.drew ?_ | refine Ext.trans ?_ (by assumption)))⟩
      case round =>
        obtain ⟨j, hj, rfl, hrow, hxr⟩ := hrel
        by_cases hlt : j < lb.length
        · have hcj := hrow.cell hlt
          have hfj := hrow.frozen j
          have hbj := HCB.out wr hxr j hlt
          have hst : ∀ (f : World → World) (u : Value), True := fun _ _ => trivial
          cases hbb : lb.getD j false
          · rw [hbb] at hbj
            have HR1 := Lib.hid ((hrow.set j (.int .u8 110)).congr (g := fun k => if k < j + 1 then encB (if lb.getD k false then 119 else 110) else .int .u8 0) (fun k hk => by
              by_cases h1 : k = j
              · subst h1; rw [if_pos rfl, if_pos (show k < k + 1 by omega), hbb]; rfl
              · rw [if_neg h1]
                by_cases h2 : k < j
                · rw [if_pos h2, if_pos (show k < j + 1 by omega)]
                · rw [if_neg h2, if_neg (show ¬ k < j + 1 by omega)]))
            have HX1 := Lib.hid (hxr.setCell (p := ⟨w2.heap.size, j, none⟩) (Nat.le_refl _) (.int .u8 110))
            clear hrow hbb hst
            go_wp2
            go_roundw
            case rel => exact ⟨j + 1, by omega, by go_num, HR1.out, HX1.out⟩
            case measure => simp [intOf]; omega
          · rw [hbb] at hbj
            have HR1 := Lib.hid (((hrow.set j (.int .u8 110)).set j (.int .u8 119)).congr (g := fun k => if k < j + 1 then encB (if lb.getD k false then 119 else 110) else .int .u8 0) (fun k hk => by
              by_cases h1 : k = j
              · subst h1; rw [if_pos rfl, if_pos (show k < k + 1 by omega), hbb]; rfl
              · rw [if_neg h1, if_neg h1]
                by_cases h2 : k < j
                · rw [if_pos h2, if_pos (show k < j + 1 by omega)]
                · rw [if_neg h2, if_neg (show ¬ k < j + 1 by omega)]))
            have HX1 := Lib.hid ((hxr.setCell (p := ⟨w2.heap.size, j, none⟩) (Nat.le_refl _) (.int .u8 110)).setCell (p := ⟨w2.heap.size, j, none⟩) (Nat.le_refl _) (.int .u8 119))
            clear hrow hbb hst
            go_wp2
            go_roundw
            case rel => exact ⟨j + 1, by omega, by go_num, HR1.out, HX1.out⟩
            case measure => simp [intOf]; omega
        · obtain rfl : j = lb.length := by omega
          have hsl : Sl wr (.slice (some ⟨w2.heap.size, 0, none⟩) lb.length lb.length) ((Tw.elems lb).map encB) := (Sl.row hrow).congr (by
            rw [← elems_row]
            exact List.map_congr_left (fun k hk => by rw [if_pos (by simpa using hk)]))
          have hcv := run_convert_sl hsl
          have hell : (Tw.elems lb).length = ws.length := by rw [Tw.elems, List.length_map]; exact HLB.out
          clear hj hlt hrow hsl HCB hbn hb2
          obtain ⟨hy4, hy6, hy7⟩ := FY.out wr hxr
          obtain ⟨E, hE⟩ : ∃ E : ByteArray, Tw.elems lb = E.data.toList := ⟨⟨(Tw.elems lb).toArray⟩, by simp⟩
          rw [hE] at HT hcv hell
          rw [mk_toList] at hcv
          rw [len_data] at hell
          rw [← hell] at HCT
          have HRD1 := Lib.hid (fun w' hx => HRD.out w' hx E HCT.out)
          have HRL := Lib.hid (readK_len k E.data.toList check (by rw [len_data]; exact HCT.out))
          clear hE hell HRD
          by_cases he : (Tw.readK k E.data.toList).2 ≠ 0
          · rw [if_pos he] at HT
            have d1 : ((Tw.readK k E.data.toList).2 != 0) = true := bne_iff_ne.2 he
            clear HRL he
            generalize Tw.readK k E.data.toList = rd at *
            obtain ⟨r1, r2⟩ := rd
            simp only at d1 HT HRD1
            go_wp2_with fail
            refine (HRD1.out _ (Above.of_ext _ (hx12.trans hxr))).mono ?_
            rintro e w4 ⟨rfl, hx4⟩
            go_wp2
            go_ret2
            exact ⟨by rw [HT.out]; rfl, (hx1.trans hxr).trans hx4⟩
          · rw [if_neg he] at HT
            have he0 : (Tw.readK k E.data.toList).2 = 0 := Decidable.of_not_not he
            obtain ⟨hr1, hr2⟩ := HRL.out he0
            rw [he0] at HRD1
            clear he he0 HRL
            generalize (Tw.readK k E.data.toList).1 = ch at *
            obtain ⟨C, rfl⟩ : ∃ C : ByteArray, ch = C.data.toList := ⟨⟨ch.toArray⟩, by simp⟩
            simp only [strV, mk_toList] at HRD1
            rw [len_data] at hr1 hr2
            have HTX1 := Lib.hid (fun w' hx => HTX.out w' hx C (by omega) hr1)
            have htl := textK_len k C.data.toList check
            clear HTX
            generalize Tw.textK k C.data.toList check = tx at *
            obtain ⟨T, rfl⟩ : ∃ C : ByteArray, tx = C.data.toList := ⟨⟨tx.toArray⟩, by simp⟩
            simp only [strV, mk_toList] at HTX1
            simp only [len_data] at htl
            cases check
            · rw [if_neg (fun h => Bool.noConfusion h.1)] at HT
              clear HCM
              go_wp2_with fail
              refine (HRD1.out _ (Above.of_ext _ (hx12.trans hxr))).mono ?_
              rintro e w4 ⟨rfl, hx4⟩
              obtain ⟨hq4, hq6, hq7⟩ := FY.out w4 (hxr.trans hx4)
              go_wp2_with fail
              refine (HTX1.out _ (Above.of_ext _ ((hx12.trans hxr).trans hx4))).mono ?_
              rintro e w5 ⟨rfl, hx5⟩
              go_wp2
              go_ret2
              exact ⟨by rw [HT.out]; exact ret_pair' rfl rfl, ((hx1.trans hxr).trans hx4).trans hx5⟩
            · have HCM1 := Lib.hid (fun w' hx => HCM.out w' hx T (by omega))
              clear HCM
              by_cases hcc : Tw.compK k T.data.toList true = (C.data.toList, 0)
              · rw [if_neg (fun h => h.2 hcc)] at HT
                rw [hcc] at HCM1
                simp only [strV, mk_toList] at HCM1
                clear hcc
                go_wp2_with fail
                refine (HRD1.out _ (Above.of_ext _ (hx12.trans hxr))).mono ?_
                rintro e w4 ⟨rfl, hx4⟩
                obtain ⟨hq4, hq6, hq7⟩ := FY.out w4 (hxr.trans hx4)
                go_wp2_with fail
                refine (HTX1.out _ (Above.of_ext _ ((hx12.trans hxr).trans hx4))).mono ?_
                rintro e w5 ⟨rfl, hx5⟩
                obtain ⟨hp4, hp6, hp7⟩ := FY.out w5 ((hxr.trans hx4).trans hx5)
                go_wp2_with fail
                refine (HCM1.out _ (Above.of_ext _ (((hx12.trans hxr).trans hx4).trans hx5))).mono ?_
                rintro e w6 ⟨rfl, hx6⟩
                go_wp2
                go_ret2
                exact ⟨by rw [HT.out]; exact ret_pair' rfl rfl, (((hx1.trans hxr).trans hx4).trans hx5).trans hx6⟩
              · rw [if_pos ⟨rfl, hcc⟩] at HT
                generalize Tw.compK k T.data.toList true = cp at *
                obtain ⟨x1, x2⟩ := cp
                obtain ⟨X, rfl⟩ : ∃ C : ByteArray, x1 = C.data.toList := ⟨⟨x1.toArray⟩, by simp⟩
                simp only [strV, mk_toList] at HCM1
                by_cases hx20 : x2 = 0
                · subst hx20
                  have hne : (X.toList == C.toList) = false := by
                    rw [Lib.toList_data, Lib.toList_data, beq_eq_false_iff_ne]; intro h; exact hcc (by rw [h])
                  clear hcc
                  go_wp2_with fail
                  refine (HRD1.out _ (Above.of_ext _ (hx12.trans hxr))).mono ?_
                  rintro e w4 ⟨rfl, hx4⟩
                  obtain ⟨hq4, hq6, hq7⟩ := FY.out w4 (hxr.trans hx4)
                  go_wp2_with fail
                  refine (HTX1.out _ (Above.of_ext _ ((hx12.trans hxr).trans hx4))).mono ?_
                  rintro e w5 ⟨rfl, hx5⟩
                  obtain ⟨hp4, hp6, hp7⟩ := FY.out w5 ((hxr.trans hx4).trans hx5)
                  go_wp2_with fail
                  refine (HCM1.out _ (Above.of_ext _ (((hx12.trans hxr).trans hx4).trans hx5))).mono ?_
                  rintro e w6 ⟨rfl, hx6⟩
                  go_wp2
                  go_ret2
                  exact ⟨by rw [HT.out]; rfl, (((hx1.trans hxr).trans hx4).trans hx5).trans hx6⟩
                · have hne : (x2 != 0) = true := bne_iff_ne.2 hx20
                  clear hcc hx20
                  go_wp2_with fail
                  refine (HRD1.out _ (Above.of_ext _ (hx12.trans hxr))).mono ?_
                  rintro e w4 ⟨rfl, hx4⟩
                  obtain ⟨hq4, hq6, hq7⟩ := FY.out w4 (hxr.trans hx4)
                  go_wp2_with fail
                  refine (HTX1.out _ (Above.of_ext _ ((hx12.trans hxr).trans hx4))).mono ?_
                  rintro e w5 ⟨rfl, hx5⟩
                  obtain ⟨hp4, hp6, hp7⟩ := FY.out w5 ((hxr.trans hx4).trans hx5)
                  go_wp2_with fail
                  refine (HCM1.out _ (Above.of_ext _ (((hx12.trans hxr).trans hx4).trans hx5))).mono ?_
                  rintro e w6 ⟨rfl, hx6⟩
                  go_wp2
                  go_ret2
                  exact ⟨by rw [HT.out]; rfl, (((hx1.trans hxr).trans hx4).trans hx5).trans hx6⟩
end Go.Proofs.YthjlnpcaclfopaaGreat
