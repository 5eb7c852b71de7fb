/-
  Chapter 12: Encode, walked.
  Condition: the text is within the reach.
-/
import Derived.Test.YthjlnpcaclfopaaGreatTwW10
namespace Go.Proofs.YthjlnpcaclfopaaGreat
open Go.RowKit

theorem chr_dig : ∀ v : Fin 10, 0 ≤ Lib.indexByte Tw.cItf (Cd.chr ((v.val : Nat) : Int)) := by decide +kernel
theorem pat_itf (c : UInt8) (h : 0 ≤ Lib.indexByte Tw.cItf c) : (Tw.pat Tw.cItf Tw.pItf 5 c).1.length = 5 := by
  unfold Tw.pat
  rw [if_neg (by omega)]
  obtain ⟨n, hn⟩ := Int.eq_ofNat_of_zero_le h
  have := index_lt _ _ _ hn
  have h4 : Tw.cItf.length = 10 := rfl
  have h5 : Tw.pItf.length = 50 := rfl
  unfold Tw.cutAt
  rw [hn, Int.toNat_natCast, List.length_take, List.length_drop, h5]
  omega
theorem compI_ok (k : Int) (l : List UInt8) (h : (Cd.compI k l).2 = 0) : (Cd.compI k l).1 = Cd.cmp k.toNat l := by
  unfold Cd.compI at h ⊢
  split
  · rename_i h1; rw [if_pos h1] at h; simp at h
  · rename_i h1
    rw [if_neg h1] at h
    unfold Cd.comp at h ⊢
    repeat' split
    all_goals first | rfl | (simp_all; done)
theorem cmp1_dig (l : List UInt8) : ∀ c ∈ Cd.cmp 1 l, 0 ≤ Lib.indexByte Tw.cItf c := by
  intro c hc
  simp only [Cd.cmp, List.mem_singleton] at hc
  subst hc
  obtain ⟨v, hv, hv10⟩ : ∃ v : Nat, (10 - (Cd.gsP l).1 % 10) % 10 = (v : Int) ∧ v < 10 := ⟨((10 - (Cd.gsP l).1 % 10) % 10).toNat, by omega, by omega⟩
  rw [hv]
  exact chr_dig ⟨v, hv10⟩
theorem compK_draw (k : Nat) (l : List UInt8) (check : Bool) (hl : l.length ≤ 1000) (h : (Tw.compK k l check).2 = 0) : Drawable k (Tw.compK k l check).1 := by
  have hc7 := compI_len 7 l
  have hc1 := compI_len 1 l
  match k with
  | 0 =>
    refine ⟨?_, fun h => by omega⟩
    show (Tw.comp39 l check).1.length ≤ 10000
    unfold Tw.comp39
    repeat' split
    all_goals simp only [List.length_append, List.length_cons, List.length_nil]; omega
  | 1 =>
    refine ⟨?_, fun h => by omega⟩
    show (Tw.compCb l check).1.length ≤ 10000
    unfold Tw.compCb
    repeat' split
    all_goals simp only [List.length_append, List.length_cons, List.length_nil, List.length_take, List.length_drop]; omega
  | k + 2 =>
    have h0 : (Tw.compItf l check).2 = 0 := h
    show Drawable (k + 2) (Tw.compItf l check).1
    unfold Tw.compItf at h0 ⊢
    by_cases ho : Tw.only l Tw.cItf = false
    · rw [if_pos ho] at h0; simp at h0
    · rw [if_neg ho] at h0 ⊢
      rw [Bool.not_eq_false] at ho
      have hd : ∀ c ∈ l, 0 ≤ Lib.indexByte Tw.cItf c := by
        intro c hc
        unfold Tw.only at ho
        rw [List.all_eq_true] at ho
        simpa using ho c hc
      by_cases hch : check = false
      · rw [if_pos hch] at h0 ⊢
        by_cases he : l.length % 2 = 0
        · rw [if_pos he] at h0 ⊢
          exact ⟨by simp only; omega, fun _ => ⟨he, fun c hc => pat_itf c (hd c hc)⟩⟩
        · rw [if_neg he] at h0; simp at h0
      · rw [if_neg hch] at h0 ⊢
        by_cases hz : (Cd.compI 1 l).2 = 0
        · rw [if_pos hz] at h0 ⊢
          have hcm := compI_ok 1 l hz
          rw [hcm] at h0 hc1 ⊢
          by_cases he : (l ++ Cd.cmp (Int.toNat 1) l).length % 2 = 0
          · rw [if_pos he] at h0 ⊢
            refine ⟨by simp only [List.length_append]; omega, fun _ => ⟨he, fun c hc => pat_itf c ?_⟩⟩
            rw [List.mem_append] at hc
            rcases hc with hc | hc
            · exact hd c hc
            · exact cmp1_dig l c hc
          · rw [if_neg he] at h0; simp at h0
        · rw [if_neg hz] at h0; exact absurd h0 hz
theorem drawPairs_len : ∀ l : List UInt8, (Tw.drawPairs l).length ≤ 10 * l.length
  | [] => by simp [Tw.drawPairs]
  | [_] => by simp [Tw.drawPairs]
  | a :: b :: l => by
    have h1 := drawPairs_len l
    have h2 := mix_len (Tw.pat Tw.cItf Tw.pItf 5 a).1 (Tw.pat Tw.cItf Tw.pItf 5 b).1
    have h3 := pat_len Tw.cItf Tw.pItf 5 a (by omega)
    simp only [Tw.drawPairs, List.length_append, List.length_cons]; omega
theorem drawK_len (k : Nat) (l : List UInt8) : (Tw.drawK k l).length ≤ 10 * l.length + 10 := by
  unfold Tw.drawK
  split
  · exact Nat.le_trans (join_len _ (fun x hx => by rw [List.mem_map] at hx; obtain ⟨c, _, rfl⟩ := hx; exact pat_len _ _ _ _ (by omega))) (by rw [List.length_map]; omega)
  · exact Nat.le_trans (join_len _ (fun x hx => by rw [List.mem_map] at hx; obtain ⟨c, _, rfl⟩ := hx; exact pat_len _ _ _ _ (by omega))) (by rw [List.length_map]; omega)
  · have := drawPairs_len l
    simp only [Tw.drawItf, List.length_append, List.length_cons, List.length_nil]; omega

/-- What Encode returns. -/
def EncR (r : List Int × Int) (w : World) (e : Ending) (w' : World) : Prop := ∃ v, e = .returned (.tuple #[v, .int .i64 r.2]) ∧ Sl w' v (r.1.map encI) ∧ Ext w w'
theorem widths_row (r : Int) (s : ByteArray) : (List.range s.size).map (fun k => encI (if s.data.toList.getD k 0 = 119 then r else 1)) = (Tw.widths r s.data.toList).map encI := by
  apply List.ext_getElem
  · simp [Tw.widths]
  · intro i h1 h2
    simp [Tw.widths] at h1 h2 ⊢
    simp [h1]

set_option maxRecDepth 100000 in
set_option maxHeartbeats 4000000 in
theorem encode_2 (k : Nat) (kind : Int) (s : ByteArray) (check : Bool) (addon : ByteArray) (w : World) (hs : s.size ≤ 9223372036854775807) (HF : Hid (∀ w, Calls Tryz.prog 17 #[.int .i64 kind] w (Found k w)))
    {res : List Int × Int} (HT : Hid (res = if s.data.toList = [] then ([], 5) else if 1000 < s.size then ([], 4) else if (Tw.compK k s.data.toList check).2 ≠ 0 then ([], (Tw.compK k s.data.toList check).2) else (Tw.widths 2 (Tw.drawK k (Tw.compK k s.data.toList check).1), 0))) :
    Calls Tryz.prog 7 #[.int .i64 kind, .string s, .agg #[.int .i64 2, .bool check, .string addon]] w (EncR res w) := by
  by_cases h0 : s.data.toList = []
  · rw [if_pos h0] at HT
    have hs0 : s = ⟨#[]⟩ := bytes_ext h0
    subst hs0
    clear h0
    go_enter Tryz.func7, Tryz.ntmps7
    go_wp2_with fail
    refine (HF.out _).mono ?_
    rintro e w1 ⟨B, F, rfl, hF, hx1⟩
    obtain ⟨hc, hfz⟩ := hx1.cells
    have hz : w.heap.size < w1.heap.size := by have := hx1.size; simp at this; omega
    unfold SymFns.val
    clear hF
    go_wp2
    go_ret2
    exact ⟨.slice none 0 0, by rw [HT.out]; rfl, by rw [HT.out]; exact sl_nil _, (((Ext.refl w).alloc _).trans hx1).alloc _⟩
  · rw [if_neg h0] at HT
    have hpe : s.toList.isEmpty = false := by rw [Lib.toList_data, List.isEmpty_eq_false_iff]; exact h0
    have hpz : ¬ s.toList = [] := by rw [Lib.toList_data]; exact h0
    clear h0
    by_cases hl : 1000 < s.size
    · rw [if_pos hl] at HT
      go_enter Tryz.func7, Tryz.ntmps7
      go_wp2_with fail
      refine (HF.out _).mono ?_
      rintro e w1 ⟨B, F, rfl, hF, hx1⟩
      obtain ⟨hc, hfz⟩ := hx1.cells
      have hz : w.heap.size < w1.heap.size := by have := hx1.size; simp at this; omega
      unfold SymFns.val
      clear hF
      go_wp2
      go_ret2
      exact ⟨.slice none 0 0, by rw [HT.out]; rfl, by rw [HT.out]; exact sl_nil _, (((Ext.refl w).alloc _).trans hx1).alloc _⟩
    · rw [if_neg hl] at HT
      have hl' : s.size ≤ 1000 := by omega
      clear hl
      go_enter Tryz.func7, Tryz.ntmps7
      go_wp2_with fail
      refine (HF.out _).mono ?_
      rintro e w1 ⟨B, F, rfl, hF, hx1⟩
      obtain ⟨hc, hfz⟩ := hx1.cells
      have hz : w.heap.size < w1.heap.size := by have := hx1.size; simp at this; omega
      unfold SymFns.val
      have hen1 : ∀ xs w, (callFunc F.mf xs).run Tryz.prog w = .ok (.enter F.mf xs) w := hF.ent.2.2.1
      have hen2 : ∀ xs w, (callFunc F.df xs).run Tryz.prog w = .ok (.enter F.df xs) w := hF.ent.2.2.2.1
      have HC := Lib.hid (fun w' hx => hF.comp w' hx s check (by omega))
      have HD0 := Lib.hid (compK_draw k s.data.toList check (by rw [len_data]; exact hl'))
      have HD := Lib.hid (fun w' hx t hd => hF.draw w' hx t hd)
      clear hF
      by_cases he : (Tw.compK k s.data.toList check).2 ≠ 0
      · rw [if_pos he] at HT
        have d1 : ((Tw.compK k s.data.toList check).2 != 0) = true := bne_iff_ne.2 he
        clear he HD0 HD
        generalize Tw.compK k s.data.toList check = cc at *
        obtain ⟨c1, c2⟩ := cc
        simp only at d1 HC HT
        go_wp2_with fail
        refine (HC.out _ (Above.of_ext _ (by repeat (first | exact Ext.refl _ | assumption | refine Ext.alloc ?_ _ | refine Ext.drew ?_ | refine Ext.trans ?_ (by assumption))))).mono ?_
        rintro e w2 ⟨rfl, hx2⟩
        go_wp2
        go_ret2
        exact ⟨.slice none 0 0, by rw [HT.out]; rfl, by rw [HT.out]; exact sl_nil _, ((((Ext.refl w).alloc _).trans hx1).alloc _).trans hx2⟩
      · rw [if_neg he] at HT
        have he0 : (Tw.compK k s.data.toList check).2 = 0 := Decidable.of_not_not he
        have HDR := Lib.hid (HD0.out he0)
        rw [he0] at HC
        clear he he0 HD0
        generalize (Tw.compK k s.data.toList check).1 = c1 at *
        obtain ⟨C, rfl⟩ : ∃ D : ByteArray, c1 = D.data.toList := ⟨⟨c1.toArray⟩, by simp⟩
        simp only [strV, mk_toList] at HC
        have hdl := drawK_len k C.data.toList
        have hcl := HDR.out.1
        have HD1 := Lib.hid (fun w' hx => HD.out w' hx C HDR.out)
        generalize Tw.drawK k C.data.toList = el at *
        obtain ⟨E, rfl⟩ : ∃ D : ByteArray, el = D.data.toList := ⟨⟨el.toArray⟩, by simp⟩
        simp only [strV, mk_toList] at HD1
        simp only [len_data] at hdl hcl
        have hel : E.size ≤ 1000000 := by omega
        have hmk := run_make_row' (P := Tryz.prog) 25 3 (.int .i64 0) 8 Tryz.underlying25 (by kernel_rfl) rfl .i64 .i64 E.size (by omega) (by omega)
        clear HD HDR hdl hcl
        go_wp2_with fail
        refine (HC.out _ (Above.of_ext _ (by repeat (first | exact Ext.refl _ | assumption | refine Ext.alloc ?_ _ | refine Ext.drew ?_ | refine Ext.trans ?_ (by assumption))))).mono ?_
        rintro e w2 ⟨rfl, hx2⟩
        obtain ⟨hc2, hfz2⟩ := hx2.cells
        have hz2 : w1.heap.size < w2.heap.size := by have := hx2.size; simp at this; omega
        go_wp2_with fail
        refine (HD1.out _ (Above.of_ext _ (((Ext.refl w1).alloc _).trans hx2))).mono ?_
        rintro e w3 ⟨rfl, hx3⟩
        have hx03 : Ext (w.alloc (.cells #[.int .i64 2, .bool check, .string addon] 31)) w3 := (((hx1.alloc _).trans hx2).trans hx3)
        have F0 : Hid (w3.cell? ⟨w.heap.size, 0, none⟩ = some (.int .i64 2)) := Lib.hid (by
          rw [hx03.cell (p := ⟨w.heap.size, 0, none⟩) (by simp)]; simp [go_sem])
        have hl0 : w.heap.size < w3.heap.size := by have := hx03.size; simp at this; omega
        have hxw : Ext w w3 := ((Ext.refl w).alloc _).trans hx03
        clear hc hfz hc2 hfz2 hx1 hx2 hx3 hx03
        go_wp2
        clear hmk
        go_loopw [58] (fun i wr => ∃ j : Nat, j ≤ E.size ∧ i = .int .i64 (j : Int) ∧ wr.rowIs w3.heap.size 3 E.size (fun k => if k < j then encI (if E.data.toList.getD k 0 = 119 then 2 else 1) else .int .i64 0) ∧ Ext w3 wr) (fun i _ => E.size - (intOf i).toNat)
        case atStart =>
          exact ⟨0, Nat.zero_le _, rfl, (World.rowIs_made w3 _ _ _).congr (fun i _ => by simp), (by repeat (first | exact Ext.refl _ | assumption | refine Ext.alloc ?_ _ | refine Ext.drew ?_ | refine Ext.trans ?_ (by assumption)))⟩
        case round =>
          obtain ⟨j, hj, rfl, hrow, hxr⟩ := hrel
          by_cases hlt : j < E.size
          · have hcj := hrow.cell hlt
            have hfj := hrow.frozen j
            have hr0 : wr.cell? ⟨w.heap.size, 0, none⟩ = some (.int .i64 2) := by rw [hxr.cell (p := ⟨w.heap.size, 0, none⟩) hl0]; exact F0.out
            have hne : w3.heap.size ≠ w.heap.size := by omega
            by_cases h119 : E[j] = 119
            · have d1 : ((E[j].toNat : Int) == 119) = true := by rw [ib119, h119]; rfl
              have HR1 := Lib.hid (((hrow.set j (.int .i64 1)).set j (.int .i64 2)).congr (g := fun k => if k < j + 1 then encI (if E.data.toList.getD k 0 = 119 then 2 else 1) else .int .i64 0) (fun k hk => by
                by_cases h1 : k = j
                · subst h1; rw [if_pos rfl, if_pos (show k < k + 1 by omega), getD_at E k hlt, if_pos h119]; rfl
                · rw [if_neg h1, if_neg h1]
                  by_cases h2 : k < j
                  · rw [if_pos h2, if_pos (show k < j + 1 by omega)]
                  · rw [if_neg h2, if_neg (show ¬ k < j + 1 by omega)]))
              have HX1 := Lib.hid ((hxr.setCell (p := ⟨w3.heap.size, j, none⟩) (Nat.le_refl _) (.int .i64 1)).setCell (p := ⟨w3.heap.size, j, none⟩) (Nat.le_refl _) (.int .i64 2))
              clear hrow h119
              go_wp2
              go_roundw
              case rel => exact ⟨j + 1, by omega, by go_num, HR1.out, HX1.out⟩
              case measure => simp [intOf]; omega
            · have d1 : ((E[j].toNat : Int) == 119) = false := by rw [ib119, beq_eq_false_iff_ne]; exact h119
              have HR1 := Lib.hid ((hrow.set j (.int .i64 1)).congr (g := fun k => if k < j + 1 then encI (if E.data.toList.getD k 0 = 119 then 2 else 1) else .int .i64 0) (fun k hk => by
                by_cases h1 : k = j
                · subst h1; rw [if_pos rfl, if_pos (show k < k + 1 by omega), getD_at E k hlt, if_neg h119]; rfl
                · rw [if_neg h1]
                  by_cases h2 : k < j
                  · rw [if_pos h2, if_pos (show k < j + 1 by omega)]
                  · rw [if_neg h2, if_neg (show ¬ k < j + 1 by omega)]))
              have HX1 := Lib.hid (hxr.setCell (p := ⟨w3.heap.size, j, none⟩) (Nat.le_refl _) (.int .i64 1))
              clear hrow h119
              go_wp2
              go_roundw
              case rel => exact ⟨j + 1, by omega, by go_num, HR1.out, HX1.out⟩
              case measure => simp [intOf]; omega
          · obtain rfl : j = E.size := by omega
            have hsl := Sl.row hrow
            clear hj hlt hrow
            go_wp2
            go_ret2
            refine ⟨.slice (some ⟨w3.heap.size, 0, none⟩) E.size E.size, by rw [HT.out]; rfl, ?_, hxw.trans hxr⟩
            rw [HT.out]
            refine hsl.congr ?_
            rw [← widths_row]
            exact List.map_congr_left (fun k hk => by rw [if_pos (by simpa using hk)])
set_option maxRecDepth 100000 in
set_option maxHeartbeats 4000000 in
theorem encode_3 (k : Nat) (kind : Int) (s : ByteArray) (check : Bool) (addon : ByteArray) (w : World) (hs : s.size ≤ 9223372036854775807) (HF : Hid (∀ w, Calls Tryz.prog 17 #[.int .i64 kind] w (Found k w)))
    {res : List Int × Int} (HT : Hid (res = if s.data.toList = [] then ([], 5) else if 1000 < s.size then ([], 4) else if (Tw.compK k s.data.toList check).2 ≠ 0 then ([], (Tw.compK k s.data.toList check).2) else (Tw.widths 3 (Tw.drawK k (Tw.compK k s.data.toList check).1), 0))) :
    Calls Tryz.prog 7 #[.int .i64 kind, .string s, .agg #[.int .i64 3, .bool check, .string addon]] w (EncR res w) := by
  by_cases h0 : s.data.toList = []
  · rw [if_pos h0] at HT
    have hs0 : s = ⟨#[]⟩ := bytes_ext h0
    subst hs0
    clear h0
    go_enter Tryz.func7, Tryz.ntmps7
    go_wp2_with fail
    refine (HF.out _).mono ?_
    rintro e w1 ⟨B, F, rfl, hF, hx1⟩
    obtain ⟨hc, hfz⟩ := hx1.cells
    have hz : w.heap.size < w1.heap.size := by have := hx1.size; simp at this; omega
    unfold SymFns.val
    clear hF
    go_wp2
    go_ret2
    exact ⟨.slice none 0 0, by rw [HT.out]; rfl, by rw [HT.out]; exact sl_nil _, (((Ext.refl w).alloc _).trans hx1).alloc _⟩
  · rw [if_neg h0] at HT
    have hpe : s.toList.isEmpty = false := by rw [Lib.toList_data, List.isEmpty_eq_false_iff]; exact h0
    have hpz : ¬ s.toList = [] := by rw [Lib.toList_data]; exact h0
    clear h0
    by_cases hl : 1000 < s.size
    · rw [if_pos hl] at HT
      go_enter Tryz.func7, Tryz.ntmps7
      go_wp2_with fail
      refine (HF.out _).mono ?_
      rintro e w1 ⟨B, F, rfl, hF, hx1⟩
      obtain ⟨hc, hfz⟩ := hx1.cells
      have hz : w.heap.size < w1.heap.size := by have := hx1.size; simp at this; omega
      unfold SymFns.val
      clear hF
      go_wp2
      go_ret2
      exact ⟨.slice none 0 0, by rw [HT.out]; rfl, by rw [HT.out]; exact sl_nil _, (((Ext.refl w).alloc _).trans hx1).alloc _⟩
    · rw [if_neg hl] at HT
      have hl' : s.size ≤ 1000 := by omega
      clear hl
      go_enter Tryz.func7, Tryz.ntmps7
      go_wp2_with fail
      refine (HF.out _).mono ?_
      rintro e w1 ⟨B, F, rfl, hF, hx1⟩
      obtain ⟨hc, hfz⟩ := hx1.cells
      have hz : w.heap.size < w1.heap.size := by have := hx1.size; simp at this; omega
      unfold SymFns.val
      have hen1 : ∀ xs w, (callFunc F.mf xs).run Tryz.prog w = .ok (.enter F.mf xs) w := hF.ent.2.2.1
      have hen2 : ∀ xs w, (callFunc F.df xs).run Tryz.prog w = .ok (.enter F.df xs) w := hF.ent.2.2.2.1
      have HC := Lib.hid (fun w' hx => hF.comp w' hx s check (by omega))
      have HD0 := Lib.hid (compK_draw k s.data.toList check (by rw [len_data]; exact hl'))
      have HD := Lib.hid (fun w' hx t hd => hF.draw w' hx t hd)
      clear hF
      by_cases he : (Tw.compK k s.data.toList check).2 ≠ 0
      · rw [if_pos he] at HT
        have d1 : ((Tw.compK k s.data.toList check).2 != 0) = true := bne_iff_ne.2 he
        clear he HD0 HD
        generalize Tw.compK k s.data.toList check = cc at *
        obtain ⟨c1, c2⟩ := cc
        simp only at d1 HC HT
        go_wp2_with fail
        refine (HC.out _ (Above.of_ext _ (by repeat (first | exact Ext.refl _ | assumption | refine Ext.alloc ?_ _ | refine Ext.drew ?_ | refine Ext.trans ?_ (by assumption))))).mono ?_
        rintro e w2 ⟨rfl, hx2⟩
        go_wp2
        go_ret2
        exact ⟨.slice none 0 0, by rw [HT.out]; rfl, by rw [HT.out]; exact sl_nil _, ((((Ext.refl w).alloc _).trans hx1).alloc _).trans hx2⟩
      · rw [if_neg he] at HT
        have he0 : (Tw.compK k s.data.toList check).2 = 0 := Decidable.of_not_not he
        have HDR := Lib.hid (HD0.out he0)
        rw [he0] at HC
        clear he he0 HD0
        generalize (Tw.compK k s.data.toList check).1 = c1 at *
        obtain ⟨C, rfl⟩ : ∃ D : ByteArray, c1 = D.data.toList := ⟨⟨c1.toArray⟩, by simp⟩
        simp only [strV, mk_toList] at HC
        have hdl := drawK_len k C.data.toList
        have hcl := HDR.out.1
        have HD1 := Lib.hid (fun w' hx => HD.out w' hx C HDR.out)
        generalize Tw.drawK k C.data.toList = el at *
        obtain ⟨E, rfl⟩ : ∃ D : ByteArray, el = D.data.toList := ⟨⟨el.toArray⟩, by simp⟩
        simp only [strV, mk_toList] at HD1
        simp only [len_data] at hdl hcl
        have hel : E.size ≤ 1000000 := by omega
        have hmk := run_make_row' (P := Tryz.prog) 25 3 (.int .i64 0) 8 Tryz.underlying25 (by kernel_rfl) rfl .i64 .i64 E.size (by omega) (by omega)
        clear HD HDR hdl hcl
        go_wp2_with fail
        refine (HC.out _ (Above.of_ext _ (by repeat (first | exact Ext.refl _ | assumption | refine Ext.alloc ?_ _ | refine Ext.drew ?_ | refine Ext.trans ?_ (by assumption))))).mono ?_
        rintro e w2 ⟨rfl, hx2⟩
        obtain ⟨hc2, hfz2⟩ := hx2.cells
        have hz2 : w1.heap.size < w2.heap.size := by have := hx2.size; simp at this; omega
        go_wp2_with fail
        refine (HD1.out _ (Above.of_ext _ (((Ext.refl w1).alloc _).trans hx2))).mono ?_
        rintro e w3 ⟨rfl, hx3⟩
        have hx03 : Ext (w.alloc (.cells #[.int .i64 3, .bool check, .string addon] 31)) w3 := (((hx1.alloc _).trans hx2).trans hx3)
        have F0 : Hid (w3.cell? ⟨w.heap.size, 0, none⟩ = some (.int .i64 3)) := Lib.hid (by
          rw [hx03.cell (p := ⟨w.heap.size, 0, none⟩) (by simp)]; simp [go_sem])
        have hl0 : w.heap.size < w3.heap.size := by have := hx03.size; simp at this; omega
        have hxw : Ext w w3 := ((Ext.refl w).alloc _).trans hx03
        clear hc hfz hc2 hfz2 hx1 hx2 hx3 hx03
        go_wp2
        clear hmk
        go_loopw [58] (fun i wr => ∃ j : Nat, j ≤ E.size ∧ i = .int .i64 (j : Int) ∧ wr.rowIs w3.heap.size 3 E.size (fun k => if k < j then encI (if E.data.toList.getD k 0 = 119 then 3 else 1) else .int .i64 0) ∧ Ext w3 wr) (fun i _ => E.size - (intOf i).toNat)
        case atStart =>
          exact ⟨0, Nat.zero_le _, rfl, (World.rowIs_made w3 _ _ _).congr (fun i _ => by simp), (by repeat (first | exact Ext.refl _ | assumption | refine Ext.alloc ?_ _ | refine Ext.drew ?_ | refine Ext.trans ?_ (by assumption)))⟩
        case round =>
          obtain ⟨j, hj, rfl, hrow, hxr⟩ := hrel
          by_cases hlt : j < E.size
          · have hcj := hrow.cell hlt
            have hfj := hrow.frozen j
            have hr0 : wr.cell? ⟨w.heap.size, 0, none⟩ = some (.int .i64 3) := by rw [hxr.cell (p := ⟨w.heap.size, 0, none⟩) hl0]; exact F0.out
            have hne : w3.heap.size ≠ w.heap.size := by omega
            by_cases h119 : E[j] = 119
            · have d1 : ((E[j].toNat : Int) == 119) = true := by rw [ib119, h119]; rfl
              have HR1 := Lib.hid (((hrow.set j (.int .i64 1)).set j (.int .i64 3)).congr (g := fun k => if k < j + 1 then encI (if E.data.toList.getD k 0 = 119 then 3 else 1) else .int .i64 0) (fun k hk => by
                by_cases h1 : k = j
                · subst h1; rw [if_pos rfl, if_pos (show k < k + 1 by omega), getD_at E k hlt, if_pos h119]; rfl
                · rw [if_neg h1, if_neg h1]
                  by_cases h2 : k < j
                  · rw [if_pos h2, if_pos (show k < j + 1 by omega)]
                  · rw [if_neg h2, if_neg (show ¬ k < j + 1 by omega)]))
              have HX1 := Lib.hid ((hxr.setCell (p := ⟨w3.heap.size, j, none⟩) (Nat.le_refl _) (.int .i64 1)).setCell (p := ⟨w3.heap.size, j, none⟩) (Nat.le_refl _) (.int .i64 3))
              clear hrow h119
              go_wp2
              go_roundw
              case rel => exact ⟨j + 1, by omega, by go_num, HR1.out, HX1.out⟩
              case measure => simp [intOf]; omega
            · have d1 : ((E[j].toNat : Int) == 119) = false := by rw [ib119, beq_eq_false_iff_ne]; exact h119
              have HR1 := Lib.hid ((hrow.set j (.int .i64 1)).congr (g := fun k => if k < j + 1 then encI (if E.data.toList.getD k 0 = 119 then 3 else 1) else .int .i64 0) (fun k hk => by
                by_cases h1 : k = j
                · subst h1; rw [if_pos rfl, if_pos (show k < k + 1 by omega), getD_at E k hlt, if_neg h119]; rfl
                · rw [if_neg h1]
                  by_cases h2 : k < j
                  · rw [if_pos h2, if_pos (show k < j + 1 by omega)]
                  · rw [if_neg h2, if_neg (show ¬ k < j + 1 by omega)]))
              have HX1 := Lib.hid (hxr.setCell (p := ⟨w3.heap.size, j, none⟩) (Nat.le_refl _) (.int .i64 1))
              clear hrow h119
              go_wp2
              go_roundw
              case rel => exact ⟨j + 1, by omega, by go_num, HR1.out, HX1.out⟩
              case measure => simp [intOf]; omega
          · obtain rfl : j = E.size := by omega
            have hsl := Sl.row hrow
            clear hj hlt hrow
            go_wp2
            go_ret2
            refine ⟨.slice (some ⟨w3.heap.size, 0, none⟩) E.size E.size, by rw [HT.out]; rfl, ?_, hxw.trans hxr⟩
            rw [HT.out]
            refine hsl.congr ?_
            rw [← widths_row]
            exact List.map_congr_left (fun k hk => by rw [if_pos (by simpa using hk)])

set_option maxRecDepth 100000 in
set_option maxHeartbeats 4000000 in
theorem encode_k (k : Nat) (kind : Int) (s : ByteArray) (r : Int) (check : Bool) (addon : ByteArray) (w : World) (hs : s.size ≤ 9223372036854775807) (hf : ∀ w, Calls Tryz.prog 17 #[.int .i64 kind] w (Found k w)) :
    Calls Tryz.prog 7 #[.int .i64 kind, .string s, .agg #[.int .i64 r, .bool check, .string addon]] w (EncR (Tw.encK k s.data.toList r check) w) := by
  have HF := Lib.hid hf
  have HT := Lib.hid (Tw.encK.eq_1 k s.data.toList r check)
  rw [len_data] at HT
  generalize Tw.encK k s.data.toList r check = res at *
  clear hf
  by_cases hr : r ≠ 2 ∧ r ≠ 3
  · rw [if_pos hr] at HT
    have d1 : (r != 2) = true := bne_iff_ne.2 hr.1
    have d2 : (r != 3) = true := bne_iff_ne.2 hr.2
    clear hr
    go_enter Tryz.func7, Tryz.ntmps7
    go_wp2_with fail
    refine (HF.out _).mono ?_
    rintro e w1 ⟨B, F, rfl, hF, hx1⟩
    obtain ⟨hc, hfz⟩ := hx1.cells
    have hz : w.heap.size < w1.heap.size := by have := hx1.size; simp at this; omega
    unfold SymFns.val
    clear hF
    go_wp2
    go_ret2
    exact ⟨.slice none 0 0, by rw [HT.out]; rfl, by rw [HT.out]; exact sl_nil _, (((Ext.refl w).alloc _).trans hx1).alloc _⟩
  · rw [if_neg hr] at HT
    have hr3 : r = 2 ∨ r = 3 := by omega
    clear hr
    rcases hr3 with rfl | rfl
    · exact encode_2 k kind s check addon w hs HF HT
    · exact encode_3 k kind s check addon w hs HF HT
end Go.Proofs.YthjlnpcaclfopaaGreat
