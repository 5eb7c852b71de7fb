/-
  Chapter 12: the reference's Encode returns what the program's returns.
  Condition: the text is within the reach.
-/
import Derived.Test.YthjlnpcaclfopaaGreatTwRA
namespace Go.Proofs.YthjlnpcaclfopaaGreat
open Go.RowKit

theorem comp_f0 (l : List UInt8) (h : (Tw.comp39 l false).2 = 0) : (Tw.comp39 l false).1 = 42 :: l ++ [42] := by
  unfold Tw.comp39 at h ⊢
  split
  · rename_i g; rw [if_pos g] at h; simp at h
  · rfl
theorem cb_ok (l : List UInt8) (check : Bool) (h : (Tw.compCb l check).2 = 0) : 2 ≤ l.length ∧ ∀ c ∈ l, 0 ≤ Lib.indexByte Tw.cCb c := by
  rw [compCb_err] at h
  by_cases g0 : l.length < 2
  · rw [if_pos g0] at h; simp at h
  rw [if_neg g0] at h
  cases g1 : Tw.only (l.take 1) Tw.eCb
  · rw [g1, if_pos rfl] at h; simp at h
  cases g2 : Tw.only (l.drop (l.length - 1)) Tw.eCb
  · rw [g1, g2, if_neg Bool.noConfusion, if_pos rfl] at h; simp at h
  cases g3 : Tw.only ((l.drop 1).take (l.length - 2)) Tw.dCb
  · rw [g1, g2, g3, if_neg Bool.noConfusion, if_neg Bool.noConfusion, if_pos rfl] at h; simp at h
  exact ⟨by omega, cb_valid l (by omega) g1 g2 g3⟩
theorem comp_f1 (l : List UInt8) (h : (Tw.compCb l false).2 = 0) : (Tw.compCb l false).1 = l := by
  unfold Tw.compCb at h ⊢
  split
  · rename_i g; rw [if_pos g] at h; simp at h
  · rename_i g; rw [if_neg g] at h
    split
    · rename_i g; rw [if_pos g] at h; simp at h
    · rename_i g; rw [if_neg g] at h
      split
      · rename_i g; rw [if_pos g] at h; simp at h
      · rename_i g; rw [if_neg g] at h
        split
        · rename_i g; rw [if_pos g] at h; simp at h
        · rfl
theorem cbc_len (l : List UInt8) (h : 2 ≤ l.length) : (Tw.cbc l).length = l.length + 1 := by
  unfold Tw.cbc
  simp only [List.length_append, List.length_take, List.length_drop, List.length_cons, List.length_nil]; omega
theorem app_len (k : Int) (l : List UInt8) (h : l.length ≤ 1000) : (Cd.app k l).1.length ≤ 1002 := by
  have := rcompI_len k l
  unfold Cd.app
  repeat' split
  all_goals simp only [List.length_append, List.length_nil]; omega
theorem itf_ok (l : List UInt8) (check : Bool) (h0 : 1 ≤ l.length) (hl : l.length ≤ 1000) (h : (Tw.compItf l check).2 = 0) :
    (Tw.compItf l check).1 = (if check then (Cd.app 1 l).1 else l) ∧ (Tw.compItf l check).1.length % 2 = 0 ∧ ∀ c ∈ (Tw.compItf l check).1, 0 ≤ Lib.indexByte Tw.cItf c := by
  have he := compItf_err l check h0 hl
  rw [h] at he
  have ho : Tw.only l Tw.cItf = true := by
    cases hh : Tw.only l Tw.cItf
    · rw [hh] at he; simp at he
    · rfl
  have hd : ∀ c ∈ l, 0 ≤ Lib.indexByte Tw.cItf c := by
    intro c hc
    have ho' := ho
    rw [only_all, List.all_eq_true] at ho'
    simpa using ho' c hc
  cases check
  · unfold Tw.compItf at h ⊢
    rw [ho, if_neg (show ¬ (true = false) from Bool.noConfusion), if_pos rfl] at h ⊢
    by_cases g : l.length % 2 = 0
    · rw [if_pos g]; exact ⟨rfl, g, hd⟩
    · rw [if_neg g] at h; simp at h
  · have hz := comp1_ok l h0 (by omega) ho
    rw [comp_chk2 l hl h0 h, app_is 1 l (by omega) hz]
    unfold Tw.compItf at h
    rw [ho, if_neg (show ¬ (true = false) from Bool.noConfusion), if_neg (show ¬ (true = false) from Bool.noConfusion), if_pos hz] at h
    refine ⟨rfl, ?_, ?_⟩
    · by_cases g : (l ++ (Cd.compI 1 l).1).length % 2 = 0
      · exact g
      · rw [if_neg g] at h; simp at h
    · intro c hc
      rw [List.mem_append] at hc
      rcases hc with hc | hc
      · exact hd c hc
      · rw [compI_ok 1 l hz] at hc; exact cmp1_dig l c hc

set_option maxRecDepth 100000 in
set_option maxHeartbeats 2000000 in
theorem renc_7f2 (s C : ByteArray) (addon : ByteArray) (w : World) (h0 : 1 ≤ s.size) (hs : s.size ≤ 1000) (hcl : C.size ≤ 1100) (he : C.size % 2 = 0) (HD : Hid (∀ c ∈ C.data.toList, 0 ≤ Lib.indexByte Tw.cItf c)) (HE : Hid ((Tw.compK 2 s.data.toList false).2 = 0))
    (HX : C = s)
    : Calls Tryz.prog 9 #[.int .i64 7, .string s, .agg #[.int .i64 2, .bool false, .string addon]] w (EncR (Tw.widths 2 (Tw.drawItf C.data.toList), 0) w) := by
  have HW := Lib.hid (fun w => wrong7_any s false w h0 hs)
  rw [HE.out] at HW
  have HI := Lib.hid (fun w => inter_any C 2 w (by omega) he HD)
  have d0 : ((s.size : Int) == 0) = false := by rw [beq_eq_false_iff_ne]; omega
  have d1 : decide (1000 < (s.size : Int)) = false := by simp; omega
  clear HE
  subst HX
  go_enter Tryz.func9, Tryz.ntmps9
  go_wp2_with fail
  refine (HW.out _).mono ?_
  rintro e w1 ⟨rfl, rfl⟩
  have hx1 := Ext.refl (w.alloc (.cells #[.int .i64 2, .bool false, .string addon] 31))
  clear HW
  go_wp2_with fail
  refine (HI.out _).mono ?_
  rintro e w2 ⟨v, rfl, hown, hx2⟩
  have hsl := hown.sl
  clear hown
  go_wp2
  go_ret2
  exact ⟨_, rfl, hsl, (((Ext.refl w).alloc _).trans hx1).trans hx2⟩
set_option maxRecDepth 100000 in
set_option maxHeartbeats 2000000 in
theorem renc_7f3 (s C : ByteArray) (addon : ByteArray) (w : World) (h0 : 1 ≤ s.size) (hs : s.size ≤ 1000) (hcl : C.size ≤ 1100) (he : C.size % 2 = 0) (HD : Hid (∀ c ∈ C.data.toList, 0 ≤ Lib.indexByte Tw.cItf c)) (HE : Hid ((Tw.compK 2 s.data.toList false).2 = 0))
    (HX : C = s)
    : Calls Tryz.prog 9 #[.int .i64 7, .string s, .agg #[.int .i64 3, .bool false, .string addon]] w (EncR (Tw.widths 3 (Tw.drawItf C.data.toList), 0) w) := by
  have HW := Lib.hid (fun w => wrong7_any s false w h0 hs)
  rw [HE.out] at HW
  have HI := Lib.hid (fun w => inter_any C 3 w (by omega) he HD)
  have d0 : ((s.size : Int) == 0) = false := by rw [beq_eq_false_iff_ne]; omega
  have d1 : decide (1000 < (s.size : Int)) = false := by simp; omega
  clear HE
  subst HX
  go_enter Tryz.func9, Tryz.ntmps9
  go_wp2_with fail
  refine (HW.out _).mono ?_
  rintro e w1 ⟨rfl, rfl⟩
  have hx1 := Ext.refl (w.alloc (.cells #[.int .i64 3, .bool false, .string addon] 31))
  clear HW
  go_wp2_with fail
  refine (HI.out _).mono ?_
  rintro e w2 ⟨v, rfl, hown, hx2⟩
  have hsl := hown.sl
  clear hown
  go_wp2
  go_ret2
  exact ⟨_, rfl, hsl, (((Ext.refl w).alloc _).trans hx1).trans hx2⟩
set_option maxRecDepth 100000 in
set_option maxHeartbeats 2000000 in
theorem renc_7t2 (s C : ByteArray) (addon : ByteArray) (w : World) (h0 : 1 ≤ s.size) (hs : s.size ≤ 1000) (hcl : C.size ≤ 1100) (he : C.size % 2 = 0) (HD : Hid (∀ c ∈ C.data.toList, 0 ≤ Lib.indexByte Tw.cItf c)) (HE : Hid ((Tw.compK 2 s.data.toList true).2 = 0))
    (HK : Hid (∀ w, Calls Tryz.prog 19 #[.int .i64 7, .string s] w fun e w' => e = .returned (.string C) ∧ Ext w w'))
    : Calls Tryz.prog 9 #[.int .i64 7, .string s, .agg #[.int .i64 2, .bool true, .string addon]] w (EncR (Tw.widths 2 (Tw.drawItf C.data.toList), 0) w) := by
  have HW := Lib.hid (fun w => wrong7_any s true w h0 hs)
  rw [HE.out] at HW
  have HI := Lib.hid (fun w => inter_any C 2 w (by omega) he HD)
  have d0 : ((s.size : Int) == 0) = false := by rw [beq_eq_false_iff_ne]; omega
  have d1 : decide (1000 < (s.size : Int)) = false := by simp; omega
  clear HE
  go_enter Tryz.func9, Tryz.ntmps9
  go_wp2_with fail
  refine (HW.out _).mono ?_
  rintro e w1 ⟨rfl, rfl⟩
  go_wp2_with fail
  refine (HK.out _).mono ?_
  rintro e w1 ⟨rfl, hx1⟩
  obtain ⟨hc, hfz⟩ := hx1.cells
  have hz : w.heap.size < w1.heap.size := by have := hx1.size; simp at this; omega
  clear HW
  go_wp2_with fail
  refine (HI.out _).mono ?_
  rintro e w2 ⟨v, rfl, hown, hx2⟩
  have hsl := hown.sl
  clear hown
  go_wp2
  go_ret2
  exact ⟨_, rfl, hsl, (((Ext.refl w).alloc _).trans hx1).trans hx2⟩
set_option maxRecDepth 100000 in
set_option maxHeartbeats 2000000 in
theorem renc_7t3 (s C : ByteArray) (addon : ByteArray) (w : World) (h0 : 1 ≤ s.size) (hs : s.size ≤ 1000) (hcl : C.size ≤ 1100) (he : C.size % 2 = 0) (HD : Hid (∀ c ∈ C.data.toList, 0 ≤ Lib.indexByte Tw.cItf c)) (HE : Hid ((Tw.compK 2 s.data.toList true).2 = 0))
    (HK : Hid (∀ w, Calls Tryz.prog 19 #[.int .i64 7, .string s] w fun e w' => e = .returned (.string C) ∧ Ext w w'))
    : Calls Tryz.prog 9 #[.int .i64 7, .string s, .agg #[.int .i64 3, .bool true, .string addon]] w (EncR (Tw.widths 3 (Tw.drawItf C.data.toList), 0) w) := by
  have HW := Lib.hid (fun w => wrong7_any s true w h0 hs)
  rw [HE.out] at HW
  have HI := Lib.hid (fun w => inter_any C 3 w (by omega) he HD)
  have d0 : ((s.size : Int) == 0) = false := by rw [beq_eq_false_iff_ne]; omega
  have d1 : decide (1000 < (s.size : Int)) = false := by simp; omega
  clear HE
  go_enter Tryz.func9, Tryz.ntmps9
  go_wp2_with fail
  refine (HW.out _).mono ?_
  rintro e w1 ⟨rfl, rfl⟩
  go_wp2_with fail
  refine (HK.out _).mono ?_
  rintro e w1 ⟨rfl, hx1⟩
  obtain ⟨hc, hfz⟩ := hx1.cells
  have hz : w.heap.size < w1.heap.size := by have := hx1.size; simp at this; omega
  clear HW
  go_wp2_with fail
  refine (HI.out _).mono ?_
  rintro e w2 ⟨v, rfl, hown, hx2⟩
  have hsl := hown.sl
  clear hown
  go_wp2
  go_ret2
  exact ⟨_, rfl, hsl, (((Ext.refl w).alloc _).trans hx1).trans hx2⟩

theorem ck6 (s : ByteArray) (w : World) (hs : s.size ≤ 1000) (h : (Tw.compCb s.data.toList true).2 = 0) :
    Calls Tryz.prog 19 #[.int .i64 6, .string s] w fun e w' => e = .returned (strV (Tw.chkK 1 s.data.toList)) ∧ Ext w w' := by
  obtain ⟨a1, a2⟩ := cb_ok _ _ h
  rw [len_data] at a1
  exact checked_6 s w (by omega) (by omega) (Lib.hid a2)
theorem renc_ok (k : Nat) (kind : Int) (hk : (kind = 5 ∧ k = 0) ∨ (kind = 6 ∧ k = 1) ∨ (kind = 7 ∧ k = 2)) (s : ByteArray) (r : Int) (hr : r = 2 ∨ r = 3) (check : Bool) (addon : ByteArray) (w : World) (h0 : 1 ≤ s.size) (hs : s.size ≤ 1000) (h : (Tw.compK k s.data.toList check).2 = 0) :
    Calls Tryz.prog 9 #[.int .i64 kind, .string s, .agg #[.int .i64 r, .bool check, .string addon]] w (EncR (Tw.widths r (Tw.drawK k (Tw.compK k s.data.toList check).1), 0) w) := by
  have hl : s.data.toList.length ≤ 1000 := by rw [len_data]; exact hs
  have hl0 : 1 ≤ s.data.toList.length := by rw [len_data]; exact h0
  rcases hk with ⟨rfl, rfl⟩ | ⟨rfl, rfl⟩ | ⟨rfl, rfl⟩
  · cases check
    · have e := comp_f0 _ h
      show Calls _ _ _ _ (EncR (Tw.widths r (Tw.drawK 0 (Tw.comp39 s.data.toList false).1), 0) w)
      rw [e]
      have hX : (⟨#[42]⟩ ++ s ++ ⟨#[42]⟩ : ByteArray) = ⟨(42 :: s.data.toList ++ [42]).toArray⟩ := bytes_ext (by rw [app3]; simp)
      have hsz : (⟨(42 :: s.data.toList ++ [42]).toArray⟩ : ByteArray).size ≤ 1100 := by
        show ((42 :: s.data.toList ++ [42]).toArray).size ≤ 1100
        rw [List.size_toArray]; simp only [List.length_append, List.length_cons, List.length_nil]; omega
      rcases hr with rfl | rfl
      · exact renc_5f2 s ⟨(42 :: s.data.toList ++ [42]).toArray⟩ addon w h0 hs hsz (Lib.hid h) (Lib.hid hX)
      · exact renc_5f3 s ⟨(42 :: s.data.toList ++ [42]).toArray⟩ addon w h0 hs hsz (Lib.hid h) (Lib.hid hX)
    · have e := comp_chk0 _ hl hl0 h
      show Calls _ _ _ _ (EncR (Tw.widths r (Tw.drawK 0 (Tw.comp39 s.data.toList true).1), 0) w)
      rw [e]
      have hal := app_len 7 s.data.toList hl
      have hck := fun w => checked_5 s w (by omega)
      change ∀ w, Calls _ _ _ _ fun e w' => e = .returned (.string ⟨(Cd.app 7 s.data.toList).1.toArray⟩) ∧ Ext w w' at hck
      generalize (Cd.app 7 s.data.toList).1 = D at *
      have hX : (⟨#[42]⟩ ++ ⟨D.toArray⟩ ++ ⟨#[42]⟩ : ByteArray) = ⟨(42 :: D ++ [42]).toArray⟩ := bytes_ext (by rw [app3]; simp)
      have hsz : (⟨(42 :: D ++ [42]).toArray⟩ : ByteArray).size ≤ 1100 := by simp [ByteArray.size]; omega
      rcases hr with rfl | rfl
      · exact renc_5t2 s ⟨(42 :: D ++ [42]).toArray⟩ addon w h0 hs hsz (Lib.hid h) ⟨D.toArray⟩ (Lib.hid hck) (Lib.hid hX)
      · exact renc_5t3 s ⟨(42 :: D ++ [42]).toArray⟩ addon w h0 hs hsz (Lib.hid h) ⟨D.toArray⟩ (Lib.hid hck) (Lib.hid hX)
  · cases check
    · have e := comp_f1 _ h
      show Calls _ _ _ _ (EncR (Tw.widths r (Tw.drawK 1 (Tw.compCb s.data.toList false).1), 0) w)
      rw [e]
      rcases hr with rfl | rfl
      · exact renc_6f2 s s addon w h0 hs (by omega) (Lib.hid h) rfl
      · exact renc_6f3 s s addon w h0 hs (by omega) (Lib.hid h) rfl
    · have e := comp_chk1 _ h
      show Calls _ _ _ _ (EncR (Tw.widths r (Tw.drawK 1 (Tw.compCb s.data.toList true).1), 0) w)
      rw [e]
      have hck := fun w => ck6 s w hs h
      have hln := cbc_len s.data.toList (cb_ok _ _ h).1
      change ∀ w, Calls _ _ _ _ fun e w' => e = .returned (.string ⟨(Tw.cbc s.data.toList).toArray⟩) ∧ Ext w w' at hck
      generalize Tw.cbc s.data.toList = D at *
      have hsz : (⟨D.toArray⟩ : ByteArray).size ≤ 1100 := by simp [ByteArray.size]; omega
      rcases hr with rfl | rfl
      · exact renc_6t2 s ⟨D.toArray⟩ addon w h0 hs hsz (Lib.hid h) ⟨D.toArray⟩ (Lib.hid hck) rfl
      · exact renc_6t3 s ⟨D.toArray⟩ addon w h0 hs hsz (Lib.hid h) ⟨D.toArray⟩ (Lib.hid hck) rfl
  · obtain ⟨e1, e2, e3⟩ := itf_ok s.data.toList check hl0 hl h
    show Calls _ _ _ _ (EncR (Tw.widths r (Tw.drawItf (Tw.compItf s.data.toList check).1), 0) w)
    cases check
    · rw [if_neg Bool.noConfusion] at e1
      rw [e1] at e2 e3 ⊢
      rw [len_data] at e2
      rcases hr with rfl | rfl
      · exact renc_7f2 s s addon w h0 hs (by omega) e2 (Lib.hid e3) (Lib.hid h) rfl
      · exact renc_7f3 s s addon w h0 hs (by omega) e2 (Lib.hid e3) (Lib.hid h) rfl
    · rw [if_pos rfl] at e1
      rw [e1] at e2 e3 ⊢
      have hal := app_len 1 s.data.toList hl
      have hck := fun w => checked_7 s w (by omega)
      change ∀ w, Calls _ _ _ _ fun e w' => e = .returned (.string ⟨(Cd.app 1 s.data.toList).1.toArray⟩) ∧ Ext w w' at hck
      generalize (Cd.app 1 s.data.toList).1 = D at *
      have hsz : (⟨D.toArray⟩ : ByteArray).size = D.length := by simp [ByteArray.size]
      rcases hr with rfl | rfl
      · exact renc_7t2 s ⟨D.toArray⟩ addon w h0 hs (by omega) (by omega) (Lib.hid e3) (Lib.hid h) (Lib.hid hck)
      · exact renc_7t3 s ⟨D.toArray⟩ addon w h0 hs (by omega) (by omega) (Lib.hid e3) (Lib.hid h) (Lib.hid hck)

set_option maxRecDepth 100000 in
set_option maxHeartbeats 4000000 in
theorem rencE_5 (s : ByteArray) (r : Int) (check : Bool) (addon : ByteArray) (w : World) (hs : s.size ≤ 9223372036854775807) :
    Calls Tryz.prog 9 #[.int .i64 5, .string s, .agg #[.int .i64 r, .bool check, .string addon]] w (EncR (Tw.encK 0 s.data.toList r check) w) := by
  have HT := Lib.hid (Tw.encK.eq_1 0 s.data.toList r check)
  rw [len_data] at HT
  generalize Tw.encK 0 s.data.toList r check = res at *
  by_cases hr : r ≠ 2 ∧ r ≠ 3
  · rw [if_pos hr] at HT
    have d2 : (r != 2) = true := bne_iff_ne.2 hr.1
    have d3 : (r != 3) = true := bne_iff_ne.2 hr.2
    clear hr
    go_enter Tryz.func9, Tryz.ntmps9
    go_wp2
    go_ret2
    exact ⟨.slice none 0 0, by rw [HT.out]; rfl, by rw [HT.out]; exact sl_nil _, (by repeat (first | exact Ext.refl _ | assumption | refine Ext.alloc ?_ _ | refine Ext.drew ?_ | refine Ext.trans ?_ (by assumption)))⟩
  rw [if_neg hr] at HT
  have hr' : r = 2 ∨ r = 3 := by omega
  obtain ⟨b2, b3, d2, d3, d23⟩ : ∃ b2 b3, (r != 2) = b2 ∧ (r != 3) = b3 ∧ (b2 && b3) = false := ⟨_, _, rfl, rfl, by rcases hr' with rfl | rfl <;> rfl⟩
  clear hr
  by_cases h0 : s.size = 0
  · rw [if_pos ((empty_iff s).2 h0)] at HT
    have d0 : ((s.size : Int) == 0) = true := by rw [h0]; rfl
    clear h0 hr'
    cases b2
    all_goals cases b3
    all_goals first | (exact absurd d23 Bool.noConfusion) | skip
    all_goals
      go_enter Tryz.func9, Tryz.ntmps9
      go_wp2
      go_ret2
      exact ⟨.slice none 0 0, by rw [HT.out]; rfl, by rw [HT.out]; exact sl_nil _, (by repeat (first | exact Ext.refl _ | assumption | refine Ext.alloc ?_ _ | refine Ext.drew ?_ | refine Ext.trans ?_ (by assumption)))⟩
  rw [if_neg (fun e => h0 ((empty_iff s).1 e))] at HT
  have d0 : ((s.size : Int) == 0) = false := by rw [beq_eq_false_iff_ne]; omega
  have h1 : 1 ≤ s.size := by omega
  clear h0
  by_cases hl : 1000 < s.size
  · rw [if_pos hl] at HT
    clear hr'
    cases b2
    all_goals cases b3
    all_goals first | (exact absurd d23 Bool.noConfusion) | skip
    all_goals
      go_enter Tryz.func9, Tryz.ntmps9
      go_wp2
      go_ret2
      exact ⟨.slice none 0 0, by rw [HT.out]; rfl, by rw [HT.out]; exact sl_nil _, (by repeat (first | exact Ext.refl _ | assumption | refine Ext.alloc ?_ _ | refine Ext.drew ?_ | refine Ext.trans ?_ (by assumption)))⟩
  rw [if_neg hl] at HT
  have hl' : s.size ≤ 1000 := by omega
  by_cases he : (Tw.compK 0 s.data.toList check).2 ≠ 0
  · rw [if_pos he] at HT
    have HW := Lib.hid (fun w => wrong5_any s check w h1 hl')
    have de : ((Tw.compK 0 s.data.toList check).2 != 0) = true := bne_iff_ne.2 he
    generalize (Tw.compK 0 s.data.toList check).2 = ee at *
    clear he hr' hl
    cases b2
    all_goals cases b3
    all_goals first | (exact absurd d23 Bool.noConfusion) | skip
    all_goals
      go_enter Tryz.func9, Tryz.ntmps9
      go_wp2_with fail
      refine (HW.out _).mono ?_
      rintro e w1 ⟨rfl, rfl⟩
      go_wp2
      go_ret2
      exact ⟨.slice none 0 0, by rw [HT.out]; rfl, by rw [HT.out]; exact sl_nil _, (by repeat (first | exact Ext.refl _ | assumption | refine Ext.alloc ?_ _ | refine Ext.drew ?_ | refine Ext.trans ?_ (by assumption)))⟩
  rw [if_neg he] at HT
  rw [HT.out]
  exact renc_ok 0 5 (by decide) s r hr' check addon w h1 hl' (Decidable.of_not_not he)
set_option maxRecDepth 100000 in
set_option maxHeartbeats 4000000 in
theorem rencE_6 (s : ByteArray) (r : Int) (check : Bool) (addon : ByteArray) (w : World) (hs : s.size ≤ 9223372036854775807) :
    Calls Tryz.prog 9 #[.int .i64 6, .string s, .agg #[.int .i64 r, .bool check, .string addon]] w (EncR (Tw.encK 1 s.data.toList r check) w) := by
  have HT := Lib.hid (Tw.encK.eq_1 1 s.data.toList r check)
  rw [len_data] at HT
  generalize Tw.encK 1 s.data.toList r check = res at *
  by_cases hr : r ≠ 2 ∧ r ≠ 3
  · rw [if_pos hr] at HT
    have d2 : (r != 2) = true := bne_iff_ne.2 hr.1
    have d3 : (r != 3) = true := bne_iff_ne.2 hr.2
    clear hr
    go_enter Tryz.func9, Tryz.ntmps9
    go_wp2
    go_ret2
    exact ⟨.slice none 0 0, by rw [HT.out]; rfl, by rw [HT.out]; exact sl_nil _, (by repeat (first | exact Ext.refl _ | assumption | refine Ext.alloc ?_ _ | refine Ext.drew ?_ | refine Ext.trans ?_ (by assumption)))⟩
  rw [if_neg hr] at HT
  have hr' : r = 2 ∨ r = 3 := by omega
  obtain ⟨b2, b3, d2, d3, d23⟩ : ∃ b2 b3, (r != 2) = b2 ∧ (r != 3) = b3 ∧ (b2 && b3) = false := ⟨_, _, rfl, rfl, by rcases hr' with rfl | rfl <;> rfl⟩
  clear hr
  by_cases h0 : s.size = 0
  · rw [if_pos ((empty_iff s).2 h0)] at HT
    have d0 : ((s.size : Int) == 0) = true := by rw [h0]; rfl
    clear h0 hr'
    cases b2
    all_goals cases b3
    all_goals first | (exact absurd d23 Bool.noConfusion) | skip
    all_goals
      go_enter Tryz.func9, Tryz.ntmps9
      go_wp2
      go_ret2
      exact ⟨.slice none 0 0, by rw [HT.out]; rfl, by rw [HT.out]; exact sl_nil _, (by repeat (first | exact Ext.refl _ | assumption | refine Ext.alloc ?_ _ | refine Ext.drew ?_ | refine Ext.trans ?_ (by assumption)))⟩
  rw [if_neg (fun e => h0 ((empty_iff s).1 e))] at HT
  have d0 : ((s.size : Int) == 0) = false := by rw [beq_eq_false_iff_ne]; omega
  have h1 : 1 ≤ s.size := by omega
  clear h0
  by_cases hl : 1000 < s.size
  · rw [if_pos hl] at HT
    clear hr'
    cases b2
    all_goals cases b3
    all_goals first | (exact absurd d23 Bool.noConfusion) | skip
    all_goals
      go_enter Tryz.func9, Tryz.ntmps9
      go_wp2
      go_ret2
      exact ⟨.slice none 0 0, by rw [HT.out]; rfl, by rw [HT.out]; exact sl_nil _, (by repeat (first | exact Ext.refl _ | assumption | refine Ext.alloc ?_ _ | refine Ext.drew ?_ | refine Ext.trans ?_ (by assumption)))⟩
  rw [if_neg hl] at HT
  have hl' : s.size ≤ 1000 := by omega
  by_cases he : (Tw.compK 1 s.data.toList check).2 ≠ 0
  · rw [if_pos he] at HT
    have HW := Lib.hid (fun w => wrong6_any s check w h1 hl')
    have de : ((Tw.compK 1 s.data.toList check).2 != 0) = true := bne_iff_ne.2 he
    generalize (Tw.compK 1 s.data.toList check).2 = ee at *
    clear he hr' hl
    cases b2
    all_goals cases b3
    all_goals first | (exact absurd d23 Bool.noConfusion) | skip
    all_goals
      go_enter Tryz.func9, Tryz.ntmps9
      go_wp2_with fail
      refine (HW.out _).mono ?_
      rintro e w1 ⟨rfl, rfl⟩
      go_wp2
      go_ret2
      exact ⟨.slice none 0 0, by rw [HT.out]; rfl, by rw [HT.out]; exact sl_nil _, (by repeat (first | exact Ext.refl _ | assumption | refine Ext.alloc ?_ _ | refine Ext.drew ?_ | refine Ext.trans ?_ (by assumption)))⟩
  rw [if_neg he] at HT
  rw [HT.out]
  exact renc_ok 1 6 (by decide) s r hr' check addon w h1 hl' (Decidable.of_not_not he)
set_option maxRecDepth 100000 in
set_option maxHeartbeats 4000000 in
theorem rencE_7 (s : ByteArray) (r : Int) (check : Bool) (addon : ByteArray) (w : World) (hs : s.size ≤ 9223372036854775807) :
    Calls Tryz.prog 9 #[.int .i64 7, .string s, .agg #[.int .i64 r, .bool check, .string addon]] w (EncR (Tw.encK 2 s.data.toList r check) w) := by
  have HT := Lib.hid (Tw.encK.eq_1 2 s.data.toList r check)
  rw [len_data] at HT
  generalize Tw.encK 2 s.data.toList r check = res at *
  by_cases hr : r ≠ 2 ∧ r ≠ 3
  · rw [if_pos hr] at HT
    have d2 : (r != 2) = true := bne_iff_ne.2 hr.1
    have d3 : (r != 3) = true := bne_iff_ne.2 hr.2
    clear hr
    go_enter Tryz.func9, Tryz.ntmps9
    go_wp2
    go_ret2
    exact ⟨.slice none 0 0, by rw [HT.out]; rfl, by rw [HT.out]; exact sl_nil _, (by repeat (first | exact Ext.refl _ | assumption | refine Ext.alloc ?_ _ | refine Ext.drew ?_ | refine Ext.trans ?_ (by assumption)))⟩
  rw [if_neg hr] at HT
  have hr' : r = 2 ∨ r = 3 := by omega
  obtain ⟨b2, b3, d2, d3, d23⟩ : ∃ b2 b3, (r != 2) = b2 ∧ (r != 3) = b3 ∧ (b2 && b3) = false := ⟨_, _, rfl, rfl, by rcases hr' with rfl | rfl <;> rfl⟩
  clear hr
  by_cases h0 : s.size = 0
  · rw [if_pos ((empty_iff s).2 h0)] at HT
    have d0 : ((s.size : Int) == 0) = true := by rw [h0]; rfl
    clear h0 hr'
    cases b2
    all_goals cases b3
    all_goals first | (exact absurd d23 Bool.noConfusion) | skip
    all_goals
      go_enter Tryz.func9, Tryz.ntmps9
      go_wp2
      go_ret2
      exact ⟨.slice none 0 0, by rw [HT.out]; rfl, by rw [HT.out]; exact sl_nil _, (by repeat (first | exact Ext.refl _ | assumption | refine Ext.alloc ?_ _ | refine Ext.drew ?_ | refine Ext.trans ?_ (by assumption)))⟩
  rw [if_neg (fun e => h0 ((empty_iff s).1 e))] at HT
  have d0 : ((s.size : Int) == 0) = false := by rw [beq_eq_false_iff_ne]; omega
  have h1 : 1 ≤ s.size := by omega
  clear h0
  by_cases hl : 1000 < s.size
  · rw [if_pos hl] at HT
    clear hr'
    cases b2
    all_goals cases b3
    all_goals first | (exact absurd d23 Bool.noConfusion) | skip
    all_goals
      go_enter Tryz.func9, Tryz.ntmps9
      go_wp2
      go_ret2
      exact ⟨.slice none 0 0, by rw [HT.out]; rfl, by rw [HT.out]; exact sl_nil _, (by repeat (first | exact Ext.refl _ | assumption | refine Ext.alloc ?_ _ | refine Ext.drew ?_ | refine Ext.trans ?_ (by assumption)))⟩
  rw [if_neg hl] at HT
  have hl' : s.size ≤ 1000 := by omega
  by_cases he : (Tw.compK 2 s.data.toList check).2 ≠ 0
  · rw [if_pos he] at HT
    have HW := Lib.hid (fun w => wrong7_any s check w h1 hl')
    have de : ((Tw.compK 2 s.data.toList check).2 != 0) = true := bne_iff_ne.2 he
    generalize (Tw.compK 2 s.data.toList check).2 = ee at *
    clear he hr' hl
    cases b2
    all_goals cases b3
    all_goals first | (exact absurd d23 Bool.noConfusion) | skip
    all_goals
      go_enter Tryz.func9, Tryz.ntmps9
      go_wp2_with fail
      refine (HW.out _).mono ?_
      rintro e w1 ⟨rfl, rfl⟩
      go_wp2
      go_ret2
      exact ⟨.slice none 0 0, by rw [HT.out]; rfl, by rw [HT.out]; exact sl_nil _, (by repeat (first | exact Ext.refl _ | assumption | refine Ext.alloc ?_ _ | refine Ext.drew ?_ | refine Ext.trans ?_ (by assumption)))⟩
  rw [if_neg he] at HT
  rw [HT.out]
  exact renc_ok 2 7 (by decide) s r hr' check addon w h1 hl' (Decidable.of_not_not he)

set_option maxHeartbeats 1000000 in
theorem rencode_any (kind : Int) (s : ByteArray) (r : Int) (check : Bool) (addon : ByteArray) (w : World) (hs : s.size ≤ 9223372036854775807) :
    Calls Tryz.prog 9 #[.int .i64 kind, .string s, .agg #[.int .i64 r, .bool check, .string addon]] w (EncR (Tw.enc kind s.data.toList r check) w) := by
  unfold Tw.enc
  split
  · rename_i h; subst h; exact rencE_5 s r check addon w hs
  split
  · rename_i h; subst h; exact rencE_6 s r check addon w hs
  split
  · rename_i h; subst h; exact rencE_7 s r check addon w hs
  rename_i h5 h6 h7
  have d5 : (kind != 5) = true := bne_iff_ne.2 h5
  have d6 : (kind != 6) = true := bne_iff_ne.2 h6
  have d7 : (kind != 7) = true := bne_iff_ne.2 h7
  clear h5 h6 h7
  go_enter Tryz.func9, Tryz.ntmps9
  go_wp2
  go_ret2
  exact ⟨.slice none 0 0, rfl, sl_nil _, (by repeat (first | exact Ext.refl _ | assumption | refine Ext.alloc ?_ _ | refine Ext.drew ?_ | refine Ext.trans ?_ (by assumption)))⟩
end Go.Proofs.YthjlnpcaclfopaaGreat
