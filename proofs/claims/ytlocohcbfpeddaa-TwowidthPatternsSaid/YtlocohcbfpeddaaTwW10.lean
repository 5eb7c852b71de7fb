/-
  Chapter 12: Pattern and Encode, walked.
  Condition: the text is within the reach.
-/
import Derived.Test.YtlocohcbfpeddaaTwW9
namespace Go.Proofs.Ytlocohcbfpeddaa
open Go.RowKit

theorem bits_row (s : ByteArray) : (List.range s.size).map (fun k => encT (s.data.toList.getD k 0 == 119)) = (Tw.bits s.data.toList).map encT := by
  apply List.ext_getElem
  · simp [Tw.bits]
  · intro i h1 h2
    simp [Tw.bits] at h1 h2 ⊢
    simp [h1]

/-- What Pattern returns. -/
def PatR (r : List Bool × Int) (w : World) (e : Ending) (w' : World) : Prop := ∃ v, e = .returned (.tuple #[v, .int .i64 r.2]) ∧ Sl w' v (r.1.map encT) ∧ Ext w w'

theorem pat_len (cs ps : List UInt8) (z : Nat) (c : UInt8) (hz : z ≤ 9) : (Tw.pat cs ps z c).1.length ≤ 9 := by
  unfold Tw.pat Tw.cutAt; split
  · simp
  · simp only [List.length_take]; omega
theorem patK_len (k : Nat) (c : UInt8) : (Tw.patK k c).1.length ≤ 9 := by
  unfold Tw.patK; split <;> exact pat_len _ _ _ _ (by omega)
theorem sl_nil (w : World) : Sl w (.slice none 0 0) [] := .inl ⟨rfl, _, _, rfl⟩
theorem Sl.drew {w : World} {v : Value} {xs : List Value} (h : Sl w v xs) : Sl w.drew v xs := h
theorem ib119 (c : UInt8) : (((c.toNat : Int) == 119) = (c == 119)) := by
  rw [Bool.eq_iff_iff, beq_iff_eq, beq_iff_eq]
  constructor
  · intro h; exact UInt8.toNat_inj.1 (by have : (119 : UInt8).toNat = 119 := rfl; omega)
  · intro h; rw [h]; rfl

set_option maxRecDepth 100000 in
set_option maxHeartbeats 4000000 in
theorem pattern_k (k : Nat) (kind : Int) (c : UInt8) (w : World) (hf : ∀ w, Calls Try.prog 30 #[.int .i64 kind] w (Found k w)) :
    Calls Try.prog 17 #[.int .i64 kind, .int .u8 (c.toNat : Int)] w (PatR (Tw.patB k c) w) := by
  have HF := Lib.hid hf
  have HT := Lib.hid (Tw.patB.eq_1 k c)
  have hpl := patK_len k c
  generalize Tw.patB k c = res at *
  clear hf
  go_enter Try.func17, Try.ntmps17
  go_wp2_with fail
  refine (HF.out _).mono ?_
  rintro e w1 ⟨B, F, rfl, hF, hx1⟩
  have HP := Lib.hid (fun w' hx => hF.pat w' hx c)
  have hen : ∀ xs w, (callFunc F.pf xs).run Try.prog w = .ok (.enter F.pf xs) w := hF.ent.1
  clear hF
  unfold SymFns.val
  generalize Tw.patK k c = pc at *
  obtain ⟨pt, ok⟩ := pc
  obtain ⟨P, rfl⟩ : ∃ D : ByteArray, pt = D.data.toList := ⟨⟨pt.toArray⟩, by simp⟩
  simp only [strV, mk_toList] at HP
  simp only [len_data] at hpl
  have hmk := run_make_row' (P := Try.prog) 37 4 (.bool false) 1 Try.underlying37 (by kernel_rfl) rfl .i64 .i64 P.size (by omega) (by omega)
  go_wp2_with fail
  refine (HP.out _ (Above.of_ext _ (by repeat (first | exact Ext.refl _ | assumption | refine Ext.alloc ?_ _ | refine Ext.drew ?_ | refine Ext.trans ?_ (by assumption))))).mono ?_
  rintro e w2 ⟨rfl, rfl⟩
  cases ok
  · rw [if_neg Bool.noConfusion] at HT
    go_wp2
    go_ret2
    exact ⟨.slice none 0 0, by rw [HT.out]; rfl, by rw [HT.out]; exact sl_nil _, (by repeat (first | exact Ext.refl _ | assumption | refine Ext.alloc ?_ _ | refine Ext.drew ?_ | refine Ext.trans ?_ (by assumption)))⟩
  · rw [if_pos rfl] at HT
    have hxa := hx1.alloc (.cells #[.int .i64 (F.z : Int), .func (.func F.pf) #[] F.pc, .func (.func F.hf) #[] F.hc, .func (.func F.cf) #[] F.cc, .func (.func F.mf) #[] #[], .func (.func F.df) #[] F.dc, .func (.func F.rf) F.rr F.rc, .func (.func F.tf) #[] #[]] 71)
    generalize w1.alloc (.cells #[.int .i64 (F.z : Int), .func (.func F.pf) #[] F.pc, .func (.func F.hf) #[] F.hc, .func (.func F.cf) #[] F.cc, .func (.func F.mf) #[] #[], .func (.func F.df) #[] F.dc, .func (.func F.rf) F.rr F.rc, .func (.func F.tf) #[] #[]] 71) = w0 at *
    go_wp2
    clear hmk
    go_loopw [33] (fun i wr => ∃ j : Nat, j ≤ P.size ∧ i = .int .i64 (j : Int) ∧ wr.rowIs w0.heap.size 4 P.size (fun k => if k < j then encT (P.data.toList.getD k 0 == 119) else .bool false) ∧ Ext w0 wr) (fun i _ => P.size - (intOf i).toNat)
    case atStart =>
      exact ⟨0, Nat.zero_le _, rfl, (World.rowIs_made w0 _ _ _).congr (fun i _ => by simp), (by repeat (first | exact Ext.refl _ | assumption | refine Ext.alloc ?_ _ | refine Ext.drew ?_ | refine Ext.trans ?_ (by assumption)))⟩
    case round =>
      obtain ⟨j, hj, rfl, hrow, hxr⟩ := hrel
      by_cases hlt : j < P.size
      · have hcj := hrow.cell hlt
        have hfj := hrow.frozen j
        have d1 := ib119 P[j]
        have HR : Hid ((wr.setCell ⟨w0.heap.size, j, none⟩ (.bool (P[j] == 119))).rowIs w0.heap.size 4 P.size (fun k => if k < j + 1 then encT (P.data.toList.getD k 0 == 119) else .bool false)) :=
          Lib.hid ((hrow.set j (.bool (P[j] == 119))).congr (fun k hk => by
            by_cases h1 : k = j
            · subst h1; rw [if_pos rfl, if_pos (by omega), getD_at P k hlt]; rfl
            · rw [if_neg h1]
              by_cases h2 : k < j
              · rw [if_pos h2, if_pos (by omega)]
              · rw [if_neg h2, if_neg (by omega)]))
        have HX := Lib.hid (hxr.setCell (p := ⟨w0.heap.size, j, none⟩) (Nat.le_refl _) (.bool (P[j] == 119)))
        clear hrow
        go_wp2
        go_roundw
        case rel => exact ⟨j + 1, by omega, by go_num, HR.out, HX.out⟩
        case measure => simp [intOf]; omega
      · obtain rfl : j = P.size := by omega
        have hsl := Sl.row hrow
        clear hj hlt hrow
        go_wp2
        go_ret2
        refine ⟨.slice (some ⟨w0.heap.size, 0, none⟩) P.size P.size, by rw [HT.out]; rfl, ?_, hxa.trans hxr⟩
        rw [HT.out]
        refine hsl.congr ?_
        rw [← bits_row]
        exact List.map_congr_left (fun k hk => by rw [if_pos (by simpa using hk)])
end Go.Proofs.Ytlocohcbfpeddaa
