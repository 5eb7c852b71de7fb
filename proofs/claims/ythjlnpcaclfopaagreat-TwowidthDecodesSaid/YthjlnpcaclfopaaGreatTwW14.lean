/-
  Chapter 12: Full, walked.
  Condition: the string is within the reach.
-/
import Derived.Test.YthjlnpcaclfopaaGreatTwW13
namespace Go.Proofs.YthjlnpcaclfopaaGreat
open Go.RowKit

theorem rep_len : ∀ c : UInt8, (Tw.rep c).length ≤ 2 := by
  have h : ∀ i : Fin 256, (Tw.rep (UInt8.ofNat i.val)).length ≤ 2 := by decide +kernel
  intro c
  have := h ⟨c.toNat, c.toNat_lt⟩
  simpa using this
theorem reps_len (l : List UInt8) : (l.flatMap Tw.rep).length ≤ 2 * l.length := by
  induction l with
  | nil => simp
  | cons c l ih =>
    have := rep_len c
    rw [List.flatMap_cons, List.length_append, List.length_cons]; omega

set_option maxRecDepth 100000 in
set_option maxHeartbeats 2000000 in
theorem full_any (s : ByteArray) (w : World) (hs : s.size ≤ 9223372036854775807) :
    Calls Tryz.prog 14 #[.string s] w (DecR (Tw.full s.data.toList) w) := by
  have HT := Lib.hid (Tw.full.eq_1 s.data.toList)
  rw [len_data] at HT
  generalize Tw.full s.data.toList = res at *
  go_enter Tryz.func14, Tryz.ntmps14
  go_wp2
  go_loop [9] (fun i => ∃ j : Nat, j ≤ s.size ∧ i = .int .i64 (j : Int) ∧ Hid (∀ c ∈ s.data.toList.take j, c ≤ 127)) (fun i => s.size - (intOf i).toNat)
  case atStart => exact ⟨0, Nat.zero_le _, rfl, Lib.hid (fun c hc => by simp at hc)⟩
  case round =>
    obtain ⟨j, hj, rfl, HB⟩ := hrel
    by_cases hlt : j < s.size
    · by_cases h127 : s[j] ≤ 127
      · have h2 : (s[j].toNat : Int) ≤ 127 := by have := UInt8.le_iff_toNat_le.1 h127; have e : (127 : UInt8).toNat = 127 := rfl; omega
        have HM := Lib.hid h127
        clear h127
        go_wp2
        go_round
        case rel => exact ⟨j + 1, by omega, by go_num, Lib.hid (fun c hc => by
          rw [take_snoc s j hlt, List.mem_append] at hc
          rcases hc with h | h
          · exact HB.out c h
          · rw [List.mem_singleton] at h; rw [h]; exact HM.out)⟩
        case measure => simp [intOf]; omega
      · have h2 : 127 < (s[j].toNat : Int) := by
          have := mt UInt8.le_iff_toNat_le.2 h127
          have e : (127 : UInt8).toNat = 127 := rfl
          rw [e] at this
          omega
        have hno : (s.data.toList.all fun c => decide (c ≤ 127)) = false := by
          rw [List.all_eq_false]
          exact ⟨s[j], mem_at s j hlt, by simpa using h127⟩
        rw [if_pos hno] at HT
        clear hno h127
        go_wp2
        go_ret2
        exact ⟨by rw [HT.out]; rfl, Ext.refl _⟩
    · obtain rfl : j = s.size := by omega
      rw [take_all] at HB
      have hal : (s.data.toList.all fun c => decide (c ≤ 127)) = true := by
        rw [List.all_eq_true]; intro c hc; simpa using HB.out c hc
      rw [if_neg (by rw [hal]; exact Bool.noConfusion)] at HT
      clear hal hj hlt
      by_cases hl : 1000 < s.size
      · rw [if_pos hl] at HT
        go_wp2
        go_ret2
        exact ⟨by rw [HT.out]; rfl, Ext.refl _⟩
      · rw [if_neg hl] at HT
        have hl' : s.size ≤ 1000 := by omega
        clear hl
        go_wp2
        go_loopw [22] (fun i wr => ∃ j : Nat, j ≤ s.size ∧ i = .int .i64 (j : Int) ∧ Lib.IsBuilder 67 5 w.heap.size w.heap.size (Lib.byteCells ((s.data.toList.take j).flatMap Tw.rep)) wr ∧ Ext w wr) (fun i _ => s.size - (intOf i).toNat)
        case atStart => exact ⟨0, Nat.zero_le _, rfl, Lib.fresh_isBuilder _ _ w, (by repeat (first | exact Ext.refl _ | assumption | refine Ext.alloc ?_ _ | refine Ext.drew ?_ | refine Ext.trans ?_ (by assumption)))⟩
        case round =>
          obtain ⟨j, hj, rfl, hbl, hxr⟩ := hrel
          have hrl := reps_len (s.data.toList.take j)
          rw [len_take s j hj] at hrl
          by_cases hlt : j < s.size
          · have HTS : Hid ((s.data.toList.take (j + 1)).flatMap Tw.rep = (s.data.toList.take j).flatMap Tw.rep ++ Tw.rep s[j]) := Lib.hid (by
              rw [take_snoc s j hlt, List.flatMap_append]; simp)
            have HRP := Lib.hid (fun w => represent_any s[j] w)
            have hr2 := rep_len s[j]
            generalize Tw.rep s[j] = r at *
            obtain ⟨R, rfl⟩ : ∃ C : ByteArray, r = C.data.toList := ⟨⟨r.toArray⟩, by simp⟩
            simp only [strV, mk_toList] at HRP
            rw [len_data] at hr2
            generalize (s.data.toList.take j).flatMap Tw.rep = got at *
            have hgl : (Lib.byteCells got).length ≤ 2 * j := by rw [Lib.byteCells, List.length_map]; exact hrl
            go_wp2_with fail
            refine (HRP.out _).mono ?_
            rintro e w1 ⟨rfl, hx1⟩
            have hbl1 := bld_ext hbl hx1
            have hxr1 := hxr.trans hx1
            go_wp2_with fail
            refine (writeString_any w.heap.size w.heap.size _ R _ hbl1 (by omega) hxr1.size).mono ?_
            rintro e w2 ⟨rfl, hbl2, hb2⟩
            have hx2 : Ext w w2 := Below.trans hxr1 hb2
            have HBL : Hid (Lib.IsBuilder 67 5 w.heap.size w.heap.size (Lib.byteCells (got ++ R.data.toList)) w2) := Lib.hid (by
              have e1 : Lib.byteCells (got ++ R.data.toList) = Lib.byteCells got ++ Lib.strCells R := by simp [Lib.byteCells, Lib.strCells]
              rw [e1]; exact hbl2)
            clear hbl hbl1 hbl2 hb2 hx1 hxr1
            go_wp2
            go_roundw
            case rel => exact ⟨j + 1, by omega, by go_num, by rw [HTS.out]; exact HBL.out, hx2⟩
            case measure => simp [intOf]; omega
          · obtain rfl : j = s.size := by omega
            rw [take_all] at hbl hrl
            clear hj hlt
            generalize s.data.toList.flatMap Tw.rep = got at *
            have HLEN := Lib.hid (Tryz.Builder_Len w.heap.size w.heap.size (Lib.byteCells got) wr hbl)
            have HSTR := Lib.hid (Tryz.Builder_String_any w.heap.size w.heap.size got wr hbl hxr.size)
            have e1 : (Lib.byteCells got).length = got.length := by rw [Lib.byteCells, List.length_map]
            rw [e1] at HLEN
            clear e1 hbl
            by_cases hl : 1000 < got.length
            · rw [if_pos hl] at HT
              go_wp2_with fail
              refine HLEN.out.mono ?_
              rintro e w1 ⟨rfl, rfl⟩
              go_wp2
              go_ret2
              exact ⟨by rw [HT.out]; rfl, hxr⟩
            · rw [if_neg hl] at HT
              have hl2 : got.length ≤ 1000 := by omega
              clear hl
              go_wp2_with fail
              refine HLEN.out.mono ?_
              rintro e w1 ⟨rfl, rfl⟩
              go_wp2_with fail
              refine HSTR.out.mono ?_
              rintro e w1 ⟨rfl, hb1⟩
              go_wp2
              go_ret2
              exact ⟨by rw [HT.out]; rfl, Below.trans hxr hb1⟩
end Go.Proofs.YthjlnpcaclfopaaGreat
