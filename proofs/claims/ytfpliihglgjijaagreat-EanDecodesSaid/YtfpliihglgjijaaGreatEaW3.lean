/-
  Chapter 11: Expand, Complete and Compress, walked.
  Condition: strings within the reach.
-/
import Derived.Test.YtfpliihglgjijaaGreatEaW2
namespace Go.Proofs.YtfpliihglgjijaaGreat
set_option linter.unusedVariables false
open Go.RowKit

/-- A string and an error. -/
def strE (r : List UInt8 × Int) : Value := .tuple #[.string (Ea.bS r.1), .int .i64 r.2]
theorem strE_err (x : Int) : strE ([], x) = .tuple #[.string ⟨#[]⟩, .int .i64 x] := rfl
theorem first_le {l : List UInt8} {s : ByteArray} (hl : s.data.toList = l) (h : 0 < s.size) : (s[0] == 48 || s[0] == 49) = true ↔ (s[0] = 48 ∨ s[0] = 49) := by simp
theorem first_at (s : ByteArray) (h : 0 < s.size) : s.data.toList.getD 0 0 = s[0] := by
  rw [List.getD_eq_getElem?_getD, List.getElem?_eq_getElem (by rw [len_data]; exact h)]; rfl
theorem num_iff (s : ByteArray) (h : 0 < s.size) (hd : Ea.digs s.data.toList = true) : (s[0] == 48 || s[0] == 49) = decide (s.data.toList.getD 0 0 ≤ 49) := by
  have h1 := Ea.digs_iff.1 hd s[0] (mem_at s 0 h)
  rw [first_at s h]
  generalize s[0] = c at *
  rw [Bool.eq_iff_iff, Bool.or_eq_true, beq_iff_eq, beq_iff_eq, decide_eq_true_eq, UInt8.le_iff_toNat_le]
  constructor
  · rintro (rfl | rfl) <;> decide
  · intro h2
    have h2 : c.toNat ≤ 49 := h2
    have h3 : c.toNat = 48 ∨ c.toNat = 49 := by omega
    rcases h3 with h3 | h3
    · exact .inl (UInt8.toNat_inj.1 h3)
    · exact .inr (UInt8.toNat_inj.1 h3)
/-- The error of a text that is not complete, in the program's order. -/
theorem full_steps (k : Int) (l : List UInt8) : Ea.full k l = if Ea.size k = 0 then 1 else if Ea.digs l = false then 6 else if l.length ≠ Ea.size k then 7 else if k = 4 ∧ ¬ l.getD 0 0 ≤ 49 then 9
    else if Ea.good (if k = 4 then Ea.exp8 l else l) then 0 else 8 := by
  by_cases h1 : Ea.size k = 0
  · rw [if_pos h1]; unfold Ea.full Ea.comp; rw [if_neg (fun h => h.1 h1), if_pos h1]
  · rw [if_neg h1]
    by_cases h2 : Ea.digs l = false
    · rw [if_pos h2]; unfold Ea.full Ea.comp; rw [if_neg (fun h => by rw [h2] at h; exact Bool.noConfusion h.2.1), if_neg h1, if_pos h2]
    · rw [if_neg h2]
      have h2' : Ea.digs l = true := by simpa using h2
      by_cases h3 : l.length ≠ Ea.size k
      · rw [if_pos h3]
        unfold Ea.full
        by_cases h4 : l.length + 1 = Ea.size k
        · rw [if_pos ⟨h1, h2', h4⟩]
        · rw [if_neg (fun h => h4 h.2.2)]; unfold Ea.comp; rw [if_neg h1, if_neg h2, if_pos ⟨h3, h4⟩]
      · rw [if_neg h3]
        have h3' : l.length = Ea.size k := by omega
        by_cases h4 : k = 4 ∧ ¬ l.getD 0 0 ≤ 49
        · rw [if_pos h4]
          unfold Ea.full
          rw [if_neg (by omega)]
          unfold Ea.comp
          rw [if_neg h1, if_neg h2, if_neg (by omega), if_pos ⟨h4.1, UInt8.not_le.1 h4.2⟩]
        · rw [if_neg h4, Ea.full_zero h1 h2' h3' (fun e => by by_cases e2 : l.getD 0 0 ≤ 49; exact e2; exact absurd ⟨e, e2⟩ h4)]
          have hg := Ea.good_of h1 h3'
          by_cases h5 : Ea.good (if k = 4 then Ea.exp8 l else l)
          · rw [if_pos h5, if_pos (hg.2 h5)]
          · rw [if_neg h5, if_neg (fun h => h5 (hg.1 h))]

set_option maxRecDepth 100000 in
set_option maxHeartbeats 2000000 in
theorem eExpand_any (s : ByteArray) (hs : s.size ≤ 9223372036854775807) (w : World) :
    Calls Tryz.prog 21 #[.string s] w fun e w' => e = .returned (strE (Ea.expd s.data.toList)) ∧ Ext w w' := by
  have HF := Lib.hid (full_steps 4 s.data.toList)
  have HX := Lib.hid (Ea.expd.eq_1 s.data.toList)
  have HD := Lib.hid (digitsOnly_any s hs)
  have HZ := Lib.hid (esize_any 4)
  rw [show ((Ea.size 4 : Nat) : Int) = 8 from rfl] at HZ
  rw [show Ea.size 4 = 8 from rfl, if_neg (by decide), len_data] at HF
  have HEX := Lib.hid (expand_any s)
  generalize Ea.expd s.data.toList = res at *
  by_cases h2 : Ea.digs s.data.toList = false
  · rw [if_pos h2] at HF
    rw [HF.out, if_pos (by decide)] at HX
    rw [h2] at HD
    clear h2 HF
    go_enter Tryz.func21, Tryz.ntmps21
    go_wp2_with fail
    refine (HD.out _).mono ?_
    rintro e w1 ⟨rfl, rfl⟩
    go_wp2
    go_ret2
    exact ⟨by rw [HX.out]; rfl, Ext.refl _⟩
  · have h2' : Ea.digs s.data.toList = true := by simpa using h2
    rw [if_neg h2] at HF
    rw [h2'] at HD
    by_cases h3 : s.size ≠ 8
    · rw [if_pos h3] at HF
      rw [HF.out, if_pos (by decide)] at HX
      have b3 : ((s.size : Int) != 8) = true := by simp; omega
      clear h2 h2' HF h3
      go_enter Tryz.func21, Tryz.ntmps21
      go_wp2_with fail
      refine (HD.out _).mono ?_
      rintro e w1 ⟨rfl, rfl⟩
      go_wp2_with fail
      refine (HZ.out _).mono ?_
      rintro e w1 ⟨rfl, rfl⟩
      go_wp2
      go_ret2
      exact ⟨by rw [HX.out]; rfl, Ext.refl _⟩
    · rw [if_neg h3] at HF
      have h8 : s.size = 8 := by omega
      have b3 : ((s.size : Int) != 8) = false := by simp; omega
      have HN := Lib.hid (numbered_any s (by omega))
      rw [num_iff s (by omega) h2'] at HN
      have HRI := Lib.hid (right_any 4 s h2' (.inl ⟨rfl, h8⟩))
      rw [if_pos rfl] at HRI HF
      have HEX := Lib.hid (HEX.out h8)
      by_cases h4 : s.data.toList.getD 0 0 ≤ 49
      · rw [if_neg (fun h => h.2 h4)] at HF
        rw [decide_eq_true h4] at HN
        by_cases h5 : Ea.good (Ea.exp8 s.data.toList)
        · rw [if_pos h5] at HF
          rw [decide_eq_true h5] at HRI
          rw [HF.out, if_neg (by decide)] at HX
          clear h2 h2' h3 h4 h5 HF h8
          go_enter Tryz.func21, Tryz.ntmps21
          go_wp2_with fail
          refine (HD.out _).mono ?_
          rintro e w1 ⟨rfl, rfl⟩
          go_wp2_with fail
          refine (HZ.out _).mono ?_
          rintro e w1 ⟨rfl, rfl⟩
          go_wp2_with fail
          refine (HN.out _).mono ?_
          rintro e w1 ⟨rfl, rfl⟩
          go_wp2_with fail
          refine (HRI.out _).mono ?_
          rintro e w1 ⟨rfl, hx1⟩
          go_wp2_with fail
          refine (HEX.out _).mono ?_
          rintro e w2 ⟨rfl, hx2⟩
          go_wp2
          go_ret2
          exact ⟨by rw [HX.out]; rfl, hx1.trans hx2⟩
        · rw [if_neg h5] at HF
          rw [decide_eq_false h5] at HRI
          rw [HF.out, if_pos (by decide)] at HX
          clear h2 h2' h3 h4 h5 HF h8
          go_enter Tryz.func21, Tryz.ntmps21
          go_wp2_with fail
          refine (HD.out _).mono ?_
          rintro e w1 ⟨rfl, rfl⟩
          go_wp2_with fail
          refine (HZ.out _).mono ?_
          rintro e w1 ⟨rfl, rfl⟩
          go_wp2_with fail
          refine (HN.out _).mono ?_
          rintro e w1 ⟨rfl, rfl⟩
          go_wp2_with fail
          refine (HRI.out _).mono ?_
          rintro e w1 ⟨rfl, hx1⟩
          go_wp2
          go_ret2
          exact ⟨by rw [HX.out]; rfl, hx1⟩
      · rw [if_pos ⟨rfl, h4⟩] at HF
        rw [decide_eq_false h4] at HN
        rw [HF.out, if_pos (by decide)] at HX
        clear h2 h2' h3 h4 HF h8 HRI
        go_enter Tryz.func21, Tryz.ntmps21
        go_wp2_with fail
        refine (HD.out _).mono ?_
        rintro e w1 ⟨rfl, rfl⟩
        go_wp2_with fail
        refine (HZ.out _).mono ?_
        rintro e w1 ⟨rfl, rfl⟩
        go_wp2_with fail
        refine (HN.out _).mono ?_
        rintro e w1 ⟨rfl, rfl⟩
        go_wp2
        go_ret2
        exact ⟨by rw [HX.out]; rfl, Ext.refl _⟩

theorem comp_digits (l : List UInt8) (hd : Ea.digs l = true) (h1 : 1 ≤ l.length) (h2 : l.length ≤ 4000) : Cd.compI 1 l = ([Ea.chk l], 0) := by
  unfold Cd.compI
  rw [if_neg (by omega)]
  show Cd.comp 1 l = _
  unfold Cd.comp
  rw [if_neg (fun e => by rw [e] at h1; simp at h1), if_neg (by omega), if_neg, if_neg]
  · rfl
  · have : Cd.fits 1 (l.length + Cd.size 1) = true := by
      show decide (1 < l.length + 1) = true
      rw [decide_eq_true_eq]; omega
    rw [this]; simp
  · rw [Bool.not_eq_false]; exact hd

set_option maxRecDepth 100000 in
set_option maxHeartbeats 4000000 in
theorem eComplete_any (k : Int) (s : ByteArray) (hs : s.size ≤ 9223372036854775807) (w : World) :
    Calls Tryz.prog 17 #[.int .i64 k, .string s] w fun e w' => e = .returned (strE (Ea.comp k s.data.toList)) ∧ Ext w w' := by
  have HX := Lib.hid (Ea.comp.eq_1 k s.data.toList)
  have HD := Lib.hid (digitsOnly_any s hs)
  have HZ := Lib.hid (esize_any k)
  rw [len_data] at HX
  by_cases h1 : Ea.size k = 0
  · rw [if_pos h1] at HX
    rw [h1] at HZ
    generalize Ea.comp k s.data.toList = res at *
    clear h1
    go_enter Tryz.func17, Tryz.ntmps17
    go_wp2_with fail
    refine (HZ.out _).mono ?_
    rintro e w1 ⟨rfl, rfl⟩
    go_wp2
    go_ret2
    exact ⟨by rw [HX.out]; rfl, Ext.refl _⟩
  · rw [if_neg h1] at HX
    have hkk := Ea.kinds h1
    obtain ⟨hn1, hn2⟩ : 8 ≤ Ea.size k ∧ Ea.size k ≤ 13 := by rcases hkk with rfl | rfl | rfl | rfl <;> decide
    have hn4 : k = 4 → Ea.size k = 8 := by rintro rfl; rfl
    by_cases h2 : Ea.digs s.data.toList = false
    · rw [if_pos h2] at HX
      rw [h2] at HD
      generalize Ea.comp k s.data.toList = res at *
      generalize Ea.size k = n at *
      have b1 : ((n : Int) == 0) = false := beq_eq_false_iff_ne.2 (by omega)
      clear h1 h2 hkk hn4
      go_enter Tryz.func17, Tryz.ntmps17
      go_wp2_with fail
      refine (HZ.out _).mono ?_
      rintro e w1 ⟨rfl, rfl⟩
      go_wp2_with fail
      refine (HD.out _).mono ?_
      rintro e w1 ⟨rfl, rfl⟩
      go_wp2
      go_ret2
      exact ⟨by rw [HX.out]; rfl, Ext.refl _⟩
    · have h2' : Ea.digs s.data.toList = true := by simpa using h2
      rw [if_neg h2] at HX
      rw [h2'] at HD
      have b1 : ((Ea.size k : Int) == 0) = false := beq_eq_false_iff_ne.2 (by omega)
      by_cases h3 : s.size ≠ Ea.size k ∧ s.size + 1 ≠ Ea.size k
      · rw [if_pos h3] at HX
        generalize Ea.comp k s.data.toList = res at *
        generalize Ea.size k = n at *
        have b3 : ((s.size : Int) != (n : Int)) = true := by simp; omega
        have b4 : ((s.size : Int) != (n : Int) - 1) = true := by simp; omega
        clear h1 h2 hkk hn4 h3 h2'
        go_enter Tryz.func17, Tryz.ntmps17
        go_wp2_with fail
        refine (HZ.out _).mono ?_
        rintro e w1 ⟨rfl, rfl⟩
        go_wp2_with fail
        refine (HD.out _).mono ?_
        rintro e w1 ⟨rfl, rfl⟩
        go_wp2
        go_ret2
        exact ⟨by rw [HX.out]; rfl, Ext.refl _⟩
      · rw [if_neg h3] at HX
        have h0 : 0 < s.size := by omega
        have HN := Lib.hid (numbered_any s h0)
        rw [num_iff s h0 h2'] at HN
        have H48 := Lib.hid hn4
        clear hn4
        by_cases h4 : k = 4 ∧ 49 < s.data.toList.getD 0 0
        · rw [if_pos h4] at HX
          obtain ⟨rfl, h4⟩ := h4
          rw [decide_eq_false (UInt8.not_le.2 h4)] at HN
          generalize Ea.comp 4 s.data.toList = res at *
          generalize Ea.size 4 = n at *
          by_cases h5 : s.size = n
          · have b3 : ((s.size : Int) != (n : Int)) = false := by simp; omega
            clear h1 h2 hkk h3 h2' h4 h5
            go_enter Tryz.func17, Tryz.ntmps17
            go_wp2_with fail
            refine (HZ.out _).mono ?_
            rintro e w1 ⟨rfl, rfl⟩
            go_wp2_with fail
            refine (HD.out _).mono ?_
            rintro e w1 ⟨rfl, rfl⟩
            go_wp2_with fail
            refine (HN.out _).mono ?_
            rintro e w1 ⟨rfl, rfl⟩
            go_wp2
            go_ret2
            exact ⟨by rw [HX.out]; rfl, Ext.refl _⟩
          · have b3 : ((s.size : Int) != (n : Int)) = true := by simp; omega
            have b4 : ((s.size : Int) != (n : Int) - 1) = false := by simp; omega
            clear h1 h2 hkk h3 h2' h4 h5
            go_enter Tryz.func17, Tryz.ntmps17
            go_wp2_with fail
            refine (HZ.out _).mono ?_
            rintro e w1 ⟨rfl, rfl⟩
            go_wp2_with fail
            refine (HD.out _).mono ?_
            rintro e w1 ⟨rfl, rfl⟩
            go_wp2_with fail
            refine (HN.out _).mono ?_
            rintro e w1 ⟨rfl, rfl⟩
            go_wp2
            go_ret2
            exact ⟨by rw [HX.out]; rfl, Ext.refl _⟩
        · rw [if_neg h4] at HX
          have h49 : k = 4 → s.data.toList.getD 0 0 ≤ 49 := fun e => UInt8.not_lt.1 fun e2 => h4 ⟨e, e2⟩
          clear h4
          by_cases h5 : s.size = Ea.size k
          · have HRI := Lib.hid (right_any k s h2' (by by_cases e : k = 4; exact .inl ⟨e, by rw [h5, H48.out e]⟩; exact .inr ⟨e, by omega, by omega⟩))
            have hg := Ea.good_of h1 (by rw [len_data]; exact h5)
            have HTK : Hid (Ea.good (if k = 4 then Ea.exp8 s.data.toList else s.data.toList) → s.data.toList.take (Ea.size k - 1) ++ [Ea.chkOf k (s.data.toList.take (Ea.size k - 1))] = s.data.toList) := Lib.hid (fun h => (hg.2 h).symm)
            have HX8 : Hid (Ea.comp k s.data.toList = if Ea.good (if k = 4 then Ea.exp8 s.data.toList else s.data.toList) then (s.data.toList, 0) else ([], 8)) := Lib.hid (by
              rw [HX.out]
              by_cases h6 : Ea.good (if k = 4 then Ea.exp8 s.data.toList else s.data.toList)
              · rw [if_neg (fun hh => hh.2 (hg.2 h6)), if_pos h6, HTK.out h6]
              · rw [if_pos ⟨h5, fun hh => h6 (hg.1 hh)⟩, if_neg h6])
            have b3 : ((s.size : Int) != (Ea.size k : Int)) = false := by simp; omega
            have b5 : ((s.size : Int) == (Ea.size k : Int)) = true := by simp; omega
            have HBS : Hid (Value.string s = .string (Ea.bS s.data.toList)) := Lib.hid (by rw [Ea.bS_of])
            clear HX hg HTK
            by_cases h4 : k = 4
            · subst h4
              rw [decide_eq_true (h49 rfl)] at HN
              generalize Ea.comp 4 s.data.toList = res at *
              generalize Ea.size 4 = n at *
              by_cases h6 : Ea.good (if (4 : Int) = 4 then Ea.exp8 s.data.toList else s.data.toList)
              · rw [decide_eq_true h6] at HRI
                have HX := Lib.hid (HX8.out.trans (if_pos h6))
                clear h1 h2 hkk h3 h2' h5 h6 HX8
                go_enter Tryz.func17, Tryz.ntmps17
                go_wp2_with fail
                refine (HZ.out _).mono ?_
                rintro e w1 ⟨rfl, rfl⟩
                go_wp2_with fail
                refine (HD.out _).mono ?_
                rintro e w1 ⟨rfl, rfl⟩
                go_wp2_with fail
                refine (HN.out _).mono ?_
                rintro e w1 ⟨rfl, rfl⟩
                go_wp2_with fail
                refine (HRI.out _).mono ?_
                rintro e w2 ⟨rfl, hx2⟩
                go_wp2
                go_ret2
                exact ⟨by rw [HX.out, HBS.out]; rfl, hx2⟩
              · rw [decide_eq_false h6] at HRI
                have HX := Lib.hid (HX8.out.trans (if_neg h6))
                clear h1 h2 hkk h3 h2' h5 h6 HX8
                go_enter Tryz.func17, Tryz.ntmps17
                go_wp2_with fail
                refine (HZ.out _).mono ?_
                rintro e w1 ⟨rfl, rfl⟩
                go_wp2_with fail
                refine (HD.out _).mono ?_
                rintro e w1 ⟨rfl, rfl⟩
                go_wp2_with fail
                refine (HN.out _).mono ?_
                rintro e w1 ⟨rfl, rfl⟩
                go_wp2_with fail
                refine (HRI.out _).mono ?_
                rintro e w2 ⟨rfl, hx2⟩
                go_wp2
                go_ret2
                exact ⟨by rw [HX.out]; rfl, hx2⟩
            · have b4 : (k == 4) = false := beq_eq_false_iff_ne.2 h4
              generalize Ea.comp k s.data.toList = res at *
              generalize Ea.size k = n at *
              by_cases h6 : Ea.good (if k = 4 then Ea.exp8 s.data.toList else s.data.toList)
              · rw [decide_eq_true h6] at HRI
                have HX := Lib.hid (HX8.out.trans (if_pos h6))
                clear h1 h2 hkk h3 h2' h5 h6 HX8 h4 h49
                go_enter Tryz.func17, Tryz.ntmps17
                go_wp2_with fail
                refine (HZ.out _).mono ?_
                rintro e w1 ⟨rfl, rfl⟩
                go_wp2_with fail
                refine (HD.out _).mono ?_
                rintro e w1 ⟨rfl, rfl⟩
                go_wp2_with fail
                refine (HRI.out _).mono ?_
                rintro e w2 ⟨rfl, hx2⟩
                go_wp2
                go_ret2
                exact ⟨by rw [HX.out, HBS.out]; rfl, hx2⟩
              · rw [decide_eq_false h6] at HRI
                have HX := Lib.hid (HX8.out.trans (if_neg h6))
                clear h1 h2 hkk h3 h2' h5 h6 HX8 h4 h49
                go_enter Tryz.func17, Tryz.ntmps17
                go_wp2_with fail
                refine (HZ.out _).mono ?_
                rintro e w1 ⟨rfl, rfl⟩
                go_wp2_with fail
                refine (HD.out _).mono ?_
                rintro e w1 ⟨rfl, rfl⟩
                go_wp2_with fail
                refine (HRI.out _).mono ?_
                rintro e w2 ⟨rfl, hx2⟩
                go_wp2
                go_ret2
                exact ⟨by rw [HX.out]; rfl, hx2⟩
          · have h6 : s.size + 1 = Ea.size k := by omega
            have hT : s.data.toList.take (Ea.size k - 1) = s.data.toList := List.take_of_length_le (by rw [len_data]; omega)
            have HX9 : Hid (Ea.comp k s.data.toList = (s.data.toList ++ [Ea.chkOf k s.data.toList], 0)) := Lib.hid (by rw [HX.out, if_neg (fun h => h5 h.1), hT])
            have b3 : ((s.size : Int) != (Ea.size k : Int)) = true := by simp; omega
            have b4 : ((s.size : Int) != (Ea.size k : Int) - 1) = false := by simp; omega
            have b5 : ((s.size : Int) == (Ea.size k : Int)) = false := by simp; omega
            have HOUT : Hid (∀ c : UInt8, Value.string (s ++ ⟨[c].toArray⟩) = .string (Ea.bS (s.data.toList ++ [c]))) := Lib.hid (fun c => by rw [← Ea.bS_of (s ++ ⟨[c].toArray⟩), ByteArray.data_append, Array.toList_append])
            clear HX hT
            by_cases h4 : k = 4
            · subst h4
              rw [decide_eq_true (h49 rfl)] at HN
              have h7 : s.size = 7 := by have := H48.out rfl; omega
              have hZs : (s ++ ⟨#[48]⟩ : ByteArray).size = 8 := by rw [ByteArray.size_append, h7]; rfl
              have HEX := Lib.hid (expand_any (s ++ ⟨#[48]⟩) hZs)
              have hE7 : (Ea.exp8 (s ++ ⟨#[48]⟩ : ByteArray).data.toList).take 11 = Ea.exp7 s.data.toList := by
                rw [Ea.exp8_take (by rw [len_data]; exact hZs)]
                congr 1
                rw [ByteArray.data_append, Array.toList_append]
                exact Ea.take_app _ _ _ (by rw [len_data]; exact h7.symm)
              have hEs : (Ea.bS (Ea.exp8 (s ++ ⟨#[48]⟩ : ByteArray).data.toList)).size = 12 := by
                rw [size_of_toList (Ea.bS_list _), Ea.exp8_len (by rw [len_data]; exact hZs)]
              have hEC : ((Ea.bS (Ea.exp8 (s ++ ⟨#[48]⟩ : ByteArray).data.toList)).extract 0 11).data.toList = Ea.exp7 s.data.toList := by rw [cut_front, Ea.bS_list, hE7]
              have HCO := Lib.hid (comp_digits (Ea.exp7 s.data.toList) (Ea.exp7_digs h2') (by rw [Ea.exp7_len (by rw [len_data]; exact h7)]; omega) (by rw [Ea.exp7_len (by rw [len_data]; exact h7)]; omega))
              have hk4 : Ea.chkOf 4 s.data.toList = Ea.chk (Ea.exp7 s.data.toList) := rfl
              rw [hk4] at HX9
              generalize Ea.comp 4 s.data.toList = res at *
              generalize Ea.bS (Ea.exp8 (s ++ ⟨#[48]⟩ : ByteArray).data.toList) = U at *
              have HCM := Lib.hid (fun w => compute_any 1 (U.extract 0 11) w (by rw [ByteArray.size_extract]; omega))
              rw [hEC, HCO.out] at HCM
              have HZ3 := Lib.hid (esize_any 3)
              rw [show ((Ea.size 3 : Nat) : Int) = 12 from rfl] at HZ3
              generalize Ea.size 4 = n at *
              generalize Ea.chk (Ea.exp7 s.data.toList) = cd at *
              have h7' : s.size ≤ 7 := by omega
              clear h1 h2 hkk h3 h2' h5 h6 hE7 hEC HCO hk4 H48 hZs h49 h7
              go_enter Tryz.func17, Tryz.ntmps17
              go_wp2_with fail
              refine (HZ.out _).mono ?_
              rintro e w1 ⟨rfl, rfl⟩
              go_wp2_with fail
              refine (HD.out _).mono ?_
              rintro e w1 ⟨rfl, rfl⟩
              go_wp2_with fail
              refine (HN.out _).mono ?_
              rintro e w1 ⟨rfl, rfl⟩
              go_wp2_with fail
              refine (HEX.out _).mono ?_
              rintro e w2 ⟨rfl, hx2⟩
              go_wp2_with fail
              refine (HZ3.out _).mono ?_
              rintro e w1 ⟨rfl, rfl⟩
              go_wp2_with fail
              refine (HCM.out _).mono ?_
              rintro e w3 ⟨rfl, hx3⟩
              dsimp only
              go_wp2
              go_ret2
              exact ⟨by rw [HX9.out, HOUT.out]; rfl, hx2.trans hx3⟩
            · have b6 : (k == 4) = false := beq_eq_false_iff_ne.2 h4
              have HCO := Lib.hid (comp_digits s.data.toList h2' (by rw [len_data]; omega) (by rw [len_data]; omega))
              have hk4 : Ea.chkOf k s.data.toList = Ea.chk s.data.toList := by unfold Ea.chkOf; rw [if_neg h4]
              rw [hk4] at HX9
              have HCM := Lib.hid (fun w => compute_any 1 s w hs)
              rw [HCO.out] at HCM
              generalize Ea.comp k s.data.toList = res at *
              generalize Ea.size k = n at *
              generalize Ea.chk s.data.toList = cd at *
              have hs13 : s.size ≤ 13 := by omega
              clear h1 h2 hkk h3 h2' h5 h6 HCO hk4 H48 h49 h4
              go_enter Tryz.func17, Tryz.ntmps17
              go_wp2_with fail
              refine (HZ.out _).mono ?_
              rintro e w1 ⟨rfl, rfl⟩
              go_wp2_with fail
              refine (HD.out _).mono ?_
              rintro e w1 ⟨rfl, rfl⟩
              go_wp2_with fail
              refine (HCM.out _).mono ?_
              rintro e w3 ⟨rfl, hx3⟩
              dsimp only
              go_wp2
              go_ret2
              exact ⟨by rw [HX9.out, HOUT.out]; rfl, hx3⟩
end Go.Proofs.YtfpliihglgjijaaGreat
