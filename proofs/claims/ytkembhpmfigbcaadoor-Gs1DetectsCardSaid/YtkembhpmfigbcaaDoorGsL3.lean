/-
  Chapter 14: the law Gs1Detects, walked.
  Condition: the table of white space reads as it is laid.
-/
import Derived.Test.YtkembhpmfigbcaaDoorGsX2
import Derived.Test.YtkembhpmfigbcaaDoorCdM3
namespace Go.Proofs.YtkembhpmfigbcaaDoor
set_option linter.unusedVariables false
open Go.RowKit

theorem gs_detect (a b : List UInt8) (x y : UInt8) (hs : Cd.ver 1 (a ++ x :: b) = 0) (ht : Cd.ver 1 (a ++ y :: b) = 0) : x = y := by
  by_cases hb : b = []
  · subst hb
    have key : ∀ z, Cd.ver 1 (a ++ [z]) = 0 → Cd.cmp 1 a = [z] := by
      intro z hz
      unfold Cd.ver at hz
      repeat' split at hz
      all_goals first | (exfalso; revert hz; decide) | skip
      rename_i h
      have e1 : (a ++ [z]).length - Cd.size 1 = a.length := by rw [List.length_append]; simp [Cd.size]
      rw [e1, List.take_left, List.drop_left] at h
      exact h
    have h1 := key x hs
    have h2 := key y ht
    rw [h1] at h2
    simpa using h2
  · exact Cd.detects_sub 1 a b x y (by decide) (by decide) hb hs ht
theorem dir_check : ∀ p ∈ Gs.dir, (p.2.2.1 == p.2.2.2.1) = true → 13 ≤ p.2.2.2.1 → p.2.1 = 1 := by decide +kernel
theorem find_check {l : List UInt8} {r : Gs.Rule} (h : Gs.find l = some r) (hf : Gs.isFix r = true) (h13 : 13 ≤ r.2.2.1) : r.1 = 1 := by
  rcases find_cases h with ⟨h1, _⟩ | ⟨k, c, _, h1, _⟩
  · exact dir_check _ h1 hf h13
  · exact dir_check _ h1 hf h13
theorem fixF_parts {l : List UInt8} {n m : Int} (h : Gs.fixF l = (n, m, 0)) (h13 : 13 ≤ n) : ∃ r, Gs.find l = some r ∧ Gs.isFix r = true ∧ r.2.2.1 = n ∧ r.1 = 1 ∧ r.2.1 = n := by
  unfold Gs.fixF at h
  split at h
  · simp at h
  · rename_i r hr
    simp only [Prod.mk.injEq, and_true] at h
    obtain ⟨h1, h2⟩ := h
    by_cases hf : Gs.isFix r = true
    · rw [if_pos hf] at h1
      refine ⟨r, hr, hf, h1, find_check hr hf (by omega), ?_⟩
      have : r.2.1 = r.2.2.1 := by simpa [Gs.isFix] using hf
      omega
    · rw [if_neg hf] at h1; omega
theorem detect_plain {ai a b : List UInt8} {x y : UInt8} {n m : Int} (hf : Gs.fixF ai = (n, m, 0)) (h13 : 13 ≤ n) (hv : Gs.ver ai (a ++ x :: b) = 0) (hy : 48 ≤ y.toNat ∧ y.toNat ≤ 57) (hne : x ≠ y) : Gs.ver ai (a ++ y :: b) = 8 := by
  obtain ⟨r, h1, _, h3, h4, h5⟩ := fixF_parts hf h13
  unfold Gs.ver at hv ⊢
  rw [h1] at hv ⊢
  dsimp only at hv ⊢
  obtain ⟨p1, p2, p3⟩ := verR_parts hv
  unfold Gs.verR at hv ⊢
  have hl : (a ++ y :: b).length = (a ++ x :: b).length := by simp
  have hall : (a ++ y :: b).all (Gs.okc r.1) = true := by
    rw [List.all_append, List.all_cons] at p3 ⊢
    simp only [Bool.and_eq_true] at p3 ⊢
    refine ⟨p3.1, ?_, p3.2.2⟩
    unfold Gs.okc
    have : Cd.isDig y.toNat = true := by simp [Cd.isDig]; omega
    rw [this]; rfl
  rw [if_neg (by omega), if_neg (by rw [p3]; simp), if_neg (by rw [h4]; simp)] at hv
  rw [hl, if_neg (by omega), if_neg (by rw [hall]; simp), if_neg (by rw [h4]; simp), if_pos]
  refine ⟨h4, fun h0 => hne ?_⟩
  have hv0 : Cd.verI 1 (a ++ x :: b) = 0 := by
    split at hv
    · simp at hv
    · rename_i h; exact Decidable.of_not_not (fun hh => h ⟨h4, hh⟩)
  exact gs_detect a b x y hv0 h0
theorem ver_digits {ai d : List UInt8} {n m : Int} (hf : Gs.fixF ai = (n, m, 0)) (h13 : 13 ≤ n) (hv : Gs.ver ai d = 0) : Cd.AllDig d ∧ (d.length : Int) = n := by
  obtain ⟨r, h1, _, h3, h4, h5⟩ := fixF_parts hf h13
  unfold Gs.ver at hv
  rw [h1] at hv
  obtain ⟨p1, p2, p3⟩ := verR_parts hv
  exact ⟨okc_dig (by rw [h4]; decide) p3, by omega⟩
/-- '[]byte(s)': a new block that holds the bytes and may be written. -/
theorem conv_bytes2 (s : ByteArray) (w : World) : ∃ cap w', (convert 9 45 (.string s)).run Tryd.prog w = .ok (.slice (some ⟨w.heap.size, 0, none⟩) s.size cap) w' ∧ Ext w w' ∧ w'.heap.size = w.heap.size + 1 ∧ ∀ j, (h : j < s.size) → w'.cell? ⟨w.heap.size, j, none⟩ = some (encB s[j]) ∧ w'.frozen? ⟨w.heap.size, j, none⟩ = false := by
  refine ⟨_, _, run_bytes_of_string (P := Tryd.prog) w 9 45 5 s Tryd.underlying9 Tryd.underlying45 Tryd.underlying5, ((Ext.refl w).drew).alloc _, by simp, fun j h => ⟨?_, ?_⟩⟩
  · exact (World.cell?_alloc_mark w.drew _ _ _ j).trans (bytesRow_at s _ j h)
  · refine (World.frozen?_alloc_mark w.drew _ _ _ _ j).trans ?_
    have : s.size ≤ (bytesRow s (grownCap w s.size 0 5)).size := by
      unfold bytesRow
      rw [Array.size_append, Array.size_map]
      exact Nat.le_add_right _ _
    rw [decide_eq_false (by omega)]; rfl

theorem block_of_cell {w : World} {b i : Nat} {v : Value} (h : w.cell? ⟨b, i, none⟩ = some v) : ∃ cs T fr, w.heap[b]? = some (.cells cs T fr) := by
  unfold World.cell? at h
  cases hb : w.heap[b]? with
  | none => rw [hb] at h; simp at h
  | some o =>
    rw [hb] at h
    cases o with
    | cells cs T fr => exact ⟨cs, T, fr, rfl⟩
    | map _ _ => simp at h
    | _ => simp at h
theorem set_cells {w : World} {b n i : Nat} {f : Nat → Value} {v : Value} (h : ∀ j, j < n → w.cell? ⟨b, j, none⟩ = some (f j)) (hi : i < n) : ∀ j, j < n → (w.setCell ⟨b, i, none⟩ v).cell? ⟨b, j, none⟩ = some (if j = i then v else f j) := by
  obtain ⟨cs, T, fr, hb⟩ := block_of_cell (h i hi)
  intro j hj
  have e1 : ∀ k, w.cell? ⟨b, k, none⟩ = cs[k]? := fun k => Joins.cell_of_block hb k
  rw [Joins.cell_of_block (Joins.block_setCell hb v) j]
  have h1 := h j hj
  rw [e1] at h1
  have hil : i < cs.size := by
    have := h i hi
    rw [e1] at this
    exact (Array.getElem?_eq_some_iff.1 this).1
  by_cases hji : j = i
  · subst hji
    rw [if_pos rfl]
    simp [hil]
  · rw [if_neg hji, Array.getElem?_setIfInBounds_ne (fun e => hji e.symm)]
    exact h1

set_option maxRecDepth 100000 in
set_option maxHeartbeats 4000000 in
theorem law_detects (ai d : ByteArray) (at' by' : Int) (w : World) (ha : ai.size ≤ maxLen) (hs : d.size ≤ maxLen) (ha0 : 0 ≤ at') (ha1 : at' ≤ 255) (hb0 : 0 ≤ by') (hb1 : by' ≤ 255) (ht : Spaces w) :
    Calls Tryd.prog 9 #[.agg #[.string ai, .string d], .int .u8 at', .int .u8 by'] w fun e w' => e = .returned (.bool true) ∧ Ext w w' := by
  have HT := Lib.hid ht
  have hds : d.size ≤ 9223372036854775807 := hs
  have HF := Lib.hid (fun w' hx => Fixed_any ai ha w' (tabIs_ext HT.out hx))
  have HV := Lib.hid (fun w' hx => Verify_any ai d ha hs w' (tabIs_ext HT.out hx))
  have HV2 := Lib.hid (fun (d' : ByteArray) (h : d'.size ≤ maxLen) w' hx => Verify_any ai d' ha h w' (tabIs_ext HT.out hx))
  have HEX := Lib.hid (fun w' hx => examples_any w' (tabIs_ext HT.out hx))
  have HDP := Lib.hid (fun (n m : Int) (hf : Gs.fixF ai.data.toList = (n, m, 0)) (h13 : 13 ≤ n) => And.intro (fun hv => ver_digits (d := d.data.toList) hf h13 hv) (fun a b x y hv hy hne => detect_plain (a := a) (b := b) (x := x) (y := y) hf h13 hv hy hne))
  generalize Gs.fixF ai.data.toList = fx at *
  obtain ⟨n, m, e⟩ := fx
  dsimp only at HF
  clear ht hs
  have hxA : Ext w (w.alloc (.cells #[.string ai, .string d] 23)) := (Ext.refl w).alloc _
  have HXA := Lib.hid hxA
  have FJ : Hid (∀ w', Ext (w.alloc (.cells #[.string ai, .string d] 23)) w' → w'.cell? ⟨w.heap.size, 0, none⟩ = some (.string ai) ∧ w'.cell? ⟨w.heap.size, 1, none⟩ = some (.string d)) := Lib.hid (fun w' hx => by
    refine ⟨?_, ?_⟩
    all_goals
      rw [hx.cell (by simp)]; simp [go_sem])
  clear hxA
  by_cases he : e = 0
  · subst he
    by_cases h13 : 13 ≤ n
    · have HD := Lib.hid (HDP.out n m rfl h13)
      by_cases hver : Gs.ver ai.data.toList d.data.toList = 0
      · obtain ⟨hdig, hlen⟩ := HD.out.1 hver
        rw [len_data] at hlen
        have HDE := Lib.hid (fun a b x y (h : d.data.toList = a ++ x :: b) => HD.out.2 a b x y (by rw [← h]; exact hver))
        rw [hver] at HV
        obtain ⟨i, hi⟩ : ∃ i : Nat, at' % n = (i : Int) := ⟨(at' % n).toNat, by have := Int.emod_nonneg at' (show n ≠ 0 by omega); omega⟩
        have hin : i < d.size := by have := Int.emod_lt_of_pos at' (show 0 < n by omega); omega
        obtain ⟨c1, c2⟩ := hdig _ (mem_at d i hin)
        have hn90 : n ≤ 1000000 := by
          have := ver_sizes hver
          rw [len_data, len_data] at this
          omega
        obtain ⟨c, hc⟩ : ∃ c, d[i] = c := ⟨_, rfl⟩
        rw [hc] at c1 c2
        obtain ⟨q, hq⟩ : ∃ q : Int, ((c.toNat : Int) - 48 + 1 + by' % 9) % 10 = q := ⟨_, rfl⟩
        have hq0 : 0 ≤ q ∧ q ≤ 9 := by omega
        obtain ⟨y, hy⟩ : ∃ y : UInt8, (y.toNat : Int) = 48 + q := ⟨UInt8.ofNat (48 + q.toNat), by
          have : (UInt8.ofNat (48 + q.toNat)).toNat = 48 + q.toNat := by simp; omega
          rw [this]; omega⟩
        have hne : c ≠ y := by intro e; rw [e] at hq c1 c2; omega
        have hcut : d.data.toList = d.data.toList.take i ++ c :: d.data.toList.drop (i + 1) := by
          rw [← hc, ← drop_cons d i hin, List.take_append_drop]
        have HNV := Lib.hid (HDE.out _ _ c y hcut (by omega) hne)
        obtain ⟨D2, hD2⟩ : ∃ D2 : ByteArray, D2.data.toList = d.data.toList.take i ++ y :: d.data.toList.drop (i + 1) := ⟨⟨(d.data.toList.take i ++ y :: d.data.toList.drop (i + 1)).toArray⟩, rfl⟩
        have hD2s : D2.size ≤ maxLen := by
          rw [← len_data, hD2, List.length_append, List.length_cons, len_take d i (by omega), len_drop]; unfold maxLen; omega
        have HV3 := Lib.hid (HV2.out D2 hD2s)
        rw [hD2, HNV.out] at HV3
        have HD2 := Lib.hid hD2
        have HC := Lib.hid hc
        have HY := Lib.hid (And.intro hy hq)
        have HIN := Lib.hid hin
        have hcI : (48 : Int) ≤ (c.toNat : Int) ∧ (c.toNat : Int) ≤ 57 := by omega
        obtain ⟨hc5, hc6⟩ := hcI
        have hqq : (c.toNat : Int) - 48 + 1 + by' % 9 ≤ 18 := by omega
        have hnn : (n == 0) = false := by rw [beq_eq_false_iff_ne]; omega
        have hlen2 : ((d.size : Int) != n) = false := by simp; omega
        have HLEN := Lib.hid hlen
        clear hlen
        clear hver hdig hD2 hc hy hcut hne HNV HV2 HDE HD HDP hqq
        go_enter Tryd.func9, Tryd.ntmps9
        go_wp2_with fail
        refine (HF.out _ HXA.out).mono ?_
        rintro e w1 ⟨rfl, hx1⟩
        obtain ⟨d0, d1⟩ := FJ.out w1 hx1
        go_wp2_with fail
        refine (HV.out w1 (HXA.out.trans hx1)).mono ?_
        rintro e w2 ⟨rfl, hx2⟩
        have hx02 := hx1.trans hx2
        obtain ⟨d2, d3⟩ := FJ.out w2 hx02
        obtain ⟨cap, w3, hcv, hx3, hs3, hby⟩ := conv_bytes2 d w2
        obtain ⟨g1, g2⟩ := hby i HIN.out
        rw [HC.out] at g1
        unfold encB at g1
        have HBY := Lib.hid hby
        clear hby
        obtain ⟨d4, d5⟩ := FJ.out w3 (hx02.trans hx3)
        have hlt02 : w.heap.size < w2.heap.size := by have := hx02.size; simp at this; omega
        have hcv4 : (convert 45 9 (.slice (some ⟨w2.heap.size, 0, none⟩) d.size cap)).run Tryd.prog (w3.setCell ⟨w2.heap.size, i, none⟩ (.int .u8 (48 + q))) = .ok (.string D2) (w3.setCell ⟨w2.heap.size, i, none⟩ (.int .u8 (48 + q))) := by
          have hD2l : D2.data.toList.length = d.size := by
            rw [HD2.out, List.length_append, List.length_cons, len_take d i (by have := HIN.out; omega), len_drop]; have := HIN.out; omega
          have hsl : Sl (w3.setCell ⟨w2.heap.size, i, none⟩ (.int .u8 (48 + q))) (.slice (some ⟨w2.heap.size, 0, none⟩) d.size cap) (D2.data.toList.map encB) := by
            refine .inr ⟨w2.heap.size, 0, cap, by rw [List.length_map, hD2l], ?_, fun j hj => ?_⟩
            · have := ((Ext.refl w2).trans hx3).size
              have h9 := (Ext.setCell (a := w) (w := w3) ((HXA.out.trans hx02).trans hx3) (p := ⟨w2.heap.size, i, none⟩) (by show w.heap.size ≤ w2.heap.size; omega) (.int .u8 (48 + q))).size
              have h10 : (w3.setCell ⟨w2.heap.size, i, none⟩ (.int .u8 (48 + q))).heap.size = w3.heap.size := by simp [World.setCell]
              omega
            · rw [List.length_map, hD2l] at hj
              have h1 := set_cells (v := .int .u8 (48 + q)) (f := fun j => encB (d.data.toList.getD j 0)) (fun j hj => by
                have := (HBY.out j hj).1
                rw [this, gdat d j hj]) HIN.out j hj
              rw [Nat.zero_add, h1, List.getElem?_map, HD2.out]
              by_cases hji : j = i
              · subst hji
                rw [if_pos rfl, List.getElem?_append_right (by rw [len_take d j (by omega)]; exact Nat.le_refl _), len_take d j (by omega), Nat.sub_self]
                simp only [List.getElem?_cons_zero, Option.map_some]
                unfold encB
                rw [HY.out.1]
              · rw [if_neg hji]
                have h2 : (d.data.toList.take i ++ y :: d.data.toList.drop (i + 1))[j]? = d.data.toList[j]? := by
                  rcases Nat.lt_or_ge j i with hh | hh
                  · rw [List.getElem?_append_left (by rw [len_take d i (by have := HIN.out; omega)]; exact hh), List.getElem?_take, if_pos hh]
                  · rw [List.getElem?_append_right (by rw [len_take d i (by have := HIN.out; omega)]; exact hh), len_take d i (by have := HIN.out; omega)]
                    obtain ⟨k, hk⟩ : ∃ k, j - i = k + 1 := ⟨j - i - 1, by omega⟩
                    rw [hk, List.getElem?_cons_succ, List.getElem?_drop]
                    congr 1; omega
                rw [h2, List.getD_eq_getElem?_getD, List.getElem?_eq_getElem (by rw [len_data]; exact hj)]; rfl
          have := run_convert_sl hsl
          rw [this, mk_toList]
        have k0 : (w3.setCell ⟨w2.heap.size, i, none⟩ (.int .u8 (48 + q))).cell? ⟨w.heap.size, 0, none⟩ = some (.string ai) := by
          rw [← d4]
          exact World.cell?_of_block (w := w3) (a := ⟨w.heap.size, 0, none⟩) (heap_setCell_other w3 ⟨w2.heap.size, i, none⟩ w.heap.size _ (by simp; omega))
        have hx4 : Ext w (w3.setCell ⟨w2.heap.size, i, none⟩ (.int .u8 (48 + q))) := Ext.setCell ((HXA.out.trans hx02).trans hx3) (p := ⟨w2.heap.size, i, none⟩) (by show w.heap.size ≤ w2.heap.size; omega) _
        clear d0 d1
        go_wp2_with fail
        refine (HV3.out _ hx4).mono ?_
        rintro e w5 ⟨rfl, hx5⟩
        have hx05 := hx4.trans hx5
        go_wp2_with fail
        refine (HEX.out w5 hx05).mono ?_
        rintro e w6 ⟨rfl, hx6⟩
        go_wp2
        go_ret
        exact ⟨rfl, hx05.trans hx6⟩
      · obtain ⟨z, hz⟩ : ∃ z, Gs.ver ai.data.toList d.data.toList = z := ⟨_, rfl⟩
        rw [hz] at HV hver
        have hz1 : (z != 0) = true := by simpa using hver
        clear hver hz HV2 HDP HD
        go_enter Tryd.func9, Tryd.ntmps9
        go_wp2_with fail
        refine (HF.out _ HXA.out).mono ?_
        rintro e w1 ⟨rfl, hx1⟩
        obtain ⟨d0, d1⟩ := FJ.out w1 hx1
        go_wp2_with fail
        refine (HV.out w1 (HXA.out.trans hx1)).mono ?_
        rintro e w2 ⟨rfl, hx2⟩
        have hx02 := (HXA.out.trans hx1).trans hx2
        go_wp2_with fail
        refine (HEX.out w2 hx02).mono ?_
        rintro e w6 ⟨rfl, hx6⟩
        go_wp2
        go_ret
        exact ⟨rfl, hx02.trans hx6⟩
    · have h13' : n < 13 := by omega
      clear HV HV2 HDP
      go_enter Tryd.func9, Tryd.ntmps9
      go_wp2_with fail
      refine (HF.out _ HXA.out).mono ?_
      rintro e w1 ⟨rfl, hx1⟩
      have hx01 := HXA.out.trans hx1
      go_wp2_with fail
      refine (HEX.out w1 hx01).mono ?_
      rintro e w6 ⟨rfl, hx6⟩
      go_wp2
      go_ret
      exact ⟨rfl, hx01.trans hx6⟩
  · have he1 : (e != 0) = true := by simpa using he
    clear HV HV2 HDP
    go_enter Tryd.func9, Tryd.ntmps9
    go_wp2_with fail
    refine (HF.out _ HXA.out).mono ?_
    rintro e' w1 ⟨rfl, hx1⟩
    have hx01 := HXA.out.trans hx1
    go_wp2_with fail
    refine (HEX.out w1 hx01).mono ?_
    rintro e' w6 ⟨rfl, hx6⟩
    go_wp2
    go_ret
    exact ⟨rfl, hx01.trans hx6⟩
end Go.Proofs.YtkembhpmfigbcaaDoor
