/-
  Chapter 11: EanDetects, walked.
  Condition: a string within the reach, two bytes.
-/
import Derived.Test.YtfpliihglgjijaaGreatEaL1
import Derived.Lib.SmallJoins
namespace Go.Proofs.YtfpliihglgjijaaGreat
set_option linter.unusedVariables false
open Go.RowKit

/-- '[]byte(s)': a new block that holds the bytes and may be written. -/
theorem conv_bytes2 (s : ByteArray) (w : World) : ∃ cap w', (convert 9 40 (.string s)).run Tryz.prog w = .ok (.slice (some ⟨w.heap.size, 0, none⟩) s.size cap) w' ∧ Ext w w' ∧ w'.heap.size = w.heap.size + 1 ∧ ∀ j, (h : j < s.size) → w'.cell? ⟨w.heap.size, j, none⟩ = some (encB s[j]) ∧ w'.frozen? ⟨w.heap.size, j, none⟩ = false := by
  refine ⟨_, _, run_bytes_of_string (P := Tryz.prog) w 9 40 5 s Tryz.underlying9 Tryz.underlying40 Tryz.underlying5, ((Ext.refl w).drew).alloc _, by simp, fun j h => ⟨?_, ?_⟩⟩
  · exact (World.cell?_alloc_mark w.drew _ _ _ j).trans (bytesRow_at s _ j h)
  · refine (World.frozen?_alloc_mark w.drew _ _ _ _ j).trans ?_
    have : s.size ≤ (bytesRow s (grownCap w s.size 0 5)).size := by
      unfold bytesRow
      rw [Array.size_append, Array.size_map]
      exact Nat.le_add_right _ _
    rw [decide_eq_false (by omega)]; rfl
theorem block_of_cell {w : World} {b i : Nat} {v : Value} (h : w.cell? ⟨b, i, none⟩ = some v) : ∃ cs T fr, w.heap[b]? = some (.cells cs T fr) := by
  unfold World.cell? at h
  cases hb : w.heap[b]? with
  | none => rw [hb] at h; simp at h
  | some o =>
    rw [hb] at h
    cases o with
    | cells cs T fr => exact ⟨cs, T, fr, rfl⟩
    | map _ _ => simp at h
    | _ => simp at h
theorem set_cells {w : World} {b n i : Nat} {f : Nat → Value} {v : Value} (h : ∀ j, j < n → w.cell? ⟨b, j, none⟩ = some (f j)) (hi : i < n) : ∀ j, j < n → (w.setCell ⟨b, i, none⟩ v).cell? ⟨b, j, none⟩ = some (if j = i then v else f j) := by
  obtain ⟨cs, T, fr, hb⟩ := block_of_cell (h i hi)
  intro j hj
  have e1 : ∀ k, w.cell? ⟨b, k, none⟩ = cs[k]? := fun k => Joins.cell_of_block hb k
  rw [Joins.cell_of_block (Joins.block_setCell hb v) j]
  have h1 := h j hj
  rw [e1] at h1
  have hil : i < cs.size := by
    have := h i hi
    rw [e1] at this
    exact (Array.getElem?_eq_some_iff.1 this).1
  by_cases hji : j = i
  · subst hji
    rw [if_pos rfl]
    simp [hil]
  · rw [if_neg hji, Array.getElem?_setIfInBounds_ne (fun e => hji e.symm)]
    exact h1

set_option maxRecDepth 100000 in
set_option maxHeartbeats 2000000 in
theorem law_detects (k : Int) (s : ByteArray) (at' by' : Int) (hs : s.size ≤ 9223372036854775807) (ha : 0 ≤ at' ∧ at' ≤ 255) (hb : 0 ≤ by' ∧ by' ≤ 255) (w : World) :
    Calls Tryz.prog 8 #[.int .i64 k, .string s, .int .u8 at', .int .u8 by'] w fun e w' => e = .returned (.bool true) ∧ Ext w w' := by
  have HX := Lib.hid examples_any
  obtain ⟨ha1, ha2⟩ := ha
  obtain ⟨hb1, hb2⟩ := hb
  by_cases hA : k = 4 ∨ s.size = 0 ∨ 20 < s.size
  · have h3 : (k == 4) = true ∨ ((k == 4) = false ∧ ((s.size : Int) == 0) = true) ∨ ((k == 4) = false ∧ ((s.size : Int) == 0) = false ∧ decide ((20 : Int) < (s.size : Int)) = true) := by
      by_cases e1 : k = 4
      · exact .inl (beq_iff_eq.2 e1)
      · by_cases e2 : s.size = 0
        · exact .inr (.inl ⟨beq_eq_false_iff_ne.2 e1, beq_iff_eq.2 (by omega)⟩)
        · exact .inr (.inr ⟨beq_eq_false_iff_ne.2 e1, beq_eq_false_iff_ne.2 (by omega), decide_eq_true (by omega)⟩)
    clear hA
    rcases h3 with b1 | ⟨b1, b2⟩ | ⟨b1, b2, b3⟩
    all_goals
      go_enter Tryz.func8, Tryz.ntmps8
      go_wp2_with fail
      refine (HX.out _).mono ?_
      rintro e w1 ⟨rfl, hx1⟩
      go_wp2
      go_ret
      exact ⟨rfl, hx1⟩
  · have hk4 : k ≠ 4 := fun e => hA (.inl e)
    have b1 : (k == 4) = false := beq_eq_false_iff_ne.2 hk4
    have b2 : ((s.size : Int) == 0) = false := beq_eq_false_iff_ne.2 (by omega)
    have b3 : decide ((20 : Int) < (s.size : Int)) = false := decide_eq_false (by omega)
    have hsz : 1 ≤ s.size := by omega
    have hsu : s.size ≤ 20 := by omega
    have HE := Lib.hid (fun w => eEncode_any k s ⟨#[]⟩ hs (by decide) w)
    by_cases he : (Ea.enc k s.data.toList []).2 = 0
    · have hf : Ea.full k s.data.toList = 0 := by
        refine Decidable.byContradiction fun h => ?_
        unfold Ea.enc at he
        rw [if_pos h] at he
        exact h he
      obtain ⟨_, hdg, _⟩ := Ea.full_ok hf
      obtain ⟨i, hi⟩ : ∃ i : Nat, at' % (s.size : Int) = (i : Int) := ⟨(at' % (s.size : Int)).toNat, by
        have := Int.emod_nonneg at' (show (s.size : Int) ≠ 0 by omega); omega⟩
      have hin : i < s.size := by have := Int.emod_lt_of_pos at' (show (0 : Int) < (s.size : Int) by omega); omega
      obtain ⟨c1, c2⟩ := (Ea.allDig hdg) s[i] (mem_at s i hin)
      obtain ⟨c, hc⟩ : ∃ c, s[i] = c := ⟨_, rfl⟩
      rw [hc] at c1 c2
      obtain ⟨q, hq⟩ : ∃ q : Int, ((c.toNat : Int) - 48 + 1 + by' % 9) % 10 = q := ⟨_, rfl⟩
      have hq0 : 0 ≤ q ∧ q ≤ 9 := by omega
      obtain ⟨y, hy⟩ : ∃ y : UInt8, (y.toNat : Int) = 48 + q := ⟨UInt8.ofNat (48 + q.toNat), by
        have : (UInt8.ofNat (48 + q.toNat)).toNat = 48 + q.toNat := by simp; omega
        rw [this]; omega⟩
      have hne : c ≠ y := by intro e; rw [e] at hq c1 c2; omega
      have HDT := Lib.hid (Ea.detects hk4 hf (i := i) (by rw [len_data]; exact hin) (y := y) (by omega) (by
        show s[i] ≠ y
        rw [hc]; exact hne) [])
      obtain ⟨D2, hD2⟩ : ∃ D2 : ByteArray, D2.data.toList = s.data.toList.set i y := ⟨⟨(s.data.toList.set i y).toArray⟩, rfl⟩
      have hD2s : D2.size = s.size := by rw [← len_data, hD2, List.length_set, len_data]
      have HV3 := Lib.hid (fun w => eEncode_any k D2 ⟨#[]⟩ (by omega) (by decide) w)
      rw [hD2, show (⟨#[]⟩ : ByteArray).data.toList = [] from rfl, HDT.out] at HV3
      have HD2 := Lib.hid (And.intro hD2 hD2s)
      have HC := Lib.hid hc
      have HY := Lib.hid hy
      have HIN := Lib.hid hin
      have HEZ : Hid ((Ea.enc k s.data.toList (⟨#[]⟩ : ByteArray).data.toList).2 = 0) := Lib.hid he
      have hcI : (48 : Int) ≤ (c.toNat : Int) ∧ (c.toNat : Int) ≤ 57 := by omega
      obtain ⟨hc5, hc6⟩ := hcI
      have hit : at'.tmod (s.size : Int) = (i : Int) := by rw [Int.tmod_eq_emod_of_nonneg ha1]; exact hi
      clear hD2 hD2s hc hy hne HDT he hf hdg hk4 hA hs
      go_enter Tryz.func8, Tryz.ntmps8
      go_wp2_with fail
      refine (HE.out _).mono ?_
      rintro e w1 ⟨v1, rfl, hv1, hx1⟩
      rw [HEZ.out]
      clear hv1
      obtain ⟨cap, w3, hcv, hx3, hs3, hby⟩ := conv_bytes2 s w1
      obtain ⟨g1, g2⟩ := hby i HIN.out
      rw [HC.out] at g1
      unfold encB at g1
      have HBY := Lib.hid hby
      clear hby
      have hx13 := hx1.trans hx3
      have hcv4 : (convert 40 9 (.slice (some ⟨w1.heap.size, 0, none⟩) s.size cap)).run Tryz.prog (w3.setCell ⟨w1.heap.size, i, none⟩ (.int .u8 (48 + q))) = .ok (.string D2) (w3.setCell ⟨w1.heap.size, i, none⟩ (.int .u8 (48 + q))) := by
        have hD2l : D2.data.toList.length = s.size := by rw [len_data, HD2.out.2]
        have hsl : Sl (w3.setCell ⟨w1.heap.size, i, none⟩ (.int .u8 (48 + q))) (.slice (some ⟨w1.heap.size, 0, none⟩) s.size cap) (D2.data.toList.map encB) := by
          refine .inr ⟨w1.heap.size, 0, cap, by rw [List.length_map, hD2l], ?_, fun j hj => ?_⟩
          · have h10 : (w3.setCell ⟨w1.heap.size, i, none⟩ (.int .u8 (48 + q))).heap.size = w3.heap.size := by simp [World.setCell]
            omega
          · rw [List.length_map, hD2l] at hj
            have h1 := set_cells (v := .int .u8 (48 + q)) (f := fun j => encB (s.data.toList.getD j 0)) (fun j hj => by
              have := (HBY.out j hj).1
              rw [this, List.getD_eq_getElem?_getD, List.getElem?_eq_getElem (by rw [len_data]; exact hj)]; rfl) HIN.out j hj
            rw [Nat.zero_add, h1, List.getElem?_map, HD2.out.1, List.getElem?_set]
            by_cases hji : i = j
            · subst hji
              rw [if_pos rfl, if_pos rfl, if_pos (by rw [len_data]; exact hj)]
              simp only [Option.map_some]
              unfold encB
              rw [HY.out]
            · rw [if_neg (fun e => hji e.symm), if_neg hji, List.getD_eq_getElem?_getD, List.getElem?_eq_getElem (by rw [len_data]; exact hj)]; rfl
        have := run_convert_sl hsl
        rw [this, mk_toList]
      have HX4 := Lib.hid (Ext.setCell hx13 (p := ⟨w1.heap.size, i, none⟩) hx1.size (.int .u8 (48 + q)))
      go_wp2_with fail
      refine (HV3.out _).mono ?_
      rintro e w5 ⟨v5, rfl, hv5, hx5⟩
      dsimp only
      clear hv5
      go_wp2_with fail
      refine (HX.out _).mono ?_
      rintro e w6 ⟨rfl, hx6⟩
      go_wp2
      go_ret
      exact ⟨rfl, HX4.out.trans (hx5.trans hx6)⟩
    · obtain ⟨m, er, hr⟩ : ∃ m er, Ea.enc k s.data.toList (⟨#[]⟩ : ByteArray).data.toList = (m, er) := ⟨_, _, rfl⟩
      have hz1 : (er != 0) = true := bne_iff_ne.2 (by
        have h9 : (Ea.enc k s.data.toList []).2 = er := congrArg Prod.snd hr
        rw [← h9]; exact he)
      rw [hr] at HE
      clear hr he hA hk4
      go_enter Tryz.func8, Tryz.ntmps8
      go_wp2_with fail
      refine (HE.out _).mono ?_
      rintro e w1 ⟨v1, rfl, hv1, hx1⟩
      dsimp only
      clear hv1
      go_wp2_with fail
      refine (HX.out _).mono ?_
      rintro e w6 ⟨rfl, hx6⟩
      go_wp2
      go_ret
      exact ⟨rfl, hx1.trans hx6⟩
end Go.Proofs.YtfpliihglgjijaaGreat
