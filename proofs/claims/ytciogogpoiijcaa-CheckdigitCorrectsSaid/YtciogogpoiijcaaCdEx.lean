/-
  The examples of the chapter hold: 'exampleHolds' returns true in every world.
  No condition.
-/
import Derived.Test.YtciogogpoiijcaaCdW6
namespace Go.Proofs.Ytciogogpoiijcaa
open Go.RowKit Go.Sort

def hasB (ss : List (List UInt8)) (t : List UInt8) : Bool := ss.contains t
theorem hasB_at (ss : List (List UInt8)) (t : List UInt8) (i : Nat) (h : i < ss.length) (e : ss.getD i [] = t) : hasB ss t = true := by
  unfold hasB
  rw [List.contains_iff_mem]
  rw [List.getD_eq_getElem?_getD, List.getElem?_eq_getElem h] at e
  simp only [Option.getD_some] at e
  rw [← e]; exact List.getElem_mem _
theorem hasB_none (ss : List (List UInt8)) (t : List UInt8) (h : ∀ i, i < ss.length → ss.getD i [] ≠ t) : hasB ss t = false := by
  rw [Bool.eq_false_iff]
  intro hc
  unfold hasB at hc
  rw [List.contains_iff_mem] at hc
  obtain ⟨i, hi, e⟩ := List.mem_iff_getElem.1 hc
  exact h i hi (by rw [List.getD_eq_getElem?_getD, List.getElem?_eq_getElem hi]; exact e)

set_option maxHeartbeats 400000 in
theorem has_any (v : Value) (ss : List (List UInt8)) (t : ByteArray) (w : World) (hv : StrsAt w v ss) (hl : ss.length ≤ 1000000000) :
    Calls Try.prog 28 #[v, .string t] w fun e w' => e = .returned (.bool (hasB ss t.data.toList)) ∧ w = w' := by
  rcases hv with ⟨rfl, a, c, rfl⟩ | ⟨b, off, cap, rfl, hb, hc⟩
  · go_enter Try.func28, Try.ntmps28
    go_wp2
    go_loop [5] (fun i => i = .int .i64 0) (fun _ => 0)
    case atStart => rfl
    case round =>
      subst hrel
      go_wp2
      go_ret
      exact ⟨rfl, rfl⟩
  · have HC := Lib.hid hc
    clear hc
    go_enter Try.func28, Try.ntmps28
    go_wp2
    go_loop [5] (fun i => ∃ j : Nat, j ≤ ss.length ∧ i = .int .i64 (j : Int) ∧ Hid (∀ i, i < j → ss.getD i [] ≠ t.data.toList)) (fun i => ss.length - (intOf i).toNat)
    case atStart => exact ⟨0, Nat.zero_le _, rfl, fun i hi => by omega⟩
    case round =>
      obtain ⟨j, hj, rfl, hno⟩ := hrel
      by_cases hlt : j < ss.length
      · have hcell := HC.out j hlt
        by_cases he : ss.getD j [] = t.data.toList
        · have HR := Lib.hid (hasB_at ss t.data.toList j hlt he)
          have he' : (ss.getD j [] == t.toList) = true := by rw [Lib.toList_data, he]; simp
          generalize ss.getD j [] = x at *
          clear he
          go_wp2
          go_ret
          exact ⟨ret_bool HR.out.symm, rfl⟩
        · have HN : Hid (∀ i, i < j + 1 → ss.getD i [] ≠ t.data.toList) := fun i hi => by
            by_cases e : i = j
            · subst e; exact he
            · exact hno.out i (by omega)
          have he' : (ss.getD j [] == t.toList) = false := by rw [Lib.toList_data]; simpa using he
          generalize ss.getD j [] = x at *
          clear he
          go_wp2
          go_round
          case rel => exact ⟨j + 1, by omega, by go_num, HN⟩
          case measure => simp [intOf]; omega
      · obtain rfl : j = ss.length := by omega
        have HR := Lib.hid (hasB_none ss t.data.toList hno.out)
        clear hj hlt
        go_wp2
        go_ret
        exact ⟨ret_bool HR.out.symm, rfl⟩

set_option maxHeartbeats 400000 in
theorem gives_true (k : Int) (s t : ByteArray) (w : World) (hs : s.size ≤ 9223372036854775807) (h : Cd.compI k s.data.toList = (t.data.toList, 0)) :
    Calls Try.prog 31 #[.int .i64 k, .string s, .string t] w fun e w' => e = .returned (.bool true) ∧ Ext w w' := by
  have HC := Lib.hid (compute_any k s w hs)
  rw [h] at HC
  have ht : (t.data.toList == t.toList) = true := by rw [Lib.toList_data]; simp
  clear h
  dsimp only at HC
  rw [mk_toList] at HC
  have ht' : (t.toList == t.toList) = true := by simp
  go_enter Try.func31, Try.ntmps31
  go_wp2_with fail
  refine HC.out.mono ?_
  rintro e w1 ⟨rfl, hx1⟩
  go_wp2
  go_ret
  exact ⟨rfl, hx1⟩

theorem ex_cor : (Cd.cor 5 [53, 55, 52, 50]).2 = 0 ∧ hasB (Cd.cor 5 [53, 55, 52, 50]).1 [53, 55, 50, 52] = true ∧ (Cd.cor 5 [53, 55, 52, 50]).1.length ≤ 1000 := by
  have h1 : Cd.cor 5 [53, 55, 52, 50] = ((Cd.corTo 5 [53, 55, 52, 50] 4).mergeSort (fun x y => decide (x ≤ y)), 0) := by
    unfold Cd.cor
    rw [if_neg (by decide), if_neg (by decide), if_neg (by decide)]; rfl
  rw [h1]
  refine ⟨rfl, ?_, ?_⟩
  · unfold hasB
    rw [List.contains_iff_mem, List.mem_mergeSort]
    have : (Cd.corTo 5 [53, 55, 52, 50] 4).contains [53, 55, 50, 52] = true := by decide +kernel
    exact List.contains_iff_mem.1 this
  · rw [List.length_mergeSort]
    have := Cd.corTo_len 5 [53, 55, 52, 50] 4
    omega

set_option maxRecDepth 100000 in
set_option maxHeartbeats 2000000 in
theorem examples_any (w : World) :
    Calls Try.prog 12 #[] w fun e w' => e = .returned (.bool true) ∧ Ext w w' := by
  go_enter Try.func12, Try.ntmps12
  go_wp2_with fail
  refine (gives_true _ _ _ _ (by decide) (by decide +kernel)).mono ?_
  rintro e w1 ⟨rfl, hx1⟩
  go_wp2_with fail
  refine (gives_true _ _ _ _ (by decide) (by decide +kernel)).mono ?_
  rintro e w2 ⟨rfl, hx2⟩
  go_wp2_with fail
  refine (gives_true _ _ _ _ (by decide) (by decide +kernel)).mono ?_
  rintro e w3 ⟨rfl, hx3⟩
  go_wp2_with fail
  refine (gives_true _ _ _ _ (by decide) (by decide +kernel)).mono ?_
  rintro e w4 ⟨rfl, hx4⟩
  go_wp2_with fail
  refine (gives_true _ _ _ _ (by decide) (by decide +kernel)).mono ?_
  rintro e w5 ⟨rfl, hx5⟩
  go_wp2_with fail
  refine (gives_true _ _ _ _ (by decide) (by decide +kernel)).mono ?_
  rintro e w6 ⟨rfl, hx6⟩
  go_wp2_with fail
  refine (gives_true _ _ _ _ (by decide) (by decide +kernel)).mono ?_
  rintro e w7 ⟨rfl, hx7⟩
  go_wp2_with fail
  refine (gives_true _ _ _ _ (by decide) (by decide +kernel)).mono ?_
  rintro e w8 ⟨rfl, hx8⟩
  have hX8 := ((((((hx1.trans hx2).trans hx3).trans hx4).trans hx5).trans hx6).trans hx7).trans hx8
  clear hx1 hx2 hx3 hx4 hx5 hx6 hx7 hx8
  go_wp2_with fail
  refine (weighted_any _ _ [1, 3] 10 _ (by decide) (.inr ⟨w8.heap.size, 0, 2, rfl, by simp, ?_⟩) (by decide)).mono ?_
  · intro i hi
    match i, hi with
    | 0, _ => simp [go_sem]
    | 1, _ => simp [go_sem]
  rintro e w9 ⟨rfl, rfl⟩
  rw [show Cd.wsum (⟨#[49, 50, 51]⟩ : ByteArray).data.toList [1, 3] 10 = (0, 0) by decide +kernel]
  have hX9 := hX8.alloc (.cells #[.int .i64 1, .int .i64 3] 3)
  go_wp2_with fail
  refine (corr_any _ _ _ (by decide)).mono ?_
  rintro e w10 ⟨v, rfl, hown, hx10⟩
  obtain ⟨hc1, hc2, hc3⟩ := ex_cor
  have e5 : (⟨#[53, 55, 52, 50]⟩ : ByteArray).data.toList = [53, 55, 52, 50] := rfl
  rw [e5, hc1]
  rw [e5] at hown
  have HC2 := Lib.hid hc2
  have HX := hX9.trans hx10
  clear hc1 hc2 e5 hx10 hX9 hX8
  have HS := Lib.hid hown.strs
  generalize (Cd.cor 5 [53, 55, 52, 50]).1 = ss at *
  go_wp2_with fail
  refine (has_any v ss ⟨#[53, 55, 50, 52]⟩ _ HS.out (by omega)).mono ?_
  rintro e w11 ⟨rfl, rfl⟩
  rw [show hasB ss (⟨#[53, 55, 50, 52]⟩ : ByteArray).data.toList = true from HC2.out]
  go_wp2_with fail
  refine (verify_any _ _ _ (by decide)).mono ?_
  rintro e w12 ⟨rfl, hx12⟩
  rw [show Cd.verI 6 (⟨#[49, 50, 51, 50, 48]⟩ : ByteArray).data.toList = 0 by decide +kernel]
  go_wp2_with fail
  refine (verify_any _ _ _ (by decide)).mono ?_
  rintro e w13 ⟨rfl, hx13⟩
  rw [show Cd.verI 6 (⟨#[49, 50, 51, 50, 49]⟩ : ByteArray).data.toList = 8 by decide +kernel]
  go_wp2
  go_ret
  exact ⟨rfl, (HX.trans hx12).trans hx13⟩
end Go.Proofs.Ytciogogpoiijcaa
