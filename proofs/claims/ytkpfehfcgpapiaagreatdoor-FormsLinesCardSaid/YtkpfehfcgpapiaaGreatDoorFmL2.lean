/-
  The law FormsLines, walked.
  Condition: the listed variables are there; the examples hold.
-/
import Derived.Test.YtkpfehfcgpapiaaGreatDoorFmLa
import Derived.Test.YtkpfehfcgpapiaaGreatDoorFmVd
import Derived.Test.YtkpfehfcgpapiaaGreatDoorFmPa
import Derived.Test.YtkpfehfcgpapiaaGreatDoorFmXa
namespace Go.Proofs.YtkpfehfcgpapiaaGreatDoor
set_option linter.unusedVariables false
open Go.RowKit

def Fm.lnAll (fs : List Fm.Fld) (vs : List Fm.S) : List Fm.S := (List.range vs.length).reverse.map fun i => Fm.lnS (fs.getD i ⟨[], 0, 0, 0, 0, [], false⟩) (vs.getD i [])
theorem Fm.lnAll_len (fs : List Fm.Fld) (vs : List Fm.S) : (Fm.lnAll fs vs).length = vs.length := by unfold Fm.lnAll; simp
theorem Fm.lnAll_at {fs : List Fm.Fld} {vs : List Fm.S} {k j : Nat} {f : Fm.Fld} {v : Fm.S} (h : k + j + 1 = vs.length) (hf : fs[j]? = some f) (hv : vs[j]? = some v) : (Fm.lnAll fs vs)[k]? = some (Fm.lnS f v) := by
  unfold Fm.lnAll
  rw [List.getElem?_map, List.getElem?_reverse (by simp; omega), List.length_range, show vs.length - 1 - k = j by omega, List.getElem?_range (by omega)]
  simp only [Option.map_some, List.getD_eq_getElem?_getD, hf, hv, Option.getD_some]
/-- What is known of a value that was read. -/
def Fm.fitV (v : Fm.S) : Prop := v.length ≤ 50 ∧ Fm.Tidy v
theorem Fm.tidy_of {v : ByteArray} (h0 : v.size ≤ 50) (h : v.size = 0 ∨ ∃ hp : 0 < v.size, v[0] ≠ 32 ∧ v[v.size - 1] ≠ 32) : Fm.fitV v.data.toList := by
  refine ⟨by rw [len_data]; exact h0, ?_⟩
  rcases h with h | ⟨hp, h1, h2⟩
  · have : v.data.toList = [] := List.eq_nil_of_length_eq_zero (by rw [len_data]; exact h)
    rw [this]; exact ⟨by simp, by simp⟩
  · refine ⟨?_, ?_⟩
    · rw [List.head?_eq_getElem?, List.getElem?_eq_getElem (by rw [len_data]; exact hp)]
      intro e; injection e with e; exact h1 e
    · rw [List.getLast?_eq_getElem?, len_data, List.getElem?_eq_getElem (by rw [len_data]; omega)]
      intro e; injection e with e; exact h2 e
set_option maxRecDepth 100000 in
set_option maxHeartbeats 8000000 in
theorem law_lines (NM : ByteArray) (a : Option Addr) (n c : Nat) (a2 : Option Addr) (n2 c2 : Nat) (fs : List Fm.Fld) (ss : List Fm.Sm) (va : Option Addr) (vn vc : Nat) (vs : List Fm.S) (w : World) (hf : FldsR w (.slice a n c) fs) (hm : SumsR w (.slice a2 n2 c2) ss) (hB : ∀ f ∈ fs, FldB f) (hM : ∀ r ∈ ss, SmB r)
    (hv : StrsR w (.slice va vn vc) vs) (hvb0 : vs.length ≤ Go.maxLen) (hE : Errs w) (hP : Pow w) (hX : ExH) :
    Calls Tryz.prog 13 #[.agg #[.string NM, .slice a n c, .slice a2 n2 c2], .slice va vn vc] w fun e w' => e = .returned (.bool true) ∧ Ext w w' := by
  obtain ⟨a', c', he⟩ := hf.form
  injection he with e1 e2 e3
  subst e1 e3
  obtain ⟨a', c', he⟩ := hm.form
  injection he with e1 e4 e3
  subst e1 e3
  obtain ⟨a', c', he, _⟩ := hv.form
  injection he with e1 e5 e3
  subst e1 e3
  have hvb : vn ≤ 9223372036854775807 := by unfold Go.maxLen at hvb0; omega
  have HN := Lib.hid e2.symm
  have HN3 := Lib.hid e5.symm
  obtain ⟨V, hV⟩ : ∃ V, V = w.alloc (.cells #[.string NM, .slice a n c, .slice a2 n2 c2] 25) := ⟨_, rfl⟩
  have hxV : Ext w V := by rw [hV]; exact (Ext.refl w).alloc _
  have hzV : V.heap.size = w.heap.size + 1 := by rw [hV]; simp
  have HRV : Hid (V.heap[w.heap.size]? = some (.cells #[.string NM, .slice a n c, .slice a2 n2 c2] 25 (0, 0))) := Lib.hid (by rw [hV]; exact heap_alloc_new w _)
  have HFEW := Lib.hid (few_any NM a n c a2 n2 c2 fs ss V (hf.ext hxV) (hm.ext hxV) hB hM)
  have HC := Lib.hid (fun (w' : World) (hx : Ext w w') => check_any NM a n c a2 n2 c2 fs ss w' (hf.ext hx) (hm.ext hx) hB hM)
  have HFL := Lib.hid (fun (w' : World) (hx : Ext w w') => fun va vn vc vs => fields_any NM a n c a2 n2 c2 fs ss va vn vc vs w' (hf.ext hx) (hm.ext hx) hB hM)
  have HF := Lib.hid hf
  have HV := Lib.hid hv
  have HE := Lib.hid hE
  have HP := Lib.hid hP
  have HEX := Lib.hid hX
  have HVE := Lib.hid hV
  have HXV := Lib.hid hxV
  clear hf hm hB hM e2 e4 e5 hv hE hP hX hV hxV
  go_enter Tryz.func13, Tryz.ntmps13
  go_wp2_with fail
  rw [← HVE.out]
  refine Calls.mono HFEW.out ?_
  rintro e w1 ⟨⟨b, rfl, -⟩, hx1⟩
  have hxw := HXV.out.trans hx1
  cases b with
  | false =>
    have HEXW := Lib.hid (HEX.out w1 (HE.out.ext hxw) (HP.out.ext hxw))
    go_wp2_with fail
    refine HEXW.out.mono ?_
    rintro e w9 ⟨rfl, hx9⟩
    go_wp2_with fail
    go_ret
    exact ⟨rfl, hxw.trans hx9⟩
  | true =>
  have r1 := row_on HRV.out hx1
  have k0 : w1.cell? ⟨w.heap.size, 0, none⟩ = some (.string NM) := cell_at r1 rfl
  have k1 : w1.cell? ⟨w.heap.size, 1, none⟩ = some (.slice a n c) := cell_at r1 rfl
  have k2 : w1.cell? ⟨w.heap.size, 2, none⟩ = some (.slice a2 n2 c2) := cell_at r1 rfl
  by_cases h60 : 60 < n
  · have z60 : (60 : Int) < (n : Int) := by omega
    clear r1 h60
    have HEXW := Lib.hid (HEX.out w1 (HE.out.ext hxw) (HP.out.ext hxw))
    go_wp2_with fail
    refine HEXW.out.mono ?_
    rintro e w9 ⟨rfl, hx9⟩
    go_wp2_with fail
    go_ret
    exact ⟨rfl, hxw.trans hx9⟩
  have z60 : ¬ (60 : Int) < (n : Int) := by omega
  have hn60 : n ≤ 60 := by omega
  by_cases hne : vn = n
  rotate_left
  · have zne : ((vn : Int) != (n : Int)) = true := by rw [bne_iff_ne]; omega
    clear r1 h60 hne
    have HEXW := Lib.hid (HEX.out w1 (HE.out.ext hxw) (HP.out.ext hxw))
    go_wp2_with fail
    refine HEXW.out.mono ?_
    rintro e w9 ⟨rfl, hx9⟩
    go_wp2_with fail
    go_ret
    exact ⟨rfl, hxw.trans hx9⟩
  subst hne
  have HCK := Lib.hid (HC.out w1 hxw)
  have HX1 := Lib.hid hxw
  have HXV1 := Lib.hid hx1
  clear r1 h60 hxw hx1
  go_wp2_with fail
  refine HCK.out.mono ?_
  rintro e w2 ⟨rfl, hx2⟩
  have hxw := HX1.out.trans hx2
  have HX2 := Lib.hid (HXV1.out.trans hx2)
  by_cases hc : Fm.check ⟨NM.data.toList, fs, ss⟩ = 0
  rotate_left
  · generalize Fm.check ⟨NM.data.toList, fs, ss⟩ = z at *
    have z0 : (z != 0) = true := bne_iff_ne.2 hc
    clear hc k0 k1 k2
    have HEXW := Lib.hid (HEX.out w2 (HE.out.ext hxw) (HP.out.ext hxw))
    go_wp2_with fail
    refine HEXW.out.mono ?_
    rintro e w9 ⟨rfl, hx9⟩
    go_wp2_with fail
    go_ret
    exact ⟨rfl, hxw.trans hx9⟩
  rw [hc]
  have HCZ := Lib.hid hc
  obtain ⟨LL, hLL⟩ : ∃ LL, LL = Fm.lnAll fs vs := ⟨_, rfl⟩
  have HLL := Lib.hid hLL
  clear hc k0 k1 k2 hx2 hLL
  obtain ⟨N, hN⟩ : ∃ N : Nat, N = vn := ⟨_, rfl⟩
  subst hN
  go_wp2_with fail
  go_loopw [5, 6] (fun v t wr => ∃ k : Nat, k ≤ N ∧ t = .int .i64 ((N : Int) - 1 - (k : Int)) ∧ Hid (OwnS wr (w.heap.size + 1) v (LL.take k)) ∧ Hid (∀ i u, N ≤ i + k → vs[i]? = some u → Fm.fitV u) ∧ Hid (Ext V wr)) (fun _ t _ => (intOf t + 1).toNat)
  case atStart => exact ⟨0, Nat.zero_le _, by go_num, Lib.hid (OwnS.nil _ _), Lib.hid (fun i u h1 h2 => by have := (List.getElem?_eq_some_iff.1 h2).1; have := HN3.out; omega), HX2⟩
  case round =>
    obtain ⟨k, hk, rfl, HO, HFIT, HX⟩ := hrel
    clear HX2
    have hxw : Ext w wr := HXV.out.trans HX.out
    by_cases hlt : k < N
    · obtain ⟨j, hj⟩ : ∃ j : Nat, k + j + 1 = N := ⟨N - 1 - k, by omega⟩
      have hjI : (N : Int) - 1 - (k : Int) = (j : Int) := by omega
      rw [hjI]
      obtain ⟨u, huj⟩ : ∃ u, vs[j]? = some u := ⟨_, List.getElem?_eq_getElem (by rw [HN3.out]; omega)⟩
      obtain ⟨f, hfj⟩ : ∃ f, fs[j]? = some f := ⟨_, List.getElem?_eq_getElem (by rw [HN.out]; omega)⟩
      obtain ⟨vb, vo, Y, hva, hvb', rfl, d0⟩ := HV.out.here hxw huj
      subst hva
      obtain ⟨b, o, X, op, mn, mx, ck, la, ln, lc, l, opt, ha, hb, rfl, -, c0, -, -, -, -, -, -⟩ := HF.out.here hxw hfj
      subst ha
      have hjn : (j : Int) < (N : Int) := by omega
      have hj0 : (0 : Int) ≤ (j : Int) := by omega
      have r1 := row_on HRV.out HX.out
      have k1 : wr.cell? ⟨w.heap.size, 1, none⟩ = some (.slice (some ⟨b, o, none⟩) N c) := cell_at r1 rfl
      have hln := Fm.lnAll_at (k := k) (by rw [HN3.out]; exact hj) hfj huj
      rw [← HLL.out] at hln
      have hXs : X.size ≤ 20 := by have := Fm.name_len ((Fm.valid_of HCZ.out).flds _ (List.mem_of_getElem? hfj)).1; rw [len_data] at this; exact this
      by_cases h50 : 50 < Y.size
      · have z50 : (50 : Int) < (Y.size : Int) := by omega
        clear hln hfj huj r1 h50 k1 c0 hXs
        have HEXW := Lib.hid (HEX.out wr (HE.out.ext hxw) (HP.out.ext hxw))
        go_wp2_with fail
        refine HEXW.out.mono ?_
        rintro e w9 ⟨rfl, hx9⟩
        go_wp2_with fail
        go_ret
        exact ⟨rfl, hxw.trans hx9⟩
      have z50 : ¬ (50 : Int) < (Y.size : Int) := by omega
      by_cases hy0 : Y.size = 0
      · have z0 : decide (0 < Y.size) = false := decide_eq_false (by omega)
        obtain ⟨T, hT⟩ : ∃ T : ByteArray, T = X ++ ⟨#[58, 32]⟩ ++ Y := ⟨_, rfl⟩
        have hTl : T.data.toList = Fm.lnS ⟨X.data.toList, op, mn, mx, ck, l, opt⟩ Y.data.toList := by rw [hT]; simp [Fm.lnS]
        have hTr : X ++ ⟨#[58, 32]⟩ ++ Y = T := hT.symm
        have HTK : Hid (LL.take (k + 1) = LL.take k ++ [T.data.toList]) := Lib.hid (by rw [hTl]; exact snoc_take hln)
        have HF1 : Hid (∀ i u, N ≤ i + (k + 1) → vs[i]? = some u → Fm.fitV u) := Lib.hid (fun i u h1 h2 => by
          by_cases hij : i = j
          · subst hij
            rw [huj] at h2
            injection h2 with h2
            subst h2
            exact Fm.tidy_of (by omega) (.inl hy0)
          · exact HFIT.out i u (by omega) h2)
        have hown := HO.out
        have hlow : w.heap.size < wr.heap.size := by have := HX.out.size; omega
        have hkl : (LL.take k).length ≤ 60 := by rw [List.length_take]; omega
        clear hln hfj huj r1 hT hTl HFIT HO hy0
        go_wp2_with (at_builtin; refine wpList_append_str rfl _ _ rfl (w.heap.size + 1) _ _ rfl (hown.alloc _) T _ rfl ?c1 ?c2 ?c3 ?_)
        case c2 => first | omega | (simp; omega)
        case c3 => first | omega | (simp; omega)
        intro v' w5 hown5 hg5
        have HX5 := Lib.hid ((HX.out.alloc (.cells #[.string T] 9)).ofGrown hg5 (fun q hq => by have := hown.low q hq; omega))
        have HO5 : Hid (OwnS w5 (w.heap.size + 1) v' (LL.take (k + 1))) := Lib.hid (by rw [HTK.out]; exact hown5)
        clear hown5 hg5 hown
        go_wp2_with fail
        go_roundw
        case rel => exact ⟨k + 1, by omega, by rw [show (j : Int) - 1 = (N : Int) - 1 - ((k + 1 : Nat) : Int) by omega], HO5, HF1, HX5⟩
        case measure => (simp [intOf]; try omega)
      have z0 : decide (0 < Y.size) = true := decide_eq_true (by omega)
      have hp : 0 < Y.size := by omega
      obtain ⟨p, hpp⟩ : ∃ p : Nat, Y.size - 1 = p := ⟨_, rfl⟩
      have epI : (Y.size : Int) - 1 = (p : Int) := by omega
      have hpl : p < Y.size := by omega
      have hplI : (p : Int) < (Y.size : Int) := by omega
      obtain ⟨y0, hy0'⟩ : ∃ y : Nat, Y[0].toNat = y := ⟨_, rfl⟩
      obtain ⟨y1, hy1'⟩ : ∃ y : Nat, Y[p].toNat = y := ⟨_, rfl⟩
      by_cases hb0 : y0 = 32
      · have z1 : ((y0 : Int) == 32) = true := by rw [hb0]; rfl
        clear hln hfj huj r1 k1 c0 hXs hb0 hpp h50 hy0
        have HEXW := Lib.hid (HEX.out wr (HE.out.ext hxw) (HP.out.ext hxw))
        go_wp2_with fail
        refine HEXW.out.mono ?_
        rintro e w9 ⟨rfl, hx9⟩
        go_wp2_with fail
        go_ret
        exact ⟨rfl, hxw.trans hx9⟩
      have z1 : ((y0 : Int) == 32) = false := by rw [beq_eq_false_iff_ne]; omega
      by_cases hb1 : y1 = 32
      · have z2 : ((y1 : Int) == 32) = true := by rw [hb1]; rfl
        clear hln hfj huj r1 k1 c0 hXs hb0 hb1 hpp h50 hy0
        have HEXW := Lib.hid (HEX.out wr (HE.out.ext hxw) (HP.out.ext hxw))
        go_wp2_with fail
        refine HEXW.out.mono ?_
        rintro e w9 ⟨rfl, hx9⟩
        go_wp2_with fail
        go_ret
        exact ⟨rfl, hxw.trans hx9⟩
      have z2 : ((y1 : Int) == 32) = false := by rw [beq_eq_false_iff_ne]; omega
      obtain ⟨T, hT⟩ : ∃ T : ByteArray, T = X ++ ⟨#[58, 32]⟩ ++ Y := ⟨_, rfl⟩
      have hTl : T.data.toList = Fm.lnS ⟨X.data.toList, op, mn, mx, ck, l, opt⟩ Y.data.toList := by rw [hT]; simp [Fm.lnS]
      have hTr : X ++ ⟨#[58, 32]⟩ ++ Y = T := hT.symm
      have HTK : Hid (LL.take (k + 1) = LL.take k ++ [T.data.toList]) := Lib.hid (by rw [hTl]; exact snoc_take hln)
      have HF1 : Hid (∀ i u, N ≤ i + (k + 1) → vs[i]? = some u → Fm.fitV u) := Lib.hid (fun i u h1 h2 => by
        by_cases hij : i = j
        · subst hij
          rw [huj] at h2
          injection h2 with h2
          subst h2
          exact Fm.tidy_of (by omega) (.inr ⟨hp, fun e => hb0 (by rw [← hy0', e]; rfl), fun e => hb1 (by rw [← hy1']; subst hpp; rw [e]; rfl)⟩)
        · exact HFIT.out i u (by omega) h2)
      have hown := HO.out
      have hlow : w.heap.size < wr.heap.size := by have := HX.out.size; omega
      have hkl : (LL.take k).length ≤ 60 := by rw [List.length_take]; omega
      clear hln hfj huj r1 hT hTl HFIT HO hb0 hb1 hpp
      go_wp2_with (at_builtin; refine wpList_append_str rfl _ _ rfl (w.heap.size + 1) _ _ rfl (hown.alloc _) T _ rfl ?d1 ?d2 ?d3 ?_)
      case d2 => first | omega | (simp; omega)
      case d3 => first | omega | (simp; omega)
      intro v' w5 hown5 hg5
      have HX5 := Lib.hid ((HX.out.alloc (.cells #[.string T] 9)).ofGrown hg5 (fun q hq => by have := hown.low q hq; omega))
      have HO5 : Hid (OwnS w5 (w.heap.size + 1) v' (LL.take (k + 1))) := Lib.hid (by rw [HTK.out]; exact hown5)
      clear hown5 hg5 hown
      go_wp2_with fail
      go_roundw
      case rel => exact ⟨k + 1, by omega, by rw [show (j : Int) - 1 = (N : Int) - 1 - ((k + 1 : Nat) : Int) by omega], HO5, HF1, HX5⟩
      case measure => (simp [intOf]; try omega)
    · obtain rfl : k = N := by omega
      have hO := HO.out
      rw [List.take_of_length_le (by rw [HLL.out, Fm.lnAll_len, HN3.out]; exact Nat.le_refl _)] at hO
      have hst := own_strs hO
      obtain ⟨la, lc, rfl, -⟩ := hst.form
      have hLN : LL.length = k := by rw [HLL.out, Fm.lnAll_len, HN3.out]
      rw [hLN] at hst ⊢
      have htidy : ∀ u ∈ vs, Fm.fitV u := fun u hu => by
        obtain ⟨i, hi⟩ := List.getElem?_of_mem hu
        exact HFIT.out i u (by omega) hi
      have hres : Fm.fields ⟨NM.data.toList, fs, ss⟩ LL = (vs, 0) := by rw [HLL.out]; exact Fm.fields_lines HCZ.out (by rw [HN3.out]; exact HN.out.symm) (fun u hu => (htidy u hu).2)
      have hshort : Short 1000000 LL := by
        rw [HLL.out]
        intro s hs
        unfold Fm.lnAll at hs
        obtain ⟨i, hi, rfl⟩ := List.mem_map.1 hs
        rw [List.mem_reverse, List.mem_range] at hi
        obtain ⟨u, hui⟩ : ∃ u, vs[i]? = some u := ⟨_, List.getElem?_eq_getElem hi⟩
        obtain ⟨f, hfi⟩ : ∃ f, fs[i]? = some f := ⟨_, List.getElem?_eq_getElem (by rw [HN.out, ← HN3.out]; exact hi)⟩
        have h1 := (htidy u (List.mem_of_getElem? hui)).1
        have h2 := Fm.name_len ((Fm.valid_of HCZ.out).flds _ (List.mem_of_getElem? hfi)).1
        simp only [List.getD_eq_getElem?_getD, hfi, hui, Option.getD_some, Fm.lnS, List.length_append, List.length_cons, List.length_nil]
        omega
      have HFLD := HFL.out wr hxw la k lc LL hst hshort (by omega)
      rw [hres] at HFLD
      have HFLDS := Lib.hid HFLD
      have r1 := row_on HRV.out HX.out
      have k0 : wr.cell? ⟨w.heap.size, 0, none⟩ = some (.string NM) := cell_at r1 rfl
      have k1 : wr.cell? ⟨w.heap.size, 1, none⟩ = some (.slice a k c) := cell_at r1 rfl
      have k2 : wr.cell? ⟨w.heap.size, 2, none⟩ = some (.slice a2 n2 c2) := cell_at r1 rfl
      clear hO hst hLN htidy hres hshort HFLD r1 HFIT HO
      go_wp2_with fail
      refine HFLDS.out.mono ?_
      intro e w3 he3
      obtain ⟨v3, rfl, hs3, hx3⟩ := he3
      obtain ⟨a3, c3, rfl, -⟩ := hs3.form
      rw [HN3.out] at hs3 ⊢
      have HSL := Lib.hid (sameList_any _ _ vs w3 hs3 (HV.out.ext (hxw.trans hx3)) (by rw [HN3.out]; omega))
      have HXW := Lib.hid (hxw.trans hx3)
      clear k0 k1 k2 hs3 hx3 hxw
      go_wp2_with fail
      refine HSL.out.mono ?_
      rintro e w4 ⟨rfl, hx4⟩
      have hxw := HXW.out.trans hx4
      have HEXW := Lib.hid (HEX.out w4 (HE.out.ext hxw) (HP.out.ext hxw))
      go_wp2_with fail
      refine HEXW.out.mono ?_
      rintro e w9 ⟨rfl, hx9⟩
      go_wp2_with fail
      go_ret
      exact ⟨rfl, hxw.trans hx9⟩
end Go.Proofs.YtkpfehfcgpapiaaGreatDoor
