/-
  Chapter 51: what a field is worth, what a sum rule says: the reference.
  No condition.
-/
import Derived.Test.YtkpfehfcgpapiaaGreatDoorFmXH
import Derived.Test.YtkpfehfcgpapiaaGreatDoorFmPa
namespace Go.Proofs.YtkpfehfcgpapiaaGreatDoor
set_option linter.unusedVariables false
open Go.RowKit

/-- A number field without an issue: its place, its value. -/
theorem Fm.num_ok {F : Fm.Frm} {vs : List Fm.S} (hc : Fm.check F = 0) (hl : vs.length = F.fields.length) {s : Fm.S} (h : s ∈ Fm.nums F.fields) (hw : s ∉ Fm.wrongGo F.fields vs) :
    ∃ i y, Fm.numIdx F.fields s = some i ∧ vs[i]? = some y ∧ (y.length = 0 ∨ Fm.written y = true) ∧ Fm.amt F.fields vs s = Fm.amtV y ∧ -1000000000000000 ≤ Fm.amtV y ∧ Fm.amtV y ≤ 1000000000000000 := by
  have hn := Fm.names_nodup hc
  unfold Fm.nums at h
  obtain ⟨f, hf, rfl⟩ := List.mem_map.1 h
  rw [List.mem_filter, beq_iff_eq] at hf
  obtain ⟨hf, h2⟩ := hf
  obtain ⟨i, hi⟩ := List.getElem?_of_mem hf
  obtain ⟨v, hv⟩ : ∃ v, vs[i]? = some v := ⟨_, List.getElem?_eq_getElem (by have := (List.getElem?_eq_some_iff.1 hi).1; omega)⟩
  have h0 : Fm.value f v = 0 := by
    by_cases h0 : Fm.value f v = 0
    · exact h0
    · exact absurd ((Fm.wrong_at hl hn hi hv).2 h0) hw
  have hix := Fm.numIdx_at hn hi h2
  have ha : Fm.amt F.fields vs f.name = Fm.amtV v := by
    unfold Fm.amt
    rw [hix, Option.getD_some, List.getD_eq_getElem?_getD, hv]; rfl
  refine ⟨i, v, hix, hv, ?_, ha, ?_⟩
  · by_cases h3 : v.length = 0
    · exact .inl h3
    · exact .inr (Fm.right_cap h2 h0 h3).1
  · unfold Fm.amtV
    by_cases h3 : v.length = 0
    · rw [if_pos h3]; omega
    · rw [if_neg h3]
      obtain ⟨a, b⟩ := Fm.num_in h2 h0 h3
      rw [(Fm.capOf_in v a b).2]
      exact ⟨a, b⟩
theorem Fm.fold_bd {am : Fm.S → Int} : ∀ (ps : List Fm.S) (t : Int), (∀ p ∈ ps, -1000000000000000 ≤ am p ∧ am p ≤ 1000000000000000) →
    t - 1000000000000000 * (ps.length : Int) ≤ ps.foldl (fun n p => n - am p) t ∧ ps.foldl (fun n p => n - am p) t ≤ t + 1000000000000000 * (ps.length : Int)
  | [], t, _ => by simp
  | p :: ps, t, h => by
    have h1 := h p (List.mem_cons_self ..)
    have h2 := Fm.fold_bd ps (t - am p) fun q hq => h q (List.mem_cons_of_mem _ hq)
    rw [List.foldl_cons, List.length_cons]
    omega
theorem numI_at {fs : List Fm.Fld} {s : Fm.S} {i : Nat} (h : Fm.numIdx fs s = some i) : numI fs s = (i : Int) := by unfold numI; rw [h]

set_option maxRecDepth 100000 in
set_option maxHeartbeats 1000000 in
theorem xamount_any (NM : ByteArray) (a : Option Addr) (n c : Nat) (a2 : Option Addr) (n2 c2 : Nat) (fs : List Fm.Fld) (va : Option Addr) (vn vc : Nat) (vs : List Fm.S) (s : ByteArray) (i : Nat) (y : Fm.S) (w : World) (hf : FldsR w (.slice a n c) fs) (hn : n ≤ 9223372036854775807)
    (hv : StrsR w (.slice va vn vc) vs) (hsv : Short Go.maxLen vs) (hvn : vn ≤ 1000000) (hi : Fm.numIdx fs s.data.toList = some i) (hy : vs[i]? = some y) (hw : y.length = 0 ∨ Fm.written y = true) :
    Calls Tryz.prog 96 #[.agg #[.string NM, .slice a n c, .slice a2 n2 c2], .slice va vn vc, .string s] w fun e w' => e = .returned (.int .i64 (Fm.amtV y)) ∧ Ext w w' := by
  obtain ⟨a', c', he, _⟩ := hv.form
  injection he with e1 e5 e3
  subst e1 e3
  have hil := (List.getElem?_eq_some_iff.1 hy).1
  rw [← e5] at hil
  have hys := hsv _ (List.mem_of_getElem? hy)
  obtain ⟨b, o, Y, ha, hb, rfl, d0⟩ := hv.here (Ext.refl w) hy
  subst ha
  have hYs : Y.size ≤ 9223372036854775807 := by rw [len_data] at hys; unfold Go.maxLen at hys; omega
  have HNUM := Lib.hid (fun (w' : World) (hx : Ext w w') => xnumber_any NM a n c a2 n2 c2 fs s w' (hf.ext hx) hn)
  rw [numI_at hi] at HNUM
  have hilI : (i : Int) < (vn : Int) := by omega
  obtain ⟨V, hV⟩ : ∃ V, V = w.alloc (.cells #[.string NM, .slice a n c, .slice a2 n2 c2] 25) := ⟨_, rfl⟩
  have hxV : Ext w V := by rw [hV]; exact (Ext.refl w).alloc _
  have HNV := Lib.hid (HNUM.out V hxV)
  have HDV : Hid (∀ w', Ext V w' → w'.cell? ⟨b, o + i, none⟩ = some (.string Y)) := Lib.hid fun w' hx => ((hxV.trans hx).cell (p := ⟨b, o + i, none⟩) hb).trans d0
  have HVE := Lib.hid hV
  have HXV := Lib.hid hxV
  have HINT := Lib.hid (fun (h : Fm.written Y.data.toList = true) (w' : World) => xinteger_any Y hYs h w')
  have hem := empty_is (rfl : Y.data.toList = Y.data.toList)
  rw [len_data] at hem
  have HR := Lib.hid (Fm.amtV.eq_1 Y.data.toList)
  rw [len_data] at hw HR
  generalize Fm.amtV Y.data.toList = res at *
  have HW := Lib.hid hw
  clear hf hv hsv hi hy hys hw e5 hV hxV HNUM d0
  by_cases h0 : Y.size = 0
  · rw [decide_eq_true h0] at hem
    rw [if_pos h0] at HR
    clear h0
    go_enter Tryz.func96, Tryz.ntmps96
    go_wp2_with fail
    rw [← HVE.out]
    refine HNV.out.mono ?_
    rintro e w1 ⟨rfl, hx1⟩
    have d1 := HDV.out w1 hx1
    have hxw := HXV.out.trans hx1
    go_wp2_with fail
    go_ret
    exact ⟨ret_int HR.out.symm, hxw⟩
  rw [decide_eq_false h0] at hem
  rw [if_neg h0] at HR
  have HINT := Lib.hid (HINT.out (HW.out.resolve_left h0))
  clear h0
  go_enter Tryz.func96, Tryz.ntmps96
  go_wp2_with fail
  rw [← HVE.out]
  refine HNV.out.mono ?_
  rintro e w1 ⟨rfl, hx1⟩
  have d1 := HDV.out w1 hx1
  have hxw := HXV.out.trans hx1
  go_wp2_with fail
  refine (HINT.out _).mono ?_
  rintro e w3 ⟨rfl, hx3⟩
  go_wp2_with fail
  go_ret
  exact ⟨ret_int HR.out.symm, hxw.trans hx3⟩

/-- A name of a number field whose value stands. -/
def NumOk (fs : List Fm.Fld) (vs : List Fm.S) (s : Fm.S) : Prop := ∃ i y, Fm.numIdx fs s = some i ∧ vs[i]? = some y ∧ (y.length = 0 ∨ Fm.written y = true) ∧ Fm.amt fs vs s = Fm.amtV y ∧ -1000000000000000 ≤ Fm.amtV y ∧ Fm.amtV y ≤ 1000000000000000

set_option maxRecDepth 100000 in
set_option maxHeartbeats 1000000 in
theorem xadds_any (NM : ByteArray) (a : Option Addr) (n c : Nat) (a2 : Option Addr) (n2 c2 : Nat) (fs : List Fm.Fld) (va : Option Addr) (vn vc : Nat) (vs : List Fm.S) (T : ByteArray) (pa : Option Addr) (pn pc : Nat) (l : List Fm.S) (w : World) (hf : FldsR w (.slice a n c) fs) (hn : n ≤ 9223372036854775807)
    (hv : StrsR w (.slice va vn vc) vs) (hsv : Short Go.maxLen vs) (hvn : vn ≤ 1000000) (hl : StrsR w (.slice pa pn pc) l) (hp : pn ≤ 1000) (hT : NumOk fs vs T.data.toList) (hP : ∀ p ∈ l, NumOk fs vs p) :
    Calls Tryz.prog 60 #[.agg #[.string NM, .slice a n c, .slice a2 n2 c2], .slice va vn vc, .agg #[.string T, .slice pa pn pc]] w fun e w' => e = .returned (.bool (Fm.addsX fs vs ⟨T.data.toList, l⟩ == 0)) ∧ Ext w w' := by
  obtain ⟨a', c', he, _⟩ := hl.form
  injection he with e1 e5 e3
  subst e1 e3
  have HL := Lib.hid hl
  have HN := Lib.hid e5.symm
  obtain ⟨am, ham⟩ : ∃ am, am = Fm.amt fs vs := ⟨_, rfl⟩
  have hAM : ∀ (p : ByteArray), NumOk fs vs p.data.toList → (∀ w', Ext w w' → Calls Tryz.prog 96 #[.agg #[.string NM, .slice a n c, .slice a2 n2 c2], .slice va vn vc, .string p] w' fun e w'' => e = .returned (.int .i64 (am p.data.toList)) ∧ Ext w' w'') ∧ -1000000000000000 ≤ am p.data.toList ∧ am p.data.toList ≤ 1000000000000000 := by
    rintro p ⟨i, y, h1, h2, h3, h4, h5⟩
    subst ham
    rw [h4]
    exact ⟨fun w' hx => xamount_any NM a n c a2 n2 c2 fs va vn vc vs p i y w' (hf.ext hx) hn (hv.ext hx) hsv hvn h1 h2 h3, h5⟩
  have HPB : Hid (∀ p ∈ l, -1000000000000000 ≤ am p ∧ am p ≤ 1000000000000000) := Lib.hid fun p hp => by
    have := (hAM ⟨p.toArray⟩ (hP p hp)).2
    exact this
  have HPC : Hid (∀ p : ByteArray, p.data.toList ∈ l → ∀ w', Ext w w' → Calls Tryz.prog 96 #[.agg #[.string NM, .slice a n c, .slice a2 n2 c2], .slice va vn vc, .string p] w' fun e w'' => e = .returned (.int .i64 (am p.data.toList)) ∧ Ext w' w'') := Lib.hid fun p hp => (hAM p (hP _ hp)).1
  obtain ⟨hT1, hT2⟩ := hAM T hT
  have HTC := Lib.hid hT1
  have hres : Fm.addsX fs vs ⟨T.data.toList, l⟩ = l.foldl (fun n p => n - am p) (am T.data.toList) := by subst ham; rfl
  rw [hres]
  generalize am T.data.toList = t0 at *
  obtain ⟨V, hV⟩ : ∃ V, V = ((w.alloc (.cells #[.string NM, .slice a n c, .slice a2 n2 c2] 25)).alloc (.cells #[.string T, .slice pa pn pc] 56)) := ⟨_, rfl⟩
  have hxV : Ext w V := by rw [hV]; exact ((Ext.refl w).alloc _).alloc _
  have HKV : Hid (∀ w', Ext V w' → w'.cell? ⟨w.heap.size, 0, none⟩ = some (.string NM) ∧ w'.cell? ⟨w.heap.size, 1, none⟩ = some (.slice a n c) ∧ w'.cell? ⟨w.heap.size, 2, none⟩ = some (.slice a2 n2 c2) ∧ w'.cell? ⟨w.heap.size + 1, 0, none⟩ = some (.string T) ∧ w'.cell? ⟨w.heap.size + 1, 1, none⟩ = some (.slice pa pn pc) ∧ w.heap.size + 2 ≤ w'.heap.size) := Lib.hid (fun w' hx => kept32 (by rw [hV] at hx; exact hx))
  have HT1 := Lib.hid (HTC.out V hxV)
  have HVE := Lib.hid hV
  have HXV := Lib.hid hxV
  clear hf hv hsv hl hT hP e5 ham hAM hT1 hres hV hxV HTC
  go_enter Tryz.func60, Tryz.ntmps60
  go_wp2_with fail
  rw [← HVE.out]
  refine HT1.out.mono ?_
  rintro e w1 ⟨rfl, hx1⟩
  have HX1 := Lib.hid hx1
  clear hx1
  go_wp2_with fail
  go_loopw [7, 8] (fun m t wr => ∃ (k : Nat) (z : Int), k ≤ pn ∧ t = .int .i64 (k : Int) ∧ m = .int .i64 z ∧ Hid (z = (l.take k).foldl (fun n p => n - am p) t0) ∧ Hid (Ext V wr)) (fun _ t _ => pn - (intOf t).toNat)
  case atStart => exact ⟨0, t0, Nat.zero_le _, rfl, rfl, Lib.hid rfl, HX1⟩
  case round =>
    obtain ⟨k, z, hk, rfl, rfl, HZ, HX⟩ := hrel
    have hxw : Ext w wr := HXV.out.trans HX.out
    obtain ⟨k0, k1, k2, k3, k4, ksz⟩ := HKV.out wr HX.out
    have hzb : -1001000000000000000 ≤ z ∧ z ≤ 1001000000000000000 := by
      have h1 := Fm.fold_bd (am := am) (l.take k) t0 (fun p hp => HPB.out p (List.mem_of_mem_take hp))
      rw [← HZ.out] at h1
      have h2 : (l.take k).length ≤ 1000 := by rw [List.length_take]; have := HN.out; omega
      omega
    by_cases hlt : k < pn
    · obtain ⟨x, hxk⟩ : ∃ x, l[k]? = some x := ⟨_, List.getElem?_eq_getElem (by rw [HN.out]; exact hlt)⟩
      obtain ⟨bb, off, X, ha, hb, rfl, c0⟩ := HL.out.here hxw hxk
      subst ha
      have hbr : bb < wr.heap.size := Nat.lt_of_lt_of_le hb hxw.size
      have hmem := List.mem_of_getElem? hxk
      have HC := Lib.hid (HPC.out X hmem)
      have hxb := HPB.out _ hmem
      have HZ2 : Hid (z - am X.data.toList = (l.take (k + 1)).foldl (fun n p => n - am p) t0) := Lib.hid (by rw [snoc_take hxk, List.foldl_append, ← HZ.out]; rfl)
      have hki : (k : Int) < (pn : Int) := by omega
      have q0 := ahead_cell k0 (show w.heap.size < wr.heap.size by omega)
      have q1 := ahead_cell k1 (show w.heap.size < wr.heap.size by omega)
      have q2 := ahead_cell k2 (show w.heap.size < wr.heap.size by omega)
      have q4 := ahead_cell k4 (show w.heap.size + 1 < wr.heap.size by omega)
      have q5 := ahead_cell c0 hbr
      generalize am X.data.toList = u at *
      clear hmem hxk
      go_wp2_with fail
      refine wp_region_quiet (C := fun w' => ∃ x : Ahead wr, w' = x.at') (by kernel_rfl) (by kernel_rfl) (Ahead.drawn _) ?_
      try dsimp only
      repeat (first | go_big_quiet_step (exact ahead_of (HC.out _ (hxw.trans (Ahead.ext _)))) | quiet_step (exact ahead_of (HC.out _ (hxw.trans (Ahead.ext _)))))
      refine wpQuiet_nil ?_
      intro _ hx0
      obtain ⟨x0, hx0⟩ := hx0
      subst hx0
      obtain ⟨w2, hx2⟩ := x0
      try dsimp only
      have HX2 := Lib.hid (HX.out.trans hx2)
      clear q0 q1 q2 q4 q5 c0 k0 k1 k2 k3 k4 hx2 hxw
      go_wp2_with fail
      go_roundw
      case rel => exact ⟨k + 1, z - u, by omega, by go_num, rfl, HZ2, HX2⟩
      case measure => (simp [intOf]; try omega)
    · obtain rfl : k = pn := by omega
      have HF : Hid (z = l.foldl (fun n p => n - am p) t0) := Lib.hid (by have h := HZ.out; rw [List.take_of_length_le (by rw [HN.out]; exact Nat.le_refl _)] at h; exact h)
      clear hlt hk
      go_wp2_with fail
      go_ret
      exact ⟨ret_bool (by rw [HF.out]), hxw⟩
end Go.Proofs.YtkpfehfcgpapiaaGreatDoor
