/-
  Chapter 51, the laws: equal forms are equal.
  No condition.
-/
import Derived.Test.YtkpfehfcgpapiaaGreatDoorFmLa
import Derived.Deep.Cut
namespace Go.Proofs.YtkpfehfcgpapiaaGreatDoor
set_option linter.unusedVariables false
open Go.RowKit

set_option maxRecDepth 100000 in
set_option maxHeartbeats 4000000 in
theorem sameForm_any (NM : ByteArray) (a b : Option Addr) (n m c d : Nat) (a2 b2 : Option Addr) (n2 m2 c2 d2 : Nat) (fs : List Fm.Fld) (ss : List Fm.Sm) (w : World) (hf : FldsR w (.slice a n c) fs) (hm : SumsR w (.slice a2 n2 c2) ss) (hf' : FldsR w (.slice b m d) fs) (hm' : SumsR w (.slice b2 m2 d2) ss) (hB : ∀ f ∈ fs, FldB f) (hM : ∀ r ∈ ss, SmB r) (hn : fs.length ≤ 1000000) (hn2 : ss.length ≤ 1000000) :
    Calls Tryz.prog 32 #[.agg #[.string NM, .slice a n c, .slice a2 n2 c2], .agg #[.string NM, .slice b m d, .slice b2 m2 d2]] w fun e w' => e = .returned (.bool true) ∧ Ext w w' := by
  obtain ⟨a', c', he⟩ := hf.form
  injection he with e1 e2 e3
  subst e1 e3
  obtain ⟨a', c', he⟩ := hm.form
  injection he with e1 e4 e3
  subst e1 e3
  obtain ⟨a', c', he⟩ := hf'.form
  injection he with e1 e5 e3
  subst e1 e3
  obtain ⟨a', c', he⟩ := hm'.form
  injection he with e1 e6 e3
  subst e1 e3
  obtain rfl : m = n := by omega
  obtain rfl : m2 = n2 := by omega
  have HN := Lib.hid e2.symm
  have HN2 := Lib.hid e4.symm
  have hnb : m ≤ 1000000 := by omega
  have hnb2 : m2 ≤ 1000000 := by omega
  have HF := Lib.hid hf
  have HS := Lib.hid hm
  have HF' := Lib.hid hf'
  have HS' := Lib.hid hm'
  have HB := Lib.hid hB
  have HM := Lib.hid hM
  have hnm : (NM.toList == NM.toList) = true := beq_self_eq_true _
  clear hf hm hf' hm' hB hM e2 e4 e5 e6 hn hn2
  go_enter Tryz.func32, Tryz.ntmps32
  obtain ⟨V, hV⟩ : ∃ V, V = (w.alloc (.cells #[.string NM, .slice a m c, .slice a2 m2 c2] 25)).alloc (.cells #[.string NM, .slice b m d, .slice b2 m2 d2] 25) := ⟨_, rfl⟩
  have hxV : Ext w V := by rw [hV]; exact ((Ext.refl w).alloc _).alloc _
  have hzV : V.heap.size = w.heap.size + 2 := by rw [hV]; simp
  have HRA : Hid (V.heap[w.heap.size]? = some (.cells #[.string NM, .slice a m c, .slice a2 m2 c2] 25 (0, 0))) := Lib.hid (by rw [hV]; exact row_on (heap_alloc_new w _) ((Ext.refl _).alloc _))
  have HRB : Hid (V.heap[w.heap.size + 1]? = some (.cells #[.string NM, .slice b m d, .slice b2 m2 d2] 25 (0, 0))) := Lib.hid (by
    rw [hV]
    have h := heap_alloc_new (w.alloc (.cells #[.string NM, .slice a m c, .slice a2 m2 c2] 25)) (.cells #[.string NM, .slice b m d, .slice b2 m2 d2] 25)
    rw [World.size_alloc] at h
    exact h)
  have HVE := Lib.hid hV
  have HXV := Lib.hid hxV
  clear hV hxV
  go_wp2_with fail
  rw [← HVE.out]
  go_loopw [5] (fun t wr => ∃ k : Nat, k ≤ m ∧ t = .int .i64 (k : Int) ∧ Hid (Ext V wr)) (fun t _ => m - (intOf t).toNat)
  case atStart => exact ⟨0, Nat.zero_le _, rfl, Lib.hid (Ext.refl _)⟩
  case round =>
    obtain ⟨k, hk, rfl, HX⟩ := hrel
    have hxw := HXV.out.trans HX.out
    have rA := row_on HRA.out HX.out
    have rB := row_on HRB.out HX.out
    have ka : wr.cell? ⟨w.heap.size, 1, none⟩ = some (.slice a m c) := cell_at rA rfl
    have kb : wr.cell? ⟨w.heap.size + 1, 1, none⟩ = some (.slice b m d) := cell_at rB rfl
    have hs0 : w.heap.size < wr.heap.size := lt_at rA
    have hs1 : w.heap.size + 1 < wr.heap.size := lt_at rB
    by_cases hlt : k < m
    · obtain ⟨f, hfk⟩ : ∃ f, fs[k]? = some f := ⟨_, List.getElem?_eq_getElem (by rw [HN.out]; exact hlt)⟩
      obtain ⟨b1, b2', b3⟩ := HB.out _ (List.mem_of_getElem? hfk)
      obtain ⟨g1, o1, X, op, mn, mx, ck, la, ln, lc, l, opt, ha, hb, rfl, hl, c0, c1, c2', c3, c4, c5, c6⟩ := HF.out.here hxw hfk
      obtain ⟨g2, o2, Y, op', mn', mx', ck', la', ln', lc', l', opt', ha', hb', hfe, hl', d0, d1, d2', d3, d4, d5, d6⟩ := HF'.out.here hxw hfk
      injection hfe with q0 q1 q2 q3 q4 q5 q6
      obtain rfl := bytes_ext q0
      subst q1 q2 q3 q4 q5 q6 ha ha'
      have hg1 : g1 < wr.heap.size := Nat.lt_of_lt_of_le hb hxw.size
      have hg2 : g2 < wr.heap.size := Nat.lt_of_lt_of_le hb' hxw.size
      have hkI : (k : Int) < (m : Int) := by omega
      have HSL := Lib.hid (fun w' (hx : Ext w w') => sameList_any _ _ l w' (hl.ext hx) (hl'.ext hx) (by dsimp only at b3; unfold Go.maxLen at b3; omega))
      have HXW := Lib.hid hxw
      clear rA rB hfk hl hl' b1 b2' b3 hxw
      go_upto_region 6 with fail
      go_region
      go_wp2_with fail
      all_goals
        have hxw := HXW.out
        have hXX := HX.out
        refine Calls.mono (HSL.out _ (by repeat (first | exact Ext.refl _ | assumption | refine Ext.alloc ?_ _ | refine Ext.drew ?_ | refine Ext.trans ?_ (by assumption)))) ?_
        rintro e w9 ⟨rfl, hx9⟩
        have HX9 : Hid (Ext V w9) := Lib.hid (Ext.trans (by repeat (first | exact Ext.refl _ | assumption | refine Ext.alloc ?_ _ | refine Ext.drew ?_ | refine Ext.trans ?_ (by assumption))) hx9)
        clear hxw hXX hx9 c0 c1 c2' c3 c4 c5 c6 d0 d1 d2' d3 d4 d5 d6 ka kb
        go_wp2_with fail
        go_roundw
        case rel => exact ⟨k + 1, by omega, by go_num, HX9⟩
        case measure => (simp [intOf]; try omega)
    · obtain rfl : k = m := by omega
      obtain ⟨W0, hW0⟩ : ∃ W0, W0 = wr := ⟨_, rfl⟩
      subst hW0
      clear rA rB hxw
      go_wp2_with fail
      go_loopw [8] (fun t wq => ∃ j : Nat, j ≤ m2 ∧ t = .int .i64 (j : Int) ∧ Hid (Ext V wq)) (fun t _ => m2 - (intOf t).toNat)
      case atStart => exact ⟨0, Nat.zero_le _, rfl, HX⟩
      case round =>
        clear HX ka kb hs0 hs1
        obtain ⟨j, hj, rfl, HX⟩ := hrel
        have hxw := HXV.out.trans HX.out
        have rA := row_on HRA.out HX.out
        have rB := row_on HRB.out HX.out
        have kA : wr.cell? ⟨w.heap.size, 2, none⟩ = some (.slice a2 m2 c2) := cell_at rA rfl
        have kB : wr.cell? ⟨w.heap.size + 1, 2, none⟩ = some (.slice b2 m2 d2) := cell_at rB rfl
        by_cases hjn : j < m2
        · obtain ⟨r, hrj⟩ : ∃ r, ss[j]? = some r := ⟨_, List.getElem?_eq_getElem (by rw [HN2.out]; exact hjn)⟩
          obtain ⟨b1, b2', b3⟩ := HM.out _ (List.mem_of_getElem? hrj)
          obtain ⟨g1, o1, X, la, ln, lc, l, ha, hb, rfl, hl, c0, c1⟩ := HS.out.here hxw hrj
          obtain ⟨g2, o2, Y, la', ln', lc', l', ha', hb', hfe, hl', d0, d1⟩ := HS'.out.here hxw hrj
          injection hfe with q0 q1
          obtain rfl := bytes_ext q0
          subst q1 ha ha'
          have hg1 : g1 < wr.heap.size := Nat.lt_of_lt_of_le hb hxw.size
          have hg2 : g2 < wr.heap.size := Nat.lt_of_lt_of_le hb' hxw.size
          have hjI : (j : Int) < (m2 : Int) := by omega
          have HSL := Lib.hid (fun x : Ahead wr => sameList_any _ _ l x.at' (hl.ext (hxw.trans x.ext)) (hl'.ext (hxw.trans x.ext)) (by dsimp only at b3; unfold Go.maxLen at b3; omega))
          have hXX : (X.toList == X.toList) = true := beq_self_eq_true _
          have gA : ∀ x : Ahead wr, x.at'.cell? ⟨w.heap.size, 2, none⟩ = some (.slice (some ⟨g1, o1, none⟩) m2 c2) := fun x => cell_at (row_on rA x.ext) rfl
          have gB : ∀ x : Ahead wr, x.at'.cell? ⟨w.heap.size + 1, 2, none⟩ = some (.slice (some ⟨g2, o2, none⟩) m2 d2) := fun x => cell_at (row_on rB x.ext) rfl
          have e0 : ∀ x : Ahead wr, x.at'.cell? ⟨g1, o1 + j * 2, none⟩ = some (.string X) := fun x => (x.ext.cell (p := ⟨g1, o1 + j * 2, none⟩) hg1).trans c0
          have e1 : ∀ x : Ahead wr, x.at'.cell? ⟨g1, o1 + j * 2 + 1, none⟩ = some (.slice la ln lc) := fun x => (x.ext.cell (p := ⟨g1, o1 + j * 2 + 1, none⟩) hg1).trans c1
          have f0 : ∀ x : Ahead wr, x.at'.cell? ⟨g2, o2 + j * 2, none⟩ = some (.string X) := fun x => (x.ext.cell (p := ⟨g2, o2 + j * 2, none⟩) hg2).trans d0
          have f1 : ∀ x : Ahead wr, x.at'.cell? ⟨g2, o2 + j * 2 + 1, none⟩ = some (.slice la' ln' lc') := fun x => (x.ext.cell (p := ⟨g2, o2 + j * 2 + 1, none⟩) hg2).trans d1
          clear rA rB hrj hl hl' b1 b2' b3 hxw c0 c1 d0 d1
          go_upto_region 12 with fail
          refine wp_region_quiet (C := fun w' => ∃ x : Ahead wr, w' = x.at') (by kernel_rfl) (by kernel_rfl) (Ahead.drawn _) ?_
          try dsimp only
          repeat (first | go_big_quiet_step ((go_at_call 29; exact ahead_of (HSL.out _))) | quiet_step ((go_at_call 29; exact ahead_of (HSL.out _))))
          refine wpQuiet_nil ?_
          intro _ hx0
          obtain ⟨x0, hx0⟩ := hx0
          subst hx0
          obtain ⟨w8, hx8⟩ := x0
          try dsimp only
          have HX9 : Hid (Ext V w8) := Lib.hid (HX.out.trans hx8)
          clear hx8 gA gB e0 e1 f0 f1 HSL kA kB
          go_wp2_with fail
          go_roundw
          case rel => exact ⟨j + 1, by omega, by go_num, HX9⟩
          case measure => (simp [intOf]; try omega)
        · obtain rfl : j = m2 := by omega
          clear rA rB
          go_wp2_with fail
          go_ret
          exact ⟨rfl, hxw⟩
end Go.Proofs.YtkpfehfcgpapiaaGreatDoor
