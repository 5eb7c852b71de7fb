/-
  Chapter 51: systems and kinds by their names: the program.
  No condition.
-/
import Derived.Test.YtkpfehfcgpapiaaGreatDoorFmVe
import Derived.Test.YtkpfehfcgpapiaaGreatDoorFmPa

/-
  Chapter 51: systems and kinds by their names: the program.
  No condition.
-/
namespace Go.Proofs.YtkpfehfcgpapiaaGreatDoor
set_option linter.unusedVariables false
open Go.RowKit

theorem pick_keep (nm : Int → Fm.S) (w : Fm.S) (m : Int) (hm : m ≠ 0) : ∀ (j k : Nat), Fm.pick nm w k = m → Fm.pick nm w (k + j) = m
  | 0, _, h => h
  | j + 1, k, h => by
    have ih := pick_keep nm w m hm j k h
    show (if Fm.pick nm w (k + j) = 0 then _ else Fm.pick nm w (k + j)) = m
    rw [ih, if_neg hm]
theorem pick_here (nm : Int → Fm.S) (w : Fm.S) (n k : Nat) (hk : k + 1 ≤ n) (h0 : Fm.pick nm w k = 0) (h : nm ((k + 1 : Nat) : Int) = w) : Fm.pick nm w n = ((k + 1 : Nat) : Int) := by
  have h1 : Fm.pick nm w (k + 1) = ((k + 1 : Nat) : Int) := by
    show (if Fm.pick nm w k = 0 then (if nm ((k + 1 : Nat) : Int) = w then ((k + 1 : Nat) : Int) else 0) else Fm.pick nm w k) = _
    rw [if_pos h0, if_pos h]
  have := pick_keep nm w _ (by omega) (n - (k + 1)) (k + 1) h1
  rw [show k + 1 + (n - (k + 1)) = n by omega] at this
  exact this
theorem pick_next (nm : Int → Fm.S) (w : Fm.S) (k : Nat) (h0 : Fm.pick nm w k = 0) (h : nm ((k + 1 : Nat) : Int) ≠ w) : Fm.pick nm w (k + 1) = 0 := by
  show (if Fm.pick nm w k = 0 then (if nm ((k + 1 : Nat) : Int) = w then ((k + 1 : Nat) : Int) else 0) else Fm.pick nm w k) = 0
  rw [if_pos h0, if_neg h]

set_option maxRecDepth 100000 in
set_option maxHeartbeats 1000000 in
theorem system_any (s : ByteArray) (w : World) : Calls Tryz.prog 178 #[.string s] w fun e w' => e = .returned (.int .i64 (Fm.sysOf s.data.toList)) ∧ w = w' := by
  have HR : Hid (Fm.sysOf s.data.toList = Fm.pick Fm.sysNm s.data.toList 8) := Lib.hid rfl
  generalize Fm.sysOf s.data.toList = res at *
  go_enter Tryz.func178, Tryz.ntmps178
  go_wp2
  go_loop [3] (fun t => ∃ k : Nat, 1 ≤ k ∧ k ≤ 9 ∧ t = .int .i64 (k : Int) ∧ Hid (Fm.pick Fm.sysNm s.data.toList (k - 1) = 0)) (fun t => 9 - (intOf t).toNat)
  case atStart => exact ⟨1, by omega, by omega, rfl, Lib.hid rfl⟩
  case round =>
    obtain ⟨k, hk1, hk, rfl, hv⟩ := hrel
    by_cases hlt : k ≤ 8
    · have hltI : (k : Int) ≤ 8 := by omega
      have HS := Lib.hid (fun w' => systemName_any (k : Int) (by omega) hltI w')
      obtain ⟨m, rfl⟩ : ∃ m, k = m + 1 := ⟨k - 1, by omega⟩
      rw [Nat.add_sub_cancel] at hv
      by_cases he : Fm.sysNm ((m + 1 : Nat) : Int) = s.data.toList
      · have HX : Hid (res = ((m + 1 : Nat) : Int)) := Lib.hid (by rw [HR.out]; exact pick_here _ _ _ m hlt hv.out he)
        obtain ⟨A, hA⟩ : ∃ A : ByteArray, (⟨(Fm.sysNm ((m + 1 : Nat) : Int)).toArray⟩ : ByteArray) = A := ⟨_, rfl⟩
        have hq : (A.toList == s.toList) = true := by rw [← hA]; exact same_bytes rfl he
        rw [hA] at HS
        obtain ⟨k, hkm⟩ : ∃ k : Nat, k = m + 1 := ⟨_, rfl⟩
        rw [← hkm] at HS HX hltI ⊢
        clear he hA hv hkm hk hlt hk1
        go_wp2_with fail
        refine (HS.out _).mono ?_
        rintro e w1 ⟨rfl, rfl⟩
        go_wp2
        go_ret
        exact ⟨ret_int HX.out.symm, rfl⟩
      · have HX := Lib.hid (pick_next _ _ m hv.out he)
        obtain ⟨A, hA⟩ : ∃ A : ByteArray, (⟨(Fm.sysNm ((m + 1 : Nat) : Int)).toArray⟩ : ByteArray) = A := ⟨_, rfl⟩
        have hq : (A.toList == s.toList) = false := by rw [← hA]; exact other_bytes rfl he
        rw [hA] at HS
        obtain ⟨k, hkm⟩ : ∃ k : Nat, k = m + 1 := ⟨_, rfl⟩
        rw [← hkm] at HS HX hltI ⊢
        have HK := Lib.hid hkm
        have hk9 : k ≤ 8 := by omega
        clear he hA hv hkm hk hlt hk1
        go_wp2_with fail
        refine (HS.out _).mono ?_
        rintro e w1 ⟨rfl, rfl⟩
        go_wp2
        go_round
        case rel => exact ⟨k + 1, by omega, by omega, by go_num, HX⟩
        case measure => simp [intOf]; omega
    · obtain rfl : k = 9 := by omega
      have HX : Hid (res = 0) := Lib.hid (by rw [HR.out]; exact hv.out)
      clear hk hlt hv hk1
      go_wp2
      go_ret
      exact ⟨ret_int HX.out.symm, rfl⟩
set_option maxRecDepth 100000 in
set_option maxHeartbeats 1000000 in
theorem kind_any (s : ByteArray) (w : World) : Calls Tryz.prog 119 #[.string s] w fun e w' => e = .returned (.int .i64 (Fm.kindOf s.data.toList)) ∧ w = w' := by
  have HR : Hid (Fm.kindOf s.data.toList = Fm.pick Fm.kindNm s.data.toList 5) := Lib.hid rfl
  generalize Fm.kindOf s.data.toList = res at *
  go_enter Tryz.func119, Tryz.ntmps119
  go_wp2
  go_loop [3] (fun t => ∃ k : Nat, 1 ≤ k ∧ k ≤ 6 ∧ t = .int .i64 (k : Int) ∧ Hid (Fm.pick Fm.kindNm s.data.toList (k - 1) = 0)) (fun t => 6 - (intOf t).toNat)
  case atStart => exact ⟨1, by omega, by omega, rfl, Lib.hid rfl⟩
  case round =>
    obtain ⟨k, hk1, hk, rfl, hv⟩ := hrel
    by_cases hlt : k ≤ 5
    · have hltI : (k : Int) ≤ 5 := by omega
      have HS := Lib.hid (fun w' => kindName_any (k : Int) (by omega) hltI w')
      obtain ⟨m, rfl⟩ : ∃ m, k = m + 1 := ⟨k - 1, by omega⟩
      rw [Nat.add_sub_cancel] at hv
      by_cases he : Fm.kindNm ((m + 1 : Nat) : Int) = s.data.toList
      · have HX : Hid (res = ((m + 1 : Nat) : Int)) := Lib.hid (by rw [HR.out]; exact pick_here _ _ _ m hlt hv.out he)
        obtain ⟨A, hA⟩ : ∃ A : ByteArray, (⟨(Fm.kindNm ((m + 1 : Nat) : Int)).toArray⟩ : ByteArray) = A := ⟨_, rfl⟩
        have hq : (A.toList == s.toList) = true := by rw [← hA]; exact same_bytes rfl he
        rw [hA] at HS
        obtain ⟨k, hkm⟩ : ∃ k : Nat, k = m + 1 := ⟨_, rfl⟩
        rw [← hkm] at HS HX hltI ⊢
        clear he hA hv hkm hk hlt hk1
        go_wp2_with fail
        refine (HS.out _).mono ?_
        rintro e w1 ⟨rfl, rfl⟩
        go_wp2
        go_ret
        exact ⟨ret_int HX.out.symm, rfl⟩
      · have HX := Lib.hid (pick_next _ _ m hv.out he)
        obtain ⟨A, hA⟩ : ∃ A : ByteArray, (⟨(Fm.kindNm ((m + 1 : Nat) : Int)).toArray⟩ : ByteArray) = A := ⟨_, rfl⟩
        have hq : (A.toList == s.toList) = false := by rw [← hA]; exact other_bytes rfl he
        rw [hA] at HS
        obtain ⟨k, hkm⟩ : ∃ k : Nat, k = m + 1 := ⟨_, rfl⟩
        rw [← hkm] at HS HX hltI ⊢
        have HK := Lib.hid hkm
        have hk9 : k ≤ 5 := by omega
        clear he hA hv hkm hk hlt hk1
        go_wp2_with fail
        refine (HS.out _).mono ?_
        rintro e w1 ⟨rfl, rfl⟩
        go_wp2
        go_round
        case rel => exact ⟨k + 1, by omega, by omega, by go_num, HX⟩
        case measure => simp [intOf]; omega
    · obtain rfl : k = 6 := by omega
      have HX : Hid (res = 0) := Lib.hid (by rw [HR.out]; exact hv.out)
      clear hk hlt hv hk1
      go_wp2
      go_ret
      exact ⟨ret_int HX.out.symm, rfl⟩
end Go.Proofs.YtkpfehfcgpapiaaGreatDoor

/-
  Chapter 51: the bounds on a field's line: the program, where the words are right.
  No condition.
-/
namespace Go.Proofs.YtkpfehfcgpapiaaGreatDoor
set_option linter.unusedVariables false
open Go.RowKit

theorem far_cell {w : World} {g i b j : Nat} {u : Value} (h : g ≠ b) : (w.setCell ⟨g, i, none⟩ u).cell? ⟨b, j, none⟩ = w.cell? ⟨b, j, none⟩ :=
  World.cell?_of_block (w := w) (a := ⟨b, j, none⟩) (far1 h rfl)
theorem Ext.grown {w w' : World} (h : Ext w w') (row : Option Nat) : w.grownBy w' row := ⟨h.os, h.tape, h.output, h.size, fun i hi _ => h.block i hi⟩
/-- The words of a slice from some place on. -/
theorem slice_from (b o n c lo : Nat) (h1 : lo < n) (h2 : n ≤ c) (w' : World) : (Instr.slice 37 (.slice (some ⟨b, o, none⟩) n c) (some (.int .i64 (lo : Int))) none none).run Tryz.prog w' = .ok (.slice (some ⟨b, o + lo, none⟩) (n - lo) (c - lo)) w' := by
  have e : Tryz.prog.elem 37 = 9 := by kernel_rfl
  have ht : Tryz.prog.underlying 37 = some (.slice (Tryz.prog.elem 37)) := by rw [e]; exact Tryz.underlying37
  rw [run_slice_l w' 37 (some ⟨b, o, none⟩) n c ht .i64 (lo : Int) (by omega) (by omega), e, sizeOf_str]
  have e2 : sliced (some ⟨b, o, none⟩) lo n c 1 = .slice (some ⟨b, o + lo, none⟩) (n - lo) (c - lo) := by
    unfold sliced
    rw [if_neg (by omega), Nat.mul_one]
    simp [add_off]
  simp only [Int.toNat_natCast, Result.andThen_ok] at *
  rw [← e2]

set_option maxRecDepth 100000 in
set_option maxHeartbeats 1000000 in
theorem parseBounds2_any (g : Nat) (X : ByteArray) (op mn0 mx0 ck0 : Int) (la : Option Addr) (ln lc : Nat) (opt : Bool) (b o c : Nat) (A B : ByteArray) (w : World) (R0 : w.heap[g]? = some (.cells #[.string X, .int .i64 op, .int .i64 mn0, .int .i64 mx0, .int .i64 ck0, .slice la ln lc, .bool opt] 39 (0, 0)))
    (hgb : g ≠ b) (hb : b < w.heap.size) (hc : 2 ≤ c) (c0 : w.cell? ⟨b, o, none⟩ = some (.string A)) (c1 : w.cell? ⟨b, o + 1, none⟩ = some (.string B))
    (hA : A.size ≤ 1000000) (hB : B.size ≤ 1000000) (wA : Fm.written A.data.toList = true) (wB : Fm.written B.data.toList = true)
    (i1 : -1000000000000000 ≤ Fm.capOf A.data.toList) (i2 : Fm.capOf A.data.toList ≤ 1000000000000000) (i3 : -1000000000000000 ≤ Fm.capOf B.data.toList) (i4 : Fm.capOf B.data.toList ≤ 1000000000000000) :
    Calls Tryz.prog 153 #[.pointer (some ⟨g, 0, none⟩), .slice (some ⟨b, o, none⟩) 2 c] w fun e w' => e = .returned .nilIface ∧ w'.heap[g]? = some (.cells #[.string X, .int .i64 op, .int .i64 (Fm.capOf A.data.toList), .int .i64 (Fm.capOf B.data.toList), .int .i64 ck0, .slice la ln lc, .bool opt] 39 (0, 0)) ∧ w.grownBy w' (some g) := by
  have HA := Lib.hid (fun w' => number_ok A (by omega) w' wA)
  have HB := Lib.hid (fun w' => number_ok B (by omega) w' wB)
  generalize Fm.capOf A.data.toList = ma at *
  generalize Fm.capOf B.data.toList = mb at *
  have hgw : g < w.heap.size := lt_at R0
  have j1 : ¬ ma < -1000000000000000 := by omega
  have j2 : ¬ 1000000000000000 < ma := by omega
  have j3 : ¬ mb < -1000000000000000 := by omega
  have j4 : ¬ 1000000000000000 < mb := by omega
  clear i1 i2 i3 i4 wA wB
  go_enter Tryz.func153, Tryz.ntmps153
  go_wp2_with fail
  refine (HA.out _).mono ?_
  rintro e w1 ⟨rfl, hx1⟩
  have R1 := row_on R0 hx1
  have f1 : w1.frozen? ⟨g, 2, none⟩ = false := frz_at R1
  have g1 := cell_at R1 (i := 2) rfl
  have hb1 : b < w1.heap.size := Nat.lt_of_lt_of_le hb hx1.size
  obtain ⟨W2, hW2⟩ : ∃ W2, W2 = w1.setCell ⟨g, 2, none⟩ (.int .i64 ma) := ⟨_, rfl⟩
  have R2 : W2.heap[g]? = some (.cells #[.string X, .int .i64 op, .int .i64 ma, .int .i64 mx0, .int .i64 ck0, .slice la ln lc, .bool opt] 39 (0, 0)) := by rw [hW2]; exact heap_set R1
  have d1 : W2.cell? ⟨b, o + 1, none⟩ = some (.string B) := by rw [hW2, far_cell hgb, hx1.cell hb]; exact c1
  have hG2 : w.grownBy W2 (some g) := by rw [hW2]; exact (hx1.grown _).trans (grown_set w1 g 2 _)
  have hb2 : b < W2.heap.size := by rw [hW2]; simpa using hb1
  have HW2 := Lib.hid hW2
  have d1r := d1
  rw [hW2] at d1r
  clear hW2
  go_wp2_with fail
  rw [← HW2.out]
  refine (HB.out _).mono ?_
  rintro e w3 ⟨rfl, hx3⟩
  have R3 := row_on R2 hx3
  have f3 : w3.frozen? ⟨g, 3, none⟩ = false := frz_at R3
  have g3 := cell_at R3 (i := 3) rfl
  have R4 : (w3.setCell ⟨g, 3, none⟩ (.int .i64 mb)).heap[g]? = some (.cells #[.string X, .int .i64 op, .int .i64 ma, .int .i64 mb, .int .i64 ck0, .slice la ln lc, .bool opt] 39 (0, 0)) := heap_set R3
  have hG4 : w.grownBy (w3.setCell ⟨g, 3, none⟩ (.int .i64 mb)) (some g) := (hG2.trans (hx3.grown _)).trans (grown_set w3 g 3 _)
  have m2 := cell_at R4 (i := 2) rfl
  have m3 := cell_at R4 (i := 3) rfl
  clear R0 R1 R2 R3 c0 c1 d1 d1r f1 g1 hx1 hx3 hG2
  go_wp2
  all_goals
    go_ret
    exact ⟨rfl, R4, hG4⟩

set_option maxRecDepth 100000 in
set_option maxHeartbeats 1000000 in
theorem parseBounds4_any (g : Nat) (X : ByteArray) (op mn0 mx0 ck0 : Int) (la : Option Addr) (ln lc : Nat) (opt : Bool) (b o c : Nat) (A B C Y : ByteArray) (w : World) (R0 : w.heap[g]? = some (.cells #[.string X, .int .i64 op, .int .i64 mn0, .int .i64 mx0, .int .i64 ck0, .slice la ln lc, .bool opt] 39 (0, 0)))
    (hgb : g ≠ b) (hb : b < w.heap.size) (hc : 4 ≤ c) (c0 : w.cell? ⟨b, o, none⟩ = some (.string A)) (c1 : w.cell? ⟨b, o + 1, none⟩ = some (.string B)) (c2 : w.cell? ⟨b, o + 2, none⟩ = some (.string C)) (c3 : w.cell? ⟨b, o + 3, none⟩ = some (.string Y))
    (hA : A.size ≤ 1000000) (hB : B.size ≤ 1000000) (wA : Fm.written A.data.toList = true) (wB : Fm.written B.data.toList = true) (hop : op = 1) (hC : C.data.toList = Fm.tChk) (hY : Fm.sysOf Y.data.toList ≠ 0)
    (i1 : -1000000000000000 ≤ Fm.capOf A.data.toList) (i2 : Fm.capOf A.data.toList ≤ 1000000000000000) (i3 : -1000000000000000 ≤ Fm.capOf B.data.toList) (i4 : Fm.capOf B.data.toList ≤ 1000000000000000) :
    Calls Tryz.prog 153 #[.pointer (some ⟨g, 0, none⟩), .slice (some ⟨b, o, none⟩) 4 c] w fun e w' => e = .returned .nilIface ∧ w'.heap[g]? = some (.cells #[.string X, .int .i64 op, .int .i64 (Fm.capOf A.data.toList), .int .i64 (Fm.capOf B.data.toList), .int .i64 (Fm.sysOf Y.data.toList), .slice la ln lc, .bool opt] 39 (0, 0)) ∧ w.grownBy w' (some g) := by
  have HA := Lib.hid (fun w' => number_ok A (by omega) w' wA)
  have HB := Lib.hid (fun w' => number_ok B (by omega) w' wB)
  generalize Fm.capOf A.data.toList = ma at *
  generalize Fm.capOf B.data.toList = mb at *
  have HY := Lib.hid (fun w' => system_any Y w')
  generalize Fm.sysOf Y.data.toList = sy at *
  have hyz : (sy == 0) = false := beq_eq_false_iff_ne.2 hY
  obtain rfl : C = ⟨#[99, 104, 101, 99, 107]⟩ := bytes_ext hC
  have hop2 : (op == 1) = true := beq_iff_eq.2 hop
  have hop3 : (op != 1) = false := by rw [hop]; rfl
  clear hY hC hop
  have hgw : g < w.heap.size := lt_at R0
  have j1 : ¬ ma < -1000000000000000 := by omega
  have j2 : ¬ 1000000000000000 < ma := by omega
  have j3 : ¬ mb < -1000000000000000 := by omega
  have j4 : ¬ 1000000000000000 < mb := by omega
  have HSL := Lib.hid (fun w' => slice_from b o 4 c 2 (by omega) hc w')
  clear i1 i2 i3 i4 wA wB
  go_enter Tryz.func153, Tryz.ntmps153
  go_wp2_with fail
  refine (HA.out _).mono ?_
  rintro e w1 ⟨rfl, hx1⟩
  have R1 := row_on R0 hx1
  have f1 : w1.frozen? ⟨g, 2, none⟩ = false := frz_at R1
  have g1 := cell_at R1 (i := 2) rfl
  have hb1 : b < w1.heap.size := Nat.lt_of_lt_of_le hb hx1.size
  obtain ⟨W2, hW2⟩ : ∃ W2, W2 = w1.setCell ⟨g, 2, none⟩ (.int .i64 ma) := ⟨_, rfl⟩
  have R2 : W2.heap[g]? = some (.cells #[.string X, .int .i64 op, .int .i64 ma, .int .i64 mx0, .int .i64 ck0, .slice la ln lc, .bool opt] 39 (0, 0)) := by rw [hW2]; exact heap_set R1
  have d1 : W2.cell? ⟨b, o + 1, none⟩ = some (.string B) := by rw [hW2, far_cell hgb, hx1.cell hb]; exact c1
  have d2 : W2.cell? ⟨b, o + 2, none⟩ = some (.string ⟨#[99, 104, 101, 99, 107]⟩) := by rw [hW2, far_cell hgb, hx1.cell hb]; exact c2
  have d3 : W2.cell? ⟨b, o + 3, none⟩ = some (.string Y) := by rw [hW2, far_cell hgb, hx1.cell hb]; exact c3
  have hG2 : w.grownBy W2 (some g) := by rw [hW2]; exact (hx1.grown _).trans (grown_set w1 g 2 _)
  have hb2 : b < W2.heap.size := by rw [hW2]; simpa using hb1
  have HW2 := Lib.hid hW2
  have d1r := d1
  rw [hW2] at d1r
  clear hW2
  go_wp2_with fail
  rw [← HW2.out]
  refine (HB.out _).mono ?_
  rintro e w3 ⟨rfl, hx3⟩
  have R3 := row_on R2 hx3
  have f3 : w3.frozen? ⟨g, 3, none⟩ = false := frz_at R3
  have g3 := cell_at R3 (i := 3) rfl
  have R4 : (w3.setCell ⟨g, 3, none⟩ (.int .i64 mb)).heap[g]? = some (.cells #[.string X, .int .i64 op, .int .i64 ma, .int .i64 mb, .int .i64 ck0, .slice la ln lc, .bool opt] 39 (0, 0)) := heap_set R3
  have hG4 : w.grownBy (w3.setCell ⟨g, 3, none⟩ (.int .i64 mb)) (some g) := (hG2.trans (hx3.grown _)).trans (grown_set w3 g 3 _)
  have e2 : (w3.setCell ⟨g, 3, none⟩ (.int .i64 mb)).cell? ⟨b, o + 2, none⟩ = some (.string ⟨#[99, 104, 101, 99, 107]⟩) := by rw [far_cell hgb, hx3.cell hb2]; exact d2
  have e3 : (w3.setCell ⟨g, 3, none⟩ (.int .i64 mb)).cell? ⟨b, o + 3, none⟩ = some (.string Y) := by rw [far_cell hgb, hx3.cell hb2]; exact d3
  obtain ⟨W4, hW4⟩ : ∃ W4, W4 = w3.setCell ⟨g, 3, none⟩ (.int .i64 mb) := ⟨_, rfl⟩
  rw [← hW4] at R4 hG4 e2 e3
  have HW4 := Lib.hid hW4
  have m1 := cell_at R4 (i := 1) rfl
  have m4 := cell_at R4 (i := 4) rfl
  have f4 : W4.frozen? ⟨g, 4, none⟩ = false := frz_at R4
  have R5 : (W4.setCell ⟨g, 4, none⟩ (.int .i64 sy)).heap[g]? = some (.cells #[.string X, .int .i64 op, .int .i64 ma, .int .i64 mb, .int .i64 sy, .slice la ln lc, .bool opt] 39 (0, 0)) := heap_set R4
  have hG5 : w.grownBy (W4.setCell ⟨g, 4, none⟩ (.int .i64 sy)) (some g) := hG4.trans (grown_set W4 g 4 _)
  have n2 := cell_at R5 (i := 2) rfl
  have n3 := cell_at R5 (i := 3) rfl
  have n4 := cell_at R5 (i := 4) rfl
  have hsl := HSL.out
  rw [hW4] at e2 e3 m1 m4 f4
  clear R0 R1 R2 R3 R4 c0 c1 c2 c3 d1 d1r d2 d3 f1 g1 hx1 hx3 hG2 hG4 hW4
  go_wp2_with fail
  rw [← HW4.out]
  refine (HY.out _).mono ?_
  rintro e w6 ⟨rfl, rfl⟩
  rw [← HW4.out] at e2 e3 m1 m4 f4
  go_wp2
  go_ret
  exact ⟨rfl, R5, hG5⟩

end Go.Proofs.YtkpfehfcgpapiaaGreatDoor

/-
  Chapter 51: a field's line: the program, where the words are right.
  No condition.
-/
namespace Go.Proofs.YtkpfehfcgpapiaaGreatDoor
set_option linter.unusedVariables false
open Go.RowKit

set_option maxHeartbeats 2000000 in
theorem row7_set {w : World} {b : Nat} {x0 x1 x2 x3 x4 x5 x6 p0 p1 p2 p3 p4 p5 p6 : Value} {t : TypeId} (h : w.heap[b]? = some (.cells #[x0, x1, x2, x3, x4, x5, x6] t (0, 0))) :
    (((((((w.setCell ⟨b, 0, none⟩ p0).setCell ⟨b, 1, none⟩ p1).setCell ⟨b, 2, none⟩ p2).setCell ⟨b, 3, none⟩ p3).setCell ⟨b, 4, none⟩ p4).setCell ⟨b, 5, none⟩ p5).setCell ⟨b, 6, none⟩ p6).heap[b]? = some (.cells #[p0, p1, p2, p3, p4, p5, p6] t (0, 0)) :=
  heap_set (heap_set (heap_set (heap_set (heap_set (heap_set (heap_set h))))))
theorem load_fld {w : World} {g : Nat} {t : TypeId} {x0 x1 x2 x3 x4 x5 x6 : Value} (hg : w.heap[g]? = some (.cells #[x0, x1, x2, x3, x4, x5, x6] t (0, 0))) : (loadVar 39 ⟨g, 0, none⟩).run Tryz.prog w = .ok (.agg #[x0, x1, x2, x3, x4, x5, x6]) w := by
  rw [run_loadVar_row w g t _ #[x0, x1, x2, x3, x4, x5, x6] (0, 0) _ hg Tryz.underlying39 rfl (by kernel_rfl)]
theorem all7 {w : World} {g : Nat} {t : TypeId} {x0 x1 x2 x3 x4 x5 x6 : Value} (r : w.heap[g]? = some (.cells #[x0, x1, x2, x3, x4, x5, x6] t (0, 0))) :
    w.cell? ⟨g, 0, none⟩ = some x0 ∧ w.cell? ⟨g, 1, none⟩ = some x1 ∧ w.cell? ⟨g, 2, none⟩ = some x2 ∧ w.cell? ⟨g, 3, none⟩ = some x3 ∧ w.cell? ⟨g, 4, none⟩ = some x4 ∧ w.cell? ⟨g, 5, none⟩ = some x5 ∧ w.cell? ⟨g, 6, none⟩ = some x6 ∧ ∀ i, w.frozen? ⟨g, i, none⟩ = false :=
  ⟨cell_at r rfl, cell_at r rfl, cell_at r rfl, cell_at r rfl, cell_at r rfl, cell_at r rfl, cell_at r rfl, fun _ => frz_at r⟩

/-- The first words of a slice. -/
theorem slice_to (b o n c hi : Nat) (h1 : hi ≤ n) (h2 : n ≤ c) (w' : World) (h0 : 0 < c := by omega) : (Instr.slice 37 (.slice (some ⟨b, o, none⟩) n c) none (some (.int .i64 (hi : Int))) none).run Tryz.prog w' = .ok (.slice (some ⟨b, o, none⟩) hi c) w' := by
  have e : Tryz.prog.elem 37 = 9 := by kernel_rfl
  have ht : Tryz.prog.underlying 37 = some (.slice (Tryz.prog.elem 37)) := by rw [e]; exact Tryz.underlying37
  rw [run_slice_h w' 37 (some ⟨b, o, none⟩) n c ht .i64 (hi : Int) (by omega) (by omega), e, sizeOf_str]
  have e2 : sliced (some ⟨b, o, none⟩) 0 hi c 1 = .slice (some ⟨b, o, none⟩) hi c := by
    unfold sliced
    rw [if_neg (by omega)]
    simp [add_off]
  simp only [Int.toNat_natCast, Result.andThen_ok] at *
  rw [← e2]

set_option maxRecDepth 100000 in
set_option maxHeartbeats 1000000 in
theorem parseField2n_any (op : Int) (b o c : Nat) (X A B : ByteArray) (w : World) (hb : b < w.heap.size) (hc : 3 ≤ c) (hop4 : op ≠ 4) (c0 : w.cell? ⟨b, o, none⟩ = some (.string X)) (c1 : w.cell? ⟨b, o + 1, none⟩ = some (.string A)) (c2 : w.cell? ⟨b, o + 2, none⟩ = some (.string B)) (hno : B.data.toList ≠ Fm.tOpt)
    (hA : A.size ≤ 1000000) (hB : B.size ≤ 1000000) (wA : Fm.written A.data.toList = true) (wB : Fm.written B.data.toList = true)
    (i1 : -1000000000000000 ≤ Fm.capOf A.data.toList) (i2 : Fm.capOf A.data.toList ≤ 1000000000000000) (i3 : -1000000000000000 ≤ Fm.capOf B.data.toList) (i4 : Fm.capOf B.data.toList ≤ 1000000000000000) :
    Calls Tryz.prog 120 #[.int .i64 op, .slice (some ⟨b, o, none⟩) 3 c] w fun e w' => e = .returned (.tuple #[.agg #[.string X, .int .i64 op, .int .i64 (Fm.capOf A.data.toList), .int .i64 (Fm.capOf B.data.toList), .int .i64 0, .slice none 0 0, .bool false], .nilIface]) ∧ Ext w w' := by
  have z4 : (op == 4) = false := beq_eq_false_iff_ne.2 hop4
  have S1 : ∀ w', (Instr.slice 37 (.slice (some ⟨b, o, none⟩) 3 c) (some (.int .i64 1)) none none).run Tryz.prog w' = .ok (.slice (some ⟨b, o + 1, none⟩) 2 (c - 1)) w' := fun w' => slice_from b o 3 c 1 (by omega) hc w'
  obtain ⟨V, hV⟩ : ∃ V, V = ((w.alloc (.cells #[.string ⟨#[]⟩, .int .i64 0, .int .i64 0, .int .i64 0, .int .i64 0, .slice none 0 0, .bool false] 39)).alloc (.cells #[.string X, .int .i64 op, .int .i64 0, .int .i64 0, .int .i64 0, .slice none 0 0, .bool false] 39)) := ⟨_, rfl⟩
  have RZ := heap_alloc_new w (.cells #[.string ⟨#[]⟩, .int .i64 0, .int .i64 0, .int .i64 0, .int .i64 0, .slice none 0 0, .bool false] 39)
  have RF := heap_alloc_new (w.alloc (.cells #[.string ⟨#[]⟩, .int .i64 0, .int .i64 0, .int .i64 0, .int .i64 0, .slice none 0 0, .bool false] 39)) (.cells #[.string X, .int .i64 op, .int .i64 0, .int .i64 0, .int .i64 0, .slice none 0 0, .bool false] 39)
  rw [World.size_alloc] at RF
  have RV : V.heap[w.heap.size + 1]? = some (.cells #[.string X, .int .i64 op, .int .i64 0, .int .i64 0, .int .i64 0, .slice none 0 0, .bool false] 39 (0, 0)) := by rw [hV]; exact RF
  have hZ2 := row_on RZ ((Ext.refl (w.alloc (.cells #[.string ⟨#[]⟩, .int .i64 0, .int .i64 0, .int .i64 0, .int .i64 0, .slice none 0 0, .bool false] 39))).alloc (.cells #[.string X, .int .i64 op, .int .i64 0, .int .i64 0, .int .i64 0, .slice none 0 0, .bool false] 39))
  have RZV : V.heap[w.heap.size]? = some (.cells #[.string ⟨#[]⟩, .int .i64 0, .int .i64 0, .int .i64 0, .int .i64 0, .slice none 0 0, .bool false] 39 (0, 0)) := by rw [hV]; exact hZ2
  have hxV : Ext w V := by rw [hV]; exact ((Ext.refl w).alloc _).alloc _
  have hbV : b < V.heap.size := Nat.lt_of_lt_of_le hb hxV.size
  have HVE := Lib.hid hV
  have q1 : (B.toList == (⟨#[111, 112, 116, 105, 111, 110, 97, 108]⟩ : ByteArray).toList) = false := by
    rw [Lib.toList_data, Lib.toList_data]
    exact beq_eq_false_iff_ne.2 hno
  have q3 : (B.toList == ([111, 112, 116, 105, 111, 110, 97, 108] : List UInt8)) = false := by rw [Lib.toList_data]; exact beq_eq_false_iff_ne.2 hno
  have q4 : decide (B.toList = ([111, 112, 116, 105, 111, 110, 97, 108] : List UInt8)) = false := decide_eq_false (by rw [Lib.toList_data]; exact hno)
  have q5 : ¬ B.toList = ([111, 112, 116, 105, 111, 110, 97, 108] : List UInt8) := by rw [Lib.toList_data]; exact hno
  have q2 : ¬ B = ⟨#[111, 112, 116, 105, 111, 110, 97, 108]⟩ := fun e => hno (by rw [e]; rfl)
  have HPB := Lib.hid (parseBounds2_any (w.heap.size + 1) X op 0 0 0 none 0 0 false b (o + 1) (c - 1) A B V RV (by omega) hbV (by omega) ((hxV.cell hb).trans c1) ((hxV.cell hb).trans c2) hA hB wA wB i1 i2 i3 i4)
  generalize (Fm.capOf A.data.toList) = ma at *
  generalize (Fm.capOf B.data.toList) = mb at *
  
  clear hV hZ2 RZ RF i1 i2 i3 i4 wA wB hop4 
  go_enter Tryz.func120, Tryz.ntmps120
  go_wp2_with fail
  rw [← HVE.out]
  refine HPB.out.mono ?_
  rintro e w5 ⟨rfl, R5, hG5⟩
  have RZ5 := (hG5.block w.heap.size (lt_at RZV) (by intro e; injection e with e; omega)).trans RZV
  obtain ⟨a0, a1, a2, a3, a4, a5, a6, -⟩ := all7 R5
  obtain ⟨z0, z1, z2, z3, z4', z5, z6, zf⟩ := all7 RZ5
  have f0 := zf 0
  have f1 := zf 1
  have f2 := zf 2
  have f3 := zf 3
  have f4 := zf 4
  have f5 := zf 5
  have f6 := zf 6
  have hx5 : Ext w w5 := hxV.ofGrown hG5 (fun k hk => by cases hk; omega)
  have HRS := Lib.hid (row7_set (p0 := .string X) (p1 := .int .i64 op) (p2 := .int .i64 ma) (p3 := .int .i64 mb) (p4 := .int .i64 0) (p5 := .slice none 0 0) (p6 := .bool false) RZ5)
  clear zf R5 hG5 RV RZV
  go_wp2
  refine bodyPost_ret (results_st Tryz.results120 rfl rfl (load_fld HRS.out)) rfl ?_
  exact ⟨rfl, ((((((hx5.setCell (p := ⟨w.heap.size, 0, none⟩) (Nat.le_refl _) _).setCell (p := ⟨w.heap.size, 1, none⟩) (Nat.le_refl _) _).setCell (p := ⟨w.heap.size, 2, none⟩) (Nat.le_refl _) _).setCell (p := ⟨w.heap.size, 3, none⟩) (Nat.le_refl _) _).setCell (p := ⟨w.heap.size, 4, none⟩) (Nat.le_refl _) _).setCell (p := ⟨w.heap.size, 5, none⟩) (Nat.le_refl _) _).setCell (p := ⟨w.heap.size, 6, none⟩) (Nat.le_refl _) _⟩

set_option maxRecDepth 100000 in
set_option maxHeartbeats 1000000 in
theorem parseField2o_any (op : Int) (b o c : Nat) (X A B : ByteArray) (w : World) (hb : b < w.heap.size) (hc : 4 ≤ c) (hop4 : op ≠ 4) (c0 : w.cell? ⟨b, o, none⟩ = some (.string X)) (c1 : w.cell? ⟨b, o + 1, none⟩ = some (.string A)) (c2 : w.cell? ⟨b, o + 2, none⟩ = some (.string B)) (c3 : w.cell? ⟨b, o + 3, none⟩ = some (.string ⟨#[111, 112, 116, 105, 111, 110, 97, 108]⟩))
    (hA : A.size ≤ 1000000) (hB : B.size ≤ 1000000) (wA : Fm.written A.data.toList = true) (wB : Fm.written B.data.toList = true)
    (i1 : -1000000000000000 ≤ Fm.capOf A.data.toList) (i2 : Fm.capOf A.data.toList ≤ 1000000000000000) (i3 : -1000000000000000 ≤ Fm.capOf B.data.toList) (i4 : Fm.capOf B.data.toList ≤ 1000000000000000) :
    Calls Tryz.prog 120 #[.int .i64 op, .slice (some ⟨b, o, none⟩) 4 c] w fun e w' => e = .returned (.tuple #[.agg #[.string X, .int .i64 op, .int .i64 (Fm.capOf A.data.toList), .int .i64 (Fm.capOf B.data.toList), .int .i64 0, .slice none 0 0, .bool true], .nilIface]) ∧ Ext w w' := by
  have z4 : (op == 4) = false := beq_eq_false_iff_ne.2 hop4
  have S1 : ∀ w', (Instr.slice 37 (.slice (some ⟨b, o, none⟩) 4 c) (some (.int .i64 1)) none none).run Tryz.prog w' = .ok (.slice (some ⟨b, o + 1, none⟩) 3 (c - 1)) w' := fun w' => slice_from b o 4 c 1 (by omega) hc w'
  obtain ⟨V, hV⟩ : ∃ V, V = ((w.alloc (.cells #[.string ⟨#[]⟩, .int .i64 0, .int .i64 0, .int .i64 0, .int .i64 0, .slice none 0 0, .bool false] 39)).alloc (.cells #[.string X, .int .i64 op, .int .i64 0, .int .i64 0, .int .i64 0, .slice none 0 0, .bool true] 39)) := ⟨_, rfl⟩
  have RZ := heap_alloc_new w (.cells #[.string ⟨#[]⟩, .int .i64 0, .int .i64 0, .int .i64 0, .int .i64 0, .slice none 0 0, .bool false] 39)
  have RF := heap_alloc_new (w.alloc (.cells #[.string ⟨#[]⟩, .int .i64 0, .int .i64 0, .int .i64 0, .int .i64 0, .slice none 0 0, .bool false] 39)) (.cells #[.string X, .int .i64 op, .int .i64 0, .int .i64 0, .int .i64 0, .slice none 0 0, .bool true] 39)
  rw [World.size_alloc] at RF
  have RV : V.heap[w.heap.size + 1]? = some (.cells #[.string X, .int .i64 op, .int .i64 0, .int .i64 0, .int .i64 0, .slice none 0 0, .bool true] 39 (0, 0)) := by rw [hV]; exact RF
  have hZ2 := row_on RZ ((Ext.refl (w.alloc (.cells #[.string ⟨#[]⟩, .int .i64 0, .int .i64 0, .int .i64 0, .int .i64 0, .slice none 0 0, .bool false] 39))).alloc (.cells #[.string X, .int .i64 op, .int .i64 0, .int .i64 0, .int .i64 0, .slice none 0 0, .bool true] 39))
  have RZV : V.heap[w.heap.size]? = some (.cells #[.string ⟨#[]⟩, .int .i64 0, .int .i64 0, .int .i64 0, .int .i64 0, .slice none 0 0, .bool false] 39 (0, 0)) := by rw [hV]; exact hZ2
  have hxV : Ext w V := by rw [hV]; exact ((Ext.refl w).alloc _).alloc _
  have hbV : b < V.heap.size := Nat.lt_of_lt_of_le hb hxV.size
  have HVE := Lib.hid hV
  have S2 : ∀ w', (Instr.slice 37 (.slice (some ⟨b, o + 1, none⟩) 3 (c - 1)) none (some (.int .i64 2)) none).run Tryz.prog w' = .ok (.slice (some ⟨b, o + 1, none⟩) 2 (c - 1)) w' := fun w' => slice_to b (o + 1) 3 (c - 1) 2 (by omega) (by omega) w' 
  have HPB := Lib.hid (parseBounds2_any (w.heap.size + 1) X op 0 0 0 none 0 0 true b (o + 1) (c - 1) A B V RV (by omega) hbV (by omega) ((hxV.cell hb).trans c1) ((hxV.cell hb).trans c2) hA hB wA wB i1 i2 i3 i4)
  generalize (Fm.capOf A.data.toList) = ma at *
  generalize (Fm.capOf B.data.toList) = mb at *
  
  clear hV hZ2 RZ RF i1 i2 i3 i4 wA wB hop4 
  go_enter Tryz.func120, Tryz.ntmps120
  go_wp2_with fail
  rw [← HVE.out]
  refine HPB.out.mono ?_
  rintro e w5 ⟨rfl, R5, hG5⟩
  have RZ5 := (hG5.block w.heap.size (lt_at RZV) (by intro e; injection e with e; omega)).trans RZV
  obtain ⟨a0, a1, a2, a3, a4, a5, a6, -⟩ := all7 R5
  obtain ⟨z0, z1, z2, z3, z4', z5, z6, zf⟩ := all7 RZ5
  have f0 := zf 0
  have f1 := zf 1
  have f2 := zf 2
  have f3 := zf 3
  have f4 := zf 4
  have f5 := zf 5
  have f6 := zf 6
  have hx5 : Ext w w5 := hxV.ofGrown hG5 (fun k hk => by cases hk; omega)
  have HRS := Lib.hid (row7_set (p0 := .string X) (p1 := .int .i64 op) (p2 := .int .i64 ma) (p3 := .int .i64 mb) (p4 := .int .i64 0) (p5 := .slice none 0 0) (p6 := .bool true) RZ5)
  clear zf R5 hG5 RV RZV
  go_wp2
  refine bodyPost_ret (results_st Tryz.results120 rfl rfl (load_fld HRS.out)) rfl ?_
  exact ⟨rfl, ((((((hx5.setCell (p := ⟨w.heap.size, 0, none⟩) (Nat.le_refl _) _).setCell (p := ⟨w.heap.size, 1, none⟩) (Nat.le_refl _) _).setCell (p := ⟨w.heap.size, 2, none⟩) (Nat.le_refl _) _).setCell (p := ⟨w.heap.size, 3, none⟩) (Nat.le_refl _) _).setCell (p := ⟨w.heap.size, 4, none⟩) (Nat.le_refl _) _).setCell (p := ⟨w.heap.size, 5, none⟩) (Nat.le_refl _) _).setCell (p := ⟨w.heap.size, 6, none⟩) (Nat.le_refl _) _⟩

set_option maxRecDepth 100000 in
set_option maxHeartbeats 1000000 in
theorem parseField4n_any (op : Int) (b o c : Nat) (X A B C Y : ByteArray) (w : World) (hb : b < w.heap.size) (hc : 5 ≤ c) (hop4 : op ≠ 4) (c0 : w.cell? ⟨b, o, none⟩ = some (.string X)) (c1 : w.cell? ⟨b, o + 1, none⟩ = some (.string A)) (c2 : w.cell? ⟨b, o + 2, none⟩ = some (.string B)) (c3 : w.cell? ⟨b, o + 3, none⟩ = some (.string C)) (c4 : w.cell? ⟨b, o + 4, none⟩ = some (.string Y)) (hno : Y.data.toList ≠ Fm.tOpt)
    (hA : A.size ≤ 1000000) (hB : B.size ≤ 1000000) (wA : Fm.written A.data.toList = true) (wB : Fm.written B.data.toList = true) (hop : op = 1) (hC : C.data.toList = Fm.tChk) (hY : Fm.sysOf Y.data.toList ≠ 0)
    (i1 : -1000000000000000 ≤ Fm.capOf A.data.toList) (i2 : Fm.capOf A.data.toList ≤ 1000000000000000) (i3 : -1000000000000000 ≤ Fm.capOf B.data.toList) (i4 : Fm.capOf B.data.toList ≤ 1000000000000000) :
    Calls Tryz.prog 120 #[.int .i64 op, .slice (some ⟨b, o, none⟩) 5 c] w fun e w' => e = .returned (.tuple #[.agg #[.string X, .int .i64 op, .int .i64 (Fm.capOf A.data.toList), .int .i64 (Fm.capOf B.data.toList), .int .i64 (Fm.sysOf Y.data.toList), .slice none 0 0, .bool false], .nilIface]) ∧ Ext w w' := by
  have z4 : (op == 4) = false := beq_eq_false_iff_ne.2 hop4
  have S1 : ∀ w', (Instr.slice 37 (.slice (some ⟨b, o, none⟩) 5 c) (some (.int .i64 1)) none none).run Tryz.prog w' = .ok (.slice (some ⟨b, o + 1, none⟩) 4 (c - 1)) w' := fun w' => slice_from b o 5 c 1 (by omega) hc w'
  obtain ⟨V, hV⟩ : ∃ V, V = ((w.alloc (.cells #[.string ⟨#[]⟩, .int .i64 0, .int .i64 0, .int .i64 0, .int .i64 0, .slice none 0 0, .bool false] 39)).alloc (.cells #[.string X, .int .i64 op, .int .i64 0, .int .i64 0, .int .i64 0, .slice none 0 0, .bool false] 39)) := ⟨_, rfl⟩
  have RZ := heap_alloc_new w (.cells #[.string ⟨#[]⟩, .int .i64 0, .int .i64 0, .int .i64 0, .int .i64 0, .slice none 0 0, .bool false] 39)
  have RF := heap_alloc_new (w.alloc (.cells #[.string ⟨#[]⟩, .int .i64 0, .int .i64 0, .int .i64 0, .int .i64 0, .slice none 0 0, .bool false] 39)) (.cells #[.string X, .int .i64 op, .int .i64 0, .int .i64 0, .int .i64 0, .slice none 0 0, .bool false] 39)
  rw [World.size_alloc] at RF
  have RV : V.heap[w.heap.size + 1]? = some (.cells #[.string X, .int .i64 op, .int .i64 0, .int .i64 0, .int .i64 0, .slice none 0 0, .bool false] 39 (0, 0)) := by rw [hV]; exact RF
  have hZ2 := row_on RZ ((Ext.refl (w.alloc (.cells #[.string ⟨#[]⟩, .int .i64 0, .int .i64 0, .int .i64 0, .int .i64 0, .slice none 0 0, .bool false] 39))).alloc (.cells #[.string X, .int .i64 op, .int .i64 0, .int .i64 0, .int .i64 0, .slice none 0 0, .bool false] 39))
  have RZV : V.heap[w.heap.size]? = some (.cells #[.string ⟨#[]⟩, .int .i64 0, .int .i64 0, .int .i64 0, .int .i64 0, .slice none 0 0, .bool false] 39 (0, 0)) := by rw [hV]; exact hZ2
  have hxV : Ext w V := by rw [hV]; exact ((Ext.refl w).alloc _).alloc _
  have hbV : b < V.heap.size := Nat.lt_of_lt_of_le hb hxV.size
  have HVE := Lib.hid hV
  have q1 : (Y.toList == (⟨#[111, 112, 116, 105, 111, 110, 97, 108]⟩ : ByteArray).toList) = false := by
    rw [Lib.toList_data, Lib.toList_data]
    exact beq_eq_false_iff_ne.2 hno
  have q3 : (Y.toList == ([111, 112, 116, 105, 111, 110, 97, 108] : List UInt8)) = false := by rw [Lib.toList_data]; exact beq_eq_false_iff_ne.2 hno
  have q4 : decide (Y.toList = ([111, 112, 116, 105, 111, 110, 97, 108] : List UInt8)) = false := decide_eq_false (by rw [Lib.toList_data]; exact hno)
  have q5 : ¬ Y.toList = ([111, 112, 116, 105, 111, 110, 97, 108] : List UInt8) := by rw [Lib.toList_data]; exact hno
  have q2 : ¬ Y = ⟨#[111, 112, 116, 105, 111, 110, 97, 108]⟩ := fun e => hno (by rw [e]; rfl)
  have HPB := Lib.hid (parseBounds4_any (w.heap.size + 1) X op 0 0 0 none 0 0 false b (o + 1) (c - 1) A B C Y V RV (by omega) hbV (by omega) ((hxV.cell hb).trans c1) ((hxV.cell hb).trans c2) ((hxV.cell hb).trans c3) ((hxV.cell hb).trans c4) hA hB wA wB hop hC hY i1 i2 i3 i4)
  generalize (Fm.capOf A.data.toList) = ma at *
  generalize (Fm.capOf B.data.toList) = mb at *
  generalize (Fm.sysOf Y.data.toList) = sy at *
  clear hV hZ2 RZ RF i1 i2 i3 i4 wA wB hop4 hop hC hY
  go_enter Tryz.func120, Tryz.ntmps120
  go_wp2_with fail
  rw [← HVE.out]
  refine HPB.out.mono ?_
  rintro e w5 ⟨rfl, R5, hG5⟩
  have RZ5 := (hG5.block w.heap.size (lt_at RZV) (by intro e; injection e with e; omega)).trans RZV
  obtain ⟨a0, a1, a2, a3, a4, a5, a6, -⟩ := all7 R5
  obtain ⟨z0, z1, z2, z3, z4', z5, z6, zf⟩ := all7 RZ5
  have f0 := zf 0
  have f1 := zf 1
  have f2 := zf 2
  have f3 := zf 3
  have f4 := zf 4
  have f5 := zf 5
  have f6 := zf 6
  have hx5 : Ext w w5 := hxV.ofGrown hG5 (fun k hk => by cases hk; omega)
  have HRS := Lib.hid (row7_set (p0 := .string X) (p1 := .int .i64 op) (p2 := .int .i64 ma) (p3 := .int .i64 mb) (p4 := .int .i64 sy) (p5 := .slice none 0 0) (p6 := .bool false) RZ5)
  clear zf R5 hG5 RV RZV
  go_wp2
  refine bodyPost_ret (results_st Tryz.results120 rfl rfl (load_fld HRS.out)) rfl ?_
  exact ⟨rfl, ((((((hx5.setCell (p := ⟨w.heap.size, 0, none⟩) (Nat.le_refl _) _).setCell (p := ⟨w.heap.size, 1, none⟩) (Nat.le_refl _) _).setCell (p := ⟨w.heap.size, 2, none⟩) (Nat.le_refl _) _).setCell (p := ⟨w.heap.size, 3, none⟩) (Nat.le_refl _) _).setCell (p := ⟨w.heap.size, 4, none⟩) (Nat.le_refl _) _).setCell (p := ⟨w.heap.size, 5, none⟩) (Nat.le_refl _) _).setCell (p := ⟨w.heap.size, 6, none⟩) (Nat.le_refl _) _⟩

set_option maxRecDepth 100000 in
set_option maxHeartbeats 1000000 in
theorem parseField4o_any (op : Int) (b o c : Nat) (X A B C Y : ByteArray) (w : World) (hb : b < w.heap.size) (hc : 6 ≤ c) (hop4 : op ≠ 4) (c0 : w.cell? ⟨b, o, none⟩ = some (.string X)) (c1 : w.cell? ⟨b, o + 1, none⟩ = some (.string A)) (c2 : w.cell? ⟨b, o + 2, none⟩ = some (.string B)) (c3 : w.cell? ⟨b, o + 3, none⟩ = some (.string C)) (c4 : w.cell? ⟨b, o + 4, none⟩ = some (.string Y)) (c5 : w.cell? ⟨b, o + 5, none⟩ = some (.string ⟨#[111, 112, 116, 105, 111, 110, 97, 108]⟩))
    (hA : A.size ≤ 1000000) (hB : B.size ≤ 1000000) (wA : Fm.written A.data.toList = true) (wB : Fm.written B.data.toList = true) (hop : op = 1) (hC : C.data.toList = Fm.tChk) (hY : Fm.sysOf Y.data.toList ≠ 0)
    (i1 : -1000000000000000 ≤ Fm.capOf A.data.toList) (i2 : Fm.capOf A.data.toList ≤ 1000000000000000) (i3 : -1000000000000000 ≤ Fm.capOf B.data.toList) (i4 : Fm.capOf B.data.toList ≤ 1000000000000000) :
    Calls Tryz.prog 120 #[.int .i64 op, .slice (some ⟨b, o, none⟩) 6 c] w fun e w' => e = .returned (.tuple #[.agg #[.string X, .int .i64 op, .int .i64 (Fm.capOf A.data.toList), .int .i64 (Fm.capOf B.data.toList), .int .i64 (Fm.sysOf Y.data.toList), .slice none 0 0, .bool true], .nilIface]) ∧ Ext w w' := by
  have z4 : (op == 4) = false := beq_eq_false_iff_ne.2 hop4
  have S1 : ∀ w', (Instr.slice 37 (.slice (some ⟨b, o, none⟩) 6 c) (some (.int .i64 1)) none none).run Tryz.prog w' = .ok (.slice (some ⟨b, o + 1, none⟩) 5 (c - 1)) w' := fun w' => slice_from b o 6 c 1 (by omega) hc w'
  obtain ⟨V, hV⟩ : ∃ V, V = ((w.alloc (.cells #[.string ⟨#[]⟩, .int .i64 0, .int .i64 0, .int .i64 0, .int .i64 0, .slice none 0 0, .bool false] 39)).alloc (.cells #[.string X, .int .i64 op, .int .i64 0, .int .i64 0, .int .i64 0, .slice none 0 0, .bool true] 39)) := ⟨_, rfl⟩
  have RZ := heap_alloc_new w (.cells #[.string ⟨#[]⟩, .int .i64 0, .int .i64 0, .int .i64 0, .int .i64 0, .slice none 0 0, .bool false] 39)
  have RF := heap_alloc_new (w.alloc (.cells #[.string ⟨#[]⟩, .int .i64 0, .int .i64 0, .int .i64 0, .int .i64 0, .slice none 0 0, .bool false] 39)) (.cells #[.string X, .int .i64 op, .int .i64 0, .int .i64 0, .int .i64 0, .slice none 0 0, .bool true] 39)
  rw [World.size_alloc] at RF
  have RV : V.heap[w.heap.size + 1]? = some (.cells #[.string X, .int .i64 op, .int .i64 0, .int .i64 0, .int .i64 0, .slice none 0 0, .bool true] 39 (0, 0)) := by rw [hV]; exact RF
  have hZ2 := row_on RZ ((Ext.refl (w.alloc (.cells #[.string ⟨#[]⟩, .int .i64 0, .int .i64 0, .int .i64 0, .int .i64 0, .slice none 0 0, .bool false] 39))).alloc (.cells #[.string X, .int .i64 op, .int .i64 0, .int .i64 0, .int .i64 0, .slice none 0 0, .bool true] 39))
  have RZV : V.heap[w.heap.size]? = some (.cells #[.string ⟨#[]⟩, .int .i64 0, .int .i64 0, .int .i64 0, .int .i64 0, .slice none 0 0, .bool false] 39 (0, 0)) := by rw [hV]; exact hZ2
  have hxV : Ext w V := by rw [hV]; exact ((Ext.refl w).alloc _).alloc _
  have hbV : b < V.heap.size := Nat.lt_of_lt_of_le hb hxV.size
  have HVE := Lib.hid hV
  have S2 : ∀ w', (Instr.slice 37 (.slice (some ⟨b, o + 1, none⟩) 5 (c - 1)) none (some (.int .i64 4)) none).run Tryz.prog w' = .ok (.slice (some ⟨b, o + 1, none⟩) 4 (c - 1)) w' := fun w' => slice_to b (o + 1) 5 (c - 1) 4 (by omega) (by omega) w' 
  have HPB := Lib.hid (parseBounds4_any (w.heap.size + 1) X op 0 0 0 none 0 0 true b (o + 1) (c - 1) A B C Y V RV (by omega) hbV (by omega) ((hxV.cell hb).trans c1) ((hxV.cell hb).trans c2) ((hxV.cell hb).trans c3) ((hxV.cell hb).trans c4) hA hB wA wB hop hC hY i1 i2 i3 i4)
  generalize (Fm.capOf A.data.toList) = ma at *
  generalize (Fm.capOf B.data.toList) = mb at *
  generalize (Fm.sysOf Y.data.toList) = sy at *
  clear hV hZ2 RZ RF i1 i2 i3 i4 wA wB hop4 hop hC hY
  go_enter Tryz.func120, Tryz.ntmps120
  go_wp2_with fail
  rw [← HVE.out]
  refine HPB.out.mono ?_
  rintro e w5 ⟨rfl, R5, hG5⟩
  have RZ5 := (hG5.block w.heap.size (lt_at RZV) (by intro e; injection e with e; omega)).trans RZV
  obtain ⟨a0, a1, a2, a3, a4, a5, a6, -⟩ := all7 R5
  obtain ⟨z0, z1, z2, z3, z4', z5, z6, zf⟩ := all7 RZ5
  have f0 := zf 0
  have f1 := zf 1
  have f2 := zf 2
  have f3 := zf 3
  have f4 := zf 4
  have f5 := zf 5
  have f6 := zf 6
  have hx5 : Ext w w5 := hxV.ofGrown hG5 (fun k hk => by cases hk; omega)
  have HRS := Lib.hid (row7_set (p0 := .string X) (p1 := .int .i64 op) (p2 := .int .i64 ma) (p3 := .int .i64 mb) (p4 := .int .i64 sy) (p5 := .slice none 0 0) (p6 := .bool true) RZ5)
  clear zf R5 hG5 RV RZV
  go_wp2
  refine bodyPost_ret (results_st Tryz.results120 rfl rfl (load_fld HRS.out)) rfl ?_
  exact ⟨rfl, ((((((hx5.setCell (p := ⟨w.heap.size, 0, none⟩) (Nat.le_refl _) _).setCell (p := ⟨w.heap.size, 1, none⟩) (Nat.le_refl _) _).setCell (p := ⟨w.heap.size, 2, none⟩) (Nat.le_refl _) _).setCell (p := ⟨w.heap.size, 3, none⟩) (Nat.le_refl _) _).setCell (p := ⟨w.heap.size, 4, none⟩) (Nat.le_refl _) _).setCell (p := ⟨w.heap.size, 5, none⟩) (Nat.le_refl _) _).setCell (p := ⟨w.heap.size, 6, none⟩) (Nat.le_refl _) _⟩

end Go.Proofs.YtkpfehfcgpapiaaGreatDoor

/-
  Chapter 51: a choice's line: the program, where the words are right.
  No condition.
-/
namespace Go.Proofs.YtkpfehfcgpapiaaGreatDoor
set_option linter.unusedVariables false
open Go.RowKit

theorem KOwn.far {α : Type} {T : TypeId} {k : Nat} {enc : α → List Value} {w : World} {B : Nat} {v : Value} {xs : List α} (h : KOwn T k enc w B v xs) {g i : Nat} (hg : g < B) (u : Value) : KOwn T k enc (w.setCell ⟨g, i, none⟩ u) B v xs := by
  refine h.kept (grown_set w g i u) ?_
  cases hv : v.ownBlock with
  | none => exact .inl rfl
  | some b =>
    have := h.low b hv
    exact .inr (by intro e; injection e with e; omega)
/-- A slice of strings, cut at its front. -/
theorem strs_from {w : World} {b o n c : Nat} {l : List Fm.S} (h : StrsR w (.slice (some ⟨b, o, none⟩) n c) l) (lo : Nat) (h1 : lo < n) : StrsR w (.slice (some ⟨b, o + lo, none⟩) (n - lo) (c - lo)) (l.drop lo) := by
  obtain ⟨a', c', he, hcl⟩ := h.form
  injection he with e1 e2 e3
  subst e3
  have hs := sliced_strs (lo := lo) (hi := l.length) (by rw [← e2]; exact h) (by omega) (Nat.le_refl _)
  have e : sliced (some ⟨b, o, none⟩) lo l.length c 1 = .slice (some ⟨b, o + lo, none⟩) (n - lo) (c - lo) := by
    unfold sliced
    rw [if_neg (by omega), Nat.mul_one, e2]
    simp [add_off]
  rw [e, List.take_of_length_le (by rw [List.length_drop]; exact Nat.le_refl _)] at hs
  exact hs
theorem strs_to {w : World} {b o n c : Nat} {l : List Fm.S} (h : StrsR w (.slice (some ⟨b, o, none⟩) n c) l) (hi : Nat) (h1 : hi ≤ n) (h0 : 0 < c) : StrsR w (.slice (some ⟨b, o, none⟩) hi c) (l.take hi) := by
  obtain ⟨a', c', he, hcl⟩ := h.form
  injection he with e1 e2 e3
  subst e3
  have hs := sliced_strs (lo := 0) (hi := hi) (by rw [← e2]; exact h) (Nat.zero_le _) (by omega)
  have e : sliced (some ⟨b, o, none⟩) 0 hi c 1 = .slice (some ⟨b, o, none⟩) hi c := by
    unfold sliced
    rw [if_neg (by omega)]
    simp [add_off]
  rw [e, List.drop_zero, Nat.sub_zero] at hs
  exact hs

set_option maxRecDepth 100000 in
set_option maxHeartbeats 1000000 in
theorem parseFieldCn_any (b o c k : Nat) (X : ByteArray) (chs : List Fm.S) (w : World) (hl : StrsR w (.slice (some ⟨b, o, none⟩) (k + 1) c) (X.data.toList :: chs)) (hk : chs.length = k) (hk0 : 0 < k) (hk1 : k ≤ 1000000) (hno : ∀ z, chs.getLast? = some z → z ≠ Fm.tOpt) :
    Calls Tryz.prog 120 #[.int .i64 4, .slice (some ⟨b, o, none⟩) (k + 1) c] w fun e w' => (∃ v, e = .returned (.tuple #[.agg #[.string X, .int .i64 4, .int .i64 0, .int .i64 0, .int .i64 0, v, .bool false], .nilIface]) ∧ KOwn 9 1 enc1 w' w.heap.size v chs) ∧ Ext w w' := by
  obtain ⟨a', c', he, hcl⟩ := hl.form
  injection he with e1 e2 e3
  subst e3
  rw [← e2] at hcl
  clear e1 e2
  obtain ⟨b, o, X0, ha0, hb, hX0, c0⟩ := hl.here (Ext.refl w) (i := 0) (s := X.data.toList) rfl
  injection ha0 with ha0
  injection ha0 with ha1 ha2
  subst ha1 ha2
  obtain rfl : X = X0 := bytes_ext hX0
  rw [Nat.add_zero] at c0
  obtain ⟨N, hN⟩ : ∃ N, N = k + 1 := ⟨_, rfl⟩
  obtain ⟨N1, hN1⟩ : ∃ N1, N1 = k := ⟨_, rfl⟩
  obtain ⟨J, hJ⟩ : ∃ J, J = k - 1 := ⟨_, rfl⟩
  rw [← hN] at hl hcl ⊢
  have hJ1 : (N1 : Int) - 1 = (J : Int) := by omega
  have hN2 : ¬ (N : Int) < 2 := by omega
  have hJI : (J : Int) < (N1 : Int) := by omega
  have hN1c : N - 1 = N1 := by omega
  have hN0 : 0 < N := by omega
  have hJb : J ≤ 1000000 := by omega
  have hNb1 : N1 ≤ 1000001 := by omega
  have hJN : J < N1 := by omega
  have hN2b : decide ((N : Int) < 2) = false := decide_eq_false hN2
  have hJ0' : (0 : Int) ≤ (J : Int) := by omega
  have S1 : ∀ w', (Instr.slice 37 (.slice (some ⟨b, o, none⟩) N c) (some (.int .i64 1)) none none).run Tryz.prog w' = .ok (.slice (some ⟨b, o + 1, none⟩) N1 (c - 1)) w' := fun w' => by rw [← hN1c]; exact slice_from b o N c 1 (by omega) hcl w'
  have hl1 := strs_from hl 1 (by omega)
  rw [hN1c] at hl1
  replace hl1 : StrsR w (.slice (some ⟨b, o + 1, none⟩) N1 (c - 1)) (chs) := hl1
  obtain ⟨V, hV⟩ : ∃ V, V = ((w.alloc (.cells #[.string ⟨#[]⟩, .int .i64 0, .int .i64 0, .int .i64 0, .int .i64 0, .slice none 0 0, .bool false] 39)).alloc (.cells #[.string X, .int .i64 4, .int .i64 0, .int .i64 0, .int .i64 0, .slice none 0 0, .bool false] 39)) := ⟨_, rfl⟩
  have RZ := heap_alloc_new w (.cells #[.string ⟨#[]⟩, .int .i64 0, .int .i64 0, .int .i64 0, .int .i64 0, .slice none 0 0, .bool false] 39)
  have RF := heap_alloc_new (w.alloc (.cells #[.string ⟨#[]⟩, .int .i64 0, .int .i64 0, .int .i64 0, .int .i64 0, .slice none 0 0, .bool false] 39)) (.cells #[.string X, .int .i64 4, .int .i64 0, .int .i64 0, .int .i64 0, .slice none 0 0, .bool false] 39)
  rw [World.size_alloc] at RF
  have RV : V.heap[w.heap.size + 1]? = some (.cells #[.string X, .int .i64 4, .int .i64 0, .int .i64 0, .int .i64 0, .slice none 0 0, .bool false] 39 (0, 0)) := by rw [hV]; exact RF
  have RZV : V.heap[w.heap.size]? = some (.cells #[.string ⟨#[]⟩, .int .i64 0, .int .i64 0, .int .i64 0, .int .i64 0, .slice none 0 0, .bool false] 39 (0, 0)) := by rw [hV]; exact row_on RZ ((Ext.refl _).alloc _)
  have hxV : Ext w V := by rw [hV]; exact ((Ext.refl w).alloc _).alloc _
  have HVE := Lib.hid hV
  obtain ⟨z, hz⟩ : ∃ z, chs[J]? = some z := ⟨_, List.getElem?_eq_getElem (by rw [hk]; omega)⟩
  have hzl : z ≠ Fm.tOpt := hno z (by rw [List.getLast?_eq_getElem?, hk, ← hJ]; exact hz)
  obtain ⟨b1, o1, Z, ha1, hb1, rfl, cZ⟩ := hl1.here (Ext.refl w) (i := J) hz
  injection ha1 with ha1
  injection ha1 with q1 q2
  subst q1 q2
  have q1 : (Z.toList == (⟨#[111, 112, 116, 105, 111, 110, 97, 108]⟩ : ByteArray).toList) = false := by rw [Lib.toList_data, Lib.toList_data]; exact beq_eq_false_iff_ne.2 hzl
  have q3 : (Z.toList == ([111, 112, 116, 105, 111, 110, 97, 108] : List UInt8)) = false := by rw [Lib.toList_data]; exact beq_eq_false_iff_ne.2 hzl
  have q4 : decide (Z.toList = ([111, 112, 116, 105, 111, 110, 97, 108] : List UInt8)) = false := decide_eq_false (by rw [Lib.toList_data]; exact hzl)
  have q5 : ¬ Z.toList = ([111, 112, 116, 105, 111, 110, 97, 108] : List UInt8) := by rw [Lib.toList_data]; exact hzl
  have hl2 := hl1
  have hJ0 : ((N1 : Int) == 0) = false := by rw [beq_eq_false_iff_ne]; omega
  clear hz hzl hl1
  obtain ⟨v5, w5, hrun, ho5, hg5⟩ := run_append_sl (w := V) (w.heap.size + 2) (.slice none 0 0) [] (KOwn.nil _ _ _ _ _) (some ⟨b, o + 1, none⟩) N1 (c - 1) chs (hl2.ext hxV) (by omega) (by simp; omega) (by have := lt_at RV; omega)
  rw [List.nil_append] at ho5
  obtain ⟨q5, n5, c5, rfl⟩ : ∃ q n c, v5 = .slice q n c := by
    obtain ⟨q, c, e, -⟩ := (KOwn.strs ho5).form
    exact ⟨_, _, _, e⟩
  rw [hV] at hrun
  have R5 := (hg5.block (w.heap.size + 1) (lt_at RV) (by intro e; cases e)).trans RV
  have RZ5 := (hg5.block w.heap.size (lt_at RZV) (by intro e; cases e)).trans RZV
  have fr5 : w5.frozen? ⟨w.heap.size + 1, 5, none⟩ = false := frz_at R5
  have cl5 : w5.cell? ⟨w.heap.size + 1, 5, none⟩ = some (.slice none 0 0) := cell_at R5 rfl
  have R6 : (w5.setCell ⟨w.heap.size + 1, 5, none⟩ (.slice q5 n5 c5)).heap[w.heap.size + 1]? = some (.cells #[.string X, .int .i64 4, .int .i64 0, .int .i64 0, .int .i64 0, .slice q5 n5 c5, .bool false] 39 (0, 0)) := heap_set R5
  have RZ6 := far1 (b := w.heap.size + 1) (g := w.heap.size) (i := 5) (u := (.slice q5 n5 c5)) (by omega) RZ5
  obtain ⟨a0, a1, a2, a3, a4, a5, a6, -⟩ := all7 R6
  obtain ⟨z0, z1, z2, z3, z4', z5, z6, zf⟩ := all7 RZ6
  have f0 := zf 0
  have f1 := zf 1
  have f2 := zf 2
  have f3 := zf 3
  have f4 := zf 4
  have f5 := zf 5
  have f6 := zf 6
  have hx6 : Ext w (w5.setCell ⟨w.heap.size + 1, 5, none⟩ (.slice q5 n5 c5)) := (hxV.ofGrown hg5 (fun k hk => by cases hk)).setCell (p := ⟨w.heap.size + 1, 5, none⟩) (by simp) _
  have HRS := Lib.hid (row7_set (p0 := .string X) (p1 := .int .i64 4) (p2 := .int .i64 0) (p3 := .int .i64 0) (p4 := .int .i64 0) (p5 := (.slice q5 n5 c5)) (p6 := .bool false) RZ6)
  have HST := Lib.hid (KOwn.mono (B' := w.heap.size) (((((((((KOwn.far ho5 (g := w.heap.size + 1) (i := 5) (by omega) (.slice q5 n5 c5)).far (g := w.heap.size) (i := 0) (by omega) (.string X)).far (g := w.heap.size) (i := 1) (by omega) (.int .i64 4)).far (g := w.heap.size) (i := 2) (by omega) (.int .i64 0)).far (g := w.heap.size) (i := 3) (by omega) (.int .i64 0)).far (g := w.heap.size) (i := 4) (by omega) (.int .i64 0)).far (g := w.heap.size) (i := 5) (by omega) (.slice q5 n5 c5)).far (g := w.heap.size) (i := 6) (by omega) (.bool false))) (by omega))
  clear zf hV RZ RF RV RZV R5 RZ5 R6 RZ6 ho5 hg5 hl hl2 hcl hk hN hN1 hJ hN1c hX0
  go_enter Tryz.func120, Tryz.ntmps120
  go_wp2_with (at_builtin; refine wpList_append_run rfl _ _ 37 rfl rfl _ _ rfl rfl _ _ hrun ?_)
  try go_wp2
  refine bodyPost_ret (results_st Tryz.results120 rfl rfl (load_fld HRS.out)) rfl ?_
  exact ⟨⟨(.slice q5 n5 c5), rfl, HST.out⟩, ((((((hx6.setCell (p := ⟨w.heap.size, 0, none⟩) (Nat.le_refl _) _).setCell (p := ⟨w.heap.size, 1, none⟩) (Nat.le_refl _) _).setCell (p := ⟨w.heap.size, 2, none⟩) (Nat.le_refl _) _).setCell (p := ⟨w.heap.size, 3, none⟩) (Nat.le_refl _) _).setCell (p := ⟨w.heap.size, 4, none⟩) (Nat.le_refl _) _).setCell (p := ⟨w.heap.size, 5, none⟩) (Nat.le_refl _) _).setCell (p := ⟨w.heap.size, 6, none⟩) (Nat.le_refl _) _⟩

set_option maxRecDepth 100000 in
set_option maxHeartbeats 1000000 in
theorem parseFieldCo_any (b o c k : Nat) (X : ByteArray) (chs : List Fm.S) (w : World) (hl : StrsR w (.slice (some ⟨b, o, none⟩) (k + 2) c) (X.data.toList :: chs ++ [Fm.tOpt])) (hk : chs.length = k) (hk0 : 0 < k) (hk1 : k ≤ 1000000) :
    Calls Tryz.prog 120 #[.int .i64 4, .slice (some ⟨b, o, none⟩) (k + 2) c] w fun e w' => (∃ v, e = .returned (.tuple #[.agg #[.string X, .int .i64 4, .int .i64 0, .int .i64 0, .int .i64 0, v, .bool true], .nilIface]) ∧ KOwn 9 1 enc1 w' w.heap.size v chs) ∧ Ext w w' := by
  obtain ⟨a', c', he, hcl⟩ := hl.form
  injection he with e1 e2 e3
  subst e3
  rw [← e2] at hcl
  clear e1 e2
  obtain ⟨b, o, X0, ha0, hb, hX0, c0⟩ := hl.here (Ext.refl w) (i := 0) (s := X.data.toList) rfl
  injection ha0 with ha0
  injection ha0 with ha1 ha2
  subst ha1 ha2
  obtain rfl : X = X0 := bytes_ext hX0
  rw [Nat.add_zero] at c0
  obtain ⟨N, hN⟩ : ∃ N, N = k + 2 := ⟨_, rfl⟩
  obtain ⟨N1, hN1⟩ : ∃ N1, N1 = k + 1 := ⟨_, rfl⟩
  obtain ⟨J, hJ⟩ : ∃ J, J = k := ⟨_, rfl⟩
  rw [← hN] at hl hcl ⊢
  have hJ1 : (N1 : Int) - 1 = (J : Int) := by omega
  have hN2 : ¬ (N : Int) < 2 := by omega
  have hJI : (J : Int) < (N1 : Int) := by omega
  have hN1c : N - 1 = N1 := by omega
  have hN0 : 0 < N := by omega
  have hJb : J ≤ 1000000 := by omega
  have hNb1 : N1 ≤ 1000001 := by omega
  have hJN : J < N1 := by omega
  have hN2b : decide ((N : Int) < 2) = false := decide_eq_false hN2
  have hJ0' : (0 : Int) ≤ (J : Int) := by omega
  have S1 : ∀ w', (Instr.slice 37 (.slice (some ⟨b, o, none⟩) N c) (some (.int .i64 1)) none none).run Tryz.prog w' = .ok (.slice (some ⟨b, o + 1, none⟩) N1 (c - 1)) w' := fun w' => by rw [← hN1c]; exact slice_from b o N c 1 (by omega) hcl w'
  have hl1 := strs_from hl 1 (by omega)
  rw [hN1c] at hl1
  replace hl1 : StrsR w (.slice (some ⟨b, o + 1, none⟩) N1 (c - 1)) (chs ++ [Fm.tOpt]) := hl1
  obtain ⟨V, hV⟩ : ∃ V, V = ((w.alloc (.cells #[.string ⟨#[]⟩, .int .i64 0, .int .i64 0, .int .i64 0, .int .i64 0, .slice none 0 0, .bool false] 39)).alloc (.cells #[.string X, .int .i64 4, .int .i64 0, .int .i64 0, .int .i64 0, .slice none 0 0, .bool true] 39)) := ⟨_, rfl⟩
  have RZ := heap_alloc_new w (.cells #[.string ⟨#[]⟩, .int .i64 0, .int .i64 0, .int .i64 0, .int .i64 0, .slice none 0 0, .bool false] 39)
  have RF := heap_alloc_new (w.alloc (.cells #[.string ⟨#[]⟩, .int .i64 0, .int .i64 0, .int .i64 0, .int .i64 0, .slice none 0 0, .bool false] 39)) (.cells #[.string X, .int .i64 4, .int .i64 0, .int .i64 0, .int .i64 0, .slice none 0 0, .bool true] 39)
  rw [World.size_alloc] at RF
  have RV : V.heap[w.heap.size + 1]? = some (.cells #[.string X, .int .i64 4, .int .i64 0, .int .i64 0, .int .i64 0, .slice none 0 0, .bool true] 39 (0, 0)) := by rw [hV]; exact RF
  have RZV : V.heap[w.heap.size]? = some (.cells #[.string ⟨#[]⟩, .int .i64 0, .int .i64 0, .int .i64 0, .int .i64 0, .slice none 0 0, .bool false] 39 (0, 0)) := by rw [hV]; exact row_on RZ ((Ext.refl _).alloc _)
  have hxV : Ext w V := by rw [hV]; exact ((Ext.refl w).alloc _).alloc _
  have HVE := Lib.hid hV
  obtain ⟨b1, o1, Z, ha1, hb1, hZ, cZ⟩ := hl1.here (Ext.refl w) (i := J) (s := Fm.tOpt) (by rw [hJ, ← hk, List.getElem?_append_right (Nat.le_refl _), Nat.sub_self]; rfl)
  injection ha1 with ha1
  injection ha1 with q1 q2
  subst q1 q2
  obtain rfl : Z = ⟨#[111, 112, 116, 105, 111, 110, 97, 108]⟩ := bytes_ext hZ.symm
  have S2 : ∀ w', (Instr.slice 37 (.slice (some ⟨b, o + 1, none⟩) N1 (c - 1)) none (some (.int .i64 (J : Int))) none).run Tryz.prog w' = .ok (.slice (some ⟨b, o + 1, none⟩) J (c - 1)) w' := fun w' => slice_to b (o + 1) N1 (c - 1) J (by omega) (by omega) w' (by omega)
  have hl2 := strs_to hl1 J (by omega) (by omega)
  rw [show (chs ++ [Fm.tOpt]).take J = chs by rw [hJ, ← hk, List.take_left]] at hl2
  have hJ0 : ((J : Int) == 0) = false := by rw [beq_eq_false_iff_ne]; omega
  clear hZ hl1
  obtain ⟨v5, w5, hrun, ho5, hg5⟩ := run_append_sl (w := V) (w.heap.size + 2) (.slice none 0 0) [] (KOwn.nil _ _ _ _ _) (some ⟨b, o + 1, none⟩) J (c - 1) chs (hl2.ext hxV) (by omega) (by simp; omega) (by have := lt_at RV; omega)
  rw [List.nil_append] at ho5
  obtain ⟨q5, n5, c5, rfl⟩ : ∃ q n c, v5 = .slice q n c := by
    obtain ⟨q, c, e, -⟩ := (KOwn.strs ho5).form
    exact ⟨_, _, _, e⟩
  rw [hV] at hrun
  have R5 := (hg5.block (w.heap.size + 1) (lt_at RV) (by intro e; cases e)).trans RV
  have RZ5 := (hg5.block w.heap.size (lt_at RZV) (by intro e; cases e)).trans RZV
  have fr5 : w5.frozen? ⟨w.heap.size + 1, 5, none⟩ = false := frz_at R5
  have cl5 : w5.cell? ⟨w.heap.size + 1, 5, none⟩ = some (.slice none 0 0) := cell_at R5 rfl
  have R6 : (w5.setCell ⟨w.heap.size + 1, 5, none⟩ (.slice q5 n5 c5)).heap[w.heap.size + 1]? = some (.cells #[.string X, .int .i64 4, .int .i64 0, .int .i64 0, .int .i64 0, .slice q5 n5 c5, .bool true] 39 (0, 0)) := heap_set R5
  have RZ6 := far1 (b := w.heap.size + 1) (g := w.heap.size) (i := 5) (u := (.slice q5 n5 c5)) (by omega) RZ5
  obtain ⟨a0, a1, a2, a3, a4, a5, a6, -⟩ := all7 R6
  obtain ⟨z0, z1, z2, z3, z4', z5, z6, zf⟩ := all7 RZ6
  have f0 := zf 0
  have f1 := zf 1
  have f2 := zf 2
  have f3 := zf 3
  have f4 := zf 4
  have f5 := zf 5
  have f6 := zf 6
  have hx6 : Ext w (w5.setCell ⟨w.heap.size + 1, 5, none⟩ (.slice q5 n5 c5)) := (hxV.ofGrown hg5 (fun k hk => by cases hk)).setCell (p := ⟨w.heap.size + 1, 5, none⟩) (by simp) _
  have HRS := Lib.hid (row7_set (p0 := .string X) (p1 := .int .i64 4) (p2 := .int .i64 0) (p3 := .int .i64 0) (p4 := .int .i64 0) (p5 := (.slice q5 n5 c5)) (p6 := .bool true) RZ6)
  have HST := Lib.hid (KOwn.mono (B' := w.heap.size) (((((((((KOwn.far ho5 (g := w.heap.size + 1) (i := 5) (by omega) (.slice q5 n5 c5)).far (g := w.heap.size) (i := 0) (by omega) (.string X)).far (g := w.heap.size) (i := 1) (by omega) (.int .i64 4)).far (g := w.heap.size) (i := 2) (by omega) (.int .i64 0)).far (g := w.heap.size) (i := 3) (by omega) (.int .i64 0)).far (g := w.heap.size) (i := 4) (by omega) (.int .i64 0)).far (g := w.heap.size) (i := 5) (by omega) (.slice q5 n5 c5)).far (g := w.heap.size) (i := 6) (by omega) (.bool true))) (by omega))
  clear zf hV RZ RF RV RZV R5 RZ5 R6 RZ6 ho5 hg5 hl hl2 hcl hk hN hN1 hJ hN1c hX0
  go_enter Tryz.func120, Tryz.ntmps120
  go_wp2_with (at_builtin; refine wpList_append_run rfl _ _ 37 rfl rfl _ _ rfl rfl _ _ hrun ?_)
  try go_wp2
  refine bodyPost_ret (results_st Tryz.results120 rfl rfl (load_fld HRS.out)) rfl ?_
  exact ⟨⟨(.slice q5 n5 c5), rfl, HST.out⟩, ((((((hx6.setCell (p := ⟨w.heap.size, 0, none⟩) (Nat.le_refl _) _).setCell (p := ⟨w.heap.size, 1, none⟩) (Nat.le_refl _) _).setCell (p := ⟨w.heap.size, 2, none⟩) (Nat.le_refl _) _).setCell (p := ⟨w.heap.size, 3, none⟩) (Nat.le_refl _) _).setCell (p := ⟨w.heap.size, 4, none⟩) (Nat.le_refl _) _).setCell (p := ⟨w.heap.size, 5, none⟩) (Nat.le_refl _) _).setCell (p := ⟨w.heap.size, 6, none⟩) (Nat.le_refl _) _⟩

end Go.Proofs.YtkpfehfcgpapiaaGreatDoor

/-
  Chapter 51: a field's line, of whatever kind: the program, where the words are right.
  No condition.
-/
namespace Go.Proofs.YtkpfehfcgpapiaaGreatDoor
set_option linter.unusedVariables false
open Go.RowKit

theorem strs_at {w : World} {a : Option Addr} {n c : Nat} {l : List Fm.S} (h : StrsR w (.slice a n c) l) {i : Nat} {s : Fm.S} (hi : l[i]? = some s) :
    ∃ b o, a = some ⟨b, o, none⟩ ∧ b < w.heap.size ∧ w.cell? ⟨b, o + i, none⟩ = some (.string ⟨s.toArray⟩) := by
  obtain ⟨b, o, X, e, hb, rfl, hc⟩ := h.here (Ext.refl w) hi
  exact ⟨b, o, e, hb, hc⟩
theorem strs_cell {w : World} {b o n c : Nat} {l : List Fm.S} (h : StrsR w (.slice (some ⟨b, o, none⟩) n c) l) {i : Nat} {s : Fm.S} (hi : l[i]? = some s) : w.cell? ⟨b, o + i, none⟩ = some (.string ⟨s.toArray⟩) := by
  obtain ⟨b1, o1, e, -, hc⟩ := strs_at h hi
  injection e with e
  injection e with e1 e2
  subst e1 e2
  exact hc
theorem Fm.opt_form {l : List Fm.S} (h : Fm.isOpt l = true) : ∃ m, l = m ++ [Fm.tOpt] := by
  unfold Fm.isOpt at h
  exact List.getLast?_eq_some_iff.1 (beq_iff_eq.1 h)
theorem Fm.isOpt_snoc (m : List Fm.S) : Fm.isOpt (m ++ [Fm.tOpt]) = true := by unfold Fm.isOpt; rw [List.getLast?_concat]; exact beq_self_eq_true _
theorem Fm.cutOpt_snoc (m : List Fm.S) : Fm.cutOpt (m ++ [Fm.tOpt]) = m := by unfold Fm.cutOpt; rw [Fm.isOpt_snoc, if_pos rfl, List.dropLast_concat]
theorem Fm.cutOpt_no {l : List Fm.S} (h : Fm.isOpt l = false) : Fm.cutOpt l = l := by unfold Fm.cutOpt; rw [h]; rfl
theorem Fm.last_no {l : List Fm.S} (h : Fm.isOpt l = false) (z : Fm.S) (hz : l.getLast? = some z) : z ≠ Fm.tOpt := by
  rintro rfl
  unfold Fm.isOpt at h
  rw [hz, beq_self_eq_true] at h
  cases h
/-- What a field's words bring. -/
def FldOut (f : Fm.Fld) (w : World) (e : Ending) (w' : World) : Prop := (∃ y : Lie, e = .returned (.tuple #[.agg (encF (f, y)).toArray, .nilIface]) ∧ KOwn 9 1 enc1 w' w.heap.size (lieV y) f.chs) ∧ Ext w w'
theorem parseField_any (op : Int) (v : Value) (ws : List Fm.S) (f : Fm.Fld) (w : World) (hv : StrsR w v ws) (hf : Fm.fldOf op ws = some f) (hs : ∀ s ∈ ws, s.length ≤ 1000000) (hn : ws.length ≤ 1000000) :
    Calls Tryz.prog 120 #[.int .i64 op, v] w (FldOut f w) := by
  obtain ⟨a, c, rfl, hc⟩ := hv.form
  cases ws with
  | nil => cases hf
  | cons nm l =>
    obtain ⟨b, o, rfl, hb, c0⟩ := strs_at hv (i := 0) (s := nm) rfl
    rw [Nat.add_zero] at c0
    simp only [Fm.fldOf] at hf
    by_cases hl : l = []
    · rw [if_pos hl] at hf; cases hf
    rw [if_neg hl] at hf
    by_cases h4 : op = 4
    · subst h4
      rw [if_pos rfl] at hf
      by_cases h0 : Fm.cutOpt l = []
      · rw [if_pos h0] at hf; cases hf
      rw [if_neg h0] at hf
      injection hf with hf
      subst hf
      cases ho : Fm.isOpt l with
      | false =>
        rw [Fm.cutOpt_no ho]
        refine (parseFieldCn_any b o c l.length ⟨nm.toArray⟩ l w hv rfl (List.length_pos_iff.2 hl) (by rw [List.length_cons] at hn; omega) (fun z hz => Fm.last_no ho z hz)).mono ?_
        rintro e w' ⟨⟨v, rfl, hst⟩, hx⟩
        obtain ⟨a', c', rfl, -⟩ := (KOwn.strs hst).form
        exact ⟨⟨(a', _, c'), rfl, hst⟩, hx⟩
      | true =>
        obtain ⟨m, rfl⟩ := Fm.opt_form ho
        rw [Fm.cutOpt_snoc] at h0 ⊢
        have e2 : (nm :: (m ++ [Fm.tOpt])).length = m.length + 2 := by rw [List.length_cons, List.length_append]; rfl
        rw [e2] at hv hn ⊢
        refine (parseFieldCo_any b o c m.length ⟨nm.toArray⟩ m w hv rfl (List.length_pos_iff.2 h0) (by omega)).mono ?_
        rintro e w' ⟨⟨v, rfl, hst⟩, hx⟩
        obtain ⟨a', c', rfl, -⟩ := (KOwn.strs hst).form
        exact ⟨⟨(a', _, c'), rfl, hst⟩, hx⟩
    · rw [if_neg h4] at hf
      cases ho : Fm.isOpt l with
      | false =>
        rw [ho, Fm.cutOpt_no ho] at hf
        unfold Fm.bndOf at hf
        split at hf
        · next A B =>
          split at hf
          · next hcond =>
            injection hf with hf
            subst hf
            simp only [Fm.inB, Fm.great, Bool.and_eq_true] at hcond
            obtain ⟨⟨wA, wB⟩, ⟨⟨i1, i2⟩, i3⟩, i4⟩ := hcond
            refine (parseField2n_any op b o c ⟨nm.toArray⟩ ⟨A.toArray⟩ ⟨B.toArray⟩ w hb hc h4 c0 (strs_cell hv (i := 1) rfl) (strs_cell hv (i := 2) rfl) (Fm.last_no ho _ rfl) (hs A (by simp)) (hs B (by simp)) wA wB (of_decide_eq_true i1) (of_decide_eq_true i2) (of_decide_eq_true i3) (of_decide_eq_true i4)).mono ?_
            rintro e w' ⟨rfl, hx⟩
            exact ⟨⟨(none, 0, 0), rfl, KOwn.nil _ _ _ _ _⟩, hx⟩
          · cases hf
        · next A B C Y =>
          split at hf
          · next hcond =>
            injection hf with hf
            subst hf
            simp only [Fm.inB, Fm.great, Bool.and_eq_true, beq_iff_eq, Bool.not_eq_true', beq_eq_false_iff_ne] at hcond
            obtain ⟨⟨⟨⟨⟨wA, wB⟩, hop⟩, hC⟩, hY⟩, ⟨⟨i1, i2⟩, i3⟩, i4⟩ := hcond
            refine (parseField4n_any op b o c ⟨nm.toArray⟩ ⟨A.toArray⟩ ⟨B.toArray⟩ ⟨C.toArray⟩ ⟨Y.toArray⟩ w hb hc h4 c0 (strs_cell hv (i := 1) rfl) (strs_cell hv (i := 2) rfl) (strs_cell hv (i := 3) rfl) (strs_cell hv (i := 4) rfl) (Fm.last_no ho _ rfl) (hs A (by simp)) (hs B (by simp)) wA wB hop hC hY (of_decide_eq_true i1) (of_decide_eq_true i2) (of_decide_eq_true i3) (of_decide_eq_true i4)).mono ?_
            rintro e w' ⟨rfl, hx⟩
            exact ⟨⟨(none, 0, 0), rfl, KOwn.nil _ _ _ _ _⟩, hx⟩
          · cases hf
        · cases hf
      | true =>
        obtain ⟨m, rfl⟩ := Fm.opt_form ho
        rw [ho, Fm.cutOpt_snoc] at hf
        unfold Fm.bndOf at hf
        split at hf
        · next A B =>
          split at hf
          · next hcond =>
            injection hf with hf
            subst hf
            simp only [Fm.inB, Fm.great, Bool.and_eq_true] at hcond
            obtain ⟨⟨wA, wB⟩, ⟨⟨i1, i2⟩, i3⟩, i4⟩ := hcond
            refine (parseField2o_any op b o c ⟨nm.toArray⟩ ⟨A.toArray⟩ ⟨B.toArray⟩ w hb hc h4 c0 (strs_cell hv (i := 1) rfl) (strs_cell hv (i := 2) rfl) (strs_cell hv (i := 3) (s := Fm.tOpt) rfl) (hs A (by simp)) (hs B (by simp)) wA wB (of_decide_eq_true i1) (of_decide_eq_true i2) (of_decide_eq_true i3) (of_decide_eq_true i4)).mono ?_
            rintro e w' ⟨rfl, hx⟩
            exact ⟨⟨(none, 0, 0), rfl, KOwn.nil _ _ _ _ _⟩, hx⟩
          · cases hf
        · next A B C Y =>
          split at hf
          · next hcond =>
            injection hf with hf
            subst hf
            simp only [Fm.inB, Fm.great, Bool.and_eq_true, beq_iff_eq, Bool.not_eq_true', beq_eq_false_iff_ne] at hcond
            obtain ⟨⟨⟨⟨⟨wA, wB⟩, hop⟩, hC⟩, hY⟩, ⟨⟨i1, i2⟩, i3⟩, i4⟩ := hcond
            refine (parseField4o_any op b o c ⟨nm.toArray⟩ ⟨A.toArray⟩ ⟨B.toArray⟩ ⟨C.toArray⟩ ⟨Y.toArray⟩ w hb hc h4 c0 (strs_cell hv (i := 1) rfl) (strs_cell hv (i := 2) rfl) (strs_cell hv (i := 3) rfl) (strs_cell hv (i := 4) rfl) (strs_cell hv (i := 5) (s := Fm.tOpt) rfl) (hs A (by simp)) (hs B (by simp)) wA wB hop hC hY (of_decide_eq_true i1) (of_decide_eq_true i2) (of_decide_eq_true i3) (of_decide_eq_true i4)).mono ?_
            rintro e w' ⟨rfl, hx⟩
            exact ⟨⟨(none, 0, 0), rfl, KOwn.nil _ _ _ _ _⟩, hx⟩
          · cases hf
        · cases hf
end Go.Proofs.YtkpfehfcgpapiaaGreatDoor

/-
  Chapter 51: a form that is being made, in memory.
  No condition.
-/
namespace Go.Proofs.YtkpfehfcgpapiaaGreatDoor
set_option linter.unusedVariables false
open Go.RowKit

theorem KOwn.apart {α β : Type} {T1 T2 : TypeId} {k1 k2 : Nat} {e1 : α → List Value} {e2 : β → List Value} {w : World} {B1 B2 : Nat} {v1 v2 : Value} {xs : List α} {ys : List β} (h1 : KOwn T1 k1 e1 w B1 v1 xs) (h2 : KOwn T2 k2 e2 w B2 v2 ys) (hne : T1 ≠ T2) : v1.ownBlock = none ∨ v1.ownBlock ≠ v2.ownBlock := by
  rcases h1.2 with ⟨rfl, -⟩ | ⟨g, cap, cur, rfl, -, hb, -⟩
  · exact .inl rfl
  · rcases h2.2 with ⟨rfl, -⟩ | ⟨g2, cap2, cur2, rfl, -, hb2, -⟩
    · exact .inr (by simp [Value.ownBlock])
    · refine .inr fun e => hne ?_
      simp only [Value.ownBlock, Option.some.injEq] at e
      subst e
      rw [hb] at hb2
      injection hb2 with hb2
      injection hb2
theorem KOwn.off {α : Type} {T T2 : TypeId} {k : Nat} {enc : α → List Value} {w : World} {B g : Nat} {v : Value} {xs : List α} {cs : Array Value} {fr : Nat × Nat} (h : KOwn T k enc w B v xs) (hg : w.heap[g]? = some (.cells cs T2 fr)) (hne : T ≠ T2) : v.ownBlock = none ∨ v.ownBlock ≠ some g := by
  rcases h.2 with ⟨rfl, -⟩ | ⟨g1, cap, cur, rfl, -, hb, -⟩
  · exact .inl rfl
  · refine .inr fun e => hne ?_
    simp only [Value.ownBlock, Option.some.injEq] at e
    subst e
    rw [hb] at hg
    injection hg with hg
    injection hg
/-- The blocks under B stay as they are, all but the block g. -/
structure Kp (w w' : World) (B g : Nat) : Prop where
  os : w'.os = w.os
  tape : w'.tape = w.tape
  output : w'.output = w.output
  size : w.heap.size ≤ w'.heap.size
  block : ∀ k, k < B → k < w.heap.size → k ≠ g → w'.heap[k]? = w.heap[k]?
theorem Kp.refl (w : World) (B g : Nat) : Kp w w B g := ⟨rfl, rfl, rfl, Nat.le_refl _, fun _ _ _ _ => rfl⟩
theorem Kp.trans {w1 w2 w3 : World} {B g : Nat} (h : Kp w1 w2 B g) (h' : Kp w2 w3 B g) : Kp w1 w3 B g :=
  ⟨h'.os.trans h.os, h'.tape.trans h.tape, h'.output.trans h.output, Nat.le_trans h.size h'.size, fun k hk hs hg => (h'.block k hk (Nat.lt_of_lt_of_le hs h.size) hg).trans (h.block k hk hs hg)⟩
theorem Kp.ofExt {w w' : World} (h : Ext w w') (B g : Nat) : Kp w w' B g := ⟨h.os, h.tape, h.output, h.size, fun k _ hk _ => h.block k hk⟩
theorem Kp.ofGrown {w w' : World} {row : Option Nat} {B g : Nat} (h : w.grownBy w' row) (hr : ∀ b, row = some b → B ≤ b) : Kp w w' B g :=
  ⟨h.os, h.tape, h.output, h.size, fun k hk hs _ => h.block k hs (fun e => by have := hr k e.symm; omega)⟩
theorem Kp.set (w : World) (B g i : Nat) (u : Value) : Kp w (w.setCell ⟨g, i, none⟩ u) B g := by
  have h := grown_set w g i u
  exact ⟨h.os, h.tape, h.output, h.size, fun k _ hs hg => h.block k hs (by intro e; injection e with e; exact hg e)⟩
/-- Under an elder world all stays. -/
theorem Kp.over {w0 w w' : World} {B g : Nat} (h : Kp w w' B g) (hx : Ext w0 w) (hB : w0.heap.size ≤ B) (hg : w0.heap.size ≤ g) : Ext w0 w' :=
  ⟨h.os.trans hx.os, h.tape.trans hx.tape, h.output.trans hx.output, Nat.le_trans hx.size h.size, fun k hk => (h.block k (by omega) (Nat.lt_of_lt_of_le hk hx.size) (by omega)).trans (hx.block k hk)⟩

abbrev OwnF (w : World) (B : Nat) (v : Value) (gs : List (Fm.Fld × Lie)) : Prop := KOwn 39 7 encF w B v gs
abbrev OwnM (w : World) (B : Nat) (v : Value) (hs : List (Fm.Sm × Lie)) : Prop := KOwn 56 2 encM w B v hs
abbrev OwnW (w : World) (B : Nat) (v : Value) (l : List Fm.S) : Prop := KOwn 9 1 enc1 w B v l
/-- A form that is being made: its block g, its own rows. -/
structure FrmO (w : World) (B g : Nat) (nm : Fm.S) (fs : List Fm.Fld) (ss : List Fm.Sm) (vf vs : Value) (gs : List (Fm.Fld × Lie)) (hs : List (Fm.Sm × Lie)) : Prop where
  row : w.heap[g]? = some (.cells #[strV nm, vf, vs] 25 (0, 0))
  flds : OwnF w B vf gs
  sums : OwnM w B vs hs
  inF : ∀ x ∈ gs, OwnW w B (lieV x.2) x.1.chs
  inS : ∀ x ∈ hs, OwnW w B (lieV x.2) x.1.parts
  ef : gs.map (·.1) = fs
  es : hs.map (·.1) = ss
variable {w w' : World} {B g : Nat} {nm : Fm.S} {fs : List Fm.Fld} {ss : List Fm.Sm} {vf vs : Value} {gs : List (Fm.Fld × Lie)} {hs : List (Fm.Sm × Lie)}
theorem FrmO.ext (h : FrmO w B g nm fs ss vf vs gs hs) (hx : Ext w w') : FrmO w' B g nm fs ss vf vs gs hs :=
  ⟨row_on h.row hx, h.flds.ext hx, h.sums.ext hx, fun x hx' => (h.inF x hx').ext hx, fun x hx' => (h.inS x hx').ext hx, h.ef, h.es⟩
/-- One field more: the row is laid behind the others, its slice is stored. -/
theorem FrmO.addF (h : FrmO w B g nm fs ss vf vs gs hs) {f : Fm.Fld} {y : Lie} (hy : OwnW w B (lieV y) f.chs) {vf' : Value} (ho : OwnF w' B vf' (gs ++ [(f, y)])) (hg : w.grownBy w' vf.ownBlock) :
    FrmO (w'.setCell ⟨g, 1, none⟩ vf') B g nm (fs ++ [f]) ss vf' vs (gs ++ [(f, y)]) hs ∧ Kp w (w'.setCell ⟨g, 1, none⟩ vf') B g := by
  have hgo := h.flds.off h.row (by decide)
  have hr' : w'.heap[g]? = some (.cells #[strV nm, vf, vs] 25 (0, 0)) := by
    rw [hg.block g (lt_at h.row) (fun e => hgo.elim (fun h1 => by rw [h1] at e; cases e) (fun h1 => h1 e.symm))]
    exact h.row
  have hst := grown_set w' g 1 vf'
  have two : ∀ {α : Type} {T : TypeId} {k : Nat} {enc : α → List Value} {v : Value} {xs : List α}, KOwn T k enc w B v xs → T ≠ 39 → T ≠ 25 → KOwn T k enc (w'.setCell ⟨g, 1, none⟩ vf') B v xs := by
    intro α T k enc v xs hk h1 h2
    have hk' := hk.kept hg (hk.apart h.flds h1)
    exact hk'.kept hst (hk'.off hr' h2)
  refine ⟨⟨?_, ho.kept hst (ho.off hr' (by decide)), two h.sums (by decide) (by decide), ?_, fun x hx => two (h.inS x hx) (by decide) (by decide), by rw [List.map_append, h.ef]; rfl, h.es⟩, (Kp.ofGrown hg (fun b hb => h.flds.low b hb)).trans (Kp.set w' B g 1 vf')⟩
  · exact heap_set hr'
  · intro x hx
    rcases List.mem_append.1 hx with hx | hx
    · exact two (h.inF x hx) (by decide) (by decide)
    · rw [List.mem_singleton] at hx
      subst hx
      exact two hy (by decide) (by decide)
/-- One sum more. -/
theorem FrmO.addS (h : FrmO w B g nm fs ss vf vs gs hs) {s : Fm.Sm} {y : Lie} (hy : OwnW w B (lieV y) s.parts) {vs' : Value} (ho : OwnM w' B vs' (hs ++ [(s, y)])) (hg : w.grownBy w' vs.ownBlock) :
    FrmO (w'.setCell ⟨g, 2, none⟩ vs') B g nm fs (ss ++ [s]) vf vs' gs (hs ++ [(s, y)]) ∧ Kp w (w'.setCell ⟨g, 2, none⟩ vs') B g := by
  have hgo := h.sums.off h.row (by decide)
  have hr' : w'.heap[g]? = some (.cells #[strV nm, vf, vs] 25 (0, 0)) := by
    rw [hg.block g (lt_at h.row) (fun e => hgo.elim (fun h1 => by rw [h1] at e; cases e) (fun h1 => h1 e.symm))]
    exact h.row
  have hst := grown_set w' g 2 vs'
  have two : ∀ {α : Type} {T : TypeId} {k : Nat} {enc : α → List Value} {v : Value} {xs : List α}, KOwn T k enc w B v xs → T ≠ 56 → T ≠ 25 → KOwn T k enc (w'.setCell ⟨g, 2, none⟩ vs') B v xs := by
    intro α T k enc v xs hk h1 h2
    have hk' := hk.kept hg (hk.apart h.sums h1)
    exact hk'.kept hst (hk'.off hr' h2)
  refine ⟨⟨?_, two h.flds (by decide) (by decide), ho.kept hst (ho.off hr' (by decide)), fun x hx => two (h.inF x hx) (by decide) (by decide), ?_, h.ef, by rw [List.map_append, h.es]; rfl⟩, (Kp.ofGrown hg (fun b hb => h.sums.low b hb)).trans (Kp.set w' B g 2 vs')⟩
  · exact heap_set hr'
  · intro x hx
    rcases List.mem_append.1 hx with hx | hx
    · exact two (h.inS x hx) (by decide) (by decide)
    · rw [List.mem_singleton] at hx
      subst hx
      exact two hy (by decide) (by decide)
/-- As the reader of forms sees it. -/
theorem FrmO.fldsR (h : FrmO w B g nm fs ss vf vs gs hs) : FldsR w vf fs := ⟨gs, h.ef, h.flds.sl encF_len, fun x hx => (h.inF x hx).strs⟩
theorem FrmO.sumsR (h : FrmO w B g nm fs ss vf vs gs hs) : SumsR w vs ss := ⟨hs, h.es, h.sums.sl encM_len, fun x hx => (h.inS x hx).strs⟩
end Go.Proofs.YtkpfehfcgpapiaaGreatDoor
