/-
  Chapter 48: the error ways of the reference's Read; Read of whatever comes in, the program's and the reference's.
  No condition.
-/
import Derived.Test.YtamkgbodifjlaaaGreatDoorGlV3
import Derived.Test.YtamkgbodifjlaaaGreatDoorGlXA
namespace Go.Proofs.YtamkgbodifjlaaaGreatDoor
open Go.RowKit

set_option maxRecDepth 100000 in
set_option maxHeartbeats 4000000 in
theorem xread_bad (W H : Int) (a : Option Addr) (n c : Nat) (bx bY bw bh k : Int) (w : World) (hn : n ≤ maxLen) (hv : Gl.valid W H n = false) : Calls Tryz.prog 22 #[.agg #[.int .i64 W, .int .i64 H, .slice a n c], .agg #[.int .i64 bx, .int .i64 bY, .int .i64 bw, .int .i64 bh], .int .i64 k] w fun e w' => e = .returned (.tuple #[.agg #[.int .i64 0, .int .i64 0, .int .i64 0, .int .i64 0, .string ⟨#[]⟩, .slice none 0 0], .int .i64 1]) ∧ Ext w w' := by
  have HCK := Lib.hid (fun W1 => xcheck_any W H a n c W1 hn)
  rw [hv, if_neg (by simp)] at HCK
  clear hv
  go_enter Tryz.func22, Tryz.ntmps22
  go_wp2_with fail
  refine (HCK.out _).mono ?_
  rintro e w1 ⟨rfl, hx1⟩
  have r3 := rows3 hx1
  have H2 := Lib.hid r3.2.2.1
  have HX := Lib.hid r3.2.2.2
  have q0 := cell_at H2.out (i := 0) rfl
  have q1 := cell_at H2.out (i := 1) rfl
  have q2 := cell_at H2.out (i := 2) rfl
  have q3 := cell_at H2.out (i := 3) rfl
  have q4 := cell_at H2.out (i := 4) rfl
  have q5 := cell_at H2.out (i := 5) rfl
  have f0 := frz_at (i := 0) H2.out
  have f1 := frz_at (i := 1) H2.out
  have f2 := frz_at (i := 2) H2.out
  have f3 := frz_at (i := 3) H2.out
  have f4 := frz_at (i := 4) H2.out
  have f5 := frz_at (i := 5) H2.out
  have hl := lt_at H2.out
  clear r3 hx1
  go_wp2
  refine bodyPost_ret (results_st Tryz.results22 rfl rfl (load_line (row6_set H2.out))) rfl ?_
  exact ⟨rfl, HX.out.cells6 (b := w.heap.size + 1 + 1) (by omega) _ _ _ _ _ _⟩
set_option maxRecDepth 100000 in
set_option maxHeartbeats 2000000 in
theorem xread_range (W H : Int) (a : Option Addr) (n c : Nat) (bx bY bw bh k : Int) (w : World) (hn : n ≤ maxLen) (hv : Gl.valid W H n = true) (hr : Gl.ins W H bx bY bw bh = false ∨ k < 1 ∨ 64 < k) : Calls Tryz.prog 22 #[.agg #[.int .i64 W, .int .i64 H, .slice a n c], .agg #[.int .i64 bx, .int .i64 bY, .int .i64 bw, .int .i64 bh], .int .i64 k] w fun e w' => e = .returned (.tuple #[.agg #[.int .i64 0, .int .i64 0, .int .i64 0, .int .i64 0, .string ⟨#[]⟩, .slice none 0 0], .int .i64 3]) ∧ Ext w w' := by
  have HCK := Lib.hid (fun W1 => xcheck_any W H a n c W1 hn)
  rw [hv, if_pos rfl] at HCK
  obtain ⟨W', H', e1, e2, hW, hW2, hH, hH2, hWM, hM4⟩ := Gl.valid_parts hv
  clear hWM hM4
  have HIN := Lib.hid (xinside_any W H (.slice a n c) bx bY bw bh (by omega) (by omega) (by omega) (by omega))
  clear hv e1 e2
  cases hin : Gl.ins W H bx bY bw bh with
  | false =>
    rw [hin] at HIN
    clear hr hin
    go_enter Tryz.func22, Tryz.ntmps22
    go_wp2_with fail
    refine (HCK.out _).mono ?_
    rintro e w1 ⟨rfl, hx1⟩
    have hx1' := hx1.before
    obtain ⟨⟨c0, c1, c2⟩, c3, c4, c5, c6⟩ := keep34 hx1'
    go_wp2_with fail
    refine (HIN.out _).mono ?_
    rintro e w2 ⟨rfl, hx2⟩
    clear c0 c1 c2 c3 c4 c5 c6
    have hx := hx1.trans hx2
    clear hx1 hx1' hx2
    have r3 := rows3 hx
    have H2 := Lib.hid r3.2.2.1
    have HX := Lib.hid r3.2.2.2
    have q0 := cell_at H2.out (i := 0) rfl
    have q1 := cell_at H2.out (i := 1) rfl
    have q2 := cell_at H2.out (i := 2) rfl
    have q3 := cell_at H2.out (i := 3) rfl
    have q4 := cell_at H2.out (i := 4) rfl
    have q5 := cell_at H2.out (i := 5) rfl
    have f0 := frz_at (i := 0) H2.out
    have f1 := frz_at (i := 1) H2.out
    have f2 := frz_at (i := 2) H2.out
    have f3 := frz_at (i := 3) H2.out
    have f4 := frz_at (i := 4) H2.out
    have f5 := frz_at (i := 5) H2.out
    have hl := lt_at H2.out
    clear r3 hx
    go_wp2
    refine bodyPost_ret (results_st Tryz.results22 rfl rfl (load_line (row6_set H2.out))) rfl ?_
    exact ⟨rfl, HX.out.cells6 (b := w.heap.size + 1 + 1) (by omega) _ _ _ _ _ _⟩
  | true =>
    rw [hin] at HIN
    rw [hin] at hr
    by_cases h1 : k < 1
    · have d1 : decide (k < 1) = true := decide_eq_true h1
      clear hr hin
      go_enter Tryz.func22, Tryz.ntmps22
      go_wp2_with fail
      refine (HCK.out _).mono ?_
      rintro e w1 ⟨rfl, hx1⟩
      have hx1' := hx1.before
      obtain ⟨⟨c0, c1, c2⟩, c3, c4, c5, c6⟩ := keep34 hx1'
      go_wp2_with fail
      refine (HIN.out _).mono ?_
      rintro e w2 ⟨rfl, hx2⟩
      clear c0 c1 c2 c3 c4 c5 c6
      have hx := hx1.trans hx2
      clear hx1 hx1' hx2
      have r3 := rows3 hx
      have H2 := Lib.hid r3.2.2.1
      have HX := Lib.hid r3.2.2.2
      have q0 := cell_at H2.out (i := 0) rfl
      have q1 := cell_at H2.out (i := 1) rfl
      have q2 := cell_at H2.out (i := 2) rfl
      have q3 := cell_at H2.out (i := 3) rfl
      have q4 := cell_at H2.out (i := 4) rfl
      have q5 := cell_at H2.out (i := 5) rfl
      have f0 := frz_at (i := 0) H2.out
      have f1 := frz_at (i := 1) H2.out
      have f2 := frz_at (i := 2) H2.out
      have f3 := frz_at (i := 3) H2.out
      have f4 := frz_at (i := 4) H2.out
      have f5 := frz_at (i := 5) H2.out
      have hl := lt_at H2.out
      clear r3 hx
      go_wp2
      refine bodyPost_ret (results_st Tryz.results22 rfl rfl (load_line (row6_set H2.out))) rfl ?_
      exact ⟨rfl, HX.out.cells6 (b := w.heap.size + 1 + 1) (by omega) _ _ _ _ _ _⟩
    · have d1 : decide (k < 1) = false := decide_eq_false h1
      have d2 : decide (64 < k) = true := decide_eq_true (by rcases hr with h | h | h; cases h; exact absurd h h1; exact h)
      clear hr hin
      go_enter Tryz.func22, Tryz.ntmps22
      go_wp2_with fail
      refine (HCK.out _).mono ?_
      rintro e w1 ⟨rfl, hx1⟩
      have hx1' := hx1.before
      obtain ⟨⟨c0, c1, c2⟩, c3, c4, c5, c6⟩ := keep34 hx1'
      go_wp2_with fail
      refine (HIN.out _).mono ?_
      rintro e w2 ⟨rfl, hx2⟩
      clear c0 c1 c2 c3 c4 c5 c6
      have hx := hx1.trans hx2
      clear hx1 hx1' hx2
      have r3 := rows3 hx
      have H2 := Lib.hid r3.2.2.1
      have HX := Lib.hid r3.2.2.2
      have q0 := cell_at H2.out (i := 0) rfl
      have q1 := cell_at H2.out (i := 1) rfl
      have q2 := cell_at H2.out (i := 2) rfl
      have q3 := cell_at H2.out (i := 3) rfl
      have q4 := cell_at H2.out (i := 4) rfl
      have q5 := cell_at H2.out (i := 5) rfl
      have f0 := frz_at (i := 0) H2.out
      have f1 := frz_at (i := 1) H2.out
      have f2 := frz_at (i := 2) H2.out
      have f3 := frz_at (i := 3) H2.out
      have f4 := frz_at (i := 4) H2.out
      have f5 := frz_at (i := 5) H2.out
      have hl := lt_at H2.out
      clear r3 hx
      go_wp2
      refine bodyPost_ret (results_st Tryz.results22 rfl rfl (load_line (row6_set H2.out))) rfl ?_
      exact ⟨rfl, HX.out.cells6 (b := w.heap.size + 1 + 1) (by omega) _ _ _ _ _ _⟩
/-- What Read returns: the line, the height and scale, the characters, the error. -/
abbrev Gl.Rd := Gl.Bx × Nat × Nat × List (Nat × List Gl.Ch) × Int
def Gl.readS (W H : Int) (m : List Bool) (bx bY bw bh k : Int) : Gl.Rd :=
  if Gl.valid W H m.length = false then ((0, 0, 0, 0), 0, 0, [], 1) else if Gl.ins W H bx bY bw bh = false ∨ k < 1 ∨ 64 < k then ((0, 0, 0, 0), 0, 0, [], 3)
  else ((bx, bY, bw, bh), bY.toNat, k.toNat, Gl.read m W.toNat bx.toNat bY.toNat bw.toNat bh.toNat k.toNat, 0)
def RdR (r : Gl.Rd) (w : World) (e : Ending) (w' : World) : Prop :=
  ∃ vg, e = .returned (.tuple #[.agg #[.int .i64 r.1.1, .int .i64 r.1.2.1, .int .i64 r.1.2.2.1, .int .i64 r.1.2.2.2, .string (bS (Gl.textOf r.2.2.2.1)), vg], .int .i64 r.2.2.2.2]) ∧ LineAt w' vg r.2.1 r.2.2.1 r.2.2.2.1 ∧ Ext w w'
theorem rdR_nil {r : Gl.Rd} {w : World} {e : Ending} {w' : World} {k : Int} (hr : r = ((0, 0, 0, 0), 0, 0, [], k)) (h : e = .returned (.tuple #[.agg #[.int .i64 0, .int .i64 0, .int .i64 0, .int .i64 0, .string ⟨#[]⟩, .slice none 0 0], .int .i64 k]) ∧ Ext w w') : RdR r w e w' := by
  subst hr
  exact ⟨_, h.1, ⟨[], KSl.nil _ _ _, rfl, fun i r hi => by simp at hi⟩, h.2⟩
theorem Gl.readS_len (W H : Int) (m : List Bool) (bx bY bw bh k : Int) : (Gl.readS W H m bx bY bw bh k).2.2.2.1.length ≤ 5000 ∧ ∀ r ∈ (Gl.readS W H m bx bY bw bh k).2.2.2.1, r.2.length ≤ 62 := by
  unfold Gl.readS
  split
  · exact ⟨Nat.zero_le _, fun r h => by cases h⟩
  · rename_i hv
    split
    · exact ⟨Nat.zero_le _, fun r h => by cases h⟩
    · rename_i hr
      have hval : Gl.valid W H m.length = true := by simpa using hv
      have h1 : Gl.ins W H bx bY bw bh = true := by
        cases h : Gl.ins W H bx bY bw bh with
        | true => rfl
        | false => exact absurd (.inl h) hr
      obtain ⟨W', H', rfl, rfl, _, hW, _, _, _, _⟩ := Gl.valid_parts hval
      unfold Gl.ins at h1
      simp only [Bool.and_eq_true, decide_eq_true_eq] at h1
      have hk : 1 ≤ k.toNat ∧ k.toNat ≤ 64 := by omega
      have hw : bw.toNat ≤ 4096 := by omega
      refine ⟨?_, fun r h => ?_⟩
      · dsimp only
        unfold Gl.read Gl.many
        rw [List.length_map, List.length_range]
        have : (bw.toNat + k.toNat + 6 * k.toNat - 1) / (6 * k.toNat) < 5000 := (Nat.div_lt_iff_lt_mul (by omega)).2 (by omega)
        omega
      · dsimp only at h
        unfold Gl.read at h
        obtain ⟨i, _, rfl⟩ := List.mem_map.1 h
        dsimp only
        rw [Gl.ranked_len]
        exact Nat.le_refl _
/-- Read of whatever comes in. -/
theorem read_all (W H : Int) (a : Option Addr) (n c : Nat) (m : List Bool) (bx bY bw bh k : Int) (w : World) (hv : SlK w (.slice a n c) (m.map encT)) (hm : m.length ≤ maxLen) (hnm : m.length = n) : Calls Tryz.prog 21 #[.agg #[.int .i64 W, .int .i64 H, .slice a n c], .agg #[.int .i64 bx, .int .i64 bY, .int .i64 bw, .int .i64 bh], .int .i64 k] w (RdR (Gl.readS W H m bx bY bw bh k) w) := by
  subst hnm
  cases hval : Gl.valid W H m.length with
  | false => exact (read_bad W H a m.length c bx bY bw bh k w hm hval).mono fun e w' h => rdR_nil (by unfold Gl.readS; rw [if_pos hval]) h
  | true =>
    by_cases hr : Gl.ins W H bx bY bw bh = false ∨ k < 1 ∨ 64 < k
    · exact (read_range W H a m.length c bx bY bw bh k w hm hval hr).mono fun e w' h => rdR_nil (by unfold Gl.readS; rw [if_neg (by rw [hval]; simp), if_pos hr]) h
    · have h1 : Gl.ins W H bx bY bw bh = true := by
        cases h : Gl.ins W H bx bY bw bh with
        | true => rfl
        | false => exact absurd (.inl h) hr
      have h2 : 1 ≤ k ∧ k ≤ 64 := by omega
      have hS : Gl.readS W H m bx bY bw bh k = ((bx, bY, bw, bh), bY.toNat, k.toNat, Gl.read m W.toNat bx.toNat bY.toNat bw.toNat bh.toNat k.toNat, 0) := by unfold Gl.readS; rw [if_neg (by rw [hval]; simp), if_neg hr]
      rw [hS]
      clear hS hr
      obtain ⟨W', H', rfl, rfl, _, _, _, _, hl, _⟩ := Gl.valid_parts hval
      have h3 := h1
      unfold Gl.ins at h3
      simp only [Bool.and_eq_true, decide_eq_true_eq] at h3
      obtain ⟨x, rfl⟩ : ∃ x : Nat, bx = x := ⟨bx.toNat, by omega⟩
      obtain ⟨y, rfl⟩ : ∃ y : Nat, bY = y := ⟨bY.toNat, by omega⟩
      obtain ⟨u, rfl⟩ : ∃ u : Nat, bw = u := ⟨bw.toNat, by omega⟩
      obtain ⟨v, rfl⟩ : ∃ v : Nat, bh = v := ⟨bh.toNat, by omega⟩
      obtain ⟨q, rfl⟩ : ∃ q : Nat, k = q := ⟨k.toNat, by omega⟩
      simp only [Int.toNat_natCast]
      exact read_any _ m W' H' x y u v q w hv hl hval h1 (by omega) (by omega)
/-- Read of whatever comes in. -/
theorem xread_all (W H : Int) (a : Option Addr) (n c : Nat) (m : List Bool) (bx bY bw bh k : Int) (w : World) (hv : SlK w (.slice a n c) (m.map encT)) (hm : m.length ≤ maxLen) (hnm : m.length = n) : Calls Tryz.prog 22 #[.agg #[.int .i64 W, .int .i64 H, .slice a n c], .agg #[.int .i64 bx, .int .i64 bY, .int .i64 bw, .int .i64 bh], .int .i64 k] w (RdR (Gl.readS W H m bx bY bw bh k) w) := by
  subst hnm
  cases hval : Gl.valid W H m.length with
  | false => exact (xread_bad W H a m.length c bx bY bw bh k w hm hval).mono fun e w' h => rdR_nil (by unfold Gl.readS; rw [if_pos hval]) h
  | true =>
    by_cases hr : Gl.ins W H bx bY bw bh = false ∨ k < 1 ∨ 64 < k
    · exact (xread_range W H a m.length c bx bY bw bh k w hm hval hr).mono fun e w' h => rdR_nil (by unfold Gl.readS; rw [if_neg (by rw [hval]; simp), if_pos hr]) h
    · have h1 : Gl.ins W H bx bY bw bh = true := by
        cases h : Gl.ins W H bx bY bw bh with
        | true => rfl
        | false => exact absurd (.inl h) hr
      have h2 : 1 ≤ k ∧ k ≤ 64 := by omega
      have hS : Gl.readS W H m bx bY bw bh k = ((bx, bY, bw, bh), bY.toNat, k.toNat, Gl.read m W.toNat bx.toNat bY.toNat bw.toNat bh.toNat k.toNat, 0) := by unfold Gl.readS; rw [if_neg (by rw [hval]; simp), if_neg hr]
      rw [hS]
      clear hS hr
      obtain ⟨W', H', rfl, rfl, _, _, _, _, hl, _⟩ := Gl.valid_parts hval
      have h3 := h1
      unfold Gl.ins at h3
      simp only [Bool.and_eq_true, decide_eq_true_eq] at h3
      obtain ⟨x, rfl⟩ : ∃ x : Nat, bx = x := ⟨bx.toNat, by omega⟩
      obtain ⟨y, rfl⟩ : ∃ y : Nat, bY = y := ⟨bY.toNat, by omega⟩
      obtain ⟨u, rfl⟩ : ∃ u : Nat, bw = u := ⟨bw.toNat, by omega⟩
      obtain ⟨v, rfl⟩ : ∃ v : Nat, bh = v := ⟨bh.toNat, by omega⟩
      obtain ⟨q, rfl⟩ : ∃ q : Nat, k = q := ⟨k.toNat, by omega⟩
      simp only [Int.toNat_natCast]
      exact xread_any _ m W' H' x y u v q w hv hl hval h1 (by omega) (by omega)
end Go.Proofs.YtamkgbodifjlaaaGreatDoor
