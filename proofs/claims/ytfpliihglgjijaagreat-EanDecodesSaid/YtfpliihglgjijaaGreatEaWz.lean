/-
  Chapter 11: read, walked.
  Condition: a string that fits the shape.
-/
import Derived.Test.YtfpliihglgjijaaGreatEaWy
import Derived.Test.YtfpliihglgjijaaGreatEaW8

/-
  Chapter 11: read, walked.
  Condition: a string that fits the shape.
-/
namespace Go.Proofs.YtfpliihglgjijaaGreat
set_option linter.unusedVariables false
open Go.RowKit

def gotV (r : Ea.Got) : Value := .tuple #[linV r.1.1 r.1.2.1 r.1.2.2, .int .i64 r.2]
/-- The three functions that read a symbol. -/
theorem sym_long (s : ByteArray) (sl : List Bool) (hs : s.data.toList = Ea.mS sl) (h : 95 ≤ sl.length) (w : World) :
    Calls Tryz.prog 74 #[.string (s.extract 0 95)] w fun e w' => e = .returned (symV (Ea.rdSym 95 (sl.take 95))) ∧ Ext w w' :=
  readLong_any _ _ (by rw [cut_front, hs, Ea.mS_take]) (by rw [List.length_take]; omega) w
theorem sym_short (s : ByteArray) (sl : List Bool) (hs : s.data.toList = Ea.mS sl) (h : 67 ≤ sl.length) (w : World) :
    Calls Tryz.prog 75 #[.string (s.extract 0 67)] w fun e w' => e = .returned (symV (Ea.rdSym 67 (sl.take 67))) ∧ Ext w w' :=
  readShort_any _ _ (by rw [cut_front, hs, Ea.mS_take]) (by rw [List.length_take]; omega) w
theorem sym_small (s : ByteArray) (sl : List Bool) (hs : s.data.toList = Ea.mS sl) (h : 51 ≤ sl.length) (w : World) :
    Calls Tryz.prog 76 #[.string (s.extract 0 51)] w fun e w' => e = .returned (symV (Ea.rdSym 51 (sl.take 51))) ∧ Ext w w' :=
  readSmall_any _ _ (by rw [cut_front, hs, Ea.mS_take]) (by rw [List.length_take]; omega) w
/-- The add-on at the end. -/
theorem add_end (a : Nat) (ha : a = 2 ∨ a = 5) (s : ByteArray) (sl : List Bool) (hs : s.data.toList = Ea.mS sl) (h : Ea.wAdd a ≤ sl.length) (w : World) :
    Calls Tryz.prog 77 #[.string (s.extract (s.size - Ea.wAdd a) s.size)] w fun e w' => e = .returned (addV (Ea.rdAdd a (sl.drop (sl.length - Ea.wAdd a)))) ∧ Ext w w' := by
  have hz : s.size = sl.length := by rw [size_of_toList hs, Ea.mS_len]
  exact readAddOn_any a ha _ _ (by rw [cut_back, hs, Ea.mS_drop, hz]) (by rw [List.length_drop]; omega) w
end Go.Proofs.YtfpliihglgjijaaGreat

/-
  Chapter 11: read, walked.
  Condition: a string that fits the shape.
-/
namespace Go.Proofs.YtfpliihglgjijaaGreat
open Go.RowKit

/-- A block of three cells, in a later world. -/
theorem row3_of {w : World} {b : Nat} {x y z : Value} {t : TypeId} (h : w.heap[b]? = some (.cells #[x, y, z] t (0, 0))) :
    b < w.heap.size ∧ w.cell? ⟨b, 0, none⟩ = some x ∧ w.cell? ⟨b, 1, none⟩ = some y ∧ w.cell? ⟨b, 2, none⟩ = some z ∧
      w.frozen? ⟨b, 0, none⟩ = false ∧ w.frozen? ⟨b, 1, none⟩ = false ∧ w.frozen? ⟨b, 2, none⟩ = false ∧ Hid (w.heap[b]? = some (.cells #[x, y, z] t (0, 0))) :=
  ⟨(Array.getElem?_eq_some_iff.1 h).1, cell_at h rfl, cell_at h rfl, cell_at h rfl, frz_at h, frz_at h, frz_at h, Lib.hid h⟩
theorem row3_on {w w' : World} {b : Nat} {o : Obj} (h : w.heap[b]? = some o) (hx : Ext w w') : w'.heap[b]? = some o := by
  rw [hx.block b (Array.getElem?_eq_some_iff.1 h).1]; exact h
theorem row3_new {w w' : World} {b : Nat} {o : Obj} (hb : w.heap.size = b) (h : Ext (w.alloc o) w') : w'.heap[b]? = some o := by
  subst hb
  exact row3_on (heap_alloc_new _ _) h
theorem rdSym_err (n : Nat) (s : List Bool) (h : (Ea.rdSym n s).2 ≠ 0) : (Ea.rdSym n s).1 = (0, []) := by
  unfold Ea.rdSym at h ⊢
  split
  · rfl
  · rename_i h1
    rw [if_neg h1] at h
    split
    · rfl
    · rename_i h2
      rw [if_neg h2] at h
      cases hk : Ea.rdK n s with
      | none => rfl
      | some l =>
        rw [hk] at h
        dsimp only at h ⊢
        split
        · rfl
        · rename_i h3
          rw [if_neg h3] at h
          split at h <;> exact absurd rfl h
theorem set3_size (w : World) (b : Nat) (p q r : Value) : (((w.setCell ⟨b, 0, none⟩ p).setCell ⟨b, 1, none⟩ q).setCell ⟨b, 2, none⟩ r).heap.size = w.heap.size := by simp [World.setCell]

theorem far1 {w : World} {b g i : Nat} {o : Option Obj} {u : Value} (hne : b ≠ g) (h : w.heap[g]? = o) : (w.setCell ⟨b, i, none⟩ u).heap[g]? = o := by
  simp [World.setCell, Array.getElem?_modify, hne]; exact h

set_option maxRecDepth 100000 in
set_option maxHeartbeats 2000000 in
theorem read95_any (a : Nat) (ha : a = 0 ∨ a = 2 ∨ a = 5) (s : ByteArray) (sl : List Bool) (hs : s.data.toList = Ea.mS sl) (hl : 95 + Ea.wAdd a ≤ sl.length) (hW : sl.length ≤ 65536) (w : World) :
    Calls Tryz.prog 46 #[.string s, .int .i64 95, .int .i64 (a : Int)] w fun e w' => e = .returned (gotV (Ea.rdShape sl 95 a)) ∧ Ext w w' := by
  have hz : s.size = sl.length := by rw [size_of_toList hs, Ea.mS_len]
  have hz1 : 95 ≤ s.size := by omega
  have hz2 : s.size ≤ 65536 := by omega
  have HS := Lib.hid (sym_long s sl hs (by omega))
  have HAW := Lib.hid (fun w => addOnWidth_any a ha w)
  have HAE : Hid (a ≠ 0 → ∀ w, Calls Tryz.prog 77 #[.string (s.extract (s.size - Ea.wAdd a) s.size)] w fun e w' => e = .returned (addV (Ea.rdAdd a (sl.drop (sl.length - Ea.wAdd a)))) ∧ Ext w w') :=
    Lib.hid (fun h0 w => add_end a (ha.resolve_left h0) s sl hs (by omega) w)
  obtain ⟨W, hWA⟩ : ∃ W, Ea.wAdd a = W := ⟨_, rfl⟩
  have hWs : W ≤ s.size := by omega
  obtain ⟨⟨⟨k, t⟩, er⟩, hr⟩ : ∃ r, Ea.rdSym 95 (sl.take 95) = r := ⟨_, rfl⟩
  have hzr : er ≠ 0 → k = 0 ∧ t = [] := fun h => by
    have := rdSym_err 95 (sl.take 95) (by rw [hr]; exact h)
    rw [hr] at this
    injection this with h1 h2
    exact ⟨h1, h2⟩
  obtain ⟨⟨al, ae⟩, hra⟩ : ∃ r, Ea.rdAdd a (sl.drop (sl.length - W)) = r := ⟨_, rfl⟩
  obtain ⟨res, hres⟩ : ∃ res, Ea.rdShape sl 95 a = res := ⟨_, rfl⟩
  have HX := Lib.hid hres
  unfold Ea.rdShape at HX
  rw [hr, hWA, hra] at HX
  rw [hr] at HS
  rw [hWA] at HAW HAE
  rw [hra] at HAE
  rw [hres]
  unfold symV linV at HS
  unfold addV at HAE
  dsimp only at HS HX HAE
  have HZR := Lib.hid hzr
  clear hs hr hres hz hl hW hra hWA hzr
  obtain ⟨T, hT⟩ : ∃ T, Ea.bS t = T := ⟨_, rfl⟩
  have HT := Lib.hid hT
  rw [hT] at HS
  obtain ⟨AL, hAL⟩ : ∃ AL, Ea.bS al = AL := ⟨_, rfl⟩
  have HAL := Lib.hid hAL
  rw [hAL] at HAE
  clear hT hAL
  by_cases h0 : er = 0
  · subst h0
    rw [if_neg (fun h => h rfl)] at HX
    by_cases ha0 : a = 0
    · have HG : Hid (res = ((k, t, []), 0)) := Lib.hid (by rw [← HX.out, if_pos ha0])
      have hb0 : ((a : Int) == 0) = true := by rw [ha0]; rfl
      clear HX HAW HAE ha ha0
      go_enter Tryz.func46, Tryz.ntmps46
      go_wp2_with fail
      refine (HS.out _).mono ?_
      rintro e w1 ⟨rfl, hx⟩
      obtain ⟨z0, z1, z2, z3, z4, z5, z6, HB⟩ := row3_of (row3_new rfl hx.before)
      obtain ⟨y0, y1, y2, y3, y4, y5, y6, HC⟩ := row3_of (row3_new (World.size_alloc _ _) hx)
      have hxw := hx.before.before
      clear hx
      go_wp2
      refine bodyPost_ret (results_lin Tryz.results46 rfl (row3_set (row3_far (by omega) HB)) rfl) rfl ?_
      have HXX := (((hxw.setCell (p := ⟨w.heap.size + 1, 0, none⟩) (Nat.le_succ _) (.int .i64 k)).setCell (p := ⟨w.heap.size + 1, 1, none⟩) (Nat.le_succ _) (.string T)).setCell (p := ⟨w.heap.size + 1, 2, none⟩) (Nat.le_succ _) (.string ⟨#[]⟩))
      exact ⟨by rw [HG.out]; unfold gotV linV; dsimp only; rw [HT.out]; rfl, ((HXX.setCell (Nat.le_refl _) _).setCell (Nat.le_refl _) _).setCell (Nat.le_refl _) _⟩
    · have HAE2 := Lib.hid (HAE.out ha0)
      rw [if_neg ha0] at HX
      have hb0 : ((a : Int) == 0) = false := by rw [beq_eq_false_iff_ne]; omega
      clear HAE ha ha0
      have hsub : (s.size : Int) - (W : Int) = ((s.size - W : Nat) : Int) := by omega
      obtain ⟨g, hg⟩ : ∃ g, s.size - W = g := ⟨_, rfl⟩
      rw [hg] at hsub HAE2
      have hgs : g ≤ s.size := by omega
      clear hg
      by_cases hae : ae = 0
      · subst hae
        have HG : Hid (res = ((k, t, al), 0)) := Lib.hid (by rw [← HX.out, if_neg (fun h => h rfl)])
        clear HX
        go_enter Tryz.func46, Tryz.ntmps46
        go_wp2_with fail
        refine (HS.out _).mono ?_
        rintro e w1 ⟨rfl, hx⟩
        obtain ⟨z0, z1, z2, z3, z4, z5, z6, HB⟩ := row3_of (row3_new rfl hx.before)
        obtain ⟨y0, y1, y2, y3, y4, y5, y6, HC⟩ := row3_of (row3_new (World.size_alloc _ _) hx)
        have hxw := hx.before.before
        clear hx
        go_wp2_with fail
        refine (HAW.out _).mono ?_
        rintro e w2 ⟨rfl, rfl⟩
        go_wp2_with fail
        refine (HAE2.out _).mono ?_
        rintro e w3 ⟨rfl, hx3⟩
        obtain ⟨u0, u1, u2, u3, u4, u5, u6, HB3⟩ := row3_of (row3_on (row3_far (show w.heap.size + 1 ≠ w.heap.size by omega) HB).out hx3)
        obtain ⟨v0, v1, v2, v3, v4, v5, v6, HC3⟩ := row3_of (row3_on (row3_set HC) hx3)
        have HXX := Lib.hid ((((hxw.setCell (p := ⟨w.heap.size + 1, 0, none⟩) (Nat.le_succ _) (.int .i64 k)).setCell (p := ⟨w.heap.size + 1, 1, none⟩) (Nat.le_succ _) (.string T)).setCell (p := ⟨w.heap.size + 1, 2, none⟩) (Nat.le_succ _) (.string (Ea.bS []))).trans hx3)
        clear z0 z1 z2 z3 z4 z5 z6 HB y0 y1 y2 y3 y4 y5 y6 HC hxw hx3
        go_wp2
        refine bodyPost_ret (results_lin Tryz.results46 rfl (row3_set (Lib.hid (far1 (show w.heap.size + 1 ≠ w.heap.size by omega) HB3.out))) rfl) rfl ?_
        have HXY := HXX.out.setCell (p := ⟨w.heap.size + 1, 2, none⟩) (Nat.le_succ _) (.string AL)
        exact ⟨by rw [HG.out]; unfold gotV linV; dsimp only; rw [HT.out, HAL.out]; rfl, ((HXY.setCell (Nat.le_refl _) _).setCell (Nat.le_refl _) _).setCell (Nat.le_refl _) _⟩
      · have HG : Hid (res = ((0, [], []), ae)) := Lib.hid (by rw [← HX.out, if_pos hae])
        have hbe : (ae != 0) = true := bne_iff_ne.2 hae
        clear HX hae
        go_enter Tryz.func46, Tryz.ntmps46
        go_wp2_with fail
        refine (HS.out _).mono ?_
        rintro e w1 ⟨rfl, hx⟩
        obtain ⟨z0, z1, z2, z3, z4, z5, z6, HB⟩ := row3_of (row3_new rfl hx.before)
        obtain ⟨y0, y1, y2, y3, y4, y5, y6, HC⟩ := row3_of (row3_new (World.size_alloc _ _) hx)
        have hxw := hx.before.before
        clear hx
        go_wp2_with fail
        refine (HAW.out _).mono ?_
        rintro e w2 ⟨rfl, rfl⟩
        go_wp2_with fail
        refine (HAE2.out _).mono ?_
        rintro e w3 ⟨rfl, hx3⟩
        obtain ⟨u0, u1, u2, u3, u4, u5, u6, HB3⟩ := row3_of (row3_on (row3_far (show w.heap.size + 1 ≠ w.heap.size by omega) HB).out hx3)
        obtain ⟨v0, v1, v2, v3, v4, v5, v6, HC3⟩ := row3_of (row3_on (row3_set HC) hx3)
        have HXX := Lib.hid ((((hxw.setCell (p := ⟨w.heap.size + 1, 0, none⟩) (Nat.le_succ _) (.int .i64 k)).setCell (p := ⟨w.heap.size + 1, 1, none⟩) (Nat.le_succ _) (.string T)).setCell (p := ⟨w.heap.size + 1, 2, none⟩) (Nat.le_succ _) (.string (Ea.bS []))).trans hx3)
        clear z0 z1 z2 z3 z4 z5 z6 HB y0 y1 y2 y3 y4 y5 y6 HC hxw hx3
        go_wp2
        refine bodyPost_ret (results_lin Tryz.results46 rfl (row3_set (Lib.hid (far1 (show w.heap.size + 1 ≠ w.heap.size by omega) HB3.out))) rfl) rfl ?_
        have HXY := HXX.out.setCell (p := ⟨w.heap.size + 1, 2, none⟩) (Nat.le_succ _) (.string AL)
        exact ⟨by rw [HG.out]; rfl, ((HXY.setCell (Nat.le_refl _) _).setCell (Nat.le_refl _) _).setCell (Nat.le_refl _) _⟩
  · rw [if_pos h0] at HX
    have HG := Lib.hid HX.out.symm
    obtain ⟨rfl, rfl⟩ := HZR.out h0
    have hb : (er != 0) = true := bne_iff_ne.2 h0
    clear HX HZR HAW HAE ha h0
    go_enter Tryz.func46, Tryz.ntmps46
    go_wp2_with fail
    refine (HS.out _).mono ?_
    rintro e w1 ⟨rfl, hx⟩
    obtain ⟨z0, z1, z2, z3, z4, z5, z6, HB⟩ := row3_of (row3_new rfl hx.before)
    obtain ⟨y0, y1, y2, y3, y4, y5, y6, HC⟩ := row3_of (row3_new (World.size_alloc _ _) hx)
    have hxw := hx.before.before
    clear hx
    go_wp2
    refine bodyPost_ret (results_lin Tryz.results46 rfl (row3_set (row3_far (by omega) HB)) rfl) rfl ?_
    have HXX := (((hxw.setCell (p := ⟨w.heap.size + 1, 0, none⟩) (Nat.le_succ _) (.int .i64 0)).setCell (p := ⟨w.heap.size + 1, 1, none⟩) (Nat.le_succ _) (.string T)).setCell (p := ⟨w.heap.size + 1, 2, none⟩) (Nat.le_succ _) (.string ⟨#[]⟩))
    exact ⟨by rw [HG.out]; unfold gotV linV; dsimp only; rw [HT.out]; rfl, ((HXX.setCell (Nat.le_refl _) _).setCell (Nat.le_refl _) _).setCell (Nat.le_refl _) _⟩
set_option maxRecDepth 100000 in
set_option maxHeartbeats 2000000 in
theorem read67_any (a : Nat) (ha : a = 0 ∨ a = 2 ∨ a = 5) (s : ByteArray) (sl : List Bool) (hs : s.data.toList = Ea.mS sl) (hl : 67 + Ea.wAdd a ≤ sl.length) (hW : sl.length ≤ 65536) (w : World) :
    Calls Tryz.prog 46 #[.string s, .int .i64 67, .int .i64 (a : Int)] w fun e w' => e = .returned (gotV (Ea.rdShape sl 67 a)) ∧ Ext w w' := by
  have hz : s.size = sl.length := by rw [size_of_toList hs, Ea.mS_len]
  have hz1 : 67 ≤ s.size := by omega
  have hz2 : s.size ≤ 65536 := by omega
  have HS := Lib.hid (sym_short s sl hs (by omega))
  have HAW := Lib.hid (fun w => addOnWidth_any a ha w)
  have HAE : Hid (a ≠ 0 → ∀ w, Calls Tryz.prog 77 #[.string (s.extract (s.size - Ea.wAdd a) s.size)] w fun e w' => e = .returned (addV (Ea.rdAdd a (sl.drop (sl.length - Ea.wAdd a)))) ∧ Ext w w') :=
    Lib.hid (fun h0 w => add_end a (ha.resolve_left h0) s sl hs (by omega) w)
  obtain ⟨W, hWA⟩ : ∃ W, Ea.wAdd a = W := ⟨_, rfl⟩
  have hWs : W ≤ s.size := by omega
  obtain ⟨⟨⟨k, t⟩, er⟩, hr⟩ : ∃ r, Ea.rdSym 67 (sl.take 67) = r := ⟨_, rfl⟩
  have hzr : er ≠ 0 → k = 0 ∧ t = [] := fun h => by
    have := rdSym_err 67 (sl.take 67) (by rw [hr]; exact h)
    rw [hr] at this
    injection this with h1 h2
    exact ⟨h1, h2⟩
  obtain ⟨⟨al, ae⟩, hra⟩ : ∃ r, Ea.rdAdd a (sl.drop (sl.length - W)) = r := ⟨_, rfl⟩
  obtain ⟨res, hres⟩ : ∃ res, Ea.rdShape sl 67 a = res := ⟨_, rfl⟩
  have HX := Lib.hid hres
  unfold Ea.rdShape at HX
  rw [hr, hWA, hra] at HX
  rw [hr] at HS
  rw [hWA] at HAW HAE
  rw [hra] at HAE
  rw [hres]
  unfold symV linV at HS
  unfold addV at HAE
  dsimp only at HS HX HAE
  have HZR := Lib.hid hzr
  clear hs hr hres hz hl hW hra hWA hzr
  obtain ⟨T, hT⟩ : ∃ T, Ea.bS t = T := ⟨_, rfl⟩
  have HT := Lib.hid hT
  rw [hT] at HS
  obtain ⟨AL, hAL⟩ : ∃ AL, Ea.bS al = AL := ⟨_, rfl⟩
  have HAL := Lib.hid hAL
  rw [hAL] at HAE
  clear hT hAL
  by_cases h0 : er = 0
  · subst h0
    rw [if_neg (fun h => h rfl)] at HX
    by_cases ha0 : a = 0
    · have HG : Hid (res = ((k, t, []), 0)) := Lib.hid (by rw [← HX.out, if_pos ha0])
      have hb0 : ((a : Int) == 0) = true := by rw [ha0]; rfl
      clear HX HAW HAE ha ha0
      go_enter Tryz.func46, Tryz.ntmps46
      go_wp2_with fail
      refine (HS.out _).mono ?_
      rintro e w1 ⟨rfl, hx⟩
      obtain ⟨z0, z1, z2, z3, z4, z5, z6, HB⟩ := row3_of (row3_new rfl hx.before)
      obtain ⟨y0, y1, y2, y3, y4, y5, y6, HC⟩ := row3_of (row3_new (World.size_alloc _ _) hx)
      have hxw := hx.before.before
      clear hx
      go_wp2
      refine bodyPost_ret (results_lin Tryz.results46 rfl (row3_set (row3_far (by omega) HB)) rfl) rfl ?_
      have HXX := (((hxw.setCell (p := ⟨w.heap.size + 1, 0, none⟩) (Nat.le_succ _) (.int .i64 k)).setCell (p := ⟨w.heap.size + 1, 1, none⟩) (Nat.le_succ _) (.string T)).setCell (p := ⟨w.heap.size + 1, 2, none⟩) (Nat.le_succ _) (.string ⟨#[]⟩))
      exact ⟨by rw [HG.out]; unfold gotV linV; dsimp only; rw [HT.out]; rfl, ((HXX.setCell (Nat.le_refl _) _).setCell (Nat.le_refl _) _).setCell (Nat.le_refl _) _⟩
    · have HAE2 := Lib.hid (HAE.out ha0)
      rw [if_neg ha0] at HX
      have hb0 : ((a : Int) == 0) = false := by rw [beq_eq_false_iff_ne]; omega
      clear HAE ha ha0
      have hsub : (s.size : Int) - (W : Int) = ((s.size - W : Nat) : Int) := by omega
      obtain ⟨g, hg⟩ : ∃ g, s.size - W = g := ⟨_, rfl⟩
      rw [hg] at hsub HAE2
      have hgs : g ≤ s.size := by omega
      clear hg
      by_cases hae : ae = 0
      · subst hae
        have HG : Hid (res = ((k, t, al), 0)) := Lib.hid (by rw [← HX.out, if_neg (fun h => h rfl)])
        clear HX
        go_enter Tryz.func46, Tryz.ntmps46
        go_wp2_with fail
        refine (HS.out _).mono ?_
        rintro e w1 ⟨rfl, hx⟩
        obtain ⟨z0, z1, z2, z3, z4, z5, z6, HB⟩ := row3_of (row3_new rfl hx.before)
        obtain ⟨y0, y1, y2, y3, y4, y5, y6, HC⟩ := row3_of (row3_new (World.size_alloc _ _) hx)
        have hxw := hx.before.before
        clear hx
        go_wp2_with fail
        refine (HAW.out _).mono ?_
        rintro e w2 ⟨rfl, rfl⟩
        go_wp2_with fail
        refine (HAE2.out _).mono ?_
        rintro e w3 ⟨rfl, hx3⟩
        obtain ⟨u0, u1, u2, u3, u4, u5, u6, HB3⟩ := row3_of (row3_on (row3_far (show w.heap.size + 1 ≠ w.heap.size by omega) HB).out hx3)
        obtain ⟨v0, v1, v2, v3, v4, v5, v6, HC3⟩ := row3_of (row3_on (row3_set HC) hx3)
        have HXX := Lib.hid ((((hxw.setCell (p := ⟨w.heap.size + 1, 0, none⟩) (Nat.le_succ _) (.int .i64 k)).setCell (p := ⟨w.heap.size + 1, 1, none⟩) (Nat.le_succ _) (.string T)).setCell (p := ⟨w.heap.size + 1, 2, none⟩) (Nat.le_succ _) (.string (Ea.bS []))).trans hx3)
        clear z0 z1 z2 z3 z4 z5 z6 HB y0 y1 y2 y3 y4 y5 y6 HC hxw hx3
        go_wp2
        refine bodyPost_ret (results_lin Tryz.results46 rfl (row3_set (Lib.hid (far1 (show w.heap.size + 1 ≠ w.heap.size by omega) HB3.out))) rfl) rfl ?_
        have HXY := HXX.out.setCell (p := ⟨w.heap.size + 1, 2, none⟩) (Nat.le_succ _) (.string AL)
        exact ⟨by rw [HG.out]; unfold gotV linV; dsimp only; rw [HT.out, HAL.out]; rfl, ((HXY.setCell (Nat.le_refl _) _).setCell (Nat.le_refl _) _).setCell (Nat.le_refl _) _⟩
      · have HG : Hid (res = ((0, [], []), ae)) := Lib.hid (by rw [← HX.out, if_pos hae])
        have hbe : (ae != 0) = true := bne_iff_ne.2 hae
        clear HX hae
        go_enter Tryz.func46, Tryz.ntmps46
        go_wp2_with fail
        refine (HS.out _).mono ?_
        rintro e w1 ⟨rfl, hx⟩
        obtain ⟨z0, z1, z2, z3, z4, z5, z6, HB⟩ := row3_of (row3_new rfl hx.before)
        obtain ⟨y0, y1, y2, y3, y4, y5, y6, HC⟩ := row3_of (row3_new (World.size_alloc _ _) hx)
        have hxw := hx.before.before
        clear hx
        go_wp2_with fail
        refine (HAW.out _).mono ?_
        rintro e w2 ⟨rfl, rfl⟩
        go_wp2_with fail
        refine (HAE2.out _).mono ?_
        rintro e w3 ⟨rfl, hx3⟩
        obtain ⟨u0, u1, u2, u3, u4, u5, u6, HB3⟩ := row3_of (row3_on (row3_far (show w.heap.size + 1 ≠ w.heap.size by omega) HB).out hx3)
        obtain ⟨v0, v1, v2, v3, v4, v5, v6, HC3⟩ := row3_of (row3_on (row3_set HC) hx3)
        have HXX := Lib.hid ((((hxw.setCell (p := ⟨w.heap.size + 1, 0, none⟩) (Nat.le_succ _) (.int .i64 k)).setCell (p := ⟨w.heap.size + 1, 1, none⟩) (Nat.le_succ _) (.string T)).setCell (p := ⟨w.heap.size + 1, 2, none⟩) (Nat.le_succ _) (.string (Ea.bS []))).trans hx3)
        clear z0 z1 z2 z3 z4 z5 z6 HB y0 y1 y2 y3 y4 y5 y6 HC hxw hx3
        go_wp2
        refine bodyPost_ret (results_lin Tryz.results46 rfl (row3_set (Lib.hid (far1 (show w.heap.size + 1 ≠ w.heap.size by omega) HB3.out))) rfl) rfl ?_
        have HXY := HXX.out.setCell (p := ⟨w.heap.size + 1, 2, none⟩) (Nat.le_succ _) (.string AL)
        exact ⟨by rw [HG.out]; rfl, ((HXY.setCell (Nat.le_refl _) _).setCell (Nat.le_refl _) _).setCell (Nat.le_refl _) _⟩
  · rw [if_pos h0] at HX
    have HG := Lib.hid HX.out.symm
    obtain ⟨rfl, rfl⟩ := HZR.out h0
    have hb : (er != 0) = true := bne_iff_ne.2 h0
    clear HX HZR HAW HAE ha h0
    go_enter Tryz.func46, Tryz.ntmps46
    go_wp2_with fail
    refine (HS.out _).mono ?_
    rintro e w1 ⟨rfl, hx⟩
    obtain ⟨z0, z1, z2, z3, z4, z5, z6, HB⟩ := row3_of (row3_new rfl hx.before)
    obtain ⟨y0, y1, y2, y3, y4, y5, y6, HC⟩ := row3_of (row3_new (World.size_alloc _ _) hx)
    have hxw := hx.before.before
    clear hx
    go_wp2
    refine bodyPost_ret (results_lin Tryz.results46 rfl (row3_set (row3_far (by omega) HB)) rfl) rfl ?_
    have HXX := (((hxw.setCell (p := ⟨w.heap.size + 1, 0, none⟩) (Nat.le_succ _) (.int .i64 0)).setCell (p := ⟨w.heap.size + 1, 1, none⟩) (Nat.le_succ _) (.string T)).setCell (p := ⟨w.heap.size + 1, 2, none⟩) (Nat.le_succ _) (.string ⟨#[]⟩))
    exact ⟨by rw [HG.out]; unfold gotV linV; dsimp only; rw [HT.out]; rfl, ((HXX.setCell (Nat.le_refl _) _).setCell (Nat.le_refl _) _).setCell (Nat.le_refl _) _⟩
set_option maxRecDepth 100000 in
set_option maxHeartbeats 2000000 in
theorem read51_any (a : Nat) (ha : a = 0 ∨ a = 2 ∨ a = 5) (s : ByteArray) (sl : List Bool) (hs : s.data.toList = Ea.mS sl) (hl : 51 + Ea.wAdd a ≤ sl.length) (hW : sl.length ≤ 65536) (w : World) :
    Calls Tryz.prog 46 #[.string s, .int .i64 51, .int .i64 (a : Int)] w fun e w' => e = .returned (gotV (Ea.rdShape sl 51 a)) ∧ Ext w w' := by
  have hz : s.size = sl.length := by rw [size_of_toList hs, Ea.mS_len]
  have hz1 : 51 ≤ s.size := by omega
  have hz2 : s.size ≤ 65536 := by omega
  have HS := Lib.hid (sym_small s sl hs (by omega))
  have HAW := Lib.hid (fun w => addOnWidth_any a ha w)
  have HAE : Hid (a ≠ 0 → ∀ w, Calls Tryz.prog 77 #[.string (s.extract (s.size - Ea.wAdd a) s.size)] w fun e w' => e = .returned (addV (Ea.rdAdd a (sl.drop (sl.length - Ea.wAdd a)))) ∧ Ext w w') :=
    Lib.hid (fun h0 w => add_end a (ha.resolve_left h0) s sl hs (by omega) w)
  obtain ⟨W, hWA⟩ : ∃ W, Ea.wAdd a = W := ⟨_, rfl⟩
  have hWs : W ≤ s.size := by omega
  obtain ⟨⟨⟨k, t⟩, er⟩, hr⟩ : ∃ r, Ea.rdSym 51 (sl.take 51) = r := ⟨_, rfl⟩
  have hzr : er ≠ 0 → k = 0 ∧ t = [] := fun h => by
    have := rdSym_err 51 (sl.take 51) (by rw [hr]; exact h)
    rw [hr] at this
    injection this with h1 h2
    exact ⟨h1, h2⟩
  obtain ⟨⟨al, ae⟩, hra⟩ : ∃ r, Ea.rdAdd a (sl.drop (sl.length - W)) = r := ⟨_, rfl⟩
  obtain ⟨res, hres⟩ : ∃ res, Ea.rdShape sl 51 a = res := ⟨_, rfl⟩
  have HX := Lib.hid hres
  unfold Ea.rdShape at HX
  rw [hr, hWA, hra] at HX
  rw [hr] at HS
  rw [hWA] at HAW HAE
  rw [hra] at HAE
  rw [hres]
  unfold symV linV at HS
  unfold addV at HAE
  dsimp only at HS HX HAE
  have HZR := Lib.hid hzr
  clear hs hr hres hz hl hW hra hWA hzr
  obtain ⟨T, hT⟩ : ∃ T, Ea.bS t = T := ⟨_, rfl⟩
  have HT := Lib.hid hT
  rw [hT] at HS
  obtain ⟨AL, hAL⟩ : ∃ AL, Ea.bS al = AL := ⟨_, rfl⟩
  have HAL := Lib.hid hAL
  rw [hAL] at HAE
  clear hT hAL
  by_cases h0 : er = 0
  · subst h0
    rw [if_neg (fun h => h rfl)] at HX
    by_cases ha0 : a = 0
    · have HG : Hid (res = ((k, t, []), 0)) := Lib.hid (by rw [← HX.out, if_pos ha0])
      have hb0 : ((a : Int) == 0) = true := by rw [ha0]; rfl
      clear HX HAW HAE ha ha0
      go_enter Tryz.func46, Tryz.ntmps46
      go_wp2_with fail
      refine (HS.out _).mono ?_
      rintro e w1 ⟨rfl, hx⟩
      obtain ⟨z0, z1, z2, z3, z4, z5, z6, HB⟩ := row3_of (row3_new rfl hx.before)
      obtain ⟨y0, y1, y2, y3, y4, y5, y6, HC⟩ := row3_of (row3_new (World.size_alloc _ _) hx)
      have hxw := hx.before.before
      clear hx
      go_wp2
      refine bodyPost_ret (results_lin Tryz.results46 rfl (row3_set (row3_far (by omega) HB)) rfl) rfl ?_
      have HXX := (((hxw.setCell (p := ⟨w.heap.size + 1, 0, none⟩) (Nat.le_succ _) (.int .i64 k)).setCell (p := ⟨w.heap.size + 1, 1, none⟩) (Nat.le_succ _) (.string T)).setCell (p := ⟨w.heap.size + 1, 2, none⟩) (Nat.le_succ _) (.string ⟨#[]⟩))
      exact ⟨by rw [HG.out]; unfold gotV linV; dsimp only; rw [HT.out]; rfl, ((HXX.setCell (Nat.le_refl _) _).setCell (Nat.le_refl _) _).setCell (Nat.le_refl _) _⟩
    · have HAE2 := Lib.hid (HAE.out ha0)
      rw [if_neg ha0] at HX
      have hb0 : ((a : Int) == 0) = false := by rw [beq_eq_false_iff_ne]; omega
      clear HAE ha ha0
      have hsub : (s.size : Int) - (W : Int) = ((s.size - W : Nat) : Int) := by omega
      obtain ⟨g, hg⟩ : ∃ g, s.size - W = g := ⟨_, rfl⟩
      rw [hg] at hsub HAE2
      have hgs : g ≤ s.size := by omega
      clear hg
      by_cases hae : ae = 0
      · subst hae
        have HG : Hid (res = ((k, t, al), 0)) := Lib.hid (by rw [← HX.out, if_neg (fun h => h rfl)])
        clear HX
        go_enter Tryz.func46, Tryz.ntmps46
        go_wp2_with fail
        refine (HS.out _).mono ?_
        rintro e w1 ⟨rfl, hx⟩
        obtain ⟨z0, z1, z2, z3, z4, z5, z6, HB⟩ := row3_of (row3_new rfl hx.before)
        obtain ⟨y0, y1, y2, y3, y4, y5, y6, HC⟩ := row3_of (row3_new (World.size_alloc _ _) hx)
        have hxw := hx.before.before
        clear hx
        go_wp2_with fail
        refine (HAW.out _).mono ?_
        rintro e w2 ⟨rfl, rfl⟩
        go_wp2_with fail
        refine (HAE2.out _).mono ?_
        rintro e w3 ⟨rfl, hx3⟩
        obtain ⟨u0, u1, u2, u3, u4, u5, u6, HB3⟩ := row3_of (row3_on (row3_far (show w.heap.size + 1 ≠ w.heap.size by omega) HB).out hx3)
        obtain ⟨v0, v1, v2, v3, v4, v5, v6, HC3⟩ := row3_of (row3_on (row3_set HC) hx3)
        have HXX := Lib.hid ((((hxw.setCell (p := ⟨w.heap.size + 1, 0, none⟩) (Nat.le_succ _) (.int .i64 k)).setCell (p := ⟨w.heap.size + 1, 1, none⟩) (Nat.le_succ _) (.string T)).setCell (p := ⟨w.heap.size + 1, 2, none⟩) (Nat.le_succ _) (.string (Ea.bS []))).trans hx3)
        clear z0 z1 z2 z3 z4 z5 z6 HB y0 y1 y2 y3 y4 y5 y6 HC hxw hx3
        go_wp2
        refine bodyPost_ret (results_lin Tryz.results46 rfl (row3_set (Lib.hid (far1 (show w.heap.size + 1 ≠ w.heap.size by omega) HB3.out))) rfl) rfl ?_
        have HXY := HXX.out.setCell (p := ⟨w.heap.size + 1, 2, none⟩) (Nat.le_succ _) (.string AL)
        exact ⟨by rw [HG.out]; unfold gotV linV; dsimp only; rw [HT.out, HAL.out]; rfl, ((HXY.setCell (Nat.le_refl _) _).setCell (Nat.le_refl _) _).setCell (Nat.le_refl _) _⟩
      · have HG : Hid (res = ((0, [], []), ae)) := Lib.hid (by rw [← HX.out, if_pos hae])
        have hbe : (ae != 0) = true := bne_iff_ne.2 hae
        clear HX hae
        go_enter Tryz.func46, Tryz.ntmps46
        go_wp2_with fail
        refine (HS.out _).mono ?_
        rintro e w1 ⟨rfl, hx⟩
        obtain ⟨z0, z1, z2, z3, z4, z5, z6, HB⟩ := row3_of (row3_new rfl hx.before)
        obtain ⟨y0, y1, y2, y3, y4, y5, y6, HC⟩ := row3_of (row3_new (World.size_alloc _ _) hx)
        have hxw := hx.before.before
        clear hx
        go_wp2_with fail
        refine (HAW.out _).mono ?_
        rintro e w2 ⟨rfl, rfl⟩
        go_wp2_with fail
        refine (HAE2.out _).mono ?_
        rintro e w3 ⟨rfl, hx3⟩
        obtain ⟨u0, u1, u2, u3, u4, u5, u6, HB3⟩ := row3_of (row3_on (row3_far (show w.heap.size + 1 ≠ w.heap.size by omega) HB).out hx3)
        obtain ⟨v0, v1, v2, v3, v4, v5, v6, HC3⟩ := row3_of (row3_on (row3_set HC) hx3)
        have HXX := Lib.hid ((((hxw.setCell (p := ⟨w.heap.size + 1, 0, none⟩) (Nat.le_succ _) (.int .i64 k)).setCell (p := ⟨w.heap.size + 1, 1, none⟩) (Nat.le_succ _) (.string T)).setCell (p := ⟨w.heap.size + 1, 2, none⟩) (Nat.le_succ _) (.string (Ea.bS []))).trans hx3)
        clear z0 z1 z2 z3 z4 z5 z6 HB y0 y1 y2 y3 y4 y5 y6 HC hxw hx3
        go_wp2
        refine bodyPost_ret (results_lin Tryz.results46 rfl (row3_set (Lib.hid (far1 (show w.heap.size + 1 ≠ w.heap.size by omega) HB3.out))) rfl) rfl ?_
        have HXY := HXX.out.setCell (p := ⟨w.heap.size + 1, 2, none⟩) (Nat.le_succ _) (.string AL)
        exact ⟨by rw [HG.out]; rfl, ((HXY.setCell (Nat.le_refl _) _).setCell (Nat.le_refl _) _).setCell (Nat.le_refl _) _⟩
  · rw [if_pos h0] at HX
    have HG := Lib.hid HX.out.symm
    obtain ⟨rfl, rfl⟩ := HZR.out h0
    have hb : (er != 0) = true := bne_iff_ne.2 h0
    clear HX HZR HAW HAE ha h0
    go_enter Tryz.func46, Tryz.ntmps46
    go_wp2_with fail
    refine (HS.out _).mono ?_
    rintro e w1 ⟨rfl, hx⟩
    obtain ⟨z0, z1, z2, z3, z4, z5, z6, HB⟩ := row3_of (row3_new rfl hx.before)
    obtain ⟨y0, y1, y2, y3, y4, y5, y6, HC⟩ := row3_of (row3_new (World.size_alloc _ _) hx)
    have hxw := hx.before.before
    clear hx
    go_wp2
    refine bodyPost_ret (results_lin Tryz.results46 rfl (row3_set (row3_far (by omega) HB)) rfl) rfl ?_
    have HXX := (((hxw.setCell (p := ⟨w.heap.size + 1, 0, none⟩) (Nat.le_succ _) (.int .i64 0)).setCell (p := ⟨w.heap.size + 1, 1, none⟩) (Nat.le_succ _) (.string T)).setCell (p := ⟨w.heap.size + 1, 2, none⟩) (Nat.le_succ _) (.string ⟨#[]⟩))
    exact ⟨by rw [HG.out]; unfold gotV linV; dsimp only; rw [HT.out]; rfl, ((HXX.setCell (Nat.le_refl _) _).setCell (Nat.le_refl _) _).setCell (Nat.le_refl _) _⟩
end Go.Proofs.YtfpliihglgjijaaGreat

/-
  Chapter 11: Decode, walked.
  Condition: a row of at most a million modules.
-/
namespace Go.Proofs.YtfpliihglgjijaaGreat
open Go.RowKit

def wsL : List Nat := [95, 67, 51]
def dsL : List Nat := [0, 2, 5]
theorem read_any (n a : Nat) (hn : n = 95 ∨ n = 67 ∨ n = 51) (ha : a = 0 ∨ a = 2 ∨ a = 5) (s : ByteArray) (sl : List Bool) (hs : s.data.toList = Ea.mS sl) (hf : Ea.fits sl n a = true) (hW : sl.length ≤ 65536) (w : World) :
    Calls Tryz.prog 46 #[.string s, .int .i64 (n : Int), .int .i64 (a : Int)] w fun e w' => e = .returned (gotV (Ea.rdShape sl n a)) ∧ Ext w w' := by
  have hl : n + Ea.wAdd a ≤ sl.length := by
    unfold Ea.fits at hf
    split at hf
    · rename_i h0
      subst h0
      have : sl.length = n := by simpa using hf
      rw [show Ea.wAdd 0 = 0 from rfl]; omega
    · simp only [Bool.and_eq_true, decide_eq_true_eq] at hf; omega
  rcases hn with rfl | rfl | rfl
  · exact read95_any a ha s sl hs hl hW w
  · exact read67_any a ha s sl hs hl hW w
  · exact read51_any a ha s sl hs hl hW w
/-- What is left to try at place j of width i. -/
def leftS (i j : Nat) : List (Nat × Nat) := Ea.shapes.drop (3 * i + j)
theorem leftS_at : ∀ i j, i < 3 → j < 3 → leftS i j = (wsL.getD i 0, dsL.getD j 0) :: leftS i (j + 1) := by
  intro i j hi hj
  have h : ∀ i j : Fin 3, leftS i.1 j.1 = (wsL.getD i.1 0, dsL.getD j.1 0) :: leftS i.1 (j.1 + 1) := by decide
  exact h ⟨i, hi⟩ ⟨j, hj⟩
theorem leftS_next (i : Nat) : leftS i 3 = leftS (i + 1) 0 := by unfold leftS; congr 1
theorem leftS_end : leftS 3 0 = [] := rfl
theorem ws_of {i : Nat} (h : i < 3) : wsL.getD i 0 = 95 ∨ wsL.getD i 0 = 67 ∨ wsL.getD i 0 = 51 := by
  have h' : i = 0 ∨ i = 1 ∨ i = 2 := by omega
  rcases h' with rfl | rfl | rfl <;> decide
theorem ds_of {i : Nat} (h : i < 3) : dsL.getD i 0 = 0 ∨ dsL.getD i 0 = 2 ∨ dsL.getD i 0 = 5 := by
  have h' : i = 0 ∨ i = 1 ∨ i = 2 := by omega
  rcases h' with rfl | rfl | rfl <;> decide
/-- Three numbers in a row. -/
theorem row3i {w : World} {x y z : Int} {t : TypeId} {w' : World} {f : Nat → Int} (hx : f 0 = x) (hy : f 1 = y) (hz : f 2 = z) (h : Ext (w.alloc (.cells #[.int .i64 x, .int .i64 y, .int .i64 z] t)) w') {i : Nat} (hi : i < 3) :
    w'.cell? ⟨w.heap.size, i, none⟩ = some (.int .i64 (f i)) := by
  obtain ⟨_, h0, h1, h2, _⟩ := row3 h
  have h' : i = 0 ∨ i = 1 ∨ i = 2 := by omega
  rcases h' with rfl | rfl | rfl
  · rw [hx]; exact h0
  · rw [hy]; exact h1
  · rw [hz]; exact h2

theorem ldg_app : ∀ x y : List Bool, Ea.ldg (x ++ true :: y) ≤ x.length
  | [], _ => Nat.le_refl _
  | b :: x, y => by
    rw [List.cons_append, Ea.ldg, List.length_cons]
    have := ldg_app x y
    split <;> omega
theorem ldg_trl {l : List Bool} (h : Ea.ldg l ≠ l.length) : Ea.ldg l + Ea.trl l ≤ l.length := by
  have hle := Ea.ldg_le l
  obtain ⟨r, hr⟩ := Ea.ldg_split l (by omega)
  have h2 : Ea.trl l ≤ r.length := by
    unfold Ea.trl
    rw [hr, List.reverse_append, List.reverse_cons, List.append_assoc]
    have := ldg_app r.reverse (Ea.lgt (Ea.ldg l)).reverse
    rw [List.length_reverse] at this
    exact this
  have h3 : l.length = Ea.ldg l + (r.length + 1) := by
    rw [hr, List.length_append, List.length_cons, ← hr]; simp [Ea.lgt]
  omega

set_option maxRecDepth 100000 in
set_option maxHeartbeats 3000000 in
theorem decode_any (v : Value) (m : List Bool) (w : World) (hv : SlK w v (m.map encT)) (hm : m.length ≤ 1000000) :
    Calls Tryz.prog 15 #[v] w fun e w' => e = .returned (gotV (Ea.dec m)) ∧ Ext w w' := by
  obtain ⟨res, hres⟩ : ∃ res, Ea.dec m = res := ⟨_, rfl⟩
  rw [hres]
  have HX := Lib.hid hres
  unfold Ea.dec at HX
  have HM := Lib.hid (fun w' (h : Ext w w') => margins_any v m w' (hv.ext h) hm)
  have HV := Lib.hid hv
  obtain ⟨a, c, rfl, hc⟩ := hv.2
  rw [List.length_map] at HM HV ⊢
  clear hres hv hc
  by_cases h1 : 65536 < m.length
  · rw [if_pos h1] at HX
    go_enter Tryz.func15, Tryz.ntmps15
    go_wp2
    refine bodyPost_ret (results_lin Tryz.results15 rfl (heap_alloc_new _ _) rfl) rfl ?_
    exact ⟨by rw [← HX.out]; rfl, (by repeat (first | exact Ext.refl _ | assumption | refine Ext.alloc ?_ _ | refine Ext.drew ?_ | refine Ext.drewN ?_ _ | refine Ext.setCell ?_ (Nat.le_refl _) _ | refine Ext.trans ?_ (by assumption)))⟩
  · rw [if_neg h1] at HX
    have hm6 : m.length ≤ 65536 := by omega
    obtain ⟨L, hL⟩ : ∃ L, Ea.ldg m = L := ⟨_, rfl⟩
    obtain ⟨R, hR⟩ : ∃ R, Ea.trl m = R := ⟨_, rfl⟩
    rw [hL, hR] at HX HM
    clear h1 hm
    by_cases h2 : L = m.length
    · rw [if_pos h2] at HX
      have b2 : ((L : Int) == (m.length : Int)) = true := beq_iff_eq.2 (by omega)
      clear hL hR h2
      go_enter Tryz.func15, Tryz.ntmps15
      go_wp2_with fail
      refine (HM.out _ (by repeat (first | exact Ext.refl _ | assumption | refine Ext.alloc ?_ _ | refine Ext.drew ?_ | refine Ext.drewN ?_ _ | refine Ext.setCell ?_ (Nat.le_refl _) _ | refine Ext.trans ?_ (by assumption)))).mono ?_
      rintro e w1 ⟨rfl, rfl⟩
      go_wp2
      refine bodyPost_ret (results_lin Tryz.results15 rfl (heap_alloc_new _ _) rfl) rfl ?_
      exact ⟨by rw [← HX.out]; rfl, (by repeat (first | exact Ext.refl _ | assumption | refine Ext.alloc ?_ _ | refine Ext.drew ?_ | refine Ext.drewN ?_ _ | refine Ext.setCell ?_ (Nat.le_refl _) _ | refine Ext.trans ?_ (by assumption)))⟩
    · rw [if_neg h2] at HX
      have b2 : ((L : Int) == (m.length : Int)) = false := beq_eq_false_iff_ne.2 (by omega)
      by_cases h3 : L < 7 ∨ R < 7
      · rw [if_pos h3] at HX
        have b3 : (decide ((L : Int) < 7) = true) ∨ (decide ((L : Int) < 7) = false ∧ decide ((R : Int) < 7) = true) := by
          by_cases h : L < 7
          · exact .inl (decide_eq_true (by omega))
          · exact .inr ⟨decide_eq_false (by omega), decide_eq_true (by omega)⟩
        clear hL hR h2 h3
        rcases b3 with b3 | ⟨b3, b4⟩
        all_goals
          go_enter Tryz.func15, Tryz.ntmps15
          go_wp2_with fail
          refine (HM.out _ (by repeat (first | exact Ext.refl _ | assumption | refine Ext.alloc ?_ _ | refine Ext.drew ?_ | refine Ext.drewN ?_ _ | refine Ext.setCell ?_ (Nat.le_refl _) _ | refine Ext.trans ?_ (by assumption)))).mono ?_
          rintro e w1 ⟨rfl, rfl⟩
          go_wp2
          refine bodyPost_ret (results_lin Tryz.results15 rfl (heap_alloc_new _ _) rfl) rfl ?_
          exact ⟨by rw [← HX.out]; rfl, (by repeat (first | exact Ext.refl _ | assumption | refine Ext.alloc ?_ _ | refine Ext.drew ?_ | refine Ext.drewN ?_ _ | refine Ext.setCell ?_ (Nat.le_refl _) _ | refine Ext.trans ?_ (by assumption)))⟩
      · rw [if_neg h3] at HX
        have b3 : decide ((L : Int) < 7) = false := decide_eq_false (by omega)
        have b4 : decide ((R : Int) < 7) = false := decide_eq_false (by omega)
        obtain ⟨S, hS⟩ : ∃ S, (m.drop L).take (m.length - R - L) = S := ⟨_, rfl⟩
        rw [hS] at HX
        have hLR : L + R ≤ m.length := by rw [← hL, ← hR]; exact ldg_trl (by rw [hL]; exact h2)
        obtain ⟨h, hh⟩ : ∃ h, m.length - R = h := ⟨_, rfl⟩
        have hhi : (m.length : Int) - (R : Int) = (h : Int) := by omega
        have hSl : S.length ≤ 65536 := by rw [← hS, List.length_take, List.length_drop]; omega
        obtain ⟨v', hv1, hv2⟩ := slice_bools HV.out L h (by omega) (by rw [List.length_map]; omega)
        rw [← List.map_drop, ← List.map_take, ← hh, hS] at hv2
        have HTX := Lib.hid (fun w' (x : Ext w w') => text_any v' S w' (hv2.ext x) (by omega))
        obtain ⟨T, hT⟩ : ∃ T, Ea.bS (Ea.mS S) = T := ⟨_, rfl⟩
        rw [hT] at HTX
        have HTL : Hid (T.data.toList = Ea.mS S) := Lib.hid (by rw [← hT, Ea.bS_list])
        have HSL := Lib.hid hSl
        clear hL hR h2 h3 hS hT hh hv2 hSl
        go_enter Tryz.func15, Tryz.ntmps15
        go_wp2_with fail
        refine (HM.out _ (by repeat (first | exact Ext.refl _ | assumption | refine Ext.alloc ?_ _ | refine Ext.drew ?_ | refine Ext.drewN ?_ _ | refine Ext.setCell ?_ (Nat.le_refl _) _ | refine Ext.trans ?_ (by assumption)))).mono ?_
        rintro e w1 ⟨rfl, rfl⟩
        go_wp2_with fail
        refine (HTX.out _ (by repeat (first | exact Ext.refl _ | assumption | refine Ext.alloc ?_ _ | refine Ext.drew ?_ | refine Ext.drewN ?_ _ | refine Ext.setCell ?_ (Nat.le_refl _) _ | refine Ext.trans ?_ (by assumption)))).mono ?_
        rintro e w1 ⟨rfl, hx1⟩
        have HB0 := Lib.hid (row3_new rfl hx1)
        have hxw := hx1.before
        clear hx1 HTX HM hv1 b2 b3 b4 hLR hhi
        go_wp2_with fail
        have HC3 := Lib.hid (fun (w' : World) (x : Ext (w1.alloc (.cells #[.int .i64 95, .int .i64 67, .int .i64 51] 3)) w') (i : Nat) (hi : i < 3) => row3i (f := fun i => ((wsL.getD i 0 : Nat) : Int)) rfl rfl rfl x hi)
        go_loopw [45, 7] (fun v45 v7 wr => ∃ (i : Nat) (fe : Int), i ≤ 3 ∧ v45 = .int .i64 (i : Int) ∧ v7 = .int .i64 fe ∧ Hid (res = Ea.decF S fe (leftS i 0)) ∧ Ext (w1.alloc (.cells #[.int .i64 95, .int .i64 67, .int .i64 51] 3)) wr) (fun v45 _ _ => 3 - (intOf v45).toNat)
        case atStart => exact ⟨0, 7, by omega, rfl, rfl, Lib.hid HX.out.symm, Ext.refl _⟩
        case round =>
          obtain ⟨i, fe, hi, rfl, rfl, HR, hxr⟩ := hrel
          by_cases hlt : i < 3
          · have hcell := HC3.out wr hxr i hlt
            obtain ⟨wo, rfl⟩ : ∃ wo : World, wo = wr := ⟨_, rfl⟩
            have HW3 := Lib.hid (ws_of hlt)
            have HLA := Lib.hid (fun j (hj : j < 3) => leftS_at i j hlt hj)
            obtain ⟨n, hn⟩ : ∃ n, wsL.getD i 0 = n := ⟨_, rfl⟩
            rw [hn] at HW3 HLA hcell
            have hi3 : decide ((i : Int) < 3) = true := decide_eq_true (by omega)
            clear hn
            go_wp2_with fail
            have HD3 := Lib.hid (fun (w' : World) (x : Ext (wo.alloc (.cells #[.int .i64 0, .int .i64 2, .int .i64 5] 3)) w') (i : Nat) (hi : i < 3) => row3i (f := fun i => ((dsL.getD i 0 : Nat) : Int)) rfl rfl rfl x hi)
            go_loopw [51, 7] (fun v51 v7 wq => ∃ (j : Nat) (fe : Int), j ≤ 3 ∧ v51 = .int .i64 (j : Int) ∧ v7 = .int .i64 fe ∧ Hid (res = Ea.decF S fe (leftS i j)) ∧ Ext (wo.alloc (.cells #[.int .i64 0, .int .i64 2, .int .i64 5] 3)) wq) (fun v51 _ _ => 3 - (intOf v51).toNat)
            case atStart => exact ⟨0, fe, by omega, rfl, rfl, HR, Ext.refl _⟩
            case round =>
              clear HR
              obtain ⟨j, fe, hj, rfl, rfl, HR, hxq⟩ := hrel
              by_cases hjt : j < 3
              · have hcel2 := HD3.out wr hxq j hjt
                have HA3 := Lib.hid (ds_of hjt)
                have HLJ := Lib.hid (HLA.out j hjt)
                obtain ⟨a2, ha2⟩ : ∃ a2, dsL.getD j 0 = a2 := ⟨_, rfl⟩
                rw [ha2] at HA3 HLJ hcel2
                clear ha2
                have HST : Hid (res = if Ea.fits S n a2 = false then Ea.decF S fe (leftS i (j + 1)) else if (Ea.rdShape S n a2).2 = 0 then Ea.rdShape S n a2 else Ea.decF S (if fe = 7 then (Ea.rdShape S n a2).2 else fe) (leftS i (j + 1))) := Lib.hid (by rw [HR.out, HLJ.out]; rfl)
                have HF := Lib.hid (fun w => fits_any n a2 (by rcases HW3.out with h | h | h <;> omega) HA3.out T S HTL.out HSL.out w)
                have hxo := hxw.trans ((Ext.before hxr).trans (Ext.before hxq))
                have HXQ := Lib.hid hxq
                have HXO := Lib.hid hxo
                cases hf : Ea.fits S n a2
                · rw [hf] at HF
                  have HST2 : Hid (res = Ea.decF S fe (leftS i (j + 1))) := Lib.hid (by rw [HST.out, if_pos hf])
                  clear hf HST HR HLJ hxq hxo
                  go_wp2_with fail
                  refine (HF.out _).mono ?_
                  rintro e w4 ⟨rfl, hx4⟩
                  go_wp2
                  go_roundw
                  case rel => exact ⟨j + 1, fe, by omega, by go_num, rfl, HST2, HXQ.out.trans hx4⟩
                  case measure => simp [intOf]; omega
                · rw [hf] at HF
                  have HRD := Lib.hid (fun w => read_any n a2 HW3.out HA3.out T S HTL.out hf HSL.out w)
                  have HST2 := Lib.hid (HST.out)
                  rw [if_neg (by rw [hf]; exact Bool.noConfusion)] at HST2
                  obtain ⟨⟨⟨k, t, al⟩, er⟩, hr⟩ : ∃ r, Ea.rdShape S n a2 = r := ⟨_, rfl⟩
                  rw [hr] at HRD HST2
                  unfold gotV linV at HRD
                  dsimp only at HRD HST2
                  obtain ⟨TB, hTB⟩ : ∃ TB, Ea.bS t = TB := ⟨_, rfl⟩
                  obtain ⟨AB, hAB⟩ : ∃ AB, Ea.bS al = AB := ⟨_, rfl⟩
                  have HTA := Lib.hid (And.intro hTB hAB)
                  rw [hTB, hAB] at HRD
                  clear hf HST HR HLJ hxq hxo hr hTB hAB
                  by_cases h0 : er = 0
                  · have HG : Hid (res = ((k, t, al), 0)) := Lib.hid (by rw [HST2.out, if_pos h0, h0])
                    subst h0
                    clear HST2
                    go_wp2_with fail
                    refine (HF.out _).mono ?_
                    rintro e w4 ⟨rfl, hx4⟩
                    go_wp2_with fail
                    refine (HRD.out _).mono ?_
                    rintro e w5 ⟨rfl, hx5⟩
                    have HB1 := Lib.hid (row3_on HB0.out ((Ext.before hxr).trans ((Ext.before HXQ.out).trans (hx4.trans hx5))))
                    obtain ⟨z0, z1, z2, z3, z4, z5, z6, HB⟩ := row3_of HB1.out
                    have HXX := Lib.hid (HXO.out.trans (hx4.trans hx5))
                    clear HB0 HB1 hx4 hx5 hxr
                    go_wp2
                    refine bodyPost_ret (results_lin Tryz.results15 rfl (row3_on (row3_set HB) ((Ext.refl _).alloc _)) rfl) rfl ?_
                    exact ⟨by rw [HG.out]; unfold gotV linV; dsimp only; rw [HTA.out.1, HTA.out.2]; rfl, (((HXX.out.setCell (Nat.le_refl _) _).setCell (Nat.le_refl _) _).setCell (Nat.le_refl _) _).alloc _⟩
                  · rw [if_neg h0] at HST2
                    have hb0 : (er == 0) = false := beq_eq_false_iff_ne.2 h0
                    by_cases h7 : fe = 7
                    · rw [if_pos h7] at HST2
                      have hb7 : (fe == 7) = true := beq_iff_eq.2 h7
                      clear h0 h7
                      go_wp2_with fail
                      refine (HF.out _).mono ?_
                      rintro e w4 ⟨rfl, hx4⟩
                      go_wp2_with fail
                      refine (HRD.out _).mono ?_
                      rintro e w5 ⟨rfl, hx5⟩
                      have HXX := Lib.hid ((HXQ.out.trans (hx4.trans hx5)).alloc (.cells #[.int .i64 k, .string TB, .string AB] 31))
                      clear hx4 hx5
                      go_wp2
                      go_roundw
                      case rel => exact ⟨j + 1, er, by omega, by go_num, rfl, HST2, HXX.out⟩
                      case measure => simp [intOf]; omega
                    · rw [if_neg h7] at HST2
                      have hb7 : (fe == 7) = false := beq_eq_false_iff_ne.2 h7
                      clear h0 h7
                      go_wp2_with fail
                      refine (HF.out _).mono ?_
                      rintro e w4 ⟨rfl, hx4⟩
                      go_wp2_with fail
                      refine (HRD.out _).mono ?_
                      rintro e w5 ⟨rfl, hx5⟩
                      have HXX := Lib.hid ((HXQ.out.trans (hx4.trans hx5)).alloc (.cells #[.int .i64 k, .string TB, .string AB] 31))
                      clear hx4 hx5
                      go_wp2
                      go_roundw
                      case rel => exact ⟨j + 1, fe, by omega, by go_num, rfl, HST2, HXX.out⟩
                      case measure => simp [intOf]; omega
              · obtain rfl : j = 3 := by omega
                have HXQ := Lib.hid (hxr.trans (Ext.before hxq))
                have HST2 : Hid (res = Ea.decF S fe (leftS (i + 1) 0)) := Lib.hid (by rw [HR.out, leftS_next])
                clear hjt hj hxq hxr HR
                go_wp2
                go_roundw
                case rel => exact ⟨i + 1, fe, by omega, by go_num, rfl, HST2, HXQ.out⟩
                case measure => simp [intOf]; omega
          · obtain rfl : i = 3 := by omega
            have HG : Hid (res = ((0, [], []), fe)) := Lib.hid (by rw [HR.out]; rfl)
            have hxx := hxw.trans (Ext.before hxr)
            have HB1 := Lib.hid (row3_on HB0.out (Ext.before hxr))
            obtain ⟨z0, z1, z2, z3, z4, z5, z6, HB⟩ := row3_of HB1.out
            clear hi hlt HB0 HB1
            go_wp2
            refine bodyPost_ret (results_lin Tryz.results15 rfl (row3_set HB) rfl) rfl ?_
            exact ⟨by rw [HG.out]; rfl, ((hxx.setCell (Nat.le_refl _) _).setCell (Nat.le_refl _) _).setCell (Nat.le_refl _) _⟩
end Go.Proofs.YtfpliihglgjijaaGreat
