/-
  Chapter 48, the reference: the font's Glyph.
  No condition.
-/
import Derived.Test.YtamkgbodifjlaaaGreatDoorGlX1
import Derived.Test.YtamkgbodifjlaaaGreatDoorGlWx
import Derived.Deep.RegionLaw
namespace Go.Proofs.YtamkgbodifjlaaaGreatDoor
set_option linter.unusedVariables false
open Go.RowKit

set_option maxRecDepth 100000 in
set_option maxHeartbeats 1000000 in
theorem xglyph_no (c : UInt8) (hk : Gl.known c = false) (w : World) :
    Calls Tryz.prog 29 #[.int .u8 (c.toNat : Int)] w fun e w' => e = .returned (.tuple #[.agg #[.int .i64 0, .int .i64 0, .slice none 0 0], .int .i64 6]) ∧ Ext w w' := by
  have hr := xrows_any c
  rw [show Gl.rowS c = [] by unfold Gl.rowS; rw [hk]; rfl] at hr
  have HR := Lib.hid hr
  clear hr hk
  generalize (c.toNat : Int) = C at *
  go_enter Tryz.func29, Tryz.ntmps29
  go_wp2_with fail
  refine (HR.out _).mono ?_
  rintro e w1 ⟨rfl, rfl⟩
  have he : (bS []).toList.isEmpty = true := by rw [Lib.toList_data, bS_list]; rfl
  go_wp2
  refine bodyPost_ret (results_mat Tryz.results29 rfl (heap_alloc_new w _) rfl) rfl ?_
  exact ⟨rfl, (Ext.refl w).alloc _⟩

set_option maxRecDepth 100000 in
set_option maxHeartbeats 3000000 in
theorem xglyph_any (c : UInt8) (hk : Gl.known c = true) (w : World) :
    Calls Tryz.prog 29 #[.int .u8 (c.toNat : Int)] w fun e w' => ∃ v, e = .returned (.tuple #[.agg #[.int .i64 5, .int .i64 7, v], .int .i64 0]) ∧ Own 4 w' w.heap.size v ((Gl.pix c).map encT) ∧ Ext w w' := by
  have hr := xrows_any c
  rw [show Gl.rowS c = Gl.txt c by unfold Gl.rowS; rw [hk]; rfl] at hr
  have HP : Hid (Gl.dk (Gl.txt c) = Gl.pix c) := Lib.hid (Gl.txt_pix c (by have := Gl.known_mem c; rw [hk] at this; exact of_decide_eq_true this.symm))
  obtain ⟨S, hS⟩ : ∃ S, bS (Gl.txt c) = S := ⟨_, rfl⟩
  have hSl : S.data.toList = Gl.txt c := by rw [← hS, bS_list]
  have hsz : S.size = 41 := by rw [size_of_toList hSl, Gl.txt_len]
  have HB : Hid (∀ k (h : k < S.size), S[k] = 32 ∨ S[k] = 48 ∨ S[k] = 49) := Lib.hid (fun k h => Gl.txt_byte c _ (by rw [← hSl]; exact mem_at S k h))
  have HL := Lib.hid hSl
  have hs41 : S.size ≤ 41 := by omega
  have he : S.toList.isEmpty = false := by
    rw [Lib.toList_data, List.isEmpty_eq_false_iff]
    intro h
    have := len_data S
    rw [h, hsz] at this
    cases this
  rw [hS] at hr
  have HR := Lib.hid hr
  clear hr hk hS hSl hsz
  generalize (c.toNat : Int) = C at *
  go_enter Tryz.func29, Tryz.ntmps29
  go_wp2_with fail
  refine (HR.out _).mono ?_
  rintro e w1 ⟨rfl, rfl⟩
  go_wp2
  go_loopw [6] (fun v6 wr => ∃ (k : Nat) (v : Value), k ≤ S.size ∧ v6 = .int .i64 (k : Int) ∧ wr.heap[w.heap.size]? = some (.cells #[.int .i64 0, .int .i64 0, .slice none 0 0] 24 (0, 0)) ∧
    wr.heap[w.heap.size + 1]? = some (.cells #[.int .i64 5, .int .i64 7, v] 24 (0, 0)) ∧ Own 4 wr (w.heap.size + 1 + 1) v ((Gl.dk (S.data.toList.take k)).map encT) ∧ Ext w wr) (fun v6 _ => S.size - (intOf v6).toNat)
  case atStart =>
    have h1 := heap_alloc_new (w.alloc (.cells #[.int .i64 0, .int .i64 0, .slice none 0 0] 24)) (.cells #[.int .i64 5, .int .i64 7, .slice none 0 0] 24)
    rw [World.size_alloc] at h1
    exact ⟨0, .slice none 0 0, Nat.zero_le _, rfl, row_on (heap_alloc_new w _) ((Ext.refl _).alloc _), h1, Own.nil _ _ _, ((Ext.refl w).alloc _).alloc _⟩
  case round =>
    obtain ⟨k, v, hkl, rfl, hr0, hr1, hown, hxr⟩ := hrel
    have hlow := hown.low
    obtain ⟨va, vc, hv⟩ := hown.sl.form
    obtain ⟨vn, hvn⟩ : ∃ n, ((Gl.dk (S.data.toList.take k)).map encT).length = n := ⟨_, rfl⟩
    rw [hvn] at hv
    subst hv
    clear hvn
    by_cases hlt2 : k < S.size
    · have hbk := HB.out k hlt2
      have HT : Hid (S.data.toList.take (k + 1) = S.data.toList.take k ++ [S[k]]) := Lib.hid (take_snoc S k hlt2)
      have hgl : (Gl.dk (S.data.toList.take k)).length ≤ 41 := Nat.le_trans (Gl.dk_len _) (by rw [len_take S k hkl]; omega)
      by_cases h32 : S[k] = 32
      · have hne : (((S[k].toNat : Nat) : Int) != 32) = false := by rw [h32]; rfl
        have HD : Hid (Gl.dk (S.data.toList.take (k + 1)) = Gl.dk (S.data.toList.take k)) := Lib.hid (by rw [HT.out, h32, Gl.dk_sp])
        have Q0 := Lib.hid hr0
        have Q1 := Lib.hid hr1
        have Q3 := Lib.hid hown
        clear hbk h32 hr0 hr1 hown
        go_wp2
        go_roundw
        case rel => exact ⟨k + 1, _, hlt2, by go_num, Q0.out, Q1.out, by rw [HD.out]; exact Q3.out, hxr⟩
        case measure => simp [intOf]; omega
      · have hne : (((S[k].toNat : Nat) : Int) != 32) = true := by rcases hbk with h | h | h <;> first | exact absurd h h32 | (rw [h]; rfl)
        have HD : Hid (Gl.dk (S.data.toList.take (k + 1)) = Gl.dk (S.data.toList.take k) ++ [S[k] == 49]) := Lib.hid (by rw [HT.out, Gl.dk_px _ _ h32])
        have hbit : (((S[k].toNat : Nat) : Int) == 49) = (S[k] == 49) := by rcases hbk with h | h | h <;> rw [h] <;> rfl
        generalize Gl.dk (S.data.toList.take k) = got at *
        generalize (S[k] == 49) = bt at *
        have c0 := cell_at hr1 (i := 2) rfl
        have l0 := lt_at hr1
        have hlr := lt_at hr0
        obtain ⟨v', w5, hrun, hown5, hg5⟩ := run_append_G (w := (wr.alloc (.cells #[.bool bt] 4)).drew) 22 4 (.bool false) 1 Tryz.underlying22 info_bool rfl (by decide) (w.heap.size + 1 + 1) _ (got.map encT) (.inl (hown.ext ((Ext.refl _).alloc (.cells #[.bool bt] 4)).drew)) wr.heap.size 0 1 1 [encT bt] rfl (by omega)
          (fun j u hj => by
            match j with
            | 0 => simp only [List.getElem?_cons_zero, Option.some.injEq] at hj; subst hj; simp [go_sem, encT]
            | j + 1 => simp at hj)
          (fun u hu => by simp only [List.mem_cons, List.not_mem_nil, or_false] at hu; subst hu; rfl)
          (by rw [List.length_map]; omega) (by simp; omega)
        have HX5 := Lib.hid (((hxr.alloc (.cells #[.bool bt] 4)).drew).ofGrown hg5 (fun j hj => by have := hlow j hj; omega))
        have R0 := Lib.hid (row_grown (row_on hr0 ((Ext.refl wr).alloc (.cells #[.bool bt] 4)).drew) hg5 hlow (by omega))
        have R1 := Lib.hid (row_grown (row_on hr1 ((Ext.refl wr).alloc (.cells #[.bool bt] 4)).drew) hg5 hlow (by omega))
        rw [← map_snocT] at hown5
        obtain ⟨a5, cc5, rfl⟩ := hown5.sl.form
        have hl5 : (List.map encT (got ++ [bt])).length = got.length + 1 := by simp
        rw [hl5] at hown5 hrun
        have HO5 := Lib.hid hown5
        have d0 := cell_at R1.out (i := 2) rfl
        have f0 := frz_at R1.out (i := 2)
        have m0 := lt_at R1.out
        clear hown5 hg5 hown hr0 hr1 hbk h32 hxr
        go_wp2
        go_region_law ((refine step_append_run (by rfl) _ _ _ (by rfl) (by rfl) _ _ (by rfl) (by rfl) _ _ hrun ?_))
        all_goals
          go_wp2
          go_roundw
          case rel => exact ⟨k + 1, _, hlt2, by go_num, far1 (by omega) R0.out, heap_set R1.out, by rw [HD.out]; exact HO5.out.setCell (a := ⟨w.heap.size + 1, 2, none⟩) (by show w.heap.size + 1 < w.heap.size + 1 + 1; omega) _, HX5.out.setCell (p := ⟨w.heap.size + 1, 2, none⟩) (by show w.heap.size ≤ w.heap.size + 1; omega) _⟩
          case measure => simp [intOf]; omega
    · obtain rfl : k = S.size := by omega
      have HD : Hid (Gl.dk (S.data.toList.take S.size) = Gl.pix c) := Lib.hid (by rw [take_all, HL.out]; exact HP.out)
      have c0 := cell_at hr1 (i := 0) rfl
      have c1 := cell_at hr1 (i := 1) rfl
      have c2 := cell_at hr1 (i := 2) rfl
      have l0 := lt_at hr1
      have d0 := cell_at hr0 (i := 0) rfl
      have d1 := cell_at hr0 (i := 1) rfl
      have d2 := cell_at hr0 (i := 2) rfl
      have f0 := frz_at hr0 (i := 0)
      have f1 := frz_at hr0 (i := 1)
      have f2 := frz_at hr0 (i := 2)
      have l1 := lt_at hr0
      have Q0 := Lib.hid hr0
      have Q3 := Lib.hid hown
      have Q4 := Lib.hid hxr
      clear hr0 hr1 hown hxr
      go_wp2
      refine bodyPost_ret (results_mat Tryz.results29 rfl (row3_set Q0) rfl) rfl ?_
      refine ⟨_, rfl, ?_, ((Q4.out.setCell (Nat.le_refl _) _).setCell (Nat.le_refl _) _).setCell (Nat.le_refl _) _⟩
      rw [← HD.out]
      have hb2 : w.heap.size < w.heap.size + 1 + 1 := by omega
      exact (((Q3.out.setCell (a := ⟨w.heap.size, 0, none⟩) hb2 _).setCell (a := ⟨w.heap.size, 1, none⟩) hb2 _).setCell (a := ⟨w.heap.size, 2, none⟩) hb2 _).mono (by omega)
end Go.Proofs.YtamkgbodifjlaaaGreatDoor
