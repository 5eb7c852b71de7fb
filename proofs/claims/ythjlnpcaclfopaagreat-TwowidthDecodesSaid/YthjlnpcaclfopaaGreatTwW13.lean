/-
  Chapter 12: represent and Full, walked.
  Condition: the string is within the reach.
-/
import Derived.Test.YthjlnpcaclfopaaGreatTwW12
import Derived.Test.YthjlnpcaclfopaaGreatBld
namespace Go.Proofs.YthjlnpcaclfopaaGreat
open Go.RowKit

theorem run_str2 (W : World) (g : Nat) (x y : Int) (hg : g = W.heap.size) :
    (convert 61 9 (.slice (some ⟨g, 0, none⟩) 2 2)).run Tryz.prog (W.alloc (.cells #[.int .u8 x, .int .u8 y] 5)) = .ok (.string (strOfNums [x, y])) (W.alloc (.cells #[.int .u8 x, .int .u8 y] 5)) := by
  subst hg
  refine run_convert_bytes_arg (P := Tryz.prog) _ 61 5 Tryz.underlying61 Tryz.underlying5 W.heap.size 0 2 2 [x, y] rfl (fun i hi => ?_) 9 Tryz.underlying9
  match i, hi with
  | 0, _ => simp [go_sem]
  | 1, _ => simp [go_sem]
theorem run_str1 (W : World) (g : Nat) (x : Int) (hg : g = W.heap.size) :
    (convert 61 9 (.slice (some ⟨g, 0, none⟩) 1 1)).run Tryz.prog (W.alloc (.cells #[.int .u8 x] 5)) = .ok (.string (strOfNums [x])) (W.alloc (.cells #[.int .u8 x] 5)) := by
  subst hg
  refine run_convert_bytes_arg (P := Tryz.prog) _ 61 5 Tryz.underlying61 Tryz.underlying5 W.heap.size 0 1 1 [x] rfl (fun i hi => ?_) 9 Tryz.underlying9
  match i, hi with
  | 0, _ => simp [go_sem]

/-- The table of represent: first, last, shift, char. -/
def repT : List (Nat × Nat × Nat × Nat) := [(0, 0, 37, 85), (1, 26, 36, 65), (27, 31, 37, 65), (33, 44, 47, 65), (47, 47, 47, 79), (58, 58, 47, 90), (59, 63, 37, 70), (64, 64, 37, 86), (91, 95, 37, 75), (96, 96, 37, 87), (97, 122, 43, 65), (123, 126, 37, 80), (127, 127, 37, 84)]
theorem rep_in : ∀ (j : Fin 13) (c : Fin 256), (repT.getD j.val (0, 0, 0, 0)).1 ≤ c.val → c.val ≤ (repT.getD j.val (0, 0, 0, 0)).2.1 →
    [UInt8.ofNat (repT.getD j.val (0, 0, 0, 0)).2.2.1, UInt8.ofNat ((repT.getD j.val (0, 0, 0, 0)).2.2.2 + c.val - (repT.getD j.val (0, 0, 0, 0)).1)] = Tw.rep (UInt8.ofNat c.val) := by decide +kernel
theorem rep_out : ∀ c : Fin 256, (∀ j : Fin 13, ¬ ((repT.getD j.val (0, 0, 0, 0)).1 ≤ c.val ∧ c.val ≤ (repT.getD j.val (0, 0, 0, 0)).2.1)) → [UInt8.ofNat c.val] = Tw.rep (UInt8.ofNat c.val) := by decide +kernel
theorem ofNat_toNat (c : UInt8) : UInt8.ofNat c.toNat = c := by simp
theorem rep_at (j : Nat) (hj : j < 13) (c : UInt8) (lo hi sh ch : Nat) (ht : repT.getD j (0, 0, 0, 0) = (lo, hi, sh, ch)) (h1 : lo ≤ c.toNat) (h2 : c.toNat ≤ hi) (x : Int) (hx : x = (ch : Int) + c.toNat - lo) :
    (.string (strOfNums [(sh : Int), x]) : Value) = strV (Tw.rep c) := by
  have := rep_in ⟨j, hj⟩ ⟨c.toNat, c.toNat_lt⟩ (by simp only [ht]; exact h1) (by simp only [ht]; exact h2)
  simp only [ht, ofNat_toNat] at this
  rw [← this]
  unfold strV strOfNums
  have e : x.toNat = ch + c.toNat - lo := by omega
  simp only [List.map_cons, List.map_nil, e, Int.toNat_natCast]

set_option maxRecDepth 100000 in
set_option maxHeartbeats 8000000 in
theorem represent_any (c : UInt8) (w : World) :
    Calls Tryz.prog 29 #[.int .u8 (c.toNat : Int)] w fun e w' => e = .returned (strV (Tw.rep c)) ∧ Ext w w' := by
  have HR := Lib.hid (fun j hj lo hi sh ch ht h1 h2 x hx => rep_at j hj c lo hi sh ch ht h1 h2 x hx)
  have HO := Lib.hid (rep_out ⟨c.toNat, c.toNat_lt⟩)
  have hcl := c.toNat_lt
  go_enter Tryz.func29, Tryz.ntmps29
  go_wp2
  obtain ⟨w0, hw0⟩ : ∃ w0, w.alloc (.cells #[.int .u8 0, .int .u8 0, .int .u8 37, .int .u8 85, .int .u8 1, .int .u8 26, .int .u8 36, .int .u8 65, .int .u8 27, .int .u8 31, .int .u8 37, .int .u8 65, .int .u8 33, .int .u8 44, .int .u8 47, .int .u8 65, .int .u8 47, .int .u8 47, .int .u8 47, .int .u8 79, .int .u8 58, .int .u8 58, .int .u8 47, .int .u8 90, .int .u8 59, .int .u8 63, .int .u8 37, .int .u8 70, .int .u8 64, .int .u8 64, .int .u8 37, .int .u8 86, .int .u8 91, .int .u8 95, .int .u8 37, .int .u8 75, .int .u8 96, .int .u8 96, .int .u8 37, .int .u8 87, .int .u8 97, .int .u8 122, .int .u8 43, .int .u8 65, .int .u8 123, .int .u8 126, .int .u8 37, .int .u8 80, .int .u8 127, .int .u8 127, .int .u8 37, .int .u8 84] 88) = w0 := ⟨_, rfl⟩
  have F0 : Hid (∀ w', Ext w0 w' → w'.cell? ⟨w.heap.size, 0, none⟩ = some (.int .u8 0) ∧ w'.cell? ⟨w.heap.size, 1, none⟩ = some (.int .u8 0) ∧ w'.cell? ⟨w.heap.size, 2, none⟩ = some (.int .u8 37) ∧ w'.cell? ⟨w.heap.size, 3, none⟩ = some (.int .u8 85)) := Lib.hid (fun w' hx => by
    have hl : w.heap.size < w0.heap.size := by rw [← hw0]; simp
    refine ⟨?_, ?_, ?_, ?_⟩
    all_goals rw [hx.cell (p := ⟨w.heap.size, _, none⟩) hl, ← hw0]; simp [go_sem])
  have F1 : Hid (∀ w', Ext w0 w' → w'.cell? ⟨w.heap.size, 4, none⟩ = some (.int .u8 1) ∧ w'.cell? ⟨w.heap.size, 5, none⟩ = some (.int .u8 26) ∧ w'.cell? ⟨w.heap.size, 6, none⟩ = some (.int .u8 36) ∧ w'.cell? ⟨w.heap.size, 7, none⟩ = some (.int .u8 65)) := Lib.hid (fun w' hx => by
    have hl : w.heap.size < w0.heap.size := by rw [← hw0]; simp
    refine ⟨?_, ?_, ?_, ?_⟩
    all_goals rw [hx.cell (p := ⟨w.heap.size, _, none⟩) hl, ← hw0]; simp [go_sem])
  have F2 : Hid (∀ w', Ext w0 w' → w'.cell? ⟨w.heap.size, 8, none⟩ = some (.int .u8 27) ∧ w'.cell? ⟨w.heap.size, 9, none⟩ = some (.int .u8 31) ∧ w'.cell? ⟨w.heap.size, 10, none⟩ = some (.int .u8 37) ∧ w'.cell? ⟨w.heap.size, 11, none⟩ = some (.int .u8 65)) := Lib.hid (fun w' hx => by
    have hl : w.heap.size < w0.heap.size := by rw [← hw0]; simp
    refine ⟨?_, ?_, ?_, ?_⟩
    all_goals rw [hx.cell (p := ⟨w.heap.size, _, none⟩) hl, ← hw0]; simp [go_sem])
  have F3 : Hid (∀ w', Ext w0 w' → w'.cell? ⟨w.heap.size, 12, none⟩ = some (.int .u8 33) ∧ w'.cell? ⟨w.heap.size, 13, none⟩ = some (.int .u8 44) ∧ w'.cell? ⟨w.heap.size, 14, none⟩ = some (.int .u8 47) ∧ w'.cell? ⟨w.heap.size, 15, none⟩ = some (.int .u8 65)) := Lib.hid (fun w' hx => by
    have hl : w.heap.size < w0.heap.size := by rw [← hw0]; simp
    refine ⟨?_, ?_, ?_, ?_⟩
    all_goals rw [hx.cell (p := ⟨w.heap.size, _, none⟩) hl, ← hw0]; simp [go_sem])
  have F4 : Hid (∀ w', Ext w0 w' → w'.cell? ⟨w.heap.size, 16, none⟩ = some (.int .u8 47) ∧ w'.cell? ⟨w.heap.size, 17, none⟩ = some (.int .u8 47) ∧ w'.cell? ⟨w.heap.size, 18, none⟩ = some (.int .u8 47) ∧ w'.cell? ⟨w.heap.size, 19, none⟩ = some (.int .u8 79)) := Lib.hid (fun w' hx => by
    have hl : w.heap.size < w0.heap.size := by rw [← hw0]; simp
    refine ⟨?_, ?_, ?_, ?_⟩
    all_goals rw [hx.cell (p := ⟨w.heap.size, _, none⟩) hl, ← hw0]; simp [go_sem])
  have F5 : Hid (∀ w', Ext w0 w' → w'.cell? ⟨w.heap.size, 20, none⟩ = some (.int .u8 58) ∧ w'.cell? ⟨w.heap.size, 21, none⟩ = some (.int .u8 58) ∧ w'.cell? ⟨w.heap.size, 22, none⟩ = some (.int .u8 47) ∧ w'.cell? ⟨w.heap.size, 23, none⟩ = some (.int .u8 90)) := Lib.hid (fun w' hx => by
    have hl : w.heap.size < w0.heap.size := by rw [← hw0]; simp
    refine ⟨?_, ?_, ?_, ?_⟩
    all_goals rw [hx.cell (p := ⟨w.heap.size, _, none⟩) hl, ← hw0]; simp [go_sem])
  have F6 : Hid (∀ w', Ext w0 w' → w'.cell? ⟨w.heap.size, 24, none⟩ = some (.int .u8 59) ∧ w'.cell? ⟨w.heap.size, 25, none⟩ = some (.int .u8 63) ∧ w'.cell? ⟨w.heap.size, 26, none⟩ = some (.int .u8 37) ∧ w'.cell? ⟨w.heap.size, 27, none⟩ = some (.int .u8 70)) := Lib.hid (fun w' hx => by
    have hl : w.heap.size < w0.heap.size := by rw [← hw0]; simp
    refine ⟨?_, ?_, ?_, ?_⟩
    all_goals rw [hx.cell (p := ⟨w.heap.size, _, none⟩) hl, ← hw0]; simp [go_sem])
  have F7 : Hid (∀ w', Ext w0 w' → w'.cell? ⟨w.heap.size, 28, none⟩ = some (.int .u8 64) ∧ w'.cell? ⟨w.heap.size, 29, none⟩ = some (.int .u8 64) ∧ w'.cell? ⟨w.heap.size, 30, none⟩ = some (.int .u8 37) ∧ w'.cell? ⟨w.heap.size, 31, none⟩ = some (.int .u8 86)) := Lib.hid (fun w' hx => by
    have hl : w.heap.size < w0.heap.size := by rw [← hw0]; simp
    refine ⟨?_, ?_, ?_, ?_⟩
    all_goals rw [hx.cell (p := ⟨w.heap.size, _, none⟩) hl, ← hw0]; simp [go_sem])
  have F8 : Hid (∀ w', Ext w0 w' → w'.cell? ⟨w.heap.size, 32, none⟩ = some (.int .u8 91) ∧ w'.cell? ⟨w.heap.size, 33, none⟩ = some (.int .u8 95) ∧ w'.cell? ⟨w.heap.size, 34, none⟩ = some (.int .u8 37) ∧ w'.cell? ⟨w.heap.size, 35, none⟩ = some (.int .u8 75)) := Lib.hid (fun w' hx => by
    have hl : w.heap.size < w0.heap.size := by rw [← hw0]; simp
    refine ⟨?_, ?_, ?_, ?_⟩
    all_goals rw [hx.cell (p := ⟨w.heap.size, _, none⟩) hl, ← hw0]; simp [go_sem])
  have F9 : Hid (∀ w', Ext w0 w' → w'.cell? ⟨w.heap.size, 36, none⟩ = some (.int .u8 96) ∧ w'.cell? ⟨w.heap.size, 37, none⟩ = some (.int .u8 96) ∧ w'.cell? ⟨w.heap.size, 38, none⟩ = some (.int .u8 37) ∧ w'.cell? ⟨w.heap.size, 39, none⟩ = some (.int .u8 87)) := Lib.hid (fun w' hx => by
    have hl : w.heap.size < w0.heap.size := by rw [← hw0]; simp
    refine ⟨?_, ?_, ?_, ?_⟩
    all_goals rw [hx.cell (p := ⟨w.heap.size, _, none⟩) hl, ← hw0]; simp [go_sem])
  have F10 : Hid (∀ w', Ext w0 w' → w'.cell? ⟨w.heap.size, 40, none⟩ = some (.int .u8 97) ∧ w'.cell? ⟨w.heap.size, 41, none⟩ = some (.int .u8 122) ∧ w'.cell? ⟨w.heap.size, 42, none⟩ = some (.int .u8 43) ∧ w'.cell? ⟨w.heap.size, 43, none⟩ = some (.int .u8 65)) := Lib.hid (fun w' hx => by
    have hl : w.heap.size < w0.heap.size := by rw [← hw0]; simp
    refine ⟨?_, ?_, ?_, ?_⟩
    all_goals rw [hx.cell (p := ⟨w.heap.size, _, none⟩) hl, ← hw0]; simp [go_sem])
  have F11 : Hid (∀ w', Ext w0 w' → w'.cell? ⟨w.heap.size, 44, none⟩ = some (.int .u8 123) ∧ w'.cell? ⟨w.heap.size, 45, none⟩ = some (.int .u8 126) ∧ w'.cell? ⟨w.heap.size, 46, none⟩ = some (.int .u8 37) ∧ w'.cell? ⟨w.heap.size, 47, none⟩ = some (.int .u8 80)) := Lib.hid (fun w' hx => by
    have hl : w.heap.size < w0.heap.size := by rw [← hw0]; simp
    refine ⟨?_, ?_, ?_, ?_⟩
    all_goals rw [hx.cell (p := ⟨w.heap.size, _, none⟩) hl, ← hw0]; simp [go_sem])
  have F12 : Hid (∀ w', Ext w0 w' → w'.cell? ⟨w.heap.size, 48, none⟩ = some (.int .u8 127) ∧ w'.cell? ⟨w.heap.size, 49, none⟩ = some (.int .u8 127) ∧ w'.cell? ⟨w.heap.size, 50, none⟩ = some (.int .u8 37) ∧ w'.cell? ⟨w.heap.size, 51, none⟩ = some (.int .u8 84)) := Lib.hid (fun w' hx => by
    have hl : w.heap.size < w0.heap.size := by rw [← hw0]; simp
    refine ⟨?_, ?_, ?_, ?_⟩
    all_goals rw [hx.cell (p := ⟨w.heap.size, _, none⟩) hl, ← hw0]; simp [go_sem])
  have hx0 : Ext w w0 := by rw [← hw0]; exact (Ext.refl _).alloc _
  rw [hw0]
  clear hw0
  go_loopw [22] (fun i wr => ∃ j : Nat, j ≤ 13 ∧ i = .int .i64 (j : Int) ∧ Hid (∀ k, k < j → ¬ ((repT.getD k (0, 0, 0, 0)).1 ≤ c.toNat ∧ c.toNat ≤ (repT.getD k (0, 0, 0, 0)).2.1)) ∧ Ext w0 wr) (fun i _ => 13 - (intOf i).toNat)
  case atStart => exact ⟨0, Nat.zero_le _, rfl, Lib.hid (fun k hk => absurd hk (Nat.not_lt_zero _)), Ext.refl _⟩
  case round =>
    obtain ⟨j, hj, rfl, HB, hxr⟩ := hrel
    by_cases hlt : j < 13
    · have HBN : Hid (¬ ((repT.getD j (0, 0, 0, 0)).1 ≤ c.toNat ∧ c.toNat ≤ (repT.getD j (0, 0, 0, 0)).2.1) → Hid (∀ k, k < j + 1 → ¬ ((repT.getD k (0, 0, 0, 0)).1 ≤ c.toNat ∧ c.toNat ≤ (repT.getD k (0, 0, 0, 0)).2.1))) := Lib.hid (fun hn => Lib.hid (fun k hk => by
        rcases Nat.lt_or_eq_of_le (Nat.le_of_lt_succ hk) with h1 | rfl
        · exact HB.out k h1
        · exact hn))
      have hcv := run_str2
      obtain rfl | rfl | rfl | rfl | rfl | rfl | rfl | rfl | rfl | rfl | rfl | rfl | rfl : j = 0 ∨ j = 1 ∨ j = 2 ∨ j = 3 ∨ j = 4 ∨ j = 5 ∨ j = 6 ∨ j = 7 ∨ j = 8 ∨ j = 9 ∨ j = 10 ∨ j = 11 ∨ j = 12 := by omega
      · obtain ⟨k0, k1, k2, k3⟩ := F0.out wr hxr
        by_cases h1 : (0 : Int) ≤ (c.toNat : Int)
        · by_cases h2 : (c.toNat : Int) ≤ 0
          · go_wp2
            go_ret
            exact ⟨congrArg Ending.returned (HR.out 0 (by omega) 0 0 37 85 rfl (by omega) (by omega) _ (by omega)), (((hx0.trans hxr).alloc _).alloc _)⟩
          · have HN := HBN.out (fun h => h2 (by have := h.2; change c.toNat ≤ 0 at this; omega))
            go_wp2
            go_roundw
            case rel => exact ⟨1, by omega, by go_num, HN, hxr.alloc _⟩
            case measure => simp [intOf]
        · exact absurd (by omega) h1
      · obtain ⟨k0, k1, k2, k3⟩ := F1.out wr hxr
        by_cases h1 : (1 : Int) ≤ (c.toNat : Int)
        · by_cases h2 : (c.toNat : Int) ≤ 26
          · go_wp2
            go_ret
            exact ⟨congrArg Ending.returned (HR.out 1 (by omega) 1 26 36 65 rfl (by omega) (by omega) _ (by omega)), (((hx0.trans hxr).alloc _).alloc _)⟩
          · have HN := HBN.out (fun h => h2 (by have := h.2; change c.toNat ≤ 26 at this; omega))
            go_wp2
            go_roundw
            case rel => exact ⟨2, by omega, by go_num, HN, hxr.alloc _⟩
            case measure => simp [intOf]
        · have HN := HBN.out (fun h => h1 (by have := h.1; change 1 ≤ c.toNat at this; omega))
          go_wp2
          go_roundw
          case rel => exact ⟨2, by omega, by go_num, HN, hxr.alloc _⟩
          case measure => simp [intOf]
      · obtain ⟨k0, k1, k2, k3⟩ := F2.out wr hxr
        by_cases h1 : (27 : Int) ≤ (c.toNat : Int)
        · by_cases h2 : (c.toNat : Int) ≤ 31
          · go_wp2
            go_ret
            exact ⟨congrArg Ending.returned (HR.out 2 (by omega) 27 31 37 65 rfl (by omega) (by omega) _ (by omega)), (((hx0.trans hxr).alloc _).alloc _)⟩
          · have HN := HBN.out (fun h => h2 (by have := h.2; change c.toNat ≤ 31 at this; omega))
            go_wp2
            go_roundw
            case rel => exact ⟨3, by omega, by go_num, HN, hxr.alloc _⟩
            case measure => simp [intOf]
        · have HN := HBN.out (fun h => h1 (by have := h.1; change 27 ≤ c.toNat at this; omega))
          go_wp2
          go_roundw
          case rel => exact ⟨3, by omega, by go_num, HN, hxr.alloc _⟩
          case measure => simp [intOf]
      · obtain ⟨k0, k1, k2, k3⟩ := F3.out wr hxr
        by_cases h1 : (33 : Int) ≤ (c.toNat : Int)
        · by_cases h2 : (c.toNat : Int) ≤ 44
          · go_wp2
            go_ret
            exact ⟨congrArg Ending.returned (HR.out 3 (by omega) 33 44 47 65 rfl (by omega) (by omega) _ (by omega)), (((hx0.trans hxr).alloc _).alloc _)⟩
          · have HN := HBN.out (fun h => h2 (by have := h.2; change c.toNat ≤ 44 at this; omega))
            go_wp2
            go_roundw
            case rel => exact ⟨4, by omega, by go_num, HN, hxr.alloc _⟩
            case measure => simp [intOf]
        · have HN := HBN.out (fun h => h1 (by have := h.1; change 33 ≤ c.toNat at this; omega))
          go_wp2
          go_roundw
          case rel => exact ⟨4, by omega, by go_num, HN, hxr.alloc _⟩
          case measure => simp [intOf]
      · obtain ⟨k0, k1, k2, k3⟩ := F4.out wr hxr
        by_cases h1 : (47 : Int) ≤ (c.toNat : Int)
        · by_cases h2 : (c.toNat : Int) ≤ 47
          · go_wp2
            go_ret
            exact ⟨congrArg Ending.returned (HR.out 4 (by omega) 47 47 47 79 rfl (by omega) (by omega) _ (by omega)), (((hx0.trans hxr).alloc _).alloc _)⟩
          · have HN := HBN.out (fun h => h2 (by have := h.2; change c.toNat ≤ 47 at this; omega))
            go_wp2
            go_roundw
            case rel => exact ⟨5, by omega, by go_num, HN, hxr.alloc _⟩
            case measure => simp [intOf]
        · have HN := HBN.out (fun h => h1 (by have := h.1; change 47 ≤ c.toNat at this; omega))
          go_wp2
          go_roundw
          case rel => exact ⟨5, by omega, by go_num, HN, hxr.alloc _⟩
          case measure => simp [intOf]
      · obtain ⟨k0, k1, k2, k3⟩ := F5.out wr hxr
        by_cases h1 : (58 : Int) ≤ (c.toNat : Int)
        · by_cases h2 : (c.toNat : Int) ≤ 58
          · go_wp2
            go_ret
            exact ⟨congrArg Ending.returned (HR.out 5 (by omega) 58 58 47 90 rfl (by omega) (by omega) _ (by omega)), (((hx0.trans hxr).alloc _).alloc _)⟩
          · have HN := HBN.out (fun h => h2 (by have := h.2; change c.toNat ≤ 58 at this; omega))
            go_wp2
            go_roundw
            case rel => exact ⟨6, by omega, by go_num, HN, hxr.alloc _⟩
            case measure => simp [intOf]
        · have HN := HBN.out (fun h => h1 (by have := h.1; change 58 ≤ c.toNat at this; omega))
          go_wp2
          go_roundw
          case rel => exact ⟨6, by omega, by go_num, HN, hxr.alloc _⟩
          case measure => simp [intOf]
      · obtain ⟨k0, k1, k2, k3⟩ := F6.out wr hxr
        by_cases h1 : (59 : Int) ≤ (c.toNat : Int)
        · by_cases h2 : (c.toNat : Int) ≤ 63
          · go_wp2
            go_ret
            exact ⟨congrArg Ending.returned (HR.out 6 (by omega) 59 63 37 70 rfl (by omega) (by omega) _ (by omega)), (((hx0.trans hxr).alloc _).alloc _)⟩
          · have HN := HBN.out (fun h => h2 (by have := h.2; change c.toNat ≤ 63 at this; omega))
            go_wp2
            go_roundw
            case rel => exact ⟨7, by omega, by go_num, HN, hxr.alloc _⟩
            case measure => simp [intOf]
        · have HN := HBN.out (fun h => h1 (by have := h.1; change 59 ≤ c.toNat at this; omega))
          go_wp2
          go_roundw
          case rel => exact ⟨7, by omega, by go_num, HN, hxr.alloc _⟩
          case measure => simp [intOf]
      · obtain ⟨k0, k1, k2, k3⟩ := F7.out wr hxr
        by_cases h1 : (64 : Int) ≤ (c.toNat : Int)
        · by_cases h2 : (c.toNat : Int) ≤ 64
          · go_wp2
            go_ret
            exact ⟨congrArg Ending.returned (HR.out 7 (by omega) 64 64 37 86 rfl (by omega) (by omega) _ (by omega)), (((hx0.trans hxr).alloc _).alloc _)⟩
          · have HN := HBN.out (fun h => h2 (by have := h.2; change c.toNat ≤ 64 at this; omega))
            go_wp2
            go_roundw
            case rel => exact ⟨8, by omega, by go_num, HN, hxr.alloc _⟩
            case measure => simp [intOf]
        · have HN := HBN.out (fun h => h1 (by have := h.1; change 64 ≤ c.toNat at this; omega))
          go_wp2
          go_roundw
          case rel => exact ⟨8, by omega, by go_num, HN, hxr.alloc _⟩
          case measure => simp [intOf]
      · obtain ⟨k0, k1, k2, k3⟩ := F8.out wr hxr
        by_cases h1 : (91 : Int) ≤ (c.toNat : Int)
        · by_cases h2 : (c.toNat : Int) ≤ 95
          · go_wp2
            go_ret
            exact ⟨congrArg Ending.returned (HR.out 8 (by omega) 91 95 37 75 rfl (by omega) (by omega) _ (by omega)), (((hx0.trans hxr).alloc _).alloc _)⟩
          · have HN := HBN.out (fun h => h2 (by have := h.2; change c.toNat ≤ 95 at this; omega))
            go_wp2
            go_roundw
            case rel => exact ⟨9, by omega, by go_num, HN, hxr.alloc _⟩
            case measure => simp [intOf]
        · have HN := HBN.out (fun h => h1 (by have := h.1; change 91 ≤ c.toNat at this; omega))
          go_wp2
          go_roundw
          case rel => exact ⟨9, by omega, by go_num, HN, hxr.alloc _⟩
          case measure => simp [intOf]
      · obtain ⟨k0, k1, k2, k3⟩ := F9.out wr hxr
        by_cases h1 : (96 : Int) ≤ (c.toNat : Int)
        · by_cases h2 : (c.toNat : Int) ≤ 96
          · go_wp2
            go_ret
            exact ⟨congrArg Ending.returned (HR.out 9 (by omega) 96 96 37 87 rfl (by omega) (by omega) _ (by omega)), (((hx0.trans hxr).alloc _).alloc _)⟩
          · have HN := HBN.out (fun h => h2 (by have := h.2; change c.toNat ≤ 96 at this; omega))
            go_wp2
            go_roundw
            case rel => exact ⟨10, by omega, by go_num, HN, hxr.alloc _⟩
            case measure => simp [intOf]
        · have HN := HBN.out (fun h => h1 (by have := h.1; change 96 ≤ c.toNat at this; omega))
          go_wp2
          go_roundw
          case rel => exact ⟨10, by omega, by go_num, HN, hxr.alloc _⟩
          case measure => simp [intOf]
      · obtain ⟨k0, k1, k2, k3⟩ := F10.out wr hxr
        by_cases h1 : (97 : Int) ≤ (c.toNat : Int)
        · by_cases h2 : (c.toNat : Int) ≤ 122
          · go_wp2
            go_ret
            exact ⟨congrArg Ending.returned (HR.out 10 (by omega) 97 122 43 65 rfl (by omega) (by omega) _ (by omega)), (((hx0.trans hxr).alloc _).alloc _)⟩
          · have HN := HBN.out (fun h => h2 (by have := h.2; change c.toNat ≤ 122 at this; omega))
            go_wp2
            go_roundw
            case rel => exact ⟨11, by omega, by go_num, HN, hxr.alloc _⟩
            case measure => simp [intOf]
        · have HN := HBN.out (fun h => h1 (by have := h.1; change 97 ≤ c.toNat at this; omega))
          go_wp2
          go_roundw
          case rel => exact ⟨11, by omega, by go_num, HN, hxr.alloc _⟩
          case measure => simp [intOf]
      · obtain ⟨k0, k1, k2, k3⟩ := F11.out wr hxr
        by_cases h1 : (123 : Int) ≤ (c.toNat : Int)
        · by_cases h2 : (c.toNat : Int) ≤ 126
          · go_wp2
            go_ret
            exact ⟨congrArg Ending.returned (HR.out 11 (by omega) 123 126 37 80 rfl (by omega) (by omega) _ (by omega)), (((hx0.trans hxr).alloc _).alloc _)⟩
          · have HN := HBN.out (fun h => h2 (by have := h.2; change c.toNat ≤ 126 at this; omega))
            go_wp2
            go_roundw
            case rel => exact ⟨12, by omega, by go_num, HN, hxr.alloc _⟩
            case measure => simp [intOf]
        · have HN := HBN.out (fun h => h1 (by have := h.1; change 123 ≤ c.toNat at this; omega))
          go_wp2
          go_roundw
          case rel => exact ⟨12, by omega, by go_num, HN, hxr.alloc _⟩
          case measure => simp [intOf]
      · obtain ⟨k0, k1, k2, k3⟩ := F12.out wr hxr
        by_cases h1 : (127 : Int) ≤ (c.toNat : Int)
        · by_cases h2 : (c.toNat : Int) ≤ 127
          · go_wp2
            go_ret
            exact ⟨congrArg Ending.returned (HR.out 12 (by omega) 127 127 37 84 rfl (by omega) (by omega) _ (by omega)), (((hx0.trans hxr).alloc _).alloc _)⟩
          · have HN := HBN.out (fun h => h2 (by have := h.2; change c.toNat ≤ 127 at this; omega))
            go_wp2
            go_roundw
            case rel => exact ⟨13, by omega, by go_num, HN, hxr.alloc _⟩
            case measure => simp [intOf]
        · have HN := HBN.out (fun h => h1 (by have := h.1; change 127 ≤ c.toNat at this; omega))
          go_wp2
          go_roundw
          case rel => exact ⟨13, by omega, by go_num, HN, hxr.alloc _⟩
          case measure => simp [intOf]
    · obtain rfl : j = 13 := by omega
      have hcv := run_str1
      have HF := Lib.hid (HO.out (fun k => HB.out k.val k.isLt))
      clear hj hlt
      go_wp2
      go_ret
      refine ⟨?_, (hx0.trans hxr).alloc _⟩
      have := HF.out
      simp only [ofNat_toNat] at this
      unfold strV
      rw [← this]
      unfold strOfNums
      simp
end Go.Proofs.YthjlnpcaclfopaaGreat
