/-
  Chapter 12: the reference's Encode, walked: it returns what the program's returns.
  Condition: the text is within the reach.
-/
import Derived.Test.YthjlnpcaclfopaaGreatTwR9
import Derived.Test.YthjlnpcaclfopaaGreatTwMa
namespace Go.Proofs.YthjlnpcaclfopaaGreat
open Go.RowKit

theorem join_snoc (L : List (List UInt8)) (x : List UInt8) (h : L ≠ []) : Lib.join (L ++ [x]) [110] = Lib.join L [110] ++ [110] ++ x := by
  have h1 := join_flat (L ++ [x]) (by simp)
  have h2 := join_flat L h
  rw [List.map_append, List.flatten_append, ← h2] at h1
  simp at h1
  rw [h1]; simp
theorem patB_bits (k : Nat) (c : UInt8) : (Tw.patB k c).1 = Tw.bits (Tw.patK k c).1 := by
  have hz : ∀ cs ps z, (Tw.pat cs ps z c).2 = false → (Tw.pat cs ps z c).1 = [] := by
    intro cs ps z h
    unfold Tw.pat at h ⊢
    split
    · rfl
    · rename_i g; rw [if_neg g] at h; simp at h
  unfold Tw.patB
  cases h : (Tw.patK k c).2
  · have : (Tw.patK k c).1 = [] := by
      unfold Tw.patK at h ⊢
      split
      all_goals first | exact hz _ _ _ h | (simp only at h; exact hz _ _ _ h)
    rw [this]; rfl
  · rfl
/-- The characters' patterns, with narrow elements between them. -/
def Tw.symK (k : Nat) (l : List UInt8) : List UInt8 := Lib.join (l.map fun c => (Tw.patK k c).1) [110]
theorem sym_one (k : Nat) (C : ByteArray) (h : 0 < C.size) : Tw.symK k (C.data.toList.take 1) = (Tw.patK k (C[0]'h)).1 := by
  unfold Tw.symK
  rw [take_one C h, List.map_cons, List.map_nil, Lib.join_one]
theorem sym_snoc (k : Nat) (C : ByteArray) (j : Nat) (h0 : 0 < j) (h : j < C.size) : Tw.symK k (C.data.toList.take (j + 1)) = Tw.symK k (C.data.toList.take j) ++ [110] ++ (Tw.patK k C[j]).1 := by
  unfold Tw.symK
  rw [take_snoc C j h, List.map_append, List.map_cons, List.map_nil, join_snoc _ _ (by
    intro e
    have := congrArg List.length e
    rw [List.length_map, len_take C j (by omega), List.length_nil] at this
    omega)]
theorem patK_le9 (k : Nat) (c : UInt8) : (Tw.patK k c).1.length ≤ 9 := by
  unfold Tw.patK
  split
  all_goals exact pat_len _ _ _ _ (by omega)
theorem symK_len (k : Nat) (l : List UInt8) : (Tw.symK k l).length ≤ 10 * l.length := by
  unfold Tw.symK
  refine Nat.le_trans (join_len _ (fun x hx => ?_)) (by rw [List.length_map]; omega)
  rw [List.mem_map] at hx
  obtain ⟨c, _, rfl⟩ := hx
  exact patK_le9 k c

set_option maxRecDepth 100000 in
set_option maxHeartbeats 8000000 in
theorem renc_5f2 (s C : ByteArray) (addon : ByteArray) (w : World) (h0 : 1 ≤ s.size) (hs : s.size ≤ 1000) (hcl : C.size ≤ 1100) (HE : Hid ((Tw.compK 0 s.data.toList false).2 = 0))
    (HX : Hid ((⟨#[42]⟩ ++ s ++ ⟨#[42]⟩ : ByteArray) = C))
    : Calls Tryz.prog 9 #[.int .i64 5, .string s, .agg #[.int .i64 2, .bool false, .string addon]] w (EncR (Tw.widths 2 (Tw.symK 0 C.data.toList), 0) w) := by
  have HW := Lib.hid (fun w => wrong5_any s false w h0 hs)
  rw [HE.out] at HW
  have d0 : ((s.size : Int) == 0) = false := by rw [beq_eq_false_iff_ne]; omega
  have d1 : decide (1000 < (s.size : Int)) = false := by simp; omega
  clear HE
  go_enter Tryz.func9, Tryz.ntmps9
  go_wp2_with fail
  refine (HW.out _).mono ?_
  rintro e w1 ⟨rfl, rfl⟩
  have hx1 := Ext.refl (w.alloc (.cells #[.int .i64 2, .bool false, .string addon] 31))
  clear HW
  go_wp2
  rw [HX.out]
  go_loopw [10, 9] (fun i c wr => ∃ j : Nat, j ≤ C.size ∧ i = .int .i64 (j : Int) ∧ Own 3 wr (w.heap.size + 1) c ((Tw.widths 2 (Tw.symK 0 (C.data.toList.take j))).map encI) ∧ Ext (w.alloc (.cells #[.int .i64 2, .bool false, .string addon] 31)) wr) (fun i _ _ => C.size - (intOf i).toNat)
  case atStart => exact ⟨0, Nat.zero_le _, rfl, Own.nil _ _ _, hx1⟩
  case round =>
    clear hx1
    obtain ⟨j, hj, rfl, hown, hxr⟩ := hrel
    have hwr : w.heap.size + 1 ≤ wr.heap.size := by have := hxr.size; simpa using this
    by_cases hlt : j < C.size
    · have HP := Lib.hid (fun w => rpat_5 C[j] w)
      rw [show Tw.patB 0 C[j] = (Tw.bits (Tw.patK 0 C[j]).1, (Tw.patB 0 C[j]).2) from Prod.ext (patB_bits _ _) rfl] at HP
      have hpl := patK_le9 0 C[j]
      have hgl : (Tw.widths 2 (Tw.symK 0 (C.data.toList.take j))).length ≤ 100000 := by
        have := symK_len 0 (C.data.toList.take j)
        rw [len_take C j hj] at this
        rw [widths_len]; omega
      by_cases hj0 : j = 0
      · subst hj0
        have HS := Lib.hid (sym_one 0 C hlt)
        generalize (Tw.patB 0 C[0]).2 = pe at *
        generalize (Tw.patK 0 C[0]).1 = x at *
        have F0 : wr.cell? ⟨w.heap.size, 0, none⟩ = some (.int .i64 2) := by rw [hxr.cell (p := ⟨w.heap.size, 0, none⟩) (by simp)]; simp [go_sem]
        go_wp2_with fail
        refine (HP.out _).mono ?_
        rintro e w6 ⟨pp, rfl, hpp, hx6⟩
        have F6 : w6.cell? ⟨w.heap.size, 0, none⟩ = some (.int .i64 2) := by rw [hx6.cell (p := ⟨w.heap.size, 0, none⟩) (by show w.heap.size < wr.heap.size; omega)]; exact F0
        have hap := Apart.later hown hpp
        have hown6 := hown.ext hx6
        have hsz6 := hx6.size
        have HEL := Lib.hid (elements_any (w.heap.size + 1) _ _ pp _ (Tw.bits x) 2 w6 hown6 hpp hap (by omega) (by omega) (by rw [bits_len]; omega))
        rw [wB_bits] at HEL
        have hx06 := hxr.trans hx6
        clear hown hpp hap hown6 F0
        go_wp2_with fail
        refine HEL.out.mono ?_
        rintro e w7 ⟨v7, rfl, hown7, hbw7, _⟩
        have hx7 : Ext (w.alloc (.cells #[.int .i64 2, .bool false, .string addon] 31)) w7 := Below.trans hx06 (by simpa using hbw7)
        clear hbw7 HEL
        go_wp2
        go_roundw
        case rel => exact ⟨1, by omega, by go_num, by rw [HS.out]; exact hown7, hx7⟩
        case measure => simp [intOf]; omega
      · have hj0' : 0 < j := by omega
        have dj : decide (0 < (j : Int)) = true := by simp; omega
        have HS := Lib.hid (sym_snoc 0 C j hj0' hlt)
        have HSW : Hid (Tw.widths 2 (Tw.symK 0 (C.data.toList.take (j + 1))) = Tw.widths 2 (Tw.symK 0 (C.data.toList.take j)) ++ [1] ++ Tw.widths 2 (Tw.patK 0 C[j]).1) := Lib.hid (by rw [HS.out, widths_app, widths_app]; rfl)
        generalize Tw.widths 2 (Tw.symK 0 (C.data.toList.take j)) = gg at *
        generalize (Tw.patB 0 C[j]).2 = pe at *
        generalize (Tw.patK 0 C[j]).1 = x at *
        clear HS hj0
        go_wp2_with (at_builtin; refine append_int_at rfl _ _ rfl (w.heap.size + 1) _ gg rfl (hown.alloc _) _ 1 rfl ?c1 ?c2 ?c3 ?_)
        case c1 => simp [go_sem, encI]
        case c2 => omega
        case c3 => first | omega | (simp; omega)
        intro v5 w5 hown5 hg5 hat5
        have hx5 := (hxr.alloc _).ofGrown hg5 (fun k hk => by have := hown.low k hk; simpa using this)
        replace hown5 : Own 3 w5 (w.heap.size + 1) v5 ((gg ++ [1]).map encI) := by rw [List.map_append]; exact hown5
        clear hown hg5 hat5 hxr
        have F0 : w5.cell? ⟨w.heap.size, 0, none⟩ = some (.int .i64 2) := by rw [hx5.cell (p := ⟨w.heap.size, 0, none⟩) (by simp)]; simp [go_sem]
        have hwr5 : w.heap.size + 1 ≤ w5.heap.size := by have := hx5.size; simpa using this
        have hgl5 : (gg ++ [1]).length ≤ 1000000 := by rw [List.length_append]; simp; omega
        go_wp2_with fail
        refine (HP.out _).mono ?_
        rintro e w6 ⟨pp, rfl, hpp, hx6⟩
        have F6 : w6.cell? ⟨w.heap.size, 0, none⟩ = some (.int .i64 2) := by rw [hx6.cell (p := ⟨w.heap.size, 0, none⟩) (by show w.heap.size < w5.heap.size; omega)]; exact F0
        have hap := Apart.later hown5 hpp
        have hown6 := hown5.ext hx6
        have hsz6 := hx6.size
        have HEL := Lib.hid (elements_any (w.heap.size + 1) _ _ pp _ (Tw.bits x) 2 w6 hown6 hpp hap (by omega) hgl5 (by rw [bits_len]; omega))
        rw [wB_bits] at HEL
        have hx06 := hx5.trans hx6
        clear hown5 hpp hap hown6 F0
        go_wp2_with fail
        refine HEL.out.mono ?_
        rintro e w7 ⟨v7, rfl, hown7, hbw7, _⟩
        have hx7 : Ext (w.alloc (.cells #[.int .i64 2, .bool false, .string addon] 31)) w7 := Below.trans hx06 (by simpa using hbw7)
        clear hbw7 HEL
        go_wp2
        go_roundw
        case rel => exact ⟨j + 1, by omega, by go_num, by rw [HSW.out]; exact hown7, hx7⟩
        case measure => simp [intOf]; omega
    · obtain rfl : j = C.size := by omega
      rw [take_all] at hown
      have hsl := hown.sl
      clear hj hlt hown
      go_wp2
      go_ret2
      exact ⟨_, rfl, hsl, ((Ext.refl w).alloc _).trans hxr⟩
set_option maxRecDepth 100000 in
set_option maxHeartbeats 8000000 in
theorem renc_5f3 (s C : ByteArray) (addon : ByteArray) (w : World) (h0 : 1 ≤ s.size) (hs : s.size ≤ 1000) (hcl : C.size ≤ 1100) (HE : Hid ((Tw.compK 0 s.data.toList false).2 = 0))
    (HX : Hid ((⟨#[42]⟩ ++ s ++ ⟨#[42]⟩ : ByteArray) = C))
    : Calls Tryz.prog 9 #[.int .i64 5, .string s, .agg #[.int .i64 3, .bool false, .string addon]] w (EncR (Tw.widths 3 (Tw.symK 0 C.data.toList), 0) w) := by
  have HW := Lib.hid (fun w => wrong5_any s false w h0 hs)
  rw [HE.out] at HW
  have d0 : ((s.size : Int) == 0) = false := by rw [beq_eq_false_iff_ne]; omega
  have d1 : decide (1000 < (s.size : Int)) = false := by simp; omega
  clear HE
  go_enter Tryz.func9, Tryz.ntmps9
  go_wp2_with fail
  refine (HW.out _).mono ?_
  rintro e w1 ⟨rfl, rfl⟩
  have hx1 := Ext.refl (w.alloc (.cells #[.int .i64 3, .bool false, .string addon] 31))
  clear HW
  go_wp2
  rw [HX.out]
  go_loopw [10, 9] (fun i c wr => ∃ j : Nat, j ≤ C.size ∧ i = .int .i64 (j : Int) ∧ Own 3 wr (w.heap.size + 1) c ((Tw.widths 3 (Tw.symK 0 (C.data.toList.take j))).map encI) ∧ Ext (w.alloc (.cells #[.int .i64 3, .bool false, .string addon] 31)) wr) (fun i _ _ => C.size - (intOf i).toNat)
  case atStart => exact ⟨0, Nat.zero_le _, rfl, Own.nil _ _ _, hx1⟩
  case round =>
    clear hx1
    obtain ⟨j, hj, rfl, hown, hxr⟩ := hrel
    have hwr : w.heap.size + 1 ≤ wr.heap.size := by have := hxr.size; simpa using this
    by_cases hlt : j < C.size
    · have HP := Lib.hid (fun w => rpat_5 C[j] w)
      rw [show Tw.patB 0 C[j] = (Tw.bits (Tw.patK 0 C[j]).1, (Tw.patB 0 C[j]).2) from Prod.ext (patB_bits _ _) rfl] at HP
      have hpl := patK_le9 0 C[j]
      have hgl : (Tw.widths 3 (Tw.symK 0 (C.data.toList.take j))).length ≤ 100000 := by
        have := symK_len 0 (C.data.toList.take j)
        rw [len_take C j hj] at this
        rw [widths_len]; omega
      by_cases hj0 : j = 0
      · subst hj0
        have HS := Lib.hid (sym_one 0 C hlt)
        generalize (Tw.patB 0 C[0]).2 = pe at *
        generalize (Tw.patK 0 C[0]).1 = x at *
        have F0 : wr.cell? ⟨w.heap.size, 0, none⟩ = some (.int .i64 3) := by rw [hxr.cell (p := ⟨w.heap.size, 0, none⟩) (by simp)]; simp [go_sem]
        go_wp2_with fail
        refine (HP.out _).mono ?_
        rintro e w6 ⟨pp, rfl, hpp, hx6⟩
        have F6 : w6.cell? ⟨w.heap.size, 0, none⟩ = some (.int .i64 3) := by rw [hx6.cell (p := ⟨w.heap.size, 0, none⟩) (by show w.heap.size < wr.heap.size; omega)]; exact F0
        have hap := Apart.later hown hpp
        have hown6 := hown.ext hx6
        have hsz6 := hx6.size
        have HEL := Lib.hid (elements_any (w.heap.size + 1) _ _ pp _ (Tw.bits x) 3 w6 hown6 hpp hap (by omega) (by omega) (by rw [bits_len]; omega))
        rw [wB_bits] at HEL
        have hx06 := hxr.trans hx6
        clear hown hpp hap hown6 F0
        go_wp2_with fail
        refine HEL.out.mono ?_
        rintro e w7 ⟨v7, rfl, hown7, hbw7, _⟩
        have hx7 : Ext (w.alloc (.cells #[.int .i64 3, .bool false, .string addon] 31)) w7 := Below.trans hx06 (by simpa using hbw7)
        clear hbw7 HEL
        go_wp2
        go_roundw
        case rel => exact ⟨1, by omega, by go_num, by rw [HS.out]; exact hown7, hx7⟩
        case measure => simp [intOf]; omega
      · have hj0' : 0 < j := by omega
        have dj : decide (0 < (j : Int)) = true := by simp; omega
        have HS := Lib.hid (sym_snoc 0 C j hj0' hlt)
        have HSW : Hid (Tw.widths 3 (Tw.symK 0 (C.data.toList.take (j + 1))) = Tw.widths 3 (Tw.symK 0 (C.data.toList.take j)) ++ [1] ++ Tw.widths 3 (Tw.patK 0 C[j]).1) := Lib.hid (by rw [HS.out, widths_app, widths_app]; rfl)
        generalize Tw.widths 3 (Tw.symK 0 (C.data.toList.take j)) = gg at *
        generalize (Tw.patB 0 C[j]).2 = pe at *
        generalize (Tw.patK 0 C[j]).1 = x at *
        clear HS hj0
        go_wp2_with (at_builtin; refine append_int_at rfl _ _ rfl (w.heap.size + 1) _ gg rfl (hown.alloc _) _ 1 rfl ?c1 ?c2 ?c3 ?_)
        case c1 => simp [go_sem, encI]
        case c2 => omega
        case c3 => first | omega | (simp; omega)
        intro v5 w5 hown5 hg5 hat5
        have hx5 := (hxr.alloc _).ofGrown hg5 (fun k hk => by have := hown.low k hk; simpa using this)
        replace hown5 : Own 3 w5 (w.heap.size + 1) v5 ((gg ++ [1]).map encI) := by rw [List.map_append]; exact hown5
        clear hown hg5 hat5 hxr
        have F0 : w5.cell? ⟨w.heap.size, 0, none⟩ = some (.int .i64 3) := by rw [hx5.cell (p := ⟨w.heap.size, 0, none⟩) (by simp)]; simp [go_sem]
        have hwr5 : w.heap.size + 1 ≤ w5.heap.size := by have := hx5.size; simpa using this
        have hgl5 : (gg ++ [1]).length ≤ 1000000 := by rw [List.length_append]; simp; omega
        go_wp2_with fail
        refine (HP.out _).mono ?_
        rintro e w6 ⟨pp, rfl, hpp, hx6⟩
        have F6 : w6.cell? ⟨w.heap.size, 0, none⟩ = some (.int .i64 3) := by rw [hx6.cell (p := ⟨w.heap.size, 0, none⟩) (by show w.heap.size < w5.heap.size; omega)]; exact F0
        have hap := Apart.later hown5 hpp
        have hown6 := hown5.ext hx6
        have hsz6 := hx6.size
        have HEL := Lib.hid (elements_any (w.heap.size + 1) _ _ pp _ (Tw.bits x) 3 w6 hown6 hpp hap (by omega) hgl5 (by rw [bits_len]; omega))
        rw [wB_bits] at HEL
        have hx06 := hx5.trans hx6
        clear hown5 hpp hap hown6 F0
        go_wp2_with fail
        refine HEL.out.mono ?_
        rintro e w7 ⟨v7, rfl, hown7, hbw7, _⟩
        have hx7 : Ext (w.alloc (.cells #[.int .i64 3, .bool false, .string addon] 31)) w7 := Below.trans hx06 (by simpa using hbw7)
        clear hbw7 HEL
        go_wp2
        go_roundw
        case rel => exact ⟨j + 1, by omega, by go_num, by rw [HSW.out]; exact hown7, hx7⟩
        case measure => simp [intOf]; omega
    · obtain rfl : j = C.size := by omega
      rw [take_all] at hown
      have hsl := hown.sl
      clear hj hlt hown
      go_wp2
      go_ret2
      exact ⟨_, rfl, hsl, ((Ext.refl w).alloc _).trans hxr⟩
set_option maxRecDepth 100000 in
set_option maxHeartbeats 8000000 in
theorem renc_5t2 (s C : ByteArray) (addon : ByteArray) (w : World) (h0 : 1 ≤ s.size) (hs : s.size ≤ 1000) (hcl : C.size ≤ 1100) (HE : Hid ((Tw.compK 0 s.data.toList true).2 = 0))
    (D : ByteArray) (HK : Hid (∀ w, Calls Tryz.prog 19 #[.int .i64 5, .string s] w fun e w' => e = .returned (.string D) ∧ Ext w w'))
    (HX : Hid ((⟨#[42]⟩ ++ D ++ ⟨#[42]⟩ : ByteArray) = C))
    : Calls Tryz.prog 9 #[.int .i64 5, .string s, .agg #[.int .i64 2, .bool true, .string addon]] w (EncR (Tw.widths 2 (Tw.symK 0 C.data.toList), 0) w) := by
  have HW := Lib.hid (fun w => wrong5_any s true w h0 hs)
  rw [HE.out] at HW
  have d0 : ((s.size : Int) == 0) = false := by rw [beq_eq_false_iff_ne]; omega
  have d1 : decide (1000 < (s.size : Int)) = false := by simp; omega
  clear HE
  have hdl : D.size ≤ 1100 := by have := congrArg ByteArray.size HX.out; simp at this; omega
  go_enter Tryz.func9, Tryz.ntmps9
  go_wp2_with fail
  refine (HW.out _).mono ?_
  rintro e w1 ⟨rfl, rfl⟩
  go_wp2_with fail
  refine (HK.out _).mono ?_
  rintro e w1 ⟨rfl, hx1⟩
  obtain ⟨hc, hfz⟩ := hx1.cells
  have hz : w.heap.size < w1.heap.size := by have := hx1.size; simp at this; omega
  clear HW
  go_wp2
  rw [HX.out]
  go_loopw [10, 9] (fun i c wr => ∃ j : Nat, j ≤ C.size ∧ i = .int .i64 (j : Int) ∧ Own 3 wr (w.heap.size + 1) c ((Tw.widths 2 (Tw.symK 0 (C.data.toList.take j))).map encI) ∧ Ext (w.alloc (.cells #[.int .i64 2, .bool true, .string addon] 31)) wr) (fun i _ _ => C.size - (intOf i).toNat)
  case atStart => exact ⟨0, Nat.zero_le _, rfl, Own.nil _ _ _, hx1⟩
  case round =>
    clear hx1
    obtain ⟨j, hj, rfl, hown, hxr⟩ := hrel
    have hwr : w.heap.size + 1 ≤ wr.heap.size := by have := hxr.size; simpa using this
    by_cases hlt : j < C.size
    · have HP := Lib.hid (fun w => rpat_5 C[j] w)
      rw [show Tw.patB 0 C[j] = (Tw.bits (Tw.patK 0 C[j]).1, (Tw.patB 0 C[j]).2) from Prod.ext (patB_bits _ _) rfl] at HP
      have hpl := patK_le9 0 C[j]
      have hgl : (Tw.widths 2 (Tw.symK 0 (C.data.toList.take j))).length ≤ 100000 := by
        have := symK_len 0 (C.data.toList.take j)
        rw [len_take C j hj] at this
        rw [widths_len]; omega
      by_cases hj0 : j = 0
      · subst hj0
        have HS := Lib.hid (sym_one 0 C hlt)
        generalize (Tw.patB 0 C[0]).2 = pe at *
        generalize (Tw.patK 0 C[0]).1 = x at *
        have F0 : wr.cell? ⟨w.heap.size, 0, none⟩ = some (.int .i64 2) := by rw [hxr.cell (p := ⟨w.heap.size, 0, none⟩) (by simp)]; simp [go_sem]
        go_wp2_with fail
        refine (HP.out _).mono ?_
        rintro e w6 ⟨pp, rfl, hpp, hx6⟩
        have F6 : w6.cell? ⟨w.heap.size, 0, none⟩ = some (.int .i64 2) := by rw [hx6.cell (p := ⟨w.heap.size, 0, none⟩) (by show w.heap.size < wr.heap.size; omega)]; exact F0
        have hap := Apart.later hown hpp
        have hown6 := hown.ext hx6
        have hsz6 := hx6.size
        have HEL := Lib.hid (elements_any (w.heap.size + 1) _ _ pp _ (Tw.bits x) 2 w6 hown6 hpp hap (by omega) (by omega) (by rw [bits_len]; omega))
        rw [wB_bits] at HEL
        have hx06 := hxr.trans hx6
        clear hown hpp hap hown6 F0
        go_wp2_with fail
        refine HEL.out.mono ?_
        rintro e w7 ⟨v7, rfl, hown7, hbw7, _⟩
        have hx7 : Ext (w.alloc (.cells #[.int .i64 2, .bool true, .string addon] 31)) w7 := Below.trans hx06 (by simpa using hbw7)
        clear hbw7 HEL
        go_wp2
        go_roundw
        case rel => exact ⟨1, by omega, by go_num, by rw [HS.out]; exact hown7, hx7⟩
        case measure => simp [intOf]; omega
      · have hj0' : 0 < j := by omega
        have dj : decide (0 < (j : Int)) = true := by simp; omega
        have HS := Lib.hid (sym_snoc 0 C j hj0' hlt)
        have HSW : Hid (Tw.widths 2 (Tw.symK 0 (C.data.toList.take (j + 1))) = Tw.widths 2 (Tw.symK 0 (C.data.toList.take j)) ++ [1] ++ Tw.widths 2 (Tw.patK 0 C[j]).1) := Lib.hid (by rw [HS.out, widths_app, widths_app]; rfl)
        generalize Tw.widths 2 (Tw.symK 0 (C.data.toList.take j)) = gg at *
        generalize (Tw.patB 0 C[j]).2 = pe at *
        generalize (Tw.patK 0 C[j]).1 = x at *
        clear HS hj0
        go_wp2_with (at_builtin; refine append_int_at rfl _ _ rfl (w.heap.size + 1) _ gg rfl (hown.alloc _) _ 1 rfl ?c1 ?c2 ?c3 ?_)
        case c1 => simp [go_sem, encI]
        case c2 => omega
        case c3 => first | omega | (simp; omega)
        intro v5 w5 hown5 hg5 hat5
        have hx5 := (hxr.alloc _).ofGrown hg5 (fun k hk => by have := hown.low k hk; simpa using this)
        replace hown5 : Own 3 w5 (w.heap.size + 1) v5 ((gg ++ [1]).map encI) := by rw [List.map_append]; exact hown5
        clear hown hg5 hat5 hxr
        have F0 : w5.cell? ⟨w.heap.size, 0, none⟩ = some (.int .i64 2) := by rw [hx5.cell (p := ⟨w.heap.size, 0, none⟩) (by simp)]; simp [go_sem]
        have hwr5 : w.heap.size + 1 ≤ w5.heap.size := by have := hx5.size; simpa using this
        have hgl5 : (gg ++ [1]).length ≤ 1000000 := by rw [List.length_append]; simp; omega
        go_wp2_with fail
        refine (HP.out _).mono ?_
        rintro e w6 ⟨pp, rfl, hpp, hx6⟩
        have F6 : w6.cell? ⟨w.heap.size, 0, none⟩ = some (.int .i64 2) := by rw [hx6.cell (p := ⟨w.heap.size, 0, none⟩) (by show w.heap.size < w5.heap.size; omega)]; exact F0
        have hap := Apart.later hown5 hpp
        have hown6 := hown5.ext hx6
        have hsz6 := hx6.size
        have HEL := Lib.hid (elements_any (w.heap.size + 1) _ _ pp _ (Tw.bits x) 2 w6 hown6 hpp hap (by omega) hgl5 (by rw [bits_len]; omega))
        rw [wB_bits] at HEL
        have hx06 := hx5.trans hx6
        clear hown5 hpp hap hown6 F0
        go_wp2_with fail
        refine HEL.out.mono ?_
        rintro e w7 ⟨v7, rfl, hown7, hbw7, _⟩
        have hx7 : Ext (w.alloc (.cells #[.int .i64 2, .bool true, .string addon] 31)) w7 := Below.trans hx06 (by simpa using hbw7)
        clear hbw7 HEL
        go_wp2
        go_roundw
        case rel => exact ⟨j + 1, by omega, by go_num, by rw [HSW.out]; exact hown7, hx7⟩
        case measure => simp [intOf]; omega
    · obtain rfl : j = C.size := by omega
      rw [take_all] at hown
      have hsl := hown.sl
      clear hj hlt hown
      go_wp2
      go_ret2
      exact ⟨_, rfl, hsl, ((Ext.refl w).alloc _).trans hxr⟩
set_option maxRecDepth 100000 in
set_option maxHeartbeats 8000000 in
theorem renc_5t3 (s C : ByteArray) (addon : ByteArray) (w : World) (h0 : 1 ≤ s.size) (hs : s.size ≤ 1000) (hcl : C.size ≤ 1100) (HE : Hid ((Tw.compK 0 s.data.toList true).2 = 0))
    (D : ByteArray) (HK : Hid (∀ w, Calls Tryz.prog 19 #[.int .i64 5, .string s] w fun e w' => e = .returned (.string D) ∧ Ext w w'))
    (HX : Hid ((⟨#[42]⟩ ++ D ++ ⟨#[42]⟩ : ByteArray) = C))
    : Calls Tryz.prog 9 #[.int .i64 5, .string s, .agg #[.int .i64 3, .bool true, .string addon]] w (EncR (Tw.widths 3 (Tw.symK 0 C.data.toList), 0) w) := by
  have HW := Lib.hid (fun w => wrong5_any s true w h0 hs)
  rw [HE.out] at HW
  have d0 : ((s.size : Int) == 0) = false := by rw [beq_eq_false_iff_ne]; omega
  have d1 : decide (1000 < (s.size : Int)) = false := by simp; omega
  clear HE
  have hdl : D.size ≤ 1100 := by have := congrArg ByteArray.size HX.out; simp at this; omega
  go_enter Tryz.func9, Tryz.ntmps9
  go_wp2_with fail
  refine (HW.out _).mono ?_
  rintro e w1 ⟨rfl, rfl⟩
  go_wp2_with fail
  refine (HK.out _).mono ?_
  rintro e w1 ⟨rfl, hx1⟩
  obtain ⟨hc, hfz⟩ := hx1.cells
  have hz : w.heap.size < w1.heap.size := by have := hx1.size; simp at this; omega
  clear HW
  go_wp2
  rw [HX.out]
  go_loopw [10, 9] (fun i c wr => ∃ j : Nat, j ≤ C.size ∧ i = .int .i64 (j : Int) ∧ Own 3 wr (w.heap.size + 1) c ((Tw.widths 3 (Tw.symK 0 (C.data.toList.take j))).map encI) ∧ Ext (w.alloc (.cells #[.int .i64 3, .bool true, .string addon] 31)) wr) (fun i _ _ => C.size - (intOf i).toNat)
  case atStart => exact ⟨0, Nat.zero_le _, rfl, Own.nil _ _ _, hx1⟩
  case round =>
    clear hx1
    obtain ⟨j, hj, rfl, hown, hxr⟩ := hrel
    have hwr : w.heap.size + 1 ≤ wr.heap.size := by have := hxr.size; simpa using this
    by_cases hlt : j < C.size
    · have HP := Lib.hid (fun w => rpat_5 C[j] w)
      rw [show Tw.patB 0 C[j] = (Tw.bits (Tw.patK 0 C[j]).1, (Tw.patB 0 C[j]).2) from Prod.ext (patB_bits _ _) rfl] at HP
      have hpl := patK_le9 0 C[j]
      have hgl : (Tw.widths 3 (Tw.symK 0 (C.data.toList.take j))).length ≤ 100000 := by
        have := symK_len 0 (C.data.toList.take j)
        rw [len_take C j hj] at this
        rw [widths_len]; omega
      by_cases hj0 : j = 0
      · subst hj0
        have HS := Lib.hid (sym_one 0 C hlt)
        generalize (Tw.patB 0 C[0]).2 = pe at *
        generalize (Tw.patK 0 C[0]).1 = x at *
        have F0 : wr.cell? ⟨w.heap.size, 0, none⟩ = some (.int .i64 3) := by rw [hxr.cell (p := ⟨w.heap.size, 0, none⟩) (by simp)]; simp [go_sem]
        go_wp2_with fail
        refine (HP.out _).mono ?_
        rintro e w6 ⟨pp, rfl, hpp, hx6⟩
        have F6 : w6.cell? ⟨w.heap.size, 0, none⟩ = some (.int .i64 3) := by rw [hx6.cell (p := ⟨w.heap.size, 0, none⟩) (by show w.heap.size < wr.heap.size; omega)]; exact F0
        have hap := Apart.later hown hpp
        have hown6 := hown.ext hx6
        have hsz6 := hx6.size
        have HEL := Lib.hid (elements_any (w.heap.size + 1) _ _ pp _ (Tw.bits x) 3 w6 hown6 hpp hap (by omega) (by omega) (by rw [bits_len]; omega))
        rw [wB_bits] at HEL
        have hx06 := hxr.trans hx6
        clear hown hpp hap hown6 F0
        go_wp2_with fail
        refine HEL.out.mono ?_
        rintro e w7 ⟨v7, rfl, hown7, hbw7, _⟩
        have hx7 : Ext (w.alloc (.cells #[.int .i64 3, .bool true, .string addon] 31)) w7 := Below.trans hx06 (by simpa using hbw7)
        clear hbw7 HEL
        go_wp2
        go_roundw
        case rel => exact ⟨1, by omega, by go_num, by rw [HS.out]; exact hown7, hx7⟩
        case measure => simp [intOf]; omega
      · have hj0' : 0 < j := by omega
        have dj : decide (0 < (j : Int)) = true := by simp; omega
        have HS := Lib.hid (sym_snoc 0 C j hj0' hlt)
        have HSW : Hid (Tw.widths 3 (Tw.symK 0 (C.data.toList.take (j + 1))) = Tw.widths 3 (Tw.symK 0 (C.data.toList.take j)) ++ [1] ++ Tw.widths 3 (Tw.patK 0 C[j]).1) := Lib.hid (by rw [HS.out, widths_app, widths_app]; rfl)
        generalize Tw.widths 3 (Tw.symK 0 (C.data.toList.take j)) = gg at *
        generalize (Tw.patB 0 C[j]).2 = pe at *
        generalize (Tw.patK 0 C[j]).1 = x at *
        clear HS hj0
        go_wp2_with (at_builtin; refine append_int_at rfl _ _ rfl (w.heap.size + 1) _ gg rfl (hown.alloc _) _ 1 rfl ?c1 ?c2 ?c3 ?_)
        case c1 => simp [go_sem, encI]
        case c2 => omega
        case c3 => first | omega | (simp; omega)
        intro v5 w5 hown5 hg5 hat5
        have hx5 := (hxr.alloc _).ofGrown hg5 (fun k hk => by have := hown.low k hk; simpa using this)
        replace hown5 : Own 3 w5 (w.heap.size + 1) v5 ((gg ++ [1]).map encI) := by rw [List.map_append]; exact hown5
        clear hown hg5 hat5 hxr
        have F0 : w5.cell? ⟨w.heap.size, 0, none⟩ = some (.int .i64 3) := by rw [hx5.cell (p := ⟨w.heap.size, 0, none⟩) (by simp)]; simp [go_sem]
        have hwr5 : w.heap.size + 1 ≤ w5.heap.size := by have := hx5.size; simpa using this
        have hgl5 : (gg ++ [1]).length ≤ 1000000 := by rw [List.length_append]; simp; omega
        go_wp2_with fail
        refine (HP.out _).mono ?_
        rintro e w6 ⟨pp, rfl, hpp, hx6⟩
        have F6 : w6.cell? ⟨w.heap.size, 0, none⟩ = some (.int .i64 3) := by rw [hx6.cell (p := ⟨w.heap.size, 0, none⟩) (by show w.heap.size < w5.heap.size; omega)]; exact F0
        have hap := Apart.later hown5 hpp
        have hown6 := hown5.ext hx6
        have hsz6 := hx6.size
        have HEL := Lib.hid (elements_any (w.heap.size + 1) _ _ pp _ (Tw.bits x) 3 w6 hown6 hpp hap (by omega) hgl5 (by rw [bits_len]; omega))
        rw [wB_bits] at HEL
        have hx06 := hx5.trans hx6
        clear hown5 hpp hap hown6 F0
        go_wp2_with fail
        refine HEL.out.mono ?_
        rintro e w7 ⟨v7, rfl, hown7, hbw7, _⟩
        have hx7 : Ext (w.alloc (.cells #[.int .i64 3, .bool true, .string addon] 31)) w7 := Below.trans hx06 (by simpa using hbw7)
        clear hbw7 HEL
        go_wp2
        go_roundw
        case rel => exact ⟨j + 1, by omega, by go_num, by rw [HSW.out]; exact hown7, hx7⟩
        case measure => simp [intOf]; omega
    · obtain rfl : j = C.size := by omega
      rw [take_all] at hown
      have hsl := hown.sl
      clear hj hlt hown
      go_wp2
      go_ret2
      exact ⟨_, rfl, hsl, ((Ext.refl w).alloc _).trans hxr⟩
set_option maxRecDepth 100000 in
set_option maxHeartbeats 8000000 in
theorem renc_6f2 (s C : ByteArray) (addon : ByteArray) (w : World) (h0 : 1 ≤ s.size) (hs : s.size ≤ 1000) (hcl : C.size ≤ 1100) (HE : Hid ((Tw.compK 1 s.data.toList false).2 = 0))
    (HX : C = s)
    : Calls Tryz.prog 9 #[.int .i64 6, .string s, .agg #[.int .i64 2, .bool false, .string addon]] w (EncR (Tw.widths 2 (Tw.symK 1 C.data.toList), 0) w) := by
  have HW := Lib.hid (fun w => wrong6_any s false w h0 hs)
  rw [HE.out] at HW
  have d0 : ((s.size : Int) == 0) = false := by rw [beq_eq_false_iff_ne]; omega
  have d1 : decide (1000 < (s.size : Int)) = false := by simp; omega
  clear HE
  subst HX
  go_enter Tryz.func9, Tryz.ntmps9
  go_wp2_with fail
  refine (HW.out _).mono ?_
  rintro e w1 ⟨rfl, rfl⟩
  have hx1 := Ext.refl (w.alloc (.cells #[.int .i64 2, .bool false, .string addon] 31))
  clear HW
  go_wp2
  go_loopw [10, 9] (fun i c wr => ∃ j : Nat, j ≤ C.size ∧ i = .int .i64 (j : Int) ∧ Own 3 wr (w.heap.size + 1) c ((Tw.widths 2 (Tw.symK 1 (C.data.toList.take j))).map encI) ∧ Ext (w.alloc (.cells #[.int .i64 2, .bool false, .string addon] 31)) wr) (fun i _ _ => C.size - (intOf i).toNat)
  case atStart => exact ⟨0, Nat.zero_le _, rfl, Own.nil _ _ _, hx1⟩
  case round =>
    clear hx1
    obtain ⟨j, hj, rfl, hown, hxr⟩ := hrel
    have hwr : w.heap.size + 1 ≤ wr.heap.size := by have := hxr.size; simpa using this
    by_cases hlt : j < C.size
    · have HP := Lib.hid (fun w => rpat_6 C[j] w)
      rw [show Tw.patB 1 C[j] = (Tw.bits (Tw.patK 1 C[j]).1, (Tw.patB 1 C[j]).2) from Prod.ext (patB_bits _ _) rfl] at HP
      have hpl := patK_le9 1 C[j]
      have hgl : (Tw.widths 2 (Tw.symK 1 (C.data.toList.take j))).length ≤ 100000 := by
        have := symK_len 1 (C.data.toList.take j)
        rw [len_take C j hj] at this
        rw [widths_len]; omega
      by_cases hj0 : j = 0
      · subst hj0
        have HS := Lib.hid (sym_one 1 C hlt)
        generalize (Tw.patB 1 C[0]).2 = pe at *
        generalize (Tw.patK 1 C[0]).1 = x at *
        have F0 : wr.cell? ⟨w.heap.size, 0, none⟩ = some (.int .i64 2) := by rw [hxr.cell (p := ⟨w.heap.size, 0, none⟩) (by simp)]; simp [go_sem]
        go_wp2_with fail
        refine (HP.out _).mono ?_
        rintro e w6 ⟨pp, rfl, hpp, hx6⟩
        have F6 : w6.cell? ⟨w.heap.size, 0, none⟩ = some (.int .i64 2) := by rw [hx6.cell (p := ⟨w.heap.size, 0, none⟩) (by show w.heap.size < wr.heap.size; omega)]; exact F0
        have hap := Apart.later hown hpp
        have hown6 := hown.ext hx6
        have hsz6 := hx6.size
        have HEL := Lib.hid (elements_any (w.heap.size + 1) _ _ pp _ (Tw.bits x) 2 w6 hown6 hpp hap (by omega) (by omega) (by rw [bits_len]; omega))
        rw [wB_bits] at HEL
        have hx06 := hxr.trans hx6
        clear hown hpp hap hown6 F0
        go_wp2_with fail
        refine HEL.out.mono ?_
        rintro e w7 ⟨v7, rfl, hown7, hbw7, _⟩
        have hx7 : Ext (w.alloc (.cells #[.int .i64 2, .bool false, .string addon] 31)) w7 := Below.trans hx06 (by simpa using hbw7)
        clear hbw7 HEL
        go_wp2
        go_roundw
        case rel => exact ⟨1, by omega, by go_num, by rw [HS.out]; exact hown7, hx7⟩
        case measure => simp [intOf]; omega
      · have hj0' : 0 < j := by omega
        have dj : decide (0 < (j : Int)) = true := by simp; omega
        have HS := Lib.hid (sym_snoc 1 C j hj0' hlt)
        have HSW : Hid (Tw.widths 2 (Tw.symK 1 (C.data.toList.take (j + 1))) = Tw.widths 2 (Tw.symK 1 (C.data.toList.take j)) ++ [1] ++ Tw.widths 2 (Tw.patK 1 C[j]).1) := Lib.hid (by rw [HS.out, widths_app, widths_app]; rfl)
        generalize Tw.widths 2 (Tw.symK 1 (C.data.toList.take j)) = gg at *
        generalize (Tw.patB 1 C[j]).2 = pe at *
        generalize (Tw.patK 1 C[j]).1 = x at *
        clear HS hj0
        go_wp2_with (at_builtin; refine append_int_at rfl _ _ rfl (w.heap.size + 1) _ gg rfl (hown.alloc _) _ 1 rfl ?c1 ?c2 ?c3 ?_)
        case c1 => simp [go_sem, encI]
        case c2 => omega
        case c3 => first | omega | (simp; omega)
        intro v5 w5 hown5 hg5 hat5
        have hx5 := (hxr.alloc _).ofGrown hg5 (fun k hk => by have := hown.low k hk; simpa using this)
        replace hown5 : Own 3 w5 (w.heap.size + 1) v5 ((gg ++ [1]).map encI) := by rw [List.map_append]; exact hown5
        clear hown hg5 hat5 hxr
        have F0 : w5.cell? ⟨w.heap.size, 0, none⟩ = some (.int .i64 2) := by rw [hx5.cell (p := ⟨w.heap.size, 0, none⟩) (by simp)]; simp [go_sem]
        have hwr5 : w.heap.size + 1 ≤ w5.heap.size := by have := hx5.size; simpa using this
        have hgl5 : (gg ++ [1]).length ≤ 1000000 := by rw [List.length_append]; simp; omega
        go_wp2_with fail
        refine (HP.out _).mono ?_
        rintro e w6 ⟨pp, rfl, hpp, hx6⟩
        have F6 : w6.cell? ⟨w.heap.size, 0, none⟩ = some (.int .i64 2) := by rw [hx6.cell (p := ⟨w.heap.size, 0, none⟩) (by show w.heap.size < w5.heap.size; omega)]; exact F0
        have hap := Apart.later hown5 hpp
        have hown6 := hown5.ext hx6
        have hsz6 := hx6.size
        have HEL := Lib.hid (elements_any (w.heap.size + 1) _ _ pp _ (Tw.bits x) 2 w6 hown6 hpp hap (by omega) hgl5 (by rw [bits_len]; omega))
        rw [wB_bits] at HEL
        have hx06 := hx5.trans hx6
        clear hown5 hpp hap hown6 F0
        go_wp2_with fail
        refine HEL.out.mono ?_
        rintro e w7 ⟨v7, rfl, hown7, hbw7, _⟩
        have hx7 : Ext (w.alloc (.cells #[.int .i64 2, .bool false, .string addon] 31)) w7 := Below.trans hx06 (by simpa using hbw7)
        clear hbw7 HEL
        go_wp2
        go_roundw
        case rel => exact ⟨j + 1, by omega, by go_num, by rw [HSW.out]; exact hown7, hx7⟩
        case measure => simp [intOf]; omega
    · obtain rfl : j = C.size := by omega
      rw [take_all] at hown
      have hsl := hown.sl
      clear hj hlt hown
      go_wp2
      go_ret2
      exact ⟨_, rfl, hsl, ((Ext.refl w).alloc _).trans hxr⟩
set_option maxRecDepth 100000 in
set_option maxHeartbeats 8000000 in
theorem renc_6f3 (s C : ByteArray) (addon : ByteArray) (w : World) (h0 : 1 ≤ s.size) (hs : s.size ≤ 1000) (hcl : C.size ≤ 1100) (HE : Hid ((Tw.compK 1 s.data.toList false).2 = 0))
    (HX : C = s)
    : Calls Tryz.prog 9 #[.int .i64 6, .string s, .agg #[.int .i64 3, .bool false, .string addon]] w (EncR (Tw.widths 3 (Tw.symK 1 C.data.toList), 0) w) := by
  have HW := Lib.hid (fun w => wrong6_any s false w h0 hs)
  rw [HE.out] at HW
  have d0 : ((s.size : Int) == 0) = false := by rw [beq_eq_false_iff_ne]; omega
  have d1 : decide (1000 < (s.size : Int)) = false := by simp; omega
  clear HE
  subst HX
  go_enter Tryz.func9, Tryz.ntmps9
  go_wp2_with fail
  refine (HW.out _).mono ?_
  rintro e w1 ⟨rfl, rfl⟩
  have hx1 := Ext.refl (w.alloc (.cells #[.int .i64 3, .bool false, .string addon] 31))
  clear HW
  go_wp2
  go_loopw [10, 9] (fun i c wr => ∃ j : Nat, j ≤ C.size ∧ i = .int .i64 (j : Int) ∧ Own 3 wr (w.heap.size + 1) c ((Tw.widths 3 (Tw.symK 1 (C.data.toList.take j))).map encI) ∧ Ext (w.alloc (.cells #[.int .i64 3, .bool false, .string addon] 31)) wr) (fun i _ _ => C.size - (intOf i).toNat)
  case atStart => exact ⟨0, Nat.zero_le _, rfl, Own.nil _ _ _, hx1⟩
  case round =>
    clear hx1
    obtain ⟨j, hj, rfl, hown, hxr⟩ := hrel
    have hwr : w.heap.size + 1 ≤ wr.heap.size := by have := hxr.size; simpa using this
    by_cases hlt : j < C.size
    · have HP := Lib.hid (fun w => rpat_6 C[j] w)
      rw [show Tw.patB 1 C[j] = (Tw.bits (Tw.patK 1 C[j]).1, (Tw.patB 1 C[j]).2) from Prod.ext (patB_bits _ _) rfl] at HP
      have hpl := patK_le9 1 C[j]
      have hgl : (Tw.widths 3 (Tw.symK 1 (C.data.toList.take j))).length ≤ 100000 := by
        have := symK_len 1 (C.data.toList.take j)
        rw [len_take C j hj] at this
        rw [widths_len]; omega
      by_cases hj0 : j = 0
      · subst hj0
        have HS := Lib.hid (sym_one 1 C hlt)
        generalize (Tw.patB 1 C[0]).2 = pe at *
        generalize (Tw.patK 1 C[0]).1 = x at *
        have F0 : wr.cell? ⟨w.heap.size, 0, none⟩ = some (.int .i64 3) := by rw [hxr.cell (p := ⟨w.heap.size, 0, none⟩) (by simp)]; simp [go_sem]
        go_wp2_with fail
        refine (HP.out _).mono ?_
        rintro e w6 ⟨pp, rfl, hpp, hx6⟩
        have F6 : w6.cell? ⟨w.heap.size, 0, none⟩ = some (.int .i64 3) := by rw [hx6.cell (p := ⟨w.heap.size, 0, none⟩) (by show w.heap.size < wr.heap.size; omega)]; exact F0
        have hap := Apart.later hown hpp
        have hown6 := hown.ext hx6
        have hsz6 := hx6.size
        have HEL := Lib.hid (elements_any (w.heap.size + 1) _ _ pp _ (Tw.bits x) 3 w6 hown6 hpp hap (by omega) (by omega) (by rw [bits_len]; omega))
        rw [wB_bits] at HEL
        have hx06 := hxr.trans hx6
        clear hown hpp hap hown6 F0
        go_wp2_with fail
        refine HEL.out.mono ?_
        rintro e w7 ⟨v7, rfl, hown7, hbw7, _⟩
        have hx7 : Ext (w.alloc (.cells #[.int .i64 3, .bool false, .string addon] 31)) w7 := Below.trans hx06 (by simpa using hbw7)
        clear hbw7 HEL
        go_wp2
        go_roundw
        case rel => exact ⟨1, by omega, by go_num, by rw [HS.out]; exact hown7, hx7⟩
        case measure => simp [intOf]; omega
      · have hj0' : 0 < j := by omega
        have dj : decide (0 < (j : Int)) = true := by simp; omega
        have HS := Lib.hid (sym_snoc 1 C j hj0' hlt)
        have HSW : Hid (Tw.widths 3 (Tw.symK 1 (C.data.toList.take (j + 1))) = Tw.widths 3 (Tw.symK 1 (C.data.toList.take j)) ++ [1] ++ Tw.widths 3 (Tw.patK 1 C[j]).1) := Lib.hid (by rw [HS.out, widths_app, widths_app]; rfl)
        generalize Tw.widths 3 (Tw.symK 1 (C.data.toList.take j)) = gg at *
        generalize (Tw.patB 1 C[j]).2 = pe at *
        generalize (Tw.patK 1 C[j]).1 = x at *
        clear HS hj0
        go_wp2_with (at_builtin; refine append_int_at rfl _ _ rfl (w.heap.size + 1) _ gg rfl (hown.alloc _) _ 1 rfl ?c1 ?c2 ?c3 ?_)
        case c1 => simp [go_sem, encI]
        case c2 => omega
        case c3 => first | omega | (simp; omega)
        intro v5 w5 hown5 hg5 hat5
        have hx5 := (hxr.alloc _).ofGrown hg5 (fun k hk => by have := hown.low k hk; simpa using this)
        replace hown5 : Own 3 w5 (w.heap.size + 1) v5 ((gg ++ [1]).map encI) := by rw [List.map_append]; exact hown5
        clear hown hg5 hat5 hxr
        have F0 : w5.cell? ⟨w.heap.size, 0, none⟩ = some (.int .i64 3) := by rw [hx5.cell (p := ⟨w.heap.size, 0, none⟩) (by simp)]; simp [go_sem]
        have hwr5 : w.heap.size + 1 ≤ w5.heap.size := by have := hx5.size; simpa using this
        have hgl5 : (gg ++ [1]).length ≤ 1000000 := by rw [List.length_append]; simp; omega
        go_wp2_with fail
        refine (HP.out _).mono ?_
        rintro e w6 ⟨pp, rfl, hpp, hx6⟩
        have F6 : w6.cell? ⟨w.heap.size, 0, none⟩ = some (.int .i64 3) := by rw [hx6.cell (p := ⟨w.heap.size, 0, none⟩) (by show w.heap.size < w5.heap.size; omega)]; exact F0
        have hap := Apart.later hown5 hpp
        have hown6 := hown5.ext hx6
        have hsz6 := hx6.size
        have HEL := Lib.hid (elements_any (w.heap.size + 1) _ _ pp _ (Tw.bits x) 3 w6 hown6 hpp hap (by omega) hgl5 (by rw [bits_len]; omega))
        rw [wB_bits] at HEL
        have hx06 := hx5.trans hx6
        clear hown5 hpp hap hown6 F0
        go_wp2_with fail
        refine HEL.out.mono ?_
        rintro e w7 ⟨v7, rfl, hown7, hbw7, _⟩
        have hx7 : Ext (w.alloc (.cells #[.int .i64 3, .bool false, .string addon] 31)) w7 := Below.trans hx06 (by simpa using hbw7)
        clear hbw7 HEL
        go_wp2
        go_roundw
        case rel => exact ⟨j + 1, by omega, by go_num, by rw [HSW.out]; exact hown7, hx7⟩
        case measure => simp [intOf]; omega
    · obtain rfl : j = C.size := by omega
      rw [take_all] at hown
      have hsl := hown.sl
      clear hj hlt hown
      go_wp2
      go_ret2
      exact ⟨_, rfl, hsl, ((Ext.refl w).alloc _).trans hxr⟩
set_option maxRecDepth 100000 in
set_option maxHeartbeats 8000000 in
theorem renc_6t2 (s C : ByteArray) (addon : ByteArray) (w : World) (h0 : 1 ≤ s.size) (hs : s.size ≤ 1000) (hcl : C.size ≤ 1100) (HE : Hid ((Tw.compK 1 s.data.toList true).2 = 0))
    (D : ByteArray) (HK : Hid (∀ w, Calls Tryz.prog 19 #[.int .i64 6, .string s] w fun e w' => e = .returned (.string D) ∧ Ext w w'))
    (HX : C = D)
    : Calls Tryz.prog 9 #[.int .i64 6, .string s, .agg #[.int .i64 2, .bool true, .string addon]] w (EncR (Tw.widths 2 (Tw.symK 1 C.data.toList), 0) w) := by
  have HW := Lib.hid (fun w => wrong6_any s true w h0 hs)
  rw [HE.out] at HW
  have d0 : ((s.size : Int) == 0) = false := by rw [beq_eq_false_iff_ne]; omega
  have d1 : decide (1000 < (s.size : Int)) = false := by simp; omega
  clear HE
  subst HX
  go_enter Tryz.func9, Tryz.ntmps9
  go_wp2_with fail
  refine (HW.out _).mono ?_
  rintro e w1 ⟨rfl, rfl⟩
  go_wp2_with fail
  refine (HK.out _).mono ?_
  rintro e w1 ⟨rfl, hx1⟩
  obtain ⟨hc, hfz⟩ := hx1.cells
  have hz : w.heap.size < w1.heap.size := by have := hx1.size; simp at this; omega
  clear HW
  go_wp2
  go_loopw [10, 9] (fun i c wr => ∃ j : Nat, j ≤ C.size ∧ i = .int .i64 (j : Int) ∧ Own 3 wr (w.heap.size + 1) c ((Tw.widths 2 (Tw.symK 1 (C.data.toList.take j))).map encI) ∧ Ext (w.alloc (.cells #[.int .i64 2, .bool true, .string addon] 31)) wr) (fun i _ _ => C.size - (intOf i).toNat)
  case atStart => exact ⟨0, Nat.zero_le _, rfl, Own.nil _ _ _, hx1⟩
  case round =>
    clear hx1
    obtain ⟨j, hj, rfl, hown, hxr⟩ := hrel
    have hwr : w.heap.size + 1 ≤ wr.heap.size := by have := hxr.size; simpa using this
    by_cases hlt : j < C.size
    · have HP := Lib.hid (fun w => rpat_6 C[j] w)
      rw [show Tw.patB 1 C[j] = (Tw.bits (Tw.patK 1 C[j]).1, (Tw.patB 1 C[j]).2) from Prod.ext (patB_bits _ _) rfl] at HP
      have hpl := patK_le9 1 C[j]
      have hgl : (Tw.widths 2 (Tw.symK 1 (C.data.toList.take j))).length ≤ 100000 := by
        have := symK_len 1 (C.data.toList.take j)
        rw [len_take C j hj] at this
        rw [widths_len]; omega
      by_cases hj0 : j = 0
      · subst hj0
        have HS := Lib.hid (sym_one 1 C hlt)
        generalize (Tw.patB 1 C[0]).2 = pe at *
        generalize (Tw.patK 1 C[0]).1 = x at *
        have F0 : wr.cell? ⟨w.heap.size, 0, none⟩ = some (.int .i64 2) := by rw [hxr.cell (p := ⟨w.heap.size, 0, none⟩) (by simp)]; simp [go_sem]
        go_wp2_with fail
        refine (HP.out _).mono ?_
        rintro e w6 ⟨pp, rfl, hpp, hx6⟩
        have F6 : w6.cell? ⟨w.heap.size, 0, none⟩ = some (.int .i64 2) := by rw [hx6.cell (p := ⟨w.heap.size, 0, none⟩) (by show w.heap.size < wr.heap.size; omega)]; exact F0
        have hap := Apart.later hown hpp
        have hown6 := hown.ext hx6
        have hsz6 := hx6.size
        have HEL := Lib.hid (elements_any (w.heap.size + 1) _ _ pp _ (Tw.bits x) 2 w6 hown6 hpp hap (by omega) (by omega) (by rw [bits_len]; omega))
        rw [wB_bits] at HEL
        have hx06 := hxr.trans hx6
        clear hown hpp hap hown6 F0
        go_wp2_with fail
        refine HEL.out.mono ?_
        rintro e w7 ⟨v7, rfl, hown7, hbw7, _⟩
        have hx7 : Ext (w.alloc (.cells #[.int .i64 2, .bool true, .string addon] 31)) w7 := Below.trans hx06 (by simpa using hbw7)
        clear hbw7 HEL
        go_wp2
        go_roundw
        case rel => exact ⟨1, by omega, by go_num, by rw [HS.out]; exact hown7, hx7⟩
        case measure => simp [intOf]; omega
      · have hj0' : 0 < j := by omega
        have dj : decide (0 < (j : Int)) = true := by simp; omega
        have HS := Lib.hid (sym_snoc 1 C j hj0' hlt)
        have HSW : Hid (Tw.widths 2 (Tw.symK 1 (C.data.toList.take (j + 1))) = Tw.widths 2 (Tw.symK 1 (C.data.toList.take j)) ++ [1] ++ Tw.widths 2 (Tw.patK 1 C[j]).1) := Lib.hid (by rw [HS.out, widths_app, widths_app]; rfl)
        generalize Tw.widths 2 (Tw.symK 1 (C.data.toList.take j)) = gg at *
        generalize (Tw.patB 1 C[j]).2 = pe at *
        generalize (Tw.patK 1 C[j]).1 = x at *
        clear HS hj0
        go_wp2_with (at_builtin; refine append_int_at rfl _ _ rfl (w.heap.size + 1) _ gg rfl (hown.alloc _) _ 1 rfl ?c1 ?c2 ?c3 ?_)
        case c1 => simp [go_sem, encI]
        case c2 => omega
        case c3 => first | omega | (simp; omega)
        intro v5 w5 hown5 hg5 hat5
        have hx5 := (hxr.alloc _).ofGrown hg5 (fun k hk => by have := hown.low k hk; simpa using this)
        replace hown5 : Own 3 w5 (w.heap.size + 1) v5 ((gg ++ [1]).map encI) := by rw [List.map_append]; exact hown5
        clear hown hg5 hat5 hxr
        have F0 : w5.cell? ⟨w.heap.size, 0, none⟩ = some (.int .i64 2) := by rw [hx5.cell (p := ⟨w.heap.size, 0, none⟩) (by simp)]; simp [go_sem]
        have hwr5 : w.heap.size + 1 ≤ w5.heap.size := by have := hx5.size; simpa using this
        have hgl5 : (gg ++ [1]).length ≤ 1000000 := by rw [List.length_append]; simp; omega
        go_wp2_with fail
        refine (HP.out _).mono ?_
        rintro e w6 ⟨pp, rfl, hpp, hx6⟩
        have F6 : w6.cell? ⟨w.heap.size, 0, none⟩ = some (.int .i64 2) := by rw [hx6.cell (p := ⟨w.heap.size, 0, none⟩) (by show w.heap.size < w5.heap.size; omega)]; exact F0
        have hap := Apart.later hown5 hpp
        have hown6 := hown5.ext hx6
        have hsz6 := hx6.size
        have HEL := Lib.hid (elements_any (w.heap.size + 1) _ _ pp _ (Tw.bits x) 2 w6 hown6 hpp hap (by omega) hgl5 (by rw [bits_len]; omega))
        rw [wB_bits] at HEL
        have hx06 := hx5.trans hx6
        clear hown5 hpp hap hown6 F0
        go_wp2_with fail
        refine HEL.out.mono ?_
        rintro e w7 ⟨v7, rfl, hown7, hbw7, _⟩
        have hx7 : Ext (w.alloc (.cells #[.int .i64 2, .bool true, .string addon] 31)) w7 := Below.trans hx06 (by simpa using hbw7)
        clear hbw7 HEL
        go_wp2
        go_roundw
        case rel => exact ⟨j + 1, by omega, by go_num, by rw [HSW.out]; exact hown7, hx7⟩
        case measure => simp [intOf]; omega
    · obtain rfl : j = C.size := by omega
      rw [take_all] at hown
      have hsl := hown.sl
      clear hj hlt hown
      go_wp2
      go_ret2
      exact ⟨_, rfl, hsl, ((Ext.refl w).alloc _).trans hxr⟩
set_option maxRecDepth 100000 in
set_option maxHeartbeats 8000000 in
theorem renc_6t3 (s C : ByteArray) (addon : ByteArray) (w : World) (h0 : 1 ≤ s.size) (hs : s.size ≤ 1000) (hcl : C.size ≤ 1100) (HE : Hid ((Tw.compK 1 s.data.toList true).2 = 0))
    (D : ByteArray) (HK : Hid (∀ w, Calls Tryz.prog 19 #[.int .i64 6, .string s] w fun e w' => e = .returned (.string D) ∧ Ext w w'))
    (HX : C = D)
    : Calls Tryz.prog 9 #[.int .i64 6, .string s, .agg #[.int .i64 3, .bool true, .string addon]] w (EncR (Tw.widths 3 (Tw.symK 1 C.data.toList), 0) w) := by
  have HW := Lib.hid (fun w => wrong6_any s true w h0 hs)
  rw [HE.out] at HW
  have d0 : ((s.size : Int) == 0) = false := by rw [beq_eq_false_iff_ne]; omega
  have d1 : decide (1000 < (s.size : Int)) = false := by simp; omega
  clear HE
  subst HX
  go_enter Tryz.func9, Tryz.ntmps9
  go_wp2_with fail
  refine (HW.out _).mono ?_
  rintro e w1 ⟨rfl, rfl⟩
  go_wp2_with fail
  refine (HK.out _).mono ?_
  rintro e w1 ⟨rfl, hx1⟩
  obtain ⟨hc, hfz⟩ := hx1.cells
  have hz : w.heap.size < w1.heap.size := by have := hx1.size; simp at this; omega
  clear HW
  go_wp2
  go_loopw [10, 9] (fun i c wr => ∃ j : Nat, j ≤ C.size ∧ i = .int .i64 (j : Int) ∧ Own 3 wr (w.heap.size + 1) c ((Tw.widths 3 (Tw.symK 1 (C.data.toList.take j))).map encI) ∧ Ext (w.alloc (.cells #[.int .i64 3, .bool true, .string addon] 31)) wr) (fun i _ _ => C.size - (intOf i).toNat)
  case atStart => exact ⟨0, Nat.zero_le _, rfl, Own.nil _ _ _, hx1⟩
  case round =>
    clear hx1
    obtain ⟨j, hj, rfl, hown, hxr⟩ := hrel
    have hwr : w.heap.size + 1 ≤ wr.heap.size := by have := hxr.size; simpa using this
    by_cases hlt : j < C.size
    · have HP := Lib.hid (fun w => rpat_6 C[j] w)
      rw [show Tw.patB 1 C[j] = (Tw.bits (Tw.patK 1 C[j]).1, (Tw.patB 1 C[j]).2) from Prod.ext (patB_bits _ _) rfl] at HP
      have hpl := patK_le9 1 C[j]
      have hgl : (Tw.widths 3 (Tw.symK 1 (C.data.toList.take j))).length ≤ 100000 := by
        have := symK_len 1 (C.data.toList.take j)
        rw [len_take C j hj] at this
        rw [widths_len]; omega
      by_cases hj0 : j = 0
      · subst hj0
        have HS := Lib.hid (sym_one 1 C hlt)
        generalize (Tw.patB 1 C[0]).2 = pe at *
        generalize (Tw.patK 1 C[0]).1 = x at *
        have F0 : wr.cell? ⟨w.heap.size, 0, none⟩ = some (.int .i64 3) := by rw [hxr.cell (p := ⟨w.heap.size, 0, none⟩) (by simp)]; simp [go_sem]
        go_wp2_with fail
        refine (HP.out _).mono ?_
        rintro e w6 ⟨pp, rfl, hpp, hx6⟩
        have F6 : w6.cell? ⟨w.heap.size, 0, none⟩ = some (.int .i64 3) := by rw [hx6.cell (p := ⟨w.heap.size, 0, none⟩) (by show w.heap.size < wr.heap.size; omega)]; exact F0
        have hap := Apart.later hown hpp
        have hown6 := hown.ext hx6
        have hsz6 := hx6.size
        have HEL := Lib.hid (elements_any (w.heap.size + 1) _ _ pp _ (Tw.bits x) 3 w6 hown6 hpp hap (by omega) (by omega) (by rw [bits_len]; omega))
        rw [wB_bits] at HEL
        have hx06 := hxr.trans hx6
        clear hown hpp hap hown6 F0
        go_wp2_with fail
        refine HEL.out.mono ?_
        rintro e w7 ⟨v7, rfl, hown7, hbw7, _⟩
        have hx7 : Ext (w.alloc (.cells #[.int .i64 3, .bool true, .string addon] 31)) w7 := Below.trans hx06 (by simpa using hbw7)
        clear hbw7 HEL
        go_wp2
        go_roundw
        case rel => exact ⟨1, by omega, by go_num, by rw [HS.out]; exact hown7, hx7⟩
        case measure => simp [intOf]; omega
      · have hj0' : 0 < j := by omega
        have dj : decide (0 < (j : Int)) = true := by simp; omega
        have HS := Lib.hid (sym_snoc 1 C j hj0' hlt)
        have HSW : Hid (Tw.widths 3 (Tw.symK 1 (C.data.toList.take (j + 1))) = Tw.widths 3 (Tw.symK 1 (C.data.toList.take j)) ++ [1] ++ Tw.widths 3 (Tw.patK 1 C[j]).1) := Lib.hid (by rw [HS.out, widths_app, widths_app]; rfl)
        generalize Tw.widths 3 (Tw.symK 1 (C.data.toList.take j)) = gg at *
        generalize (Tw.patB 1 C[j]).2 = pe at *
        generalize (Tw.patK 1 C[j]).1 = x at *
        clear HS hj0
        go_wp2_with (at_builtin; refine append_int_at rfl _ _ rfl (w.heap.size + 1) _ gg rfl (hown.alloc _) _ 1 rfl ?c1 ?c2 ?c3 ?_)
        case c1 => simp [go_sem, encI]
        case c2 => omega
        case c3 => first | omega | (simp; omega)
        intro v5 w5 hown5 hg5 hat5
        have hx5 := (hxr.alloc _).ofGrown hg5 (fun k hk => by have := hown.low k hk; simpa using this)
        replace hown5 : Own 3 w5 (w.heap.size + 1) v5 ((gg ++ [1]).map encI) := by rw [List.map_append]; exact hown5
        clear hown hg5 hat5 hxr
        have F0 : w5.cell? ⟨w.heap.size, 0, none⟩ = some (.int .i64 3) := by rw [hx5.cell (p := ⟨w.heap.size, 0, none⟩) (by simp)]; simp [go_sem]
        have hwr5 : w.heap.size + 1 ≤ w5.heap.size := by have := hx5.size; simpa using this
        have hgl5 : (gg ++ [1]).length ≤ 1000000 := by rw [List.length_append]; simp; omega
        go_wp2_with fail
        refine (HP.out _).mono ?_
        rintro e w6 ⟨pp, rfl, hpp, hx6⟩
        have F6 : w6.cell? ⟨w.heap.size, 0, none⟩ = some (.int .i64 3) := by rw [hx6.cell (p := ⟨w.heap.size, 0, none⟩) (by show w.heap.size < w5.heap.size; omega)]; exact F0
        have hap := Apart.later hown5 hpp
        have hown6 := hown5.ext hx6
        have hsz6 := hx6.size
        have HEL := Lib.hid (elements_any (w.heap.size + 1) _ _ pp _ (Tw.bits x) 3 w6 hown6 hpp hap (by omega) hgl5 (by rw [bits_len]; omega))
        rw [wB_bits] at HEL
        have hx06 := hx5.trans hx6
        clear hown5 hpp hap hown6 F0
        go_wp2_with fail
        refine HEL.out.mono ?_
        rintro e w7 ⟨v7, rfl, hown7, hbw7, _⟩
        have hx7 : Ext (w.alloc (.cells #[.int .i64 3, .bool true, .string addon] 31)) w7 := Below.trans hx06 (by simpa using hbw7)
        clear hbw7 HEL
        go_wp2
        go_roundw
        case rel => exact ⟨j + 1, by omega, by go_num, by rw [HSW.out]; exact hown7, hx7⟩
        case measure => simp [intOf]; omega
    · obtain rfl : j = C.size := by omega
      rw [take_all] at hown
      have hsl := hown.sl
      clear hj hlt hown
      go_wp2
      go_ret2
      exact ⟨_, rfl, hsl, ((Ext.refl w).alloc _).trans hxr⟩
end Go.Proofs.YthjlnpcaclfopaaGreat
