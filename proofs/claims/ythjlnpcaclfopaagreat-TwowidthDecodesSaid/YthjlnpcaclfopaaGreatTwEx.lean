/-
  Chapter 12: Encode, Decode and Pattern for any kind; the examples of the chapter hold.
  No condition.
-/
import Derived.Test.YthjlnpcaclfopaaGreatTwW15
namespace Go.Proofs.YthjlnpcaclfopaaGreat
open Go.RowKit

set_option maxRecDepth 100000 in
set_option maxHeartbeats 1000000 in
theorem encode_any (kind : Int) (s : ByteArray) (r : Int) (check : Bool) (addon : ByteArray) (w : World) (hs : s.size ≤ 9223372036854775807) :
    Calls Tryz.prog 7 #[.int .i64 kind, .string s, .agg #[.int .i64 r, .bool check, .string addon]] w (EncR (Tw.enc kind s.data.toList r check) w) := by
  unfold Tw.enc
  split
  · rename_i h; subst h; exact encode_k 0 5 s r check addon w hs find_39
  split
  · rename_i h; subst h; exact encode_k 1 6 s r check addon w hs find_Cb
  split
  · rename_i h; subst h; exact encode_k 2 7 s r check addon w hs find_Itf
  rename_i h5 h6 h7
  have HF := Lib.hid (fun w => find_not kind w h5 h6 h7)
  clear h5 h6 h7
  go_enter Tryz.func7, Tryz.ntmps7
  go_wp2_with fail
  refine (HF.out _).mono ?_
  rintro e w1 ⟨rfl, hx1⟩
  go_wp2
  go_ret2
  exact ⟨.slice none 0 0, rfl, sl_nil _, ((((Ext.refl w).alloc _).trans hx1).alloc _)⟩


set_option maxRecDepth 100000 in
set_option maxHeartbeats 1000000 in
theorem decode_any (kind : Int) (v : Value) (ws : List Int) (check : Bool) (w : World) (hv : Sl w v (ws.map encI)) (hl : ws.length ≤ 1000000) :
    Calls Tryz.prog 11 #[.int .i64 kind, v, .bool check] w (DecR (Tw.dec kind ws check) w) := by
  unfold Tw.dec
  split
  · rename_i h; subst h; exact decode_k 0 5 v ws check w hv hl find_39
  split
  · rename_i h; subst h; exact decode_k 1 6 v ws check w hv hl find_Cb
  split
  · rename_i h; subst h; exact decode_k 2 7 v ws check w hv hl find_Itf
  rename_i h5 h6 h7
  have HF := Lib.hid (fun w => find_not kind w h5 h6 h7)
  clear h5 h6 h7
  obtain ⟨a, c, rfl⟩ := hv.form
  clear hv
  go_enter Tryz.func11, Tryz.ntmps11
  go_wp2_with fail
  refine (HF.out _).mono ?_
  rintro e w1 ⟨rfl, hx1⟩
  go_wp2
  go_ret2
  exact ⟨rfl, hx1.alloc _⟩

set_option maxRecDepth 100000 in
set_option maxHeartbeats 1000000 in
theorem same_any (u v : Value) (xs ys : List Int) (w : World) (hu : Sl w u (xs.map encI)) (hv : Sl w v (ys.map encI)) (hx : xs.length ≤ 1000000000) (hy : ys.length ≤ 1000000000) :
    Calls Tryz.prog 10 #[u, v] w fun e w' => e = .returned (.bool (decide (xs = ys))) ∧ Ext w w' := by
  by_cases hl : xs.length = ys.length
  · by_cases h0 : xs = []
    · obtain rfl : ys = [] := List.eq_nil_of_length_eq_zero (by rw [← hl, h0]; rfl)
      subst h0
      obtain ⟨a1, c1, rfl⟩ := hu.form
      obtain ⟨a2, c2, rfl⟩ := hv.form
      simp only [List.map_nil, List.length_nil]
      clear hu hv hl hx hy
      go_enter Tryz.func10, Tryz.ntmps10
      go_wp2
      go_loop [5] (fun i => i = .int .i64 0) (fun _ => 0)
      case atStart => rfl
      case round =>
        subst hrel
        go_wp2
        go_ret
        exact ⟨by simp, Ext.refl _⟩
    · rcases hu with ⟨h1, _⟩ | ⟨b1, o1, c1, rfl, hb1, hc1⟩
      · exact absurd (by simpa using h1) h0
      rcases hv with ⟨h1, _⟩ | ⟨b2, o2, c2, rfl, hb2, hc2⟩
      · have : ys = [] := by simpa using h1
        exact absurd (List.eq_nil_of_length_eq_zero (by rw [hl, this]; rfl)) h0
      rw [List.length_map] at hc1 hc2 ⊢
      rw [List.length_map]
      have HC : Hid (∀ w', Ext w w' → ∀ j (hj : j < xs.length) (hj' : j < ys.length), w'.cell? ⟨b1, o1 + j, none⟩ = some (encI xs[j]) ∧ w'.cell? ⟨b2, o2 + j, none⟩ = some (encI ys[j])) := Lib.hid (fun w' hx j hj hj' => by
        refine ⟨?_, ?_⟩
        · rw [hx.cell (p := ⟨b1, o1 + j, none⟩) hb1, hc1 j hj, List.getElem?_map, List.getElem?_eq_getElem hj]; rfl
        · rw [hx.cell (p := ⟨b2, o2 + j, none⟩) hb2, hc2 j hj', List.getElem?_map, List.getElem?_eq_getElem hj']; rfl)
      have HL := Lib.hid hl
      have hne : ((xs.length : Int) != (ys.length : Int)) = false := by rw [bne_eq_false_iff_eq]; omega
      have hl1 : xs.length ≤ ys.length := by omega
      have hl2 : ys.length ≤ xs.length := by omega
      clear hc1 hc2 hl h0
      go_enter Tryz.func10, Tryz.ntmps10
      go_wp2
      go_loopw [5] (fun i wr => ∃ j : Nat, j ≤ xs.length ∧ i = .int .i64 (j : Int) ∧ Hid (∀ k (h : k < xs.length) (h' : k < ys.length), k < j → xs[k] = ys[k]) ∧ Ext w wr) (fun i _ => xs.length - (intOf i).toNat)
      case atStart => exact ⟨0, Nat.zero_le _, rfl, Lib.hid (fun k _ _ hk => absurd hk (Nat.not_lt_zero _)), Ext.refl _⟩
      case round =>
        obtain ⟨j, hj, rfl, HB, hxr⟩ := hrel
        by_cases hlt : j < xs.length
        · have hlt2 : j < ys.length := by omega
          have q1 : ∀ x : Ahead wr, x.at'.cell? ⟨b1, o1 + j, none⟩ = some (encI xs[j]) := fun x => (HC.out x.at' (hxr.trans x.ext) j hlt hlt2).1
          have q2 : ∀ x : Ahead wr, x.at'.cell? ⟨b2, o2 + j, none⟩ = some (encI ys[j]) := fun x => (HC.out x.at' (hxr.trans x.ext) j hlt hlt2).2
          unfold encI at q1 q2
          by_cases he : xs[j] = ys[j]
          · have hq : (xs[j] != ys[j]) = false := by rw [he]; simp
            have HB2 : Hid (∀ k (h : k < xs.length) (h' : k < ys.length), k < j + 1 → xs[k] = ys[k]) := Lib.hid (fun k h h' hk => by
              rcases Nat.lt_or_eq_of_le (Nat.le_of_lt_succ hk) with h1 | rfl
              · exact HB.out k h h' h1
              · exact he)
            clear he
            generalize xs[j] = x1 at *
            generalize ys[j] = y1 at *
            go_wp2
            refine wp_region_quiet (C := fun w' => ∃ x : Ahead wr, w' = x.at') (by kernel_rfl) (by kernel_rfl) (Ahead.drawn _) ?_
            try dsimp only
            repeat (first | go_big_quiet_step (fail) | quiet_step (fail))
            refine wpQuiet_nil ?_
            intro _ hx0
            obtain ⟨x0, hx0⟩ := hx0
            subst hx0
            obtain ⟨w3, hx3⟩ := x0
            try dsimp only
            go_wp2
            go_roundw
            case rel => exact ⟨j + 1, by omega, by go_num, HB2, hxr.trans hx3⟩
            case measure => simp [intOf]; omega
          · have hq : (xs[j] != ys[j]) = true := bne_iff_ne.2 he
            have HN : Hid (decide (xs = ys) = false) := Lib.hid (by
              rw [decide_eq_false_iff_not]
              intro e; subst e; exact he rfl)
            clear he
            generalize xs[j] = x1 at *
            generalize ys[j] = y1 at *
            go_wp2
            refine wp_region_quiet (C := fun w' => ∃ x : Ahead wr, w' = x.at') (by kernel_rfl) (by kernel_rfl) (Ahead.drawn _) ?_
            try dsimp only
            repeat (first | go_big_quiet_step (fail) | quiet_step (fail))
            refine wpQuiet_nil ?_
            intro _ hx0
            obtain ⟨x0, hx0⟩ := hx0
            subst hx0
            obtain ⟨w3, hx3⟩ := x0
            try dsimp only
            go_wp2
            go_ret
            exact ⟨ret_bool HN.out.symm, hxr.trans hx3⟩
        · obtain rfl : j = xs.length := by omega
          have HN : Hid (decide (xs = ys) = true) := Lib.hid (by
            rw [decide_eq_true_eq]
            exact List.ext_getElem HL.out (fun k h h' => HB.out k h h' h))
          clear hj hlt
          go_wp2
          go_ret
          exact ⟨ret_bool HN.out.symm, hxr⟩
  · have HN : Hid (decide (xs = ys) = false) := Lib.hid (by
      rw [decide_eq_false_iff_not]
      intro e; subst e; exact hl rfl)
    have hne : ((xs.length : Int) != (ys.length : Int)) = true := by rw [bne_iff_ne]; omega
    obtain ⟨a1, c1, rfl⟩ := hu.form
    obtain ⟨a2, c2, rfl⟩ := hv.form
    rw [List.length_map, List.length_map]
    clear hu hv hl
    go_enter Tryz.func10, Tryz.ntmps10
    go_wp2
    go_ret
    exact ⟨ret_bool HN.out.symm, Ext.refl _⟩
end Go.Proofs.YthjlnpcaclfopaaGreat
