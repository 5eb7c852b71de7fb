/-
  Chapter 12: the reference's Wide (chapter 10) and possible, walked.
  Condition: the widths are readable.
-/
import Derived.Test.YthjlnpcaclfopaaGreatRuns
import Derived.RegionTactic
namespace Go.Proofs.YthjlnpcaclfopaaGreat
open Go.RowKit

set_option maxRecDepth 100000 in
set_option maxHeartbeats 1000000 in
theorem total_any (b off cap : Nat) (ws : List Int) (w : World) (hc : ∀ j, j < ws.length → w.cell? ⟨b, off + j, none⟩ = some (.int .i64 (ws.getD j 0))) (hl : ws.length ≤ 1000000) :
    Calls Tryz.prog 46 #[.slice (some ⟨b, off, none⟩) ws.length cap] w fun e w' => ∃ t : Int, e = .returned (.int .i64 t) ∧ w = w' ∧ Hid (decide (t < 0) = !Tw.inRng ws) := by
  have HC := Lib.hid hc
  have HT := Lib.hid (Tw.inRng.eq_1 ws)
  generalize Tw.inRng ws = res at *
  clear hc
  go_enter Tryz.func46, Tryz.ntmps46
  go_wp2
  go_loop [4, 3] (fun i s => ∃ (j : Nat) (t : Int), j ≤ ws.length ∧ i = .int .i64 (j : Int) ∧ s = .int .i64 t ∧ 0 ≤ t ∧ t ≤ 65536 * (j : Int) ∧ Hid (∀ x ∈ ws.take j, 1 ≤ x ∧ x ≤ 65536)) (fun i _ => ws.length - (intOf i).toNat)
  case atStart => exact ⟨0, 0, Nat.zero_le _, rfl, rfl, by omega, by omega, Lib.hid (fun x hx => by simp at hx)⟩
  case round =>
    obtain ⟨j, t, hj, rfl, rfl, ht0, ht1, HB⟩ := hrel
    by_cases hlt : j < ws.length
    · have hcj := HC.out j hlt
      have HM := Lib.hid (getD_mem ws j hlt)
      have HTA := Lib.hid (take_at ws j hlt)
      generalize ws.getD j 0 = x at *
      by_cases hx : 1 ≤ x ∧ x ≤ 65536
      · obtain ⟨hx1, hx2⟩ := hx
        go_wp2
        go_round
        case rel => exact ⟨j + 1, t + x, by omega, by go_num, rfl, by omega, by omega, Lib.hid (fun y hy => by
          rw [HTA.out, List.mem_append] at hy
          rcases hy with h | h
          · exact HB.out y h
          · rw [List.mem_singleton] at h; subst h; omega)⟩
        case measure => simp [intOf]; omega
      · have HN : Hid (res = false) := Lib.hid (by
          rw [HT.out, List.all_eq_false]
          exact ⟨x, HM.out, by simp; omega⟩)
        by_cases h1 : x < 1
        · clear hx
          go_wp2
          go_ret
          exact ⟨-1, rfl, rfl, by rw [HN.out]; rfl⟩
        · have h2 : 65536 < x := by omega
          clear hx
          go_wp2
          go_ret
          exact ⟨-1, rfl, rfl, by rw [HN.out]; rfl⟩
    · obtain rfl : j = ws.length := by omega
      rw [List.take_length] at HB
      have HN : Hid (res = true) := Lib.hid (by
        rw [HT.out, List.all_eq_true]
        intro x hx; simpa using HB.out x hx)
      clear hj hlt
      go_wp2
      go_ret
      exact ⟨t, rfl, rfl, by rw [HN.out]; show decide (t < 0) = false; simpa using ht0⟩

theorem min_snoc (l : List Int) (a x : Int) : (l ++ [x]).foldl min a = min (l.foldl min a) x := by simp
theorem max_snoc (l : List Int) (a x : Int) : (l ++ [x]).foldl max a = max (l.foldl max a) x := by simp
theorem fold_in (ws : List Int) (h : ∀ x ∈ ws, 1 ≤ x ∧ x ≤ 65536) (a : Int) (ha : 1 ≤ a ∧ a ≤ 65536) (j : Nat) :
    (1 ≤ (ws.take j).foldl min a ∧ (ws.take j).foldl min a ≤ 65536) ∧ (1 ≤ (ws.take j).foldl max a ∧ (ws.take j).foldl max a ≤ 65536) := by
  constructor
  · rcases foldl_min_mem (ws.take j) a with e | e
    · rw [e]; exact ha
    · exact h _ (List.mem_of_mem_take e)
  · rcases foldl_max_mem (ws.take j) a with e | e
    · rw [e]; exact ha
    · exact h _ (List.mem_of_mem_take e)

/-- What the reference's Wide returns. -/
def RWideR (r : List Bool × Int) (w : World) (e : Ending) (w' : World) : Prop := ∃ v, e = .returned (.tuple #[v, .int .i64 r.2]) ∧ Own 4 w' w.heap.size v (r.1.map encT) ∧ Ext w w'

set_option maxRecDepth 100000 in
set_option maxHeartbeats 4000000 in
theorem rwide_any (v : Value) (ws : List Int) (w : World) (hv : Sl w v (ws.map encI)) (hl : ws.length ≤ 1000000) :
    Calls Tryz.prog 25 #[v] w (RWideR (Tw.wide ws) w) := by
  have HT := Lib.hid (Tw.wide.eq_1 ws)
  generalize Tw.wide ws = res at *
  by_cases h0 : ws = []
  · rw [if_pos h0] at HT
    subst h0
    obtain ⟨a, c, rfl⟩ := hv.form
    simp only [List.map_nil, List.length_nil]
    clear hv
    go_enter Tryz.func25, Tryz.ntmps25
    go_wp2
    go_ret2
    exact ⟨.slice none 0 0, by rw [HT.out]; rfl, by rw [HT.out]; exact Own.nil _ _ _, Ext.refl _⟩
  rw [if_neg h0] at HT
  rcases hv with ⟨h1, _⟩ | ⟨b, off, cap, rfl, hb, hcell⟩
  · exact absurd (by simpa using h1) h0
  rw [List.length_map] at hcell ⊢
  have hpos : 0 < ws.length := List.length_pos_iff.2 h0
  have hlb : ((ws.length : Int) == 0) = false := beq_eq_false_iff_ne.2 (by omega)
  have HC : Hid (∀ w', Ext w w' → ∀ j, j < ws.length → w'.cell? ⟨b, off + j, none⟩ = some (.int .i64 (ws.getD j 0))) := Lib.hid (fun w' hx j hj => by
    rw [hx.cell (p := ⟨b, off + j, none⟩) hb, hcell j hj, List.getElem?_map, List.getD_eq_getElem?_getD, List.getElem?_eq_getElem hj]; rfl)
  have HI := Lib.hid (fun w' hx => total_any b off cap ws w' (HC.out w' hx) (by omega))
  have HM0 := Lib.hid (getD0_mem h0)
  clear hcell h0
  cases hrg : Tw.inRng ws
  · rw [hrg] at HI HT
    rw [if_pos rfl] at HT
    clear hrg
    go_enter Tryz.func25, Tryz.ntmps25
    go_wp2_with fail
    refine (HI.out _ (Ext.refl _)).mono ?_
    rintro e w1 ⟨t, rfl, rfl, HD⟩
    have d1 : decide (t < 0) = true := HD.out
    go_wp2
    go_ret2
    exact ⟨.slice none 0 0, by rw [HT.out]; rfl, by rw [HT.out]; exact Own.nil _ _ _, Ext.refl _⟩
  have HR := Lib.hid (fun x hx => inRng_mem hrg (x := x) hx)
  rw [hrg] at HI HT
  rw [if_neg Bool.noConfusion] at HT
  clear hrg
  have hm0 := HR.out _ HM0.out
  have HFI := Lib.hid (fun j => fold_in ws HR.out (ws.getD 0 0) hm0 j)
  have HLO : Hid (Tw.lo ws = (ws.take ws.length).foldl min (ws.getD 0 0)) := Lib.hid (by rw [List.take_length]; rfl)
  have HHI : Hid (Tw.hi ws = (ws.take ws.length).foldl max (ws.getD 0 0)) := Lib.hid (by rw [List.take_length]; rfl)
  have HW : Hid (∀ x, Tw.isWide ws x = decide (Tw.lo ws + Tw.hi ws < 2 * x)) := Lib.hid (fun x => rfl)
  have hc0 := HC.out w (Ext.refl _) 0 hpos
  rw [Nat.add_zero] at hc0
  clear hm0
  go_enter Tryz.func25, Tryz.ntmps25
  go_wp2_with fail
  refine (HI.out _ (Ext.refl _)).mono ?_
  rintro e w1 ⟨t, rfl, rfl, HD⟩
  have d1 : decide (t < 0) = false := HD.out
  generalize hw0 : ws.getD 0 0 = w0 at *
  go_wp2
  go_region
  go_wp2
  go_loopw [6, 4, 5] (fun i l h wr => ∃ j : Nat, j ≤ ws.length ∧ i = .int .i64 (j : Int) ∧ l = .int .i64 ((ws.take j).foldl min w0) ∧ h = .int .i64 ((ws.take j).foldl max w0) ∧ Ext w wr) (fun i _ _ _ => ws.length - (intOf i).toNat)
  case atStart => exact ⟨0, Nat.zero_le _, rfl, rfl, rfl, by exact (Ext.refl w).drewN _⟩
  case round =>
    obtain ⟨j, hj, rfl, rfl, rfl, hxr⟩ := hrel
    by_cases hlt : j < ws.length
    · have hcj := HC.out wr hxr j hlt
      have HTA := Lib.hid (take_at ws j hlt)
      have HS1 := Lib.hid (min_snoc (ws.take j) w0 (ws.getD j 0))
      have HS2 := Lib.hid (max_snoc (ws.take j) w0 (ws.getD j 0))
      rw [← HTA.out] at HS1 HS2
      generalize (ws.take j).foldl min w0 = lo at *
      generalize (ws.take j).foldl max w0 = hi at *
      generalize ws.getD j 0 = x at *
      go_wp2
      go_roundw
      case rel => exact ⟨j + 1, by omega, by go_num, by rw [HS1.out], by rw [HS2.out], hxr⟩
      case measure => simp [intOf]; omega
    · obtain rfl : j = ws.length := by omega
      obtain ⟨⟨l1, l2⟩, h1, h2⟩ := HFI.out ws.length
      have HL0 : Hid (Tw.leastWide ws [] = Tw.hi ws ∧ Tw.mostNarrow ws [] = Tw.lo ws) := Lib.hid ⟨rfl, rfl⟩
      have HLB := Lib.hid (fun (j : Nat) (hh : 1 ≤ Tw.hi ws ∧ Tw.hi ws ≤ 65536) (hh2 : 1 ≤ Tw.lo ws ∧ Tw.lo ws ≤ 65536) => And.intro (lw_bd ws (ws.take j) (fun x hx => HR.out x (List.mem_of_mem_take hx)) hh) (mn_bd ws (ws.take j) (fun x hx => HR.out x (List.mem_of_mem_take hx)) hh2))
      rw [← HLO.out, ← HHI.out] at *
      clear hj hlt HFI HLO HHI
      generalize Tw.lo ws = lo at *
      generalize Tw.hi ws = hi at *
      have HLB2 := Lib.hid (fun j => HLB.out j ⟨h1, h2⟩ ⟨l1, l2⟩)
      clear HLB
      by_cases h23 : 2 * hi < 3 * lo
      · rw [if_pos h23] at HT
        have d23 : decide (3 * lo ≤ 2 * hi) = false := by simp; omega
        go_wp2
        go_loopw [10, 7, 8] (fun i c n wr => ∃ (j : Nat) (nn : Int), j ≤ ws.length ∧ i = .int .i64 (j : Int) ∧ n = .int .i64 nn ∧ Own 4 wr w.heap.size c (((ws.take j).map fun _ => false).map encT) ∧ Ext w wr) (fun i _ _ _ => ws.length - (intOf i).toNat)
        case atStart => exact ⟨0, lo, Nat.zero_le _, rfl, rfl, Own.nil _ _ _, hxr⟩
        case round =>
          clear hxr
          obtain ⟨j, nn, hj, rfl, rfl, hown, hxr⟩ := hrel
          by_cases hlt : j < ws.length
          · have hgl : ((ws.take j).map fun _ => false).length ≤ 1000000 := by rw [List.length_map, List.length_take]; omega
            have HTS : Hid ((ws.take (j + 1)).map (fun _ => false) = (ws.take j).map (fun _ => false) ++ [false]) := Lib.hid (by rw [take_at ws j hlt, List.map_append]; rfl)
            generalize (ws.take j).map (fun _ => false) = got at *
            go_wp2_with (at_builtin; refine append_bool rfl _ _ rfl w.heap.size _ got rfl (hown.alloc _) _ false rfl ?c1 ?c2 ?c3 ?_)
            case c1 => simp [go_sem, encT]
            case c2 => omega
            case c3 => have := hxr.size; first | omega | (simp; omega)
            intro v' w5 hown5 hg5
            have hx5 := (hxr.alloc _).ofGrown hg5 hown.low
            have hcj := HC.out w5 hx5 j hlt
            generalize ws.getD j 0 = x at *
            clear hown hg5 hxr
            go_wp2
            go_roundw
            case rel => exact ⟨j + 1, _, by omega, by go_num, rfl, by rw [HTS.out, List.map_append]; exact hown5, hx5⟩
            case measure => simp [intOf]; omega
          · obtain rfl : j = ws.length := by omega
            rw [List.take_length] at hown
            have hsl := hown
            clear hj hlt hown
            go_wp2
            go_ret2
            exact ⟨_, by rw [HT.out]; rfl, by rw [HT.out]; exact hsl, hxr⟩
      · rw [if_neg h23] at HT
        have d23 : decide (3 * lo ≤ 2 * hi) = true := by simp; omega
        go_wp2
        go_loopw [10, 7, 9, 8] (fun i c wd n wr => ∃ j : Nat, j ≤ ws.length ∧ i = .int .i64 (j : Int) ∧ wd = .int .i64 (Tw.leastWide ws (ws.take j)) ∧ n = .int .i64 (Tw.mostNarrow ws (ws.take j)) ∧ Own 4 wr w.heap.size c (((ws.take j).map (Tw.isWide ws)).map encT) ∧ Ext w wr) (fun i _ _ _ _ => ws.length - (intOf i).toNat)
        case atStart => exact ⟨0, Nat.zero_le _, rfl, by rw [List.take_zero, HL0.out.1], by rw [List.take_zero, HL0.out.2], Own.nil _ _ _, hxr⟩
        case round =>
          clear hxr
          obtain ⟨j, hj, rfl, rfl, rfl, hown, hxr⟩ := hrel
          obtain ⟨⟨b1, b2⟩, b3, b4⟩ := HLB2.out j
          by_cases hlt : j < ws.length
          · have hgl : ((ws.take j).map (Tw.isWide ws)).length ≤ 1000000 := by rw [List.length_map, List.length_take]; omega
            have HTS : Hid ((ws.take (j + 1)).map (Tw.isWide ws) = (ws.take j).map (Tw.isWide ws) ++ [Tw.isWide ws (ws.getD j 0)]) := Lib.hid (by rw [take_at ws j hlt, List.map_append]; rfl)
            have HS1 := Lib.hid (lw_snoc ws (ws.take j) (ws.getD j 0))
            have HS2 := Lib.hid (mn_snoc ws (ws.take j) (ws.getD j 0))
            rw [← take_at ws j hlt] at HS1 HS2
            obtain ⟨b5, b6⟩ := HR.out _ (getD_mem ws j hlt)
            have hcj0 := HC.out wr hxr j hlt
            have HCJ := Lib.hid (fun w' hx => HC.out w' hx j hlt)
            obtain ⟨iw, hiw⟩ : ∃ iw, Tw.isWide ws (ws.getD j 0) = iw := ⟨_, rfl⟩
            have diw : decide (lo + hi < 2 * ws.getD j 0) = iw := by rw [← hiw, HW.out]
            rw [hiw] at HTS HS1 HS2
            generalize (ws.take j).map (Tw.isWide ws) = got at *
            generalize Tw.leastWide ws (ws.take j) = lw at *
            generalize Tw.mostNarrow ws (ws.take j) = mn at *
            generalize ws.getD j 0 = x at *
            clear hiw
            cases iw
            · go_wp2_with (at_builtin; refine append_bool rfl _ _ rfl w.heap.size _ got rfl (hown.alloc _) _ false rfl ?c1 ?c2 ?c3 ?_)
              case c1 => simp [go_sem, encT]
              case c2 => omega
              case c3 => have := hxr.size; first | omega | (simp; omega)
              intro v' w5 hown5 hg5
              have hx5 := (hxr.alloc _).ofGrown hg5 hown.low
              have hcj := HCJ.out w5 hx5
              clear hown hg5 hxr
              go_wp2
              go_roundw
              case rel => exact ⟨j + 1, by omega, by go_num, by rw [HS1.out]; rfl, by rw [HS2.out]; rfl, by rw [HTS.out, List.map_append]; exact hown5, hx5⟩
              case measure => simp [intOf]; omega
            · go_wp2_with (at_builtin; refine append_bool rfl _ _ rfl w.heap.size _ got rfl (hown.alloc _) _ true rfl ?c1 ?c2 ?c3 ?_)
              case c1 => simp [go_sem, encT]
              case c2 => omega
              case c3 => have := hxr.size; first | omega | (simp; omega)
              intro v' w5 hown5 hg5
              have hx5 := (hxr.alloc _).ofGrown hg5 hown.low
              have hcj := HCJ.out w5 hx5
              clear hown hg5 hxr
              go_wp2
              go_roundw
              case rel => exact ⟨j + 1, by omega, by go_num, by rw [HS1.out]; rfl, by rw [HS2.out]; rfl, by rw [HTS.out, List.map_append]; exact hown5, hx5⟩
              case measure => simp [intOf]; omega
          · obtain rfl : j = ws.length := by omega
            rw [List.take_length] at hown b1 b2 b3 b4 ⊢
            have hsl := hown
            clear hj hlt hown
            generalize Tw.leastWide ws ws = lw at *
            generalize Tw.mostNarrow ws ws = mn at *
            by_cases h5 : 2 * lw < 3 * mn
            · rw [if_pos h5] at HT
              go_wp2
              go_ret2
              exact ⟨.slice none 0 0, by rw [HT.out]; rfl, by rw [HT.out]; exact Own.nil _ _ _, hxr⟩
            · rw [if_neg h5] at HT
              go_wp2
              go_ret2
              exact ⟨_, by rw [HT.out]; rfl, by rw [HT.out]; exact hsl, hxr⟩

set_option maxHeartbeats 2000000 in
theorem poss_5 (n : Nat) (check : Bool) (w : World) (hn : n ≤ 1000000) :
    Calls Tryz.prog 24 #[.int .i64 5, .int .i64 (n : Int), .bool check] w fun e w' => e = .returned (.bool (Tw.countsK 0 n check)) ∧ w = w' := by
  cases check
  all_goals
    go_enter Tryz.func24, Tryz.ntmps24
    go_wp2
    all_goals
      go_ret
      refine ⟨ret_bool ?_, rfl⟩
      rw [Bool.eq_iff_iff]
      simp [Tw.countsK, Tw.counts]
      omega
set_option maxHeartbeats 2000000 in
theorem poss_6 (n : Nat) (check : Bool) (w : World) (hn : n ≤ 1000000) :
    Calls Tryz.prog 24 #[.int .i64 6, .int .i64 (n : Int), .bool check] w fun e w' => e = .returned (.bool (Tw.countsK 1 n check)) ∧ w = w' := by
  cases check
  all_goals
    go_enter Tryz.func24, Tryz.ntmps24
    go_wp2
    all_goals
      go_ret
      refine ⟨ret_bool ?_, rfl⟩
      rw [Bool.eq_iff_iff]
      simp [Tw.countsK, Tw.counts]
      omega
set_option maxHeartbeats 2000000 in
theorem poss_7 (n : Nat) (check : Bool) (w : World) (hn : n ≤ 1000000) :
    Calls Tryz.prog 24 #[.int .i64 7, .int .i64 (n : Int), .bool check] w fun e w' => e = .returned (.bool (Tw.countsK 2 n check)) ∧ w = w' := by
  cases check
  all_goals
    go_enter Tryz.func24, Tryz.ntmps24
    go_wp2
    all_goals
      go_ret
      refine ⟨ret_bool ?_, rfl⟩
      rw [Bool.eq_iff_iff]
      simp [Tw.countsK, Tw.countsItf]
      omega
end Go.Proofs.YthjlnpcaclfopaaGreat
