/-
  The law CheckdigitCorrects, walked.
  Condition: the string is within the reach.
-/
import Derived.Test.YtciogogpoiijcaaCdL4
import Derived.Test.YtciogogpoiijcaaCdR8
namespace Go.Proofs.Ytciogogpoiijcaa
open Go.RowKit Go.Sort

theorem cor_len (k : Int) (l : List UInt8) (h : l.length ≤ 64) : (Cd.cor k l).1.length ≤ 100000 := by
  unfold Cd.cor
  split
  · simp
  · split
    · simp
    · split
      · simp
      · rw [List.length_mergeSort]
        have := Cd.corTo_len k l l.length
        omega

set_option maxRecDepth 100000 in
set_option maxHeartbeats 4000000 in
theorem law_corrects (k : Int) (s : ByteArray) (w : World) (hs : s.size ≤ 9223372036854775807) :
    Calls Try.prog 5 #[.int .i64 k, .string s] w fun e w' => e = .returned (.bool true) ∧ Ext w w' := by
  by_cases hl : 24 < s.size
  · go_enter Try.func5, Try.ntmps5
    go_wp2_with fail
    refine (examples_any _).mono ?_
    rintro e w1 ⟨rfl, hx1⟩
    go_wp2
    go_ret
    exact ⟨rfl, hx1⟩
  · have HC := Lib.hid (fun w => corr_any k s w hs)
    have HR := Lib.hid (fun w => rcorr_any k s w hs)
    have hsl := cor_len k s.data.toList (by rw [len_data]; omega)
    generalize (Cd.cor k s.data.toList).2 = x at *
    generalize (Cd.cor k s.data.toList).1 = ss at *
    have hxx : (x != x) = false := bne_self_eq_false x
    have hll : ((ss.length : Int) != (ss.length : Int)) = false := bne_self_eq_false _
    go_enter Try.func5, Try.ntmps5
    go_wp2_with fail
    refine (HC.out _).mono ?_
    rintro e w1 ⟨v1, rfl, hown1, hx1⟩
    go_wp2_with fail
    refine (HR.out _).mono ?_
    rintro e w2 ⟨v2, rfl, hown2, hx2⟩
    have hs1 := (hown1.ext hx2).strs
    have hs2 := hown2.strs
    have hX := hx1.trans hx2
    clear hown1 hown2 hx1 hx2
    by_cases h0 : ss = []
    · subst h0
      obtain ⟨a1, c1, rfl⟩ : ∃ a c, v1 = .slice a 0 c := by
        rcases hs1 with ⟨_, h⟩ | ⟨b, off, cap, h, _⟩
        · exact h
        · exact ⟨_, _, h⟩
      obtain ⟨a2, c2, rfl⟩ : ∃ a c, v2 = .slice a 0 c := by
        rcases hs2 with ⟨_, h⟩ | ⟨b, off, cap, h, _⟩
        · exact h
        · exact ⟨_, _, h⟩
      clear hs1 hs2 hll
      go_wp2
      go_loop [9] (fun i => i = .int .i64 0) (fun _ => 0)
      case atStart => rfl
      case round =>
        subst hrel
        go_wp2_with fail
        refine (examples_any _).mono ?_
        rintro e w5 ⟨rfl, hx5⟩
        go_wp2
        go_ret
        exact ⟨rfl, hX.trans hx5⟩
    · rcases hs1 with ⟨h, _⟩ | ⟨b1, o1, cap1, rfl, hb1, hc1⟩
      · exact absurd h h0
      rcases hs2 with ⟨h, _⟩ | ⟨b2, o2, cap2, rfl, hb2, hc2⟩
      · exact absurd h h0
      clear h0
      have HC1 := Lib.hid hc1
      have HC2 := Lib.hid hc2
      have HB1 := Lib.hid hb1
      have HB2 := Lib.hid hb2
      clear hc1 hc2 hb1 hb2
      go_wp2
      go_loopw [9] (fun i wr => ∃ j : Nat, j ≤ ss.length ∧ i = .int .i64 (j : Int) ∧ Ext w2 wr) (fun i _ => ss.length - (intOf i).toNat)
      case atStart => exact ⟨0, Nat.zero_le _, rfl, Ext.refl _⟩
      case round =>
        obtain ⟨j, hj, rfl, hxr⟩ := hrel
        by_cases hlt : j < ss.length
        · have hcj : ∀ x : Ahead wr, x.at'.cell? ⟨b1, o1 + j, none⟩ = some (.string ⟨(ss.getD j []).toArray⟩) := fun x => by
            rw [(hxr.trans x.ext).cell (p := ⟨b1, o1 + j, none⟩) HB1.out]; exact HC1.out j hlt
          have hck : ∀ x : Ahead wr, x.at'.cell? ⟨b2, o2 + j, none⟩ = some (.string ⟨(ss.getD j []).toArray⟩) := fun x => by
            rw [(hxr.trans x.ext).cell (p := ⟨b2, o2 + j, none⟩) HB2.out]; exact HC2.out j hlt
          have hji : (j : Int) < (ss.length : Int) := by omega
          generalize ss.getD j [] = y at *
          go_wp2
          refine wp_region_quiet (C := fun w' => ∃ x : Ahead wr, w' = x.at') (by kernel_rfl) (by kernel_rfl) (Ahead.drawn _) ?_
          try dsimp only
          repeat (first | go_big_quiet_step (fail) | quiet_step (fail))
          refine wpQuiet_nil ?_
          intro _ hx0
          obtain ⟨x0, hx0⟩ := hx0
          subst hx0
          obtain ⟨w8, hx8⟩ := x0
          try dsimp only
          go_wp2
          go_roundw
          case rel => exact ⟨j + 1, by omega, by go_num, hxr.trans hx8⟩
          case measure => simp [intOf]; omega
        · obtain rfl : j = ss.length := by omega
          clear hj hlt
          go_wp2_with fail
          refine (examples_any _).mono ?_
          rintro e w5 ⟨rfl, hx5⟩
          go_wp2
          go_ret
          exact ⟨rfl, (hX.trans hxr).trans hx5⟩
end Go.Proofs.Ytciogogpoiijcaa
