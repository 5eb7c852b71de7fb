/-
  Append, Size and Weighted of checkdigit, walked.
  Conditions: strings within the reach; the weights are readable.
-/
import Derived.Test.YtkpfehfcgpapiaaGreatDoorCdWa
namespace Go.Proofs.YtkpfehfcgpapiaaGreatDoor
open Go.RowKit

set_option maxHeartbeats 400000 in
theorem size_any (k : Int) (w : World) :
    Calls Tryz.prog 115 #[.int .i64 k] w fun e w' => e = .returned (.tuple #[.int .i64 (if k < 1 ∨ 8 < k then 0 else (Cd.size k.toNat : Int)), .int .i64 (if k < 1 ∨ 8 < k then 1 else 0)]) ∧ Ext w w' := by
  by_cases h : k < 1 ∨ 8 < k
  · have H := Lib.hid (find_none k w h)
    rw [if_pos h, if_pos h]
    clear h
    go_enter Tryz.func115, Tryz.ntmps115
    go_wp2_with fail
    refine H.out.mono ?_
    rintro e w1 ⟨rfl, hx1⟩
    go_wp2
    go_ret2
    exact ⟨rfl, hx1⟩
  · rw [if_neg h, if_neg h]
    obtain ⟨n, rfl⟩ := Int.eq_ofNat_of_zero_le (show 0 ≤ k by omega)
    obtain ⟨T, hy⟩ := sys_of n (by omega) (by omega)
    have HF := Lib.hid (hy.found w)
    obtain ⟨f1, g1, g2, g3⟩ := hy.size
    have HS := Lib.hid g3
    clear g3 h hy
    go_enter Tryz.func115, Tryz.ntmps115
    go_wp2_with fail
    refine HF.out.mono ?_
    rintro e w1 ⟨rfl, hx1⟩
    go_wp2_with fail
    refine (HS.out _).mono ?_
    rintro e w2 ⟨rfl, hx2⟩
    go_wp2
    go_ret2
    exact ⟨rfl, hx1.trans hx2⟩

theorem cmp_len (k : Nat) (l : List UInt8) : (Cd.cmp k l).length ≤ 2 := by
  unfold Cd.cmp; split <;> simp
theorem compI_len (k : Int) (l : List UInt8) : (Cd.compI k l).1.length ≤ 2 := by
  unfold Cd.compI Cd.comp
  repeat' split
  all_goals first | exact cmp_len _ _ | simp
theorem compI_ok (k : Int) (l : List UInt8) (h : (Cd.compI k l).2 = 0) : l.length ≤ 4096 := by
  unfold Cd.compI Cd.comp at h
  repeat' split at h
  all_goals first | omega | simp at h


def allDigB (s : ByteArray) : Bool := s.data.toList.all fun c => Cd.isDig c.toNat

set_option maxHeartbeats 400000 in
theorem all_digit (s : ByteArray) (w : World) (hs : s.size ≤ 9223372036854775807) :
    Calls Tryz.prog 124 #[.string s, .func (.func 244) #[] #[]] w fun e w' => e = .returned (.bool (allDigB s)) ∧ w = w' := by
  go_enter Tryz.func124, Tryz.ntmps124
  go_wp2
  go_loop [8] (fun i => ∃ k : Nat, k ≤ s.size ∧ i = .int .i64 k ∧ Hid ((s.data.toList.take k).all (fun c => Cd.isDig c.toNat) = true)) (fun i => s.size - (intOf i).toNat)
  case atStart => exact ⟨0, Nat.zero_le _, rfl, rfl⟩
  case round =>
    obtain ⟨k, hk, rfl, ha⟩ := hrel
    by_cases hlt : k < s.size
    · have H3 := Lib.hid (digit_any (s[k].toNat : Int))
      have HA := Lib.hid (all_take_succ s (fun c => Cd.isDig c.toNat) k hlt)
      have HF := Lib.hid (all_false_at s (fun c => Cd.isDig c.toNat) k hlt)
      cases hp : Cd.isDig (s[k].toNat : Int)
      · rw [hp] at H3
        have HP := Lib.hid hp
        clear hp
        go_wp2_with fail
        refine (H3.out _).mono ?_
        rintro e w1 ⟨rfl, rfl⟩
        go_wp2
        go_ret
        exact ⟨ret_bool (HF.out HP.out).symm, rfl⟩
      · rw [hp] at H3
        have HP := Lib.hid hp
        clear hp
        go_wp2_with fail
        refine (H3.out _).mono ?_
        rintro e w1 ⟨rfl, rfl⟩
        go_wp2
        go_round
        case rel => exact ⟨k + 1, by omega, by go_num, by show _ = _; rw [HA.out, ha.out]; simpa using HP.out⟩
        case measure => simp [intOf]; omega
    · obtain rfl : k = s.size := by omega
      rw [take_all] at ha
      clear hk hlt
      go_wp2
      go_ret
      exact ⟨ret_bool ha.out.symm, rfl⟩

/-- A slice of ints that reads as a list. -/
def IntsAt (w : World) (v : Value) (ws : List Int) : Prop :=
  (ws = [] ∧ ∃ a c, v = .slice a 0 c) ∨ ∃ b off cap, v = .slice (some ⟨b, off, none⟩) ws.length cap ∧ b < w.heap.size ∧ ∀ i, i < ws.length → w.cell? ⟨b, off + i, none⟩ = some (.int .i64 (ws.getD i 0))
theorem IntsAt.ext {w w' : World} {v : Value} {ws : List Int} (h : IntsAt w v ws) (hx : Ext w w') : IntsAt w' v ws := by
  rcases h with h | ⟨b, off, cap, h1, h2, h3⟩
  · exact .inl h
  · exact .inr ⟨b, off, cap, h1, Nat.lt_of_lt_of_le h2 hx.size, fun i hi => by rw [hx.cell (p := ⟨b, off + i, none⟩) h2]; exact h3 i hi⟩

theorem ret_two {x y a b : Int} (h1 : x = a) (h2 : y = b) : Ending.returned (.tuple #[.int .i64 x, .int .i64 y]) = .returned (.tuple #[.int .i64 a, .int .i64 b]) := by rw [h1, h2]

end Go.Proofs.YtkpfehfcgpapiaaGreatDoor
