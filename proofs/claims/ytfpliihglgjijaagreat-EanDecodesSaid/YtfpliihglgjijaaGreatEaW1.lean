/-
  Chapter 11: ean's small functions, walked.
  Condition: strings within the reach.
-/
import Derived.Test.YtfpliihglgjijaaGreatEaC
import Derived.Test.YtfpliihglgjijaaGreatEaS
import Derived.Test.YtfpliihglgjijaaGreatCdWa
namespace Go.Proofs.YtfpliihglgjijaaGreat
set_option linter.unusedVariables false
open Go.RowKit

theorem esize_any (k : Int) (w : World) : Calls Tryz.prog 26 #[.int .i64 k] w fun e w' => e = .returned (.int .i64 (Ea.size k : Int)) ∧ w = w' := by
  have h : k = 1 ∨ k = 2 ∨ k = 3 ∨ k = 4 ∨ (k ≠ 1 ∧ k ≠ 2 ∧ k ≠ 3 ∧ k ≠ 4) := by omega
  rcases h with rfl | rfl | rfl | rfl | ⟨h1, h2, h3, h4⟩
  · go_enter Tryz.func26, Tryz.ntmps26
    go_wp2
    go_ret
    exact ⟨rfl, rfl⟩
  · go_enter Tryz.func26, Tryz.ntmps26
    go_wp2
    go_ret
    exact ⟨rfl, rfl⟩
  · go_enter Tryz.func26, Tryz.ntmps26
    go_wp2
    go_ret
    exact ⟨rfl, rfl⟩
  · go_enter Tryz.func26, Tryz.ntmps26
    go_wp2
    go_ret
    exact ⟨rfl, rfl⟩
  · have e : Ea.size k = 0 := by unfold Ea.size; rw [if_neg h1, if_neg h2, if_neg h3, if_neg h4]
    have b1 : (k == 1) = false := beq_eq_false_iff_ne.2 h1
    have b2 : (k == 2) = false := beq_eq_false_iff_ne.2 h2
    have b3 : (k == 3) = false := beq_eq_false_iff_ne.2 h3
    have b4 : (k == 4) = false := beq_eq_false_iff_ne.2 h4
    rw [e]
    clear h1 h2 h3 h4 e
    go_enter Tryz.func26, Tryz.ntmps26
    go_wp2
    go_ret
    exact ⟨rfl, rfl⟩

theorem quiet_any (k : Int) (w : World) : Calls Tryz.prog 30 #[.int .i64 k] w fun e w' => e = .returned (.tuple #[.int .i64 (Ea.lq k : Int), .int .i64 (Ea.rq k : Int)]) ∧ w = w' := by
  have h : k = 1 ∨ k = 2 ∨ k = 3 ∨ (k ≠ 1 ∧ k ≠ 2 ∧ k ≠ 3) := by omega
  rcases h with rfl | rfl | rfl | ⟨h1, h2, h3⟩
  · go_enter Tryz.func30, Tryz.ntmps30
    go_wp2
    go_ret2
    exact ⟨rfl, rfl⟩
  · go_enter Tryz.func30, Tryz.ntmps30
    go_wp2
    go_ret2
    exact ⟨rfl, rfl⟩
  · go_enter Tryz.func30, Tryz.ntmps30
    go_wp2
    go_ret2
    exact ⟨rfl, rfl⟩
  · have e : Ea.lq k = 9 ∧ Ea.rq k = 7 := by unfold Ea.lq Ea.rq; rw [if_neg h1, if_neg h2, if_neg h3]; exact ⟨rfl, rfl⟩
    have b1 : (k == 1) = false := beq_eq_false_iff_ne.2 h1
    have b2 : (k == 2) = false := beq_eq_false_iff_ne.2 h2
    have b3 : (k == 3) = false := beq_eq_false_iff_ne.2 h3
    rw [e.1, e.2]
    clear h1 h2 h3 e
    go_enter Tryz.func30, Tryz.ntmps30
    go_wp2
    go_ret2
    exact ⟨rfl, rfl⟩

theorem addOnWidth_any (n : Nat) (h : n = 0 ∨ n = 2 ∨ n = 5) (w : World) : Calls Tryz.prog 73 #[.int .i64 (n : Int)] w fun e w' => e = .returned (.int .i64 (Ea.wAdd n : Int)) ∧ w = w' := by
  rcases h with rfl | rfl | rfl
  · go_enter Tryz.func73, Tryz.ntmps73
    go_wp2
    go_ret
    exact ⟨rfl, rfl⟩
  · go_enter Tryz.func73, Tryz.ntmps73
    go_wp2
    go_ret
    exact ⟨rfl, rfl⟩
  · go_enter Tryz.func73, Tryz.ntmps73
    go_wp2
    go_ret
    exact ⟨rfl, rfl⟩

theorem line_any (c : UInt8) (w : World) : Calls Tryz.prog 53 #[.int .u8 (c.toNat : Int)] w fun e w' => e = .returned (.int .i64 (Ea.lineN c : Int)) ∧ w = w' := by
  have HR := Lib.hid (Ea.lineN.eq_1 c)
  generalize Ea.lineN c = res at *
  have h : c.toNat ≤ 50 ∨ c.toNat = 51 ∨ c.toNat = 52 ∨ 52 < c.toNat := by omega
  rcases h with h | h | h | h
  · have e : Hid (res = 0) := Lib.hid (by rw [HR.out, if_pos (by rw [UInt8.le_iff_toNat_le]; exact h)])
    go_enter Tryz.func53, Tryz.ntmps53
    go_wp2
    go_ret
    exact ⟨by rw [e.out]; rfl, rfl⟩
  · have e : Hid (res = 1) := Lib.hid (by rw [HR.out, show c = 51 from UInt8.toNat_inj.1 h]; rfl)
    have b1 : ((c.toNat : Int) == 51) = true := by rw [h]; rfl
    have b0 : ¬ (c.toNat : Int) ≤ 50 := by omega
    have b2 : (50 : Int) < (c.toNat : Int) := by omega
    clear h
    go_enter Tryz.func53, Tryz.ntmps53
    go_wp2
    go_ret
    exact ⟨by rw [e.out]; rfl, rfl⟩
  · have e : Hid (res = 2) := Lib.hid (by rw [HR.out, show c = 52 from UInt8.toNat_inj.1 h]; rfl)
    have b1 : ((c.toNat : Int) == 51) = false := by rw [h]; rfl
    have b3 : ((c.toNat : Int) == 52) = true := by rw [h]; rfl
    have b0 : ¬ (c.toNat : Int) ≤ 50 := by omega
    have b2 : (50 : Int) < (c.toNat : Int) := by omega
    clear h
    go_enter Tryz.func53, Tryz.ntmps53
    go_wp2
    go_ret
    exact ⟨by rw [e.out]; rfl, rfl⟩
  · have e : Hid (res = 3) := Lib.hid (by
      rw [HR.out, if_neg, if_neg, if_neg]
      · rintro rfl; revert h; decide
      · rintro rfl; revert h; decide
      · rw [UInt8.le_iff_toNat_le]; have : (50 : UInt8).toNat = 50 := rfl; omega)
    have b1 : ((c.toNat : Int) == 51) = false := beq_eq_false_iff_ne.2 (by omega)
    have b3 : ((c.toNat : Int) == 52) = false := beq_eq_false_iff_ne.2 (by omega)
    have b0 : ¬ (c.toNat : Int) ≤ 50 := by omega
    have b2 : (50 : Int) < (c.toNat : Int) := by omega
    clear h
    go_enter Tryz.func53, Tryz.ntmps53
    go_wp2
    go_ret
    exact ⟨by rw [e.out]; rfl, rfl⟩

theorem numbered_any (s : ByteArray) (h : 0 < s.size) (w : World) : Calls Tryz.prog 28 #[.string s] w fun e w' => e = .returned (.bool (s[0] == 48 || s[0] == 49)) ∧ w = w' := by
  obtain ⟨c, hc⟩ : ∃ c, s[0] = c := ⟨_, rfl⟩
  rw [hc]
  have hlt : (0 : Int) < (s.size : Int) := by omega
  have e48 : ∀ d : UInt8, (c == d) = ((c.toNat : Int) == (d.toNat : Int)) := fun d => by
    rw [Bool.eq_iff_iff, beq_iff_eq, beq_iff_eq]
    exact ⟨fun e => by rw [e], fun e => UInt8.toNat_inj.1 (by omega)⟩
  rw [e48, e48]
  by_cases h0 : c.toNat = 48
  · have b0 : ((c.toNat : Int) == 48) = true := by rw [h0]; rfl
    have b0' : (c.toNat == 48) = true := by rw [h0]; rfl
    have hres : (((c.toNat : Int) == ((48 : UInt8).toNat : Int)) || ((c.toNat : Int) == ((49 : UInt8).toNat : Int))) = true := by rw [h0]; rfl
    rw [hres]
    clear e48 hres h0
    go_enter Tryz.func28, Tryz.ntmps28
    go_wp2
    go_ret
    exact ⟨rfl, rfl⟩
  · have b0 : ((c.toNat : Int) == 48) = false := beq_eq_false_iff_ne.2 (by omega)
    by_cases h1 : c.toNat = 49
    · have b1 : ((c.toNat : Int) == 49) = true := by rw [h1]; rfl
      have hres : (((c.toNat : Int) == ((48 : UInt8).toNat : Int)) || ((c.toNat : Int) == ((49 : UInt8).toNat : Int))) = true := by rw [h1]; rfl
      rw [hres]
      clear e48 hres h0 h1
      go_enter Tryz.func28, Tryz.ntmps28
      go_wp2
      go_ret
      exact ⟨rfl, rfl⟩
    · have b1 : ((c.toNat : Int) == 49) = false := beq_eq_false_iff_ne.2 (by omega)
      have hres : (((c.toNat : Int) == ((48 : UInt8).toNat : Int)) || ((c.toNat : Int) == ((49 : UInt8).toNat : Int))) = false := by
        rw [Bool.or_eq_false_iff]; exact ⟨b0, b1⟩
      rw [hres]
      clear e48 hres h0 h1
      go_enter Tryz.func28, Tryz.ntmps28
      go_wp2
      go_ret
      exact ⟨rfl, rfl⟩

set_option maxHeartbeats 1000000 in
theorem digitsOnly_any (s : ByteArray) (hs : s.size ≤ 9223372036854775807) (w : World) :
    Calls Tryz.prog 27 #[.string s] w fun e w' => e = .returned (.bool (Ea.digs s.data.toList)) ∧ w = w' := by
  obtain ⟨res, hres⟩ : ∃ res, Ea.digs s.data.toList = res := ⟨_, rfl⟩
  rw [hres]
  have HRES := Lib.hid hres
  clear hres
  go_enter Tryz.func27, Tryz.ntmps27
  go_wp2
  go_loop [6] (fun i => ∃ k : Nat, k ≤ s.size ∧ i = .int .i64 (k : Int) ∧ Hid ((s.data.toList.take k).all (fun c => Cd.isDig c.toNat) = true)) (fun i => s.size - (intOf i).toNat)
  case atStart => exact ⟨0, Nat.zero_le _, rfl, Lib.hid rfl⟩
  case round =>
    obtain ⟨k, hk, rfl, hal⟩ := hrel
    by_cases hlt : k < s.size
    · have HA := Lib.hid (all_take_succ s (fun c => Cd.isDig c.toNat) k hlt)
      have HN := Lib.hid (all_false_at s (fun c => Cd.isDig c.toNat) k hlt)
      have h3 : s[k].toNat < 48 ∨ (48 ≤ s[k].toNat ∧ 57 < s[k].toNat) ∨ (48 ≤ s[k].toNat ∧ s[k].toNat ≤ 57) := by omega
      rcases h3 with h3 | ⟨h3, h4⟩ | ⟨h3, h4⟩
      · have HF : Hid (res = false) := Lib.hid (by rw [← HRES.out]; exact HN.out (by unfold Cd.isDig; simp; omega))
        have b1 : (s[k].toNat : Int) < 48 := by omega
        clear h3 HA HN
        go_wp2
        go_ret
        exact ⟨ret_bool HF.out.symm, rfl⟩
      · have HF : Hid (res = false) := Lib.hid (by rw [← HRES.out]; exact HN.out (by unfold Cd.isDig; simp; omega))
        have b1 : ¬ (s[k].toNat : Int) < 48 := by omega
        have b2 : (57 : Int) < (s[k].toNat : Int) := by omega
        clear h3 h4 HA HN
        go_wp2
        go_ret
        exact ⟨ret_bool HF.out.symm, rfl⟩
      · have HO : Hid ((s.data.toList.take (k + 1)).all (fun c => Cd.isDig c.toNat) = true) := Lib.hid (by rw [HA.out, hal.out]; unfold Cd.isDig; simp; omega)
        have b1 : ¬ (s[k].toNat : Int) < 48 := by omega
        have b2 : ¬ (57 : Int) < (s[k].toNat : Int) := by omega
        clear h3 h4 HA HN
        go_wp2
        go_round
        case rel => exact ⟨k + 1, by omega, by go_num, HO⟩
        case measure => simp [intOf]; omega
    · obtain rfl : k = s.size := by omega
      have HF : Hid (res = true) := Lib.hid (by rw [← HRES.out]; have := hal.out; rw [take_all] at this; exact this)
      clear hk hlt hal
      go_wp2
      go_ret
      exact ⟨ret_bool HF.out.symm, rfl⟩
end Go.Proofs.YtfpliihglgjijaaGreat
