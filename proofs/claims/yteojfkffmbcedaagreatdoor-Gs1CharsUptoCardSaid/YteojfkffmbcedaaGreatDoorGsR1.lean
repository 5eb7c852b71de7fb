/-
  Chapter 14: the reference's digit, digits, table and Fixed, walked.
  No condition.
-/
import Derived.Test.YteojfkffmbcedaaGreatDoorGsT
namespace Go.Proofs.YteojfkffmbcedaaGreatDoor
open Go.RowKit

set_option maxHeartbeats 400000 in
theorem rdigit_any (c : Int) (w : World) :
    Calls Tryz.prog 40 #[.int .u8 c] w fun e w' => e = .returned (.bool (Cd.isDig c)) ∧ w = w' := by
  go_enter Tryz.func40, Tryz.ntmps40
  go_wp2
  · have h : 48 ≤ c := by assumption
    go_ret
    exact ⟨ret_bool (by simp [Cd.isDig, h]), rfl⟩
  · have h : c < 48 := by assumption
    go_ret
    exact ⟨ret_bool (by simp [Cd.isDig]; omega), rfl⟩
theorem all_take_succ' (s : ByteArray) (p : UInt8 → Bool) (k : Nat) (h : k < s.size) : (s.data.toList.take (k + 1)).all p = ((s.data.toList.take k).all p && p s[k]) := by
  rw [take_snoc s k h, List.all_append]; simp
theorem all_false_at' (s : ByteArray) (p : UInt8 → Bool) (k : Nat) (h : k < s.size) (hp : p s[k] = false) : s.data.toList.all p = false := by
  rw [List.all_eq_false]; exact ⟨s[k], mem_at s k h, by rw [hp]; exact Bool.noConfusion⟩

set_option maxHeartbeats 1000000 in
theorem digits_any (s : ByteArray) (hs : s.size ≤ maxLen) (w : World) :
    Calls Tryz.prog 43 #[.string s] w fun e w' => e = .returned (.bool (s.data.toList.all (fun c => Cd.isDig c.toNat))) ∧ w = w' := by
  have hmx : s.size ≤ 9223372036854775807 := hs
  clear hs
  have HR := Lib.hid (Eq.refl (s.data.toList.all (fun c => Cd.isDig c.toNat)))
  generalize hres : s.data.toList.all (fun c => Cd.isDig c.toNat) = res
  have HRES := Lib.hid hres
  clear hres HR
  go_enter Tryz.func43, Tryz.ntmps43
  go_wp2
  go_loop [3] (fun i => ∃ k : Nat, k ≤ s.size ∧ i = .int .i64 (k : Int) ∧ Hid ((s.data.toList.take k).all (fun c => Cd.isDig c.toNat) = true)) (fun i => s.size - (intOf i).toNat)
  case atStart => exact ⟨0, Nat.zero_le _, rfl, Lib.hid rfl⟩
  case round =>
    obtain ⟨k, hk, rfl, hal⟩ := hrel
    by_cases hlt : k < s.size
    · have HA := Lib.hid (all_take_succ' s (fun c => Cd.isDig c.toNat) k hlt)
      have HN := Lib.hid (all_false_at' s (fun c => Cd.isDig c.toNat) k hlt)
      cases hp : Cd.isDig (s[k].toNat : Int)
      · have HP := Lib.hid hp
        have HF : Hid (res = false) := Lib.hid (by rw [← HRES.out]; exact HN.out hp)
        clear hp HA HN
        go_wp2_with fail
        refine (rdigit_any _ _).mono ?_
        rintro e w' ⟨rfl, rfl⟩
        rw [HP.out]
        go_wp2
        go_ret
        exact ⟨ret_bool HF.out.symm, rfl⟩
      · have HP := Lib.hid hp
        have HO : Hid ((s.data.toList.take (k + 1)).all (fun c => Cd.isDig c.toNat) = true) := Lib.hid (by rw [HA.out, hal.out, hp]; rfl)
        clear hp HA HN
        go_wp2_with fail
        refine (rdigit_any _ _).mono ?_
        rintro e w' ⟨rfl, rfl⟩
        rw [HP.out]
        go_wp2
        go_round
        case rel => exact ⟨k + 1, by omega, by go_num, HO⟩
        case measure => simp [intOf]; omega
    · obtain rfl : k = s.size := by omega
      have HF : Hid (res = true) := Lib.hid (by rw [← HRES.out, ← hal.out, take_all])
      clear hk hlt hal
      go_wp2
      go_ret
      exact ⟨ret_bool HF.out.symm, rfl⟩
end Go.Proofs.YteojfkffmbcedaaGreatDoor
