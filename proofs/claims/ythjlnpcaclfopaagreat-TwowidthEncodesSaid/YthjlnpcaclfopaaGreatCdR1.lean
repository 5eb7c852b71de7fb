/-
  The reference's systems, walked: they compute the same plain functions.
  Conditions: the data are characters of the system, at most 4096.
-/
import Derived.Test.YthjlnpcaclfopaaGreatCdW2
import Derived.Test.YthjlnpcaclfopaaGreatPlc
namespace Go.Proofs.YthjlnpcaclfopaaGreat
open Go.RowKit

set_option maxHeartbeats 400000 in
theorem rdigit_any (c : Int) (w : World) :
    Calls Tryz.prog 81 #[.int .u8 c] w fun e w' => e = .returned (.bool (Cd.isDig c)) ∧ w = w' := by
  go_enter Tryz.func81, Tryz.ntmps81
  go_wp2
  · have h : 48 ≤ c := by assumption
    go_ret
    exact ⟨ret_bool (by simp [Cd.isDig, h]), rfl⟩
  · have h : c < 48 := by assumption
    go_ret
    exact ⟨ret_bool (by simp [Cd.isDig]; omega), rfl⟩

set_option maxHeartbeats 400000 in
theorem rdata_any (k : Nat) (c : UInt8) (w : World) (hk : k ≤ 8) :
    Calls Tryz.prog 77 #[.int .i64 (k : Int), .int .u8 (c.toNat : Int)] w fun e w' => e = .returned (.bool (Cd.datB k (c.toNat : Int))) ∧ w = w' := by
  by_cases h7 : k = 7
  · subst h7
    go_enter Tryz.func77, Tryz.ntmps77
    go_wp2_with fail
    refine (plc_any c _).mono ?_
    rintro e w' ⟨rfl, rfl⟩
    go_wp2
    go_ret
    exact ⟨ret_bool (by simp [Cd.datB]), rfl⟩
  · have hb : ((k : Int) == 7) = false := by rw [beq_eq_false_iff_ne]; omega
    have HE : Hid (Cd.datB k (c.toNat : Int) = Cd.isDig (c.toNat : Int)) := if_neg h7
    clear h7
    go_enter Tryz.func77, Tryz.ntmps77
    go_wp2_with fail
    refine (rdigit_any _ _).mono ?_
    rintro e w' ⟨rfl, rfl⟩
    go_wp2
    go_ret
    exact ⟨ret_bool HE.out.symm, rfl⟩

set_option maxHeartbeats 400000 in
theorem value_any (s : ByteArray) (i : Nat) (w : World) (hs : s.size ≤ 9223372036854775807) (h : i < s.size) (hd : Hid (Cd.AllDig s.data.toList)) :
    Calls Tryz.prog 92 #[.string s, .int .i64 (i : Int)] w fun e w' => e = .returned (.int .i64 (Cd.dg (s[s.size - 1 - i]'(by omega)))) ∧ w = w' := by
  obtain ⟨hx1, hx2⟩ := hd.out _ (mem_at s (s.size - 1 - i) (by omega))
  go_enter Tryz.func92, Tryz.ntmps92
  go_wp2
  go_ret
  exact ⟨rfl, rfl⟩

theorem drop_back (s : ByteArray) (i : Nat) (h : i < s.size) : s.data.toList.drop (s.size - (i + 1)) = (s[s.size - 1 - i]'(by omega)) :: s.data.toList.drop (s.size - i) := by
  have e1 : s.size - (i + 1) = s.size - 1 - i := by omega
  rw [e1, drop_cons s (s.size - 1 - i) (by omega), show s.size - 1 - i + 1 = s.size - i by omega]

theorem char_cut : ∀ n : Fin 11, ((⟨#[48, 49, 50, 51, 52, 53, 54, 55, 56, 57, 88]⟩ : ByteArray).extract n.1 (n.1 + 1)).data.toList = [Cd.chr (n.1 : Int)] := by decide +kernel
set_option maxHeartbeats 400000 in
theorem rchar_any (v : Int) (w : World) (h0 : 0 ≤ v) (h1 : v ≤ 10) :
    Calls Tryz.prog 82 #[.int .i64 v] w fun e w' => e = .returned (.string ⟨#[Cd.chr v]⟩) ∧ w = w' := by
  obtain ⟨n, rfl⟩ := Int.eq_ofNat_of_zero_le h0
  have hn : n ≤ 10 := by omega
  have HC := Lib.hid (bytes_ext (b := ⟨[Cd.chr (n : Int)].toArray⟩) (char_cut ⟨n, by omega⟩))
  go_enter Tryz.func82, Tryz.ntmps82
  go_wp2
  go_ret
  exact ⟨ret_string HC.out, rfl⟩
end Go.Proofs.YthjlnpcaclfopaaGreat
