/-
  The reference's Place, walked.
  Condition: the string is within the reach.
-/
import Derived.Test.YtkpfehfcgpapiaaGreatDoorKit
import Derived.Test.YtkpfehfcgpapiaaGreatDoorCd
namespace Go.Proofs.YtkpfehfcgpapiaaGreatDoor
open Go.RowKit

theorem index_first (l : List UInt8) (c : UInt8) : ∀ k, k < l.length → (∀ i, i < k → l.getD i 0 ≠ c) → l.getD k 0 = c → Lib.indexByte l c = (k : Int) := by
  induction l with
  | nil => intro k hk; simp at hk
  | cons b l ih =>
    intro k hk hno he
    cases k with
    | zero =>
      simp only [List.getD_cons_zero] at he
      simp [Lib.indexByte, he]
    | succ k =>
      have hb : ¬ b = c := by have := hno 0 (by omega); simpa using this
      have := ih k (by simpa using hk) (fun i hi => by have := hno (i + 1) (by omega); simpa using this) (by simpa using he)
      simp only [Lib.indexByte, beq_iff_eq, if_neg hb, this]
      rw [if_neg (by omega)]; omega
theorem byte_none (l : List UInt8) (c : UInt8) (h : ∀ i, i < l.length → l.getD i 0 ≠ c) : Lib.indexByte l c = -1 := by
  induction l with
  | nil => rfl
  | cons b l ih =>
    have hb : ¬ b = c := by have := h 0 (by simp); simpa using this
    have := ih (fun i hi => by have := h (i + 1) (by simpa using hi); simpa using this)
    simp [Lib.indexByte, hb, this]
theorem getDat (s : ByteArray) (i : Nat) (h : i < s.size) : s.data.toList.getD i 0 = s[i] := by
  have h' : i < s.data.toList.length := by rw [len_data]; exact h
  rw [List.getD_eq_getElem?_getD, List.getElem?_eq_getElem h']; rfl
theorem u8_ne (a b : UInt8) (h : a ≠ b) : ((a.toNat : Int) == (b.toNat : Int)) = false := by
  rw [beq_eq_false_iff_ne]; intro e; exact h (UInt8.toNat_inj.1 (by omega))

set_option maxHeartbeats 400000 in
theorem place_any (s : ByteArray) (c : UInt8) (w : World) (hs : s.size ≤ 9223372036854775807) :
    Calls Tryz.prog 135 #[.string s, .int .u8 (c.toNat : Int)] w fun e w' => e = .returned (.int .i64 (Lib.indexByte s.data.toList c)) ∧ w = w' := by
  go_enter Tryz.func135, Tryz.ntmps135
  go_wp2
  go_loop [5] (fun i => ∃ j : Nat, j ≤ s.size ∧ i = .int .i64 (j : Int) ∧ Hid (∀ i, i < j → s.data.toList.getD i 0 ≠ c)) (fun i => s.size - (intOf i).toNat)
  case atStart => exact ⟨0, Nat.zero_le _, rfl, fun i hi => by omega⟩
  case round =>
    obtain ⟨j, hj, rfl, hno⟩ := hrel
    by_cases hlt : j < s.size
    · have hg := getDat s j hlt
      by_cases he : s[j] = c
      · have HR := Lib.hid (index_first s.data.toList c j (by rw [len_data]; exact hlt) hno.out (by rw [hg]; exact he))
        have hb : ((s[j].toNat : Int) == (c.toNat : Int)) = true := by rw [he]; simp
        clear he hg
        go_wp2
        go_ret
        exact ⟨ret_int HR.out.symm, rfl⟩
      · have HN : Hid (∀ i, i < j + 1 → s.data.toList.getD i 0 ≠ c) := fun i hi => by
          by_cases e : i = j
          · subst e; rw [hg]; exact he
          · exact hno.out i (by omega)
        have hb := u8_ne _ _ he
        clear he hg
        go_wp2
        go_round
        case rel => exact ⟨j + 1, by omega, by go_num, HN⟩
        case measure => simp [intOf]; omega
    · obtain rfl : j = s.size := by omega
      have HR := Lib.hid (byte_none s.data.toList c (by rw [len_data]; exact hno.out))
      clear hj hlt
      go_wp2
      go_ret
      exact ⟨ret_int HR.out.symm, rfl⟩

theorem plc_any (c : UInt8) (w : World) :
    Calls Tryz.prog 135 #[.string ⟨#[48, 49, 50, 51, 52, 53, 54, 55, 56, 57, 65, 66, 67, 68, 69, 70, 71, 72, 73, 74, 75, 76, 77, 78, 79, 80, 81, 82, 83, 84, 85, 86, 87, 88, 89, 90, 45, 46, 32, 36, 47, 43, 37]⟩, .int .u8 (c.toNat : Int)] w fun e w' => e = .returned (.int .i64 (Cd.plc c)) ∧ w = w' :=
  place_any _ c w (by decide)
end Go.Proofs.YtkpfehfcgpapiaaGreatDoor
