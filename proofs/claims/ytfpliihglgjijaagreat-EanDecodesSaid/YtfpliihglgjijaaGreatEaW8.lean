/-
  Chapter 11: Margins and the add-on's sets, walked.
  Condition: rows of at most a million modules.
-/
import Derived.Test.YtfpliihglgjijaaGreatEaW7
import Derived.Test.YtfpliihglgjijaaGreatEaW5
namespace Go.Proofs.YtfpliihglgjijaaGreat
set_option linter.unusedVariables false
open Go.RowKit

set_option maxRecDepth 100000 in
set_option maxHeartbeats 2000000 in
theorem margins_any (v : Value) (m : List Bool) (w : World) (hv : SlK w v (m.map encT)) (hm : m.length ≤ 1000000) :
    Calls Tryz.prog 43 #[v] w fun e w' => e = .returned (.tuple #[.int .i64 (Ea.ldg m : Int), .int .i64 (Ea.trl m : Int)]) ∧ w = w' := by
  obtain ⟨hsl, a, c, rfl, _⟩ := hv
  rw [List.length_map] at hsl ⊢
  have HV := Lib.hid hsl
  clear hsl
  go_enter Tryz.func43, Tryz.ntmps43
  go_wp2
  go_loop [2] (fun i => ∃ k : Nat, k ≤ m.length ∧ i = .int .i64 (k : Int) ∧ Hid (Ea.ldg (m.drop k) + k = Ea.ldg m)) (fun i => m.length - (intOf i).toNat)
  case atStart => exact ⟨0, Nat.zero_le _, rfl, Lib.hid rfl⟩
  case round =>
    obtain ⟨k, hk, rfl, hl⟩ := hrel
    by_cases hlt : k < m.length
    · obtain ⟨bb0, off0, ha0, hbl0, hc00⟩ := HV.out.at_ (k := k) (by rw [List.length_map]; exact hlt)
      subst ha0
      rw [List.getElem_map] at hc00
      unfold encT at hc00
      obtain ⟨b, hb⟩ : ∃ b, m[k] = b := ⟨_, rfl⟩
      rw [hb] at hc00
      have hl2 := hl.out
      rw [List.drop_eq_getElem_cons hlt, hb] at hl2
      have HL2 := Lib.hid hl2
      clear hl2 hl hb
      cases b with
      | true =>
        have HL : Hid (((Ea.ldg m : Nat) : Int) = (k : Int)) := Lib.hid (by have := HL2.out; simp only [Ea.ldg, if_true] at this; omega)
        clear HL2
        go_wp2
        go_loop [3] (fun i => ∃ j : Nat, j ≤ m.length ∧ i = .int .i64 (j : Int) ∧ Hid (Ea.ldg (m.reverse.drop j) + j = Ea.trl m)) (fun i => m.length - (intOf i).toNat)
        case atStart => exact ⟨0, Nat.zero_le _, rfl, Lib.hid rfl⟩
        case round =>
          obtain ⟨j, hj, rfl, hr⟩ := hrel
          by_cases hlj : j < m.length
          · obtain ⟨bb, off, ha, hbl, hc0⟩ := HV.out.at_ (k := m.length - 1 - j) (by rw [List.length_map]; omega)
            simp only [Option.some.injEq, Addr.mk.injEq, and_true] at ha
            obtain ⟨rfl, rfl⟩ := ha
            rw [List.getElem_map] at hc0
            unfold encT at hc0
            obtain ⟨b, hb⟩ : ∃ b, m[m.length - 1 - j]'(by omega) = b := ⟨_, rfl⟩
            rw [hb] at hc0
            have hi : (m.length : Int) - 1 - (j : Int) = ((m.length - 1 - j : Nat) : Int) := by omega
            have hil : m.length - 1 - j < m.length := by omega
            have HRV : Hid (m.reverse.drop j = b :: m.reverse.drop (j + 1)) := Lib.hid (by
              rw [List.drop_eq_getElem_cons (by rw [List.length_reverse]; exact hlj), List.getElem_reverse, hb])
            have hr2 := hr.out
            rw [HRV.out] at hr2
            have HR2 := Lib.hid hr2
            clear hr2 hr hb HRV
            obtain ⟨ix, hix⟩ : ∃ ix, m.length - 1 - j = ix := ⟨_, rfl⟩
            rw [hix] at hc0 hi hil
            clear hix
            cases b with
            | true =>
              have HE : Hid ((j : Int) = ((Ea.trl m : Nat) : Int)) := Lib.hid (by have := HR2.out; simp only [Ea.ldg, if_true] at this; omega)
              go_wp2
              go_ret2
              exact ⟨by rw [HL.out, HE.out]; rfl, rfl⟩
            | false =>
              have HE : Hid (Ea.ldg (m.reverse.drop (j + 1)) + (j + 1) = Ea.trl m) := Lib.hid (by have := HR2.out; simp only [Ea.ldg, Bool.false_eq_true, if_false] at this; omega)
              go_wp2
              go_round
              case rel => exact ⟨j + 1, by omega, by go_num, HE⟩
              case measure => simp [intOf]; omega
          · obtain rfl : j = m.length := by omega
            have HE : Hid ((m.length : Int) = ((Ea.trl m : Nat) : Int)) := Lib.hid (by
              have := hr.out
              rw [List.drop_of_length_le (by rw [List.length_reverse]; exact Nat.le_refl _)] at this
              simp only [Ea.ldg] at this; omega)
            clear hj hlj hr
            go_wp2
            go_ret2
            exact ⟨by rw [HL.out]; rw [← HE.out]; rfl, rfl⟩
      | false =>
        have HE : Hid (Ea.ldg (m.drop (k + 1)) + (k + 1) = Ea.ldg m) := Lib.hid (by have := HL2.out; simp only [Ea.ldg, Bool.false_eq_true, if_false] at this; omega)
        clear HL2
        go_wp2
        go_round
        case rel => exact ⟨k + 1, by omega, by go_num, HE⟩
        case measure => simp [intOf]; omega
    · obtain rfl : k = m.length := by omega
      have HL : Hid (((Ea.ldg m : Nat) : Int) = (m.length : Int)) := Lib.hid (by
        have := hl.out
        rw [List.drop_of_length_le (Nat.le_refl _)] at this
        simp only [Ea.ldg] at this; omega)
      clear hk hlt hl
      go_wp2
      go_loop [3] (fun i => ∃ j : Nat, j ≤ m.length ∧ i = .int .i64 (j : Int) ∧ Hid (Ea.ldg (m.reverse.drop j) + j = Ea.trl m)) (fun i => m.length - (intOf i).toNat)
      case atStart => exact ⟨0, Nat.zero_le _, rfl, Lib.hid rfl⟩
      case round =>
        obtain ⟨j, hj, rfl, hr⟩ := hrel
        by_cases hlj : j < m.length
        · obtain ⟨bb, off, ha, hbl, hc0⟩ := HV.out.at_ (k := m.length - 1 - j) (by rw [List.length_map]; omega)
          subst ha
          rw [List.getElem_map] at hc0
          unfold encT at hc0
          obtain ⟨b, hb⟩ : ∃ b, m[m.length - 1 - j]'(by omega) = b := ⟨_, rfl⟩
          rw [hb] at hc0
          have hi : (m.length : Int) - 1 - (j : Int) = ((m.length - 1 - j : Nat) : Int) := by omega
          have hil : m.length - 1 - j < m.length := by omega
          have HRV : Hid (m.reverse.drop j = b :: m.reverse.drop (j + 1)) := Lib.hid (by
            rw [List.drop_eq_getElem_cons (by rw [List.length_reverse]; exact hlj), List.getElem_reverse, hb])
          have hr2 := hr.out
          rw [HRV.out] at hr2
          have HR2 := Lib.hid hr2
          clear hr2 hr hb HRV
          obtain ⟨ix, hix⟩ : ∃ ix, m.length - 1 - j = ix := ⟨_, rfl⟩
          rw [hix] at hc0 hi hil
          clear hix
          cases b with
          | true =>
            have HE : Hid ((j : Int) = ((Ea.trl m : Nat) : Int)) := Lib.hid (by have := HR2.out; simp only [Ea.ldg, if_true] at this; omega)
            go_wp2
            go_ret2
            exact ⟨by rw [HL.out, HE.out]; rfl, rfl⟩
          | false =>
            have HE : Hid (Ea.ldg (m.reverse.drop (j + 1)) + (j + 1) = Ea.trl m) := Lib.hid (by have := HR2.out; simp only [Ea.ldg, Bool.false_eq_true, if_false] at this; omega)
            go_wp2
            go_round
            case rel => exact ⟨j + 1, by omega, by go_num, HE⟩
            case measure => simp [intOf]; omega
        · obtain rfl : j = m.length := by omega
          have HE : Hid ((m.length : Int) = ((Ea.trl m : Nat) : Int)) := Lib.hid (by
            have := hr.out
            rw [List.drop_of_length_le (by rw [List.length_reverse]; exact Nat.le_refl _)] at this
            simp only [Ea.ldg] at this; omega)
          clear hj hlj hr
          go_wp2
          go_ret2
          exact ⟨by rw [HL.out]; rw [← HE.out]; rfl, rfl⟩
end Go.Proofs.YtfpliihglgjijaaGreat
