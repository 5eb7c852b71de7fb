/-
  Chapter 14: the comparisons of lists, walked where the lists are equal.
  No condition.
-/
import Derived.Test.YteojfkffmbcedaaGreatDoorGsWE
namespace Go.Proofs.YteojfkffmbcedaaGreatDoor
set_option linter.unusedVariables false
open Go.RowKit

theorem el_neq (w : World) (a b c d : ByteArray) : (binOp .neq 35 (.agg #[.string a, .string b]) (.agg #[.string c, .string d])).run Tryz.prog w = .ok (.bool (!((a.toList == c.toList) && (b.toList == d.toList)))) w := by
  have u9 := Tryz.underlying9
  have a9 := Tryz.isAgg9
  have z9 := Tryz.sizeOf9
  have hS : Tryz.prog.underlying 35 = some (.struct (Tryz.prog.fieldsOf 35)) := by kernel_rfl
  have hp : Tryz.prog.stoodInHeld 35 = false := by kernel_rfl
  rw [run_neq_struct, show (10000 : Nat) = 9999 + 1 from rfl, run_equalIn_agg w 9999 35 _ _ hS hp]
  simp only [Program.fieldsOf, Tryz.underlying35]
  go_simp
  by_cases h1 : a.toList = c.toList <;> by_cases h2 : b.toList = d.toList <;> simp [h1, h2]

set_option maxRecDepth 100000 in
set_option maxHeartbeats 2000000 in
theorem rsame_any (u v : Value) (xs : List Gs.El) (w : World) (hu : ESl w u xs) (hv : ESl w v xs) (hn : xs.length ≤ 9223372036854775807) :
    Calls Tryz.prog 32 #[u, v] w fun e w' => e = .returned (.bool true) ∧ Ext w w' := by
  obtain ⟨a1, c1, rfl⟩ := hu.form
  obtain ⟨a2, c2, rfl⟩ := hv.form
  have HU := Lib.hid hu
  have HV := Lib.hid hv
  obtain ⟨N, hN⟩ : ∃ N, xs.length = N := ⟨_, rfl⟩
  have HN := Lib.hid hN
  rw [hN] at hn HU HV ⊢
  clear hu hv hN
  go_enter Tryz.func32, Tryz.ntmps32
  go_wp2
  go_loopw [5] (fun t wr => ∃ k : Nat, k ≤ N ∧ t = .int .i64 (k : Int) ∧ Ext w wr) (fun t _ => N - (intOf t).toNat)
  case atStart => exact ⟨0, Nat.zero_le _, rfl, Ext.refl w⟩
  case round =>
    obtain ⟨k, hk, rfl, hx⟩ := hrel
    by_cases hlt : k < N
    · obtain ⟨x, hxk⟩ : ∃ x, xs[k]? = some x := ⟨_, List.getElem?_eq_getElem (by rw [HN.out]; exact hlt)⟩
      obtain ⟨b1, o1, e1, hb1, q0, q1⟩ := HU.out.at_ hxk
      obtain ⟨b2, o2, e2, hb2, r0, r1⟩ := HV.out.at_ hxk
      subst e1 e2
      have d0 := (hx.cell (p := ⟨b1, o1 + k * 2, none⟩) hb1).trans q0
      have d1 := (hx.cell (p := ⟨b1, o1 + k * 2 + 1, none⟩) hb1).trans q1
      have d2 := (hx.cell (p := ⟨b2, o2 + k * 2, none⟩) hb2).trans r0
      have d3 := (hx.cell (p := ⟨b2, o2 + k * 2 + 1, none⟩) hb2).trans r1
      obtain ⟨xa, xd⟩ := x
      unfold encS at d0 d1 d2 d3
      dsimp only at d0 d1 d2 d3
      generalize (⟨xa.toArray⟩ : ByteArray) = A at *
      generalize (⟨xd.toArray⟩ : ByteArray) = D at *
      have hne : ∀ w', (binOp .neq 35 (.agg #[.string A, .string D]) (.agg #[.string A, .string D])).run Tryz.prog w' = .ok (.bool false) w' := fun w' => by rw [el_neq]; simp
      clear hxk q0 q1 r0 r1
      go_wp2
      go_quiet (fail)
      go_wp2
      go_roundw
      case rel => exact ⟨k + 1, by omega, by go_num, hx.drewN _⟩
      case measure => simp [intOf]; omega
    · obtain rfl : k = N := by omega
      clear hk hlt
      go_wp2
      go_ret
      exact ⟨rfl, hx⟩

set_option maxRecDepth 100000 in
set_option maxHeartbeats 2000000 in
theorem requal_any (u v : Value) (xs : List Int) (w : World) (hu : Sl w u (xs.map encI)) (hv : Sl w v (xs.map encI)) (hn : xs.length ≤ 9223372036854775807) :
    Calls Tryz.prog 14 #[u, v] w fun e w' => e = .returned (.bool true) ∧ Ext w w' := by
  obtain ⟨a1, c1, rfl⟩ := hu.form
  obtain ⟨a2, c2, rfl⟩ := hv.form
  rw [List.length_map] at hu hv ⊢
  have HU := Lib.hid hu
  have HV := Lib.hid hv
  obtain ⟨N, hN⟩ : ∃ N, xs.length = N := ⟨_, rfl⟩
  have HN := Lib.hid hN
  rw [hN] at hn HU HV ⊢
  clear hu hv hN
  go_enter Tryz.func14, Tryz.ntmps14
  go_wp2
  go_loopw [5] (fun t wr => ∃ k : Nat, k ≤ N ∧ t = .int .i64 (k : Int) ∧ Ext w wr) (fun t _ => N - (intOf t).toNat)
  case atStart => exact ⟨0, Nat.zero_le _, rfl, Ext.refl w⟩
  case round =>
    obtain ⟨k, hk, rfl, hx⟩ := hrel
    by_cases hlt : k < N
    · have hkl : k < (xs.map encI).length := by rw [List.length_map, HN.out]; exact hlt
      obtain ⟨b1, o1, e1, hb1, q0⟩ := HU.out.at_ hkl
      obtain ⟨b2, o2, e2, hb2, r0⟩ := HV.out.at_ hkl
      subst e1 e2
      have d0 := (hx.cell (p := ⟨b1, o1 + k, none⟩) hb1).trans q0
      have d2 := (hx.cell (p := ⟨b2, o2 + k, none⟩) hb2).trans r0
      rw [List.getElem_map] at d0 d2
      unfold encI at d0 d2
      generalize xs[k]'(by rw [HN.out]; exact hlt) = z at *
      have hz : (z != z) = false := by simp
      clear q0 r0 hkl
      go_wp2
      go_quiet (fail)
      go_wp2
      go_roundw
      case rel => exact ⟨k + 1, by omega, by go_num, hx.drewN _⟩
      case measure => simp [intOf]; omega
    · obtain rfl : k = N := by omega
      clear hk hlt
      go_wp2
      go_ret
      exact ⟨rfl, hx⟩

set_option maxHeartbeats 1000000 in
theorem lsame_any (u v : Value) (xs : List Gs.El) (w : World) (hu : ESl w u xs) (hv : ESl w v xs) (hn : xs.length ≤ 9223372036854775807) :
    Calls Tryz.prog 19 #[u, v] w fun e w' => e = .returned (.bool true) ∧ Ext w w' := by
  have H := Lib.hid (rsame_any u v xs w hu hv hn)
  clear hu hv hn
  go_enter Tryz.func19, Tryz.ntmps19
  go_wp2_with fail
  refine H.out.mono ?_
  rintro e w1 ⟨rfl, hx1⟩
  go_wp2
  go_ret
  exact ⟨rfl, hx1⟩
set_option maxHeartbeats 1000000 in
theorem lequal_any (u v : Value) (xs : List Int) (w : World) (hu : Sl w u (xs.map encI)) (hv : Sl w v (xs.map encI)) (hn : xs.length ≤ 9223372036854775807) :
    Calls Tryz.prog 6 #[u, v] w fun e w' => e = .returned (.bool true) ∧ Ext w w' := by
  have H := Lib.hid (requal_any u v xs w hu hv hn)
  clear hu hv hn
  go_enter Tryz.func6, Tryz.ntmps6
  go_wp2_with fail
  refine H.out.mono ?_
  rintro e w1 ⟨rfl, hx1⟩
  go_wp2
  go_ret
  exact ⟨rfl, hx1⟩
end Go.Proofs.YteojfkffmbcedaaGreatDoor
