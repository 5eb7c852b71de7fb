/-
  Chapter 14: the reference's Verify, walked.
  No condition.
-/
import Derived.Test.YteojfkffmbcedaaGreatDoorGsR3
import Derived.Test.YteojfkffmbcedaaGreatDoorGsR5
namespace Go.Proofs.YteojfkffmbcedaaGreatDoor
set_option linter.unusedVariables false
open Go.RowKit

theorem sum_iff {l : List UInt8} (hd : Cd.AllDig l) (h2 : 2 ≤ l.length) (hl : l.length ≤ 4096) : Cd.verI 1 l = 0 ↔ (Cd.gsF l).1 % 10 = 0 := by
  have h1 : Cd.verI 1 l = Cd.ver 1 l := rfl
  rw [h1, Cd.sums1 l hd h2 hl, Cd.ws_gs]
set_option maxRecDepth 100000 in
set_option maxHeartbeats 8000000 in
theorem rver_len (ai d : ByteArray) (w : World) (fm mo : Int) (hf : 1 ≤ fm) (hs : d.size ≤ 9223372036854775807)
    (HT : Hid (∀ w, Calls Tryz.prog 24 #[.string ai] w (TabR (fm, mo) w)))
    (h : mo < (d.size : Int) ∨ d.size = 0 ∨ ((d.size : Int) ≠ mo ∧ fm ≠ 4 ∧ fm ≠ 5)) :
    Calls Tryz.prog 23 #[.agg #[.string ai, .string d]] w fun e w' => e = .returned (.int .i64 7) ∧ Ext w w' := by
  have HXA := Lib.hid ((Ext.refl w).alloc (.cells #[.string ai, .string d] 35))
  have FJ : Hid (∀ w', Ext (w.alloc (.cells #[.string ai, .string d] 35)) w' → w'.cell? ⟨w.heap.size, 0, none⟩ = some (.string ai) ∧ w'.cell? ⟨w.heap.size, 1, none⟩ = some (.string d)) := Lib.hid (fun w' hx => by
    refine ⟨?_, ?_⟩
    all_goals
      rw [hx.cell (by simp)]; simp [go_sem])
  have g0 : (fm == 0) = false := by rw [beq_eq_false_iff_ne]; omega
  by_cases h1 : mo < (d.size : Int)
  · clear h
    go_enter Tryz.func23, Tryz.ntmps23
    go_wp2_with fail
    refine (HT.out _).mono ?_
    rintro e w1 ⟨rfl, hx1⟩
    dsimp only
    obtain ⟨d0, d1⟩ := FJ.out w1 hx1
    have hxw : Ext w w1 := HXA.out.trans hx1
    go_wp2
    go_ret
    exact ⟨rfl, hxw⟩
  · have h1' : (d.size : Int) ≤ mo := by omega
    by_cases h2 : d.size = 0
    · have i0 : ((d.size : Int) == 0) = true := by rw [h2]; rfl
      clear h h1 h2
      go_enter Tryz.func23, Tryz.ntmps23
      go_wp2_with fail
      refine (HT.out _).mono ?_
      rintro e w1 ⟨rfl, hx1⟩
      dsimp only
      obtain ⟨d0, d1⟩ := FJ.out w1 hx1
      have hxw : Ext w w1 := HXA.out.trans hx1
      go_wp2
      go_ret
      exact ⟨rfl, hxw⟩
    · have i0 : ((d.size : Int) == 0) = false := by rw [beq_eq_false_iff_ne]; omega
      obtain ⟨a1, a2, a3⟩ : (d.size : Int) ≠ mo ∧ fm ≠ 4 ∧ fm ≠ 5 := (h.resolve_left h1).resolve_left h2
      have i2 : ((d.size : Int) != mo) = true := by simp; omega
      have i4 : (fm != 4) = true := by simpa using a2
      have i5 : (fm != 5) = true := by simpa using a3
      clear h h1 h2 a1 a2 a3
      go_enter Tryz.func23, Tryz.ntmps23
      go_wp2_with fail
      refine (HT.out _).mono ?_
      rintro e w1 ⟨rfl, hx1⟩
      dsimp only
      obtain ⟨d0, d1⟩ := FJ.out w1 hx1
      have hxw : Ext w w1 := HXA.out.trans hx1
      go_wp2
      go_ret
      exact ⟨rfl, hxw⟩

set_option maxRecDepth 100000 in
set_option maxHeartbeats 8000000 in
theorem rver1 (ai d : ByteArray) (w : World) (mo : Int) (res : Int) (hm1 : 1 ≤ mo) (hm9 : mo ≤ 90) (hs : d.size ≤ 9223372036854775807)
    (HT : Hid (∀ w, Calls Tryz.prog 24 #[.string ai] w (TabR (1, mo) w)))
    (n0 : 1 ≤ d.size) (n1 : (d.size : Int) ≤ mo) (HNE : (d.size : Int) = mo) (hlo : True)
    (HV6 : Hid (d.data.toList.all (fun c => Cd.isDig c.toNat) = false → res = 6)) (HV3 : Hid (d.data.toList.all (fun c => Cd.isDig c.toNat) = true → res = 0)) :
    Calls Tryz.prog 23 #[.agg #[.string ai, .string d]] w fun e w' => e = .returned (.int .i64 res) ∧ Ext w w' := by
  have HXA := Lib.hid ((Ext.refl w).alloc (.cells #[.string ai, .string d] 35))
  have FJ : Hid (∀ w', Ext (w.alloc (.cells #[.string ai, .string d] 35)) w' → w'.cell? ⟨w.heap.size, 0, none⟩ = some (.string ai) ∧ w'.cell? ⟨w.heap.size, 1, none⟩ = some (.string d)) := Lib.hid (fun w' hx => by
    refine ⟨?_, ?_⟩
    all_goals
      rw [hx.cell (by simp)]; simp [go_sem])
  have i0 : ((d.size : Int) == 0) = false := by rw [beq_eq_false_iff_ne]; omega
  have i1 : ¬ mo < (d.size : Int) := by omega
  have i2 : ((d.size : Int) != mo) = false := by simp; omega
  have HNE2 := Lib.hid HNE
  clear HNE i1
  go_enter Tryz.func23, Tryz.ntmps23
  go_wp2_with fail
  refine (HT.out _).mono ?_
  rintro e w1 ⟨rfl, hx1⟩
  dsimp only
  obtain ⟨d0, d1⟩ := FJ.out w1 hx1
  have hxw : Ext w w1 := HXA.out.trans hx1
  go_wp2
  go_loop [6] (fun i => ∃ j : Nat, j ≤ d.size ∧ i = .int .i64 (j : Int) ∧ Hid ((d.data.toList.take j).all (fun c => Cd.isDig c.toNat) = true)) (fun i => d.size - (intOf i).toNat)
  case atStart => exact ⟨0, Nat.zero_le _, rfl, Lib.hid rfl⟩
  case round =>
    obtain ⟨j, hj, rfl, hal⟩ := hrel
    by_cases hlt : j < d.size
    · have HA := Lib.hid (all_take_succ' d (fun c => Cd.isDig c.toNat) j hlt)
      have HN := Lib.hid (all_false_at' d (fun c => Cd.isDig c.toNat) j hlt)
      cases hp : Cd.isDig (d[j].toNat : Int)
      · have HP := Lib.hid hp
        have HR : Hid (res = 6) := Lib.hid (HV6.out (HN.out hp))
        clear hp HA HN
        go_wp2_with fail
        refine (rdigit_any _ _).mono ?_
        rintro e w' ⟨rfl, rfl⟩
        rw [HP.out]
        go_wp2
        go_ret
        exact ⟨ret_int HR.out.symm, hxw⟩
      · have HP := Lib.hid hp
        have HO : Hid ((d.data.toList.take (j + 1)).all (fun c => Cd.isDig c.toNat) = true) := Lib.hid (by rw [HA.out, hal.out, hp]; rfl)
        clear hp HA HN
        go_wp2_with fail
        refine (rdigit_any _ _).mono ?_
        rintro e w' ⟨rfl, rfl⟩
        rw [HP.out]
        go_wp2
        go_round
        case rel => exact ⟨j + 1, by omega, by go_num, HO⟩
        case measure => simp [intOf]; omega
    · obtain rfl : j = d.size := by omega
      rw [take_all] at hal
      clear hj hlt
      have HR : Hid (res = 0) := Lib.hid (HV3.out hal.out)
      go_wp2
      go_ret
      exact ⟨ret_int HR.out.symm, hxw⟩
set_option maxRecDepth 100000 in
set_option maxHeartbeats 8000000 in
theorem rver2 (ai d : ByteArray) (w : World) (mo : Int) (res : Int) (hm1 : 1 ≤ mo) (hm9 : mo ≤ 90) (hs : d.size ≤ 9223372036854775807)
    (HT : Hid (∀ w, Calls Tryz.prog 24 #[.string ai] w (TabR (2, mo) w)))
    (n0 : 1 ≤ d.size) (n1 : (d.size : Int) ≤ mo) (HNE : (d.size : Int) = mo) (h13 : Hid (1 ≤ d.size ∧ d.size ≤ 100 ∧ 2 ≤ d.size))
    (HV6 : Hid (d.data.toList.all (fun c => Cd.isDig c.toNat) = false → res = 6)) (HV3 : Hid (d.data.toList.all (fun c => Cd.isDig c.toNat) = true → res = if Cd.verI 1 d.data.toList ≠ 0 then 8 else 0)) :
    Calls Tryz.prog 23 #[.agg #[.string ai, .string d]] w fun e w' => e = .returned (.int .i64 res) ∧ Ext w w' := by
  have HXA := Lib.hid ((Ext.refl w).alloc (.cells #[.string ai, .string d] 35))
  have FJ : Hid (∀ w', Ext (w.alloc (.cells #[.string ai, .string d] 35)) w' → w'.cell? ⟨w.heap.size, 0, none⟩ = some (.string ai) ∧ w'.cell? ⟨w.heap.size, 1, none⟩ = some (.string d)) := Lib.hid (fun w' hx => by
    refine ⟨?_, ?_⟩
    all_goals
      rw [hx.cell (by simp)]; simp [go_sem])
  have i0 : ((d.size : Int) == 0) = false := by rw [beq_eq_false_iff_ne]; omega
  have i1 : ¬ mo < (d.size : Int) := by omega
  have i2 : ((d.size : Int) != mo) = false := by simp; omega
  have HNE2 := Lib.hid HNE
  clear HNE i1
  go_enter Tryz.func23, Tryz.ntmps23
  go_wp2_with fail
  refine (HT.out _).mono ?_
  rintro e w1 ⟨rfl, hx1⟩
  dsimp only
  obtain ⟨d0, d1⟩ := FJ.out w1 hx1
  have hxw : Ext w w1 := HXA.out.trans hx1
  go_wp2
  go_loop [6] (fun i => ∃ j : Nat, j ≤ d.size ∧ i = .int .i64 (j : Int) ∧ Hid ((d.data.toList.take j).all (fun c => Cd.isDig c.toNat) = true)) (fun i => d.size - (intOf i).toNat)
  case atStart => exact ⟨0, Nat.zero_le _, rfl, Lib.hid rfl⟩
  case round =>
    obtain ⟨j, hj, rfl, hal⟩ := hrel
    by_cases hlt : j < d.size
    · have HA := Lib.hid (all_take_succ' d (fun c => Cd.isDig c.toNat) j hlt)
      have HN := Lib.hid (all_false_at' d (fun c => Cd.isDig c.toNat) j hlt)
      cases hp : Cd.isDig (d[j].toNat : Int)
      · have HP := Lib.hid hp
        have HR : Hid (res = 6) := Lib.hid (HV6.out (HN.out hp))
        clear hp HA HN
        go_wp2_with fail
        refine (rdigit_any _ _).mono ?_
        rintro e w' ⟨rfl, rfl⟩
        rw [HP.out]
        go_wp2
        go_ret
        exact ⟨ret_int HR.out.symm, hxw⟩
      · have HP := Lib.hid hp
        have HO : Hid ((d.data.toList.take (j + 1)).all (fun c => Cd.isDig c.toNat) = true) := Lib.hid (by rw [HA.out, hal.out, hp]; rfl)
        clear hp HA HN
        go_wp2_with fail
        refine (rdigit_any _ _).mono ?_
        rintro e w' ⟨rfl, rfl⟩
        rw [HP.out]
        go_wp2
        go_round
        case rel => exact ⟨j + 1, by omega, by go_num, HO⟩
        case measure => simp [intOf]; omega
    · obtain rfl : j = d.size := by omega
      rw [take_all] at hal
      clear hj hlt
      have HV4 := Lib.hid (HV3.out hal.out)
      have HCK := Lib.hid (fun w => rchecked_any d h13.out.1 h13.out.2.1 (all_dig hal.out) w)
      have HSUM := Lib.hid (sum_iff (all_dig hal.out) (by rw [len_data]; exact h13.out.2.2) (by rw [len_data]; have := h13.out.2.1; omega))
      cases hck : decide ((Cd.gsF d.data.toList).1 % 10 = 0)
      · have HR9 : Hid (res = 8) := Lib.hid (by rw [HV4.out, if_pos (fun h => by have := HSUM.out.1 h; rw [decide_eq_true this] at hck; exact Bool.noConfusion hck)])
        rw [hck] at HCK
        clear hck
        go_wp2_with fail
        refine (HCK.out _).mono ?_
        rintro e w2 ⟨rfl, rfl⟩
        go_wp2
        go_ret
        exact ⟨ret_int HR9.out.symm, hxw⟩
      · have HR9 : Hid (res = 0) := Lib.hid (by rw [HV4.out, if_neg (fun h => h (HSUM.out.2 (of_decide_eq_true hck)))])
        rw [hck] at HCK
        clear hck
        go_wp2_with fail
        refine (HCK.out _).mono ?_
        rintro e w2 ⟨rfl, rfl⟩
        go_wp2
        go_ret
        exact ⟨ret_int HR9.out.symm, hxw⟩
set_option maxRecDepth 100000 in
set_option maxHeartbeats 8000000 in
theorem rver3 (ai d : ByteArray) (w : World) (mo : Int) (res : Int) (hm1 : 1 ≤ mo) (hm9 : mo ≤ 90) (hs : d.size ≤ 9223372036854775807)
    (HT : Hid (∀ w, Calls Tryz.prog 24 #[.string ai] w (TabR (3, mo) w)))
    (n0 : 1 ≤ d.size) (n1 : (d.size : Int) ≤ mo) (HNE : (d.size : Int) = mo) (h6 : Hid (d.size = 6))
    (HV6 : Hid (d.data.toList.all (fun c => Cd.isDig c.toNat) = false → res = 6)) (HV3 : Hid (d.data.toList.all (fun c => Cd.isDig c.toNat) = true → res = if Gs.dateB d.data.toList = false then 9 else 0)) :
    Calls Tryz.prog 23 #[.agg #[.string ai, .string d]] w fun e w' => e = .returned (.int .i64 res) ∧ Ext w w' := by
  have HXA := Lib.hid ((Ext.refl w).alloc (.cells #[.string ai, .string d] 35))
  have FJ : Hid (∀ w', Ext (w.alloc (.cells #[.string ai, .string d] 35)) w' → w'.cell? ⟨w.heap.size, 0, none⟩ = some (.string ai) ∧ w'.cell? ⟨w.heap.size, 1, none⟩ = some (.string d)) := Lib.hid (fun w' hx => by
    refine ⟨?_, ?_⟩
    all_goals
      rw [hx.cell (by simp)]; simp [go_sem])
  have i0 : ((d.size : Int) == 0) = false := by rw [beq_eq_false_iff_ne]; omega
  have i1 : ¬ mo < (d.size : Int) := by omega
  have i2 : ((d.size : Int) != mo) = false := by simp; omega
  have HNE2 := Lib.hid HNE
  clear HNE i1
  go_enter Tryz.func23, Tryz.ntmps23
  go_wp2_with fail
  refine (HT.out _).mono ?_
  rintro e w1 ⟨rfl, hx1⟩
  dsimp only
  obtain ⟨d0, d1⟩ := FJ.out w1 hx1
  have hxw : Ext w w1 := HXA.out.trans hx1
  go_wp2
  go_loop [6] (fun i => ∃ j : Nat, j ≤ d.size ∧ i = .int .i64 (j : Int) ∧ Hid ((d.data.toList.take j).all (fun c => Cd.isDig c.toNat) = true)) (fun i => d.size - (intOf i).toNat)
  case atStart => exact ⟨0, Nat.zero_le _, rfl, Lib.hid rfl⟩
  case round =>
    obtain ⟨j, hj, rfl, hal⟩ := hrel
    by_cases hlt : j < d.size
    · have HA := Lib.hid (all_take_succ' d (fun c => Cd.isDig c.toNat) j hlt)
      have HN := Lib.hid (all_false_at' d (fun c => Cd.isDig c.toNat) j hlt)
      cases hp : Cd.isDig (d[j].toNat : Int)
      · have HP := Lib.hid hp
        have HR : Hid (res = 6) := Lib.hid (HV6.out (HN.out hp))
        clear hp HA HN
        go_wp2_with fail
        refine (rdigit_any _ _).mono ?_
        rintro e w' ⟨rfl, rfl⟩
        rw [HP.out]
        go_wp2
        go_ret
        exact ⟨ret_int HR.out.symm, hxw⟩
      · have HP := Lib.hid hp
        have HO : Hid ((d.data.toList.take (j + 1)).all (fun c => Cd.isDig c.toNat) = true) := Lib.hid (by rw [HA.out, hal.out, hp]; rfl)
        clear hp HA HN
        go_wp2_with fail
        refine (rdigit_any _ _).mono ?_
        rintro e w' ⟨rfl, rfl⟩
        rw [HP.out]
        go_wp2
        go_round
        case rel => exact ⟨j + 1, by omega, by go_num, HO⟩
        case measure => simp [intOf]; omega
    · obtain rfl : j = d.size := by omega
      rw [take_all] at hal
      clear hj hlt
      have HV4 := Lib.hid (HV3.out hal.out)
      cases hdt : Gs.dateB d.data.toList
      · have HR9 : Hid (res = 9) := Lib.hid (by rw [HV4.out, if_pos hdt])
        have HDT := Lib.hid (fun w => rdate_any d h6.out (all_dig hal.out) w)
        rw [hdt] at HDT
        clear hdt
        go_wp2_with fail
        refine (HDT.out _).mono ?_
        rintro e w2 ⟨rfl, hx2⟩
        go_wp2
        go_ret
        exact ⟨ret_int HR9.out.symm, hxw.trans hx2⟩
      · have HR9 : Hid (res = 0) := Lib.hid (by rw [HV4.out, if_neg (by rw [hdt]; simp)])
        have HDT := Lib.hid (fun w => rdate_any d h6.out (all_dig hal.out) w)
        rw [hdt] at HDT
        clear hdt
        go_wp2_with fail
        refine (HDT.out _).mono ?_
        rintro e w2 ⟨rfl, hx2⟩
        go_wp2
        go_ret
        exact ⟨ret_int HR9.out.symm, hxw.trans hx2⟩
set_option maxRecDepth 100000 in
set_option maxHeartbeats 8000000 in
theorem rver4 (ai d : ByteArray) (w : World) (mo : Int) (res : Int) (hm1 : 1 ≤ mo) (hm9 : mo ≤ 90) (hs : d.size ≤ 9223372036854775807)
    (HT : Hid (∀ w, Calls Tryz.prog 24 #[.string ai] w (TabR (4, mo) w)))
    (n0 : 1 ≤ d.size) (n1 : (d.size : Int) ≤ mo) (HNE : True) (hlo : True)
    (HV6 : Hid (d.data.toList.all (fun c => Cd.isDig c.toNat) = false → res = 6)) (HV3 : Hid (d.data.toList.all (fun c => Cd.isDig c.toNat) = true → res = 0)) :
    Calls Tryz.prog 23 #[.agg #[.string ai, .string d]] w fun e w' => e = .returned (.int .i64 res) ∧ Ext w w' := by
  have HXA := Lib.hid ((Ext.refl w).alloc (.cells #[.string ai, .string d] 35))
  have FJ : Hid (∀ w', Ext (w.alloc (.cells #[.string ai, .string d] 35)) w' → w'.cell? ⟨w.heap.size, 0, none⟩ = some (.string ai) ∧ w'.cell? ⟨w.heap.size, 1, none⟩ = some (.string d)) := Lib.hid (fun w' hx => by
    refine ⟨?_, ?_⟩
    all_goals
      rw [hx.cell (by simp)]; simp [go_sem])
  have i0 : ((d.size : Int) == 0) = false := by rw [beq_eq_false_iff_ne]; omega
  have i1 : ¬ mo < (d.size : Int) := by omega
  clear HNE i1
  by_cases hq : (d.size : Int) = mo
  · have i2 : ((d.size : Int) != mo) = false := by simp; omega
    clear hq
    go_enter Tryz.func23, Tryz.ntmps23
    go_wp2_with fail
    refine (HT.out _).mono ?_
    rintro e w1 ⟨rfl, hx1⟩
    dsimp only
    obtain ⟨d0, d1⟩ := FJ.out w1 hx1
    have hxw : Ext w w1 := HXA.out.trans hx1
    go_wp2
    go_loop [6] (fun i => ∃ j : Nat, j ≤ d.size ∧ i = .int .i64 (j : Int) ∧ Hid ((d.data.toList.take j).all (fun c => Cd.isDig c.toNat) = true)) (fun i => d.size - (intOf i).toNat)
    case atStart => exact ⟨0, Nat.zero_le _, rfl, Lib.hid rfl⟩
    case round =>
      obtain ⟨j, hj, rfl, hal⟩ := hrel
      by_cases hlt : j < d.size
      · have HA := Lib.hid (all_take_succ' d (fun c => Cd.isDig c.toNat) j hlt)
        have HN := Lib.hid (all_false_at' d (fun c => Cd.isDig c.toNat) j hlt)
        cases hp : Cd.isDig (d[j].toNat : Int)
        · have HP := Lib.hid hp
          have HR : Hid (res = 6) := Lib.hid (HV6.out (HN.out hp))
          clear hp HA HN
          go_wp2_with fail
          refine (rdigit_any _ _).mono ?_
          rintro e w' ⟨rfl, rfl⟩
          rw [HP.out]
          go_wp2
          go_ret
          exact ⟨ret_int HR.out.symm, hxw⟩
        · have HP := Lib.hid hp
          have HO : Hid ((d.data.toList.take (j + 1)).all (fun c => Cd.isDig c.toNat) = true) := Lib.hid (by rw [HA.out, hal.out, hp]; rfl)
          clear hp HA HN
          go_wp2_with fail
          refine (rdigit_any _ _).mono ?_
          rintro e w' ⟨rfl, rfl⟩
          rw [HP.out]
          go_wp2
          go_round
          case rel => exact ⟨j + 1, by omega, by go_num, HO⟩
          case measure => simp [intOf]; omega
      · obtain rfl : j = d.size := by omega
        rw [take_all] at hal
        clear hj hlt
        have HR : Hid (res = 0) := Lib.hid (HV3.out hal.out)
        go_wp2
        go_ret
        exact ⟨ret_int HR.out.symm, hxw⟩
  · have i2 : ((d.size : Int) != mo) = true := by simp; omega
    clear hq
    go_enter Tryz.func23, Tryz.ntmps23
    go_wp2_with fail
    refine (HT.out _).mono ?_
    rintro e w1 ⟨rfl, hx1⟩
    dsimp only
    obtain ⟨d0, d1⟩ := FJ.out w1 hx1
    have hxw : Ext w w1 := HXA.out.trans hx1
    go_wp2
    go_loop [6] (fun i => ∃ j : Nat, j ≤ d.size ∧ i = .int .i64 (j : Int) ∧ Hid ((d.data.toList.take j).all (fun c => Cd.isDig c.toNat) = true)) (fun i => d.size - (intOf i).toNat)
    case atStart => exact ⟨0, Nat.zero_le _, rfl, Lib.hid rfl⟩
    case round =>
      obtain ⟨j, hj, rfl, hal⟩ := hrel
      by_cases hlt : j < d.size
      · have HA := Lib.hid (all_take_succ' d (fun c => Cd.isDig c.toNat) j hlt)
        have HN := Lib.hid (all_false_at' d (fun c => Cd.isDig c.toNat) j hlt)
        cases hp : Cd.isDig (d[j].toNat : Int)
        · have HP := Lib.hid hp
          have HR : Hid (res = 6) := Lib.hid (HV6.out (HN.out hp))
          clear hp HA HN
          go_wp2_with fail
          refine (rdigit_any _ _).mono ?_
          rintro e w' ⟨rfl, rfl⟩
          rw [HP.out]
          go_wp2
          go_ret
          exact ⟨ret_int HR.out.symm, hxw⟩
        · have HP := Lib.hid hp
          have HO : Hid ((d.data.toList.take (j + 1)).all (fun c => Cd.isDig c.toNat) = true) := Lib.hid (by rw [HA.out, hal.out, hp]; rfl)
          clear hp HA HN
          go_wp2_with fail
          refine (rdigit_any _ _).mono ?_
          rintro e w' ⟨rfl, rfl⟩
          rw [HP.out]
          go_wp2
          go_round
          case rel => exact ⟨j + 1, by omega, by go_num, HO⟩
          case measure => simp [intOf]; omega
      · obtain rfl : j = d.size := by omega
        rw [take_all] at hal
        clear hj hlt
        have HR : Hid (res = 0) := Lib.hid (HV3.out hal.out)
        go_wp2
        go_ret
        exact ⟨ret_int HR.out.symm, hxw⟩
set_option maxRecDepth 100000 in
set_option maxHeartbeats 8000000 in
theorem rver5 (ai d : ByteArray) (w : World) (mo : Int) (res : Int) (hm1 : 1 ≤ mo) (hm9 : mo ≤ 90) (hs : d.size ≤ 9223372036854775807)
    (HT : Hid (∀ w, Calls Tryz.prog 24 #[.string ai] w (TabR (5, mo) w)))
    (n0 : 1 ≤ d.size) (n1 : (d.size : Int) ≤ mo) (HNE : True) (hlo : True)
    (HV6 : Hid (d.data.toList.all (fun c => Cd.isDig c.toNat || Gs.charB c) = false → res = 6)) (HV3 : Hid (d.data.toList.all (fun c => Cd.isDig c.toNat || Gs.charB c) = true → res = 0)) :
    Calls Tryz.prog 23 #[.agg #[.string ai, .string d]] w fun e w' => e = .returned (.int .i64 res) ∧ Ext w w' := by
  have HXA := Lib.hid ((Ext.refl w).alloc (.cells #[.string ai, .string d] 35))
  have FJ : Hid (∀ w', Ext (w.alloc (.cells #[.string ai, .string d] 35)) w' → w'.cell? ⟨w.heap.size, 0, none⟩ = some (.string ai) ∧ w'.cell? ⟨w.heap.size, 1, none⟩ = some (.string d)) := Lib.hid (fun w' hx => by
    refine ⟨?_, ?_⟩
    all_goals
      rw [hx.cell (by simp)]; simp [go_sem])
  have i0 : ((d.size : Int) == 0) = false := by rw [beq_eq_false_iff_ne]; omega
  have i1 : ¬ mo < (d.size : Int) := by omega
  clear HNE i1
  by_cases hq : (d.size : Int) = mo
  · have i2 : ((d.size : Int) != mo) = false := by simp; omega
    clear hq
    go_enter Tryz.func23, Tryz.ntmps23
    go_wp2_with fail
    refine (HT.out _).mono ?_
    rintro e w1 ⟨rfl, hx1⟩
    dsimp only
    obtain ⟨d0, d1⟩ := FJ.out w1 hx1
    have hxw : Ext w w1 := HXA.out.trans hx1
    go_wp2
    go_loop [6] (fun i => ∃ j : Nat, j ≤ d.size ∧ i = .int .i64 (j : Int) ∧ Hid ((d.data.toList.take j).all (fun c => Cd.isDig c.toNat || Gs.charB c) = true)) (fun i => d.size - (intOf i).toNat)
    case atStart => exact ⟨0, Nat.zero_le _, rfl, Lib.hid rfl⟩
    case round =>
      obtain ⟨j, hj, rfl, hal⟩ := hrel
      by_cases hlt : j < d.size
      · have HA := Lib.hid (all_take_succ' d (fun c => Cd.isDig c.toNat || Gs.charB c) j hlt)
        have HN := Lib.hid (all_false_at' d (fun c => Cd.isDig c.toNat || Gs.charB c) j hlt)
        cases hp : (Cd.isDig d[j].toNat || Gs.charB d[j])
        · have HP := Lib.hid hp
          have HR : Hid (res = 6) := Lib.hid (HV6.out (HN.out hp))
          clear hp HA HN
          go_wp2_with fail
          refine (rchar_any _ _).mono ?_
          rintro e w' ⟨rfl, rfl⟩
          rw [HP.out]
          go_wp2
          go_ret
          exact ⟨ret_int HR.out.symm, hxw⟩
        · have HP := Lib.hid hp
          have HO : Hid ((d.data.toList.take (j + 1)).all (fun c => Cd.isDig c.toNat || Gs.charB c) = true) := Lib.hid (by rw [HA.out, hal.out, hp]; rfl)
          clear hp HA HN
          go_wp2_with fail
          refine (rchar_any _ _).mono ?_
          rintro e w' ⟨rfl, rfl⟩
          rw [HP.out]
          go_wp2
          go_round
          case rel => exact ⟨j + 1, by omega, by go_num, HO⟩
          case measure => simp [intOf]; omega
      · obtain rfl : j = d.size := by omega
        rw [take_all] at hal
        clear hj hlt
        have HR : Hid (res = 0) := Lib.hid (HV3.out hal.out)
        go_wp2
        go_ret
        exact ⟨ret_int HR.out.symm, hxw⟩
  · have i2 : ((d.size : Int) != mo) = true := by simp; omega
    clear hq
    go_enter Tryz.func23, Tryz.ntmps23
    go_wp2_with fail
    refine (HT.out _).mono ?_
    rintro e w1 ⟨rfl, hx1⟩
    dsimp only
    obtain ⟨d0, d1⟩ := FJ.out w1 hx1
    have hxw : Ext w w1 := HXA.out.trans hx1
    go_wp2
    go_loop [6] (fun i => ∃ j : Nat, j ≤ d.size ∧ i = .int .i64 (j : Int) ∧ Hid ((d.data.toList.take j).all (fun c => Cd.isDig c.toNat || Gs.charB c) = true)) (fun i => d.size - (intOf i).toNat)
    case atStart => exact ⟨0, Nat.zero_le _, rfl, Lib.hid rfl⟩
    case round =>
      obtain ⟨j, hj, rfl, hal⟩ := hrel
      by_cases hlt : j < d.size
      · have HA := Lib.hid (all_take_succ' d (fun c => Cd.isDig c.toNat || Gs.charB c) j hlt)
        have HN := Lib.hid (all_false_at' d (fun c => Cd.isDig c.toNat || Gs.charB c) j hlt)
        cases hp : (Cd.isDig d[j].toNat || Gs.charB d[j])
        · have HP := Lib.hid hp
          have HR : Hid (res = 6) := Lib.hid (HV6.out (HN.out hp))
          clear hp HA HN
          go_wp2_with fail
          refine (rchar_any _ _).mono ?_
          rintro e w' ⟨rfl, rfl⟩
          rw [HP.out]
          go_wp2
          go_ret
          exact ⟨ret_int HR.out.symm, hxw⟩
        · have HP := Lib.hid hp
          have HO : Hid ((d.data.toList.take (j + 1)).all (fun c => Cd.isDig c.toNat || Gs.charB c) = true) := Lib.hid (by rw [HA.out, hal.out, hp]; rfl)
          clear hp HA HN
          go_wp2_with fail
          refine (rchar_any _ _).mono ?_
          rintro e w' ⟨rfl, rfl⟩
          rw [HP.out]
          go_wp2
          go_round
          case rel => exact ⟨j + 1, by omega, by go_num, HO⟩
          case measure => simp [intOf]; omega
      · obtain rfl : j = d.size := by omega
        rw [take_all] at hal
        clear hj hlt
        have HR : Hid (res = 0) := Lib.hid (HV3.out hal.out)
        go_wp2
        go_ret
        exact ⟨ret_int HR.out.symm, hxw⟩

theorem dir_chk : ∀ p ∈ Gs.dir, p.2.1 = 1 → 13 ≤ p.2.2.1 := by decide +kernel
theorem find_chk {l : List UInt8} {r : Gs.Rule} (h : Gs.find l = some r) (h0 : r.1 = 1) : 13 ≤ r.2.1 := by
  rcases find_cases h with ⟨h1, _⟩ | ⟨k, c, _, h1, _⟩
  · exact dir_chk _ h1 h0
  · exact dir_chk _ h1 h0
theorem okc_not3 {k : Int} (h : k ≠ 3) : Gs.okc k = fun c => Cd.isDig c.toNat := by
  funext c
  unfold Gs.okc
  rw [show (k == 3) = false by simpa using h]; simp
theorem okc_3 : Gs.okc 3 = fun c => Cd.isDig c.toNat || Gs.charB c := by
  funext c
  unfold Gs.okc
  simp

set_option maxRecDepth 100000 in
set_option maxHeartbeats 2000000 in
theorem rVerify_any (ai d : ByteArray) (ha : ai.size ≤ maxLen) (hs : d.size ≤ maxLen) (w : World) :
    Calls Tryz.prog 23 #[.agg #[.string ai, .string d]] w fun e w' => e = .returned (.int .i64 (Gs.ver ai.data.toList d.data.toList)) ∧ Ext w w' := by
  have HT := Lib.hid (fun w => table_any ai ha w)
  have hs' : d.size ≤ 9223372036854775807 := hs
  cases hg : Gs.find ai.data.toList with
  | none =>
    rw [hg] at HT
    have HV : Hid (Gs.ver ai.data.toList d.data.toList = 29) := Lib.hid (by unfold Gs.ver; rw [hg])
    generalize Gs.ver ai.data.toList d.data.toList = res at *
    have HXA := Lib.hid ((Ext.refl w).alloc (.cells #[.string ai, .string d] 35))
    have FJ : Hid (∀ w', Ext (w.alloc (.cells #[.string ai, .string d] 35)) w' → w'.cell? ⟨w.heap.size, 0, none⟩ = some (.string ai) ∧ w'.cell? ⟨w.heap.size, 1, none⟩ = some (.string d)) := Lib.hid (fun w' hx => by
      refine ⟨?_, ?_⟩
      all_goals
        rw [hx.cell (by simp)]; simp [go_sem])
    clear hg hs ha
    dsimp only [Gs.tabO] at HT
    go_enter Tryz.func23, Tryz.ntmps23
    go_wp2_with fail
    refine (HT.out _).mono ?_
    rintro e w1 ⟨rfl, hx1⟩
    dsimp only
    obtain ⟨d0, d1⟩ := FJ.out w1 hx1
    have hxw : Ext w w1 := HXA.out.trans hx1
    go_wp2
    go_ret
    exact ⟨ret_int HV.out.symm, hxw⟩
  | some r =>
    rw [hg] at HT
    have HV : Gs.ver ai.data.toList d.data.toList = Gs.verR r d.data.toList := by unfold Gs.ver; rw [hg]
    rw [HV]
    have hok := find_ok hg
    obtain ⟨f1, f5, ff⟩ := frm_fix hok
    obtain ⟨k0, k3, l1, lh, h9, h2, h1, h3⟩ := hok
    have hvar := fun h => find_var hg h
    have hchk := fun h => find_chk hg h
    obtain ⟨k, lo, hi, sf⟩ := r
    dsimp only [Gs.tabO] at HT k0 k3 l1 lh h9 h2 h1 h3 hvar hchk
    have hfr := Eq.refl (Gs.frm (k, lo, hi, sf))
    unfold Gs.verR
    dsimp only
    rw [len_data]
    by_cases hlen : (d.size : Int) < lo ∨ hi < (d.size : Int)
    · rw [if_pos hlen]
      refine rver_len ai d w _ hi f1 hs' HT ?_
      by_cases hfx : Gs.isFix (k, lo, hi, sf) = true
      · have hlh : lo = hi := by simpa [Gs.isFix] using hfx
        have := ff.1 hfx
        omega
      · have hlh : ¬ lo = hi := by simpa [Gs.isFix] using hfx
        have hlo : lo = 1 := by
          have : k = 0 ∨ k = 1 ∨ k = 2 ∨ k = 3 := by omega
          rcases this with e | e | e | e
          · exact (hvar e).resolve_left hlh
          · exact absurd (h1 e) hlh
          · have := h2 e; omega
          · exact (h3 e).1
        omega
    · rw [if_neg hlen]
      have n0 : 1 ≤ d.size := by omega
      have n1 : (d.size : Int) ≤ hi := by omega
      have hk : k = 0 ∨ k = 1 ∨ k = 2 ∨ k = 3 := by omega
      rcases hk with rfl | rfl | rfl | rfl
      · rw [okc_not3 (by decide)]
        by_cases hlh : lo = hi
        · have e : Gs.frm (0, lo, hi, sf) = 1 := by unfold Gs.frm; simp [hlh]
          rw [e] at HT
          refine rver1 ai d w hi _ (by omega) h9 hs' HT n0 n1 (by omega) trivial (Lib.hid (fun h => by rw [if_pos h])) (Lib.hid (fun h => by rw [if_neg (by rw [h]; simp), if_neg (by simp), if_neg (by simp)]))
        · have e : Gs.frm (0, lo, hi, sf) = 4 := by unfold Gs.frm; simp [hlh]
          rw [e] at HT
          refine rver4 ai d w hi _ (by omega) h9 hs' HT n0 n1 trivial trivial (Lib.hid (fun h => by rw [if_pos h])) (Lib.hid (fun h => by rw [if_neg (by rw [h]; simp), if_neg (by simp), if_neg (by simp)]))
      · have e : Gs.frm (1, lo, hi, sf) = 2 := by unfold Gs.frm; simp
        have hlh := h1 rfl
        have h13 := hchk rfl
        rw [okc_not3 (by decide)]
        rw [e] at HT
        refine rver2 ai d w hi _ (by omega) h9 hs' HT n0 n1 (by omega) (Lib.hid ⟨n0, by omega, by omega⟩) (Lib.hid (fun h => by rw [if_pos h])) (Lib.hid (fun h => by rw [if_neg (by rw [h]; simp), if_neg (by simp)]; simp))
      · have e : Gs.frm (2, lo, hi, sf) = 3 := by unfold Gs.frm; simp
        have h6 := h2 rfl
        rw [okc_not3 (by decide)]
        rw [e] at HT
        refine rver3 ai d w hi _ (by omega) h9 hs' HT n0 n1 (by omega) (Lib.hid (by omega)) (Lib.hid (fun h => by rw [if_pos h])) (Lib.hid (fun h => by rw [if_neg (by rw [h]; simp)]; simp))
      · have e : Gs.frm (3, lo, hi, sf) = 5 := by unfold Gs.frm; simp
        rw [okc_3]
        rw [e] at HT
        refine rver5 ai d w hi _ (by omega) h9 hs' HT n0 n1 trivial trivial (Lib.hid (fun h => by rw [if_pos h])) (Lib.hid (fun h => by rw [if_neg (by rw [h]; simp), if_neg (by simp), if_neg (by simp)]))
end Go.Proofs.YteojfkffmbcedaaGreatDoor
