/-
  Chapter 48, the laws: drawable.
  No condition.
-/
import Derived.Test.YtamkgbodifjlaaaGreatDoorGlL0
import Derived.Test.YtamkgbodifjlaaaGreatDoorGlXa
namespace Go.Proofs.YtamkgbodifjlaaaGreatDoor
set_option linter.unusedVariables false
open Go.RowKit

theorem Gl.solidI (c : UInt8) : Gl.solid c = ((decide (48 ≤ (c.toNat : Int)) && decide ((c.toNat : Int) ≤ 57)) || (decide (65 ≤ (c.toNat : Int)) && decide ((c.toNat : Int) ≤ 90))) := by
  unfold Gl.solid
  rw [Bool.eq_iff_iff]
  simp only [Bool.or_eq_true, Bool.and_eq_true, decide_eq_true_eq]
  omega
theorem any_take (s : ByteArray) (i : Nat) (h : i < s.size) : (s.data.toList.take (i + 1)).any Gl.solid = ((s.data.toList.take i).any Gl.solid || Gl.solid s[i]) := by
  rw [take_snoc s i h, List.any_append]
  simp
set_option maxRecDepth 100000 in
set_option maxHeartbeats 4000000 in
theorem drawable_any (s : ByteArray) (w : World) (hs : s.size ≤ maxLen) : Calls Tryz.prog 24 #[.string s] w fun e w' => e = .returned (.bool (Gl.drawable s.data.toList)) ∧ Ext w w' := by
  have hs9 : s.size ≤ 9223372036854775807 := by unfold maxLen at hs; omega
  clear hs
  by_cases h0 : s.size = 0
  · have hr : Gl.drawable s.data.toList = false := by unfold Gl.drawable; rw [len_data, h0]; rfl
    rw [hr]
    have z : ((s.size : Int) == 0) = true := by rw [h0]; rfl
    clear hr h0
    go_enter Tryz.func24, Tryz.ntmps24
    go_wp2
    go_ret
    exact ⟨rfl, (by repeat (first | exact Ext.refl _ | assumption | refine Ext.alloc ?_ _ | refine Ext.drew ?_ | refine Ext.trans ?_ (by assumption)))⟩
  have z : ((s.size : Int) == 0) = false := by rw [beq_eq_false_iff_ne]; omega
  by_cases h20 : 20 < s.size
  · have hr : Gl.drawable s.data.toList = false := by
      unfold Gl.drawable
      rw [len_data, show decide (s.size ≤ 20) = false from decide_eq_false (by omega)]
      simp
    rw [hr]
    have z2 : decide ((20 : Int) < (s.size : Int)) = true := decide_eq_true (by omega)
    clear hr
    go_enter Tryz.func24, Tryz.ntmps24
    go_wp2
    go_ret
    exact ⟨rfl, (by repeat (first | exact Ext.refl _ | assumption | refine Ext.alloc ?_ _ | refine Ext.drew ?_ | refine Ext.trans ?_ (by assumption)))⟩
  have z2 : decide ((20 : Int) < (s.size : Int)) = false := decide_eq_false (by omega)
  have hp : 0 < s.size := by omega
  have hpI : (0 : Int) < (s.size : Int) := by omega
  obtain ⟨n, hn⟩ : ∃ n, s.size - 1 = n := ⟨_, rfl⟩
  have hnl : n < s.size := by omega
  have eN : (s.size : Int) - 1 = (n : Int) := by omega
  have hnI : (n : Int) < (s.size : Int) := by omega
  have g0 : s.data.toList.getD 0 32 = s[0] := by rw [List.getD_eq_getElem?_getD, List.getElem?_eq_getElem (by rw [len_data]; exact hp)]; rfl
  have gn : s.data.toList.getD (s.data.toList.length - 1) 32 = s[n] := by rw [len_data, hn, List.getD_eq_getElem?_getD, List.getElem?_eq_getElem (by rw [len_data]; exact hnl)]; rfl
  by_cases hb0 : s[0] = 32
  · have hr : Gl.drawable s.data.toList = false := by unfold Gl.drawable; rw [g0, hb0]; simp
    rw [hr]
    have y0 : ((s[0].toNat : Int) == 32) = true := by rw [hb0]; rfl
    clear hr g0 gn hb0 hn h0 h20
    go_enter Tryz.func24, Tryz.ntmps24
    go_wp2
    go_ret
    exact ⟨rfl, (by repeat (first | exact Ext.refl _ | assumption | refine Ext.alloc ?_ _ | refine Ext.drew ?_ | refine Ext.trans ?_ (by assumption)))⟩
  have y0 : ((s[0].toNat : Int) == 32) = false := by
    rw [beq_eq_false_iff_ne]
    intro h
    exact hb0 (UInt8.toNat_inj.1 (by show s[0].toNat = 32; omega))
  by_cases hb1 : s[n] = 32
  · have hr : Gl.drawable s.data.toList = false := by unfold Gl.drawable; rw [gn, hb1]; simp
    rw [hr]
    have y1 : ((s[n].toNat : Int) == 32) = true := by rw [hb1]; rfl
    clear hr g0 gn hb0 hb1 hn h0 h20
    go_enter Tryz.func24, Tryz.ntmps24
    go_wp2
    go_ret
    exact ⟨rfl, (by repeat (first | exact Ext.refl _ | assumption | refine Ext.alloc ?_ _ | refine Ext.drew ?_ | refine Ext.trans ?_ (by assumption)))⟩
  have y1 : ((s[n].toNat : Int) == 32) = false := by
    rw [beq_eq_false_iff_ne]
    intro h
    exact hb1 (UInt8.toNat_inj.1 (by show s[n].toNat = 32; omega))
  have HR : Hid (Gl.drawable s.data.toList = (s.data.toList.all (fun c => Gl.chars.contains c) && s.data.toList.any Gl.solid)) := Lib.hid (by
    unfold Gl.drawable
    rw [g0, gn, len_data, decide_eq_true hp, decide_eq_true (show s.size ≤ 20 by omega)]
    have e0 : (s[0] != 32) = true := by simpa using hb0
    have e1 : (s[n] != 32) = true := by simpa using hb1
    rw [e0, e1]
    simp)
  have HCH := Lib.hid xchars_any
  have HHA := Lib.hid has_any
  have HAT := Lib.hid (any_take s)
  clear g0 gn hb0 hb1 hn h0 h20
  go_enter Tryz.func24, Tryz.ntmps24
  go_wp2_with fail
  refine (HCH.out _).mono ?_
  rintro e w1 ⟨vc, rfl, hownc, hx1⟩
  have HSC := Lib.hid hownc.sl
  have HX1 := Lib.hid hx1
  clear hownc hx1 y0 y1 eN
  go_wp2
  go_loopw [4, 5] (fun v4 v5 wr => ∃ (i : Nat), i ≤ s.size ∧ v5 = .int .i64 (i : Int) ∧ v4 = .bool ((s.data.toList.take i).any Gl.solid) ∧ Hid (∀ c ∈ s.data.toList.take i, c ∈ Gl.chars) ∧ Hid (Ext w1 wr)) (fun _ v5 _ => s.size - (intOf v5).toNat)
  case atStart => exact ⟨0, Nat.zero_le _, rfl, rfl, Lib.hid (fun c hc => by simp at hc), Lib.hid (Ext.refl _)⟩
  case round =>
    obtain ⟨i, hi, rfl, rfl, HIN, HX⟩ := hrel
    by_cases hlt : i < s.size
    · have hltI : (i : Int) < (s.size : Int) := by omega
      have hat := HAT.out i hlt
      have htk := take_snoc s i hlt
      have HHI := Lib.hid (HHA.out vc Gl.chars s[i] wr (HSC.out.ext HX.out) (by decide))
      have hsolid := Gl.solidI s[i]
      have hmem : s[i] ∈ s.data.toList := mem_at s i hlt
      have HTK := Lib.hid htk
      have HMM := Lib.hid hmem
      clear htk hmem
      cases hcc : Gl.chars.contains s[i] with
      | false =>
        rw [hcc] at HHI
        have HF : Hid (Gl.drawable s.data.toList = false) := Lib.hid (by
          rw [HR.out]
          have : s.data.toList.all (fun c => Gl.chars.contains c) = false := by
            rw [List.all_eq_false]
            exact ⟨s[i], HMM.out, by rw [hcc]; exact Bool.noConfusion⟩
          rw [this]; rfl)
        have HXF := Lib.hid (HX1.out.trans HX.out)
        clear hat hsolid hcc
        go_wp2_with fail
        refine HHI.out.mono ?_
        rintro e w2 ⟨rfl, rfl⟩
        go_wp2
        go_ret
        exact ⟨by rw [HF.out]; rfl, HXF.out⟩
      | true =>
        rw [hcc] at HHI
        have HIN2 : Hid (∀ c ∈ s.data.toList.take (i + 1), c ∈ Gl.chars) := Lib.hid (fun c hc => by
          rw [HTK.out] at hc
          rcases List.mem_append.1 hc with hc | hc
          · exact HIN.out c hc
          · rw [List.mem_singleton.1 hc]; simpa using hcc)
        clear hcc
        obtain ⟨o, ho⟩ : ∃ o, (s.data.toList.take i).any Gl.solid = o := ⟨_, rfl⟩
        rw [ho] at hat ⊢
        clear ho
        have hc0 : 0 ≤ (s[i].toNat : Int) := by omega
        have hc1 : (s[i].toNat : Int) ≤ 255 := by have := UInt8.toNat_lt s[i]; omega
        rw [hsolid] at hat
        have HAT2 := Lib.hid hat
        clear hat hsolid
        have key : ∀ b : Bool, b = (o || ((decide (48 ≤ (s[i].toNat : Int)) && decide ((s[i].toNat : Int) ≤ 57)) || (decide (65 ≤ (s[i].toNat : Int)) && decide ((s[i].toNat : Int) ≤ 90)))) → (s.data.toList.take (i + 1)).any Gl.solid = b := fun b hb => by rw [HAT2.out, hb]
        have KEY := Lib.hid key
        clear key HAT2
        cases o with
        | true =>
          go_wp2_with fail
          refine HHI.out.mono ?_
          rintro e w2 ⟨rfl, rfl⟩
          go_wp2
          go_roundw
          case rel => exact ⟨i + 1, hlt, by go_num, by rw [KEY.out true (by simp)], HIN2, HX⟩
          case measure => simp [intOf]; omega
        | false =>
          by_cases c1 : 48 ≤ (s[i].toNat : Int)
          · by_cases c2 : (s[i].toNat : Int) ≤ 57
            · have d1 : decide (48 ≤ (s[i].toNat : Int)) = true := decide_eq_true c1
              have d2 : decide ((s[i].toNat : Int) ≤ 57) = true := decide_eq_true c2
              go_wp2_with fail
              refine HHI.out.mono ?_
              rintro e w2 ⟨rfl, rfl⟩
              go_wp2
              go_roundw
              case rel => exact ⟨i + 1, hlt, by go_num, by rw [KEY.out true (by simp [d1, d2])], HIN2, HX⟩
              case measure => simp [intOf]; omega
            · by_cases c3 : 65 ≤ (s[i].toNat : Int)
              · by_cases c4 : (s[i].toNat : Int) ≤ 90
                · have d1 : decide (48 ≤ (s[i].toNat : Int)) = true := decide_eq_true c1
                  have d2 : decide ((s[i].toNat : Int) ≤ 57) = false := decide_eq_false c2
                  have d3 : decide (65 ≤ (s[i].toNat : Int)) = true := decide_eq_true c3
                  have d4 : decide ((s[i].toNat : Int) ≤ 90) = true := decide_eq_true c4
                  go_wp2_with fail
                  refine HHI.out.mono ?_
                  rintro e w2 ⟨rfl, rfl⟩
                  go_wp2
                  go_roundw
                  case rel => exact ⟨i + 1, hlt, by go_num, by rw [KEY.out true (by simp [d3, d4])], HIN2, HX⟩
                  case measure => simp [intOf]; omega
                · have d1 : decide (48 ≤ (s[i].toNat : Int)) = true := decide_eq_true c1
                  have d2 : decide ((s[i].toNat : Int) ≤ 57) = false := decide_eq_false c2
                  have d3 : decide (65 ≤ (s[i].toNat : Int)) = true := decide_eq_true c3
                  have d4 : decide ((s[i].toNat : Int) ≤ 90) = false := decide_eq_false c4
                  go_wp2_with fail
                  refine HHI.out.mono ?_
                  rintro e w2 ⟨rfl, rfl⟩
                  go_wp2
                  go_roundw
                  case rel => exact ⟨i + 1, hlt, by go_num, by rw [KEY.out false (by simp [d2, d4])], HIN2, HX⟩
                  case measure => simp [intOf]; omega
              · have d1 : decide (48 ≤ (s[i].toNat : Int)) = true := decide_eq_true c1
                have d2 : decide ((s[i].toNat : Int) ≤ 57) = false := decide_eq_false c2
                have d3 : decide (65 ≤ (s[i].toNat : Int)) = false := decide_eq_false c3
                go_wp2_with fail
                refine HHI.out.mono ?_
                rintro e w2 ⟨rfl, rfl⟩
                go_wp2
                go_roundw
                case rel => exact ⟨i + 1, hlt, by go_num, by rw [KEY.out false (by simp [d2, d3])], HIN2, HX⟩
                case measure => simp [intOf]; omega
          · have c3 : ¬ 65 ≤ (s[i].toNat : Int) := by omega
            have d1 : decide (48 ≤ (s[i].toNat : Int)) = false := decide_eq_false c1
            have d3 : decide (65 ≤ (s[i].toNat : Int)) = false := decide_eq_false c3
            go_wp2_with fail
            refine HHI.out.mono ?_
            rintro e w2 ⟨rfl, rfl⟩
            go_wp2
            go_roundw
            case rel => exact ⟨i + 1, hlt, by go_num, by rw [KEY.out false (by simp [d1, d3])], HIN2, HX⟩
            case measure => simp [intOf]; omega
    · have eis : s.size = i := by omega
      have HALL : Hid (s.data.toList.take i = s.data.toList) := Lib.hid (by rw [← eis, ← len_data, List.take_length])
      have HF : Hid (Gl.drawable s.data.toList = (s.data.toList.take i).any Gl.solid) := Lib.hid (by
        have h1 : s.data.toList.all (fun c => Gl.chars.contains c) = true := by
          rw [List.all_eq_true]
          intro c hc
          have := HIN.out c (by rw [HALL.out]; exact hc)
          simpa using this
        rw [HR.out, h1, HALL.out, Bool.true_and])
      have HXF := Lib.hid (HX1.out.trans HX.out)
      have hge : ¬ ((i : Int) < (s.size : Int)) := by omega
      clear hlt hi eis
      generalize (s.data.toList.take i).any Gl.solid = o at *
      go_wp2
      go_ret
      exact ⟨by rw [HF.out]; rfl, HXF.out⟩
end Go.Proofs.YtamkgbodifjlaaaGreatDoor
