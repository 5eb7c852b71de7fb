/-
  Chapter 51: digits with check digits in values: the reference.
  No condition.
-/
import Derived.Test.YtkpfehfcgpapiaaGreatDoorFmX9
import Derived.Test.YtkpfehfcgpapiaaGreatDoorCdR5
namespace Go.Proofs.YtkpfehfcgpapiaaGreatDoor
set_option linter.unusedVariables false
open Go.RowKit

set_option maxRecDepth 100000 in
set_option maxHeartbeats 4000000 in
theorem xdigits_any (nm : ByteArray) (op mn mx ck : Int) (a : Option Addr) (n c : Nat) (opt : Bool) (l : List Fm.S) (s : ByteArray) (hs : s.size ≤ 9223372036854775807) (w : World) :
    Calls Tryz.prog 55 #[.agg #[.string nm, .int .i64 op, .int .i64 mn, .int .i64 mx, .int .i64 ck, .slice a n c, .bool opt], .string s] w fun e w' => e = .returned (.int .i64 (Fm.digV ⟨nm.data.toList, op, mn, mx, ck, l, opt⟩ s.data.toList)) ∧ Ext w w' := by
  have HR := Lib.hid (Fm.digV.eq_1 ⟨nm.data.toList, op, mn, mx, ck, l, opt⟩ s.data.toList)
  dsimp only at HR
  rw [len_data] at HR
  have HCA := Lib.hid (Fm.core_all ⟨nm.data.toList, op, mn, mx, ck, l, opt⟩ s.data.toList)
  generalize Fm.digV ⟨nm.data.toList, op, mn, mx, ck, l, opt⟩ s.data.toList = res at *
  generalize (Fm.core ⟨nm.data.toList, op, mn, mx, ck, l, opt⟩ s.data.toList).all Fm.dg = cb at *
  obtain ⟨V, hV⟩ : ∃ V, V = w.alloc (.cells #[.string nm, .int .i64 op, .int .i64 mn, .int .i64 mx, .int .i64 ck, .slice a n c, .bool opt] 39) := ⟨_, rfl⟩
  have hxV : Ext w V := by rw [hV]; exact (Ext.refl w).alloc _
  have rV : V.heap[w.heap.size]? = some (.cells #[.string nm, .int .i64 op, .int .i64 mn, .int .i64 mx, .int .i64 ck, .slice a n c, .bool opt] 39 (0, 0)) := by rw [hV]; exact heap_alloc_new w _
  have k2 : V.cell? ⟨w.heap.size, 2, none⟩ = some (.int .i64 mn) := cell_at rV rfl
  have k3 : V.cell? ⟨w.heap.size, 3, none⟩ = some (.int .i64 mx) := cell_at rV rfl
  have k4 : V.cell? ⟨w.heap.size, 4, none⟩ = some (.int .i64 ck) := cell_at rV rfl
  have HVE := Lib.hid hV
  have HXV := Lib.hid hxV
  clear hV hxV rV
  by_cases hl1 : (s.size : Int) < mn
  · rw [if_pos (.inl hl1)] at HR
    go_enter Tryz.func55, Tryz.ntmps55
    go_wp2_with fail
    go_ret
    exact ⟨ret_int HR.out.symm, (by repeat (first | exact Ext.refl _ | assumption | refine Ext.alloc ?_ _ | refine Ext.drew ?_ | refine Ext.trans ?_ (by assumption)))⟩
  by_cases hl2 : mx < (s.size : Int)
  · rw [if_pos (.inr hl2)] at HR
    go_enter Tryz.func55, Tryz.ntmps55
    go_wp2_with fail
    go_ret
    exact ⟨ret_int HR.out.symm, (by repeat (first | exact Ext.refl _ | assumption | refine Ext.alloc ?_ _ | refine Ext.drew ?_ | refine Ext.trans ?_ (by assumption)))⟩
  rw [if_neg (by omega)] at HR
  go_enter Tryz.func55, Tryz.ntmps55
  go_wp2_with fail
  rw [← HVE.out]
  go_loopw [5] (fun t wr => ∃ k : Nat, k ≤ s.size ∧ t = .int .i64 (k : Int) ∧ Hid (∀ (i : Nat) (h : i < s.data.toList.length), i < k → Fm.dg s.data.toList[i] = true ∨ i + 1 = s.data.toList.length ∧ s.data.toList[i] = 88 ∧ (ck = 3 ∨ ck = 8)) ∧ Hid (Ext V wr)) (fun t _ => s.size - (intOf t).toNat)
  case atStart => exact ⟨0, Nat.zero_le _, rfl, Lib.hid (fun i h hi => by omega), Lib.hid (Ext.refl _)⟩
  case round =>
    obtain ⟨k, hk, rfl, HV, HX⟩ := hrel
    have hb : w.heap.size < V.heap.size := World.block_lt_of_cell? _ _ k4
    have hxw : Ext w wr := HXV.out.trans HX.out
    have q4 : wr.cell? ⟨w.heap.size, 4, none⟩ = some (.int .i64 ck) := (HX.out.cell (p := ⟨w.heap.size, 4, none⟩) hb).trans k4
    by_cases hlt : k < s.size
    · have HD := Lib.hid (fun w' => xdigit_any s[k] w')
      obtain ⟨x, hx⟩ : ∃ x : Nat, s[k].toNat = x := ⟨_, rfl⟩
      obtain ⟨p, hp⟩ : ∃ p : Nat, p = s.size - 1 := ⟨_, rfl⟩
      have hpI : (s.size : Int) - 1 = (p : Int) := by omega
      have hltI : (k : Int) < (s.size : Int) := by omega
      rw [hx] at HD
      clear hp
      by_cases hlast : k + 1 = s.size
      rotate_left
      · have zl : ((k : Int) == (p : Int)) = false := beq_eq_false_iff_ne.2 (by omega)
        cases hd : Fm.dg s[k] with
        | true =>
          have HV2 : Hid (∀ (i : Nat) (h : i < s.data.toList.length), i < k + 1 → Fm.dg s.data.toList[i] = true ∨ i + 1 = s.data.toList.length ∧ s.data.toList[i] = 88 ∧ (ck = 3 ∨ ck = 8)) := Lib.hid (fun i h hi => by
            by_cases hik : i = k
            · subst hik
              exact .inl hd
            · exact HV.out i h (by omega))
          rw [hd] at HD
          clear hd hlast
          go_wp2_with fail
          refine Calls.mono (HD.out _) ?_
          rintro e w1 ⟨rfl, rfl⟩
          go_wp2_with fail
          go_roundw
          case rel => exact ⟨k + 1, by omega, by go_num, HV2, HX⟩
          case measure => (simp [intOf]; try omega)
        | false =>
          have HF : Hid (res = 6) := Lib.hid (by
            rw [HR.out, if_neg]
            intro hc
            have h1 := HCA.out.1 hc k (by rw [len_data]; exact hlt)
            rcases h1 with h1 | ⟨h1, h2, h3⟩
            · have e : Fm.dg s.data.toList[k] = Fm.dg s[k] := rfl
              rw [e, hd] at h1; cases h1
            · rw [len_data] at h1; exact hlast h1)
          rw [hd] at HD
          clear hd hlast
          go_wp2_with fail
          refine Calls.mono (HD.out _) ?_
          rintro e w1 ⟨rfl, rfl⟩
          go_wp2_with fail
          go_ret
          exact ⟨ret_int HF.out.symm, hxw⟩
      obtain rfl : k = p := by omega
      by_cases h88 : x = 88
      rotate_left
      · have z88 : ((x : Int) == 88) = false := beq_eq_false_iff_ne.2 (by omega)
        cases hd : Fm.dg s[k] with
        | true =>
          have HV2 : Hid (∀ (i : Nat) (h : i < s.data.toList.length), i < k + 1 → Fm.dg s.data.toList[i] = true ∨ i + 1 = s.data.toList.length ∧ s.data.toList[i] = 88 ∧ (ck = 3 ∨ ck = 8)) := Lib.hid (fun i h hi => by
            by_cases hik : i = k
            · subst hik
              exact .inl hd
            · exact HV.out i h (by omega))
          rw [hd] at HD
          clear hd hlast h88
          go_wp2_with fail
          refine Calls.mono (HD.out _) ?_
          rintro e w1 ⟨rfl, rfl⟩
          go_wp2_with fail
          go_roundw
          case rel => exact ⟨k + 1, by omega, by go_num, HV2, HX⟩
          case measure => (simp [intOf]; try omega)
        | false =>
          have HF : Hid (res = 6) := Lib.hid (by
            rw [HR.out, if_neg]
            intro hc
            have h1 := HCA.out.1 hc k (by rw [len_data]; exact hlt)
            rcases h1 with h1 | ⟨h1, h2, h3⟩
            · have e : Fm.dg s.data.toList[k] = Fm.dg s[k] := rfl
              rw [e, hd] at h1; cases h1
            · have e : s.data.toList[k] = s[k] := rfl; rw [e] at h2; exact h88 (by rw [← hx, h2]; rfl))
          rw [hd] at HD
          clear hd hlast h88
          go_wp2_with fail
          refine Calls.mono (HD.out _) ?_
          rintro e w1 ⟨rfl, rfl⟩
          go_wp2_with fail
          go_ret
          exact ⟨ret_int HF.out.symm, hxw⟩
      have z88 : ((x : Int) == 88) = true := beq_iff_eq.2 (by omega)
      have hs88 : s[k] = 88 := UInt8.toNat_inj.1 (by rw [hx, h88]; rfl)
      have hd : Fm.dg s[k] = false := by rw [hs88]; rfl
      by_cases h3 : ck = 3
      · subst h3
        have HV2 : Hid (∀ (i : Nat) (h : i < s.data.toList.length), i < k + 1 → Fm.dg s.data.toList[i] = true ∨ i + 1 = s.data.toList.length ∧ s.data.toList[i] = 88 ∧ ((3 : Int) = 3 ∨ (3 : Int) = 8)) := Lib.hid (fun i h hi => by
          by_cases hik : i = k
          · subst hik
            exact .inr ⟨by rw [len_data]; exact hlast, hs88, .inl rfl⟩
          · exact HV.out i h (by omega))
        rw [hd] at HD
        clear hd hlast h88 hs88
        go_wp2_with fail
        refine Calls.mono (HD.out _) ?_
        rintro e w1 ⟨rfl, rfl⟩
        go_wp2_with fail
        go_roundw
        case rel => exact ⟨k + 1, by omega, by go_num, HV2, HX⟩
        case measure => (simp [intOf]; try omega)
      have z3 : (ck == 3) = false := beq_eq_false_iff_ne.2 h3
      by_cases h8 : ck = 8
      · subst h8
        have HV2 : Hid (∀ (i : Nat) (h : i < s.data.toList.length), i < k + 1 → Fm.dg s.data.toList[i] = true ∨ i + 1 = s.data.toList.length ∧ s.data.toList[i] = 88 ∧ ((8 : Int) = 3 ∨ (8 : Int) = 8)) := Lib.hid (fun i h hi => by
          by_cases hik : i = k
          · subst hik
            exact .inr ⟨by rw [len_data]; exact hlast, hs88, .inr rfl⟩
          · exact HV.out i h (by omega))
        rw [hd] at HD
        clear hd hlast h88 hs88
        go_wp2_with fail
        refine Calls.mono (HD.out _) ?_
        rintro e w1 ⟨rfl, rfl⟩
        go_wp2_with fail
        go_roundw
        case rel => exact ⟨k + 1, by omega, by go_num, HV2, HX⟩
        case measure => (simp [intOf]; try omega)
      have z8 : (ck == 8) = false := beq_eq_false_iff_ne.2 h8
      have HF : Hid (res = 6) := Lib.hid (by
        rw [HR.out, if_neg]
        intro hc
        have h1 := HCA.out.1 hc k (by rw [len_data]; exact hlt)
        rcases h1 with h1 | ⟨h1, h2, h9⟩
        · have e : Fm.dg s.data.toList[k] = Fm.dg s[k] := rfl
          rw [e, hd] at h1; cases h1
        · exact h9.elim (fun e => absurd e (by assumption)) (fun e => absurd e (by assumption)))
      rw [hd] at HD
      clear hd hlast h88 hs88
      go_wp2_with fail
      refine Calls.mono (HD.out _) ?_
      rintro e w1 ⟨rfl, rfl⟩
      go_wp2_with fail
      go_ret
      exact ⟨ret_int HF.out.symm, hxw⟩
    · obtain rfl : k = s.size := by omega
      have hcb : cb = true := HCA.out.2 (fun i h => HV.out i h (by rw [len_data] at h; exact h))
      rw [hcb, if_pos rfl] at HR
      have HVR := Lib.hid (rverify_any ck s wr hs)
      clear hcb
      by_cases hc0 : ck = 0
      · have z0 : (ck == 0) = true := beq_iff_eq.2 hc0
        rw [if_pos hc0] at HR
        clear hc0
        go_wp2_with fail
        go_ret
        exact ⟨ret_int HR.out.symm, hxw⟩
      · have z0 : (ck == 0) = false := beq_eq_false_iff_ne.2 hc0
        rw [if_neg hc0] at HR
        clear hc0
        go_wp2_with fail
        refine Calls.mono HVR.out ?_
        rintro e w1 ⟨rfl, hx1⟩
        go_wp2_with fail
        go_ret
        exact ⟨ret_int HR.out.symm, hxw.trans hx1⟩
end Go.Proofs.YtkpfehfcgpapiaaGreatDoor
