/-
  Chapter 51: the value of a number: the reference.
  No condition.
-/
import Derived.Test.YtkpfehfcgpapiaaGreatDoorFmX8
namespace Go.Proofs.YtkpfehfcgpapiaaGreatDoor
set_option linter.unusedVariables false
open Go.RowKit

set_option maxRecDepth 100000 in
set_option maxHeartbeats 2000000 in
theorem xinteger_pos (s : ByteArray) (hs : s.size ≤ 9223372036854775807) (h0 : 0 < s.size) (hd : s.data.toList.all Fm.dg = true) (w : World) : Calls Tryz.prog 58 #[.string s] w fun e w' => e = .returned (.int .i64 ((s.data.toList.foldl Fm.sat 0 : Nat) : Int)) ∧ Ext w w' := by
  obtain ⟨res, hres⟩ : ∃ res, res = s.data.toList.foldl Fm.sat 0 := ⟨_, rfl⟩
  rw [← hres]
  have HR := Lib.hid hres
  have HDG : Hid (∀ (k : Nat) (h : k < s.size), 48 ≤ s[k].toNat ∧ s[k].toNat ≤ 57) := Lib.hid (fun k h => by
    have h1 := List.all_eq_true.1 hd s[k] (List.mem_of_getElem? (by rw [List.getElem?_eq_getElem (by rw [len_data]; exact h)]; rfl))
    unfold Fm.dg at h1
    simpa using h1)
  have h0I : (0 : Int) < (s.size : Int) := by omega
  obtain ⟨y, hy⟩ : ∃ y : Nat, s[0].toNat = y := ⟨_, rfl⟩
  have hyd := HDG.out 0 h0
  have z45 : ((y : Int) == 45) = false := beq_eq_false_iff_ne.2 (by omega)
  clear hres hd hyd
  go_enter Tryz.func58, Tryz.ntmps58
  go_wp2_with fail
  go_loop [3, 4] (fun n i => ∃ (k m : Nat), k ≤ s.size ∧ i = .int .i64 (k : Int) ∧ n = .int .i64 (m : Int) ∧ m ≤ 2000000000000000 ∧ Hid (m = (s.data.toList.take k).foldl Fm.sat 0)) (fun _ i => s.size - (intOf i).toNat)
  case atStart => exact ⟨0, 0, Nat.zero_le _, rfl, rfl, by decide, Lib.hid rfl⟩
  case round =>
    obtain ⟨k, m, hk, rfl, rfl, hm, HM⟩ := hrel
    by_cases hlt : k < s.size
    · have hts := take_snoc s k hlt
      have hltI : (k : Int) < (s.size : Int) := by omega
      have hdk := HDG.out k hlt
      obtain ⟨x, hx⟩ : ∃ x : Nat, s[k].toNat = x := ⟨_, rfl⟩
      rw [hx] at hdk
      obtain ⟨d, hdx⟩ : ∃ d : Nat, d = x - 48 := ⟨_, rfl⟩
      have hdI : (x : Int) - 48 = (d : Int) := by omega
      have hd9 : d ≤ 9 := by omega
      obtain ⟨p, hp⟩ : ∃ p : Nat, p = 10 * m := ⟨_, rfl⟩
      have hpI : 10 * (m : Int) = (p : Int) := by omega
      obtain ⟨g, hg⟩ : ∃ g : Nat, g = p + d := ⟨_, rfl⟩
      have hgI : (p : Int) + (d : Int) = (g : Int) := by omega
      have hgb : g ≤ 20000000000000009 := by omega
      have hpb : p ≤ 20000000000000000 := by omega
      have HM2 : Hid (min 2000000000000000 g = (s.data.toList.take (k + 1)).foldl Fm.sat 0) := Lib.hid (by rw [hts, List.foldl_append, ← HM.out]; show _ = min 2000000000000000 (10 * m + (s[k].toNat - 48)); rw [hx, hg, hp, hdx])
      clear hts hdk hdx hp hg
      go_wp2_with fail
      exact ⟨⟨k + 1, min 2000000000000000 g, by omega, by go_num, by rw [show ((min 2000000000000000 g : Nat) : Int) = min 2000000000000000 (g : Int) by omega], by omega, HM2⟩, by simp [intOf]; omega⟩
    · obtain rfl : k = s.size := by omega
      have hfin : m = res := by rw [HM.out, HR.out, List.take_of_length_le (by rw [len_data]; exact Nat.le_refl _)]
      have HFIN := Lib.hid hfin
      clear hfin
      go_wp2_with fail
      go_ret
      exact ⟨ret_int (by rw [HFIN.out]), (by repeat (first | exact Ext.refl _ | assumption | refine Ext.alloc ?_ _ | refine Ext.drew ?_ | refine Ext.trans ?_ (by assumption)))⟩
set_option maxRecDepth 100000 in
set_option maxHeartbeats 2000000 in
theorem xinteger_any (s : ByteArray) (hs : s.size ≤ 9223372036854775807) (hw : Fm.written s.data.toList = true) (w : World) : Calls Tryz.prog 58 #[.string s] w fun e w' => e = .returned (.int .i64 (Fm.intX s.data.toList)) ∧ Ext w w' := by
  have hw2 := hw
  unfold Fm.written at hw2
  simp only [Bool.and_eq_true, decide_eq_true_eq] at hw2
  obtain ⟨⟨hb0, hbd⟩, -⟩ := hw2
  cases hn : Fm.neg s.data.toList with
  | false =>
    have hb : Fm.body s.data.toList = s.data.toList := by unfold Fm.body; rw [hn]; rfl
    rw [hb] at hb0 hbd
    rw [len_data] at hb0
    have := xinteger_pos s hs hb0 hbd w
    rw [Fm.sat_nat] at this
    unfold Fm.intX
    rw [hn, hb]
    exact this
  | true =>
    have hb : Fm.body s.data.toList = s.data.toList.drop 1 := by unfold Fm.body; rw [hn, if_pos rfl]; cases s.data.toList <;> rfl
    obtain ⟨T, hT⟩ : ∃ T : ByteArray, s.extract 1 s.size = T := ⟨_, rfl⟩
    have hTl : T.data.toList = s.data.toList.drop 1 := by rw [← hT, cut_back]
    rw [hb, ← hTl] at hb0 hbd
    rw [len_data] at hb0
    have hTs : T.size = s.size - 1 := by rw [← len_data, hTl, List.length_drop, len_data]
    have HC := Lib.hid (xinteger_pos T (by omega) hb0 hbd w)
    rw [Fm.sat_nat] at HC
    obtain ⟨v, hv⟩ : ∃ v : Nat, v = min 2000000000000000 (Fm.natOf T.data.toList) := ⟨_, rfl⟩
    rw [← hv] at HC
    have hvb : v ≤ 2000000000000000 := by omega
    have hres : Fm.intX s.data.toList = -(v : Int) := by unfold Fm.intX; rw [hn, if_pos rfl, hb, ← hTl, hv]
    rw [hres]
    have h0 : 0 < s.size := by omega
    have h0I : (0 : Int) < (s.size : Int) := by omega
    have h1I2 : (1 : Int) ≤ (s.size : Int) := by omega
    have hh := head_at s h0
    have h45 : s.data.toList.headD 0 = 45 := by unfold Fm.neg at hn; exact beq_iff_eq.1 hn
    have z45 : ((s[0].toNat : Int) == 45) = true := by rw [← hh, h45]; rfl
    clear hres hv hTs hb0 hbd hTl hb hn hw hh h45
    go_enter Tryz.func58, Tryz.ntmps58
    go_wp2_with fail
    refine Calls.mono HC.out ?_
    rintro e w1 ⟨rfl, hx1⟩
    go_wp2_with fail
    go_ret
    exact ⟨ret_int (by omega), hx1⟩
end Go.Proofs.YtkpfehfcgpapiaaGreatDoor
