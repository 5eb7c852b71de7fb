/-
  Chapter 51: Value: the reference.
  No condition.
-/
import Derived.Test.YtkpfehfcgpapiaaGreatDoorFmXG
namespace Go.Proofs.YtkpfehfcgpapiaaGreatDoor
set_option linter.unusedVariables false
open Go.RowKit

set_option maxRecDepth 100000 in
set_option maxHeartbeats 2000000 in
theorem xvalue_any (nm : ByteArray) (op mn mx ck : Int) (a : Option Addr) (n c : Nat) (opt : Bool) (l : List Fm.S) (s : ByteArray) (hs : s.size ≤ 9223372036854775807) (w : World) (hl : StrsR w (.slice a n c) l) (hsh : Short Go.maxLen l) (hn : l.length ≤ Go.maxLen) :
    Calls Tryz.prog 23 #[.agg #[.string nm, .int .i64 op, .int .i64 mn, .int .i64 mx, .int .i64 ck, .slice a n c, .bool opt], .string s] w fun e w' => e = .returned (.int .i64 (Fm.value ⟨nm.data.toList, op, mn, mx, ck, l, opt⟩ s.data.toList)) ∧ Ext w w' := by
  have HR := Lib.hid (Fm.value.eq_1 ⟨nm.data.toList, op, mn, mx, ck, l, opt⟩ s.data.toList)
  dsimp only at HR
  rw [len_data] at HR
  generalize Fm.value ⟨nm.data.toList, op, mn, mx, ck, l, opt⟩ s.data.toList = res at *
  have HN := Lib.hid (fun w => xname_any nm w)
  cases hw : Fm.isName nm.data.toList with
  | false =>
    rw [hw] at HN HR
    have HF : Hid (res = 1) := Lib.hid (by rw [HR.out, if_pos (.inl rfl)])
    clear hw HR hl hsh hn
    go_enter Tryz.func23, Tryz.ntmps23
    go_wp2_with fail
    refine (HN.out _).mono ?_
    rintro e w1 ⟨rfl, rfl⟩
    go_wp2_with fail
    go_ret
    exact ⟨ret_int HF.out.symm, (by repeat (first | exact Ext.refl _ | assumption | refine Ext.alloc ?_ _ | refine Ext.drew ?_ | refine Ext.trans ?_ (by assumption)))⟩
  | true =>
  rw [hw] at HN HR
  clear hw
  have HM := Lib.hid (fun (w' : World) (hx : Ext w w') => xmembers_any nm op mn mx ck a n c opt l w' (hl.ext hx) hsh hn)
  by_cases hm : Fm.memE ⟨nm.data.toList, op, mn, mx, ck, l, opt⟩ = 0
  rotate_left
  · have HF : Hid (res = 1) := Lib.hid (by rw [HR.out, if_pos (.inr hm)])
    obtain ⟨z, hz⟩ : ∃ z, Fm.memE ⟨nm.data.toList, op, mn, mx, ck, l, opt⟩ = z := ⟨_, rfl⟩
    rw [hz] at HM hm
    have z0 : (z == 0) = false := beq_eq_false_iff_ne.2 hm
    have z1 : (z != 0) = true := bne_iff_ne.2 hm
    clear hz hm HR hl hsh hn
    go_enter Tryz.func23, Tryz.ntmps23
    go_wp2_with fail
    refine (HN.out _).mono ?_
    rintro e w1 ⟨rfl, rfl⟩
    go_wp2_with fail
    refine (HM.out _ (by repeat (first | exact Ext.refl _ | assumption | refine Ext.alloc ?_ _ | refine Ext.drew ?_ | refine Ext.trans ?_ (by assumption)))).mono ?_
    rintro e w2 ⟨rfl, hx2⟩
    go_wp2_with fail
    go_ret
    exact ⟨ret_int HF.out.symm, (by repeat (first | exact Ext.refl _ | assumption | refine Ext.alloc ?_ _ | refine Ext.drew ?_ | refine Ext.trans ?_ (by assumption)))⟩
  rw [if_neg (fun h => h.elim Bool.noConfusion (fun h => h hm))] at HR
  have hmem := Lib.hid hm
  rw [hm] at HM
  clear hm
  have HOP : Hid (op = 1 ∨ op = 3 ∨ op = 5 ∨ op = 4 ∨ op = 2) := Lib.hid (by
    have := hmem.out
    unfold Fm.memE at this
    dsimp only at this
    by_cases h : op < 1 ∨ 5 < op
    · rw [if_pos h] at this; cases this
    · omega)
  have HK : Hid (∀ w2, Ext (w.alloc (.cells #[.string nm, .int .i64 op, .int .i64 mn, .int .i64 mx, .int .i64 ck, .slice a n c, .bool opt] 39)) w2 → w2.cell? ⟨w.heap.size, 0, none⟩ = some (.string nm) ∧ w2.cell? ⟨w.heap.size, 1, none⟩ = some (.int .i64 op) ∧ w2.cell? ⟨w.heap.size, 2, none⟩ = some (.int .i64 mn) ∧ w2.cell? ⟨w.heap.size, 3, none⟩ = some (.int .i64 mx) ∧ w2.cell? ⟨w.heap.size, 4, none⟩ = some (.int .i64 ck) ∧ w2.cell? ⟨w.heap.size, 5, none⟩ = some (.slice a n c) ∧ w2.cell? ⟨w.heap.size, 6, none⟩ = some (.bool opt)) := Lib.hid fun w2 h => kept7 h
  have HL := Lib.hid hl
  have HNL := Lib.hid hn
  clear hl hsh hn
  have hem := empty_is (rfl : s.data.toList = s.data.toList)
  rw [len_data] at hem
  by_cases h0 : s.size = 0
  · rw [decide_eq_true h0] at hem
    rw [if_pos h0] at HR
    clear h0
    cases opt with
    | true =>
      rw [if_pos (.inl rfl)] at HR
      go_enter Tryz.func23, Tryz.ntmps23
      go_wp2_with fail
      refine (HN.out _).mono ?_
      rintro e w1 ⟨rfl, rfl⟩
      go_wp2_with fail
      refine (HM.out _ (by repeat (first | exact Ext.refl _ | assumption | refine Ext.alloc ?_ _ | refine Ext.drew ?_ | refine Ext.trans ?_ (by assumption)))).mono ?_
      rintro e w2 ⟨rfl, hx2⟩
      obtain ⟨m0, m1, m2, m3, m4, m5, m6⟩ := HK.out _ hx2
      go_wp2_with fail
      go_ret
      exact ⟨ret_int HR.out.symm, (by repeat (first | exact Ext.refl _ | assumption | refine Ext.alloc ?_ _ | refine Ext.drew ?_ | refine Ext.trans ?_ (by assumption)))⟩
    | false =>
      by_cases h3 : op = 3
      rotate_left
      · have o3 : (op == 3) = false := beq_eq_false_iff_ne.2 h3
        rw [if_neg (fun h => h.elim Bool.noConfusion (fun h => h3 h.1))] at HR
        clear h3
        go_enter Tryz.func23, Tryz.ntmps23
        go_wp2_with fail
        refine (HN.out _).mono ?_
        rintro e w1 ⟨rfl, rfl⟩
        go_wp2_with fail
        refine (HM.out _ (by repeat (first | exact Ext.refl _ | assumption | refine Ext.alloc ?_ _ | refine Ext.drew ?_ | refine Ext.trans ?_ (by assumption)))).mono ?_
        rintro e w2 ⟨rfl, hx2⟩
        obtain ⟨m0, m1, m2, m3, m4, m5, m6⟩ := HK.out _ hx2
        go_wp2_with fail
        go_ret
        exact ⟨ret_int HR.out.symm, (by repeat (first | exact Ext.refl _ | assumption | refine Ext.alloc ?_ _ | refine Ext.drew ?_ | refine Ext.trans ?_ (by assumption)))⟩
      subst h3
      by_cases h3 : mn = 0
      rotate_left
      · have o3 : (mn == 0) = false := beq_eq_false_iff_ne.2 h3
        rw [if_neg (fun h => h.elim Bool.noConfusion (fun h => h3 h.2))] at HR
        clear h3
        go_enter Tryz.func23, Tryz.ntmps23
        go_wp2_with fail
        refine (HN.out _).mono ?_
        rintro e w1 ⟨rfl, rfl⟩
        go_wp2_with fail
        refine (HM.out _ (by repeat (first | exact Ext.refl _ | assumption | refine Ext.alloc ?_ _ | refine Ext.drew ?_ | refine Ext.trans ?_ (by assumption)))).mono ?_
        rintro e w2 ⟨rfl, hx2⟩
        obtain ⟨m0, m1, m2, m3, m4, m5, m6⟩ := HK.out _ hx2
        go_wp2_with fail
        go_ret
        exact ⟨ret_int HR.out.symm, (by repeat (first | exact Ext.refl _ | assumption | refine Ext.alloc ?_ _ | refine Ext.drew ?_ | refine Ext.trans ?_ (by assumption)))⟩
      subst h3
      rw [if_pos (.inr ⟨rfl, rfl⟩)] at HR
      go_enter Tryz.func23, Tryz.ntmps23
      go_wp2_with fail
      refine (HN.out _).mono ?_
      rintro e w1 ⟨rfl, rfl⟩
      go_wp2_with fail
      refine (HM.out _ (by repeat (first | exact Ext.refl _ | assumption | refine Ext.alloc ?_ _ | refine Ext.drew ?_ | refine Ext.trans ?_ (by assumption)))).mono ?_
      rintro e w2 ⟨rfl, hx2⟩
      obtain ⟨m0, m1, m2, m3, m4, m5, m6⟩ := HK.out _ hx2
      go_wp2_with fail
      go_ret
      exact ⟨ret_int HR.out.symm, (by repeat (first | exact Ext.refl _ | assumption | refine Ext.alloc ?_ _ | refine Ext.drew ?_ | refine Ext.trans ?_ (by assumption)))⟩
  rw [decide_eq_false h0] at hem
  rw [if_neg h0] at HR
  have hs0 : (0 : Int) < (s.size : Int) := by omega
  clear h0
  rcases HOP.out with rfl | rfl | rfl | rfl | rfl
  · have HG := Lib.hid (fun w => xdigits_any nm 1 mn mx ck a n c opt l s hs w)
    replace HR : Hid (res = Fm.digV ⟨nm.data.toList, 1, mn, mx, ck, l, opt⟩ s.data.toList) := HR
    go_enter Tryz.func23, Tryz.ntmps23
    go_wp2_with fail
    refine (HN.out _).mono ?_
    rintro e w1 ⟨rfl, rfl⟩
    go_wp2_with fail
    refine (HM.out _ (by repeat (first | exact Ext.refl _ | assumption | refine Ext.alloc ?_ _ | refine Ext.drew ?_ | refine Ext.trans ?_ (by assumption)))).mono ?_
    rintro e w2 ⟨rfl, hx2⟩
    obtain ⟨m0, m1, m2, m3, m4, m5, m6⟩ := HK.out _ hx2
    go_wp2_with fail
    refine (HG.out _).mono ?_
    rintro e w3 ⟨rfl, hx3⟩
    go_wp2_with fail
    go_ret
    exact ⟨ret_int HR.out.symm, (by repeat (first | exact Ext.refl _ | assumption | refine Ext.alloc ?_ _ | refine Ext.drew ?_ | refine Ext.trans ?_ (by assumption)))⟩
  · replace HR : Hid (res = Fm.txtV ⟨nm.data.toList, 3, mn, mx, ck, l, opt⟩ s.data.toList) := HR
    unfold Fm.txtV at HR
    dsimp only at HR
    rw [len_data] at HR
    by_cases h1 : (s.size : Int) < mn
    · rw [if_pos (.inl h1)] at HR
      go_enter Tryz.func23, Tryz.ntmps23
      go_wp2_with fail
      refine (HN.out _).mono ?_
      rintro e w1 ⟨rfl, rfl⟩
      go_wp2_with fail
      refine (HM.out _ (by repeat (first | exact Ext.refl _ | assumption | refine Ext.alloc ?_ _ | refine Ext.drew ?_ | refine Ext.trans ?_ (by assumption)))).mono ?_
      rintro e w2 ⟨rfl, hx2⟩
      obtain ⟨m0, m1, m2, m3, m4, m5, m6⟩ := HK.out _ hx2
      go_wp2_with fail
      go_ret
      exact ⟨ret_int HR.out.symm, (by repeat (first | exact Ext.refl _ | assumption | refine Ext.alloc ?_ _ | refine Ext.drew ?_ | refine Ext.trans ?_ (by assumption)))⟩
    by_cases h2 : mx < (s.size : Int)
    · rw [if_pos (.inr h2)] at HR
      go_enter Tryz.func23, Tryz.ntmps23
      go_wp2_with fail
      refine (HN.out _).mono ?_
      rintro e w1 ⟨rfl, rfl⟩
      go_wp2_with fail
      refine (HM.out _ (by repeat (first | exact Ext.refl _ | assumption | refine Ext.alloc ?_ _ | refine Ext.drew ?_ | refine Ext.trans ?_ (by assumption)))).mono ?_
      rintro e w2 ⟨rfl, hx2⟩
      obtain ⟨m0, m1, m2, m3, m4, m5, m6⟩ := HK.out _ hx2
      go_wp2_with fail
      go_ret
      exact ⟨ret_int HR.out.symm, (by repeat (first | exact Ext.refl _ | assumption | refine Ext.alloc ?_ _ | refine Ext.drew ?_ | refine Ext.trans ?_ (by assumption)))⟩
    rw [if_neg (fun h => h.elim h1 h2)] at HR
    go_enter Tryz.func23, Tryz.ntmps23
    go_wp2_with fail
    refine (HN.out _).mono ?_
    rintro e w1 ⟨rfl, rfl⟩
    go_wp2_with fail
    refine (HM.out _ (by repeat (first | exact Ext.refl _ | assumption | refine Ext.alloc ?_ _ | refine Ext.drew ?_ | refine Ext.trans ?_ (by assumption)))).mono ?_
    rintro e w2 ⟨rfl, hx2⟩
    obtain ⟨m0, m1, m2, m3, m4, m5, m6⟩ := HK.out _ hx2
    have HX2 := Lib.hid hx2
    go_wp2_with fail
    clear m0 m1 m4 m5 m6
    go_loop [5] (fun t => ∃ k : Nat, k ≤ s.size ∧ t = .int .i64 (k : Int) ∧ Hid ((s.data.toList.take k).all (fun c => decide (32 ≤ c.toNat) && decide (c.toNat ≤ 126)) = true)) (fun t => s.size - (intOf t).toNat)
    case atStart => exact ⟨0, Nat.zero_le _, rfl, Lib.hid rfl⟩
    case round =>
      obtain ⟨k, hk, rfl, hv⟩ := hrel
      by_cases hlt : k < s.size
      · have hts := take_snoc s k hlt
        have hltI : (k : Int) < (s.size : Int) := by omega
        have HB : Hid (¬ (32 ≤ s[k].toNat ∧ s[k].toNat ≤ 126) → res = 6) := Lib.hid (fun h => by
          rw [HR.out, if_neg]
          intro hc
          have h1 := List.all_eq_true.1 hc s[k] (List.mem_of_getElem? (by rw [List.getElem?_eq_getElem (by rw [len_data]; exact hlt)]; rfl))
          simp at h1
          exact h h1)
        have HV2 : Hid ((32 ≤ s[k].toNat ∧ s[k].toNat ≤ 126) → (s.data.toList.take (k + 1)).all (fun c => decide (32 ≤ c.toNat) && decide (c.toNat ≤ 126)) = true) := Lib.hid (fun h => by rw [hts, List.all_append, hv.out]; simp [h.1, h.2])
        obtain ⟨x, hx⟩ : ∃ x : Nat, s[k].toNat = x := ⟨_, rfl⟩
        rw [hx] at HB HV2
        clear hts hv
        by_cases q1 : x < 32
        · have z1 : decide (x < 32) = true := decide_eq_true q1
          have z1I : (x : Int) < 32 := by omega
          have HF := Lib.hid (HB.out (by omega))
          clear q1
          go_wp2_with fail
          go_ret
          exact ⟨ret_int HF.out.symm, (by repeat (first | exact Ext.refl _ | assumption | refine Ext.alloc ?_ _ | refine Ext.drew ?_ | refine Ext.trans ?_ (by assumption)))⟩
        have z1 : decide (x < 32) = false := decide_eq_false q1
        have z1I : ¬ (x : Int) < 32 := by omega
        by_cases q2 : 126 < x
        · have z2 : decide (126 < x) = true := decide_eq_true q2
          have z2I : (126 : Int) < (x : Int) := by omega
          have HF := Lib.hid (HB.out (by omega))
          clear q1 q2
          go_wp2_with fail
          go_ret
          exact ⟨ret_int HF.out.symm, (by repeat (first | exact Ext.refl _ | assumption | refine Ext.alloc ?_ _ | refine Ext.drew ?_ | refine Ext.trans ?_ (by assumption)))⟩
        have z2 : decide (126 < x) = false := decide_eq_false q2
        have z2I : ¬ (126 : Int) < (x : Int) := by omega
        have HV3 := Lib.hid (HV2.out ⟨by omega, by omega⟩)
        clear q1 q2
        go_wp2_with fail
        go_round
        case rel => exact ⟨k + 1, by omega, by go_num, HV3⟩
        case measure => (simp [intOf]; try omega)
      · obtain rfl : k = s.size := by omega
        have HF : Hid (res = 0) := Lib.hid (by
          have h := hv.out
          rw [List.take_of_length_le (by rw [len_data]; exact Nat.le_refl _)] at h
          rw [HR.out, if_pos h])
        clear hk hlt hv
        go_wp2_with fail
        go_ret
        exact ⟨ret_int HF.out.symm, (by repeat (first | exact Ext.refl _ | assumption | refine Ext.alloc ?_ _ | refine Ext.drew ?_ | refine Ext.trans ?_ (by assumption)))⟩
  · have HG := Lib.hid (fun w => xdate_any nm 5 mn mx ck a n c opt l s hs w)
    replace HR : Hid (res = Fm.dateV ⟨nm.data.toList, 5, mn, mx, ck, l, opt⟩ s.data.toList) := HR
    go_enter Tryz.func23, Tryz.ntmps23
    go_wp2_with fail
    refine (HN.out _).mono ?_
    rintro e w1 ⟨rfl, rfl⟩
    go_wp2_with fail
    refine (HM.out _ (by repeat (first | exact Ext.refl _ | assumption | refine Ext.alloc ?_ _ | refine Ext.drew ?_ | refine Ext.trans ?_ (by assumption)))).mono ?_
    rintro e w2 ⟨rfl, hx2⟩
    obtain ⟨m0, m1, m2, m3, m4, m5, m6⟩ := HK.out _ hx2
    go_wp2_with fail
    refine (HG.out _).mono ?_
    rintro e w3 ⟨rfl, hx3⟩
    go_wp2_with fail
    go_ret
    exact ⟨ret_int HR.out.symm, (by repeat (first | exact Ext.refl _ | assumption | refine Ext.alloc ?_ _ | refine Ext.drew ?_ | refine Ext.trans ?_ (by assumption)))⟩
  · have HG := Lib.hid (fun (w' : World) (hx : Ext w w') => xhas_any (.slice a n c) l s w' (HL.out.ext hx) (by have := HNL.out; unfold Go.maxLen at this; omega))
    replace HR : Hid (res = if l.contains s.data.toList then 0 else 29) := HR
    cases hc : l.contains s.data.toList with
    | true =>
      rw [hc, if_pos rfl] at HR
      rw [hc] at HG
      clear hc
      go_enter Tryz.func23, Tryz.ntmps23
      go_wp2_with fail
      refine (HN.out _).mono ?_
      rintro e w1 ⟨rfl, rfl⟩
      go_wp2_with fail
      refine (HM.out _ (by repeat (first | exact Ext.refl _ | assumption | refine Ext.alloc ?_ _ | refine Ext.drew ?_ | refine Ext.trans ?_ (by assumption)))).mono ?_
      rintro e w2 ⟨rfl, hx2⟩
      obtain ⟨m0, m1, m2, m3, m4, m5, m6⟩ := HK.out _ hx2
      go_wp2_with fail
      refine (HG.out _ (by repeat (first | exact Ext.refl _ | assumption | refine Ext.alloc ?_ _ | refine Ext.drew ?_ | refine Ext.trans ?_ (by assumption)))).mono ?_
      rintro e w3 ⟨rfl, rfl⟩
      go_wp2_with fail
      go_ret
      exact ⟨ret_int HR.out.symm, (by repeat (first | exact Ext.refl _ | assumption | refine Ext.alloc ?_ _ | refine Ext.drew ?_ | refine Ext.trans ?_ (by assumption)))⟩
    | false =>
      rw [hc, if_neg (by decide)] at HR
      rw [hc] at HG
      clear hc
      go_enter Tryz.func23, Tryz.ntmps23
      go_wp2_with fail
      refine (HN.out _).mono ?_
      rintro e w1 ⟨rfl, rfl⟩
      go_wp2_with fail
      refine (HM.out _ (by repeat (first | exact Ext.refl _ | assumption | refine Ext.alloc ?_ _ | refine Ext.drew ?_ | refine Ext.trans ?_ (by assumption)))).mono ?_
      rintro e w2 ⟨rfl, hx2⟩
      obtain ⟨m0, m1, m2, m3, m4, m5, m6⟩ := HK.out _ hx2
      go_wp2_with fail
      refine (HG.out _ (by repeat (first | exact Ext.refl _ | assumption | refine Ext.alloc ?_ _ | refine Ext.drew ?_ | refine Ext.trans ?_ (by assumption)))).mono ?_
      rintro e w3 ⟨rfl, rfl⟩
      go_wp2_with fail
      go_ret
      exact ⟨ret_int HR.out.symm, (by repeat (first | exact Ext.refl _ | assumption | refine Ext.alloc ?_ _ | refine Ext.drew ?_ | refine Ext.trans ?_ (by assumption)))⟩
  · replace HR : Hid (res = if Fm.written s.data.toList then (if Fm.valOf s.data.toList < mn ∨ mx < Fm.valOf s.data.toList then 3 else 0) else 9) := HR
    have HG := Lib.hid (fun (w' : World) => xwritten_any s.size s (Nat.le_refl _) hs w')
    cases hw : Fm.written s.data.toList with
    | false =>
      rw [hw, if_neg (by decide)] at HR
      rw [hw] at HG
      clear hw
      go_enter Tryz.func23, Tryz.ntmps23
      go_wp2_with fail
      refine (HN.out _).mono ?_
      rintro e w1 ⟨rfl, rfl⟩
      go_wp2_with fail
      refine (HM.out _ (by repeat (first | exact Ext.refl _ | assumption | refine Ext.alloc ?_ _ | refine Ext.drew ?_ | refine Ext.trans ?_ (by assumption)))).mono ?_
      rintro e w2 ⟨rfl, hx2⟩
      obtain ⟨m0, m1, m2, m3, m4, m5, m6⟩ := HK.out _ hx2
      go_wp2_with fail
      refine (HG.out _).mono ?_
      rintro e w3 ⟨rfl, hx3⟩
      go_wp2_with fail
      go_ret
      exact ⟨ret_int HR.out.symm, (by repeat (first | exact Ext.refl _ | assumption | refine Ext.alloc ?_ _ | refine Ext.drew ?_ | refine Ext.trans ?_ (by assumption)))⟩
    | true =>
      rw [hw, if_pos rfl] at HR
      rw [hw] at HG
      have HI := Lib.hid (fun (w' : World) => xinteger_any s hs hw w')
      have hwi : Fm.within (-1000000000000000) mn mx 1000000000000000 = true := by
        have := hmem.out
        have e : Fm.memE ⟨nm.data.toList, 2, mn, mx, ck, l, opt⟩ = if ck = 0 ∧ l.length = 0 then (if Fm.within (-1000000000000000) mn mx 1000000000000000 then 0 else 3) else 1 := rfl
        rw [e] at this
        split at this
        · split at this
          · assumption
          · cases this
        · cases this
      unfold Fm.within at hwi
      rw [Bool.and_eq_true, Bool.and_eq_true, decide_eq_true_eq, decide_eq_true_eq, decide_eq_true_eq] at hwi
      have hlo := Fm.intX_lo s.data.toList mn (by unfold Fm.great; omega) (by unfold Fm.great; omega)
      have hhi := Fm.intX_lo s.data.toList mx (by unfold Fm.great; omega) (by unfold Fm.great; omega)
      obtain ⟨z, hz⟩ : ∃ z, Fm.intX s.data.toList = z := ⟨_, rfl⟩
      rw [hz] at hlo hhi HI
      have HB := Lib.hid (fun w => xbounds_any mn z z mx w)
      obtain ⟨rb, hrb⟩ : ∃ rb, rb = (if Fm.within mn z z mx then (0 : Int) else 3) := ⟨_, rfl⟩
      rw [← hrb] at HB
      have HF : Hid (res = rb) := Lib.hid (by
        rw [HR.out, hrb]
        unfold Fm.within
        by_cases q1 : mn ≤ z
        · by_cases q2 : z ≤ mx
          · rw [if_neg (fun h => h.elim (fun h => absurd (hlo.1.2 h) (by omega)) (fun h => absurd (hhi.2.2 h) (by omega))), decide_eq_true q1, decide_eq_true q2, decide_eq_true (Int.le_refl _)]; rfl
          · rw [if_pos (.inr (hhi.2.1 (by omega))), decide_eq_false q2, Bool.and_false]; rfl
        · rw [if_pos (.inl (hlo.1.1 (by omega))), decide_eq_false q1]; rfl)
      clear HR hrb hwi hlo hhi hw hz
      go_enter Tryz.func23, Tryz.ntmps23
      go_wp2_with fail
      refine (HN.out _).mono ?_
      rintro e w1 ⟨rfl, rfl⟩
      go_wp2_with fail
      refine (HM.out _ (by repeat (first | exact Ext.refl _ | assumption | refine Ext.alloc ?_ _ | refine Ext.drew ?_ | refine Ext.trans ?_ (by assumption)))).mono ?_
      rintro e w2 ⟨rfl, hx2⟩
      obtain ⟨m0, m1, m2, m3, m4, m5, m6⟩ := HK.out _ hx2
      go_wp2_with fail
      refine (HG.out _).mono ?_
      rintro e w3 ⟨rfl, hx3⟩
      have K3 := Lib.hid (fun x : Ahead w3 => HK.out x.at' ((hx2.trans hx3).trans x.ext))
      have g2 : ∀ x : Ahead w3, x.at'.cell? ⟨w.heap.size, 2, none⟩ = some (.int .i64 mn) := fun x => (K3.out x).2.2.1
      have g3 : ∀ x : Ahead w3, x.at'.cell? ⟨w.heap.size, 3, none⟩ = some (.int .i64 mx) := fun x => (K3.out x).2.2.2.1
      clear m0 m1 m2 m3 m4 m5 m6
      go_upto_region 13 with fail
      refine wp_region_quiet (C := fun w' => ∃ x : Ahead w3, w' = x.at') (by kernel_rfl) (by kernel_rfl) (Ahead.drawn _) ?_
      try dsimp only
      repeat (first | go_big_quiet_step ((first | (go_at_call 58; exact ahead_of (HI.out _)) | (go_at_call 57; exact ahead_of ((HB.out _).mono fun e w' h => ⟨h.1, h.2 ▸ Ext.refl _⟩)))) | quiet_step ((first | (go_at_call 58; exact ahead_of (HI.out _)) | (go_at_call 57; exact ahead_of ((HB.out _).mono fun e w' h => ⟨h.1, h.2 ▸ Ext.refl _⟩)))))
      refine wpQuiet_nil ?_
      intro _ hx0
      obtain ⟨x0, hx0⟩ := hx0
      subst hx0
      obtain ⟨w4, hx4⟩ := x0
      try dsimp only
      go_wp2_with fail
      go_ret
      exact ⟨ret_int HF.out.symm, (by repeat (first | exact Ext.refl _ | assumption | refine Ext.alloc ?_ _ | refine Ext.drew ?_ | refine Ext.trans ?_ (by assumption)))⟩
end Go.Proofs.YtkpfehfcgpapiaaGreatDoor
