/-
  Chapter 51: choices, the members of a field: the reference.
  No condition.
-/
import Derived.Test.YtkpfehfcgpapiaaGreatDoorFmVa
import Derived.Test.YtkpfehfcgpapiaaGreatDoorCdRa
import Derived.Test.YtkpfehfcgpapiaaGreatDoorFmVb
import Derived.Test.YtkpfehfcgpapiaaGreatDoorFmPa
import Derived.BigQuiet
import Derived.Test.YtkpfehfcgpapiaaGreatDoorStr

/-
  Chapter 51: choices, the members of a field: the reference.
  No condition.
-/
namespace Go.Proofs.YtkpfehfcgpapiaaGreatDoor
open Go.RowKit

set_option maxRecDepth 100000 in
set_option maxHeartbeats 1000000 in
theorem xchoices_any (v : Value) (l : List Fm.S) (w : World) (hl : StrsR w v l) (hs : Short Go.maxLen l) (hn : l.length ≤ Go.maxLen) :
    Calls Tryz.prog 80 #[v] w fun e w' => e = .returned (.int .i64 (Fm.chsE l)) ∧ Ext w w' := by
  have HSL := Lib.hid (fun k hk => slice_front hl k hk)
  obtain ⟨a, c, rfl, hc⟩ := hl.form
  have HR := Lib.hid (Fm.chsE.eq_1 l)
  generalize Fm.chsE l = res at *
  obtain ⟨N, hN⟩ : ∃ N, l.length = N := ⟨_, rfl⟩
  have HN := Lib.hid hN
  have HL := Lib.hid hl
  have HS := Lib.hid hs
  rw [hN] at hn HL HR HSL ⊢
  clear hl hN hc hs
  by_cases h0 : N = 0
  · have d0 : ((N : Int) == 0) = true := by rw [h0]; rfl
    rw [if_pos h0] at HR
    clear h0 HS HL HN HSL
    go_enter Tryz.func80, Tryz.ntmps80
    go_wp2
    go_ret
    exact ⟨ret_int HR.out.symm, Ext.refl _⟩
  have d0 : ((N : Int) == 0) = false := by rw [beq_eq_false_iff_ne]; omega
  rw [if_neg h0] at HR
  by_cases h1 : 32 < N
  · have d1 : (32 : Int) < (N : Int) := by omega
    rw [if_pos h1] at HR
    clear h0 h1 HS HL HN HSL
    go_enter Tryz.func80, Tryz.ntmps80
    go_wp2
    go_ret
    exact ⟨ret_int HR.out.symm, Ext.refl _⟩
  have d1 : ¬ (32 : Int) < (N : Int) := by omega
  rw [if_neg h1] at HR
  clear h0
  go_enter Tryz.func80, Tryz.ntmps80
  go_wp2
  go_loopw [3] (fun t wr => ∃ k : Nat, k ≤ N ∧ t = .int .i64 (k : Int) ∧ Hid (res = Fm.chsGo (l.take k) (l.drop k)) ∧ Ext w wr) (fun t _ => N - (intOf t).toNat)
  case atStart => exact ⟨0, Nat.zero_le _, rfl, HR, Ext.refl _⟩
  case round =>
    obtain ⟨k, hk, rfl, hv, hx⟩ := hrel
    by_cases hlt : k < N
    · obtain ⟨x, hxk⟩ : ∃ x, l[k]? = some x := ⟨_, List.getElem?_eq_getElem (by rw [HN.out]; exact hlt)⟩
      obtain ⟨u, hu, hur⟩ := HSL.out k hk
      obtain ⟨bb, off, X, ha, hb, q0', hX⟩ := HL.out.bytes hxk
      have q0 := (hx.cell (p := ⟨bb, off + k, none⟩) hb).trans q0'
      have hbr := Nat.lt_of_lt_of_le hb hx.size
      have hki : (k : Int) < (N : Int) := by omega
      clear q0'
      subst ha
      have HV := Lib.hid (hv.out.trans (by rw [cons_drop hxk, Fm.chsGo]))
      have HT := Lib.hid (snoc_take hxk)
      have hxs := HS.out x (List.mem_of_getElem? hxk)
      have HW := Lib.hid (fun w => xword_any X (by rw [← len_data, hX]; exact Nat.le_trans hxs (by decide)) w)
      have HH := Lib.hid (fun (w' : World) (hx' : Ext wr w') => xhas_any u (l.take k) X w' (hur.ext (hx.trans hx')) (by rw [List.length_take]; unfold Go.maxLen at hn; omega))
      rw [hX] at HW HH
      cases hw : Fm.isWord x with
      | false =>
        rw [hw, if_neg (by simp)] at HV
        rw [hw] at HW
        clear hX hxk hw hv HT hu hur HH
        go_wp2_with fail
        refine (HW.out _).mono ?_
        rintro e w1 ⟨rfl, rfl⟩
        go_wp2
        go_ret
        exact ⟨ret_int HV.out.symm, (by repeat (first | exact Ext.refl _ | assumption | refine Ext.alloc ?_ _ | refine Ext.drew ?_ | refine Ext.drewN ?_ _ | refine Ext.setCell ?_ (Nat.le_refl _) _ | refine Ext.trans ?_ (by assumption)))⟩
      | true =>
        rw [hw, if_pos rfl] at HV
        rw [hw] at HW
        cases hm : (l.take k).contains x with
        | true =>
          rw [hm, if_pos rfl] at HV
          rw [hm] at HH
          clear hX hxk hw hv HT hm hur
          go_wp2_with fail
          refine (HW.out _).mono ?_
          rintro e w1 ⟨rfl, rfl⟩
          go_wp2
          go_quiet (exact Calls.quiet_of_same ((HH.out _ (by repeat (first | exact Ext.refl _ | assumption | refine Ext.alloc ?_ _ | refine Ext.drew ?_ | refine Ext.drewN ?_ _ | refine Ext.setCell ?_ (Nat.le_refl _) _ | refine Ext.trans ?_ (by assumption)))).mono fun _ _ h => ⟨h.1, h.2.symm⟩))
          go_wp2
          go_ret
          exact ⟨ret_int HV.out.symm, (by repeat (first | exact Ext.refl _ | assumption | refine Ext.alloc ?_ _ | refine Ext.drew ?_ | refine Ext.drewN ?_ _ | refine Ext.setCell ?_ (Nat.le_refl _) _ | refine Ext.trans ?_ (by assumption)))⟩
        | false =>
          rw [hm, if_neg (by simp), ← HT.out] at HV
          rw [hm] at HH
          clear hX hxk hw hv HT hm hur
          go_wp2_with fail
          refine (HW.out _).mono ?_
          rintro e w1 ⟨rfl, rfl⟩
          go_wp2
          go_quiet (exact Calls.quiet_of_same ((HH.out _ (by repeat (first | exact Ext.refl _ | assumption | refine Ext.alloc ?_ _ | refine Ext.drew ?_ | refine Ext.drewN ?_ _ | refine Ext.setCell ?_ (Nat.le_refl _) _ | refine Ext.trans ?_ (by assumption)))).mono fun _ _ h => ⟨h.1, h.2.symm⟩))
          go_wp2
          go_roundw
          case rel => exact ⟨k + 1, by omega, by go_num, HV, (by repeat (first | exact Ext.refl _ | assumption | refine Ext.alloc ?_ _ | refine Ext.drew ?_ | refine Ext.drewN ?_ _ | refine Ext.setCell ?_ (Nat.le_refl _) _ | refine Ext.trans ?_ (by assumption)))⟩
          case measure => simp [intOf]; omega
    · obtain rfl : k = N := by omega
      have HF : Hid (res = 0) := Lib.hid (by rw [hv.out, List.drop_of_length_le (by rw [HN.out]; exact Nat.le_refl _)]; rfl)
      clear hk hlt hv
      go_wp2
      go_ret
      exact ⟨ret_int HF.out.symm, (by repeat (first | exact Ext.refl _ | assumption | refine Ext.alloc ?_ _ | refine Ext.drew ?_ | refine Ext.trans ?_ (by assumption)))⟩

theorem within_up (z mn mx : Int) (hz : 0 ≤ z) : (Fm.within 1 mn mx 60 && decide (z < mn)) = Fm.within (1 + z) mn mx 60 := by
  rw [Bool.eq_iff_iff]
  unfold Fm.within
  simp only [Bool.and_eq_true, decide_eq_true_eq]
  omega

set_option maxRecDepth 100000 in
set_option maxHeartbeats 2000000 in
theorem xmembers_any (nm : ByteArray) (op mn mx ck : Int) (a : Option Addr) (n c : Nat) (opt : Bool) (l : List Fm.S) (w : World) (hl : StrsR w (.slice a n c) l) (hs : Short Go.maxLen l) (hn : l.length ≤ Go.maxLen) :
    Calls Tryz.prog 46 #[.agg #[.string nm, .int .i64 op, .int .i64 mn, .int .i64 mx, .int .i64 ck, .slice a n c, .bool opt]] w fun e w' => e = .returned (.int .i64 (Fm.memE ⟨nm.data.toList, op, mn, mx, ck, l, opt⟩)) ∧ Ext w w' := by
  obtain ⟨a', c', he, _⟩ := hl.form
  injection he with e1 e2 e3
  subst e1 e3
  obtain ⟨res, hres⟩ : ∃ res, Fm.memE ⟨nm.data.toList, op, mn, mx, ck, l, opt⟩ = res := ⟨_, rfl⟩
  rw [hres]
  by_cases hop : op < 1
  · have HF : Hid (res = 1) := Lib.hid (by rw [← hres]; unfold Fm.memE; rw [if_pos (.inl hop)])
    clear hres hl hs hn e2
    go_enter Tryz.func46, Tryz.ntmps46
    go_wp2
    go_ret
    exact ⟨ret_int HF.out.symm, (by repeat (first | exact Ext.refl _ | assumption | refine Ext.alloc ?_ _ | refine Ext.drew ?_ | refine Ext.trans ?_ (by assumption)))⟩
  by_cases hop2 : 5 < op
  · have HF : Hid (res = 1) := Lib.hid (by rw [← hres]; unfold Fm.memE; rw [if_pos (.inr hop2)])
    clear hres hl hs hn e2
    go_enter Tryz.func46, Tryz.ntmps46
    go_wp2
    go_ret
    exact ⟨ret_int HF.out.symm, (by repeat (first | exact Ext.refl _ | assumption | refine Ext.alloc ?_ _ | refine Ext.drew ?_ | refine Ext.trans ?_ (by assumption)))⟩
  have h5 : op = 1 ∨ op = 4 ∨ op = 2 ∨ op = 3 ∨ op = 5 := by omega
  clear hop hop2
  rcases h5 with rfl | rfl | rfl | rfl | rfl

  · have HR : Hid (res = if l.length = 0 then Fm.digE ⟨nm.data.toList, 1, mn, mx, ck, l, opt⟩ else 1) := Lib.hid hres.symm
    rw [← e2] at HR
    have HD : Hid (Fm.digE ⟨nm.data.toList, 1, mn, mx, ck, l, opt⟩ = if ck < 0 ∨ 8 < ck ∨ ck = 7 then 1 else if Fm.within 1 mn mx 60 && decide (Fm.ckSize ck < mn) then 0 else 3) := Lib.hid rfl
    have HS := Lib.hid (fun w => rsize_any ck w)
    clear hres hl hs hn e2
    by_cases h0 : n = 0
    rotate_left
    · have n0 : (0 : Int) < (n : Int) := by omega
      rw [if_neg h0] at HR
      clear h0 HD HS
      go_enter Tryz.func46, Tryz.ntmps46
      go_wp2
      go_ret
      exact ⟨ret_int HR.out.symm, (by repeat (first | exact Ext.refl _ | assumption | refine Ext.alloc ?_ _ | refine Ext.drew ?_ | refine Ext.trans ?_ (by assumption)))⟩
    have n0 : ¬ (0 : Int) < (n : Int) := by omega
    rw [if_pos h0] at HR
    clear h0
    by_cases k0 : ck < 0
    · have HF : Hid (res = 1) := Lib.hid (by rw [HR.out, HD.out, if_pos (.inl k0)])
      clear HR HD HS
      go_enter Tryz.func46, Tryz.ntmps46
      go_wp2
      go_ret
      exact ⟨ret_int HF.out.symm, (by repeat (first | exact Ext.refl _ | assumption | refine Ext.alloc ?_ _ | refine Ext.drew ?_ | refine Ext.trans ?_ (by assumption)))⟩
    by_cases k8 : 8 < ck
    · have HF : Hid (res = 1) := Lib.hid (by rw [HR.out, HD.out, if_pos (.inr (.inl k8))])
      clear HR HD HS
      go_enter Tryz.func46, Tryz.ntmps46
      go_wp2
      go_ret
      exact ⟨ret_int HF.out.symm, (by repeat (first | exact Ext.refl _ | assumption | refine Ext.alloc ?_ _ | refine Ext.drew ?_ | refine Ext.trans ?_ (by assumption)))⟩
    by_cases k7 : ck = 7
    · have HF : Hid (res = 1) := Lib.hid (by rw [HR.out, HD.out, if_pos (.inr (.inr k7))])
      subst k7
      clear HR HD HS k0 k8
      go_enter Tryz.func46, Tryz.ntmps46
      go_wp2
      go_ret
      exact ⟨ret_int HF.out.symm, (by repeat (first | exact Ext.refl _ | assumption | refine Ext.alloc ?_ _ | refine Ext.drew ?_ | refine Ext.trans ?_ (by assumption)))⟩
    have z7 : (ck == 7) = false := beq_eq_false_iff_ne.2 k7
    rw [if_neg (by omega)] at HD
    have HZ : ∃ z : Int, (z = 0 ∨ z = 1 ∨ z = 2) ∧ Hid (res = if Fm.within (1 + z) mn mx 60 then 0 else 3) ∧ Hid (∃ u, ∀ w, Calls Tryz.prog 79 #[.int .i64 ck] w fun e w' => e = .returned (.tuple #[.int .i64 z, .int .i64 u]) ∧ w = w') := by
      refine ⟨Fm.ckSize ck, ?_, Lib.hid ?_, Lib.hid ?_⟩
      · unfold Fm.ckSize Cd.size; split
        · exact .inl rfl
        · split
          · exact .inr (.inr rfl)
          · exact .inr (.inl rfl)
      · rw [HR.out, HD.out, within_up]
        unfold Fm.ckSize; split <;> omega
      · refine ⟨if ck < 1 ∨ 8 < ck then 1 else 0, fun w => (HS.out w).mono fun e w' h => ?_⟩
        unfold Fm.ckSize
        by_cases hz : ck = 0
        · subst hz; exact h
        · rw [if_neg hz]; rw [if_neg (by omega)] at h; exact h
    obtain ⟨z, hz, HF, HC⟩ := HZ
    obtain ⟨u, hu⟩ := HC.out
    have HC := Lib.hid hu
    clear hu HR HD HS
    rcases hz with rfl | rfl | rfl
    · have HB := Lib.hid (fun w => xbounds_any 1 mn mx 60 w)
      rw [show (1 : Int) + 0 = 1 from rfl] at HF
      generalize (if Fm.within 1 mn mx 60 = true then (0 : Int) else 3) = b at *
      clear k7
      go_enter Tryz.func46, Tryz.ntmps46
      go_wp2_with fail
      refine (HC.out _).mono ?_
      rintro e w1 ⟨rfl, rfl⟩
      go_wp2_with fail
      refine (HB.out _).mono ?_
      rintro e w2 ⟨rfl, rfl⟩
      go_wp2
      go_ret
      exact ⟨ret_int HF.out.symm, (by repeat (first | exact Ext.refl _ | assumption | refine Ext.alloc ?_ _ | refine Ext.drew ?_ | refine Ext.trans ?_ (by assumption)))⟩
    · have HB := Lib.hid (fun w => xbounds_any 2 mn mx 60 w)
      rw [show (1 : Int) + 1 = 2 from rfl] at HF
      generalize (if Fm.within 2 mn mx 60 = true then (0 : Int) else 3) = b at *
      clear k7
      go_enter Tryz.func46, Tryz.ntmps46
      go_wp2_with fail
      refine (HC.out _).mono ?_
      rintro e w1 ⟨rfl, rfl⟩
      go_wp2_with fail
      refine (HB.out _).mono ?_
      rintro e w2 ⟨rfl, rfl⟩
      go_wp2
      go_ret
      exact ⟨ret_int HF.out.symm, (by repeat (first | exact Ext.refl _ | assumption | refine Ext.alloc ?_ _ | refine Ext.drew ?_ | refine Ext.trans ?_ (by assumption)))⟩
    · have HB := Lib.hid (fun w => xbounds_any 3 mn mx 60 w)
      rw [show (1 : Int) + 2 = 3 from rfl] at HF
      generalize (if Fm.within 3 mn mx 60 = true then (0 : Int) else 3) = b at *
      clear k7
      go_enter Tryz.func46, Tryz.ntmps46
      go_wp2_with fail
      refine (HC.out _).mono ?_
      rintro e w1 ⟨rfl, rfl⟩
      go_wp2_with fail
      refine (HB.out _).mono ?_
      rintro e w2 ⟨rfl, rfl⟩
      go_wp2
      go_ret
      exact ⟨ret_int HF.out.symm, (by repeat (first | exact Ext.refl _ | assumption | refine Ext.alloc ?_ _ | refine Ext.drew ?_ | refine Ext.trans ?_ (by assumption)))⟩
  · have HR : Hid (res = if mn = 0 ∧ mx = 0 ∧ ck = 0 then Fm.chsE l else 1) := Lib.hid hres.symm
    have HC := Lib.hid (fun (w' : World) (hx : Ext w w') => xchoices_any (.slice a n c) l w' (hl.ext hx) hs hn)
    generalize Fm.chsE l = d at *
    clear hres hl hs hn e2
    by_cases h0 : ck = 0
    rotate_left
    · have z0 : (ck != 0) = true := bne_iff_ne.2 h0
      rw [if_neg (fun h => h0 h.2.2)] at HR
      clear h0 HC
      go_enter Tryz.func46, Tryz.ntmps46
      go_wp2
      go_ret
      exact ⟨ret_int HR.out.symm, (by repeat (first | exact Ext.refl _ | assumption | refine Ext.alloc ?_ _ | refine Ext.drew ?_ | refine Ext.trans ?_ (by assumption)))⟩
    subst h0
    by_cases h0 : mn = 0
    rotate_left
    · have z0 : (mn != 0) = true := bne_iff_ne.2 h0
      rw [if_neg (fun h => h0 h.1)] at HR
      clear h0 HC
      go_enter Tryz.func46, Tryz.ntmps46
      go_wp2
      go_ret
      exact ⟨ret_int HR.out.symm, (by repeat (first | exact Ext.refl _ | assumption | refine Ext.alloc ?_ _ | refine Ext.drew ?_ | refine Ext.trans ?_ (by assumption)))⟩
    subst h0
    by_cases h0 : mx = 0
    rotate_left
    · have z0 : (mx != 0) = true := bne_iff_ne.2 h0
      rw [if_neg (fun h => h0 h.2.1)] at HR
      clear h0 HC
      go_enter Tryz.func46, Tryz.ntmps46
      go_wp2
      go_ret
      exact ⟨ret_int HR.out.symm, (by repeat (first | exact Ext.refl _ | assumption | refine Ext.alloc ?_ _ | refine Ext.drew ?_ | refine Ext.trans ?_ (by assumption)))⟩
    subst h0
    rw [if_pos ⟨rfl, rfl, rfl⟩] at HR
    go_enter Tryz.func46, Tryz.ntmps46
    go_wp2_with fail
    refine (HC.out _ (by repeat (first | exact Ext.refl _ | assumption | refine Ext.alloc ?_ _ | refine Ext.drew ?_ | refine Ext.trans ?_ (by assumption)))).mono ?_
    rintro e w1 ⟨rfl, hxw1⟩
    go_wp2
    go_ret
    exact ⟨ret_int HR.out.symm, (by repeat (first | exact Ext.refl _ | assumption | refine Ext.alloc ?_ _ | refine Ext.drew ?_ | refine Ext.trans ?_ (by assumption)))⟩
  · have HR : Hid (res = if ck = 0 ∧ l.length = 0 then (if Fm.within (-1000000000000000) mn mx 1000000000000000 then 0 else 3) else 1) := Lib.hid hres.symm
    rw [← e2] at HR
    have HW := Lib.hid (fun w => xbounds_any (-1000000000000000) mn mx 1000000000000000 w)
    generalize (if Fm.within (-1000000000000000) mn mx 1000000000000000 = true then (0 : Int) else 3) = b at *
    clear hres hl hs hn e2
    by_cases h0 : ck = 0
    rotate_left
    · have z0 : (ck != 0) = true := bne_iff_ne.2 h0
      rw [if_neg (fun h => h0 h.1)] at HR
      clear h0 HW
      go_enter Tryz.func46, Tryz.ntmps46
      go_wp2
      go_ret
      exact ⟨ret_int HR.out.symm, (by repeat (first | exact Ext.refl _ | assumption | refine Ext.alloc ?_ _ | refine Ext.drew ?_ | refine Ext.trans ?_ (by assumption)))⟩
    subst h0
    by_cases h0 : n = 0
    rotate_left
    · have n0 : (0 : Int) < (n : Int) := by omega
      rw [if_neg (fun h => h0 h.2)] at HR
      clear h0 HW
      go_enter Tryz.func46, Tryz.ntmps46
      go_wp2
      go_ret
      exact ⟨ret_int HR.out.symm, (by repeat (first | exact Ext.refl _ | assumption | refine Ext.alloc ?_ _ | refine Ext.drew ?_ | refine Ext.trans ?_ (by assumption)))⟩
    have n0 : ¬ (0 : Int) < (n : Int) := by omega
    rw [if_pos ⟨rfl, h0⟩] at HR
    clear h0
    go_enter Tryz.func46, Tryz.ntmps46
    go_wp2_with fail
    refine (HW.out _).mono ?_
    rintro e w1 ⟨rfl, rfl⟩
    go_wp2
    go_ret
    exact ⟨ret_int HR.out.symm, (by repeat (first | exact Ext.refl _ | assumption | refine Ext.alloc ?_ _ | refine Ext.drew ?_ | refine Ext.trans ?_ (by assumption)))⟩
  · have HR : Hid (res = if ck = 0 ∧ l.length = 0 then (if Fm.within 0 mn mx 200 then 0 else 3) else 1) := Lib.hid hres.symm
    rw [← e2] at HR
    have HW := Lib.hid (fun w => xbounds_any 0 mn mx 200 w)
    generalize (if Fm.within 0 mn mx 200 = true then (0 : Int) else 3) = b at *
    clear hres hl hs hn e2
    by_cases h0 : ck = 0
    rotate_left
    · have z0 : (ck != 0) = true := bne_iff_ne.2 h0
      rw [if_neg (fun h => h0 h.1)] at HR
      clear h0 HW
      go_enter Tryz.func46, Tryz.ntmps46
      go_wp2
      go_ret
      exact ⟨ret_int HR.out.symm, (by repeat (first | exact Ext.refl _ | assumption | refine Ext.alloc ?_ _ | refine Ext.drew ?_ | refine Ext.trans ?_ (by assumption)))⟩
    subst h0
    by_cases h0 : n = 0
    rotate_left
    · have n0 : (0 : Int) < (n : Int) := by omega
      rw [if_neg (fun h => h0 h.2)] at HR
      clear h0 HW
      go_enter Tryz.func46, Tryz.ntmps46
      go_wp2
      go_ret
      exact ⟨ret_int HR.out.symm, (by repeat (first | exact Ext.refl _ | assumption | refine Ext.alloc ?_ _ | refine Ext.drew ?_ | refine Ext.trans ?_ (by assumption)))⟩
    have n0 : ¬ (0 : Int) < (n : Int) := by omega
    rw [if_pos ⟨rfl, h0⟩] at HR
    clear h0
    go_enter Tryz.func46, Tryz.ntmps46
    go_wp2_with fail
    refine (HW.out _).mono ?_
    rintro e w1 ⟨rfl, rfl⟩
    go_wp2
    go_ret
    exact ⟨ret_int HR.out.symm, (by repeat (first | exact Ext.refl _ | assumption | refine Ext.alloc ?_ _ | refine Ext.drew ?_ | refine Ext.trans ?_ (by assumption)))⟩
  · have HR : Hid (res = if ck = 0 ∧ l.length = 0 then (if Fm.within 1 mn mx 9999 then 0 else 3) else 1) := Lib.hid hres.symm
    rw [← e2] at HR
    have HW := Lib.hid (fun w => xbounds_any 1 mn mx 9999 w)
    generalize (if Fm.within 1 mn mx 9999 = true then (0 : Int) else 3) = b at *
    clear hres hl hs hn e2
    by_cases h0 : ck = 0
    rotate_left
    · have z0 : (ck != 0) = true := bne_iff_ne.2 h0
      rw [if_neg (fun h => h0 h.1)] at HR
      clear h0 HW
      go_enter Tryz.func46, Tryz.ntmps46
      go_wp2
      go_ret
      exact ⟨ret_int HR.out.symm, (by repeat (first | exact Ext.refl _ | assumption | refine Ext.alloc ?_ _ | refine Ext.drew ?_ | refine Ext.trans ?_ (by assumption)))⟩
    subst h0
    by_cases h0 : n = 0
    rotate_left
    · have n0 : (0 : Int) < (n : Int) := by omega
      rw [if_neg (fun h => h0 h.2)] at HR
      clear h0 HW
      go_enter Tryz.func46, Tryz.ntmps46
      go_wp2
      go_ret
      exact ⟨ret_int HR.out.symm, (by repeat (first | exact Ext.refl _ | assumption | refine Ext.alloc ?_ _ | refine Ext.drew ?_ | refine Ext.trans ?_ (by assumption)))⟩
    have n0 : ¬ (0 : Int) < (n : Int) := by omega
    rw [if_pos ⟨rfl, h0⟩] at HR
    clear h0
    go_enter Tryz.func46, Tryz.ntmps46
    go_wp2_with fail
    refine (HW.out _).mono ?_
    rintro e w1 ⟨rfl, rfl⟩
    go_wp2
    go_ret
    exact ⟨ret_int HR.out.symm, (by repeat (first | exact Ext.refl _ | assumption | refine Ext.alloc ?_ _ | refine Ext.drew ?_ | refine Ext.trans ?_ (by assumption)))⟩
end Go.Proofs.YtkpfehfcgpapiaaGreatDoor

/-
  Chapter 51: number fields, sum rules, Check: the reference.
  No condition.
-/
namespace Go.Proofs.YtkpfehfcgpapiaaGreatDoor
open Go.RowKit

/-- The place of a number field, or -1. -/
def numI (fs : List Fm.Fld) (s : Fm.S) : Int := match Fm.numIdx fs s with | some i => (i : Int) | none => -1
theorem num_here {fs : List Fm.Fld} {s : Fm.S} {k : Nat} {f : Fm.Fld} (h : fs[k]? = some f) (hn : Fm.numIdx (fs.take k) s = none) (hp : (f.name == s && f.op == 2) = true) : numI fs s = (k : Int) := by
  have hk := (List.getElem?_eq_some_iff.1 h).1
  have e : fs = fs.take k ++ f :: fs.drop (k + 1) := by rw [← cons_drop h, List.take_append_drop]
  have : Fm.numIdx fs s = some k := by
    unfold Fm.numIdx at hn ⊢
    rw [e, List.findIdx?_append, hn, List.findIdx?_cons, if_pos hp]
    simp only [Option.map_some, Option.none_or, Option.some.injEq, List.length_take]
    omega
  unfold numI
  rw [this]
theorem num_next {fs : List Fm.Fld} {s : Fm.S} {k : Nat} {f : Fm.Fld} (h : fs[k]? = some f) (hn : Fm.numIdx (fs.take k) s = none) (hp : (f.name == s && f.op == 2) = false) : Fm.numIdx (fs.take (k + 1)) s = none := by
  rw [snoc_take h]
  unfold Fm.numIdx at hn ⊢
  rw [List.findIdx?_append, hn, List.findIdx?_cons, if_neg (by rw [hp]; decide)]
  rfl
theorem num_none (fs : List Fm.Fld) (s : Fm.S) : (Fm.nums fs).contains s = (Fm.numIdx fs s).isSome := by
  rw [Bool.eq_iff_iff, List.contains_iff_mem]
  unfold Fm.nums Fm.numIdx
  rw [List.findIdx?_isSome, List.any_eq_true]
  constructor
  · intro h
    obtain ⟨f, hf, rfl⟩ := List.mem_map.1 h
    obtain ⟨h1, h2⟩ := List.mem_filter.1 hf
    exact ⟨f, h1, by rw [h2]; simp⟩
  · rintro ⟨f, hf, h⟩
    rw [Bool.and_eq_true, beq_iff_eq] at h
    exact List.mem_map.2 ⟨f, List.mem_filter.2 ⟨hf, h.2⟩, h.1⟩
theorem numI_neg (fs : List Fm.Fld) (s : Fm.S) : (numI fs s < 0) = ((Fm.nums fs).contains s = false) := by
  rw [num_none]
  unfold numI
  cases Fm.numIdx fs s with
  | none => simp
  | some i => simp only [Option.isSome_some, eq_iff_iff]; constructor
              · intro h; omega
              · intro h; cases h

set_option maxRecDepth 100000 in
set_option maxHeartbeats 1000000 in
theorem xnumber_any (NM : ByteArray) (a : Option Addr) (n c : Nat) (a2 : Option Addr) (n2 c2 : Nat) (fs : List Fm.Fld) (s : ByteArray) (w : World) (hf : FldsR w (.slice a n c) fs) (hn : n ≤ 9223372036854775807) :
    Calls Tryz.prog 81 #[.agg #[.string NM, .slice a n c, .slice a2 n2 c2], .string s] w fun e w' => e = .returned (.int .i64 (numI fs s.data.toList)) ∧ Ext w w' := by
  obtain ⟨a', c', he⟩ := hf.form
  injection he with e1 e2 e3
  subst e1 e3
  obtain ⟨res, hres⟩ : ∃ res, numI fs s.data.toList = res := ⟨_, rfl⟩
  rw [hres]
  have HR := Lib.hid hres
  have HN := Lib.hid e2.symm
  have HF := Lib.hid hf
  have K := kept3 (Ext.refl (w.alloc (.cells #[.string NM, .slice a n c, .slice a2 n2 c2] 25)))
  obtain ⟨K0, K1, K2⟩ := K
  clear hf hres e2 K0 K2
  go_enter Tryz.func81, Tryz.ntmps81
  go_wp2
  go_loop [5] (fun t => ∃ k : Nat, k ≤ n ∧ t = .int .i64 (k : Int) ∧ Hid (Fm.numIdx (fs.take k) s.data.toList = none)) (fun t => n - (intOf t).toNat)
  case atStart => exact ⟨0, Nat.zero_le _, rfl, Lib.hid rfl⟩
  case round =>
    obtain ⟨k, hk, rfl, hv⟩ := hrel
    by_cases hlt : k < n
    · obtain ⟨f, hfk⟩ : ∃ f, fs[k]? = some f := ⟨_, List.getElem?_eq_getElem (by rw [HN.out]; exact hlt)⟩
      obtain ⟨b, o, X, op, mn, mx, ck, la, ln, lc, l, opt, ha, hb, rfl, hl, c0, c1, -, -, -, -, -⟩ := HF.out.here ((Ext.refl w).alloc (.cells #[.string NM, .slice a n c, .slice a2 n2 c2] 25)) hfk
      subst ha
      have hki : (k : Int) < (n : Int) := by omega
      by_cases hq : X.data.toList = s.data.toList
      · have q1 := same_bytes rfl hq
        by_cases h2 : op = 2
        · have HX : Hid (res = (k : Int)) := Lib.hid (by rw [← HR.out]; exact num_here hfk hv.out (by rw [hq, h2]; simp))
          subst h2
          clear hq hv hfk hl
          go_wp2
          go_ret
          exact ⟨ret_int HX.out.symm, (by repeat (first | exact Ext.refl _ | assumption | refine Ext.alloc ?_ _ | refine Ext.drew ?_ | refine Ext.trans ?_ (by assumption)))⟩
        · have z2 : (op == 2) = false := beq_eq_false_iff_ne.2 h2
          have HX := Lib.hid (num_next hfk hv.out (by dsimp only; rw [z2]; simp))
          clear hq hv hfk hl h2
          go_wp2
          go_round
          case rel => exact ⟨k + 1, by omega, by go_num, HX⟩
          case measure => simp [intOf]; omega
      · have q1 := other_bytes rfl hq
        have HX := Lib.hid (num_next hfk hv.out (by dsimp only; rw [beq_eq_false_iff_ne.2 hq]; rfl))
        clear hq hv hfk hl
        go_wp2
        go_round
        case rel => exact ⟨k + 1, by omega, by go_num, HX⟩
        case measure => simp [intOf]; omega
    · obtain rfl : k = n := by omega
      have HX : Hid (res = -1) := Lib.hid (by
        rw [← HR.out]
        have := hv.out
        rw [List.take_of_length_le (by rw [HN.out]; exact Nat.le_refl _)] at this
        unfold numI; rw [this])
      clear hk hlt hv
      go_wp2
      go_ret
      exact ⟨ret_int HX.out.symm, (by repeat (first | exact Ext.refl _ | assumption | refine Ext.alloc ?_ _ | refine Ext.drew ?_ | refine Ext.trans ?_ (by assumption)))⟩
end Go.Proofs.YtkpfehfcgpapiaaGreatDoor

/-
  Chapter 51: sum rules, Check: the reference.
  No condition.
-/
namespace Go.Proofs.YtkpfehfcgpapiaaGreatDoor
open Go.RowKit

theorem ahead_cell {W : World} {p : Addr} {v : Value} (h : W.cell? p = some v) (hb : p.block < W.heap.size) : ∀ x : Ahead W, x.at'.cell? p = some v := fun x => (x.ext.cell hb).trans h
theorem kept32 {w wr : World} {x0 x1 x2 y0 y1 : Value} {t u : TypeId} (h : Ext ((w.alloc (.cells #[x0, x1, x2] t)).alloc (.cells #[y0, y1] u)) wr) :
    wr.cell? ⟨w.heap.size, 0, none⟩ = some x0 ∧ wr.cell? ⟨w.heap.size, 1, none⟩ = some x1 ∧ wr.cell? ⟨w.heap.size, 2, none⟩ = some x2 ∧ wr.cell? ⟨w.heap.size + 1, 0, none⟩ = some y0 ∧ wr.cell? ⟨w.heap.size + 1, 1, none⟩ = some y1 ∧ w.heap.size + 2 ≤ wr.heap.size := by
  obtain ⟨h0, h1, h2⟩ := kept3 h.before
  have h3 := kept2 h
  rw [World.size_alloc] at h3
  have h4 := h.size
  rw [World.size_alloc, World.size_alloc] at h4
  exact ⟨h0, h1, h2, h3.1, h3.2, by omega⟩
theorem met_cons (t x : Fm.S) (l : List Fm.S) : (t :: l).contains x = (decide (x = t) || l.contains x) := by
  rw [List.contains_cons]
  congr 1
  rw [Bool.eq_iff_iff, beq_iff_eq, decide_eq_true_eq]

set_option maxRecDepth 100000 in
set_option maxHeartbeats 2000000 in
theorem xsum_any (NM : ByteArray) (a : Option Addr) (n c : Nat) (a2 : Option Addr) (n2 c2 : Nat) (fs : List Fm.Fld) (T : ByteArray) (pa : Option Addr) (pn pc : Nat) (l : List Fm.S) (w : World) (hf : FldsR w (.slice a n c) fs) (hn : n ≤ 9223372036854775807) (hl : StrsR w (.slice pa pn pc) l) (hp : pn ≤ 9223372036854775807) :
    Calls Tryz.prog 47 #[.agg #[.string NM, .slice a n c, .slice a2 n2 c2], .agg #[.string T, .slice pa pn pc]] w fun e w' => e = .returned (.int .i64 (Fm.sumE (Fm.nums fs) ⟨T.data.toList, l⟩)) ∧ Ext w w' := by
  have HSL := Lib.hid (fun k hk => slice_front hl k hk)
  obtain ⟨a', c', he, _⟩ := hl.form
  injection he with e1 e2 e3
  subst e1 e3
  have HR := Lib.hid (Fm.sumE.eq_1 (Fm.nums fs) ⟨T.data.toList, l⟩)
  dsimp only at HR
  generalize Fm.sumE (Fm.nums fs) ⟨T.data.toList, l⟩ = res at *
  have HN := Lib.hid e2.symm
  rw [← e2] at HR HSL
  have HL := Lib.hid hl
  have HNUM := Lib.hid (fun (s : ByteArray) (w' : World) (hx : Ext w w') => xnumber_any NM a n c a2 n2 c2 fs s w' (hf.ext hx) hn)
  have HNN := Lib.hid (numI_neg fs)
  generalize Fm.nums fs = ns at *
  clear hf hl hn e2
  obtain ⟨z, hz⟩ : ∃ z, numI fs T.data.toList = z := ⟨_, rfl⟩
  have HT := HNUM.out T
  have hz2 := HNN.out T.data.toList
  rw [hz] at HT hz2
  obtain ⟨t, ht⟩ : ∃ t, T.data.toList = t := ⟨_, rfl⟩
  rw [ht] at HR hz2
  have HTT := Lib.hid ht
  clear hz ht
  by_cases hneg : z < 0
  · rw [hz2.mp hneg, if_neg (by simp)] at HR
    clear hz2
    have HT := Lib.hid HT
    go_enter Tryz.func47, Tryz.ntmps47
    go_wp2_with fail
    refine (HT.out _ (by repeat (first | exact Ext.refl _ | assumption | refine Ext.alloc ?_ _ | refine Ext.drew ?_ | refine Ext.trans ?_ (by assumption)))).mono ?_
    rintro e w1 ⟨rfl, hx1⟩
    go_wp2
    go_ret
    exact ⟨ret_int HR.out.symm, (by repeat (first | exact Ext.refl _ | assumption | refine Ext.alloc ?_ _ | refine Ext.drew ?_ | refine Ext.trans ?_ (by assumption)))⟩
  have hc : ns.contains t = true := by
    cases h : ns.contains t with
    | true => rfl
    | false => exact absurd (hz2.mpr h) hneg
  rw [hc, if_pos rfl] at HR
  have HT := Lib.hid HT
  clear hz2 hc
  by_cases h0 : pn = 0
  · have d0 : ((pn : Int) == 0) = true := by rw [h0]; rfl
    rw [if_pos h0] at HR
    clear h0
    go_enter Tryz.func47, Tryz.ntmps47
    go_wp2_with fail
    refine (HT.out _ (by repeat (first | exact Ext.refl _ | assumption | refine Ext.alloc ?_ _ | refine Ext.drew ?_ | refine Ext.trans ?_ (by assumption)))).mono ?_
    rintro e w1 ⟨rfl, hx1⟩
    obtain ⟨k0, k1, k2, k3, k4, -⟩ := kept32 hx1
    go_wp2
    go_ret
    exact ⟨ret_int HR.out.symm, (by repeat (first | exact Ext.refl _ | assumption | refine Ext.alloc ?_ _ | refine Ext.drew ?_ | refine Ext.trans ?_ (by assumption)))⟩
  have d0 : ((pn : Int) == 0) = false := by rw [beq_eq_false_iff_ne]; omega
  rw [if_neg h0] at HR
  clear h0
  go_enter Tryz.func47, Tryz.ntmps47
  go_wp2_with fail
  refine (HT.out _ (by repeat (first | exact Ext.refl _ | assumption | refine Ext.alloc ?_ _ | refine Ext.drew ?_ | refine Ext.trans ?_ (by assumption)))).mono ?_
  rintro e w1 ⟨rfl, hx1⟩
  obtain ⟨k0, k1, k2, k3, k4, -⟩ := kept32 hx1
  clear HT
  go_wp2
  go_loopw [5] (fun t' wr => ∃ k : Nat, k ≤ pn ∧ t' = .int .i64 (k : Int) ∧ Hid (res = Fm.prtGo ns (t :: l.take k) (l.drop k)) ∧ Hid (Ext ((w.alloc (.cells #[.string NM, .slice a n c, .slice a2 n2 c2] 25)).alloc (.cells #[.string T, .slice pa pn pc] 56)) wr)) (fun t' _ => pn - (intOf t').toNat)
  case atStart => exact ⟨0, Nat.zero_le _, rfl, HR, Lib.hid hx1⟩
  case round =>
    clear k0 k1 k2 k3 k4 hx1 hneg d0
    obtain ⟨k, hk, rfl, hv, HX⟩ := hrel
    obtain ⟨k0, k1, k2, k3, k4, ksz⟩ := kept32 HX.out
    by_cases hlt : k < pn
    · obtain ⟨x, hxk⟩ : ∃ x, l[k]? = some x := ⟨_, List.getElem?_eq_getElem (by rw [HN.out]; exact hlt)⟩
      have hxw : Ext w wr := HX.out.before.before
      obtain ⟨u, hu, hur⟩ := HSL.out k hk
      obtain ⟨bb, off, X, ha, hb, rfl, c0⟩ := HL.out.here hxw hxk
      subst ha
      have HV := Lib.hid (hv.out.trans (by rw [cons_drop hxk, Fm.prtGo]))
      have HTK : Hid (t :: l.take (k + 1) = t :: l.take k ++ [X.data.toList]) := Lib.hid (by rw [snoc_take hxk]; rfl)
      have HMC := Lib.hid (met_cons t X.data.toList (l.take k))
      have hbr : bb < wr.heap.size := Nat.lt_of_lt_of_le hb hxw.size
      have hki : (k : Int) < (pn : Int) := by omega
      obtain ⟨z, hz⟩ : ∃ z, numI fs X.data.toList = z := ⟨_, rfl⟩
      have HX1 := HNUM.out X
      have hz2 := HNN.out X.data.toList
      rw [hz] at HX1 hz2
      have HX1 := Lib.hid HX1
      have q0 := ahead_cell k0 (show w.heap.size < wr.heap.size by omega)
      have q1 := ahead_cell k1 (show w.heap.size < wr.heap.size by omega)
      have q2 := ahead_cell k2 (show w.heap.size < wr.heap.size by omega)
      have q3 := ahead_cell k3 (show w.heap.size + 1 < wr.heap.size by omega)
      have q4 := ahead_cell k4 (show w.heap.size + 1 < wr.heap.size by omega)
      have q5 := ahead_cell c0 hbr
      clear hz hv hxk
      by_cases hneg : z < 0
      · rw [hz2.mp hneg, if_neg (by simp)] at HV
        clear hz2
        go_wp2
        refine wp_region_quiet (C := fun w' => ∃ x : Ahead wr, w' = x.at') (by kernel_rfl) (by kernel_rfl) (Ahead.drawn _) ?_
        try dsimp only
        repeat (first | go_big_quiet_step (exact ahead_of (HX1.out _ (hxw.trans (Ahead.ext _)))) | quiet_step (exact ahead_of (HX1.out _ (hxw.trans (Ahead.ext _)))))
        refine wpQuiet_nil ?_
        intro _ hx0
        obtain ⟨x0, hx0⟩ := hx0
        subst hx0
        obtain ⟨w2, hx2⟩ := x0
        try dsimp only
        go_wp2
        go_ret
        exact ⟨ret_int HV.out.symm, (by repeat (first | exact Ext.refl _ | assumption | refine Ext.alloc ?_ _ | refine Ext.drew ?_ | refine Ext.trans ?_ (by assumption)))⟩
      have hc : ns.contains X.data.toList = true := by
        cases h : ns.contains X.data.toList with
        | true => rfl
        | false => exact absurd (hz2.mpr h) hneg
      rw [hc, if_pos rfl] at HV
      clear hz2 hc
      by_cases hq : X.data.toList = t
      · have p1 : (X.toList == T.toList) = true := same_bytes rfl (hq.trans HTT.out.symm)
        have hm : (t :: l.take k).contains X.data.toList = true := by rw [HMC.out, decide_eq_true hq]; rfl
        rw [hm, if_pos rfl] at HV
        clear hq hm HMC
        go_wp2
        refine wp_region_quiet (C := fun w' => ∃ x : Ahead wr, w' = x.at') (by kernel_rfl) (by kernel_rfl) (Ahead.drawn _) ?_
        try dsimp only
        repeat (first | go_big_quiet_step (exact ahead_of (HX1.out _ (hxw.trans (Ahead.ext _)))) | quiet_step (exact ahead_of (HX1.out _ (hxw.trans (Ahead.ext _)))))
        refine wpQuiet_nil ?_
        intro _ hx0
        obtain ⟨x0, hx0⟩ := hx0
        subst hx0
        obtain ⟨w2, hx2⟩ := x0
        try dsimp only
        obtain ⟨-, -, -, m3, m4, -⟩ := kept32 (HX.out.trans hx2)
        have m5 := (hx2.cell (p := ⟨bb, off + k, none⟩) hbr).trans c0
        go_wp2
        go_quiet (fail)
        go_wp2
        go_ret
        exact ⟨ret_int HV.out.symm, (by repeat (first | exact Ext.refl _ | assumption | refine Ext.alloc ?_ _ | refine Ext.drew ?_ | refine Ext.drewN ?_ _ | refine Ext.setCell ?_ (Nat.le_refl _) _ | refine Ext.trans ?_ (by assumption)))⟩
      · have p1 : (X.toList == T.toList) = false := other_bytes rfl (fun e => hq (e.trans HTT.out))
        have HH := Lib.hid (fun (w' : World) (hx' : Ext wr w') => xhas_any u (l.take k) X w' (hur.ext (hxw.trans hx')) (by rw [List.length_take]; omega))
        rw [decide_eq_false hq, Bool.false_or] at HMC
        cases hm : (l.take k).contains X.data.toList with
        | true =>
          rw [HMC.out, hm, if_pos rfl] at HV
          rw [hm] at HH
          clear hq hm HMC hur
          go_wp2
          refine wp_region_quiet (C := fun w' => ∃ x : Ahead wr, w' = x.at') (by kernel_rfl) (by kernel_rfl) (Ahead.drawn _) ?_
          try dsimp only
          repeat (first | go_big_quiet_step (exact ahead_of (HX1.out _ (hxw.trans (Ahead.ext _)))) | quiet_step (exact ahead_of (HX1.out _ (hxw.trans (Ahead.ext _)))))
          refine wpQuiet_nil ?_
          intro _ hx0
          obtain ⟨x0, hx0⟩ := hx0
          subst hx0
          obtain ⟨w2, hx2⟩ := x0
          try dsimp only
          obtain ⟨-, -, -, m3, m4, -⟩ := kept32 (HX.out.trans hx2)
          have m5 := (hx2.cell (p := ⟨bb, off + k, none⟩) hbr).trans c0
          go_wp2
          go_quiet (exact Calls.quiet_of_same ((HH.out _ (by repeat (first | exact Ext.refl _ | assumption | refine Ext.alloc ?_ _ | refine Ext.drew ?_ | refine Ext.drewN ?_ _ | refine Ext.setCell ?_ (Nat.le_refl _) _ | refine Ext.trans ?_ (by assumption)))).mono fun _ _ h => ⟨h.1, h.2.symm⟩))
          go_wp2
          go_ret
          exact ⟨ret_int HV.out.symm, (by repeat (first | exact Ext.refl _ | assumption | refine Ext.alloc ?_ _ | refine Ext.drew ?_ | refine Ext.drewN ?_ _ | refine Ext.setCell ?_ (Nat.le_refl _) _ | refine Ext.trans ?_ (by assumption)))⟩
        | false =>
          rw [HMC.out, hm, if_neg (by simp), ← HTK.out] at HV
          rw [hm] at HH
          clear hq hm HMC hur
          go_wp2
          refine wp_region_quiet (C := fun w' => ∃ x : Ahead wr, w' = x.at') (by kernel_rfl) (by kernel_rfl) (Ahead.drawn _) ?_
          try dsimp only
          repeat (first | go_big_quiet_step (exact ahead_of (HX1.out _ (hxw.trans (Ahead.ext _)))) | quiet_step (exact ahead_of (HX1.out _ (hxw.trans (Ahead.ext _)))))
          refine wpQuiet_nil ?_
          intro _ hx0
          obtain ⟨x0, hx0⟩ := hx0
          subst hx0
          obtain ⟨w2, hx2⟩ := x0
          try dsimp only
          obtain ⟨-, -, -, m3, m4, -⟩ := kept32 (HX.out.trans hx2)
          have m5 := (hx2.cell (p := ⟨bb, off + k, none⟩) hbr).trans c0
          have HX2 := Lib.hid (HX.out.trans hx2)
          clear q0 q1 q2 q3 q4 q5
          go_wp2
          go_quiet (exact Calls.quiet_of_same ((HH.out _ (by repeat (first | exact Ext.refl _ | assumption | refine Ext.alloc ?_ _ | refine Ext.drew ?_ | refine Ext.drewN ?_ _ | refine Ext.setCell ?_ (Nat.le_refl _) _ | refine Ext.trans ?_ (by assumption)))).mono fun _ _ h => ⟨h.1, h.2.symm⟩))
          have HX3 := Lib.hid (HX2.out.drewN nq)
          go_wp2
          go_roundw
          case rel => exact ⟨k + 1, by omega, by go_num, HV, HX3⟩
          case measure => simp [intOf]; omega
    · obtain rfl : k = pn := by omega
      have HF : Hid (res = 0) := Lib.hid (by rw [hv.out, List.drop_of_length_le (by rw [HN.out]; exact Nat.le_refl _)]; rfl)
      have hxw : Ext w wr := HX.out.before.before
      clear hk hlt hv
      go_wp2
      go_ret
      exact ⟨ret_int HF.out.symm, hxw⟩
end Go.Proofs.YtkpfehfcgpapiaaGreatDoor

/-
  Chapter 51: Check: the reference.
  No condition.
-/
namespace Go.Proofs.YtkpfehfcgpapiaaGreatDoor
open Go.RowKit

theorem own_strs {w : World} {B : Nat} {v : Value} {l : List Fm.S} (h : OwnS w B v l) : StrsR w v l := by
  have e : l.map encStr = cellsK enc1 l := by
    induction l with
    | nil => rfl
    | cons x l ih =>
      show encStr x :: l.map encStr = [strV x] ++ cellsK enc1 l
      rw [← show l.map encStr = cellsK enc1 l from ?_]
      · rfl
      · clear h ih
        induction l with
        | nil => rfl
        | cons x l ih => show encStr x :: l.map encStr = [strV x] ++ cellsK enc1 l; rw [ih]; rfl
  unfold OwnS at h
  rw [e] at h
  exact KOwn.strs h

set_option maxRecDepth 100000 in
set_option maxHeartbeats 4000000 in
theorem xcheck_any (NM : ByteArray) (a : Option Addr) (n c : Nat) (a2 : Option Addr) (n2 c2 : Nat) (fs : List Fm.Fld) (ss : List Fm.Sm) (w : World) (hf : FldsR w (.slice a n c) fs) (hm : SumsR w (.slice a2 n2 c2) ss) (hB : ∀ f ∈ fs, FldB f) (hM : ∀ r ∈ ss, SmB r) (hN0 : n ≤ 9223372036854775807) :
    Calls Tryz.prog 19 #[.agg #[.string NM, .slice a n c, .slice a2 n2 c2]] w fun e w' => e = .returned (.int .i64 (Fm.check ⟨NM.data.toList, fs, ss⟩)) ∧ Ext w w' := by
  obtain ⟨a', c', he⟩ := hf.form
  injection he with e1 e2 e3
  subst e1 e3
  obtain ⟨a', c', he⟩ := hm.form
  injection he with e1 e4 e3
  subst e1 e3
  have HR := Lib.hid (Fm.check.eq_1 ⟨NM.data.toList, fs, ss⟩)
  dsimp only at HR
  generalize Fm.check ⟨NM.data.toList, fs, ss⟩ = res at *
  rw [← e2, ← e4] at HR
  have HN := Lib.hid e2.symm
  have HN2 := Lib.hid e4.symm
  have HF := Lib.hid hf
  have HS := Lib.hid hm
  have HB := Lib.hid hB
  have HM := Lib.hid hM
  clear hf hm hB hM e2 e4
  have HW := Lib.hid (fun w => xname_any NM w)
  cases hw : Fm.isName NM.data.toList with
  | false =>
    rw [hw] at HW HR
    have HX : Hid (res = 36) := Lib.hid (by rw [HR.out]; rfl)
    clear hw HR
    go_enter Tryz.func19, Tryz.ntmps19
    go_wp2_with fail
    refine (HW.out _).mono ?_
    rintro e w1 ⟨rfl, rfl⟩
    go_wp2
    go_ret
    exact ⟨ret_int HX.out.symm, (by repeat (first | exact Ext.refl _ | assumption | refine Ext.alloc ?_ _ | refine Ext.drew ?_ | refine Ext.trans ?_ (by assumption)))⟩
  | true =>
  rw [hw] at HW HR
  rw [if_neg (by simp)] at HR
  clear hw
  by_cases h0 : n = 0
  · have d0 : ((n : Int) == 0) = true := by rw [h0]; rfl
    rw [if_pos h0] at HR
    clear h0
    go_enter Tryz.func19, Tryz.ntmps19
    go_wp2_with fail
    refine (HW.out _).mono ?_
    rintro e w1 ⟨rfl, rfl⟩
    go_wp2
    go_ret
    exact ⟨ret_int HR.out.symm, (by repeat (first | exact Ext.refl _ | assumption | refine Ext.alloc ?_ _ | refine Ext.drew ?_ | refine Ext.trans ?_ (by assumption)))⟩
  have d0 : ((n : Int) == 0) = false := by rw [beq_eq_false_iff_ne]; omega
  rw [if_neg h0] at HR
  by_cases h1 : 256 < n
  · have d1 : (256 : Int) < (n : Int) := by omega
    rw [if_pos (.inl h1)] at HR
    clear h0 h1
    go_enter Tryz.func19, Tryz.ntmps19
    go_wp2_with fail
    refine (HW.out _).mono ?_
    rintro e w1 ⟨rfl, rfl⟩
    go_wp2
    go_ret
    exact ⟨ret_int HR.out.symm, (by repeat (first | exact Ext.refl _ | assumption | refine Ext.alloc ?_ _ | refine Ext.drew ?_ | refine Ext.trans ?_ (by assumption)))⟩
  have d1 : ¬ (256 : Int) < (n : Int) := by omega
  by_cases h2 : 256 < n2
  · have d2 : (256 : Int) < (n2 : Int) := by omega
    rw [if_pos (.inr h2)] at HR
    clear h0 h1 h2
    go_enter Tryz.func19, Tryz.ntmps19
    go_wp2_with fail
    refine (HW.out _).mono ?_
    rintro e w1 ⟨rfl, rfl⟩
    go_wp2
    go_ret
    exact ⟨ret_int HR.out.symm, (by repeat (first | exact Ext.refl _ | assumption | refine Ext.alloc ?_ _ | refine Ext.drew ?_ | refine Ext.trans ?_ (by assumption)))⟩
  have d2 : ¬ (256 : Int) < (n2 : Int) := by omega
  rw [if_neg (by omega)] at HR
  have hn : n ≤ 256 := by omega
  have hn2 : n2 ≤ 256 := by omega
  clear h0 h1 h2
  obtain ⟨SG, hSG⟩ : ∃ SG, Fm.sumsGo (Fm.nums fs) ss = SG := ⟨_, rfl⟩
  have HSG := Lib.hid hSG
  rw [hSG] at HR
  replace HR : Hid (res = thenE (Fm.fldsGo [] fs) SG) := HR
  clear hSG
  go_enter Tryz.func19, Tryz.ntmps19
  go_wp2_with fail
  refine (HW.out _).mono ?_
  rintro e w1 ⟨rfl, rfl⟩
  go_wp2
  go_loopw [3, 4] (fun v t wr => ∃ k : Nat, k ≤ n ∧ t = .int .i64 (k : Int) ∧ Hid (res = thenE (Fm.fldsGo ((fs.take k).map (·.name)) (fs.drop k)) SG) ∧ Hid (OwnS wr (w.heap.size + 1) v ((fs.take k).map (·.name))) ∧ Hid (Ext (w.alloc (.cells #[.string NM, .slice a n c, .slice a2 n2 c2] 25)) wr)) (fun _ t _ => n - (intOf t).toNat)
  case atStart => exact ⟨0, Nat.zero_le _, rfl, HR, Lib.hid (OwnS.nil _ _), Lib.hid (by repeat (first | exact Ext.refl _ | assumption | refine Ext.alloc ?_ _ | refine Ext.drew ?_ | refine Ext.trans ?_ (by assumption)))⟩
  case round =>
    obtain ⟨k, hk, rfl, hv, HO, HX⟩ := hrel
    obtain ⟨m0, m1, m2⟩ := kept3 HX.out
    by_cases hlt : k < n
    · obtain ⟨f, hfk⟩ : ∃ f, fs[k]? = some f := ⟨_, List.getElem?_eq_getElem (by rw [HN.out]; exact hlt)⟩
      have hxw : Ext w wr := HX.out.before
      obtain ⟨b, o, X, op, mn, mx, ck, la, ln, lc, l, opt, ha, hb, rfl, hl, c0, c1, c2', c3, c4, c5, c6⟩ := HF.out.here hxw hfk
      subst ha
      obtain ⟨b1, b2, b3⟩ := HB.out _ (List.mem_of_getElem? hfk)
      dsimp only at b1 b2 b3
      have HV := Lib.hid hv.out
      have e0 : fs.drop k = ⟨X.data.toList, op, mn, mx, ck, l, opt⟩ :: fs.drop (k + 1) := cons_drop hfk
      rw [e0, Fm.fldsGo] at HV
      have HNM := Lib.hid (names_snoc hfk)
      dsimp only at HV HNM
      have HNL := Lib.hid (take_len fs k)
      clear hv e0 hfk
      have hki : (k : Int) < (n : Int) := by omega
      have HW := Lib.hid (fun w => xname_any X w)
      have HH := Lib.hid (xhas_any _ ((fs.take k).map (·.name)) X wr (own_strs HO.out) (by rw [List.length_map]; have := HNL.out; omega))
      have HMB := Lib.hid (xmembers_any X op mn mx ck la ln lc opt l wr (hl.ext hxw) b2 b3)
      have hxd : Hid (X.data.toList = X.data.toList) := Lib.hid rfl
      generalize hxx : X.data.toList = x at *
      cases hw : Fm.isName x with
      | false =>
        rw [hw, if_neg (by simp), thenE_bad (by decide)] at HV
        rw [hw] at HW
        clear hw hxx
        go_wp2_with fail
        refine (HW.out _).mono ?_
        rintro e w1 ⟨rfl, rfl⟩
        go_wp2
        go_ret
        exact ⟨ret_int HV.out.symm, hxw⟩
      | true =>
        rw [hw, if_pos rfl] at HV
        rw [hw] at HW
        cases hc : ((fs.take k).map (·.name)).contains x with
        | true =>
          rw [hc, if_pos rfl, thenE_bad (by decide)] at HV
          rw [hc] at HH
          clear hw hc hxx
          go_wp2_with fail
          refine (HW.out _).mono ?_
          rintro e w1 ⟨rfl, rfl⟩
          go_wp2_with fail
          refine HH.out.mono ?_
          rintro e w1 ⟨rfl, rfl⟩
          go_wp2
          go_ret
          exact ⟨ret_int HV.out.symm, hxw⟩
        | false =>
          rw [hc, if_neg (by simp), ← HNM.out] at HV
          rw [hc] at HH
          have HXX := Lib.hid hxx
          clear hw hc hxx
          generalize Fm.memE ⟨x, op, mn, mx, ck, l, opt⟩ = z at *
          by_cases hz : z = 0
          · rw [if_pos hz] at HV
            rw [hz] at HMB
            clear hz
            go_wp2_with fail
            refine (HW.out _).mono ?_
            rintro e w1 ⟨rfl, rfl⟩
            go_wp2_with fail
            refine HH.out.mono ?_
            rintro e w1 ⟨rfl, rfl⟩
            go_wp2_with fail
            refine HMB.out.mono ?_
            rintro e w4 ⟨rfl, hx4⟩
            obtain ⟨-, j1, -⟩ := kept3 (HX.out.trans hx4)
            have j0 := (hx4.cell (p := ⟨b, o + k * 7, none⟩) (Nat.lt_of_lt_of_le hb hxw.size)).trans c0
            have hown := HO.out.ext hx4
            have hs4 := (HX.out.trans hx4).size
            rw [World.size_alloc] at hs4
            have HX4 := Lib.hid (HX.out.trans hx4)
            clear c0 c1 c2' c3 c4 c5 c6 m0 m1 m2
            go_wp2_with (at_builtin; refine wpList_append_str rfl _ _ rfl (w.heap.size + 1) _ _ rfl (hown.alloc _) X _ rfl ?c1 ?c2 ?c3 ?_)
            case c1 => simp [go_sem]
            case c2 => rw [List.length_map]; have := HNL.out; omega
            case c3 => simp; omega
            intro v' w5 hown5 hg5
            have hx5 := ((HX4.out).alloc (.cells #[.string X] 9)).ofGrown hg5 (fun q hq => by have := hown.low q hq; simp; omega)
            have HO5 : Hid (OwnS w5 (w.heap.size + 1) v' ((fs.take (k + 1)).map (·.name))) := Lib.hid (by rw [HNM.out, List.map_take, ← HXX.out]; exact hown5)
            have HX5 := Lib.hid hx5
            clear j0 j1 hown hown5 hg5 hx5 hx4 hs4
            go_wp2
            go_roundw
            case rel => exact ⟨k + 1, by omega, by go_num, HV, HO5, HX5⟩
            case measure => simp [intOf]; omega
          · rw [if_neg hz, thenE_bad hz] at HV
            have hz1 : (z == 0) = false := beq_eq_false_iff_ne.2 hz
            clear hz
            go_wp2_with fail
            refine (HW.out _).mono ?_
            rintro e w1 ⟨rfl, rfl⟩
            go_wp2_with fail
            refine HH.out.mono ?_
            rintro e w1 ⟨rfl, rfl⟩
            go_wp2_with fail
            refine HMB.out.mono ?_
            rintro e w4 ⟨rfl, hx4⟩
            clear c0 c1 c2' c3 c4 c5 c6
            go_wp2
            go_ret
            exact ⟨ret_int HV.out.symm, hxw.trans hx4⟩
    · obtain rfl : k = n := by omega
      have HZ : Hid (res = SG) := Lib.hid (by
        have := hv.out
        rw [List.drop_of_length_le (by rw [HN.out]; exact Nat.le_refl _)] at this
        exact this)
      rw [HSG.out.symm] at HZ
      have HSUM := Lib.hid (fun (T : ByteArray) (pa : Option Addr) (pn pc : Nat) (l : List Fm.S) (w' : World) (hx : Ext w w') (hl : StrsR w (.slice pa pn pc) l) (hp : pn ≤ 9223372036854775807) => xsum_any NM a k c a2 n2 c2 fs T pa pn pc l w' (HF.out.ext hx) hN0 (hl.ext hx) hp)
      generalize Fm.nums fs = ns at *
      clear hv hlt hk HO
      obtain ⟨W, hWw⟩ : ∃ W, W = wr := ⟨_, rfl⟩
      subst hWw
      go_wp2
      go_loopw [6] (fun t wq => ∃ q : Nat, q ≤ n2 ∧ t = .int .i64 (q : Int) ∧ Hid (res = Fm.sumsGo ns (ss.drop q)) ∧ Hid (Ext (w.alloc (.cells #[.string NM, .slice a k c, .slice a2 n2 c2] 25)) wq)) (fun t _ => n2 - (intOf t).toNat)
      case atStart => exact ⟨0, Nat.zero_le _, rfl, HZ, HX⟩
      case round =>
        clear HX HZ m0 m1 m2
        obtain ⟨j, hj, rfl, hv, HX⟩ := hrel
        obtain ⟨m0, m1, m2⟩ := kept3 HX.out
        by_cases hlt : j < n2
        · obtain ⟨f, hfk⟩ : ∃ f, ss[j]? = some f := ⟨_, List.getElem?_eq_getElem (by rw [HN2.out]; exact hlt)⟩
          have hxw : Ext w wr := HX.out.before
          obtain ⟨b, o, X, la, ln, lc, l, ha, hb, rfl, hl, c0, c1⟩ := HS.out.here hxw hfk
          subst ha
          obtain ⟨b1, b2, b3⟩ := HM.out _ (List.mem_of_getElem? hfk)
          dsimp only at b1 b2 b3
          have e0 : ss.drop j = ⟨X.data.toList, l⟩ :: ss.drop (j + 1) := cons_drop hfk
          have HV := Lib.hid hv.out
          rw [e0, Fm.sumsGo] at HV
          have hln : ln ≤ 9223372036854775807 := by
            obtain ⟨_, _, he, _⟩ := hl.form
            injection he with _ h2
            rw [h2]; exact b3
          have HCS := Lib.hid (fun (w' : World) (hx : Ext w w') => HSUM.out X la ln lc l w' hx hl hln)
          have hji : (j : Int) < (n2 : Int) := by omega
          have hwz : w.heap.size < wr.heap.size := by have := HX.out.size; rw [World.size_alloc] at this; omega
          have q0 := ahead_cell m0 hwz
          have q1 := ahead_cell m1 hwz
          have q2 := ahead_cell m2 hwz
          have q3 := ahead_cell c0 (Nat.lt_of_lt_of_le hb hxw.size)
          have q4 := ahead_cell c1 (Nat.lt_of_lt_of_le hb hxw.size)
          clear e0 hfk hv hl hln
          generalize Fm.sumE ns ⟨X.data.toList, l⟩ = z at *
          by_cases hz : z = 0
          · rw [if_pos hz] at HV
            rw [hz] at HCS
            clear hz
            go_wp2
            refine wp_region_quiet (C := fun w' => ∃ x : Ahead wr, w' = x.at') (by kernel_rfl) (by kernel_rfl) (Ahead.drawn _) ?_
            try dsimp only
            repeat (first | go_big_quiet_step (exact ahead_of (HCS.out _ (hxw.trans (Ahead.ext _)))) | quiet_step (exact ahead_of (HCS.out _ (hxw.trans (Ahead.ext _)))))
            refine wpQuiet_nil ?_
            intro _ hx0
            obtain ⟨x0, hx0⟩ := hx0
            subst hx0
            obtain ⟨w4, hx4⟩ := x0
            try dsimp only
            have HX4 := Lib.hid (HX.out.trans hx4)
            clear c0 c1 hx4 q0 q1 q2 q3 q4
            go_wp2
            go_roundw
            case rel => exact ⟨j + 1, by omega, by go_num, HV, HX4⟩
            case measure => simp [intOf]; omega
          · rw [if_neg hz] at HV
            have hz1 : (z == 0) = false := beq_eq_false_iff_ne.2 hz
            clear hz
            go_wp2
            refine wp_region_quiet (C := fun w' => ∃ x : Ahead wr, w' = x.at') (by kernel_rfl) (by kernel_rfl) (Ahead.drawn _) ?_
            try dsimp only
            repeat (first | go_big_quiet_step (exact ahead_of (HCS.out _ (hxw.trans (Ahead.ext _)))) | quiet_step (exact ahead_of (HCS.out _ (hxw.trans (Ahead.ext _)))))
            refine wpQuiet_nil ?_
            intro _ hx0
            obtain ⟨x0, hx0⟩ := hx0
            subst hx0
            obtain ⟨w4, hx4⟩ := x0
            try dsimp only
            clear q0 q1 q2 q3 q4
            go_wp2
            go_ret
            exact ⟨ret_int HV.out.symm, hxw.trans hx4⟩
        · obtain rfl : j = n2 := by omega
          have HF : Hid (res = 0) := Lib.hid (by rw [hv.out, List.drop_of_length_le (by rw [HN2.out]; exact Nat.le_refl _)]; rfl)
          have hx5 := HX.out.before
          clear hj hlt hv
          go_wp2
          go_ret
          exact ⟨ret_int HF.out.symm, hx5⟩
end Go.Proofs.YtkpfehfcgpapiaaGreatDoor
