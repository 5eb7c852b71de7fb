/-
  Chapter 12: the reference's Full and Plain, walked; the law TwowidthFulls.
  Condition: the strings are within the reach.
-/
import Derived.Test.YthjlnpcaclfopaaGreatTwL1
import Derived.Test.YthjlnpcaclfopaaGreatPlc
namespace Go.Proofs.YthjlnpcaclfopaaGreat
open Go.RowKit

theorem rep_mark (c : UInt8) (lo hi sh ch : Nat) (j : Nat) (hj : j < 13) (ht : repT.getD j (0, 0, 0, 0) = (lo, hi, sh, ch)) (h1 : lo ≤ c.toNat) (h2 : c.toNat ≤ hi) (x : Int) (hx : x = (ch : Int) + c.toNat - lo) :
    ((⟨#[UInt8.ofNat sh]⟩ : ByteArray) ++ strOfNums [x]).data.toList = Tw.rep c := by
  have := rep_at j hj c lo hi sh ch ht h1 h2 x hx
  injection this with this
  have h3 := congrArg (fun b : ByteArray => b.data.toList) this
  simp only [strOfNums_data, List.map_cons, List.map_nil] at h3
  rw [app2, strOfNums_data]
  simp only [List.map_cons, List.map_nil]
  simpa using h3

set_option maxHeartbeats 1000000 in
theorem mark_any (sg : ByteArray) (c lo ch : Int) (w : World) (hs : sg.size ≤ 10) (h1 : lo ≤ c) (h2 : ch + c ≤ 255) (h3 : 0 ≤ lo) (h4 : 0 ≤ ch) :
    Calls Tryz.prog 49 #[.string sg, .int .u8 c, .int .u8 lo, .int .u8 ch] w fun e w' => e = .returned (.string (sg ++ strOfNums [ch + c - lo])) ∧ Ext w w' := by
  have hcv := run_str1
  have hsz : (strOfNums [ch + c - lo]).size = 1 := strOfNums_size _
  go_enter Tryz.func49, Tryz.ntmps49
  go_wp2
  go_ret
  exact ⟨rfl, (by repeat (first | exact Ext.refl _ | assumption | refine Ext.alloc ?_ _ | refine Ext.drew ?_ | refine Ext.trans ?_ (by assumption)))⟩

theorem strV_of {a : ByteArray} {l : List UInt8} (h : a.data.toList = l) : Ending.returned (.string a) = .returned (strV l) := by rw [← h]; unfold strV; rw [mk_toList]

set_option maxRecDepth 100000 in
set_option maxHeartbeats 8000000 in
theorem rfull1_any (c : UInt8) (w : World) (hc : c.toNat ≤ 127) :
    Calls Tryz.prog 32 #[.int .u8 (c.toNat : Int)] w fun e w' => e = .returned (strV (Tw.rep c)) ∧ Ext w w' := by
  have HR := Lib.hid (rep_mark c)
  have HO := Lib.hid (rep_out ⟨c.toNat, c.toNat_lt⟩)
  have hcv := run_str1
  have hrg : (0 ≤ c.toNat ∧ c.toNat ≤ 0) ∨ (1 ≤ c.toNat ∧ c.toNat ≤ 26) ∨ (27 ≤ c.toNat ∧ c.toNat ≤ 31) ∨ (32 ≤ c.toNat ∧ c.toNat ≤ 32) ∨ (33 ≤ c.toNat ∧ c.toNat ≤ 44) ∨ (45 ≤ c.toNat ∧ c.toNat ≤ 46) ∨ (47 ≤ c.toNat ∧ c.toNat ≤ 47) ∨ (48 ≤ c.toNat ∧ c.toNat ≤ 57) ∨ (58 ≤ c.toNat ∧ c.toNat ≤ 58) ∨ (59 ≤ c.toNat ∧ c.toNat ≤ 63) ∨ (64 ≤ c.toNat ∧ c.toNat ≤ 64) ∨ (65 ≤ c.toNat ∧ c.toNat ≤ 90) ∨ (91 ≤ c.toNat ∧ c.toNat ≤ 95) ∨ (96 ≤ c.toNat ∧ c.toNat ≤ 96) ∨ (97 ≤ c.toNat ∧ c.toNat ≤ 122) ∨ (123 ≤ c.toNat ∧ c.toNat ≤ 126) ∨ (127 ≤ c.toNat ∧ c.toNat ≤ 127) := by omega
  rcases hrg with ⟨g1, g2⟩ | ⟨g1, g2⟩ | ⟨g1, g2⟩ | ⟨g1, g2⟩ | ⟨g1, g2⟩ | ⟨g1, g2⟩ | ⟨g1, g2⟩ | ⟨g1, g2⟩ | ⟨g1, g2⟩ | ⟨g1, g2⟩ | ⟨g1, g2⟩ | ⟨g1, g2⟩ | ⟨g1, g2⟩ | ⟨g1, g2⟩ | ⟨g1, g2⟩ | ⟨g1, g2⟩ | ⟨g1, g2⟩
  · have t0 : ((c.toNat : Int) == 0) = true := beq_iff_eq.2 (by omega)
    have t1 : decide ((c.toNat : Int) ≤ 26) = true := by simp; omega
    have t2 : decide ((c.toNat : Int) ≤ 31) = true := by simp; omega
    have t3 : decide (33 ≤ (c.toNat : Int)) = false := by simp; omega
    have t4 : decide ((c.toNat : Int) ≤ 44) = true := by simp; omega
    have t5 : ((c.toNat : Int) == 47) = false := beq_eq_false_iff_ne.2 (by omega)
    have t6 : ((c.toNat : Int) == 58) = false := beq_eq_false_iff_ne.2 (by omega)
    have t7 : decide (59 ≤ (c.toNat : Int)) = false := by simp; omega
    have t8 : decide ((c.toNat : Int) ≤ 63) = true := by simp; omega
    have t9 : ((c.toNat : Int) == 64) = false := beq_eq_false_iff_ne.2 (by omega)
    have t10 : decide (91 ≤ (c.toNat : Int)) = false := by simp; omega
    have t11 : decide ((c.toNat : Int) ≤ 95) = true := by simp; omega
    have t12 : ((c.toNat : Int) == 96) = false := beq_eq_false_iff_ne.2 (by omega)
    have t13 : decide (97 ≤ (c.toNat : Int)) = false := by simp; omega
    have t14 : decide ((c.toNat : Int) ≤ 122) = true := by simp; omega
    have t15 : decide (123 ≤ (c.toNat : Int)) = false := by simp; omega
    go_enter Tryz.func32, Tryz.ntmps32
    go_wp2
    go_ret
    obtain rfl : c = 0 := UInt8.toNat_inj.1 (by have : (0 : UInt8).toNat = 0 := rfl; omega)
    exact ⟨rfl, Ext.refl _⟩
  · have t0 : ((c.toNat : Int) == 0) = false := beq_eq_false_iff_ne.2 (by omega)
    have t1 : decide ((c.toNat : Int) ≤ 26) = true := by simp; omega
    have t2 : decide ((c.toNat : Int) ≤ 31) = true := by simp; omega
    have t3 : decide (33 ≤ (c.toNat : Int)) = false := by simp; omega
    have t4 : decide ((c.toNat : Int) ≤ 44) = true := by simp; omega
    have t5 : ((c.toNat : Int) == 47) = false := beq_eq_false_iff_ne.2 (by omega)
    have t6 : ((c.toNat : Int) == 58) = false := beq_eq_false_iff_ne.2 (by omega)
    have t7 : decide (59 ≤ (c.toNat : Int)) = false := by simp; omega
    have t8 : decide ((c.toNat : Int) ≤ 63) = true := by simp; omega
    have t9 : ((c.toNat : Int) == 64) = false := beq_eq_false_iff_ne.2 (by omega)
    have t10 : decide (91 ≤ (c.toNat : Int)) = false := by simp; omega
    have t11 : decide ((c.toNat : Int) ≤ 95) = true := by simp; omega
    have t12 : ((c.toNat : Int) == 96) = false := beq_eq_false_iff_ne.2 (by omega)
    have t13 : decide (97 ≤ (c.toNat : Int)) = false := by simp; omega
    have t14 : decide ((c.toNat : Int) ≤ 122) = true := by simp; omega
    have t15 : decide (123 ≤ (c.toNat : Int)) = false := by simp; omega
    have HM := Lib.hid (fun w => mark_any ⟨#[36]⟩ (c.toNat : Int) 1 65 w (by decide) (by omega) (by omega) (by omega) (by omega))
    go_enter Tryz.func32, Tryz.ntmps32
    go_wp2_with fail
    refine (HM.out _).mono ?_
    rintro e w1 ⟨rfl, hx⟩
    go_wp2
    go_ret
    exact ⟨strV_of (HR.out 1 26 36 65 1 (by omega) rfl (by omega) (by omega) _ (by omega)), hx⟩
  · have t0 : ((c.toNat : Int) == 0) = false := beq_eq_false_iff_ne.2 (by omega)
    have t1 : decide ((c.toNat : Int) ≤ 26) = false := by simp; omega
    have t2 : decide ((c.toNat : Int) ≤ 31) = true := by simp; omega
    have t3 : decide (33 ≤ (c.toNat : Int)) = false := by simp; omega
    have t4 : decide ((c.toNat : Int) ≤ 44) = true := by simp; omega
    have t5 : ((c.toNat : Int) == 47) = false := beq_eq_false_iff_ne.2 (by omega)
    have t6 : ((c.toNat : Int) == 58) = false := beq_eq_false_iff_ne.2 (by omega)
    have t7 : decide (59 ≤ (c.toNat : Int)) = false := by simp; omega
    have t8 : decide ((c.toNat : Int) ≤ 63) = true := by simp; omega
    have t9 : ((c.toNat : Int) == 64) = false := beq_eq_false_iff_ne.2 (by omega)
    have t10 : decide (91 ≤ (c.toNat : Int)) = false := by simp; omega
    have t11 : decide ((c.toNat : Int) ≤ 95) = true := by simp; omega
    have t12 : ((c.toNat : Int) == 96) = false := beq_eq_false_iff_ne.2 (by omega)
    have t13 : decide (97 ≤ (c.toNat : Int)) = false := by simp; omega
    have t14 : decide ((c.toNat : Int) ≤ 122) = true := by simp; omega
    have t15 : decide (123 ≤ (c.toNat : Int)) = false := by simp; omega
    have HM := Lib.hid (fun w => mark_any ⟨#[37]⟩ (c.toNat : Int) 27 65 w (by decide) (by omega) (by omega) (by omega) (by omega))
    go_enter Tryz.func32, Tryz.ntmps32
    go_wp2_with fail
    refine (HM.out _).mono ?_
    rintro e w1 ⟨rfl, hx⟩
    go_wp2
    go_ret
    exact ⟨strV_of (HR.out 27 31 37 65 2 (by omega) rfl (by omega) (by omega) _ (by omega)), hx⟩
  · have t0 : ((c.toNat : Int) == 0) = false := beq_eq_false_iff_ne.2 (by omega)
    have t1 : decide ((c.toNat : Int) ≤ 26) = false := by simp; omega
    have t2 : decide ((c.toNat : Int) ≤ 31) = false := by simp; omega
    have t3 : decide (33 ≤ (c.toNat : Int)) = false := by simp; omega
    have t4 : decide ((c.toNat : Int) ≤ 44) = true := by simp; omega
    have t5 : ((c.toNat : Int) == 47) = false := beq_eq_false_iff_ne.2 (by omega)
    have t6 : ((c.toNat : Int) == 58) = false := beq_eq_false_iff_ne.2 (by omega)
    have t7 : decide (59 ≤ (c.toNat : Int)) = false := by simp; omega
    have t8 : decide ((c.toNat : Int) ≤ 63) = true := by simp; omega
    have t9 : ((c.toNat : Int) == 64) = false := beq_eq_false_iff_ne.2 (by omega)
    have t10 : decide (91 ≤ (c.toNat : Int)) = false := by simp; omega
    have t11 : decide ((c.toNat : Int) ≤ 95) = true := by simp; omega
    have t12 : ((c.toNat : Int) == 96) = false := beq_eq_false_iff_ne.2 (by omega)
    have t13 : decide (97 ≤ (c.toNat : Int)) = false := by simp; omega
    have t14 : decide ((c.toNat : Int) ≤ 122) = true := by simp; omega
    have t15 : decide (123 ≤ (c.toNat : Int)) = false := by simp; omega
    go_enter Tryz.func32, Tryz.ntmps32
    go_wp2
    go_ret
    refine ⟨strV_of ?_, (by repeat (first | exact Ext.refl _ | assumption | refine Ext.alloc ?_ _ | refine Ext.drew ?_ | refine Ext.trans ?_ (by assumption)))⟩
    have := HO.out (fun j => by
      match j with
      | ⟨0, _⟩ => show ¬ (0 ≤ c.toNat ∧ c.toNat ≤ 0); omega
      | ⟨1, _⟩ => show ¬ (1 ≤ c.toNat ∧ c.toNat ≤ 26); omega
      | ⟨2, _⟩ => show ¬ (27 ≤ c.toNat ∧ c.toNat ≤ 31); omega
      | ⟨3, _⟩ => show ¬ (33 ≤ c.toNat ∧ c.toNat ≤ 44); omega
      | ⟨4, _⟩ => show ¬ (47 ≤ c.toNat ∧ c.toNat ≤ 47); omega
      | ⟨5, _⟩ => show ¬ (58 ≤ c.toNat ∧ c.toNat ≤ 58); omega
      | ⟨6, _⟩ => show ¬ (59 ≤ c.toNat ∧ c.toNat ≤ 63); omega
      | ⟨7, _⟩ => show ¬ (64 ≤ c.toNat ∧ c.toNat ≤ 64); omega
      | ⟨8, _⟩ => show ¬ (91 ≤ c.toNat ∧ c.toNat ≤ 95); omega
      | ⟨9, _⟩ => show ¬ (96 ≤ c.toNat ∧ c.toNat ≤ 96); omega
      | ⟨10, _⟩ => show ¬ (97 ≤ c.toNat ∧ c.toNat ≤ 122); omega
      | ⟨11, _⟩ => show ¬ (123 ≤ c.toNat ∧ c.toNat ≤ 126); omega
      | ⟨12, _⟩ => show ¬ (127 ≤ c.toNat ∧ c.toNat ≤ 127); omega)
    simp only [ofNat_toNat] at this
    rw [← this, strOfNums_data]
    simp
  · have t0 : ((c.toNat : Int) == 0) = false := beq_eq_false_iff_ne.2 (by omega)
    have t1 : decide ((c.toNat : Int) ≤ 26) = false := by simp; omega
    have t2 : decide ((c.toNat : Int) ≤ 31) = false := by simp; omega
    have t3 : decide (33 ≤ (c.toNat : Int)) = true := by simp; omega
    have t4 : decide ((c.toNat : Int) ≤ 44) = true := by simp; omega
    have t5 : ((c.toNat : Int) == 47) = false := beq_eq_false_iff_ne.2 (by omega)
    have t6 : ((c.toNat : Int) == 58) = false := beq_eq_false_iff_ne.2 (by omega)
    have t7 : decide (59 ≤ (c.toNat : Int)) = false := by simp; omega
    have t8 : decide ((c.toNat : Int) ≤ 63) = true := by simp; omega
    have t9 : ((c.toNat : Int) == 64) = false := beq_eq_false_iff_ne.2 (by omega)
    have t10 : decide (91 ≤ (c.toNat : Int)) = false := by simp; omega
    have t11 : decide ((c.toNat : Int) ≤ 95) = true := by simp; omega
    have t12 : ((c.toNat : Int) == 96) = false := beq_eq_false_iff_ne.2 (by omega)
    have t13 : decide (97 ≤ (c.toNat : Int)) = false := by simp; omega
    have t14 : decide ((c.toNat : Int) ≤ 122) = true := by simp; omega
    have t15 : decide (123 ≤ (c.toNat : Int)) = false := by simp; omega
    have HM := Lib.hid (fun w => mark_any ⟨#[47]⟩ (c.toNat : Int) 33 65 w (by decide) (by omega) (by omega) (by omega) (by omega))
    go_enter Tryz.func32, Tryz.ntmps32
    go_wp2_with fail
    refine (HM.out _).mono ?_
    rintro e w1 ⟨rfl, hx⟩
    go_wp2
    go_ret
    exact ⟨strV_of (HR.out 33 44 47 65 3 (by omega) rfl (by omega) (by omega) _ (by omega)), hx⟩
  · have t0 : ((c.toNat : Int) == 0) = false := beq_eq_false_iff_ne.2 (by omega)
    have t1 : decide ((c.toNat : Int) ≤ 26) = false := by simp; omega
    have t2 : decide ((c.toNat : Int) ≤ 31) = false := by simp; omega
    have t3 : decide (33 ≤ (c.toNat : Int)) = true := by simp; omega
    have t4 : decide ((c.toNat : Int) ≤ 44) = false := by simp; omega
    have t5 : ((c.toNat : Int) == 47) = false := beq_eq_false_iff_ne.2 (by omega)
    have t6 : ((c.toNat : Int) == 58) = false := beq_eq_false_iff_ne.2 (by omega)
    have t7 : decide (59 ≤ (c.toNat : Int)) = false := by simp; omega
    have t8 : decide ((c.toNat : Int) ≤ 63) = true := by simp; omega
    have t9 : ((c.toNat : Int) == 64) = false := beq_eq_false_iff_ne.2 (by omega)
    have t10 : decide (91 ≤ (c.toNat : Int)) = false := by simp; omega
    have t11 : decide ((c.toNat : Int) ≤ 95) = true := by simp; omega
    have t12 : ((c.toNat : Int) == 96) = false := beq_eq_false_iff_ne.2 (by omega)
    have t13 : decide (97 ≤ (c.toNat : Int)) = false := by simp; omega
    have t14 : decide ((c.toNat : Int) ≤ 122) = true := by simp; omega
    have t15 : decide (123 ≤ (c.toNat : Int)) = false := by simp; omega
    go_enter Tryz.func32, Tryz.ntmps32
    go_wp2
    go_ret
    refine ⟨strV_of ?_, (by repeat (first | exact Ext.refl _ | assumption | refine Ext.alloc ?_ _ | refine Ext.drew ?_ | refine Ext.trans ?_ (by assumption)))⟩
    have := HO.out (fun j => by
      match j with
      | ⟨0, _⟩ => show ¬ (0 ≤ c.toNat ∧ c.toNat ≤ 0); omega
      | ⟨1, _⟩ => show ¬ (1 ≤ c.toNat ∧ c.toNat ≤ 26); omega
      | ⟨2, _⟩ => show ¬ (27 ≤ c.toNat ∧ c.toNat ≤ 31); omega
      | ⟨3, _⟩ => show ¬ (33 ≤ c.toNat ∧ c.toNat ≤ 44); omega
      | ⟨4, _⟩ => show ¬ (47 ≤ c.toNat ∧ c.toNat ≤ 47); omega
      | ⟨5, _⟩ => show ¬ (58 ≤ c.toNat ∧ c.toNat ≤ 58); omega
      | ⟨6, _⟩ => show ¬ (59 ≤ c.toNat ∧ c.toNat ≤ 63); omega
      | ⟨7, _⟩ => show ¬ (64 ≤ c.toNat ∧ c.toNat ≤ 64); omega
      | ⟨8, _⟩ => show ¬ (91 ≤ c.toNat ∧ c.toNat ≤ 95); omega
      | ⟨9, _⟩ => show ¬ (96 ≤ c.toNat ∧ c.toNat ≤ 96); omega
      | ⟨10, _⟩ => show ¬ (97 ≤ c.toNat ∧ c.toNat ≤ 122); omega
      | ⟨11, _⟩ => show ¬ (123 ≤ c.toNat ∧ c.toNat ≤ 126); omega
      | ⟨12, _⟩ => show ¬ (127 ≤ c.toNat ∧ c.toNat ≤ 127); omega)
    simp only [ofNat_toNat] at this
    rw [← this, strOfNums_data]
    simp
  · have t0 : ((c.toNat : Int) == 0) = false := beq_eq_false_iff_ne.2 (by omega)
    have t1 : decide ((c.toNat : Int) ≤ 26) = false := by simp; omega
    have t2 : decide ((c.toNat : Int) ≤ 31) = false := by simp; omega
    have t3 : decide (33 ≤ (c.toNat : Int)) = true := by simp; omega
    have t4 : decide ((c.toNat : Int) ≤ 44) = false := by simp; omega
    have t5 : ((c.toNat : Int) == 47) = true := beq_iff_eq.2 (by omega)
    have t6 : ((c.toNat : Int) == 58) = false := beq_eq_false_iff_ne.2 (by omega)
    have t7 : decide (59 ≤ (c.toNat : Int)) = false := by simp; omega
    have t8 : decide ((c.toNat : Int) ≤ 63) = true := by simp; omega
    have t9 : ((c.toNat : Int) == 64) = false := beq_eq_false_iff_ne.2 (by omega)
    have t10 : decide (91 ≤ (c.toNat : Int)) = false := by simp; omega
    have t11 : decide ((c.toNat : Int) ≤ 95) = true := by simp; omega
    have t12 : ((c.toNat : Int) == 96) = false := beq_eq_false_iff_ne.2 (by omega)
    have t13 : decide (97 ≤ (c.toNat : Int)) = false := by simp; omega
    have t14 : decide ((c.toNat : Int) ≤ 122) = true := by simp; omega
    have t15 : decide (123 ≤ (c.toNat : Int)) = false := by simp; omega
    go_enter Tryz.func32, Tryz.ntmps32
    go_wp2
    go_ret
    obtain rfl : c = 47 := UInt8.toNat_inj.1 (by have : (47 : UInt8).toNat = 47 := rfl; omega)
    exact ⟨rfl, Ext.refl _⟩
  · have t0 : ((c.toNat : Int) == 0) = false := beq_eq_false_iff_ne.2 (by omega)
    have t1 : decide ((c.toNat : Int) ≤ 26) = false := by simp; omega
    have t2 : decide ((c.toNat : Int) ≤ 31) = false := by simp; omega
    have t3 : decide (33 ≤ (c.toNat : Int)) = true := by simp; omega
    have t4 : decide ((c.toNat : Int) ≤ 44) = false := by simp; omega
    have t5 : ((c.toNat : Int) == 47) = false := beq_eq_false_iff_ne.2 (by omega)
    have t6 : ((c.toNat : Int) == 58) = false := beq_eq_false_iff_ne.2 (by omega)
    have t7 : decide (59 ≤ (c.toNat : Int)) = false := by simp; omega
    have t8 : decide ((c.toNat : Int) ≤ 63) = true := by simp; omega
    have t9 : ((c.toNat : Int) == 64) = false := beq_eq_false_iff_ne.2 (by omega)
    have t10 : decide (91 ≤ (c.toNat : Int)) = false := by simp; omega
    have t11 : decide ((c.toNat : Int) ≤ 95) = true := by simp; omega
    have t12 : ((c.toNat : Int) == 96) = false := beq_eq_false_iff_ne.2 (by omega)
    have t13 : decide (97 ≤ (c.toNat : Int)) = false := by simp; omega
    have t14 : decide ((c.toNat : Int) ≤ 122) = true := by simp; omega
    have t15 : decide (123 ≤ (c.toNat : Int)) = false := by simp; omega
    go_enter Tryz.func32, Tryz.ntmps32
    go_wp2
    go_ret
    refine ⟨strV_of ?_, (by repeat (first | exact Ext.refl _ | assumption | refine Ext.alloc ?_ _ | refine Ext.drew ?_ | refine Ext.trans ?_ (by assumption)))⟩
    have := HO.out (fun j => by
      match j with
      | ⟨0, _⟩ => show ¬ (0 ≤ c.toNat ∧ c.toNat ≤ 0); omega
      | ⟨1, _⟩ => show ¬ (1 ≤ c.toNat ∧ c.toNat ≤ 26); omega
      | ⟨2, _⟩ => show ¬ (27 ≤ c.toNat ∧ c.toNat ≤ 31); omega
      | ⟨3, _⟩ => show ¬ (33 ≤ c.toNat ∧ c.toNat ≤ 44); omega
      | ⟨4, _⟩ => show ¬ (47 ≤ c.toNat ∧ c.toNat ≤ 47); omega
      | ⟨5, _⟩ => show ¬ (58 ≤ c.toNat ∧ c.toNat ≤ 58); omega
      | ⟨6, _⟩ => show ¬ (59 ≤ c.toNat ∧ c.toNat ≤ 63); omega
      | ⟨7, _⟩ => show ¬ (64 ≤ c.toNat ∧ c.toNat ≤ 64); omega
      | ⟨8, _⟩ => show ¬ (91 ≤ c.toNat ∧ c.toNat ≤ 95); omega
      | ⟨9, _⟩ => show ¬ (96 ≤ c.toNat ∧ c.toNat ≤ 96); omega
      | ⟨10, _⟩ => show ¬ (97 ≤ c.toNat ∧ c.toNat ≤ 122); omega
      | ⟨11, _⟩ => show ¬ (123 ≤ c.toNat ∧ c.toNat ≤ 126); omega
      | ⟨12, _⟩ => show ¬ (127 ≤ c.toNat ∧ c.toNat ≤ 127); omega)
    simp only [ofNat_toNat] at this
    rw [← this, strOfNums_data]
    simp
  · have t0 : ((c.toNat : Int) == 0) = false := beq_eq_false_iff_ne.2 (by omega)
    have t1 : decide ((c.toNat : Int) ≤ 26) = false := by simp; omega
    have t2 : decide ((c.toNat : Int) ≤ 31) = false := by simp; omega
    have t3 : decide (33 ≤ (c.toNat : Int)) = true := by simp; omega
    have t4 : decide ((c.toNat : Int) ≤ 44) = false := by simp; omega
    have t5 : ((c.toNat : Int) == 47) = false := beq_eq_false_iff_ne.2 (by omega)
    have t6 : ((c.toNat : Int) == 58) = true := beq_iff_eq.2 (by omega)
    have t7 : decide (59 ≤ (c.toNat : Int)) = false := by simp; omega
    have t8 : decide ((c.toNat : Int) ≤ 63) = true := by simp; omega
    have t9 : ((c.toNat : Int) == 64) = false := beq_eq_false_iff_ne.2 (by omega)
    have t10 : decide (91 ≤ (c.toNat : Int)) = false := by simp; omega
    have t11 : decide ((c.toNat : Int) ≤ 95) = true := by simp; omega
    have t12 : ((c.toNat : Int) == 96) = false := beq_eq_false_iff_ne.2 (by omega)
    have t13 : decide (97 ≤ (c.toNat : Int)) = false := by simp; omega
    have t14 : decide ((c.toNat : Int) ≤ 122) = true := by simp; omega
    have t15 : decide (123 ≤ (c.toNat : Int)) = false := by simp; omega
    go_enter Tryz.func32, Tryz.ntmps32
    go_wp2
    go_ret
    obtain rfl : c = 58 := UInt8.toNat_inj.1 (by have : (58 : UInt8).toNat = 58 := rfl; omega)
    exact ⟨rfl, Ext.refl _⟩
  · have t0 : ((c.toNat : Int) == 0) = false := beq_eq_false_iff_ne.2 (by omega)
    have t1 : decide ((c.toNat : Int) ≤ 26) = false := by simp; omega
    have t2 : decide ((c.toNat : Int) ≤ 31) = false := by simp; omega
    have t3 : decide (33 ≤ (c.toNat : Int)) = true := by simp; omega
    have t4 : decide ((c.toNat : Int) ≤ 44) = false := by simp; omega
    have t5 : ((c.toNat : Int) == 47) = false := beq_eq_false_iff_ne.2 (by omega)
    have t6 : ((c.toNat : Int) == 58) = false := beq_eq_false_iff_ne.2 (by omega)
    have t7 : decide (59 ≤ (c.toNat : Int)) = true := by simp; omega
    have t8 : decide ((c.toNat : Int) ≤ 63) = true := by simp; omega
    have t9 : ((c.toNat : Int) == 64) = false := beq_eq_false_iff_ne.2 (by omega)
    have t10 : decide (91 ≤ (c.toNat : Int)) = false := by simp; omega
    have t11 : decide ((c.toNat : Int) ≤ 95) = true := by simp; omega
    have t12 : ((c.toNat : Int) == 96) = false := beq_eq_false_iff_ne.2 (by omega)
    have t13 : decide (97 ≤ (c.toNat : Int)) = false := by simp; omega
    have t14 : decide ((c.toNat : Int) ≤ 122) = true := by simp; omega
    have t15 : decide (123 ≤ (c.toNat : Int)) = false := by simp; omega
    have HM := Lib.hid (fun w => mark_any ⟨#[37]⟩ (c.toNat : Int) 59 70 w (by decide) (by omega) (by omega) (by omega) (by omega))
    go_enter Tryz.func32, Tryz.ntmps32
    go_wp2_with fail
    refine (HM.out _).mono ?_
    rintro e w1 ⟨rfl, hx⟩
    go_wp2
    go_ret
    exact ⟨strV_of (HR.out 59 63 37 70 6 (by omega) rfl (by omega) (by omega) _ (by omega)), hx⟩
  · have t0 : ((c.toNat : Int) == 0) = false := beq_eq_false_iff_ne.2 (by omega)
    have t1 : decide ((c.toNat : Int) ≤ 26) = false := by simp; omega
    have t2 : decide ((c.toNat : Int) ≤ 31) = false := by simp; omega
    have t3 : decide (33 ≤ (c.toNat : Int)) = true := by simp; omega
    have t4 : decide ((c.toNat : Int) ≤ 44) = false := by simp; omega
    have t5 : ((c.toNat : Int) == 47) = false := beq_eq_false_iff_ne.2 (by omega)
    have t6 : ((c.toNat : Int) == 58) = false := beq_eq_false_iff_ne.2 (by omega)
    have t7 : decide (59 ≤ (c.toNat : Int)) = true := by simp; omega
    have t8 : decide ((c.toNat : Int) ≤ 63) = false := by simp; omega
    have t9 : ((c.toNat : Int) == 64) = true := beq_iff_eq.2 (by omega)
    have t10 : decide (91 ≤ (c.toNat : Int)) = false := by simp; omega
    have t11 : decide ((c.toNat : Int) ≤ 95) = true := by simp; omega
    have t12 : ((c.toNat : Int) == 96) = false := beq_eq_false_iff_ne.2 (by omega)
    have t13 : decide (97 ≤ (c.toNat : Int)) = false := by simp; omega
    have t14 : decide ((c.toNat : Int) ≤ 122) = true := by simp; omega
    have t15 : decide (123 ≤ (c.toNat : Int)) = false := by simp; omega
    go_enter Tryz.func32, Tryz.ntmps32
    go_wp2
    go_ret
    obtain rfl : c = 64 := UInt8.toNat_inj.1 (by have : (64 : UInt8).toNat = 64 := rfl; omega)
    exact ⟨rfl, Ext.refl _⟩
  · have t0 : ((c.toNat : Int) == 0) = false := beq_eq_false_iff_ne.2 (by omega)
    have t1 : decide ((c.toNat : Int) ≤ 26) = false := by simp; omega
    have t2 : decide ((c.toNat : Int) ≤ 31) = false := by simp; omega
    have t3 : decide (33 ≤ (c.toNat : Int)) = true := by simp; omega
    have t4 : decide ((c.toNat : Int) ≤ 44) = false := by simp; omega
    have t5 : ((c.toNat : Int) == 47) = false := beq_eq_false_iff_ne.2 (by omega)
    have t6 : ((c.toNat : Int) == 58) = false := beq_eq_false_iff_ne.2 (by omega)
    have t7 : decide (59 ≤ (c.toNat : Int)) = true := by simp; omega
    have t8 : decide ((c.toNat : Int) ≤ 63) = false := by simp; omega
    have t9 : ((c.toNat : Int) == 64) = false := beq_eq_false_iff_ne.2 (by omega)
    have t10 : decide (91 ≤ (c.toNat : Int)) = false := by simp; omega
    have t11 : decide ((c.toNat : Int) ≤ 95) = true := by simp; omega
    have t12 : ((c.toNat : Int) == 96) = false := beq_eq_false_iff_ne.2 (by omega)
    have t13 : decide (97 ≤ (c.toNat : Int)) = false := by simp; omega
    have t14 : decide ((c.toNat : Int) ≤ 122) = true := by simp; omega
    have t15 : decide (123 ≤ (c.toNat : Int)) = false := by simp; omega
    go_enter Tryz.func32, Tryz.ntmps32
    go_wp2
    go_ret
    refine ⟨strV_of ?_, (by repeat (first | exact Ext.refl _ | assumption | refine Ext.alloc ?_ _ | refine Ext.drew ?_ | refine Ext.trans ?_ (by assumption)))⟩
    have := HO.out (fun j => by
      match j with
      | ⟨0, _⟩ => show ¬ (0 ≤ c.toNat ∧ c.toNat ≤ 0); omega
      | ⟨1, _⟩ => show ¬ (1 ≤ c.toNat ∧ c.toNat ≤ 26); omega
      | ⟨2, _⟩ => show ¬ (27 ≤ c.toNat ∧ c.toNat ≤ 31); omega
      | ⟨3, _⟩ => show ¬ (33 ≤ c.toNat ∧ c.toNat ≤ 44); omega
      | ⟨4, _⟩ => show ¬ (47 ≤ c.toNat ∧ c.toNat ≤ 47); omega
      | ⟨5, _⟩ => show ¬ (58 ≤ c.toNat ∧ c.toNat ≤ 58); omega
      | ⟨6, _⟩ => show ¬ (59 ≤ c.toNat ∧ c.toNat ≤ 63); omega
      | ⟨7, _⟩ => show ¬ (64 ≤ c.toNat ∧ c.toNat ≤ 64); omega
      | ⟨8, _⟩ => show ¬ (91 ≤ c.toNat ∧ c.toNat ≤ 95); omega
      | ⟨9, _⟩ => show ¬ (96 ≤ c.toNat ∧ c.toNat ≤ 96); omega
      | ⟨10, _⟩ => show ¬ (97 ≤ c.toNat ∧ c.toNat ≤ 122); omega
      | ⟨11, _⟩ => show ¬ (123 ≤ c.toNat ∧ c.toNat ≤ 126); omega
      | ⟨12, _⟩ => show ¬ (127 ≤ c.toNat ∧ c.toNat ≤ 127); omega)
    simp only [ofNat_toNat] at this
    rw [← this, strOfNums_data]
    simp
  · have t0 : ((c.toNat : Int) == 0) = false := beq_eq_false_iff_ne.2 (by omega)
    have t1 : decide ((c.toNat : Int) ≤ 26) = false := by simp; omega
    have t2 : decide ((c.toNat : Int) ≤ 31) = false := by simp; omega
    have t3 : decide (33 ≤ (c.toNat : Int)) = true := by simp; omega
    have t4 : decide ((c.toNat : Int) ≤ 44) = false := by simp; omega
    have t5 : ((c.toNat : Int) == 47) = false := beq_eq_false_iff_ne.2 (by omega)
    have t6 : ((c.toNat : Int) == 58) = false := beq_eq_false_iff_ne.2 (by omega)
    have t7 : decide (59 ≤ (c.toNat : Int)) = true := by simp; omega
    have t8 : decide ((c.toNat : Int) ≤ 63) = false := by simp; omega
    have t9 : ((c.toNat : Int) == 64) = false := beq_eq_false_iff_ne.2 (by omega)
    have t10 : decide (91 ≤ (c.toNat : Int)) = true := by simp; omega
    have t11 : decide ((c.toNat : Int) ≤ 95) = true := by simp; omega
    have t12 : ((c.toNat : Int) == 96) = false := beq_eq_false_iff_ne.2 (by omega)
    have t13 : decide (97 ≤ (c.toNat : Int)) = false := by simp; omega
    have t14 : decide ((c.toNat : Int) ≤ 122) = true := by simp; omega
    have t15 : decide (123 ≤ (c.toNat : Int)) = false := by simp; omega
    have HM := Lib.hid (fun w => mark_any ⟨#[37]⟩ (c.toNat : Int) 91 75 w (by decide) (by omega) (by omega) (by omega) (by omega))
    go_enter Tryz.func32, Tryz.ntmps32
    go_wp2_with fail
    refine (HM.out _).mono ?_
    rintro e w1 ⟨rfl, hx⟩
    go_wp2
    go_ret
    exact ⟨strV_of (HR.out 91 95 37 75 8 (by omega) rfl (by omega) (by omega) _ (by omega)), hx⟩
  · have t0 : ((c.toNat : Int) == 0) = false := beq_eq_false_iff_ne.2 (by omega)
    have t1 : decide ((c.toNat : Int) ≤ 26) = false := by simp; omega
    have t2 : decide ((c.toNat : Int) ≤ 31) = false := by simp; omega
    have t3 : decide (33 ≤ (c.toNat : Int)) = true := by simp; omega
    have t4 : decide ((c.toNat : Int) ≤ 44) = false := by simp; omega
    have t5 : ((c.toNat : Int) == 47) = false := beq_eq_false_iff_ne.2 (by omega)
    have t6 : ((c.toNat : Int) == 58) = false := beq_eq_false_iff_ne.2 (by omega)
    have t7 : decide (59 ≤ (c.toNat : Int)) = true := by simp; omega
    have t8 : decide ((c.toNat : Int) ≤ 63) = false := by simp; omega
    have t9 : ((c.toNat : Int) == 64) = false := beq_eq_false_iff_ne.2 (by omega)
    have t10 : decide (91 ≤ (c.toNat : Int)) = true := by simp; omega
    have t11 : decide ((c.toNat : Int) ≤ 95) = false := by simp; omega
    have t12 : ((c.toNat : Int) == 96) = true := beq_iff_eq.2 (by omega)
    have t13 : decide (97 ≤ (c.toNat : Int)) = false := by simp; omega
    have t14 : decide ((c.toNat : Int) ≤ 122) = true := by simp; omega
    have t15 : decide (123 ≤ (c.toNat : Int)) = false := by simp; omega
    go_enter Tryz.func32, Tryz.ntmps32
    go_wp2
    go_ret
    obtain rfl : c = 96 := UInt8.toNat_inj.1 (by have : (96 : UInt8).toNat = 96 := rfl; omega)
    exact ⟨rfl, Ext.refl _⟩
  · have t0 : ((c.toNat : Int) == 0) = false := beq_eq_false_iff_ne.2 (by omega)
    have t1 : decide ((c.toNat : Int) ≤ 26) = false := by simp; omega
    have t2 : decide ((c.toNat : Int) ≤ 31) = false := by simp; omega
    have t3 : decide (33 ≤ (c.toNat : Int)) = true := by simp; omega
    have t4 : decide ((c.toNat : Int) ≤ 44) = false := by simp; omega
    have t5 : ((c.toNat : Int) == 47) = false := beq_eq_false_iff_ne.2 (by omega)
    have t6 : ((c.toNat : Int) == 58) = false := beq_eq_false_iff_ne.2 (by omega)
    have t7 : decide (59 ≤ (c.toNat : Int)) = true := by simp; omega
    have t8 : decide ((c.toNat : Int) ≤ 63) = false := by simp; omega
    have t9 : ((c.toNat : Int) == 64) = false := beq_eq_false_iff_ne.2 (by omega)
    have t10 : decide (91 ≤ (c.toNat : Int)) = true := by simp; omega
    have t11 : decide ((c.toNat : Int) ≤ 95) = false := by simp; omega
    have t12 : ((c.toNat : Int) == 96) = false := beq_eq_false_iff_ne.2 (by omega)
    have t13 : decide (97 ≤ (c.toNat : Int)) = true := by simp; omega
    have t14 : decide ((c.toNat : Int) ≤ 122) = true := by simp; omega
    have t15 : decide (123 ≤ (c.toNat : Int)) = false := by simp; omega
    have HM := Lib.hid (fun w => mark_any ⟨#[43]⟩ (c.toNat : Int) 97 65 w (by decide) (by omega) (by omega) (by omega) (by omega))
    go_enter Tryz.func32, Tryz.ntmps32
    go_wp2_with fail
    refine (HM.out _).mono ?_
    rintro e w1 ⟨rfl, hx⟩
    go_wp2
    go_ret
    exact ⟨strV_of (HR.out 97 122 43 65 10 (by omega) rfl (by omega) (by omega) _ (by omega)), hx⟩
  · have t0 : ((c.toNat : Int) == 0) = false := beq_eq_false_iff_ne.2 (by omega)
    have t1 : decide ((c.toNat : Int) ≤ 26) = false := by simp; omega
    have t2 : decide ((c.toNat : Int) ≤ 31) = false := by simp; omega
    have t3 : decide (33 ≤ (c.toNat : Int)) = true := by simp; omega
    have t4 : decide ((c.toNat : Int) ≤ 44) = false := by simp; omega
    have t5 : ((c.toNat : Int) == 47) = false := beq_eq_false_iff_ne.2 (by omega)
    have t6 : ((c.toNat : Int) == 58) = false := beq_eq_false_iff_ne.2 (by omega)
    have t7 : decide (59 ≤ (c.toNat : Int)) = true := by simp; omega
    have t8 : decide ((c.toNat : Int) ≤ 63) = false := by simp; omega
    have t9 : ((c.toNat : Int) == 64) = false := beq_eq_false_iff_ne.2 (by omega)
    have t10 : decide (91 ≤ (c.toNat : Int)) = true := by simp; omega
    have t11 : decide ((c.toNat : Int) ≤ 95) = false := by simp; omega
    have t12 : ((c.toNat : Int) == 96) = false := beq_eq_false_iff_ne.2 (by omega)
    have t13 : decide (97 ≤ (c.toNat : Int)) = true := by simp; omega
    have t14 : decide ((c.toNat : Int) ≤ 122) = false := by simp; omega
    have t15 : decide (123 ≤ (c.toNat : Int)) = true := by simp; omega
    have HM := Lib.hid (fun w => mark_any ⟨#[37]⟩ (c.toNat : Int) 123 80 w (by decide) (by omega) (by omega) (by omega) (by omega))
    go_enter Tryz.func32, Tryz.ntmps32
    go_wp2_with fail
    refine (HM.out _).mono ?_
    rintro e w1 ⟨rfl, hx⟩
    go_wp2
    go_ret
    exact ⟨strV_of (HR.out 123 126 37 80 11 (by omega) rfl (by omega) (by omega) _ (by omega)), hx⟩
  · have t0 : ((c.toNat : Int) == 0) = false := beq_eq_false_iff_ne.2 (by omega)
    have t1 : decide ((c.toNat : Int) ≤ 26) = false := by simp; omega
    have t2 : decide ((c.toNat : Int) ≤ 31) = false := by simp; omega
    have t3 : decide (33 ≤ (c.toNat : Int)) = true := by simp; omega
    have t4 : decide ((c.toNat : Int) ≤ 44) = false := by simp; omega
    have t5 : ((c.toNat : Int) == 47) = false := beq_eq_false_iff_ne.2 (by omega)
    have t6 : ((c.toNat : Int) == 58) = false := beq_eq_false_iff_ne.2 (by omega)
    have t7 : decide (59 ≤ (c.toNat : Int)) = true := by simp; omega
    have t8 : decide ((c.toNat : Int) ≤ 63) = false := by simp; omega
    have t9 : ((c.toNat : Int) == 64) = false := beq_eq_false_iff_ne.2 (by omega)
    have t10 : decide (91 ≤ (c.toNat : Int)) = true := by simp; omega
    have t11 : decide ((c.toNat : Int) ≤ 95) = false := by simp; omega
    have t12 : ((c.toNat : Int) == 96) = false := beq_eq_false_iff_ne.2 (by omega)
    have t13 : decide (97 ≤ (c.toNat : Int)) = true := by simp; omega
    have t14 : decide ((c.toNat : Int) ≤ 122) = false := by simp; omega
    have t15 : decide (123 ≤ (c.toNat : Int)) = true := by simp; omega
    have HM := Lib.hid (fun w => mark_any ⟨#[37]⟩ (c.toNat : Int) 123 80 w (by decide) (by omega) (by omega) (by omega) (by omega))
    go_enter Tryz.func32, Tryz.ntmps32
    go_wp2_with fail
    refine (HM.out _).mono ?_
    rintro e w1 ⟨rfl, hx⟩
    go_wp2
    go_ret
    exact ⟨strV_of (HR.out 127 127 37 84 12 (by omega) rfl (by omega) (by omega) _ (by omega)), hx⟩
--§END
theorem full_long (l : List UInt8) (ha : (l.all fun c => decide (c ≤ 127)) = true) (h : 1000 < (l.flatMap Tw.rep).length) : Tw.full l = ([], 4) := by
  unfold Tw.full
  rw [if_neg (by rw [ha]; exact Bool.noConfusion)]
  by_cases h2 : 1000 < l.length
  · rw [if_pos h2]
  · rw [if_neg h2, if_pos h]
theorem full_short (l : List UInt8) (ha : (l.all fun c => decide (c ≤ 127)) = true) (h : (l.flatMap Tw.rep).length ≤ 1000) : Tw.full l = (l.flatMap Tw.rep, 0) := by
  have := len_reps l
  unfold Tw.full
  rw [if_neg (by rw [ha]; exact Bool.noConfusion), if_neg (by omega), if_neg (by omega)]

set_option maxRecDepth 100000 in
set_option maxHeartbeats 2000000 in
theorem rfull_any (s : ByteArray) (w : World) (hs : s.size ≤ 1000000) :
    Calls Tryz.prog 15 #[.string s] w (DecR (Tw.full s.data.toList) w) := by
  have HT := Lib.hid (Tw.full.eq_1 s.data.toList)
  have HL := Lib.hid (full_long s.data.toList)
  have HS := Lib.hid (full_short s.data.toList)
  generalize Tw.full s.data.toList = res at *
  go_enter Tryz.func15, Tryz.ntmps15
  go_wp2
  go_loop [4] (fun i => ∃ j : Nat, j ≤ s.size ∧ i = .int .i64 (j : Int) ∧ Hid (∀ c ∈ s.data.toList.take j, c ≤ 127)) (fun i => s.size - (intOf i).toNat)
  case atStart => exact ⟨0, Nat.zero_le _, rfl, Lib.hid (fun c hc => by simp at hc)⟩
  case round =>
    obtain ⟨j, hj, rfl, HB⟩ := hrel
    by_cases hlt : j < s.size
    · by_cases h127 : s[j] ≤ 127
      · have h2 : (s[j].toNat : Int) ≤ 127 := by have := UInt8.le_iff_toNat_le.1 h127; have e : (127 : UInt8).toNat = 127 := rfl; omega
        have HM := Lib.hid h127
        clear h127
        go_wp2
        go_round
        case rel => exact ⟨j + 1, by omega, by go_num, Lib.hid (fun c hc => by
          rw [take_snoc s j hlt, List.mem_append] at hc
          rcases hc with h | h
          · exact HB.out c h
          · rw [List.mem_singleton] at h; rw [h]; exact HM.out)⟩
        case measure => simp [intOf]; omega
      · have h2 : 127 < (s[j].toNat : Int) := by
          have := mt UInt8.le_iff_toNat_le.2 h127
          have e : (127 : UInt8).toNat = 127 := rfl
          rw [e] at this
          omega
        have hno : (s.data.toList.all fun c => decide (c ≤ 127)) = false := by
          rw [List.all_eq_false]
          exact ⟨s[j], mem_at s j hlt, by simpa using h127⟩
        rw [if_pos hno] at HT
        clear hno h127
        go_wp2
        go_ret2
        exact ⟨by rw [HT.out]; rfl, Ext.refl _⟩
    · have HJ : Hid (j = s.size) := Lib.hid (by omega)
      have hge : s.size ≤ j := by omega
      rw [HJ.out, take_all] at HB
      have hal : (s.data.toList.all fun c => decide (c ≤ 127)) = true := by
        rw [List.all_eq_true]; intro c hc; simpa using HB.out c hc
      have HL2 := Lib.hid (HL.out hal)
      have HS2 := Lib.hid (HS.out hal)
      have dj : decide (j < s.size) = false := by simp; omega
      clear hal hj hlt HL HS HT
      go_wp2
      go_loopw [6, 5] (fun i c wr => ∃ (m : Nat) (G : ByteArray), m ≤ s.size ∧ i = .int .i64 (m : Int) ∧ c = .string G ∧ Hid (G.data.toList = (s.data.toList.take m).flatMap Tw.rep) ∧ G.size ≤ 1000 ∧ Ext w wr) (fun i _ _ => s.size - (intOf i).toNat)
      case atStart => exact ⟨0, ⟨#[]⟩, Nat.zero_le _, rfl, rfl, Lib.hid rfl, Nat.zero_le _, Ext.refl _⟩
      case round =>
        obtain ⟨m, G, hm, rfl, rfl, HG, hgs, hxr⟩ := hrel
        by_cases hlt : m < s.size
        · have HTS : Hid ((s.data.toList.take (m + 1)).flatMap Tw.rep = (s.data.toList.take m).flatMap Tw.rep ++ Tw.rep s[m]) := Lib.hid (by
            rw [take_snoc s m hlt, List.flatMap_append]; simp)
          have hc127 : s[m].toNat ≤ 127 := by
            have := UInt8.le_iff_toNat_le.1 (HB.out s[m] (mem_at s m hlt))
            have e : (127 : UInt8).toNat = 127 := rfl
            omega
          have HRP := Lib.hid (fun w => rfull1_any s[m] w hc127)
          have hr2 := rep_len s[m]
          have HPF : Hid (((s.data.toList.take (m + 1)).flatMap Tw.rep).length ≤ (s.data.toList.flatMap Tw.rep).length) := Lib.hid (by
            conv => rhs; rw [← List.take_append_drop (m + 1) s.data.toList, List.flatMap_append, List.length_append]
            omega)
          generalize Tw.rep s[m] = r at *
          obtain ⟨R, rfl⟩ : ∃ C : ByteArray, r = C.data.toList := ⟨⟨r.toArray⟩, by simp⟩
          simp only [strV, mk_toList] at HRP
          rw [len_data] at hr2
          have HG2 : Hid ((G ++ R).data.toList = (s.data.toList.take (m + 1)).flatMap Tw.rep) := Lib.hid (by rw [app2, HG.out, HTS.out])
          have hsz : (G ++ R).size = G.size + R.size := by rw [size_of_toList (app2 G R), List.length_append, len_data, len_data]
          by_cases hl : 1000 < G.size + R.size
          · have HRES := Lib.hid (HL2.out (by have := HPF.out; rw [← HG2.out, len_data, hsz] at this; omega))
            have dl : decide (1000 < (G.size : Int) + (R.size : Int)) = true := by simp; omega
            clear hsz
            go_wp2_with fail
            refine (HRP.out _).mono ?_
            rintro e w1 ⟨rfl, hx1⟩
            go_wp2
            go_ret2
            exact ⟨by rw [HRES.out]; rfl, hxr.trans hx1⟩
          · have dl : decide (1000 < (G.size : Int) + (R.size : Int)) = false := by simp; omega
            have HSZ := Lib.hid hsz
            clear hsz
            go_wp2_with fail
            refine (HRP.out _).mono ?_
            rintro e w1 ⟨rfl, hx1⟩
            go_wp2
            go_roundw
            case rel => exact ⟨m + 1, G ++ R, by omega, by go_num, rfl, HG2, by rw [HSZ.out]; omega, hxr.trans hx1⟩
            case measure => simp [intOf]; omega
        · have e1 : m = s.size := by omega
          rw [e1, take_all] at HG
          have HRES := Lib.hid (HS2.out (by rw [← HG.out, len_data]; exact hgs))
          clear hm e1
          go_wp2
          go_ret2
          exact ⟨by rw [HRES.out, ← HG.out]; exact ret_pair' rfl rfl, hxr⟩
end Go.Proofs.YthjlnpcaclfopaaGreat
