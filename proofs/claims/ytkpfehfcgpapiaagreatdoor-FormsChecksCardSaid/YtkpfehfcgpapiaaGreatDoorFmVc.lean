/-
  Chapter 51: values of the kinds text, digits: the program; digits: the reference.
  No condition.
-/
import Derived.Test.YtkpfehfcgpapiaaGreatDoorFmVb
import Derived.Test.YtkpfehfcgpapiaaGreatDoorFmPa
import Derived.Test.YtkpfehfcgpapiaaGreatDoorFmXa
import Derived.Test.YtkpfehfcgpapiaaGreatDoorCdR5
import Derived.Lib.AtoiErrMem

/-
  Chapter 51: values of the kinds text, digits: the program; digits: the reference.
  No condition.
-/
namespace Go.Proofs.YtkpfehfcgpapiaaGreatDoor
open Go.RowKit

def okT (c : UInt8) : Bool := decide (32 ≤ c.toNat) && decide (c.toNat ≤ 126)
theorem all_next {p : UInt8 → Bool} {s : ByteArray} {k : Nat} (h : k < s.size) (hd : (s.data.toList.take k).all p = true) (hp : p s[k] = true) : (s.data.toList.take (k + 1)).all p = true := by
  rw [take_snoc s k h, List.all_append, hd, List.all_cons, hp]; rfl
theorem all_bad {p : UInt8 → Bool} {s : ByteArray} {k : Nat} (h : k < s.size) (hp : p s[k] = false) : s.data.toList.all p = false := by
  rw [List.all_eq_false]
  exact ⟨s[k], mem_at s k h, by rw [hp]; decide⟩

set_option maxRecDepth 100000 in
set_option maxHeartbeats 1000000 in
theorem textError_any (nm : ByteArray) (op mn mx ck : Int) (a : Option Addr) (n c : Nat) (opt : Bool) (l : List Fm.S) (s : ByteArray) (hs : s.size ≤ 9223372036854775807) (w : World) :
    Calls Tryz.prog 51 #[.agg #[.string nm, .int .i64 op, .int .i64 mn, .int .i64 mx, .int .i64 ck, .slice a n c, .bool opt], .string s] w fun e w' => e = .returned (.int .i64 (Fm.txtV ⟨nm.data.toList, op, mn, mx, ck, l, opt⟩ s.data.toList)) ∧ Ext w w' := by
  have HR : Hid (Fm.txtV ⟨nm.data.toList, op, mn, mx, ck, l, opt⟩ s.data.toList = if (s.data.toList.length : Int) < mn ∨ mx < s.data.toList.length then 7 else if s.data.toList.all okT then 0 else 6) := Lib.hid rfl
  rw [len_data] at HR
  generalize Fm.txtV ⟨nm.data.toList, op, mn, mx, ck, l, opt⟩ s.data.toList = res at *
  by_cases h1 : (s.size : Int) < mn
  · rw [if_pos (.inl h1)] at HR
    go_enter Tryz.func51, Tryz.ntmps51
    go_wp2
    go_ret
    exact ⟨ret_int HR.out.symm, (by repeat (first | exact Ext.refl _ | assumption | refine Ext.alloc ?_ _ | refine Ext.drew ?_ | refine Ext.trans ?_ (by assumption)))⟩
  by_cases h2 : mx < (s.size : Int)
  · rw [if_pos (.inr h2)] at HR
    go_enter Tryz.func51, Tryz.ntmps51
    go_wp2
    go_ret
    exact ⟨ret_int HR.out.symm, (by repeat (first | exact Ext.refl _ | assumption | refine Ext.alloc ?_ _ | refine Ext.drew ?_ | refine Ext.trans ?_ (by assumption)))⟩
  rw [if_neg (fun h => h.elim h1 h2)] at HR
  go_enter Tryz.func51, Tryz.ntmps51
  go_wp2
  go_loop [20] (fun t => ∃ k : Nat, k ≤ s.size ∧ t = .int .i64 (k : Int) ∧ Hid ((s.data.toList.take k).all okT = true)) (fun t => s.size - (intOf t).toNat)
  case atStart => exact ⟨0, Nat.zero_le _, rfl, Lib.hid rfl⟩
  case round =>
    obtain ⟨k, hk, rfl, hv⟩ := hrel
    by_cases hlt : k < s.size
    · have HA := Lib.hid (all_next hlt hv.out)
      have HB := Lib.hid (all_bad (p := okT) hlt)
      have HO : Hid (okT s[k] = (decide (32 ≤ s[k].toNat) && decide (s[k].toNat ≤ 126))) := Lib.hid rfl
      by_cases q1 : (s[k].toNat : Int) < 32
      · have HF : Hid (res = 6) := Lib.hid (by rw [HR.out, HB.out (by rw [HO.out, decide_eq_false (by omega)]; rfl)]; rfl)
        clear HA HB HO hv
        go_wp2
        go_ret
        exact ⟨ret_int HF.out.symm, (by repeat (first | exact Ext.refl _ | assumption | refine Ext.alloc ?_ _ | refine Ext.drew ?_ | refine Ext.trans ?_ (by assumption)))⟩
      by_cases q2 : (126 : Int) < (s[k].toNat : Int)
      · have HF : Hid (res = 6) := Lib.hid (by rw [HR.out, HB.out (by rw [HO.out, decide_eq_false (show ¬ s[k].toNat ≤ 126 by omega)]; simp)]; rfl)
        clear HA HB HO hv
        go_wp2
        go_ret
        exact ⟨ret_int HF.out.symm, (by repeat (first | exact Ext.refl _ | assumption | refine Ext.alloc ?_ _ | refine Ext.drew ?_ | refine Ext.trans ?_ (by assumption)))⟩
      have HN := Lib.hid (HA.out (by rw [HO.out, decide_eq_true (show 32 ≤ s[k].toNat by omega), decide_eq_true (show s[k].toNat ≤ 126 by omega)]; rfl))
      clear HA HB HO hv
      go_wp2
      go_round
      case rel => exact ⟨k + 1, by omega, by go_num, HN⟩
      case measure => simp [intOf]; omega
    · obtain rfl : k = s.size := by omega
      have HF : Hid (res = 0) := Lib.hid (by
        have := hv.out
        rw [take_all] at this
        rw [HR.out, this]; rfl)
      clear hk hlt hv
      go_wp2
      go_ret
      exact ⟨ret_int HF.out.symm, (by repeat (first | exact Ext.refl _ | assumption | refine Ext.alloc ?_ _ | refine Ext.drew ?_ | refine Ext.trans ?_ (by assumption)))⟩

theorem suffix_last (l : List UInt8) : Lib.trimSuffix l [88] = if l.getLast? = some 88 then l.dropLast else l := by
  unfold Lib.trimSuffix Lib.hasSuffix
  have e : ([88].isSuffixOf l = true) ↔ l.getLast? = some 88 := by
    rw [List.isSuffixOf_iff_suffix]
    constructor
    · rintro ⟨t, rfl⟩; simp
    · intro h
      have hne : l ≠ [] := by rintro rfl; cases h
      rw [List.getLast?_eq_some_getLast hne] at h
      exact ⟨l.dropLast, by rw [← Option.some.inj h, List.dropLast_concat_getLast hne]⟩
  by_cases h : l.getLast? = some 88
  · rw [if_pos (e.2 h), if_pos h, List.dropLast_eq_take]; rfl
  · rw [if_neg (fun h' => h (e.1 h')), if_neg h]
theorem suffix_any (s : ByteArray) (hs : s.size ≤ 9223372036854775807) (w : World) : ∃ t : ByteArray, t.data.toList = (if s.data.toList.getLast? = some 88 then s.data.toList.dropLast else s.data.toList) ∧ Calls Tryz.prog 87 #[.string s, .string ⟨#[88]⟩] w fun e w' => e = .returned (.string t) ∧ w = w' :=
  ⟨⟨(Lib.trimSuffix s.data.toList [88]).toArray⟩, by rw [← suffix_last], (Tryz.strings_TrimSuffix s ⟨#[88]⟩ w hs).mono fun _ _ h => ⟨h.1, h.2.symm⟩⟩

set_option maxRecDepth 100000 in
set_option maxHeartbeats 1000000 in
theorem digitsError_any (nm : ByteArray) (op mn mx ck : Int) (a : Option Addr) (n c : Nat) (opt : Bool) (l : List Fm.S) (s : ByteArray) (hs : s.size ≤ 9223372036854775807) (w : World) :
    Calls Tryz.prog 50 #[.agg #[.string nm, .int .i64 op, .int .i64 mn, .int .i64 mx, .int .i64 ck, .slice a n c, .bool opt], .string s] w fun e w' => e = .returned (.int .i64 (Fm.digV ⟨nm.data.toList, op, mn, mx, ck, l, opt⟩ s.data.toList)) ∧ Ext w w' := by
  have HR : Hid (Fm.digV ⟨nm.data.toList, op, mn, mx, ck, l, opt⟩ s.data.toList = if (s.data.toList.length : Int) < mn ∨ mx < s.data.toList.length then 7 else if (Fm.core ⟨nm.data.toList, op, mn, mx, ck, l, opt⟩ s.data.toList).all Fm.dg then (if ck = 0 then 0 else Cd.verI ck s.data.toList) else 6) := Lib.hid rfl
  rw [len_data] at HR
  have HC : Hid (Fm.core ⟨nm.data.toList, op, mn, mx, ck, l, opt⟩ s.data.toList = if (ck = 3 ∨ ck = 8) ∧ s.data.toList.getLast? = some 88 then s.data.toList.dropLast else s.data.toList) := Lib.hid rfl
  generalize Fm.digV ⟨nm.data.toList, op, mn, mx, ck, l, opt⟩ s.data.toList = res at *
  by_cases h1 : (s.size : Int) < mn
  · rw [if_pos (.inl h1)] at HR
    go_enter Tryz.func50, Tryz.ntmps50
    go_wp2
    go_ret
    exact ⟨ret_int HR.out.symm, (by repeat (first | exact Ext.refl _ | assumption | refine Ext.alloc ?_ _ | refine Ext.drew ?_ | refine Ext.trans ?_ (by assumption)))⟩
  by_cases h2 : mx < (s.size : Int)
  · rw [if_pos (.inr h2)] at HR
    go_enter Tryz.func50, Tryz.ntmps50
    go_wp2
    go_ret
    exact ⟨ret_int HR.out.symm, (by repeat (first | exact Ext.refl _ | assumption | refine Ext.alloc ?_ _ | refine Ext.drew ?_ | refine Ext.trans ?_ (by assumption)))⟩
  rw [if_neg (fun h => h.elim h1 h2)] at HR
  obtain ⟨b, hb⟩ : ∃ b, (Fm.core ⟨nm.data.toList, op, mn, mx, ck, l, opt⟩ s.data.toList).all Fm.dg = b := ⟨_, rfl⟩
  have HB := Lib.hid hb
  rw [hb] at HR
  clear hb
  have HV := Lib.hid (fun w => verify_any ck s w hs)
  by_cases h3 : ck = 3 ∨ ck = 8
  · obtain ⟨t, ht, hT⟩ : ∃ t : ByteArray, t.data.toList = Fm.core ⟨nm.data.toList, op, mn, mx, ck, l, opt⟩ s.data.toList ∧ ∀ w, Calls Tryz.prog 87 #[.string s, .string ⟨#[88]⟩] w fun e w' => e = .returned (.string t) ∧ w = w' := by
      refine ⟨⟨(Lib.trimSuffix s.data.toList [88]).toArray⟩, ?_, fun w => (Tryz.strings_TrimSuffix s ⟨#[88]⟩ w hs).mono fun _ _ h => ⟨h.1, h.2.symm⟩⟩
      rw [HC.out]
      show Lib.trimSuffix s.data.toList [88] = _
      rw [suffix_last]
      by_cases hg : s.data.toList.getLast? = some 88
      · rw [if_pos hg, if_pos ⟨h3, hg⟩]
      · rw [if_neg hg, if_neg (fun h => hg h.2)]
    have hts : t.size ≤ 9223372036854775807 := by
      have := size_of_toList ht
      rw [HC.out] at this
      have h4 : (if (ck = 3 ∨ ck = 8) ∧ s.data.toList.getLast? = some 88 then s.data.toList.dropLast else s.data.toList).length ≤ s.data.toList.length := by
        split
        · rw [List.length_dropLast]; omega
        · exact Nat.le_refl _
      rw [len_data] at h4
      omega
    have HT := Lib.hid hT
    have HD := Lib.hid (fun w => isDigits_any t hts w)
    rw [ht, HB.out] at HD
    have hz : ¬ ck = 0 := by omega
    rw [if_neg hz] at HR
    clear hT ht hts HB HC
    rcases h3 with rfl | rfl
    · cases b with
      | true =>
        rw [if_pos rfl] at HR
        go_enter Tryz.func50, Tryz.ntmps50
        go_wp2_with fail
        refine (HT.out _).mono ?_
        rintro e w1 ⟨rfl, rfl⟩
        go_wp2_with fail
        refine (HD.out _).mono ?_
        rintro e w2 ⟨rfl, hw2⟩
        obtain ⟨-, -, -, -, m4, -, -⟩ := kept7 hw2
        go_wp2_with fail
        refine (HV.out _).mono ?_
        rintro e w3 ⟨rfl, hw3⟩
        go_wp2
        go_ret
        exact ⟨ret_int HR.out.symm, (by repeat (first | exact Ext.refl _ | assumption | refine Ext.alloc ?_ _ | refine Ext.drew ?_ | refine Ext.trans ?_ (by assumption)))⟩
      | false =>
        rw [if_neg (by decide)] at HR
        go_enter Tryz.func50, Tryz.ntmps50
        go_wp2_with fail
        refine (HT.out _).mono ?_
        rintro e w1 ⟨rfl, rfl⟩
        go_wp2_with fail
        refine (HD.out _).mono ?_
        rintro e w2 ⟨rfl, hw2⟩
        obtain ⟨-, -, -, -, m4, -, -⟩ := kept7 hw2
        go_wp2
        go_ret
        exact ⟨ret_int HR.out.symm, (by repeat (first | exact Ext.refl _ | assumption | refine Ext.alloc ?_ _ | refine Ext.drew ?_ | refine Ext.trans ?_ (by assumption)))⟩

    · cases b with
      | true =>
        rw [if_pos rfl] at HR
        go_enter Tryz.func50, Tryz.ntmps50
        go_wp2_with fail
        refine (HT.out _).mono ?_
        rintro e w1 ⟨rfl, rfl⟩
        go_wp2_with fail
        refine (HD.out _).mono ?_
        rintro e w2 ⟨rfl, hw2⟩
        obtain ⟨-, -, -, -, m4, -, -⟩ := kept7 hw2
        go_wp2_with fail
        refine (HV.out _).mono ?_
        rintro e w3 ⟨rfl, hw3⟩
        go_wp2
        go_ret
        exact ⟨ret_int HR.out.symm, (by repeat (first | exact Ext.refl _ | assumption | refine Ext.alloc ?_ _ | refine Ext.drew ?_ | refine Ext.trans ?_ (by assumption)))⟩
      | false =>
        rw [if_neg (by decide)] at HR
        go_enter Tryz.func50, Tryz.ntmps50
        go_wp2_with fail
        refine (HT.out _).mono ?_
        rintro e w1 ⟨rfl, rfl⟩
        go_wp2_with fail
        refine (HD.out _).mono ?_
        rintro e w2 ⟨rfl, hw2⟩
        obtain ⟨-, -, -, -, m4, -, -⟩ := kept7 hw2
        go_wp2
        go_ret
        exact ⟨ret_int HR.out.symm, (by repeat (first | exact Ext.refl _ | assumption | refine Ext.alloc ?_ _ | refine Ext.drew ?_ | refine Ext.trans ?_ (by assumption)))⟩
  · have HD := Lib.hid (fun w => isDigits_any s hs w)
    rw [if_neg (fun h => h3 h.1)] at HC
    rw [← HC.out, HB.out] at HD
    have z3 : (ck == 3) = false := beq_eq_false_iff_ne.2 (fun h => h3 (.inl h))
    have z8 : (ck == 8) = false := beq_eq_false_iff_ne.2 (fun h => h3 (.inr h))
    clear h3 HB HC
    cases b with
    | false =>
      rw [if_neg (by decide)] at HR
      go_enter Tryz.func50, Tryz.ntmps50
      go_wp2_with fail
      refine (HD.out _).mono ?_
      rintro e w2 ⟨rfl, hw2⟩
      obtain ⟨-, -, -, -, m4, -, -⟩ := kept7 hw2
      go_wp2
      go_ret
      exact ⟨ret_int HR.out.symm, (by repeat (first | exact Ext.refl _ | assumption | refine Ext.alloc ?_ _ | refine Ext.drew ?_ | refine Ext.trans ?_ (by assumption)))⟩
    | true =>
      rw [if_pos rfl] at HR
      by_cases hz : ck = 0
      · subst hz
        rw [if_pos rfl] at HR
        clear z3 z8
        go_enter Tryz.func50, Tryz.ntmps50
        go_wp2_with fail
        refine (HD.out _).mono ?_
        rintro e w2 ⟨rfl, hw2⟩
        obtain ⟨-, -, -, -, m4, -, -⟩ := kept7 hw2
        go_wp2
        go_ret
        exact ⟨ret_int HR.out.symm, (by repeat (first | exact Ext.refl _ | assumption | refine Ext.alloc ?_ _ | refine Ext.drew ?_ | refine Ext.trans ?_ (by assumption)))⟩
      · rw [if_neg hz] at HR
        have z0 : (ck == 0) = false := beq_eq_false_iff_ne.2 hz
        clear hz
        go_enter Tryz.func50, Tryz.ntmps50
        go_wp2_with fail
        refine (HD.out _).mono ?_
        rintro e w2 ⟨rfl, hw2⟩
        obtain ⟨-, -, -, -, m4, -, -⟩ := kept7 hw2
        go_wp2_with fail
        refine (HV.out _).mono ?_
        rintro e w3 ⟨rfl, hw3⟩
        go_wp2
        go_ret
        exact ⟨ret_int HR.out.symm, (by repeat (first | exact Ext.refl _ | assumption | refine Ext.alloc ?_ _ | refine Ext.drew ?_ | refine Ext.trans ?_ (by assumption)))⟩
end Go.Proofs.YtkpfehfcgpapiaaGreatDoor

/-
  Chapter 51: days, dates: the program.
  No condition.
-/
namespace Go.Proofs.YtkpfehfcgpapiaaGreatDoor
open Go.RowKit

theorem dec_from (l : List UInt8) : ∀ acc : Nat, l.all Fm.dg = true → Lib.decFrom acc l = some (l.foldl (fun n c => 10 * n + (c.toNat - 48)) acc) := by
  induction l with
  | nil => intro acc _; rfl
  | cons c l ih =>
    intro acc h
    rw [List.all_cons, Bool.and_eq_true] at h
    have hc := h.1
    unfold Fm.dg at hc
    rw [Bool.and_eq_true, decide_eq_true_eq, decide_eq_true_eq] at hc
    have hd : Lib.digitVal c = some (c.toNat - 48) := by unfold Lib.digitVal; simp; omega
    unfold Lib.decFrom
    rw [hd]
    dsimp only
    rw [ih _ h.2, List.foldl_cons, Nat.mul_comm]
theorem atoi_dig (l : List UInt8) (h0 : l ≠ []) (h : l.all Fm.dg = true) : Lib.atoi l = some (Fm.natOf l : Int) := by
  cases l with
  | nil => exact absurd rfl h0
  | cons c l =>
    have hc : Fm.dg c = true := by rw [List.all_cons, Bool.and_eq_true] at h; exact h.1
    unfold Fm.dg at hc
    rw [Bool.and_eq_true, decide_eq_true_eq, decide_eq_true_eq] at hc
    have h1 : (c == 45) = false := beq_eq_false_iff_ne.2 (by rintro rfl; exact absurd hc.1 (by decide))
    have h2 : (c == 43) = false := beq_eq_false_iff_ne.2 (by rintro rfl; exact absurd hc.1 (by decide))
    unfold Lib.atoi
    dsimp only
    rw [h1, h2]
    unfold Lib.decNat
    rw [if_neg (by decide), if_neg (by decide), dec_from _ _ h]
    rfl
/-- strconv.Atoi of digits. -/
theorem atoi_any (s : ByteArray) (h0 : 0 < s.size) (hl : s.size ≤ 18) (h : s.data.toList.all Fm.dg = true) (w : World) :
    Calls Tryz.prog 90 #[.string s] w fun e w' => e = .returned (.tuple #[.int .i64 (Fm.natOf s.data.toList : Int), .nilIface]) ∧ Ext w w' :=
  (Tryz.strconv_Atoi s (Fm.natOf s.data.toList) hl (atoi_dig _ (by rintro e; rw [← len_data, e] at h0; cases h0) h) w).mono fun e w' ⟨he, t, hw⟩ => ⟨he, by rw [hw]; exact Lib.bytesWorld_below _ _ _⟩

set_option maxHeartbeats 1000000 in
theorem days_any (y m : Nat) (w : World) : Calls Tryz.prog 91 #[.int .i64 (y : Int), .int .i64 (m : Int)] w fun e w' => e = .returned (.int .i64 (Fm.days y m)) ∧ w = w' := by
  have HR := Lib.hid (Fm.days.eq_1 (y : Int) (m : Int))
  generalize Fm.days y m = res at *
  by_cases hm : (m : Int) = 4 ∨ (m : Int) = 6 ∨ (m : Int) = 9 ∨ (m : Int) = 11
  · rw [if_pos hm] at HR
    rcases hm with h | h | h | h <;> rw [h]
    all_goals
      clear h
      go_enter Tryz.func91, Tryz.ntmps91
      go_wp2
      go_ret
      exact ⟨ret_int HR.out.symm, rfl⟩
  rw [if_neg hm] at HR
  by_cases h2 : (m : Int) = 2
  · rw [if_pos h2] at HR
    rw [h2]
    clear hm h2
    have HL := Lib.hid (Fm.leap.eq_1 (y : Int))
    have t4 : (y : Int).tmod 4 = (y : Int) % 4 := Int.tmod_eq_emod_of_nonneg (by omega)
    have t100 : (y : Int).tmod 100 = (y : Int) % 100 := Int.tmod_eq_emod_of_nonneg (by omega)
    have t400 : (y : Int).tmod 400 = (y : Int) % 400 := Int.tmod_eq_emod_of_nonneg (by omega)
    rw [← t4, ← t100, ← t400] at HL
    clear t4 t100 t400
    generalize Fm.leap y = lp at *
    generalize hy : (y : Int) = Y at *
    clear hy
    go_enter Tryz.func91, Tryz.ntmps91
    go_wp2
    all_goals
      go_ret
      refine ⟨ret_int ?_, rfl⟩
      rw [HR.out, HL.out]
      simp [*]
  · rw [if_neg h2] at HR
    have n2 : ((m : Int) == 2) = false := beq_eq_false_iff_ne.2 h2
    have n4 : ((m : Int) == 4) = false := beq_eq_false_iff_ne.2 (fun h => hm (.inl h))
    have n6 : ((m : Int) == 6) = false := beq_eq_false_iff_ne.2 (fun h => hm (.inr (.inl h)))
    have n9 : ((m : Int) == 9) = false := beq_eq_false_iff_ne.2 (fun h => hm (.inr (.inr (.inl h))))
    have n11 : ((m : Int) == 11) = false := beq_eq_false_iff_ne.2 (fun h => hm (.inr (.inr (.inr h))))
    clear hm h2
    go_enter Tryz.func91, Tryz.ntmps91
    go_wp2
    go_ret
    exact ⟨ret_int HR.out.symm, rfl⟩
end Go.Proofs.YtkpfehfcgpapiaaGreatDoor

/-
  Chapter 51: dates: the program.
  No condition.
-/
namespace Go.Proofs.YtkpfehfcgpapiaaGreatDoor
open Go.RowKit

theorem date_parts (s : ByteArray) : (s.extract 0 4 ++ s.extract 5 7 ++ s.extract 8 s.size).data.toList = s.data.toList.take 4 ++ (s.data.toList.drop 5).take 2 ++ s.data.toList.drop 8 := by
  rw [ByteArray.data_append, ByteArray.data_append, Array.toList_append, Array.toList_append, cut_front, cut_mid, cut_back]
theorem getD_of (s : ByteArray) (i : Nat) (h : i < s.size) : s.data.toList.getD i 0 = s[i] := by
  have h' : i < s.data.toList.length := by rw [len_data]; exact h
  rw [List.getD_eq_getElem?_getD, List.getElem?_eq_getElem h']; rfl
theorem is45 (c : UInt8) : (c == 45) = decide (c.toNat = 45) := by
  rw [Bool.eq_iff_iff, beq_iff_eq, decide_eq_true_eq]
  exact ⟨fun h => by rw [h]; rfl, fun h => UInt8.toNat_inj.1 h⟩

set_option maxRecDepth 100000 in
set_option maxHeartbeats 2000000 in
theorem dateError_any (nm : ByteArray) (op mn mx ck : Int) (a : Option Addr) (n c : Nat) (opt : Bool) (l : List Fm.S) (s : ByteArray) (hs : s.size ≤ 9223372036854775807) (w : World) :
    Calls Tryz.prog 52 #[.agg #[.string nm, .int .i64 op, .int .i64 mn, .int .i64 mx, .int .i64 ck, .slice a n c, .bool opt], .string s] w fun e w' => e = .returned (.int .i64 (Fm.dateV ⟨nm.data.toList, op, mn, mx, ck, l, opt⟩ s.data.toList)) ∧ Ext w w' := by
  have HR := Lib.hid (Fm.dateV.eq_1 ⟨nm.data.toList, op, mn, mx, ck, l, opt⟩ s.data.toList)
  dsimp only at HR
  generalize Fm.dateV ⟨nm.data.toList, op, mn, mx, ck, l, opt⟩ s.data.toList = res at *
  have HB := Lib.hid (Fm.dateB.eq_1 s.data.toList)
  rw [len_data] at HB
  by_cases h10 : s.size = 10
  rotate_left
  · have HF : Hid (res = 9) := Lib.hid (by rw [HR.out, HB.out, decide_eq_false h10]; rfl)
    have d10 : ((s.size : Int) != 10) = true := by rw [bne_iff_ne]; omega
    clear h10 HR HB
    go_enter Tryz.func52, Tryz.ntmps52
    go_wp2
    refine wp_region_quiet (C := fun w' => ∃ x : Ahead (w.alloc (.cells #[.string nm, .int .i64 op, .int .i64 mn, .int .i64 mx, .int .i64 ck, .slice a n c, .bool opt] 39)), w' = x.at') (by kernel_rfl) (by kernel_rfl) (Ahead.drawn _) ?_
    try dsimp only
    repeat (first | go_big_quiet_step (fail) | quiet_step (fail))
    refine wpQuiet_nil ?_
    intro _ hx0
    obtain ⟨x0, hx0⟩ := hx0
    subst hx0
    obtain ⟨w1, hx1⟩ := x0
    try dsimp only
    go_wp2
    go_ret
    exact ⟨ret_int HF.out.symm, (by repeat (first | exact Ext.refl _ | assumption | refine Ext.alloc ?_ _ | refine Ext.drew ?_ | refine Ext.trans ?_ (by assumption)))⟩
  have d10 : ((s.size : Int) != 10) = false := by rw [h10]; rfl
  have l4 : 4 < s.size := by omega
  have l7 : 7 < s.size := by omega
  rw [decide_eq_true h10, Bool.true_and, getD_of s 4 l4, getD_of s 7 l7, is45, is45] at HB
  have i4 : (4 : Int) < (s.size : Int) := by omega
  have i7 : (7 : Int) < (s.size : Int) := by omega
  have i8 : (8 : Int) ≤ (s.size : Int) := by omega
  have hsz : s.size ≤ 10 := by omega
  have HSZ := Lib.hid h10
  clear h10
  by_cases b4 : s[4].toNat = 45
  rotate_left
  · have HF : Hid (res = 9) := Lib.hid (by rw [HR.out, HB.out, decide_eq_false b4]; rfl)
    obtain ⟨x4, hx4⟩ : ∃ x4 : Nat, s[4].toNat = x4 := ⟨_, rfl⟩
    have n4 : ((x4 : Int) != 45) = true := by rw [bne_iff_ne]; omega
    clear b4 HR HB
    go_enter Tryz.func52, Tryz.ntmps52
    go_wp2
    refine wp_region_quiet (C := fun w' => ∃ x : Ahead (w.alloc (.cells #[.string nm, .int .i64 op, .int .i64 mn, .int .i64 mx, .int .i64 ck, .slice a n c, .bool opt] 39)), w' = x.at') (by kernel_rfl) (by kernel_rfl) (Ahead.drawn _) ?_
    try dsimp only
    repeat (first | go_big_quiet_step (fail) | quiet_step (fail))
    refine wpQuiet_nil ?_
    intro _ hx0
    obtain ⟨x0, hx0⟩ := hx0
    subst hx0
    obtain ⟨w1, hx1⟩ := x0
    try dsimp only
    go_wp2
    go_ret
    exact ⟨ret_int HF.out.symm, (by repeat (first | exact Ext.refl _ | assumption | refine Ext.alloc ?_ _ | refine Ext.drew ?_ | refine Ext.trans ?_ (by assumption)))⟩
  by_cases b7 : s[7].toNat = 45
  rotate_left
  · have HF : Hid (res = 9) := Lib.hid (by rw [HR.out, HB.out, decide_eq_false b7]; simp)
    obtain ⟨x7, hx7⟩ : ∃ x7 : Nat, s[7].toNat = x7 := ⟨_, rfl⟩
    have n7 : ((x7 : Int) != 45) = true := by rw [bne_iff_ne]; omega
    clear b7 HR HB
    go_enter Tryz.func52, Tryz.ntmps52
    go_wp2
    refine wp_region_quiet (C := fun w' => ∃ x : Ahead (w.alloc (.cells #[.string nm, .int .i64 op, .int .i64 mn, .int .i64 mx, .int .i64 ck, .slice a n c, .bool opt] 39)), w' = x.at') (by kernel_rfl) (by kernel_rfl) (Ahead.drawn _) ?_
    try dsimp only
    repeat (first | go_big_quiet_step (fail) | quiet_step (fail))
    refine wpQuiet_nil ?_
    intro _ hx0
    obtain ⟨x0, hx0⟩ := hx0
    subst hx0
    obtain ⟨w1, hx1⟩ := x0
    try dsimp only
    go_wp2
    go_ret
    exact ⟨ret_int HF.out.symm, (by repeat (first | exact Ext.refl _ | assumption | refine Ext.alloc ?_ _ | refine Ext.drew ?_ | refine Ext.trans ?_ (by assumption)))⟩
  rw [decide_eq_true b4, decide_eq_true b7, Bool.true_and, Bool.true_and, ← date_parts s] at HB
  have hts : (s.extract 0 4 ++ s.extract 5 7 ++ s.extract 8 s.size).size ≤ 9223372036854775807 := by
    rw [ByteArray.size_append, ByteArray.size_append]; simp only [ByteArray.size_extract]; omega
  have HD := Lib.hid (fun w => isDigits_any (s.extract 0 4 ++ s.extract 5 7 ++ s.extract 8 s.size) hts w)
  cases hb : (s.extract 0 4 ++ s.extract 5 7 ++ s.extract 8 s.size).data.toList.all Fm.dg with
  | false =>
    rw [hb] at HB HD
    have HF : Hid (res = 9) := Lib.hid (by rw [HR.out, HB.out]; rfl)
    clear hb HR HB hts
    go_enter Tryz.func52, Tryz.ntmps52
    go_wp2
    refine wp_region_quiet (C := fun w' => ∃ x : Ahead (w.alloc (.cells #[.string nm, .int .i64 op, .int .i64 mn, .int .i64 mx, .int .i64 ck, .slice a n c, .bool opt] 39)), w' = x.at') (by kernel_rfl) (by kernel_rfl) (Ahead.drawn _) ?_
    try dsimp only
    repeat (first | go_big_quiet_step (exact ahead_of (HD.out _)) | quiet_step (exact ahead_of (HD.out _)))
    refine wpQuiet_nil ?_
    intro _ hx0
    obtain ⟨x0, hx0⟩ := hx0
    subst hx0
    obtain ⟨w1, hx1⟩ := x0
    try dsimp only
    go_wp2
    go_ret
    exact ⟨ret_int HF.out.symm, (by repeat (first | exact Ext.refl _ | assumption | refine Ext.alloc ?_ _ | refine Ext.drew ?_ | refine Ext.trans ?_ (by assumption)))⟩
  | true =>
  rw [hb] at HB HD
  rw [HB.out, if_pos rfl] at HR
  rw [date_parts, List.all_append, List.all_append, Bool.and_eq_true, Bool.and_eq_true] at hb
  have c1 := cut_front s 4
  have c2 := cut_mid s 5 7
  have c3 := cut_back s 8
  have A1 := Lib.hid (fun w => atoi_any (s.extract 0 4) (by simp only [ByteArray.size_extract]; omega) (by simp only [ByteArray.size_extract]; omega) (by rw [c1]; exact hb.1.1) w)
  have A2 := Lib.hid (fun w => atoi_any (s.extract 5 7) (by simp only [ByteArray.size_extract]; omega) (by simp only [ByteArray.size_extract]; omega) (by rw [c2]; exact hb.1.2) w)
  have A3 := Lib.hid (fun w => atoi_any (s.extract 8 s.size) (by simp only [ByteArray.size_extract]; have := HSZ.out; omega) (by simp only [ByteArray.size_extract]; omega) (by rw [c3]; exact hb.2) w)
  rw [c1] at A1
  rw [c2, show 7 - 5 = 2 from rfl] at A2
  rw [c3] at A3
  clear hb HB hts c1 c2 c3
  generalize Fm.natOf (s.data.toList.take 4) = y at *
  generalize Fm.natOf ((s.data.toList.drop 5).take 2) = m at *
  generalize Fm.natOf (s.data.toList.drop 8) = d at *
  have HY := Lib.hid (fun w => days_any y m w)
  generalize Fm.days y m = dy at *

  by_cases h0 : (y : Int) < mn
  · have HF : Hid (res = 3) := Lib.hid (by rw [HR.out, if_pos (.inl h0)])
    clear HR
    go_enter Tryz.func52, Tryz.ntmps52
    go_wp2
    refine wp_region_quiet (C := fun w' => ∃ x : Ahead (w.alloc (.cells #[.string nm, .int .i64 op, .int .i64 mn, .int .i64 mx, .int .i64 ck, .slice a n c, .bool opt] 39)), w' = x.at') (by kernel_rfl) (by kernel_rfl) (Ahead.drawn _) ?_
    try dsimp only
    repeat (first | go_big_quiet_step (exact ahead_of (HD.out _)) | quiet_step (exact ahead_of (HD.out _)))
    refine wpQuiet_nil ?_
    intro _ hx0
    obtain ⟨x0, hx0⟩ := hx0
    subst hx0
    obtain ⟨w1, hx1⟩ := x0
    try dsimp only
    go_wp2_with fail
    refine (A1.out _).mono ?_
    rintro e w2 ⟨rfl, hx2⟩
    go_wp2_with fail
    refine (A2.out _).mono ?_
    rintro e w3 ⟨rfl, hx3⟩
    go_wp2_with fail
    refine (A3.out _).mono ?_
    rintro e w4 ⟨rfl, hx4⟩
    obtain ⟨-, -, m2, m3, -, -, -⟩ := kept7 (((hx1.trans hx2).trans hx3).trans hx4)
    go_wp2
    go_ret
    exact ⟨ret_int HF.out.symm, (by repeat (first | exact Ext.refl _ | assumption | refine Ext.alloc ?_ _ | refine Ext.drew ?_ | refine Ext.trans ?_ (by assumption)))⟩
  by_cases h1 : mx < (y : Int)
  · have HF : Hid (res = 3) := Lib.hid (by rw [HR.out, if_pos (.inr (.inl h1))])
    clear HR
    go_enter Tryz.func52, Tryz.ntmps52
    go_wp2
    refine wp_region_quiet (C := fun w' => ∃ x : Ahead (w.alloc (.cells #[.string nm, .int .i64 op, .int .i64 mn, .int .i64 mx, .int .i64 ck, .slice a n c, .bool opt] 39)), w' = x.at') (by kernel_rfl) (by kernel_rfl) (Ahead.drawn _) ?_
    try dsimp only
    repeat (first | go_big_quiet_step (exact ahead_of (HD.out _)) | quiet_step (exact ahead_of (HD.out _)))
    refine wpQuiet_nil ?_
    intro _ hx0
    obtain ⟨x0, hx0⟩ := hx0
    subst hx0
    obtain ⟨w1, hx1⟩ := x0
    try dsimp only
    go_wp2_with fail
    refine (A1.out _).mono ?_
    rintro e w2 ⟨rfl, hx2⟩
    go_wp2_with fail
    refine (A2.out _).mono ?_
    rintro e w3 ⟨rfl, hx3⟩
    go_wp2_with fail
    refine (A3.out _).mono ?_
    rintro e w4 ⟨rfl, hx4⟩
    obtain ⟨-, -, m2, m3, -, -, -⟩ := kept7 (((hx1.trans hx2).trans hx3).trans hx4)
    go_wp2
    go_ret
    exact ⟨ret_int HF.out.symm, (by repeat (first | exact Ext.refl _ | assumption | refine Ext.alloc ?_ _ | refine Ext.drew ?_ | refine Ext.trans ?_ (by assumption)))⟩
  by_cases h2 : (m : Int) < 1
  · have HF : Hid (res = 3) := Lib.hid (by rw [HR.out, if_pos (.inr (.inr (.inl (by omega))))])
    clear HR
    go_enter Tryz.func52, Tryz.ntmps52
    go_wp2
    refine wp_region_quiet (C := fun w' => ∃ x : Ahead (w.alloc (.cells #[.string nm, .int .i64 op, .int .i64 mn, .int .i64 mx, .int .i64 ck, .slice a n c, .bool opt] 39)), w' = x.at') (by kernel_rfl) (by kernel_rfl) (Ahead.drawn _) ?_
    try dsimp only
    repeat (first | go_big_quiet_step (exact ahead_of (HD.out _)) | quiet_step (exact ahead_of (HD.out _)))
    refine wpQuiet_nil ?_
    intro _ hx0
    obtain ⟨x0, hx0⟩ := hx0
    subst hx0
    obtain ⟨w1, hx1⟩ := x0
    try dsimp only
    go_wp2_with fail
    refine (A1.out _).mono ?_
    rintro e w2 ⟨rfl, hx2⟩
    go_wp2_with fail
    refine (A2.out _).mono ?_
    rintro e w3 ⟨rfl, hx3⟩
    go_wp2_with fail
    refine (A3.out _).mono ?_
    rintro e w4 ⟨rfl, hx4⟩
    obtain ⟨-, -, m2, m3, -, -, -⟩ := kept7 (((hx1.trans hx2).trans hx3).trans hx4)
    go_wp2
    go_ret
    exact ⟨ret_int HF.out.symm, (by repeat (first | exact Ext.refl _ | assumption | refine Ext.alloc ?_ _ | refine Ext.drew ?_ | refine Ext.trans ?_ (by assumption)))⟩
  by_cases h3 : (12 : Int) < (m : Int)
  · have HF : Hid (res = 3) := Lib.hid (by rw [HR.out, if_pos (.inr (.inr (.inr (.inl (by omega)))))])
    clear HR
    go_enter Tryz.func52, Tryz.ntmps52
    go_wp2
    refine wp_region_quiet (C := fun w' => ∃ x : Ahead (w.alloc (.cells #[.string nm, .int .i64 op, .int .i64 mn, .int .i64 mx, .int .i64 ck, .slice a n c, .bool opt] 39)), w' = x.at') (by kernel_rfl) (by kernel_rfl) (Ahead.drawn _) ?_
    try dsimp only
    repeat (first | go_big_quiet_step (exact ahead_of (HD.out _)) | quiet_step (exact ahead_of (HD.out _)))
    refine wpQuiet_nil ?_
    intro _ hx0
    obtain ⟨x0, hx0⟩ := hx0
    subst hx0
    obtain ⟨w1, hx1⟩ := x0
    try dsimp only
    go_wp2_with fail
    refine (A1.out _).mono ?_
    rintro e w2 ⟨rfl, hx2⟩
    go_wp2_with fail
    refine (A2.out _).mono ?_
    rintro e w3 ⟨rfl, hx3⟩
    go_wp2_with fail
    refine (A3.out _).mono ?_
    rintro e w4 ⟨rfl, hx4⟩
    obtain ⟨-, -, m2, m3, -, -, -⟩ := kept7 (((hx1.trans hx2).trans hx3).trans hx4)
    go_wp2
    go_ret
    exact ⟨ret_int HF.out.symm, (by repeat (first | exact Ext.refl _ | assumption | refine Ext.alloc ?_ _ | refine Ext.drew ?_ | refine Ext.trans ?_ (by assumption)))⟩
  by_cases h4 : (d : Int) < 1
  · have HF : Hid (res = 3) := Lib.hid (by rw [HR.out, if_pos (.inr (.inr (.inr (.inr (.inl (by omega))))))])
    clear HR
    go_enter Tryz.func52, Tryz.ntmps52
    go_wp2
    refine wp_region_quiet (C := fun w' => ∃ x : Ahead (w.alloc (.cells #[.string nm, .int .i64 op, .int .i64 mn, .int .i64 mx, .int .i64 ck, .slice a n c, .bool opt] 39)), w' = x.at') (by kernel_rfl) (by kernel_rfl) (Ahead.drawn _) ?_
    try dsimp only
    repeat (first | go_big_quiet_step (exact ahead_of (HD.out _)) | quiet_step (exact ahead_of (HD.out _)))
    refine wpQuiet_nil ?_
    intro _ hx0
    obtain ⟨x0, hx0⟩ := hx0
    subst hx0
    obtain ⟨w1, hx1⟩ := x0
    try dsimp only
    go_wp2_with fail
    refine (A1.out _).mono ?_
    rintro e w2 ⟨rfl, hx2⟩
    go_wp2_with fail
    refine (A2.out _).mono ?_
    rintro e w3 ⟨rfl, hx3⟩
    go_wp2_with fail
    refine (A3.out _).mono ?_
    rintro e w4 ⟨rfl, hx4⟩
    obtain ⟨-, -, m2, m3, -, -, -⟩ := kept7 (((hx1.trans hx2).trans hx3).trans hx4)
    go_wp2
    go_ret
    exact ⟨ret_int HF.out.symm, (by repeat (first | exact Ext.refl _ | assumption | refine Ext.alloc ?_ _ | refine Ext.drew ?_ | refine Ext.trans ?_ (by assumption)))⟩
  by_cases h5 : dy < (d : Int)
  · have HF : Hid (res = 3) := Lib.hid (by rw [HR.out, if_pos (.inr (.inr (.inr (.inr (.inr h5)))))])
    clear HR
    go_enter Tryz.func52, Tryz.ntmps52
    go_wp2
    refine wp_region_quiet (C := fun w' => ∃ x : Ahead (w.alloc (.cells #[.string nm, .int .i64 op, .int .i64 mn, .int .i64 mx, .int .i64 ck, .slice a n c, .bool opt] 39)), w' = x.at') (by kernel_rfl) (by kernel_rfl) (Ahead.drawn _) ?_
    try dsimp only
    repeat (first | go_big_quiet_step (exact ahead_of (HD.out _)) | quiet_step (exact ahead_of (HD.out _)))
    refine wpQuiet_nil ?_
    intro _ hx0
    obtain ⟨x0, hx0⟩ := hx0
    subst hx0
    obtain ⟨w1, hx1⟩ := x0
    try dsimp only
    go_wp2_with fail
    refine (A1.out _).mono ?_
    rintro e w2 ⟨rfl, hx2⟩
    go_wp2_with fail
    refine (A2.out _).mono ?_
    rintro e w3 ⟨rfl, hx3⟩
    go_wp2_with fail
    refine (A3.out _).mono ?_
    rintro e w4 ⟨rfl, hx4⟩
    obtain ⟨-, -, m2, m3, -, -, -⟩ := kept7 (((hx1.trans hx2).trans hx3).trans hx4)
    go_wp2_with fail
    refine (HY.out _).mono ?_
    rintro e w5 ⟨rfl, rfl⟩
    go_wp2
    go_ret
    exact ⟨ret_int HF.out.symm, (by repeat (first | exact Ext.refl _ | assumption | refine Ext.alloc ?_ _ | refine Ext.drew ?_ | refine Ext.trans ?_ (by assumption)))⟩
  have HF : Hid (res = 0) := Lib.hid (by rw [HR.out, if_neg (by omega)])
  clear HR
  go_enter Tryz.func52, Tryz.ntmps52
  go_wp2
  refine wp_region_quiet (C := fun w' => ∃ x : Ahead (w.alloc (.cells #[.string nm, .int .i64 op, .int .i64 mn, .int .i64 mx, .int .i64 ck, .slice a n c, .bool opt] 39)), w' = x.at') (by kernel_rfl) (by kernel_rfl) (Ahead.drawn _) ?_
  try dsimp only
  repeat (first | go_big_quiet_step (exact ahead_of (HD.out _)) | quiet_step (exact ahead_of (HD.out _)))
  refine wpQuiet_nil ?_
  intro _ hx0
  obtain ⟨x0, hx0⟩ := hx0
  subst hx0
  obtain ⟨w1, hx1⟩ := x0
  try dsimp only
  go_wp2_with fail
  refine (A1.out _).mono ?_
  rintro e w2 ⟨rfl, hx2⟩
  go_wp2_with fail
  refine (A2.out _).mono ?_
  rintro e w3 ⟨rfl, hx3⟩
  go_wp2_with fail
  refine (A3.out _).mono ?_
  rintro e w4 ⟨rfl, hx4⟩
  obtain ⟨-, -, m2, m3, -, -, -⟩ := kept7 (((hx1.trans hx2).trans hx3).trans hx4)
  go_wp2_with fail
  refine (HY.out _).mono ?_
  rintro e w5 ⟨rfl, rfl⟩
  go_wp2
  go_ret
  exact ⟨ret_int HF.out.symm, (by repeat (first | exact Ext.refl _ | assumption | refine Ext.alloc ?_ _ | refine Ext.drew ?_ | refine Ext.trans ?_ (by assumption)))⟩
end Go.Proofs.YtkpfehfcgpapiaaGreatDoor

/-
  Chapter 51: numbers: the program.
  No condition.
-/
namespace Go.Proofs.YtkpfehfcgpapiaaGreatDoor
open Go.RowKit

/-- The two faults of lines are there. -/
def Errs (w : World) : Prop := (∃ T a, w.cell? ⟨1, 0, none⟩ = some (.iface T (.pointer (some a)))) ∧ ∃ T a, w.cell? ⟨0, 0, none⟩ = some (.iface T (.pointer (some a)))
theorem Errs.ext {w w' : World} (h : Errs w) (hx : Ext w w') : Errs w' := by
  obtain ⟨⟨T, a, h1⟩, T2, a2, h2⟩ := h
  exact ⟨⟨T, a, (hx.cell (World.block_lt_of_cell? _ _ h1)).trans h1⟩, T2, a2, (hx.cell (World.block_lt_of_cell? _ _ h2)).trans h2⟩
theorem cut_neg (l : List UInt8) : Lib.trimPrefix l [45] = Fm.body l ∧ Lib.hasPrefix l [45] = Fm.neg l := by
  cases l with
  | nil => exact ⟨rfl, rfl⟩
  | cons c l =>
    unfold Lib.trimPrefix Lib.hasPrefix Fm.body Fm.neg
    by_cases h : c = 45
    · subst h; exact ⟨rfl, rfl⟩
    · have h1 : (c == 45) = false := beq_eq_false_iff_ne.2 h
      have h2 : ([45] : List UInt8).isPrefixOf (c :: l) = false := by
        show ((45 : UInt8) == c && [].isPrefixOf l) = false
        rw [show ((45 : UInt8) == c) = false from beq_eq_false_iff_ne.2 (fun e => h e.symm)]; rfl
      rw [h2, List.headD_cons, h1]
      exact ⟨rfl, rfl⟩
/-- strings.CutPrefix by a minus sign. -/
theorem cutNeg_any (s : ByteArray) (w : World) : ∃ t : ByteArray, t.data.toList = Fm.body s.data.toList ∧ Calls Tryz.prog 93 #[.string s, .string ⟨#[45]⟩] w fun e w' => e = .returned (.tuple #[.string t, .bool (Fm.neg s.data.toList)]) ∧ w = w' :=
  ⟨⟨(Lib.trimPrefix s.data.toList [45]).toArray⟩, (cut_neg _).1, (Tryz.strings_CutPrefix s ⟨#[45]⟩ w).mono fun _ _ h => ⟨by rw [h.1, ← (cut_neg _).2], h.2.symm⟩⟩
theorem empty_is {t : ByteArray} {l : List UInt8} (h : t.data.toList = l) : t.toList.isEmpty = decide (l.length = 0) := by
  rw [Lib.toList_data, h]; cases l <;> simp
theorem is48 (c : UInt8) : (c == 48) = decide ((c.toNat : Int) = 48) := by
  rw [Bool.eq_iff_iff, beq_iff_eq, decide_eq_true_eq]
  exact ⟨fun h => by rw [h]; rfl, fun h => UInt8.toNat_inj.1 (by have : (48 : UInt8).toNat = 48 := rfl; omega)⟩

set_option maxRecDepth 100000 in
set_option maxHeartbeats 2000000 in
theorem number_ok (s : ByteArray) (hs : s.size ≤ 9223372036854775807) (w : World) (hw : Fm.written s.data.toList = true) :
    Calls Tryz.prog 54 #[.string s] w fun e w' => e = .returned (.tuple #[.int .i64 (Fm.capOf s.data.toList), .nilIface]) ∧ Ext w w' := by
  have HR := Lib.hid (Fm.capOf.eq_1 s.data.toList)
  generalize Fm.capOf s.data.toList = res at *
  obtain ⟨T, hT, hC⟩ := cutNeg_any s w
  have HC := Lib.hid hC
  clear hC
  have hTs : T.size ≤ s.size := by
    rw [size_of_toList hT, ← len_data s]; unfold Fm.body; split
    · rw [List.length_tail]; omega
    · exact Nat.le_refl _
  unfold Fm.written at hw
  rw [← hT, Bool.and_eq_true, Bool.and_eq_true, decide_eq_true_eq, len_data, Bool.not_eq_true'] at hw
  rw [← hT] at HR
  obtain ⟨⟨h0, hall⟩, hlead⟩ := hw
  rw [head_at T h0, is48] at hlead
  have hem := empty_is (rfl : T.data.toList = T.data.toList)
  rw [len_data, decide_eq_false (by omega)] at hem
  have HD := Lib.hid (fun w => trimD_any T (by omega) w)
  have hT0 : (0 : Int) < (T.size : Int) := by omega
  have hzero : Hid (T.size = 1 → (Fm.natOf T.data.toList : Int) ≤ 9) := Lib.hid (fun h1 => by
    have := Fm.natOf_lt T.data.toList hall
    rw [len_data, h1] at this
    omega)
  have HLONG : Hid (16 < T.size → (T[0].toNat : Int) ≠ 48 → 1000000000000001 ≤ (Fm.natOf T.data.toList : Int)) := Lib.hid (fun h1 h2 => by
    have := Fm.natOf_long T.data.toList (by rw [len_data]; exact h1) (by rw [head_at T h0]; intro e; apply h2; rw [e]; rfl) hall
    omega)
  have HAT : Hid (T.size ≤ 16 → ∀ w, Calls Tryz.prog 90 #[.string T] w fun e w' => e = .returned (.tuple #[.int .i64 (Fm.natOf T.data.toList : Int), .nilIface]) ∧ Ext w w') := Lib.hid (fun h1 w => atoi_any T h0 (by omega) hall w)
  have hv0 : (0 : Int) ≤ (Fm.natOf T.data.toList : Int) := by omega
  generalize (Fm.natOf T.data.toList : Int) = v at *
  obtain ⟨x, hxe⟩ : ∃ x : Nat, T[0].toNat = x := ⟨_, rfl⟩
  rw [hxe] at hlead HLONG
  rw [hall] at HD
  clear hall hT hTs
  generalize Fm.neg s.data.toList = ng at *
  obtain ⟨m, hm⟩ : ∃ m : Int, min 1000000000000001 v = m := ⟨_, rfl⟩
  have hm0 : 0 ≤ m := by omega
  have hm1 : m ≤ 1000000000000001 := by omega
  have HM := Lib.hid hm
  replace HR : Hid (res = if ng = true then -m else m) := Lib.hid (by rw [HR.out, ← hm]; rfl)

  by_cases hx : (x : Int) = 48
  · have x48 : ((x : Int) == 48) = true := beq_iff_eq.2 hx
    rw [decide_eq_true hx, Bool.true_and, Bool.or_eq_false_iff, decide_eq_false_iff_not] at hlead
    obtain ⟨hl1, hng⟩ := hlead
    have d1 : ¬ (1 : Int) < (T.size : Int) := by omega
    subst hng
    have HA := Lib.hid (HAT.out (by omega))
    have dl : (T.size : Int) ≤ 16 := by omega
    clear HAT HLONG hzero HM hx hl1
    go_enter Tryz.func54, Tryz.ntmps54
    go_wp2_with fail
    refine HC.out.mono ?_
    rintro e w1 ⟨rfl, rfl⟩
    obtain ⟨t2, ht2, hD⟩ := HD.out w
    go_wp2_with fail
    refine hD.mono ?_
    rintro e w2 ⟨rfl, hx2⟩
    clear hD
    go_wp2_with fail
    refine (HA.out _).mono ?_
    rintro e w3 ⟨rfl, hx3⟩
    go_wp2
    go_ret2
    exact ⟨by rw [HR.out]; rfl, (by repeat (first | exact Ext.refl _ | assumption | refine Ext.alloc ?_ _ | refine Ext.drew ?_ | refine Ext.trans ?_ (by assumption)))⟩
  have x48 : ((x : Int) == 48) = false := beq_eq_false_iff_ne.2 hx
  clear hlead
  by_cases hl : T.size ≤ 16
  · have HA := Lib.hid (HAT.out hl)
    have dl : (T.size : Int) ≤ 16 := by omega
    clear HAT HLONG hzero hl HM
    cases ng with
    | true =>
      go_enter Tryz.func54, Tryz.ntmps54
      go_wp2_with fail
      refine HC.out.mono ?_
      rintro e w1 ⟨rfl, rfl⟩
      obtain ⟨t2, ht2, hD⟩ := HD.out w
      go_wp2_with fail
      refine hD.mono ?_
      rintro e w2 ⟨rfl, hx2⟩
      clear hD
      go_wp2_with fail
      refine (HA.out _).mono ?_
      rintro e w3 ⟨rfl, hx3⟩
      go_wp2
      go_ret2
      exact ⟨by rw [HR.out]; rfl, (by repeat (first | exact Ext.refl _ | assumption | refine Ext.alloc ?_ _ | refine Ext.drew ?_ | refine Ext.trans ?_ (by assumption)))⟩
    | false =>
      go_enter Tryz.func54, Tryz.ntmps54
      go_wp2_with fail
      refine HC.out.mono ?_
      rintro e w1 ⟨rfl, rfl⟩
      obtain ⟨t2, ht2, hD⟩ := HD.out w
      go_wp2_with fail
      refine hD.mono ?_
      rintro e w2 ⟨rfl, hx2⟩
      clear hD
      go_wp2_with fail
      refine (HA.out _).mono ?_
      rintro e w3 ⟨rfl, hx3⟩
      go_wp2
      go_ret2
      exact ⟨by rw [HR.out]; rfl, (by repeat (first | exact Ext.refl _ | assumption | refine Ext.alloc ?_ _ | refine Ext.drew ?_ | refine Ext.trans ?_ (by assumption)))⟩
  · have dl : ¬ (T.size : Int) ≤ 16 := by omega
    have hmm : m = 1000000000000001 := by have := HLONG.out (by omega) hx; omega
    rw [hmm] at HR
    clear HAT HLONG hzero hl HM hmm hm0 hm1 hm
    cases ng with
    | true =>
      go_enter Tryz.func54, Tryz.ntmps54
      go_wp2_with fail
      refine HC.out.mono ?_
      rintro e w1 ⟨rfl, rfl⟩
      obtain ⟨t2, ht2, hD⟩ := HD.out w
      go_wp2_with fail
      refine hD.mono ?_
      rintro e w2 ⟨rfl, hx2⟩
      clear hD
      go_wp2
      go_ret2
      exact ⟨by rw [HR.out]; rfl, (by repeat (first | exact Ext.refl _ | assumption | refine Ext.alloc ?_ _ | refine Ext.drew ?_ | refine Ext.trans ?_ (by assumption)))⟩
    | false =>
      go_enter Tryz.func54, Tryz.ntmps54
      go_wp2_with fail
      refine HC.out.mono ?_
      rintro e w1 ⟨rfl, rfl⟩
      obtain ⟨t2, ht2, hD⟩ := HD.out w
      go_wp2_with fail
      refine hD.mono ?_
      rintro e w2 ⟨rfl, hx2⟩
      clear hD
      go_wp2
      go_ret2
      exact ⟨by rw [HR.out]; rfl, (by repeat (first | exact Ext.refl _ | assumption | refine Ext.alloc ?_ _ | refine Ext.drew ?_ | refine Ext.trans ?_ (by assumption)))⟩
set_option maxRecDepth 100000 in
set_option maxHeartbeats 2000000 in
theorem number_bad (s : ByteArray) (hs : s.size ≤ 9223372036854775807) (w : World) (hE : Errs w) (hw : Fm.written s.data.toList = false) :
    Calls Tryz.prog 54 #[.string s] w fun e w' => ∃ E p, e = .returned (.tuple #[.int .i64 0, .iface E (.pointer (some p))]) ∧ Ext w w' := by
  obtain ⟨⟨E, p, he⟩, -⟩ := hE
  obtain ⟨T, hT, hC⟩ := cutNeg_any s w
  have HC := Lib.hid hC
  clear hC
  have hTs : T.size ≤ s.size := by
    rw [size_of_toList hT, ← len_data s]; unfold Fm.body; split
    · rw [List.length_tail]; omega
    · exact Nat.le_refl _
  unfold Fm.written at hw
  rw [← hT, len_data] at hw
  have HD := Lib.hid (fun w => trimD_any T (by omega) w)
  have hem := empty_is (rfl : T.data.toList = T.data.toList)
  rw [len_data] at hem
  clear hT
  generalize Fm.neg s.data.toList = ng at *
  by_cases h0 : T.size = 0
  · rw [decide_eq_true h0] at hem
    clear hw h0 HD
    go_enter Tryz.func54, Tryz.ntmps54
    go_wp2_with fail
    refine HC.out.mono ?_
    rintro e w1 ⟨rfl, rfl⟩
    go_wp2
    go_quiet (fail)
    go_wp2
    go_ret2
    exact ⟨E, p, rfl, (by repeat (first | exact Ext.refl _ | assumption | refine Ext.alloc ?_ _ | refine Ext.drew ?_ | refine Ext.drewN ?_ _ | refine Ext.setCell ?_ (Nat.le_refl _) _ | refine Ext.trans ?_ (by assumption)))⟩
  rw [decide_eq_false h0] at hem
  have h0' : 0 < T.size := by omega
  have hT0 : (0 : Int) < (T.size : Int) := by omega
  rw [decide_eq_true h0', Bool.true_and, head_at T h0', is48] at hw
  clear h0
  obtain ⟨x, hxe⟩ : ∃ x : Nat, T[0].toNat = x := ⟨_, rfl⟩
  rw [hxe] at hw
  cases hall : T.data.toList.all Fm.dg with
  | false =>
    rw [hall] at HD
    clear hall hw
    go_enter Tryz.func54, Tryz.ntmps54
    go_wp2_with fail
    refine HC.out.mono ?_
    rintro e w1 ⟨rfl, rfl⟩
    obtain ⟨t2, ht2, hD⟩ := HD.out w
    go_wp2_with fail
    refine hD.mono ?_
    rintro e w2 ⟨rfl, hx2⟩
    clear hD
    have e2 := (hx2.cell (World.block_lt_of_cell? _ _ he)).trans he
    go_wp2
    go_quiet (fail)
    go_wp2
    go_ret2
    exact ⟨E, p, rfl, (by repeat (first | exact Ext.refl _ | assumption | refine Ext.alloc ?_ _ | refine Ext.drew ?_ | refine Ext.drewN ?_ _ | refine Ext.setCell ?_ (Nat.le_refl _) _ | refine Ext.trans ?_ (by assumption)))⟩
  | true =>
    rw [hall] at HD hw
    clear hall
    rw [Bool.true_and, Bool.not_eq_false', Bool.and_eq_true, decide_eq_true_eq, Bool.or_eq_true, decide_eq_true_eq] at hw
    obtain ⟨hx, hor⟩ := hw
    have x48 : ((x : Int) == 48) = true := beq_iff_eq.2 hx
    clear hx
    by_cases h1 : 1 < T.size
    · have d1 : (1 : Int) < (T.size : Int) := by omega
      clear hor
      go_enter Tryz.func54, Tryz.ntmps54
      go_wp2_with fail
      refine HC.out.mono ?_
      rintro e w1 ⟨rfl, rfl⟩
      obtain ⟨t2, ht2, hD⟩ := HD.out w
      go_wp2_with fail
      refine hD.mono ?_
      rintro e w2 ⟨rfl, hx2⟩
      clear hD
      have e2 := (hx2.cell (World.block_lt_of_cell? _ _ he)).trans he
      go_wp2
      go_quiet (fail)
      go_wp2
      go_ret2
      exact ⟨E, p, rfl, (by repeat (first | exact Ext.refl _ | assumption | refine Ext.alloc ?_ _ | refine Ext.drew ?_ | refine Ext.drewN ?_ _ | refine Ext.setCell ?_ (Nat.le_refl _) _ | refine Ext.trans ?_ (by assumption)))⟩
    · have d1 : ¬ (1 : Int) < (T.size : Int) := by omega
      have hng : ng = true := hor.resolve_left h1
      subst hng
      clear hor
      go_enter Tryz.func54, Tryz.ntmps54
      go_wp2_with fail
      refine HC.out.mono ?_
      rintro e w1 ⟨rfl, rfl⟩
      obtain ⟨t2, ht2, hD⟩ := HD.out w
      go_wp2_with fail
      refine hD.mono ?_
      rintro e w2 ⟨rfl, hx2⟩
      clear hD
      have e2 := (hx2.cell (World.block_lt_of_cell? _ _ he)).trans he
      go_wp2
      go_quiet (fail)
      go_wp2
      go_ret2
      exact ⟨E, p, rfl, (by repeat (first | exact Ext.refl _ | assumption | refine Ext.alloc ?_ _ | refine Ext.drew ?_ | refine Ext.drewN ?_ _ | refine Ext.setCell ?_ (Nat.le_refl _) _ | refine Ext.trans ?_ (by assumption)))⟩
end Go.Proofs.YtkpfehfcgpapiaaGreatDoor

/-
  Chapter 51: Value: the program.
  No condition.
-/
namespace Go.Proofs.YtkpfehfcgpapiaaGreatDoor
open Go.RowKit

/-- slices.Contains of strings. -/
theorem contains_any (v : Value) (l : List Fm.S) (s : ByteArray) (w : World) (hl : StrsR w v l) (hn : l.length ≤ 9223372036854775807) :
    Calls Tryz.prog 53 #[v, .string s] w fun e w' => e = .returned (.bool (l.contains s.data.toList)) ∧ w = w' := by
  obtain ⟨hk, a, c, rfl, hc⟩ := hl
  rcases hk with ⟨rfl, _⟩ | ⟨b, off, cap, he, hb, hcell⟩
  · exact (Tryz.slices_Contains_string_empty a c s w).mono fun _ _ h => ⟨h.1, h.2.symm⟩
  · injection he with h1 h2 h3
    subst h1 h3
    have hlen : (l.map fun x => (⟨x.toArray⟩ : ByteArray)).length = l.length := List.length_map _
    refine (Tryz.slices_Contains_string b off l.length c (l.map fun x => (⟨x.toArray⟩ : ByteArray)) s w (by rw [hlen]; exact Nat.le_refl _) hn (fun j hj => ?_)).mono fun _ _ h => ⟨?_, h.2.symm⟩
    · rw [hlen] at hj
      have := hcell j l[j] (List.getElem?_eq_getElem hj) 0 (by decide)
      rw [Nat.mul_one, Nat.add_zero] at this
      rw [this, List.getD_eq_getElem?_getD, List.getElem?_map, List.getElem?_eq_getElem hj]
      rfl
    · rw [h.1, List.take_of_length_le (by rw [hlen]; exact Nat.le_refl _)]
      congr 2
      rw [Bool.eq_iff_iff, Lib.containsS_iff, List.contains_iff_mem, List.mem_map]
      constructor
      · rintro ⟨x, hx, rfl⟩; exact hx
      · intro h; exact ⟨_, h, mk_toList s⟩

set_option maxRecDepth 100000 in
set_option maxHeartbeats 2000000 in
theorem fvalue_any (nm : ByteArray) (op mn mx ck : Int) (a : Option Addr) (n c : Nat) (opt : Bool) (l : List Fm.S) (s : ByteArray) (hs : s.size ≤ 9223372036854775807) (w : World) (hl : StrsR w (.slice a n c) l) (hsh : Short Go.maxLen l) (hn : l.length ≤ Go.maxLen) (hE : Errs w) :
    Calls Tryz.prog 22 #[.agg #[.string nm, .int .i64 op, .int .i64 mn, .int .i64 mx, .int .i64 ck, .slice a n c, .bool opt], .string s] w fun e w' => e = .returned (.int .i64 (Fm.value ⟨nm.data.toList, op, mn, mx, ck, l, opt⟩ s.data.toList)) ∧ Ext w w' := by
  have HR := Lib.hid (Fm.value.eq_1 ⟨nm.data.toList, op, mn, mx, ck, l, opt⟩ s.data.toList)
  dsimp only at HR
  rw [len_data] at HR
  generalize Fm.value ⟨nm.data.toList, op, mn, mx, ck, l, opt⟩ s.data.toList = res at *
  have HN := Lib.hid (fun w => isName_any nm w)
  cases hw : Fm.isName nm.data.toList with
  | false =>
    rw [hw] at HN HR
    have HF : Hid (res = 1) := Lib.hid (by rw [HR.out, if_pos (.inl rfl)])
    clear hw HR hl hsh hn hE
    go_enter Tryz.func22, Tryz.ntmps22
    go_wp2_with fail
    refine (HN.out _).mono ?_
    rintro e w1 ⟨rfl, rfl⟩
    go_wp2
    go_ret
    exact ⟨ret_int HF.out.symm, (by repeat (first | exact Ext.refl _ | assumption | refine Ext.alloc ?_ _ | refine Ext.drew ?_ | refine Ext.trans ?_ (by assumption)))⟩
  | true =>
  rw [hw] at HN HR
  clear hw
  have HM := Lib.hid (fun (w' : World) (hx : Ext w w') => checkMembers_any nm op mn mx ck a n c opt l w' (hl.ext hx) hsh hn)
  by_cases hm : Fm.memE ⟨nm.data.toList, op, mn, mx, ck, l, opt⟩ = 0
  rotate_left
  · have HF : Hid (res = 1) := Lib.hid (by rw [HR.out, if_pos (.inr hm)])
    obtain ⟨z, hz⟩ : ∃ z, Fm.memE ⟨nm.data.toList, op, mn, mx, ck, l, opt⟩ = z := ⟨_, rfl⟩
    rw [hz] at HM hm
    have z0 : (z != 0) = true := bne_iff_ne.2 hm
    clear hz hm HR hl hsh hn hE
    go_enter Tryz.func22, Tryz.ntmps22
    go_wp2_with fail
    refine (HN.out _).mono ?_
    rintro e w1 ⟨rfl, rfl⟩
    go_wp2_with fail
    refine (HM.out _ (by repeat (first | exact Ext.refl _ | assumption | refine Ext.alloc ?_ _ | refine Ext.drew ?_ | refine Ext.trans ?_ (by assumption)))).mono ?_
    rintro e w2 ⟨rfl, hx2⟩
    go_wp2
    go_ret
    exact ⟨ret_int HF.out.symm, (by repeat (first | exact Ext.refl _ | assumption | refine Ext.alloc ?_ _ | refine Ext.drew ?_ | refine Ext.trans ?_ (by assumption)))⟩
  rw [if_neg (fun h => h.elim Bool.noConfusion (fun h => h hm))] at HR
  have hmem := Lib.hid hm
  rw [hm] at HM
  clear hm
  have HOP : Hid (op = 1 ∨ op = 3 ∨ op = 5 ∨ op = 4 ∨ op = 2) := Lib.hid (by
    have := hmem.out
    unfold Fm.memE at this
    dsimp only at this
    by_cases h : op < 1 ∨ 5 < op
    · rw [if_pos h] at this; cases this
    · omega)
  have HK : Hid (∀ w2, Ext (w.alloc (.cells #[.string nm, .int .i64 op, .int .i64 mn, .int .i64 mx, .int .i64 ck, .slice a n c, .bool opt] 39)) w2 → w2.cell? ⟨w.heap.size, 0, none⟩ = some (.string nm) ∧ w2.cell? ⟨w.heap.size, 1, none⟩ = some (.int .i64 op) ∧ w2.cell? ⟨w.heap.size, 2, none⟩ = some (.int .i64 mn) ∧ w2.cell? ⟨w.heap.size, 3, none⟩ = some (.int .i64 mx) ∧ w2.cell? ⟨w.heap.size, 4, none⟩ = some (.int .i64 ck) ∧ w2.cell? ⟨w.heap.size, 5, none⟩ = some (.slice a n c) ∧ w2.cell? ⟨w.heap.size, 6, none⟩ = some (.bool opt)) := Lib.hid fun w2 h => kept7 h
  have HL := Lib.hid hl
  have HE := Lib.hid hE
  have HNL := Lib.hid hn
  clear hl hsh hn hE

  have hem := empty_is (rfl : s.data.toList = s.data.toList)
  rw [len_data] at hem
  by_cases h0 : s.size = 0
  · rw [decide_eq_true h0] at hem
    rw [if_pos h0] at HR
    clear h0
    cases opt with
    | true =>
      rw [if_pos (.inl rfl)] at HR
      go_enter Tryz.func22, Tryz.ntmps22
      go_wp2_with fail
      refine (HN.out _).mono ?_
      rintro e w1 ⟨rfl, rfl⟩
      go_wp2_with fail
      refine (HM.out _ (by repeat (first | exact Ext.refl _ | assumption | refine Ext.alloc ?_ _ | refine Ext.drew ?_ | refine Ext.trans ?_ (by assumption)))).mono ?_
      rintro e w2 ⟨rfl, hx2⟩
      obtain ⟨m0, m1, m2, m3, m4, m5, m6⟩ := HK.out _ hx2
      go_wp2
      go_ret
      exact ⟨ret_int HR.out.symm, (by repeat (first | exact Ext.refl _ | assumption | refine Ext.alloc ?_ _ | refine Ext.drew ?_ | refine Ext.trans ?_ (by assumption)))⟩
    | false =>
      by_cases h3 : op = 3
      rotate_left
      · have o3 : (op == 3) = false := beq_eq_false_iff_ne.2 h3
        rw [if_neg (fun h => h.elim Bool.noConfusion (fun h => h3 h.1))] at HR
        clear h3
        go_enter Tryz.func22, Tryz.ntmps22
        go_wp2_with fail
        refine (HN.out _).mono ?_
        rintro e w1 ⟨rfl, rfl⟩
        go_wp2_with fail
        refine (HM.out _ (by repeat (first | exact Ext.refl _ | assumption | refine Ext.alloc ?_ _ | refine Ext.drew ?_ | refine Ext.trans ?_ (by assumption)))).mono ?_
        rintro e w2 ⟨rfl, hx2⟩
        obtain ⟨m0, m1, m2, m3, m4, m5, m6⟩ := HK.out _ hx2
        go_wp2
        go_ret
        exact ⟨ret_int HR.out.symm, (by repeat (first | exact Ext.refl _ | assumption | refine Ext.alloc ?_ _ | refine Ext.drew ?_ | refine Ext.trans ?_ (by assumption)))⟩
      subst h3
      by_cases h3 : mn = 0
      rotate_left
      · have o3 : (mn == 0) = false := beq_eq_false_iff_ne.2 h3
        rw [if_neg (fun h => h.elim Bool.noConfusion (fun h => h3 h.2))] at HR
        clear h3
        go_enter Tryz.func22, Tryz.ntmps22
        go_wp2_with fail
        refine (HN.out _).mono ?_
        rintro e w1 ⟨rfl, rfl⟩
        go_wp2_with fail
        refine (HM.out _ (by repeat (first | exact Ext.refl _ | assumption | refine Ext.alloc ?_ _ | refine Ext.drew ?_ | refine Ext.trans ?_ (by assumption)))).mono ?_
        rintro e w2 ⟨rfl, hx2⟩
        obtain ⟨m0, m1, m2, m3, m4, m5, m6⟩ := HK.out _ hx2
        go_wp2
        go_ret
        exact ⟨ret_int HR.out.symm, (by repeat (first | exact Ext.refl _ | assumption | refine Ext.alloc ?_ _ | refine Ext.drew ?_ | refine Ext.trans ?_ (by assumption)))⟩
      subst h3
      rw [if_pos (.inr ⟨rfl, rfl⟩)] at HR
      go_enter Tryz.func22, Tryz.ntmps22
      go_wp2_with fail
      refine (HN.out _).mono ?_
      rintro e w1 ⟨rfl, rfl⟩
      go_wp2_with fail
      refine (HM.out _ (by repeat (first | exact Ext.refl _ | assumption | refine Ext.alloc ?_ _ | refine Ext.drew ?_ | refine Ext.trans ?_ (by assumption)))).mono ?_
      rintro e w2 ⟨rfl, hx2⟩
      obtain ⟨m0, m1, m2, m3, m4, m5, m6⟩ := HK.out _ hx2
      go_wp2
      go_ret
      exact ⟨ret_int HR.out.symm, (by repeat (first | exact Ext.refl _ | assumption | refine Ext.alloc ?_ _ | refine Ext.drew ?_ | refine Ext.trans ?_ (by assumption)))⟩
  rw [decide_eq_false h0] at hem
  rw [if_neg h0] at HR
  clear h0
  rcases HOP.out with rfl | rfl | rfl | rfl | rfl
  · have HG := Lib.hid (fun w => digitsError_any nm 1 mn mx ck a n c opt l s hs w)
    replace HR : Hid (res = Fm.digV ⟨nm.data.toList, 1, mn, mx, ck, l, opt⟩ s.data.toList) := HR
    go_enter Tryz.func22, Tryz.ntmps22
    go_wp2_with fail
    refine (HN.out _).mono ?_
    rintro e w1 ⟨rfl, rfl⟩
    go_wp2_with fail
    refine (HM.out _ (by repeat (first | exact Ext.refl _ | assumption | refine Ext.alloc ?_ _ | refine Ext.drew ?_ | refine Ext.trans ?_ (by assumption)))).mono ?_
    rintro e w2 ⟨rfl, hx2⟩
    obtain ⟨m0, m1, m2, m3, m4, m5, m6⟩ := HK.out _ hx2
    go_wp2_with fail
    refine (HG.out _).mono ?_
    rintro e w3 ⟨rfl, hx3⟩
    go_wp2
    go_ret
    exact ⟨ret_int HR.out.symm, (by repeat (first | exact Ext.refl _ | assumption | refine Ext.alloc ?_ _ | refine Ext.drew ?_ | refine Ext.trans ?_ (by assumption)))⟩
  · have HG := Lib.hid (fun w => textError_any nm 3 mn mx ck a n c opt l s hs w)
    replace HR : Hid (res = Fm.txtV ⟨nm.data.toList, 3, mn, mx, ck, l, opt⟩ s.data.toList) := HR
    go_enter Tryz.func22, Tryz.ntmps22
    go_wp2_with fail
    refine (HN.out _).mono ?_
    rintro e w1 ⟨rfl, rfl⟩
    go_wp2_with fail
    refine (HM.out _ (by repeat (first | exact Ext.refl _ | assumption | refine Ext.alloc ?_ _ | refine Ext.drew ?_ | refine Ext.trans ?_ (by assumption)))).mono ?_
    rintro e w2 ⟨rfl, hx2⟩
    obtain ⟨m0, m1, m2, m3, m4, m5, m6⟩ := HK.out _ hx2
    go_wp2_with fail
    refine (HG.out _).mono ?_
    rintro e w3 ⟨rfl, hx3⟩
    go_wp2
    go_ret
    exact ⟨ret_int HR.out.symm, (by repeat (first | exact Ext.refl _ | assumption | refine Ext.alloc ?_ _ | refine Ext.drew ?_ | refine Ext.trans ?_ (by assumption)))⟩
  · have HG := Lib.hid (fun w => dateError_any nm 5 mn mx ck a n c opt l s hs w)
    replace HR : Hid (res = Fm.dateV ⟨nm.data.toList, 5, mn, mx, ck, l, opt⟩ s.data.toList) := HR
    go_enter Tryz.func22, Tryz.ntmps22
    go_wp2_with fail
    refine (HN.out _).mono ?_
    rintro e w1 ⟨rfl, rfl⟩
    go_wp2_with fail
    refine (HM.out _ (by repeat (first | exact Ext.refl _ | assumption | refine Ext.alloc ?_ _ | refine Ext.drew ?_ | refine Ext.trans ?_ (by assumption)))).mono ?_
    rintro e w2 ⟨rfl, hx2⟩
    obtain ⟨m0, m1, m2, m3, m4, m5, m6⟩ := HK.out _ hx2
    go_wp2_with fail
    refine (HG.out _).mono ?_
    rintro e w3 ⟨rfl, hx3⟩
    go_wp2
    go_ret
    exact ⟨ret_int HR.out.symm, (by repeat (first | exact Ext.refl _ | assumption | refine Ext.alloc ?_ _ | refine Ext.drew ?_ | refine Ext.trans ?_ (by assumption)))⟩
  · have HG := Lib.hid (fun (w' : World) (hx : Ext w w') => contains_any (.slice a n c) l s w' (HL.out.ext hx) HNL.out)
    replace HR : Hid (res = if l.contains s.data.toList then 0 else 29) := HR
    cases hc : l.contains s.data.toList with
    | true =>
      rw [hc, if_pos rfl] at HR
      rw [hc] at HG
      clear hc
      go_enter Tryz.func22, Tryz.ntmps22
      go_wp2_with fail
      refine (HN.out _).mono ?_
      rintro e w1 ⟨rfl, rfl⟩
      go_wp2_with fail
      refine (HM.out _ (by repeat (first | exact Ext.refl _ | assumption | refine Ext.alloc ?_ _ | refine Ext.drew ?_ | refine Ext.trans ?_ (by assumption)))).mono ?_
      rintro e w2 ⟨rfl, hx2⟩
      obtain ⟨m0, m1, m2, m3, m4, m5, m6⟩ := HK.out _ hx2
      go_wp2_with fail
      refine (HG.out _ (by repeat (first | exact Ext.refl _ | assumption | refine Ext.alloc ?_ _ | refine Ext.drew ?_ | refine Ext.trans ?_ (by assumption)))).mono ?_
      rintro e w3 ⟨rfl, rfl⟩
      go_wp2
      go_ret
      exact ⟨ret_int HR.out.symm, (by repeat (first | exact Ext.refl _ | assumption | refine Ext.alloc ?_ _ | refine Ext.drew ?_ | refine Ext.trans ?_ (by assumption)))⟩
    | false =>
      rw [hc, if_neg (by decide)] at HR
      rw [hc] at HG
      clear hc
      go_enter Tryz.func22, Tryz.ntmps22
      go_wp2_with fail
      refine (HN.out _).mono ?_
      rintro e w1 ⟨rfl, rfl⟩
      go_wp2_with fail
      refine (HM.out _ (by repeat (first | exact Ext.refl _ | assumption | refine Ext.alloc ?_ _ | refine Ext.drew ?_ | refine Ext.trans ?_ (by assumption)))).mono ?_
      rintro e w2 ⟨rfl, hx2⟩
      obtain ⟨m0, m1, m2, m3, m4, m5, m6⟩ := HK.out _ hx2
      go_wp2_with fail
      refine (HG.out _ (by repeat (first | exact Ext.refl _ | assumption | refine Ext.alloc ?_ _ | refine Ext.drew ?_ | refine Ext.trans ?_ (by assumption)))).mono ?_
      rintro e w3 ⟨rfl, rfl⟩
      go_wp2
      go_ret
      exact ⟨ret_int HR.out.symm, (by repeat (first | exact Ext.refl _ | assumption | refine Ext.alloc ?_ _ | refine Ext.drew ?_ | refine Ext.trans ?_ (by assumption)))⟩
  · replace HR : Hid (res = if Fm.written s.data.toList then (if Fm.valOf s.data.toList < mn ∨ mx < Fm.valOf s.data.toList then 3 else 0) else 9) := HR
    cases hw : Fm.written s.data.toList with
    | false =>
      rw [hw, if_neg (by decide)] at HR
      have HG := Lib.hid (fun (w' : World) (hx : Ext w w') => number_bad s hs w' (HE.out.ext hx) hw)
      clear hw
      go_enter Tryz.func22, Tryz.ntmps22
      go_wp2_with fail
      refine (HN.out _).mono ?_
      rintro e w1 ⟨rfl, rfl⟩
      go_wp2_with fail
      refine (HM.out _ (by repeat (first | exact Ext.refl _ | assumption | refine Ext.alloc ?_ _ | refine Ext.drew ?_ | refine Ext.trans ?_ (by assumption)))).mono ?_
      rintro e w2 ⟨rfl, hx2⟩
      obtain ⟨m0, m1, m2, m3, m4, m5, m6⟩ := HK.out _ hx2
      go_wp2_with fail
      refine (HG.out _ (by repeat (first | exact Ext.refl _ | assumption | refine Ext.alloc ?_ _ | refine Ext.drew ?_ | refine Ext.trans ?_ (by assumption)))).mono ?_
      rintro e w3 ⟨E, p, rfl, hx3⟩
      go_wp2
      go_ret
      exact ⟨ret_int HR.out.symm, (by repeat (first | exact Ext.refl _ | assumption | refine Ext.alloc ?_ _ | refine Ext.drew ?_ | refine Ext.trans ?_ (by assumption)))⟩
    | true =>
      rw [hw, if_pos rfl] at HR
      have HG := Lib.hid (fun (w' : World) => number_ok s hs w' hw)
      have hwi : Fm.within (-1000000000000000) mn mx 1000000000000000 = true := by
        have := hmem.out
        have e : Fm.memE ⟨nm.data.toList, 2, mn, mx, ck, l, opt⟩ = if ck = 0 ∧ l.length = 0 then (if Fm.within (-1000000000000000) mn mx 1000000000000000 then 0 else 3) else 1 := rfl
        rw [e] at this
        split at this
        · split at this
          · assumption
          · cases this
        · cases this
      unfold Fm.within at hwi
      rw [Bool.and_eq_true, Bool.and_eq_true, decide_eq_true_eq, decide_eq_true_eq, decide_eq_true_eq] at hwi
      have hlo := Fm.capOf_lo s.data.toList mn (by unfold Fm.great; omega) (by unfold Fm.great; omega)
      have hhi := Fm.capOf_lo s.data.toList mx (by unfold Fm.great; omega) (by unfold Fm.great; omega)
      replace HR : Hid (res = if Fm.capOf s.data.toList < mn ∨ mx < Fm.capOf s.data.toList then 3 else 0) := Lib.hid (by
        rw [HR.out]
        by_cases h : Fm.capOf s.data.toList < mn ∨ mx < Fm.capOf s.data.toList
        · rw [if_pos h, if_pos (by rw [← hlo.1, ← hhi.2]; exact h)]
        · rw [if_neg h, if_neg (fun h' => h (by rw [hlo.1, hhi.2]; exact h'))])
      clear hwi hlo hhi hw
      generalize Fm.capOf s.data.toList = z at *
      by_cases h1 : z < mn
      · rw [if_pos (.inl h1)] at HR
        go_enter Tryz.func22, Tryz.ntmps22
        go_wp2_with fail
        refine (HN.out _).mono ?_
        rintro e w1 ⟨rfl, rfl⟩
        go_wp2_with fail
        refine (HM.out _ (by repeat (first | exact Ext.refl _ | assumption | refine Ext.alloc ?_ _ | refine Ext.drew ?_ | refine Ext.trans ?_ (by assumption)))).mono ?_
        rintro e w2 ⟨rfl, hx2⟩
        obtain ⟨m0, m1, m2, m3, m4, m5, m6⟩ := HK.out _ hx2
        go_wp2_with fail
        refine (HG.out _).mono ?_
        rintro e w3 ⟨rfl, hx3⟩
        obtain ⟨-, -, k2, k3, -, -, -⟩ := HK.out _ (hx2.trans hx3)
        go_wp2
        go_ret
        exact ⟨ret_int HR.out.symm, (by repeat (first | exact Ext.refl _ | assumption | refine Ext.alloc ?_ _ | refine Ext.drew ?_ | refine Ext.trans ?_ (by assumption)))⟩
      by_cases h2 : mx < z
      · rw [if_pos (.inr h2)] at HR
        go_enter Tryz.func22, Tryz.ntmps22
        go_wp2_with fail
        refine (HN.out _).mono ?_
        rintro e w1 ⟨rfl, rfl⟩
        go_wp2_with fail
        refine (HM.out _ (by repeat (first | exact Ext.refl _ | assumption | refine Ext.alloc ?_ _ | refine Ext.drew ?_ | refine Ext.trans ?_ (by assumption)))).mono ?_
        rintro e w2 ⟨rfl, hx2⟩
        obtain ⟨m0, m1, m2, m3, m4, m5, m6⟩ := HK.out _ hx2
        go_wp2_with fail
        refine (HG.out _).mono ?_
        rintro e w3 ⟨rfl, hx3⟩
        obtain ⟨-, -, k2, k3, -, -, -⟩ := HK.out _ (hx2.trans hx3)
        go_wp2
        go_ret
        exact ⟨ret_int HR.out.symm, (by repeat (first | exact Ext.refl _ | assumption | refine Ext.alloc ?_ _ | refine Ext.drew ?_ | refine Ext.trans ?_ (by assumption)))⟩
      rw [if_neg (fun h => h.elim h1 h2)] at HR
      go_enter Tryz.func22, Tryz.ntmps22
      go_wp2_with fail
      refine (HN.out _).mono ?_
      rintro e w1 ⟨rfl, rfl⟩
      go_wp2_with fail
      refine (HM.out _ (by repeat (first | exact Ext.refl _ | assumption | refine Ext.alloc ?_ _ | refine Ext.drew ?_ | refine Ext.trans ?_ (by assumption)))).mono ?_
      rintro e w2 ⟨rfl, hx2⟩
      obtain ⟨m0, m1, m2, m3, m4, m5, m6⟩ := HK.out _ hx2
      go_wp2_with fail
      refine (HG.out _).mono ?_
      rintro e w3 ⟨rfl, hx3⟩
      obtain ⟨-, -, k2, k3, -, -, -⟩ := HK.out _ (hx2.trans hx3)
      go_wp2
      go_ret
      exact ⟨ret_int HR.out.symm, (by repeat (first | exact Ext.refl _ | assumption | refine Ext.alloc ?_ _ | refine Ext.drew ?_ | refine Ext.trans ?_ (by assumption)))⟩
end Go.Proofs.YtkpfehfcgpapiaaGreatDoor
