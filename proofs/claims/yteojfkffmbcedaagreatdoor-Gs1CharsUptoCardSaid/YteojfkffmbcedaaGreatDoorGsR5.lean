/-
  Chapter 14: the reference's date and checked, walked.
  Condition: digits.
-/
import Derived.Test.YteojfkffmbcedaaGreatDoorGsR4
namespace Go.Proofs.YteojfkffmbcedaaGreatDoor
set_option linter.unusedVariables false
open Go.RowKit

theorem num2_drop (l : List UInt8) (k n : Nat) (h : k + 1 < l.length) (hn : 2 ≤ n) : Gs.num2 ((l.drop k).take n) 0 = Gs.num2 l k := by
  unfold Gs.num2
  have e : ∀ i, i < n → ((l.drop k).take n).getD i 0 = l.getD (k + i) 0 := by
    intro i hi
    rw [List.getD_eq_getElem?_getD, List.getD_eq_getElem?_getD, List.getElem?_take, if_pos hi, List.getElem?_drop]
  rw [e 0 (by omega), e (0 + 1) (by omega)]; rfl
theorem dig_sub {l : List UInt8} (h : Cd.AllDig l) (k n : Nat) : Cd.AllDig ((l.drop k).take n) := fun c hc => h c (List.mem_of_mem_drop (List.mem_of_mem_take hc))

set_option maxRecDepth 100000 in
set_option maxHeartbeats 8000000 in
theorem rdate_any (s : ByteArray) (hs : s.size = 6) (hd : Cd.AllDig s.data.toList) (w : World) :
    Calls Tryz.prog 41 #[.string s] w fun e w' => e = .returned (.bool (Gs.dateB s.data.toList)) ∧ Ext w w' := by
  have hl : s.data.toList.length = 6 := by rw [len_data]; exact hs
  obtain ⟨y0, y9⟩ := num2_bd hd (k := 0) (by omega)
  obtain ⟨m0, m9⟩ := num2_bd hd (k := 2) (by omega)
  obtain ⟨d0, d9⟩ := num2_bd hd (k := 4) (by omega)
  have sub : ∀ a b : Nat, a + 2 ≤ b → b ≤ 6 → ∀ w, Calls Tryz.prog 55 #[.string (s.extract a b)] w fun e w' => e = .returned (.int .i64 (Gs.num2 s.data.toList a)) ∧ Ext w w' := by
    intro a b hab hb w
    have := rnumber_any (s.extract a b) (by rw [ByteArray.size_extract]; omega) (by rw [cut_mid]; exact dig_sub hd a (b - a)) w (by rw [ByteArray.size_extract]; omega)
    rw [cut_mid, num2_drop _ _ _ (by omega) (by omega)] at this
    exact this
  have H0 := Lib.hid (sub 0 2 (by omega) (by omega))
  have H2 := Lib.hid (sub 2 4 (by omega) (by omega))
  have H4 := Lib.hid (sub 4 6 (by omega) (by omega))
  have HB := Lib.hid (Gs.dateB.eq_1 s.data.toList)
  generalize Gs.dateB s.data.toList = res at *
  generalize Gs.num2 s.data.toList 0 = y at *
  generalize Gs.num2 s.data.toList 2 = m at *
  generalize Gs.num2 s.data.toList 4 = d at *
  have hs4 : 4 ≤ s.size := by omega
  have hs6 : s.size ≤ 6 := by omega
  have HS := Lib.hid hs
  have HE4 : Hid (s.extract 4 s.size = s.extract 4 6) := Lib.hid (by rw [hs])
  clear hl hs hd sub
  by_cases hm1 : m < 1
  · have HR : Hid (res = false) := Lib.hid (by rw [HB.out, Gs.dateOf, if_pos (.inl hm1)])
    clear HB
    go_enter Tryz.func41, Tryz.ntmps41
    go_wp2_with fail
    refine (H2.out _).mono ?_
    rintro e w1 ⟨rfl, hx1⟩
    go_wp2
    go_ret
    exact ⟨ret_bool HR.out.symm, hx1⟩
  by_cases hm2 : 12 < m
  · have HR : Hid (res = false) := Lib.hid (by rw [HB.out, Gs.dateOf, if_pos (.inr hm2)])
    have hm3 : 1 ≤ m := by omega
    clear HB hm1
    go_enter Tryz.func41, Tryz.ntmps41
    go_wp2_with fail
    refine (H2.out _).mono ?_
    rintro e w1 ⟨rfl, hx1⟩
    go_wp2
    go_ret
    exact ⟨ret_bool HR.out.symm, hx1⟩
  have HR : Hid (res = decide (d ≤ Gs.days.getD (m - 1).toNat 0 + (if m = 2 ∧ y % 4 = 0 then 1 else 0))) := Lib.hid (by rw [HB.out, Gs.dateOf, if_neg (by omega)])
  have hmm : m = 1 ∨ m = 2 ∨ m = 3 ∨ m = 4 ∨ m = 5 ∨ m = 6 ∨ m = 7 ∨ m = 8 ∨ m = 9 ∨ m = 10 ∨ m = 11 ∨ m = 12 := by omega
  clear HB hm1 hm2 m0 m9
  rcases hmm with rfl | hmm
  · replace HR : Hid (res = decide (d ≤ 31)) := Lib.hid HR.out
    clear H0
    go_enter Tryz.func41, Tryz.ntmps41
    go_wp2_with fail
    refine (H2.out _).mono ?_
    rintro e w1 ⟨rfl, hx1⟩
    go_wp2_with fail
    rw [HE4.out]
    refine (H4.out _).mono ?_
    rintro e w2 ⟨rfl, hx2⟩
    go_wp2
    go_ret
    exact ⟨ret_bool HR.out.symm, (by repeat (first | exact Ext.refl _ | assumption | refine Ext.alloc ?_ _ | refine Ext.drew ?_ | refine Ext.drewN ?_ _ | refine Ext.setCell ?_ (Nat.le_refl _) _ | refine Ext.trans ?_ (by assumption)))⟩
  rcases hmm with rfl | hmm
  · have HR1 : Hid (res = decide (d ≤ 28 + (if (2 : Int) = 2 ∧ y % 4 = 0 then 1 else 0))) := Lib.hid HR.out
    clear HR
    by_cases hy : y % 4 = 0
    · have HR : Hid (res = decide (d ≤ 29)) := Lib.hid (by rw [HR1.out, if_pos ⟨rfl, hy⟩]; rfl)
      clear HR1
      go_enter Tryz.func41, Tryz.ntmps41
      go_wp2_with fail
      refine (H2.out _).mono ?_
      rintro e w1 ⟨rfl, hx1⟩
      go_wp2_with fail
      refine (H0.out _).mono ?_
      rintro e w2 ⟨rfl, hx2⟩
      go_wp2_with fail
      rw [HE4.out]
      refine (H4.out _).mono ?_
      rintro e w3 ⟨rfl, hx3⟩
      go_wp2
      go_ret
      exact ⟨ret_bool HR.out.symm, (by repeat (first | exact Ext.refl _ | assumption | refine Ext.alloc ?_ _ | refine Ext.drew ?_ | refine Ext.drewN ?_ _ | refine Ext.setCell ?_ (Nat.le_refl _) _ | refine Ext.trans ?_ (by assumption)))⟩
    · have HR : Hid (res = decide (d ≤ 28)) := Lib.hid (by rw [HR1.out, if_neg (fun h => hy h.2)]; rfl)
      have hy1 : (y % 4 == 0) = false := by simpa using hy
      clear HR1
      go_enter Tryz.func41, Tryz.ntmps41
      go_wp2_with fail
      refine (H2.out _).mono ?_
      rintro e w1 ⟨rfl, hx1⟩
      go_wp2_with fail
      refine (H0.out _).mono ?_
      rintro e w2 ⟨rfl, hx2⟩
      go_wp2_with fail
      rw [HE4.out]
      refine (H4.out _).mono ?_
      rintro e w3 ⟨rfl, hx3⟩
      go_wp2
      go_ret
      exact ⟨ret_bool HR.out.symm, (by repeat (first | exact Ext.refl _ | assumption | refine Ext.alloc ?_ _ | refine Ext.drew ?_ | refine Ext.drewN ?_ _ | refine Ext.setCell ?_ (Nat.le_refl _) _ | refine Ext.trans ?_ (by assumption)))⟩
  rcases hmm with rfl | rfl | rfl | rfl | rfl | rfl | rfl | rfl | rfl | rfl
  all_goals
    replace HR : Hid (res = decide (d ≤ _)) := Lib.hid HR.out
    clear H0
    go_enter Tryz.func41, Tryz.ntmps41
    go_wp2_with fail
    refine (H2.out _).mono ?_
    rintro e w1 ⟨rfl, hx1⟩
    go_wp2_with fail
    rw [HE4.out]
    refine (H4.out _).mono ?_
    rintro e w2 ⟨rfl, hx2⟩
    go_wp2
    go_ret
    exact ⟨ret_bool HR.out.symm, (by repeat (first | exact Ext.refl _ | assumption | refine Ext.alloc ?_ _ | refine Ext.drew ?_ | refine Ext.drewN ?_ _ | refine Ext.setCell ?_ (Nat.le_refl _) _ | refine Ext.trans ?_ (by assumption)))⟩

theorem gsF_bd (l : List UInt8) (h : Cd.AllDig l) : 0 ≤ (Cd.gsF l).1 ∧ (Cd.gsF l).1 ≤ 27 * l.length := by
  induction l with
  | nil => simp [Cd.gsF]
  | cons c l ih =>
    have h1 := ih (fun x hx => h x (List.mem_cons_of_mem _ hx))
    have h2 := Cd.dg_bd (h c (List.mem_cons_self ..))
    have h3 := Cd.gsF_w l
    simp only [Cd.gsF, List.length_cons]
    split at h3 <;> rw [h3] <;> omega
theorem gsF_wb (l : List UInt8) : (Cd.gsF l).2 = 1 ∨ (Cd.gsF l).2 = 3 := by
  have := Cd.gsF_w l
  split at this <;> omega

set_option maxRecDepth 100000 in
set_option maxHeartbeats 4000000 in
theorem rchecked_any (s : ByteArray) (h2 : 1 ≤ s.size) (h100 : s.size ≤ 100) (hd : Cd.AllDig s.data.toList) (w : World) :
    Calls Tryz.prog 42 #[.string s] w fun e w' => e = .returned (.bool (decide ((Cd.gsF s.data.toList).1 % 10 = 0))) ∧ w = w' := by
  have HD := Lib.hid hd
  have HRES := Lib.hid (Eq.refl (decide ((Cd.gsF s.data.toList).1 % 10 = 0)))
  generalize hres : decide ((Cd.gsF s.data.toList).1 % 10 = 0) = res at *
  have HR := Lib.hid hres
  clear hd hres HRES
  obtain ⟨n, hn⟩ : ∃ n, s.size = n + 1 := ⟨s.size - 1, by omega⟩
  have hni : (s.size : Int) - 1 = (n : Int) := by omega
  have HN := Lib.hid hn
  have hns : n < s.size := by omega
  clear hn
  go_enter Tryz.func42, Tryz.ntmps42
  go_wp2
  go_loop [3, 4, 5] (fun a b i => ∃ x y : Int, a = .int .i64 x ∧ b = .int .i64 y ∧ ((∃ j : Nat, j < s.size ∧ i = .int .i64 (j : Int) ∧ Hid ((x, y) = Cd.gsF (s.data.toList.drop (j + 1)))) ∨ (i = .int .i64 (-1) ∧ Hid ((x, y) = Cd.gsF s.data.toList)))) (fun _ _ i => (intOf i + 1).toNat)
  case atStart => exact ⟨0, 1, rfl, rfl, .inl ⟨n, hns, rfl, Lib.hid (by rw [← HN.out, drop_all]; rfl)⟩⟩
  case round =>
    obtain ⟨x, y, rfl, rfl, hc⟩ := hrel
    rcases hc with ⟨j, hj, rfl, hg⟩ | ⟨rfl, hg⟩
    · have HDC := Lib.hid (drop_cons s j hj)
      have hb := gsF_bd (s.data.toList.drop (j + 1)) (fun c hc => HD.out c (List.mem_of_mem_drop hc))
      have hw := gsF_wb (s.data.toList.drop (j + 1))
      have hll := len_drop s (j + 1)
      rw [← hg.out] at hb hw
      dsimp only at hb hw
      obtain ⟨b0, b1⟩ := hb
      obtain ⟨c1, c2⟩ := HD.out _ (mem_at s j hj)
      have hx27 : x ≤ 2700 := by omega
      obtain ⟨c, hcc⟩ : ∃ c, s[j] = c := ⟨_, rfl⟩
      rw [hcc] at c1 c2 HDC
      have HNX : Hid (Cd.gsF (s.data.toList.drop j) = (x + y * Cd.dg c, 4 - y)) := Lib.hid (by rw [HDC.out, Cd.gsF, ← hg.out])
      have HDG : Hid (Cd.dg c = (c.toNat : Int) - 48) := Lib.hid rfl
      have hj0 : (0 : Int) ≤ (j : Int) := by omega
      have hy3 : 1 ≤ y ∧ y ≤ 3 := by omega
      have hw' := hw
      obtain ⟨y1, y3⟩ := hy3
      clear hg hll b1 HDC
      have HPR : Hid (0 ≤ y * ((c.toNat : Int) - 48) ∧ y * ((c.toNat : Int) - 48) ≤ 27) := Lib.hid (by
        rcases hw' with rfl | rfl <;> omega)
      clear hw hw'
      obtain ⟨pr0, pr1⟩ := HPR.out
      rcases Nat.eq_zero_or_pos j with hjz | hjp
      · subst hjz
        have HN0 : Hid (Cd.gsF s.data.toList = (x + y * Cd.dg c, 4 - y)) := Lib.hid (by have := HNX.out; rw [List.drop_zero] at this; exact this)
        go_wp2
        go_round
        case rel => exact ⟨_, _, rfl, rfl, .inr ⟨by go_num, Lib.hid (by rw [HN0.out, HDG.out])⟩⟩
        case measure => simp [intOf]
      · obtain ⟨k, rfl⟩ : ∃ k, j = k + 1 := ⟨j - 1, by omega⟩
        go_wp2
        go_round
        case rel => exact ⟨_, _, rfl, rfl, .inl ⟨k, by omega, by go_num, Lib.hid (by rw [HNX.out, HDG.out])⟩⟩
        case measure => simp [intOf]; omega
    · have HF : Hid (res = decide (x % 10 = 0)) := Lib.hid (by rw [← HR.out, ← hg.out])
      have hb := gsF_bd s.data.toList HD.out
      rw [← hg.out] at hb
      dsimp only at hb
      obtain ⟨b0, b1⟩ := hb
      clear hg b1
      go_wp2
      go_ret
      exact ⟨ret_bool (by rw [HF.out]; simp [Bool.beq_eq_decide_eq]), rfl⟩
end Go.Proofs.YteojfkffmbcedaaGreatDoor
