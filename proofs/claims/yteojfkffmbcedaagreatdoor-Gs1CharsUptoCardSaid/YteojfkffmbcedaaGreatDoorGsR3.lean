/-
  Chapter 14: the reference's table and Fixed, walked.
  No condition.
-/
import Derived.Test.YteojfkffmbcedaaGreatDoorGsR2
namespace Go.Proofs.YteojfkffmbcedaaGreatDoor
set_option linter.unusedVariables false
open Go.RowKit

set_option maxRecDepth 100000 in
set_option maxHeartbeats 8000000 in
theorem table_yes (s : ByteArray) (w : World) (p : List UInt8 × (Int × Int)) (h1 : p ∈ Gs.tabL) (h2 : p.1 = s.data.toList) :
    Calls Tryz.prog 24 #[.string s] w (TabR p.2 w) := by
  have HR : True := trivial
  simp only [Gs.tabL, List.mem_cons, List.not_mem_nil, or_false] at h1
  rcases h1 with rfl | rfl | rfl | rfl | rfl | rfl | rfl | rfl | rfl | rfl | rfl | rfl | rfl | rfl | rfl | rfl | rfl | rfl | rfl | rfl | rfl | rfl | rfl | rfl | rfl
  · have hs0 : s = ⟨#[48, 48]⟩ := bytes_ext h2.symm
    subst hs0
    clear h2 HR
    go_enter Tryz.func24, Tryz.ntmps24
    go_wp2
    go_ret2
    exact ⟨rfl, Ext.refl _⟩
  · have hs0 : s = ⟨#[48, 49]⟩ := bytes_ext h2.symm
    subst hs0
    clear h2 HR
    go_enter Tryz.func24, Tryz.ntmps24
    go_wp2
    go_ret2
    exact ⟨rfl, Ext.refl _⟩
  · have hs0 : s = ⟨#[48, 50]⟩ := bytes_ext h2.symm
    subst hs0
    clear h2 HR
    go_enter Tryz.func24, Tryz.ntmps24
    go_wp2
    go_ret2
    exact ⟨rfl, Ext.refl _⟩
  · have hs0 : s = ⟨#[49, 49]⟩ := bytes_ext h2.symm
    subst hs0
    clear h2 HR
    go_enter Tryz.func24, Tryz.ntmps24
    go_wp2
    go_ret2
    exact ⟨rfl, Ext.refl _⟩
  · have hs0 : s = ⟨#[49, 50]⟩ := bytes_ext h2.symm
    subst hs0
    clear h2 HR
    go_enter Tryz.func24, Tryz.ntmps24
    go_wp2
    go_ret2
    exact ⟨rfl, Ext.refl _⟩
  · have hs0 : s = ⟨#[49, 51]⟩ := bytes_ext h2.symm
    subst hs0
    clear h2 HR
    go_enter Tryz.func24, Tryz.ntmps24
    go_wp2
    go_ret2
    exact ⟨rfl, Ext.refl _⟩
  · have hs0 : s = ⟨#[49, 53]⟩ := bytes_ext h2.symm
    subst hs0
    clear h2 HR
    go_enter Tryz.func24, Tryz.ntmps24
    go_wp2
    go_ret2
    exact ⟨rfl, Ext.refl _⟩
  · have hs0 : s = ⟨#[49, 54]⟩ := bytes_ext h2.symm
    subst hs0
    clear h2 HR
    go_enter Tryz.func24, Tryz.ntmps24
    go_wp2
    go_ret2
    exact ⟨rfl, Ext.refl _⟩
  · have hs0 : s = ⟨#[49, 55]⟩ := bytes_ext h2.symm
    subst hs0
    clear h2 HR
    go_enter Tryz.func24, Tryz.ntmps24
    go_wp2
    go_ret2
    exact ⟨rfl, Ext.refl _⟩
  · have hs0 : s = ⟨#[50, 48]⟩ := bytes_ext h2.symm
    subst hs0
    clear h2 HR
    go_enter Tryz.func24, Tryz.ntmps24
    go_wp2
    go_ret2
    exact ⟨rfl, Ext.refl _⟩
  · have hs0 : s = ⟨#[51, 48]⟩ := bytes_ext h2.symm
    subst hs0
    clear h2 HR
    go_enter Tryz.func24, Tryz.ntmps24
    go_wp2
    go_ret2
    exact ⟨rfl, Ext.refl _⟩
  · have hs0 : s = ⟨#[51, 55]⟩ := bytes_ext h2.symm
    subst hs0
    clear h2 HR
    go_enter Tryz.func24, Tryz.ntmps24
    go_wp2
    go_ret2
    exact ⟨rfl, Ext.refl _⟩
  · have hs0 : s = ⟨#[49, 48]⟩ := bytes_ext h2.symm
    subst hs0
    clear h2 HR
    go_enter Tryz.func24, Tryz.ntmps24
    go_wp2
    go_ret2
    exact ⟨rfl, Ext.refl _⟩
  · have hs0 : s = ⟨#[50, 49]⟩ := bytes_ext h2.symm
    subst hs0
    clear h2 HR
    go_enter Tryz.func24, Tryz.ntmps24
    go_wp2
    go_ret2
    exact ⟨rfl, Ext.refl _⟩
  · have hs0 : s = ⟨#[50, 50]⟩ := bytes_ext h2.symm
    subst hs0
    clear h2 HR
    go_enter Tryz.func24, Tryz.ntmps24
    go_wp2
    go_ret2
    exact ⟨rfl, Ext.refl _⟩
  · have hs0 : s = ⟨#[50, 53, 52]⟩ := bytes_ext h2.symm
    subst hs0
    clear h2 HR
    go_enter Tryz.func24, Tryz.ntmps24
    go_wp2
    go_ret2
    exact ⟨rfl, Ext.refl _⟩
  · have hs0 : s = ⟨#[56, 48, 50, 48]⟩ := bytes_ext h2.symm
    subst hs0
    clear h2 HR
    go_enter Tryz.func24, Tryz.ntmps24
    go_wp2
    go_ret2
    exact ⟨rfl, Ext.refl _⟩
  · have hs0 : s = ⟨#[50, 52, 48]⟩ := bytes_ext h2.symm
    subst hs0
    clear h2 HR
    go_enter Tryz.func24, Tryz.ntmps24
    go_wp2
    go_ret2
    exact ⟨rfl, Ext.refl _⟩
  · have hs0 : s = ⟨#[50, 52, 49]⟩ := bytes_ext h2.symm
    subst hs0
    clear h2 HR
    go_enter Tryz.func24, Tryz.ntmps24
    go_wp2
    go_ret2
    exact ⟨rfl, Ext.refl _⟩
  · have hs0 : s = ⟨#[50, 53, 48]⟩ := bytes_ext h2.symm
    subst hs0
    clear h2 HR
    go_enter Tryz.func24, Tryz.ntmps24
    go_wp2
    go_ret2
    exact ⟨rfl, Ext.refl _⟩
  · have hs0 : s = ⟨#[50, 53, 49]⟩ := bytes_ext h2.symm
    subst hs0
    clear h2 HR
    go_enter Tryz.func24, Tryz.ntmps24
    go_wp2
    go_ret2
    exact ⟨rfl, Ext.refl _⟩
  · have hs0 : s = ⟨#[52, 48, 48]⟩ := bytes_ext h2.symm
    subst hs0
    clear h2 HR
    go_enter Tryz.func24, Tryz.ntmps24
    go_wp2
    go_ret2
    exact ⟨rfl, Ext.refl _⟩
  · have hs0 : s = ⟨#[52, 48, 49]⟩ := bytes_ext h2.symm
    subst hs0
    clear h2 HR
    go_enter Tryz.func24, Tryz.ntmps24
    go_wp2
    go_ret2
    exact ⟨rfl, Ext.refl _⟩
  · have hs0 : s = ⟨#[52, 48, 51]⟩ := bytes_ext h2.symm
    subst hs0
    clear h2 HR
    go_enter Tryz.func24, Tryz.ntmps24
    go_wp2
    go_ret2
    exact ⟨rfl, Ext.refl _⟩
  · have hs0 : s = ⟨#[57, 48]⟩ := bytes_ext h2.symm
    subst hs0
    clear h2 HR
    go_enter Tryz.func24, Tryz.ntmps24
    go_wp2
    go_ret2
    exact ⟨rfl, Ext.refl _⟩

theorem table_any (s : ByteArray) (hs : s.size ≤ maxLen) (w : World) : Calls Tryz.prog 24 #[.string s] w (TabR (Gs.tabO (Gs.find s.data.toList)) w) := by
  rw [← tab_is]
  unfold Gs.tab
  cases hf : Gs.tabL.find? fun p => p.1 == s.data.toList with
  | none => exact table_no s hs w (noKey_of s hf)
  | some p => exact table_yes s w p (List.mem_of_find?_eq_some hf) (by simpa using List.find?_some hf)

/-- What the directory keeps besides. -/
theorem dir_var : ∀ p ∈ Gs.dir, p.2.1 = 0 → (p.2.2.1 = p.2.2.2.1 ∨ p.2.2.1 = 1) := by decide +kernel
theorem find_var {l : List UInt8} {r : Gs.Rule} (h : Gs.find l = some r) (h0 : r.1 = 0) : r.2.1 = r.2.2.1 ∨ r.2.1 = 1 := by
  rcases find_cases h with ⟨h1, _⟩ | ⟨k, c, _, h1, _⟩
  · exact dir_var _ h1 h0
  · exact dir_var _ h1 h0
/-- The form of a rule that stands in the directory. -/
theorem frm_fix {r : Gs.Rule} (h : Gs.RuleOk r) : 1 ≤ Gs.frm r ∧ Gs.frm r ≤ 5 ∧ (Gs.isFix r = true ↔ (Gs.frm r ≠ 4 ∧ Gs.frm r ≠ 5)) := by
  obtain ⟨k0, k3, l1, lh, h9, h2, h1, h3⟩ := h
  unfold Gs.frm Gs.isFix
  rw [beq_iff_eq]
  by_cases c1 : r.1 = 1
  · rw [if_pos c1]; have := h1 c1; exact ⟨by omega, by omega, by constructor <;> intro <;> omega⟩
  · rw [if_neg c1]
    by_cases c2 : r.1 = 2
    · rw [if_pos c2]; have := h2 c2; exact ⟨by omega, by omega, by constructor <;> intro <;> omega⟩
    · rw [if_neg c2]
      by_cases c3 : r.1 = 3
      · rw [if_pos c3]; have := h3 c3; exact ⟨by omega, by omega, by constructor <;> intro <;> omega⟩
      · rw [if_neg c3]
        by_cases c4 : r.2.1 = r.2.2.1
        · rw [if_pos c4]; exact ⟨by omega, by omega, by constructor <;> intro <;> omega⟩
        · rw [if_neg c4]; exact ⟨by omega, by omega, by constructor <;> intro <;> omega⟩

set_option maxRecDepth 100000 in
set_option maxHeartbeats 4000000 in
theorem rFixed_any (s : ByteArray) (hs : s.size ≤ maxLen) (w : World) :
    Calls Tryz.prog 13 #[.string s] w fun e w' => e = .returned (.tuple #[.int .i64 (Gs.fixF s.data.toList).1, .int .i64 (Gs.fixF s.data.toList).2.1, .int .i64 (Gs.fixF s.data.toList).2.2]) ∧ Ext w w' := by
  have HT := Lib.hid (table_any s hs w)
  have HF := Lib.hid (Gs.fixF.eq_1 s.data.toList)
  generalize Gs.fixF s.data.toList = res at *
  obtain ⟨r1, r2, r3⟩ := res
  cases hg : Gs.find s.data.toList with
  | none =>
    rw [hg] at HF HT
    dsimp only [Gs.tabO] at HF HT
    have hr := HF.out
    simp only [Prod.mk.injEq] at hr
    obtain ⟨rfl, rfl, rfl⟩ := hr
    clear hg HF
    go_enter Tryz.func13, Tryz.ntmps13
    go_wp2_with fail
    refine HT.out.mono ?_
    rintro e w1 ⟨rfl, hx1⟩
    dsimp only
    go_wp2
    go_ret3
    exact ⟨rfl, hx1⟩
  | some r =>
    rw [hg] at HF HT
    dsimp only [Gs.tabO] at HF HT
    obtain ⟨f1, f5, ff⟩ := frm_fix (find_ok hg)
    have hr := HF.out
    simp only [Prod.mk.injEq] at hr
    obtain ⟨hr1, rfl, rfl⟩ := hr
    generalize Gs.frm r = fm at *
    generalize r.2.2.1 = mo at *
    have g0 : (fm == 0) = false := by rw [beq_eq_false_iff_ne]; omega
    have HR1 := Lib.hid hr1
    clear hg HF hr1
    by_cases h4 : fm = 4
    · have HZ : Hid (r1 = 0) := Lib.hid (by rw [HR1.out, if_neg (fun h => (ff.1 h).1 h4)])
      obtain rfl := HZ.out
      subst h4
      clear ff HR1 HZ
      go_enter Tryz.func13, Tryz.ntmps13
      go_wp2_with fail
      refine HT.out.mono ?_
      rintro e w1 ⟨rfl, hx1⟩
      dsimp only
      go_wp2
      go_ret3
      exact ⟨rfl, hx1⟩
    · by_cases h5 : fm = 5
      · have HZ : Hid (r1 = 0) := Lib.hid (by rw [HR1.out, if_neg (fun h => (ff.1 h).2 h5)])
        obtain rfl := HZ.out
        subst h5
        clear ff HR1 HZ
        go_enter Tryz.func13, Tryz.ntmps13
        go_wp2_with fail
        refine HT.out.mono ?_
        rintro e w1 ⟨rfl, hx1⟩
        dsimp only
        go_wp2
        go_ret3
        exact ⟨rfl, hx1⟩
      · have HZ : Hid (r1 = mo) := Lib.hid (by rw [HR1.out, if_pos (ff.2 ⟨h4, h5⟩)])
        have g4 : (fm == 4) = false := by simpa using h4
        have g5 : (fm == 5) = false := by simpa using h5
        obtain rfl := HZ.out
        clear ff HR1 HZ h4 h5
        go_enter Tryz.func13, Tryz.ntmps13
        go_wp2_with fail
        refine HT.out.mono ?_
        rintro e w1 ⟨rfl, hx1⟩
        dsimp only
        go_wp2
        go_ret3
        exact ⟨rfl, hx1⟩
end Go.Proofs.YteojfkffmbcedaaGreatDoor
