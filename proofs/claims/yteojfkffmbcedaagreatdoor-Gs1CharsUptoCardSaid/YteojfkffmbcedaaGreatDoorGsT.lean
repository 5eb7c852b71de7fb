/-
  Chapter 14 in plain words: the reference's table is the program's.
  No condition.
-/
import Derived.Test.YteojfkffmbcedaaGreatDoorGsQ
namespace Go.Proofs.YteojfkffmbcedaaGreatDoor
open Go.RowKit

def Gs.tabL : List (List UInt8 × (Int × Int)) := [([48, 48], (2, 18)), ([48, 49], (2, 14)), ([48, 50], (2, 14)), ([49, 49], (3, 6)), ([49, 50], (3, 6)), ([49, 51], (3, 6)), ([49, 53], (3, 6)), ([49, 54], (3, 6)), ([49, 55], (3, 6)), ([50, 48], (1, 2)), ([51, 48], (4, 8)), ([51, 55], (4, 8)), ([49, 48], (5, 20)), ([50, 49], (5, 20)), ([50, 50], (5, 20)), ([50, 53, 52], (5, 20)), ([56, 48, 50, 48], (5, 25)), ([50, 52, 48], (5, 30)), ([50, 52, 49], (5, 30)), ([50, 53, 48], (5, 30)), ([50, 53, 49], (5, 30)), ([52, 48, 48], (5, 30)), ([52, 48, 49], (5, 30)), ([52, 48, 51], (5, 30)), ([57, 48], (5, 30))]
def Gs.leB (a b : List UInt8) : Bool := Op.bytesLess a b || a == b
def Gs.rngB (l : List UInt8) : Bool := (!Op.bytesLess l [51, 49, 48] && Gs.leB l [51, 49, 54]) || (!Op.bytesLess l [51, 50, 48] && Gs.leB l [51, 51, 55])
def Gs.tab2 (l : List UInt8) : Int × Int :=
  if l.all (fun c => Cd.isDig c.toNat) = false then (0, 0)
  else if l.length = 2 ∧ Gs.leB l [57, 48] = false then (5, 90)
  else if l.length = 3 ∧ Op.bytesLess l [52, 49, 48] = false ∧ Gs.leB l [52, 49, 55] = true then (2, 13)
  else if l.length = 4 ∧ (l.take 3 = [51, 57, 48] ∨ l.take 3 = [51, 57, 50]) then (4, 15)
  else if l.length = 4 ∧ (l.getD 3 0).toNat ≤ 53 ∧ Gs.rngB (l.take 3) = true then (1, 6)
  else (0, 0)
/-- What table returns. -/
def Gs.tab (l : List UInt8) : Int × Int := match Gs.tabL.find? fun p => p.1 == l with
  | some p => p.2
  | none => Gs.tab2 l
/-- The form of a rule. -/
def Gs.frm (r : Gs.Rule) : Int := if r.1 = 1 then 2 else if r.1 = 2 then 3 else if r.1 = 3 then 5 else if r.2.1 = r.2.2.1 then 1 else 4
def Gs.tabO : Option Gs.Rule → Int × Int
  | none => (0, 0)
  | some r => (Gs.frm r, r.2.2.1)
def Gs.dirL : List (List UInt8 × Gs.Rule) := [([48, 48], (1, 18, 18, 0)), ([50, 48], (0, 2, 2, 0)), ([56, 48, 50, 48], (3, 1, 25, 0)), ([48, 49], (1, 14, 14, 0)), ([48, 50], (1, 14, 14, 0)), ([49, 49], (2, 6, 6, 0)), ([49, 50], (2, 6, 6, 0)), ([49, 51], (2, 6, 6, 0)), ([49, 53], (2, 6, 6, 0)), ([49, 54], (2, 6, 6, 0)), ([49, 55], (2, 6, 6, 0)), ([51, 49, 48], (0, 6, 6, 53)), ([51, 49, 49], (0, 6, 6, 53)), ([51, 49, 50], (0, 6, 6, 53)), ([51, 49, 51], (0, 6, 6, 53)), ([51, 49, 52], (0, 6, 6, 53)), ([51, 49, 53], (0, 6, 6, 53)), ([51, 49, 54], (0, 6, 6, 53)), ([51, 50, 48], (0, 6, 6, 53)), ([51, 50, 49], (0, 6, 6, 53)), ([51, 50, 50], (0, 6, 6, 53)), ([51, 50, 51], (0, 6, 6, 53)), ([51, 50, 52], (0, 6, 6, 53)), ([51, 50, 53], (0, 6, 6, 53)), ([51, 50, 54], (0, 6, 6, 53)), ([51, 50, 55], (0, 6, 6, 53)), ([51, 50, 56], (0, 6, 6, 53)), ([51, 50, 57], (0, 6, 6, 53)), ([51, 51, 48], (0, 6, 6, 53)), ([51, 51, 49], (0, 6, 6, 53)), ([51, 51, 50], (0, 6, 6, 53)), ([51, 51, 51], (0, 6, 6, 53)), ([51, 51, 52], (0, 6, 6, 53)), ([51, 51, 53], (0, 6, 6, 53)), ([51, 51, 54], (0, 6, 6, 53)), ([51, 51, 55], (0, 6, 6, 53)), ([52, 49, 48], (1, 13, 13, 0)), ([52, 49, 49], (1, 13, 13, 0)), ([52, 49, 50], (1, 13, 13, 0)), ([52, 49, 51], (1, 13, 13, 0)), ([52, 49, 52], (1, 13, 13, 0)), ([52, 49, 53], (1, 13, 13, 0)), ([52, 49, 54], (1, 13, 13, 0)), ([52, 49, 55], (1, 13, 13, 0)), ([51, 48], (0, 1, 8, 0)), ([51, 55], (0, 1, 8, 0)), ([51, 57, 48], (0, 1, 15, 57)), ([51, 57, 50], (0, 1, 15, 57)), ([49, 48], (3, 1, 20, 0)), ([50, 49], (3, 1, 20, 0)), ([50, 50], (3, 1, 20, 0)), ([50, 53, 52], (3, 1, 20, 0)), ([50, 52, 48], (3, 1, 30, 0)), ([50, 52, 49], (3, 1, 30, 0)), ([50, 53, 48], (3, 1, 30, 0)), ([50, 53, 49], (3, 1, 30, 0)), ([52, 48, 48], (3, 1, 30, 0)), ([52, 48, 49], (3, 1, 30, 0)), ([52, 48, 51], (3, 1, 30, 0)), ([57, 48], (3, 1, 30, 0)), ([57, 49], (3, 1, 90, 0)), ([57, 50], (3, 1, 90, 0)), ([57, 51], (3, 1, 90, 0)), ([57, 52], (3, 1, 90, 0)), ([57, 53], (3, 1, 90, 0)), ([57, 54], (3, 1, 90, 0)), ([57, 55], (3, 1, 90, 0)), ([57, 56], (3, 1, 90, 0)), ([57, 57], (3, 1, 90, 0))]
theorem dir_eq : Gs.dir = Gs.dirL := by decide +kernel
theorem tabL_ok : ∀ p ∈ Gs.tabL, Gs.tabO (Gs.find p.1) = p.2 := by decide +kernel
theorem two_ok : Gs.sfx.all (fun a => Gs.sfx.all fun b => (Gs.tabL.find? fun p => p.1 == [a, b]).isSome || Gs.tab2 [a, b] == Gs.tabO (Gs.find [a, b])) = true := by
  unfold Gs.find Gs.find2; rw [dir_eq]; decide +kernel
theorem three_ok : Gs.sfx.all (fun a => Gs.sfx.all fun b => Gs.sfx.all fun c => (Gs.tabL.find? fun p => p.1 == [a, b, c]).isSome || Gs.tab2 [a, b, c] == Gs.tabO (Gs.find [a, b, c])) = true := by
  unfold Gs.find Gs.find2; rw [dir_eq]; decide +kernel
def Gs.four (l : List UInt8) (g : Option Gs.Rule) : Bool := match g with
  | none => !(l == [51, 57, 48] || l == [51, 57, 50]) && !Gs.rngB l
  | some r => if r.2.2.2 = 0 then !(l == [51, 57, 48] || l == [51, 57, 50]) && !Gs.rngB l
    else if r.2.2.2 = 57 then (l == [51, 57, 48] || l == [51, 57, 50]) && (Gs.tabO (some r) == (4, 15))
    else r.2.2.2 == 53 && !(l == [51, 57, 48] || l == [51, 57, 50]) && Gs.rngB l && (Gs.tabO (some r) == (1, 6))
theorem four_ok : Gs.sfx.all (fun a => Gs.sfx.all fun b => Gs.sfx.all fun c => Gs.four [a, b, c] (Gs.get Gs.dir [a, b, c])) = true := by
  rw [dir_eq]; decide +kernel
theorem four_key : ∀ p ∈ Gs.dir, p.1.length = 4 → p.1 = [56, 48, 50, 48] := by decide +kernel
theorem four_tab : ∀ p ∈ Gs.tabL, p.1.length = 4 → p.1 = [56, 48, 50, 48] := by decide +kernel
theorem dig_sfx {l : List UInt8} (h : Cd.AllDig l) : ∀ c ∈ l, c ∈ Gs.sfx := fun c hc => sfx_mem c (h c hc).1 (h c hc).2
theorem all_dig {l : List UInt8} (h : l.all (fun c => Cd.isDig c.toNat) = true) : Cd.AllDig l := by
  intro c hc
  have := List.all_eq_true.1 h c hc
  simp [Cd.isDig] at this
  omega
theorem tab_four (l : List UInt8) (hl : l.length = 4) (hd : Cd.AllDig l) (hn : l ≠ [56, 48, 50, 48]) : Gs.tab2 l = Gs.tabO (Gs.find l) := by
  have hall : l.all (fun c => Cd.isDig c.toNat) = true := by
    rw [List.all_eq_true]; intro c hc; have := hd c hc; simp [Cd.isDig]; omega
  match l, hl with
  | [a, b, c, d], _ =>
    have m := dig_sfx hd
    have h4 := four_ok
    simp only [List.all_eq_true] at h4
    have h4 := h4 a (m a (by simp)) b (m b (by simp)) c (m c (by simp))
    have hdd := hd d (by simp)
    have g0 : Gs.get Gs.dir [a, b, c, d] = none := by
      cases hg : Gs.get Gs.dir [a, b, c, d] with
      | none => rfl
      | some r => exact absurd (four_key _ (get_mem hg) rfl) hn
    have hf : Gs.find [a, b, c, d] = Gs.find2 [a, b, c, d] := by
      unfold Gs.find; rw [g0]; rfl
    rw [hf]
    unfold Gs.tab2 Gs.find2
    rw [hall]
    have t3 : [a, b, c, d].take 3 = [a, b, c] := rfl
    have t4 : [a, b, c, d].take ([a, b, c, d].length - 1) = [a, b, c] := rfl
    have g3 : [a, b, c, d].getD 3 0 = d := rfl
    have g4 : [a, b, c, d].getD ([a, b, c, d].length - 1) 0 = d := rfl
    rw [t4, g4, t3, g3]
    rw [if_neg (by simp), if_neg (by simp), if_neg (by simp)]
    cases hg : Gs.get Gs.dir [a, b, c] with
    | none =>
      rw [hg] at h4
      simp only [Gs.four, Bool.and_eq_true, Bool.not_eq_true', Bool.or_eq_false_iff, beq_eq_false_iff_ne] at h4
      rw [if_neg (fun h => h.2.elim h4.1.1 h4.1.2), if_neg (fun h => by rw [h4.2] at h; exact Bool.noConfusion h.2.2)]; rfl
    | some r =>
      rw [hg] at h4
      dsimp only
      simp only [Gs.four] at h4
      split at h4
      · rename_i h0
        simp only [Bool.and_eq_true, Bool.not_eq_true', Bool.or_eq_false_iff, beq_eq_false_iff_ne] at h4
        rw [if_neg (fun h => h.2.elim h4.1.1 h4.1.2), if_neg (fun h => by rw [h4.2] at h; exact Bool.noConfusion h.2.2), if_pos (.inl h0)]; rfl
      · rename_i h0
        split at h4
        · rename_i h57
          simp only [Bool.and_eq_true, Bool.or_eq_true, beq_iff_eq] at h4
          rw [if_pos ⟨rfl, h4.1⟩, if_neg, h4.2]
          rw [h57, u8_lt, u8_lt]
          have e1 : (48 : UInt8).toNat = 48 := rfl
          have e2 : (57 : UInt8).toNat = 57 := rfl
          have e3 : (57 : UInt8) ≠ 0 := by decide
          rw [e1, e2]
          intro h
          rcases h with h | h | h
          · exact e3 h
          · omega
          · omega
        · simp only [Bool.and_eq_true, Bool.not_eq_true', Bool.or_eq_false_iff, beq_eq_false_iff_ne, beq_iff_eq] at h4
          obtain ⟨⟨⟨h53, hno⟩, hr⟩, hv⟩ := h4
          rw [if_neg (fun h => h.2.elim hno.1 hno.2)]
          have e1 : (48 : UInt8).toNat = 48 := rfl
          have e2 : (53 : UInt8).toNat = 53 := rfl
          by_cases h5 : d.toNat ≤ 53
          · rw [if_pos ⟨rfl, h5, hr⟩, if_neg, hv]
            rw [h53, u8_lt, u8_lt, e1, e2]
            intro h
            rcases h with h | h | h
            · exact absurd h (by decide)
            · omega
            · omega
          · rw [if_neg (fun h => h5 h.2.1), if_pos]; rfl
            rw [h53, u8_lt, u8_lt, e1, e2]
            exact .inr (.inr (by omega))
/-- The reference's table is the program's. -/
theorem tab_is (l : List UInt8) : Gs.tab l = Gs.tabO (Gs.find l) := by
  unfold Gs.tab
  cases hf : Gs.tabL.find? fun p => p.1 == l with
  | some p =>
    have h1 := List.mem_of_find?_eq_some hf
    have h2 := List.find?_some hf
    have h3 : p.1 = l := by simpa using h2
    dsimp only
    rw [← h3, tabL_ok p h1]
  | none =>
    dsimp only
    by_cases hd : l.all (fun c => Cd.isDig c.toNat) = true
    · have hdd := all_dig hd
      have m := dig_sfx hdd
      by_cases hl : l.length = 2 ∨ l.length = 3 ∨ l.length = 4
      · rcases hl with hl | hl | hl
        · match l, hl with
          | [a, b], _ =>
            have h2 := two_ok
            simp only [List.all_eq_true] at h2
            have h2 := h2 a (m a (by simp)) b (m b (by simp))
            rw [hf] at h2
            simpa using h2
        · match l, hl with
          | [a, b, c], _ =>
            have h2 := three_ok
            simp only [List.all_eq_true] at h2
            have h2 := h2 a (m a (by simp)) b (m b (by simp)) c (m c (by simp))
            rw [hf] at h2
            simpa using h2
        · refine tab_four l hl hdd (fun e => ?_)
          rw [e] at hf
          exact absurd hf (by decide)
      · have hn : Gs.find l = none := by
          cases hg : Gs.find l with
          | none => rfl
          | some r => have := ai_ok hg; omega
        rw [hn]
        unfold Gs.tab2
        rw [hd, if_neg (by simp), if_neg (fun h => hl (.inl h.1)), if_neg (fun h => hl (.inr (.inl h.1))), if_neg (fun h => hl (.inr (.inr h.1))), if_neg (fun h => hl (.inr (.inr h.1)))]; rfl
    · have hd' : l.all (fun c => Cd.isDig c.toNat) = false := by simpa using hd
      have hn : Gs.find l = none := by
        cases hg : Gs.find l with
        | none => rfl
        | some r =>
          refine absurd ?_ hd
          rw [List.all_eq_true]
          intro c hc
          have := (ai_ok hg).2.2.1 c hc
          simp [Cd.isDig]; omega
      rw [hn]
      unfold Gs.tab2
      rw [if_pos hd']; rfl
end Go.Proofs.YteojfkffmbcedaaGreatDoor
