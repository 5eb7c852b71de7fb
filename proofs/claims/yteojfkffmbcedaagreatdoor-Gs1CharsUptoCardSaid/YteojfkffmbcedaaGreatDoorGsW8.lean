/-
  Chapter 14: Parse, walked.
  Condition: the table of white space reads as it is laid.
-/
import Derived.Test.YteojfkffmbcedaaGreatDoorGsW7
import Derived.Test.YteojfkffmbcedaaGreatDoorGsQ
namespace Go.Proofs.YteojfkffmbcedaaGreatDoor
set_option linter.unusedVariables false
open Go.RowKit Go.WideMaps Go.Maps

theorem index_upto (c : UInt8) (l : List UInt8) : Lib.indexByte l c = if (Gs.upto c l).length = l.length then -1 else ((Gs.upto c l).length : Int) := by
  induction l with
  | nil => rfl
  | cons b l ih =>
    by_cases h : b = c
    · subst h; simp [Lib.indexByte, Gs.upto]
    · have hb : (b == c) = false := by simpa using h
      simp only [Lib.indexByte, Gs.upto, if_neg h, hb, Bool.false_eq_true, if_false, List.length_cons]
      rw [ih]
      by_cases h1 : (Gs.upto c l).length = l.length
      · have h2 : (Gs.upto c l).length + 1 = l.length + 1 := by omega
        simp only [if_pos h1, if_pos h2]; rfl
      · have h2 : ¬ (Gs.upto c l).length + 1 = l.length + 1 := by omega
        have h3 : (((Gs.upto c l).length : Int) == -1) = false := by rw [beq_eq_false_iff_ne]; omega
        simp only [if_neg h1, if_neg h2, h3]; simp
/-- What Cut returns at a separator of one byte. -/
def cutB (s : ByteArray) (c : UInt8) : ByteArray × ByteArray × Bool :=
  if (Gs.upto c s.data.toList).length = s.size then (s, ⟨#[]⟩, false) else (s.extract 0 (Gs.upto c s.data.toList).length, s.extract ((Gs.upto c s.data.toList).length + 1) s.size, true)
def CutR (x : ByteArray × ByteArray × Bool) (w : World) (e : Ending) (w' : World) : Prop := e = .returned (.tuple #[.string x.1, .string x.2.1, .bool x.2.2]) ∧ Ext w w'

set_option maxRecDepth 100000 in
set_option maxHeartbeats 2000000 in
theorem cut_lite (s : ByteArray) (c : UInt8) (hs : s.size ≤ 1000000) (w : World) :
    Calls Tryz.prog 45 #[.string s, .string ⟨#[c]⟩] w (CutR (cutB s c) w) := by
  have HI := Lib.hid (Tryz.stringslite_Index_one s c w)
  rw [index_upto] at HI
  have HB := Lib.hid (cutB.eq_1 s c)
  have hle := upto_len c s.data.toList
  rw [len_data] at hle HI
  generalize cutB s c = res at *
  generalize (Gs.upto c s.data.toList).length = n at *
  by_cases h : n = s.size
  · rw [if_pos h] at HI HB
    clear h hle
    go_enter Tryz.func45, Tryz.ntmps45
    go_wp2_with fail
    refine HI.out.mono ?_
    rintro e w1 ⟨rfl, rfl⟩
    go_wp2
    go_ret3
    rw [HB.out]
    exact ⟨rfl, Ext.refl _⟩
  · rw [if_neg h] at HI HB
    obtain ⟨m, hm⟩ : ∃ m, m = n + 1 := ⟨_, rfl⟩
    rw [← hm] at HB
    have hni : (n : Int) + 1 = (m : Int) := by omega
    have hms : m ≤ s.size := by omega
    have h0 : (0 : Int) ≤ (n : Int) := by omega
    have HM := Lib.hid hm
    clear h hm
    go_enter Tryz.func45, Tryz.ntmps45
    go_wp2_with fail
    refine HI.out.mono ?_
    rintro e w1 ⟨rfl, rfl⟩
    go_wp2
    go_quiet (fail)
    go_wp2
    go_ret3
    rw [HB.out]
    exact ⟨rfl, (by repeat (first | exact Ext.refl _ | assumption | refine Ext.alloc ?_ _ | refine Ext.drew ?_ | refine Ext.drewN ?_ _ | refine Ext.setCell ?_ (Nat.le_refl _) _ | refine Ext.trans ?_ (by assumption)))⟩

set_option maxRecDepth 100000 in
set_option maxHeartbeats 2000000 in
theorem cut_any (s : ByteArray) (c : UInt8) (hs : s.size ≤ 1000000) (w : World) :
    Calls Tryz.prog 26 #[.string s, .string ⟨#[c]⟩] w (CutR (cutB s c) w) := by
  have HI := Lib.hid (cut_lite s c hs w)
  generalize cutB s c = res at *
  obtain ⟨r1, r2, r3⟩ := res
  go_enter Tryz.func26, Tryz.ntmps26
  go_wp2_with fail
  refine HI.out.mono ?_
  rintro e w1 ⟨rfl, hx1⟩
  dsimp only
  go_wp2
  go_ret3
  exact ⟨rfl, hx1⟩

/-- A slice of elements and a code. -/
def ElsR (r : List Gs.El × Int) (w : World) (e : Ending) (w' : World) : Prop := ∃ v, e = .returned (.tuple #[v, .int .i64 r.2]) ∧ ESl w' v r.1 ∧ Ext w w'
theorem ElsR.err (c : Int) {w w' : World} (h : Ext w w') : ElsR ([], c) w (.returned (.tuple #[.slice none 0 0, .int .i64 c])) w' := ⟨_, rfl, .inl ⟨rfl, _, _, rfl⟩, h⟩

theorem parse_step {n : Nat} {b : UInt8} {r : List UInt8} {acc : List Gs.El} (hl : (b :: r).length ≤ n) :
    (b ≠ 40 → Gs.parseF n (b :: r) acc = ([], 9)) ∧
    (b = 40 → (Gs.upto 41 r).length = r.length → Gs.parseF n (b :: r) acc = ([], 9)) ∧
    (b = 40 → (Gs.upto 41 r).length ≠ r.length → Gs.ver (Gs.upto 41 r) (Gs.upto 40 (r.drop ((Gs.upto 41 r).length + 1))) ≠ 0 → Gs.parseF n (b :: r) acc = ([], Gs.ver (Gs.upto 41 r) (Gs.upto 40 (r.drop ((Gs.upto 41 r).length + 1))))) ∧
    (b = 40 → (Gs.upto 41 r).length ≠ r.length → Gs.ver (Gs.upto 41 r) (Gs.upto 40 (r.drop ((Gs.upto 41 r).length + 1))) = 0 → Gs.parseF n (b :: r) acc = Gs.parseF (n - 1) ((r.drop ((Gs.upto 41 r).length + 1)).drop (Gs.upto 40 (r.drop ((Gs.upto 41 r).length + 1))).length) (acc ++ [(Gs.upto 41 r, Gs.upto 40 (r.drop ((Gs.upto 41 r).length + 1)))])) := by
  obtain ⟨m, rfl⟩ : ∃ m, n = m + 1 := ⟨n - 1, by simp at hl; omega⟩
  refine ⟨fun h => ?_, fun h1 h2 => ?_, fun h1 h2 h3 => ?_, fun h1 h2 h3 => ?_⟩
  · simp only [Gs.parseF]; rw [if_pos h]
  · simp only [Gs.parseF]; rw [if_neg (by simp [h1]), if_pos h2]
  · simp only [Gs.parseF]; rw [if_neg (by simp [h1]), if_neg h2, if_pos h3]
  · simp only [Gs.parseF]; rw [if_neg (by simp [h1]), if_neg h2, if_neg (by simpa using h3)]; rfl
end Go.Proofs.YteojfkffmbcedaaGreatDoor
