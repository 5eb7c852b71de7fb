/-
  Chapter 14: find and fixed, walked.
  Condition: the map is the table of application identifiers.
-/
import Derived.Test.YteojfkffmbcedaaGreatDoorGsW1
namespace Go.Proofs.YteojfkffmbcedaaGreatDoor
open Go.RowKit Go.WideMaps Go.Maps

def ruleO : Option Gs.Rule → Value
  | some r => ruleV r
  | none => ruleV (0, 0, 0, 0)
/-- The rule of an application identifier. -/
def Gs.find2 (l : List UInt8) : Option Gs.Rule := match Gs.get Gs.dir (l.take (l.length - 1)) with
  | some r => if r.2.2.2 = 0 ∨ l.getD (l.length - 1) 0 < 48 ∨ r.2.2.2 < l.getD (l.length - 1) 0 then none else some r
  | none => none
def Gs.find (l : List UInt8) : Option Gs.Rule := match Gs.get Gs.dir l with
  | some r => if r.2.2.2 = 0 then some r else Gs.find2 l
  | none => if l = [] then none else Gs.find2 l
/-- The map b is the table. -/
abbrev Dir (w : World) (b : Nat) : Prop := w.ownsMap Tryz.prog 9 ruleR b 200 (Gs.tabOf Gs.dir)
theorem Dir.ext {w w' : World} {b : Nat} (h : Dir w b) (hx : Ext w w') : Dir w' b := h.kept hx.asGrown (by simp)
theorem zero_rule (w : World) : (zeroValue 38).run Tryz.prog w = .ok (ruleV (0, 0, 0, 0)) w := by kernel_rfl
theorem look_dir (w : World) (b : Nat) (h : Dir w b) (s : ByteArray) (hs : s.size ≤ maxLen) :
    (Instr.lookup 31 (.map (some b)) (.string s) true).run Tryz.prog w = .ok (.tuple #[ruleO (Gs.get Gs.dir s.data.toList), .bool (Gs.get Gs.dir s.data.toList).isSome]) w := by
  obtain ⟨v, ps, hrun, hv⟩ := h.look_ok (string_keyed (P := Tryz.prog) Tryz.underlying9) Tryz.underlying31 (zero_rule w) (ruleR_mk (0, 0, 0, 0)) (keyOf_string_mk Tryz.underlying9 hs)
  obtain ⟨t1, t2⟩ := tab_reads Gs.dir s.data.toList
  rw [hrun, t1]
  cases hg : Gs.get Gs.dir s.data.toList with
  | none =>
    rw [hg] at t1
    rw [atKey_of_not_has t1] at hv
    rw [ruleR_inv hv]; rfl
  | some r =>
    rw [t2 _ r hg] at hv
    rw [ruleR_inv hv]; rfl

set_option maxHeartbeats 1000000 in
theorem fixed_any (r : Gs.Rule) (w : World) :
    Calls Tryz.prog 11 #[ruleV r] w fun e w' => e = .returned (.bool (r.2.1 == r.2.2.1)) ∧ Ext w w' := by
  obtain ⟨a, b, c, d⟩ := r
  unfold ruleV
  dsimp only
  go_enter Tryz.func11, Tryz.ntmps11
  go_wp2
  go_ret
  exact ⟨rfl, (by repeat (first | exact Ext.refl _ | assumption | refine Ext.alloc ?_ _ | refine Ext.drew ?_ | refine Ext.trans ?_ (by assumption)))⟩

/-- What find returns. -/
def FindR (r : Option Gs.Rule) (w : World) (e : Ending) (w' : World) : Prop := e = .returned (.tuple #[ruleO r, .bool r.isSome]) ∧ Ext w w'

theorem getD_of (s : ByteArray) (i : Nat) (h : i < s.size) : s.data.toList.getD i 0 = s[i] := by
  rw [List.getD_eq_getElem?_getD, List.getElem?_eq_getElem (by rw [len_data]; exact h)]; rfl
theorem get_nil : Gs.get Gs.dir [] = none := by decide +kernel
theorem u8_lt (a b : UInt8) : (a < b) = (a.toNat < b.toNat) := rfl

set_option maxRecDepth 100000 in
set_option maxHeartbeats 8000000 in
theorem find_tail (s : ByteArray) (b : Nat) (w : World) (hd : Dir w b) (hs : s.size ≤ maxLen) (ra rb rc : Int) (rd : UInt8) (ok : Bool)
    (hlk : ∀ o : Obj, (Instr.lookup 31 (.map (some b)) (.string s) true).run Tryz.prog (w.alloc o) = .ok (.tuple #[.agg #[.int .i64 ra, .int .i64 rb, .int .i64 rc, .int .u8 (rd.toNat : Int)], .bool ok]) (w.alloc o))
    (hok : ok = false ∨ rd ≠ 0) (hne : 1 ≤ s.size) :
    Calls Tryz.prog 10 #[.map (some b), .string s] w (FindR (Gs.find2 s.data.toList) w) := by
  obtain ⟨z, hz⟩ : ∃ z, z = s.size - 1 := ⟨_, rfl⟩
  have hzi : (s.size : Int) - 1 = (z : Int) := by omega
  have hzs : z < s.size := by omega
  have HL2 := Lib.hid (fun o : Obj => look_dir (w.alloc o) b (hd.alloc o) (s.extract 0 z) (by rw [ByteArray.size_extract]; omega))
  rw [cut_front] at HL2
  have HF := Lib.hid (Gs.find2.eq_1 s.data.toList)
  rw [len_data, ← hz, getD_of s z hzs] at HF
  have hpe : s.toList.isEmpty = false := by rw [Lib.toList_data, List.isEmpty_eq_false_iff]; intro e; have := congrArg List.length e; rw [len_data, List.length_nil] at this; omega
  have hpz : ¬ s.toList = [] := by rw [Lib.toList_data]; intro e; have := congrArg List.length e; rw [len_data, List.length_nil] at this; omega
  have hmx : maxLen = 9223372036854775807 := rfl
  rw [hmx] at hs
  have dr : ok = true → ((rd.toNat : Int) == 0) = false := fun h => by
    rcases hok with h1 | h1
    · rw [h1] at h; exact Bool.noConfusion h
    · rw [beq_eq_false_iff_ne]; intro e; exact h1 (UInt8.toNat_inj.1 (by simpa using e))
  generalize Gs.find2 s.data.toList = res at *
  have hlk2 := HL2.out
  clear HL2 hz hok hmx hd
  cases hg : Gs.get Gs.dir (s.data.toList.take z) with
  | none =>
    rw [hg] at HF
    simp only [hg, ruleO, Option.isSome_none, ruleV] at hlk2
    have HR : Hid (res = none) := Lib.hid HF.out
    clear HF hg
    have hlk3 : ∀ o : Obj, (Instr.lookup 31 (.map (some b)) (.string (s.extract 0 z)) true).run Tryz.prog (w.alloc o) = .ok (.tuple #[.agg #[.int .i64 0, .int .i64 0, .int .i64 0, .int .u8 0], .bool false]) (w.alloc o) := hlk2
    clear hlk2
    cases ok
    · go_enter Tryz.func10, Tryz.ntmps10
      go_wp2
      go_quiet (fail)
      go_wp2
      refine bodyPost_ret_by (v := .tuple #[.agg #[.int .i64 0, .int .i64 0, .int .i64 0, .int .u8 0], .bool false]) (by simp [results, Tryz.results10, go_sem]) rfl ⟨by rw [HR.out]; rfl, (by repeat (first | exact Ext.refl _ | assumption | refine Ext.alloc ?_ _ | refine Ext.drew ?_ | refine Ext.drewN ?_ _ | refine Ext.setCell ?_ (Nat.le_refl _) _ | refine Ext.trans ?_ (by assumption)))⟩
    · have dr1 := dr rfl
      go_enter Tryz.func10, Tryz.ntmps10
      go_wp2
      go_quiet (fail)
      go_wp2
      refine bodyPost_ret_by (v := .tuple #[.agg #[.int .i64 0, .int .i64 0, .int .i64 0, .int .u8 0], .bool false]) (by simp [results, Tryz.results10, go_sem]) rfl ⟨by rw [HR.out]; rfl, (by repeat (first | exact Ext.refl _ | assumption | refine Ext.alloc ?_ _ | refine Ext.drew ?_ | refine Ext.drewN ?_ _ | refine Ext.setCell ?_ (Nat.le_refl _) _ | refine Ext.trans ?_ (by assumption)))⟩
  | some r =>
    rw [hg] at HF
    obtain ⟨ya, yb, yc, yd⟩ := r
    simp only [hg, ruleO, Option.isSome_some, ruleV] at hlk2
    dsimp only at HF
    clear hg
    obtain ⟨b0, hb0⟩ : ∃ b0, ((yd.toNat : Int) == 0) = b0 := ⟨_, rfl⟩
    obtain ⟨b1, hb1⟩ : ∃ b1, decide ((s[z].toNat : Int) < 48) = b1 := ⟨_, rfl⟩
    obtain ⟨b2, hb2⟩ : ∃ b2, decide ((yd.toNat : Int) < (s[z].toNat : Int)) = b2 := ⟨_, rfl⟩
    have HC : Hid ((yd = 0 ∨ s[z] < 48 ∨ yd < s[z]) ↔ (b0 || (b1 || b2)) = true) := Lib.hid (by
      rw [← hb0, ← hb1, ← hb2, Bool.or_eq_true, Bool.or_eq_true, beq_iff_eq, decide_eq_true_eq, decide_eq_true_eq, u8_lt, u8_lt]
      have e0 : yd = 0 ↔ (yd.toNat : Int) = 0 := ⟨fun h => by rw [h]; rfl, fun h => UInt8.toNat_inj.1 (by simpa using h)⟩
      rw [e0, show (48 : UInt8).toNat = 48 from rfl]
      omega)
    cases hbb : (b0 || (b1 || b2))
    · rw [if_neg (by rw [HC.out, hbb]; exact Bool.noConfusion)] at HF
      have HR := HF
      obtain ⟨rfl, rfl, rfl⟩ : b0 = false ∧ b1 = false ∧ b2 = false := by
        cases b0 <;> cases b1 <;> cases b2 <;> first | exact ⟨rfl, rfl, rfl⟩ | exact absurd hbb Bool.noConfusion
      have n1 : (48 : Int) ≤ (s[z].toNat : Int) := by simpa using hb1
      have n2 : s[z].toNat ≤ yd.toNat := by simpa using hb2
      clear HC hbb hb1 hb2
      cases ok
      · go_enter Tryz.func10, Tryz.ntmps10
        go_wp2
        go_quiet (fail)
        go_wp2
        refine bodyPost_ret_by (v := .tuple #[.agg #[.int .i64 ya, .int .i64 yb, .int .i64 yc, .int .u8 (yd.toNat : Int)], .bool true]) (by simp [results, Tryz.results10, go_sem]) rfl ⟨by rw [HR.out]; rfl, (by repeat (first | exact Ext.refl _ | assumption | refine Ext.alloc ?_ _ | refine Ext.drew ?_ | refine Ext.drewN ?_ _ | refine Ext.setCell ?_ (Nat.le_refl _) _ | refine Ext.trans ?_ (by assumption)))⟩
      · have dr1 := dr rfl
        go_enter Tryz.func10, Tryz.ntmps10
        go_wp2
        go_quiet (fail)
        go_wp2
        refine bodyPost_ret_by (v := .tuple #[.agg #[.int .i64 ya, .int .i64 yb, .int .i64 yc, .int .u8 (yd.toNat : Int)], .bool true]) (by simp [results, Tryz.results10, go_sem]) rfl ⟨by rw [HR.out]; rfl, (by repeat (first | exact Ext.refl _ | assumption | refine Ext.alloc ?_ _ | refine Ext.drew ?_ | refine Ext.drewN ?_ _ | refine Ext.setCell ?_ (Nat.le_refl _) _ | refine Ext.trans ?_ (by assumption)))⟩
    · rw [if_pos (by rw [HC.out, hbb])] at HF
      have HR := HF
      clear HC
      cases b0
      · cases b1
        · obtain rfl : b2 = true := by simpa using hbb
          have n1 : (48 : Int) ≤ (s[z].toNat : Int) := by simpa using hb1
          have n2 : yd.toNat < s[z].toNat := by simpa using hb2
          clear hbb hb1 hb2
          cases ok
          · go_enter Tryz.func10, Tryz.ntmps10
            go_wp2
            go_quiet (fail)
            go_wp2
            refine bodyPost_ret_by (v := .tuple #[.agg #[.int .i64 0, .int .i64 0, .int .i64 0, .int .u8 0], .bool false]) (by simp [results, Tryz.results10, go_sem]) rfl ⟨by rw [HR.out]; rfl, (by repeat (first | exact Ext.refl _ | assumption | refine Ext.alloc ?_ _ | refine Ext.drew ?_ | refine Ext.drewN ?_ _ | refine Ext.setCell ?_ (Nat.le_refl _) _ | refine Ext.trans ?_ (by assumption)))⟩
          · have dr1 := dr rfl
            go_enter Tryz.func10, Tryz.ntmps10
            go_wp2
            go_quiet (fail)
            go_wp2
            refine bodyPost_ret_by (v := .tuple #[.agg #[.int .i64 0, .int .i64 0, .int .i64 0, .int .u8 0], .bool false]) (by simp [results, Tryz.results10, go_sem]) rfl ⟨by rw [HR.out]; rfl, (by repeat (first | exact Ext.refl _ | assumption | refine Ext.alloc ?_ _ | refine Ext.drew ?_ | refine Ext.drewN ?_ _ | refine Ext.setCell ?_ (Nat.le_refl _) _ | refine Ext.trans ?_ (by assumption)))⟩
        · have n1 : (s[z].toNat : Int) < 48 := by simpa using hb1
          clear hbb hb1 hb2
          cases ok
          · go_enter Tryz.func10, Tryz.ntmps10
            go_wp2
            go_quiet (fail)
            go_wp2
            refine bodyPost_ret_by (v := .tuple #[.agg #[.int .i64 0, .int .i64 0, .int .i64 0, .int .u8 0], .bool false]) (by simp [results, Tryz.results10, go_sem]) rfl ⟨by rw [HR.out]; rfl, (by repeat (first | exact Ext.refl _ | assumption | refine Ext.alloc ?_ _ | refine Ext.drew ?_ | refine Ext.drewN ?_ _ | refine Ext.setCell ?_ (Nat.le_refl _) _ | refine Ext.trans ?_ (by assumption)))⟩
          · have dr1 := dr rfl
            go_enter Tryz.func10, Tryz.ntmps10
            go_wp2
            go_quiet (fail)
            go_wp2
            refine bodyPost_ret_by (v := .tuple #[.agg #[.int .i64 0, .int .i64 0, .int .i64 0, .int .u8 0], .bool false]) (by simp [results, Tryz.results10, go_sem]) rfl ⟨by rw [HR.out]; rfl, (by repeat (first | exact Ext.refl _ | assumption | refine Ext.alloc ?_ _ | refine Ext.drew ?_ | refine Ext.drewN ?_ _ | refine Ext.setCell ?_ (Nat.le_refl _) _ | refine Ext.trans ?_ (by assumption)))⟩
      · clear hbb hb1 hb2
        cases ok
        · go_enter Tryz.func10, Tryz.ntmps10
          go_wp2
          go_quiet (fail)
          go_wp2
          refine bodyPost_ret_by (v := .tuple #[.agg #[.int .i64 0, .int .i64 0, .int .i64 0, .int .u8 0], .bool false]) (by simp [results, Tryz.results10, go_sem]) rfl ⟨by rw [HR.out]; rfl, (by repeat (first | exact Ext.refl _ | assumption | refine Ext.alloc ?_ _ | refine Ext.drew ?_ | refine Ext.drewN ?_ _ | refine Ext.setCell ?_ (Nat.le_refl _) _ | refine Ext.trans ?_ (by assumption)))⟩
        · have dr1 := dr rfl
          go_enter Tryz.func10, Tryz.ntmps10
          go_wp2
          go_quiet (fail)
          go_wp2
          refine bodyPost_ret_by (v := .tuple #[.agg #[.int .i64 0, .int .i64 0, .int .i64 0, .int .u8 0], .bool false]) (by simp [results, Tryz.results10, go_sem]) rfl ⟨by rw [HR.out]; rfl, (by repeat (first | exact Ext.refl _ | assumption | refine Ext.alloc ?_ _ | refine Ext.drew ?_ | refine Ext.drewN ?_ _ | refine Ext.setCell ?_ (Nat.le_refl _) _ | refine Ext.trans ?_ (by assumption)))⟩

set_option maxRecDepth 100000 in
set_option maxHeartbeats 8000000 in
theorem find_any (s : ByteArray) (b : Nat) (w : World) (hd : Dir w b) (hs : s.size ≤ maxLen) :
    Calls Tryz.prog 10 #[.map (some b), .string s] w (FindR (Gs.find s.data.toList) w) := by
  have hlk := fun o : Obj => look_dir (w.alloc o) b (hd.alloc o) s hs
  have HF := Lib.hid (Gs.find.eq_1 s.data.toList)
  cases hg : Gs.get Gs.dir s.data.toList with
  | some r =>
    rw [hg] at HF
    simp only [hg, ruleO, Option.isSome_some, ruleV] at hlk
    obtain ⟨ra, rb, rc, rd⟩ := r
    dsimp only at hlk HF
    have hne : 1 ≤ s.size := by
      rcases Nat.eq_zero_or_pos s.size with h | h
      · have hnil : s.data.toList = [] := List.eq_nil_of_length_eq_zero (by rw [len_data]; exact h)
        rw [hnil, get_nil] at hg; simp at hg
      · exact h
    by_cases h0 : rd = 0
    · rw [if_pos h0] at HF
      have HR := HF
      generalize Gs.find s.data.toList = res at *
      subst h0
      clear HF hg hd
      go_enter Tryz.func10, Tryz.ntmps10
      go_wp2
      refine bodyPost_ret_by (v := .tuple #[.agg #[.int .i64 ra, .int .i64 rb, .int .i64 rc, .int .u8 0], .bool true]) (by simp [results, Tryz.results10, go_sem]) rfl ⟨by rw [HR.out]; rfl, (by repeat (first | exact Ext.refl _ | assumption | refine Ext.alloc ?_ _ | refine Ext.drew ?_ | refine Ext.drewN ?_ _ | refine Ext.setCell ?_ (Nat.le_refl _) _ | refine Ext.trans ?_ (by assumption)))⟩
    · rw [if_neg h0] at HF
      rw [HF.out]
      exact find_tail s b w hd hs ra rb rc rd true hlk (.inr h0) hne
  | none =>
    rw [hg] at HF
    simp only [hg, ruleO, Option.isSome_none, ruleV] at hlk
    by_cases h0 : s.data.toList = []
    · rw [if_pos h0] at HF
      have HR := HF
      generalize Gs.find s.data.toList = res at *
      have hs0 : s = ⟨#[]⟩ := bytes_ext h0
      subst hs0
      clear HF hg hd h0
      go_enter Tryz.func10, Tryz.ntmps10
      go_wp2
      refine bodyPost_ret_by (v := .tuple #[.agg #[.int .i64 0, .int .i64 0, .int .i64 0, .int .u8 0], .bool false]) (by simp [results, Tryz.results10, go_sem]) rfl ⟨by rw [HR.out]; rfl, (by repeat (first | exact Ext.refl _ | assumption | refine Ext.alloc ?_ _ | refine Ext.drew ?_ | refine Ext.drewN ?_ _ | refine Ext.setCell ?_ (Nat.le_refl _) _ | refine Ext.trans ?_ (by assumption)))⟩
    · rw [if_neg h0] at HF
      rw [HF.out]
      exact find_tail s b w hd hs 0 0 0 0 false hlk (.inl rfl) (by rcases Nat.eq_zero_or_pos s.size with h | h; exact absurd (List.eq_nil_of_length_eq_zero (by rw [len_data]; exact h)) h0; exact h)
end Go.Proofs.YteojfkffmbcedaaGreatDoor
