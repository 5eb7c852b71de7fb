/-
  Chapter 11, plain: modules and sets as strings of bytes.
  No condition.
-/
import Derived.Test.YtfpliihglgjijaaGreatEaP
import Derived.Lib.SlicesS
import Derived.Lib.Strings
import Derived.Lib.Join
namespace Go.Proofs.YtfpliihglgjijaaGreat.Ea

def mb (b : Bool) : UInt8 := if b then 49 else 48
def mS (l : List Bool) : List UInt8 := l.map mb
theorem mb_inj {a b : Bool} (h : mb a = mb b) : a = b := by cases a <;> cases b <;> first | rfl | (revert h; decide)
theorem mb_one (b : Bool) : (mb b == 49) = b := by cases b <;> rfl
theorem mS_inj {a b : List Bool} : mS a = mS b ↔ a = b := by
  refine ⟨fun h => ?_, fun h => by rw [h]⟩
  induction a generalizing b with
  | nil => cases b with
    | nil => rfl
    | cons y b => simp [mS] at h
  | cons x a ih => cases b with
    | nil => simp [mS] at h
    | cons y b =>
      simp only [mS, List.map_cons, List.cons.injEq] at h
      rw [mb_inj h.1, ih h.2]
theorem mS_app (a b : List Bool) : mS (a ++ b) = mS a ++ mS b := by simp [mS]
theorem mS_len (a : List Bool) : (mS a).length = a.length := by simp [mS]
theorem mS_take (a : List Bool) (n : Nat) : (mS a).take n = mS (a.take n) := by simp [mS, List.map_take]
theorem mS_drop (a : List Bool) (n : Nat) : (mS a).drop n = mS (a.drop n) := by simp [mS, List.map_drop]
theorem mS_prefix (s p : List Bool) : Lib.hasPrefix (mS s) (mS p) = decide (s.take p.length = p) := by
  rw [← Lib.hasPrefix_of_take, mS_len, mS_len, mS_take, Bool.eq_iff_iff]
  simp only [Bool.and_eq_true, decide_eq_true_eq, beq_iff_eq, mS_inj]
  refine ⟨fun h => h.2, fun h => ⟨?_, h⟩⟩
  have := congrArg List.length h
  rw [List.length_take] at this
  omega
theorem mS_suffix (s p : List Bool) (hp : p.length ≤ s.length) : Lib.hasSuffix (mS s) (mS p) = decide (s.drop (s.length - p.length) = p) := by
  rw [← Lib.hasSuffix_of_drop, mS_len, mS_len, mS_drop, Bool.eq_iff_iff]
  simp only [Bool.and_eq_true, decide_eq_true_eq, beq_iff_eq, mS_inj]
  exact ⟨fun h => h.2, fun h => ⟨hp, h⟩⟩
/-- The letter of a set. -/
def cS (t : Nat) : UInt8 := UInt8.ofNat (65 + t)
def sS (u : List Nat) : List UInt8 := u.map cS
theorem cS_inj : ∀ a b : Fin 3, cS a = cS b → a = b := by decide
theorem cS_inj' {a b : Nat} (ha : a < 3) (hb : b < 3) (h : cS a = cS b) : a = b := by
  have := cS_inj ⟨a, ha⟩ ⟨b, hb⟩ h
  simpa using this
theorem sS_inj {a b : List Nat} (ha : ∀ u ∈ a, u < 3) (hb : ∀ u ∈ b, u < 3) (h : sS a = sS b) : a = b := by
  induction a generalizing b with
  | nil => cases b with
    | nil => rfl
    | cons y b => simp [sS] at h
  | cons x a ih => cases b with
    | nil => simp [sS] at h
    | cons y b =>
      simp only [sS, List.map_cons, List.cons.injEq] at h
      rw [cS_inj' (ha x (List.mem_cons_self ..)) (hb y (List.mem_cons_self ..)) h.1, ih (fun u hu => ha u (List.mem_cons_of_mem _ hu)) (fun u hu => hb u (List.mem_cons_of_mem _ hu)) h.2]
theorem sS_app (a b : List Nat) : sS (a ++ b) = sS a ++ sS b := by simp [sS]
theorem sS_len (a : List Nat) : (sS a).length = a.length := by simp [sS]
def bS (l : List UInt8) : ByteArray := ⟨l.toArray⟩
theorem bS_inj {a b : List UInt8} : bS a = bS b ↔ a = b := ⟨fun h => by simpa [bS] using h, fun h => by rw [h]⟩
theorem bS_list (a : List UInt8) : (bS a).data.toList = a := rfl
theorem bS_of (s : ByteArray) : bS s.data.toList = s := Lib.mk_data s
/-- slices.Index of a list of strings, by the plain place. -/
theorem idxFromS_map {α : Type} [DecidableEq α] (f : α → ByteArray) (y : α) : ∀ (l : List α) (i : Nat), (∀ z ∈ l, f z = f y → z = y) →
    Lib.idxFromS (l.map f) (f y) i = (match idx l y with | some n => ((i + n : Nat) : Int) | none => -1) := by
  intro l
  induction l with
  | nil => intro i _; rfl
  | cons z l ih =>
    intro i h
    rw [List.map_cons, Lib.idxFromS, idx]
    by_cases e : z = y
    · subst e; rw [if_pos rfl, if_pos rfl]; rfl
    · rw [if_neg (fun e2 => e (h z (List.mem_cons_self ..) e2)), if_neg e, ih (i + 1) (fun z hz => h z (List.mem_cons_of_mem _ hz))]
      cases idx l y with
      | none => rfl
      | some n => simp only [Option.map_some]; congr 1; omega
def plcO (o : Option Nat) : Int := match o with
  | some n => (n : Int)
  | none => -1
theorem idxOfS_map {α : Type} [DecidableEq α] (f : α → ByteArray) (l : List α) (y : α) (h : ∀ z ∈ l, f z = f y → z = y) : Lib.idxOfS (l.map f) (f y) = plcO (idx l y) := by
  unfold Lib.idxOfS plcO
  rw [idxFromS_map f y l 0 h]
  cases idx l y with
  | none => rfl
  | some n => simp
/-- The strings of the digits of a set. -/
def rowB (t : Nat) : List ByteArray := (tab.getD t []).map (fun m => bS (mS m))
theorem row_idx (t : Nat) (m : List Bool) : Lib.idxOfS (rowB t) (bS (mS m)) = plcO (lookT t m) := by
  unfold rowB lookT
  exact idxOfS_map (fun m => bS (mS m)) _ m (fun z _ h => mS_inj.1 (bS_inj.1 h))
def leftB : List ByteArray := setsL.map (fun u => bS (sS u))
theorem left_small : ∀ u ∈ setsL, ∀ x ∈ u, x < 3 := by decide
theorem left_idx (u : List Nat) (h : ∀ x ∈ u, x < 3) : Lib.idxOfS leftB (bS (sS u)) = plcO (find13 u) :=
  idxOfS_map (fun u => bS (sS u)) _ u (fun z hz e => sS_inj (left_small z hz) h (bS_inj.1 e))
def setsE1 : List (List Nat) := setsE0.map (fun l => l.map (fun x => 1 - x))
def compB (y : Nat) : List ByteArray := (if y = 0 then setsE0 else setsE1).map (fun u => bS (sS u))
theorem comp_small0 : ∀ u ∈ setsE0, ∀ x ∈ u, x < 3 := by decide
theorem comp_small1 : ∀ u ∈ setsE1, ∀ x ∈ u, x < 3 := by decide
theorem comp_idx (y : Nat) (u : List Nat) (h : ∀ x ∈ u, x < 3) : Lib.idxOfS (compB y) (bS (sS u)) = plcO (idx (if y = 0 then setsE0 else setsE1) u) :=
  idxOfS_map (fun u => bS (sS u)) _ u (fun z hz e => sS_inj (by
    split at hz
    · exact comp_small0 z hz
    · exact comp_small1 z hz) h (bS_inj.1 e))
theorem findE_eq (u : List Nat) : findE u = match idx setsE0 u with
    | some c => some (0, c)
    | none => (idx setsE1 u).map (fun c => (1, c)) := rfl
theorem plcO_neg {o : Option Nat} : plcO o < 0 ↔ o = none := by
  cases o with
  | none => simp [plcO]
  | some n => simp [plcO]
/-- The modules of the digits, one string each. -/
def dl (l : List UInt8) (us : List Nat) : List (List Bool) := List.zipWith (fun c t => modl t (c.toNat - 48)) l us
theorem dl_len {l : List UInt8} {us : List Nat} (h : us.length = l.length) : (dl l us).length = l.length := by unfold dl; rw [List.length_zipWith, h, Nat.min_self]
theorem dl_at {l : List UInt8} {us : List Nat} {i : Nat} {c : UInt8} {t : Nat} (h1 : l[i]? = some c) (h2 : us[i]? = some t) : (dl l us)[i]? = some (modl t (c.toNat - 48)) := by
  unfold dl; rw [List.getElem?_zipWith, h1, h2]
theorem join_draw (sep : List Bool) : ∀ (l : List UInt8) (us : List Nat), us.length = l.length → Lib.join ((dl l us).map mS) (mS sep) = mS (drw sep l us) := by
  intro l
  induction l with
  | nil => intro us _; rfl
  | cons c l ih =>
    intro us h
    cases us with
    | nil => simp at h
    | cons u us =>
      have h' : us.length = l.length := by simpa using h
      have e : dl (c :: l) (u :: us) = modl u (c.toNat - 48) :: dl l us := rfl
      rw [drw_cons, e, List.map_cons, mS_app]
      by_cases h0 : l = []
      · subst h0
        have : us = [] := List.eq_nil_of_length_eq_zero (by simpa using h')
        subst this
        rw [if_pos rfl, show dl [] [] = [] from rfl, List.map_nil, Lib.join_one]
        simp [mS]
      · rw [if_neg h0, mS_app, ← ih us h', Lib.join_cons]
        congr 1
        have hp : 0 < (dl l us).length := by rw [dl_len h']; exact List.length_pos_iff.2 h0
        cases hd : dl l us with
        | nil => rw [hd] at hp; simp at hp
        | cons m r => rw [List.map_cons, Lib.join_cons]; simp [Lib.joinTail]
end Go.Proofs.YtfpliihglgjijaaGreat.Ea
