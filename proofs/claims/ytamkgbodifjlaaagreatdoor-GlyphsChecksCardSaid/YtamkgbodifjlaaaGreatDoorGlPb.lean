/-
  Chapter 48, plain: the counts of cells, as they are counted.
  No condition.
-/
import Derived.Test.YtamkgbodifjlaaaGreatDoorGlPa
import Derived.Lib.Bytealg

/-
  Chapter 48, plain: the counts of cells, as they are counted.
  No condition.
-/
namespace Go.Proofs.YtamkgbodifjlaaaGreatDoor.Gl

def rowN (m : List Bool) (W xr yb x v t : Nat) : Nat := (List.range t).countP fun i => decide (x + i < xr) && decide (v < yb) && m.getD (v * W + (x + i)) false
theorem rowN_succ (m : List Bool) (W xr yb x v t : Nat) : rowN m W xr yb x v (t + 1) = rowN m W xr yb x v t + if decide (x + t < xr) && decide (v < yb) && m.getD (v * W + (x + t)) false then 1 else 0 := by
  unfold rowN
  rw [List.range_succ, List.countP_append]
  simp [List.countP_cons]
theorem rowN_le (m : List Bool) (W xr yb x v t : Nat) : rowN m W xr yb x v t ≤ t := Nat.le_trans List.countP_le_length (by simp)
theorem rowN_stop (m : List Bool) (W xr yb x v t k : Nat) (h : t ≤ k) (hs : t = k ∨ xr ≤ x + t) : rowN m W xr yb x v t = cellRow m W xr yb x v k := by
  rcases hs with rfl | hs
  · rfl
  · have : ∀ d, rowN m W xr yb x v (t + d) = rowN m W xr yb x v t := by
      intro d
      induction d with
      | zero => rfl
      | succ d ih =>
        have hn : ¬ x + (t + d) < xr := by omega
        rw [← Nat.add_assoc, rowN_succ, ih]
        simp at hn ⊢
        intro h1
        omega
    have h2 := this (k - t)
    rw [Nat.add_sub_cancel' h] at h2
    exact h2.symm
theorem cellN_stop (m : List Bool) (W xr yb x y k j : Nat) (h : j ≤ k) (hs : j = k ∨ yb ≤ y + j) : cellN m W xr yb x y k j = cellN m W xr yb x y k k := by
  rcases hs with rfl | hs
  · rfl
  · have : ∀ d, cellN m W xr yb x y k (j + d) = cellN m W xr yb x y k j := by
      intro d
      induction d with
      | zero => rfl
      | succ d ih =>
        have hz : cellRow m W xr yb x (y + (j + d)) k = 0 := by
          unfold cellRow
          rw [List.countP_eq_zero]
          intro i _
          have : ¬ y + (j + d) < yb := by omega
          simp [this]
        show cellN m W xr yb x y k (j + d) + cellRow m W xr yb x (y + (j + d)) k = _
        rw [ih, hz, Nat.add_zero]
    have h2 := this (k - j)
    rw [Nat.add_sub_cancel' h] at h2
    exact h2.symm
end Go.Proofs.YtamkgbodifjlaaaGreatDoor.Gl

/-
  Chapter 48, plain: a drawn text, as it is drawn.
  No condition.
-/
namespace Go.Proofs.YtamkgbodifjlaaaGreatDoor.Gl

/-- The pixels that are drawn before (x, y) of character i. -/
def dn (s : List UInt8) (k i y x p : Nat) : Bool :=
  (decide (p % wid s k / (6 * k) < i) || (decide (p % wid s k / (6 * k) = i) && (decide (p / wid s k < y) || (decide (p / wid s k = y) && decide (p % wid s k % (6 * k) < x))))) && px s k (p % wid s k) (p / wid s k)
theorem px_lt {s : List UInt8} {k x y : Nat} (h : px s k x y = true) : x % (6 * k) < 5 * k := by
  unfold px at h
  simp only [Bool.and_eq_true, decide_eq_true_eq] at h
  exact h.1
theorem dn_start (s : List UInt8) (k p : Nat) : dn s k 0 0 0 p = false := by
  unfold dn
  simp
theorem dn_row (s : List UInt8) (k i y p : Nat) : dn s k i y (5 * k) p = dn s k i (y + 1) 0 p := by
  unfold dn
  cases h : px s k (p % wid s k) (p / wid s k)
  · simp
  · have h1 := px_lt h
    simp only [Bool.and_true]
    congr 2
    by_cases h2 : p / wid s k < y
    · have h3 : p / wid s k < y + 1 := by omega
      simp [h2, h3]
    · by_cases h4 : p / wid s k = y
      · have h3 : p / wid s k < y + 1 := by omega
        simp [h4, h1]
      · have h3 : ¬ p / wid s k < y + 1 := by omega
        have h5 : ¬ p / wid s k = y + 1 ∨ ¬ p % wid s k % (6 * k) < 0 := by omega
        simp [h2, h4, h3]
theorem dn_char (s : List UInt8) (k i p : Nat) (hp : p / wid s k < 7 * k) : dn s k i (7 * k) 0 p = dn s k (i + 1) 0 0 p := by
  unfold dn
  congr 1
  by_cases h1 : p % wid s k / (6 * k) < i
  · have h2 : p % wid s k / (6 * k) < i + 1 := by omega
    simp [h1, h2]
  · by_cases h3 : p % wid s k / (6 * k) = i
    · have h2 : p % wid s k / (6 * k) < i + 1 := by omega
      simp [h3, hp]
    · have h2 : ¬ p % wid s k / (6 * k) < i + 1 := by omega
      simp [h1, h3, h2]
theorem dn_end (s : List UInt8) (k p : Nat) (h : p % wid s k / (6 * k) < s.length) : dn s k s.length 0 0 p = px s k (p % wid s k) (p / wid s k) := by
  unfold dn
  simp [h]
/-- One pixel. -/
theorem dn_step (s : List UInt8) (k i y x p : Nat) (hx : x < 5 * k) (hw : 6 * i * k + x < wid s k) :
    dn s k i y (x + 1) p = if p = y * wid s k + (6 * i * k + x) then px s k (6 * i * k + x) y else dn s k i y x p := by
  have h6 : x < 6 * k := by omega
  have e0 : 6 * i * k + x = x + 6 * k * i := by rw [Nat.mul_right_comm 6 i k]; omega
  by_cases hp : p = y * wid s k + (6 * i * k + x)
  · rw [if_pos hp]
    have e1 : p % wid s k = 6 * i * k + x := by rw [hp, Nat.add_comm, Nat.add_mul_mod_self_right, Nat.mod_eq_of_lt hw]
    have e2 : p / wid s k = y := by rw [hp]; exact div_cell hw
    have e3 : (6 * i * k + x) / (6 * k) = i := by rw [e0, Nat.add_mul_div_left _ _ (by omega), Nat.div_eq_of_lt h6, Nat.zero_add]
    have e4 : (6 * i * k + x) % (6 * k) = x := by rw [e0, Nat.add_mul_mod_self_left, Nat.mod_eq_of_lt h6]
    unfold dn
    rw [e1, e2, e3, e4]
    simp
  · rw [if_neg hp]
    unfold dn
    congr 1
    by_cases h1 : p % wid s k / (6 * k) = i
    · by_cases h2 : p / wid s k = y
      · have h3 : ¬ p % wid s k % (6 * k) = x := by
          intro h3
          apply hp
          have a1 := Nat.div_add_mod (p % wid s k) (6 * k)
          have a2 := Nat.div_add_mod p (wid s k)
          rw [h1, h3] at a1
          rw [h2, Nat.mul_comm] at a2
          omega
        by_cases h4 : p % wid s k % (6 * k) < x
        · have h5 : p % wid s k % (6 * k) < x + 1 := by omega
          simp [h4, h5]
        · have h5 : ¬ p % wid s k % (6 * k) < x + 1 := by omega
          simp [h4, h5]
      · simp [h2]
    · simp [h1]
end Go.Proofs.YtamkgbodifjlaaaGreatDoor.Gl

/-
  Chapter 48, plain: the choices of a glyph, partial texts.
  No condition.
-/
namespace Go.Proofs.YtamkgbodifjlaaaGreatDoor.Gl

/-! ### Choices -/
/-- The order of choices: by characters, then by costs. -/
def cfC (x y : Ch) : Int := if Lib.compareInt (x.1.toNat : Int) (y.1.toNat : Int) ≠ 0 then Lib.compareInt (x.1.toNat : Int) (y.1.toNat : Int) else Lib.compareInt x.2 y.2
theorem ltC (x y : Ch) : ltOf cfC x y = decide (x.1.toNat < y.1.toNat ∨ (x.1.toNat = y.1.toNat ∧ x.2 < y.2)) := by
  unfold ltOf cfC Lib.compareInt
  by_cases h3 : x.1.toNat < y.1.toNat
  · have h3' : (x.1.toNat : Int) < (y.1.toNat : Int) := by omega
    simp [h3, h3']
  · have h3' : ¬ (x.1.toNat : Int) < (y.1.toNat : Int) := by omega
    by_cases h4 : (y.1.toNat : Int) < (x.1.toNat : Int)
    · have : ¬ x.1.toNat = y.1.toNat := by omega
      simp [h3, h3', h4, this]
    · have : x.1.toNat = y.1.toNat := by omega
      by_cases h1 : x.2 < y.2
      · simp [this, h1]
      · by_cases h2 : y.2 < x.2 <;> simp [this, h1, h2]
theorem swoC : Go.Sort.SWO (ltOf cfC) where
  irrefl x := by rw [ltC]; simp
  trans x y z h1 h2 := by rw [ltC] at *; simp only [decide_eq_true_eq] at *; omega
  ntrans x y z h1 h2 := by rw [ltC] at *; simp only [decide_eq_false_iff_not] at *; omega
theorem totC (x y : Ch) (h1 : ltOf cfC x y = false) (h2 : ltOf cfC y x = false) : x = y := by
  rw [ltC] at *
  simp only [decide_eq_false_iff_not] at *
  have e1 : x.2 = y.2 := by omega
  have e2 : x.1 = y.1 := UInt8.toNat_inj.1 (by omega)
  exact Prod.ext e2 e1
def srt (l : List Ch) : List Ch := l.mergeSort fun x y => !(ltOf cfC y x)
theorem srt_len (l : List Ch) : (srt l).length = l.length := (List.mergeSort_perm _ _).length_eq
theorem srt_mem (l : List Ch) {x : Ch} : x ∈ srt l ↔ x ∈ l := (List.mergeSort_perm _ _).mem_iff
theorem srt_sorted (l : List Ch) : (srt l).Pairwise fun x y => ltOf cfC y x = false := by
  have h : (srt l).Pairwise fun x y => (!(ltOf cfC y x)) = true := by
    refine List.pairwise_mergeSort ?_ ?_ _
    · intro a b c h1 h2
      rw [ltC] at *
      simp only [Bool.not_eq_true', decide_eq_false_iff_not] at *
      omega
    · intro a b
      rw [ltC, ltC]
      simp only [Bool.or_eq_true, Bool.not_eq_true', decide_eq_false_iff_not]
      omega
  exact h.imp fun h => by simpa using h
/-- What CompactFunc keeps behind an element. -/
def cpt (p : Ch) : List Ch → List Ch
  | [] => []
  | x :: l => if x.1 = p.1 then cpt x l else x :: cpt x l
def compact : List Ch → List Ch
  | [] => []
  | x :: l => x :: cpt x l
theorem cpt_snoc (l : List Ch) : ∀ (p x : Ch), cpt p (l ++ [x]) = cpt p l ++ if x.1 = (l.getLast?.getD p).1 then [] else [x] := by
  induction l with
  | nil => intro p x; by_cases h : x.1 = p.1 <;> simp [cpt, h]
  | cons a l ih =>
    intro p x
    have e : (a :: l).getLast?.getD p = l.getLast?.getD a := by
      cases l with
      | nil => rfl
      | cons b l => simp [List.getLast?_cons_cons, List.getLast?_cons]
    rw [e]
    simp only [List.cons_append, cpt, ih a x]
    split <;> simp
theorem cpt_len (l : List Ch) : ∀ p : Ch, (cpt p l).length ≤ l.length := by
  induction l with
  | nil => intro p; simp [cpt]
  | cons a l ih =>
    intro p
    have := ih a
    unfold cpt
    split <;> simp only [List.length_cons] <;> omega
theorem compact_len (l : List Ch) : (compact l).length ≤ l.length := by
  cases l with
  | nil => simp [compact]
  | cons x l => have := cpt_len l x; simp only [compact, List.length_cons]; omega
theorem compact_snoc (l : List Ch) (x : Ch) (h : l ≠ []) : compact (l ++ [x]) = compact l ++ if x.1 = (l.getLast h).1 then [] else [x] := by
  cases l with
  | nil => exact absurd rfl h
  | cons a l =>
    simp only [List.cons_append, compact, cpt_snoc]
    have e : (l.getLast?.getD a) = (a :: l).getLast h := by
      cases l with
      | nil => rfl
      | cons b l => rw [List.getLast?_eq_some_getLast (List.cons_ne_nil b l), Option.getD_some]; exact (List.getLast_cons (List.cons_ne_nil b l)).symm
    rw [e]
theorem cpt_sub (l : List Ch) : ∀ p x : Ch, x ∈ cpt p l → x ∈ l := by
  induction l with
  | nil => intro p x h; simp [cpt] at h
  | cons a l ih =>
    intro p x h
    unfold cpt at h
    split at h
    · exact List.mem_cons_of_mem _ (ih _ _ h)
    · rcases List.mem_cons.1 h with rfl | h
      · exact List.mem_cons_self ..
      · exact List.mem_cons_of_mem _ (ih _ _ h)
theorem compact_sub (l : List Ch) (x : Ch) (h : x ∈ compact l) : x ∈ l := by
  cases l with
  | nil => simp [compact] at h
  | cons a l =>
    rcases List.mem_cons.1 h with rfl | h
    · exact List.mem_cons_self ..
    · exact List.mem_cons_of_mem _ (cpt_sub _ _ _ h)
/-- Of a sorted list each character stays, with its least cost. -/
theorem cpt_least (l : List Ch) : ∀ p : Ch, ((p :: l).Pairwise fun x y => ltOf cfC y x = false) → ∀ x ∈ l, x.1 ≠ p.1 → ∃ y ∈ cpt p l, y.1 = x.1 ∧ y.2 ≤ x.2 := by
  induction l with
  | nil => intro p _ x h; simp at h
  | cons a l ih =>
    intro p hp x hx hne
    have ha := hp.of_cons
    have hal : ∀ y ∈ l, ltOf cfC y a = false := (List.pairwise_cons.1 ha).1
    by_cases hxa : x.1 = a.1
    · have hle : a.2 ≤ x.2 := by
        rcases List.mem_cons.1 hx with rfl | hx
        · exact Int.le_refl _
        · have := hal x hx
          rw [ltC] at this
          simp only [decide_eq_false_iff_not] at this
          have e : x.1.toNat = a.1.toNat := by rw [hxa]
          omega
      unfold cpt
      rw [if_neg (by rw [← hxa]; exact hne)]
      exact ⟨a, List.mem_cons_self .., hxa.symm, hle⟩
    · rcases List.mem_cons.1 hx with rfl | hx
      · exact absurd rfl hxa
      · obtain ⟨y, hy, h1, h2⟩ := ih a ha x hx hxa
        refine ⟨y, ?_, h1, h2⟩
        unfold cpt
        split
        · exact hy
        · exact List.mem_cons_of_mem _ hy
theorem compact_least (l : List Ch) (h : l.Pairwise fun x y => ltOf cfC y x = false) (x : Ch) (hx : x ∈ l) : ∃ y ∈ compact l, y.1 = x.1 ∧ y.2 ≤ x.2 := by
  cases l with
  | nil => simp at hx
  | cons a l =>
    by_cases hxa : x.1 = a.1
    · refine ⟨a, List.mem_cons_self .., hxa.symm, ?_⟩
      rcases List.mem_cons.1 hx with rfl | hx
      · exact Int.le_refl _
      · have := (List.pairwise_cons.1 h).1 x hx
        rw [ltC] at this
        simp only [decide_eq_false_iff_not] at this
        have e : x.1.toNat = a.1.toNat := by rw [hxa]
        omega
    · rcases List.mem_cons.1 hx with rfl | hx
      · exact absurd rfl hxa
      · obtain ⟨y, hy, h1⟩ := cpt_least l a h x hx hxa
        exact ⟨y, List.mem_cons_of_mem _ hy, h1⟩
/-- A class of characters: 100 a digit, 97 a letter, any other byte: any. -/
def cls (c k : UInt8) : Bool := if k = 100 then decide (48 ≤ c.toNat) && decide (c.toNat ≤ 57) else if k = 97 then decide (65 ≤ c.toNat) && decide (c.toNat ≤ 90) else true
/-- The choices of a glyph that belong to a class. -/
def chs (all : List Ch) (k : UInt8) : List Ch := (compact (srt all)).filter fun c => cls c.1 k
theorem chs_sub {all : List Ch} {k : UInt8} {x : Ch} (h : x ∈ chs all k) : x ∈ all ∧ cls x.1 k = true := by
  obtain ⟨h1, h2⟩ := List.mem_filter.1 h
  exact ⟨(srt_mem _).1 (compact_sub _ _ h1), h2⟩
theorem chs_least {all : List Ch} {k : UInt8} {x : Ch} (h : x ∈ all) (hk : cls x.1 k = true) : ∃ y ∈ chs all k, y.1 = x.1 ∧ y.2 ≤ x.2 := by
  obtain ⟨y, h1, h2, h3⟩ := compact_least _ (srt_sorted all) x ((srt_mem _).2 h)
  exact ⟨y, List.mem_filter.2 ⟨h1, by rw [h2]; exact hk⟩, h2, h3⟩
theorem chs_len (all : List Ch) (k : UInt8) : (chs all k).length ≤ all.length := by
  have h1 := List.length_filter_le (fun c : Ch => cls c.1 k) (compact (srt all))
  have h2 := compact_len (srt all)
  rw [srt_len] at h2
  unfold chs
  omega

/-! ### Partial texts -/
abbrev Pt := List UInt8 × Int
/-- The number whose sign says which of two texts is better. -/
def betN (p q : Pt) : Int := if Lib.compareInt p.2 q.2 ≠ 0 then Lib.compareInt p.2 q.2 else Lib.compareBytes p.1 q.1
def bet (p q : Pt) : Bool := decide (betN p q < 0)
theorem bet_less {p q : Pt} (h : p.2 < q.2) : bet p q = true ∧ bet q p = false := by
  unfold bet betN Lib.compareInt
  have h2 : ¬ q.2 < p.2 := by omega
  simp [h, h2]
theorem cmpB_self (l : List UInt8) : Lib.compareBytes l l = 0 := by
  induction l with
  | nil => rfl
  | cons a l ih => simp [Lib.compareBytes, ih]
theorem bet_self (p : Pt) : bet p p = false := by
  unfold bet betN Lib.compareInt
  simp [cmpB_self]
end Go.Proofs.YtamkgbodifjlaaaGreatDoor.Gl
