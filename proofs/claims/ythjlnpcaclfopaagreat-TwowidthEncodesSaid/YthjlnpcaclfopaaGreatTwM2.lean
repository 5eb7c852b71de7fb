/-
  Chapter 12, plain laws: separated characters that are drawn are read; one element turned is an error.
  No condition.
-/
import Derived.Test.YthjlnpcaclfopaaGreatTwM1
namespace Go.Proofs.YthjlnpcaclfopaaGreat
open Go.RowKit

theorem flat_block (m : Nat) : ∀ (L : List (List UInt8)) (i : Nat) (hi : i < L.length), (∀ x ∈ L, x.length = m) → (L.flatten.drop (i * m)).take m = L[i]
  | [], i, hi, _ => absurd hi (Nat.not_lt_zero _)
  | x :: L, 0, _, h => by
    have := h x (List.mem_cons_self ..)
    simp only [Nat.zero_mul, List.drop_zero, List.flatten_cons, List.getElem_cons_zero]
    rw [← this, List.take_left]
  | x :: L, i + 1, hi, h => by
    have hx := h x (List.mem_cons_self ..)
    have ih := flat_block m L i (by simpa using hi) (fun y hy => h y (List.mem_cons_of_mem _ hy))
    rw [List.flatten_cons, List.getElem_cons_succ, ← ih, Nat.add_mul, Nat.one_mul]
    congr 1
    rw [Nat.add_comm, ← hx, List.drop_append]
    simp
theorem flat_len (m : Nat) : ∀ (L : List (List UInt8)), (∀ x ∈ L, x.length = m) → L.flatten.length = L.length * m
  | [], _ => by simp
  | x :: L, h => by
    rw [List.flatten_cons, List.length_append, h x (List.mem_cons_self ..), flat_len m L (fun y hy => h y (List.mem_cons_of_mem _ hy)), List.length_cons, Nat.add_mul]; omega
theorem join_flat (L : List (List UInt8)) (h : L ≠ []) : 110 :: Lib.join L [110] = (L.map (fun x => 110 :: x)).flatten := by
  cases L with
  | nil => exact absurd rfl h
  | cons x r => rw [Lib.join_cons]; simp [Lib.joinTail]

section
variable (cs ps : List UInt8) (z : Nat)
def pt (c : UInt8) : List UInt8 := (Tw.pat cs ps z c).1
/-- What is drawn for characters. -/
def drawn (chars : List UInt8) : List UInt8 := Lib.join (chars.map (pt cs ps z)) [110]
/-- A character is read back from its own elements. -/
def Good (c : UInt8) : Prop := (pt cs ps z c).length = z ∧ Tw.chr cs ps z (pt cs ps z c) = (c, true)
variable {cs ps z} {chars : List UInt8}
theorem drawn_block (h : ∀ c ∈ chars, Good cs ps z c) (i : Nat) (hi : i < chars.length) : ((110 :: drawn cs ps z chars).drop (i * (z + 1))).take (z + 1) = 110 :: pt cs ps z chars[i] := by
  unfold drawn
  rw [join_flat _ (by intro e; have := congrArg List.length e; simp at this; rw [this] at hi; simp at hi)]
  rw [flat_block (z + 1) _ i (by simpa using hi) (fun x hx => by
    rw [List.mem_map] at hx; obtain ⟨y, hy, rfl⟩ := hx
    rw [List.mem_map] at hy; obtain ⟨c, hc, rfl⟩ := hy
    rw [List.length_cons, (h c hc).1])]
  simp
theorem drawn_len (h : ∀ c ∈ chars, Good cs ps z c) (h0 : chars ≠ []) : (drawn cs ps z chars).length + 1 = chars.length * (z + 1) := by
  have : (110 :: drawn cs ps z chars).length = chars.length * (z + 1) := by
    unfold drawn
    rw [join_flat _ (by simpa using h0), flat_len (z + 1) _ (fun x hx => by
      rw [List.mem_map] at hx; obtain ⟨y, hy, rfl⟩ := hx
      rw [List.mem_map] at hy; obtain ⟨c, hc, rfl⟩ := hy
      rw [List.length_cons, (h c hc).1])]
    simp
  simpa using this
theorem drawn_cut (h : ∀ c ∈ chars, Good cs ps z c) (i : Nat) (hi : i < chars.length) : ((drawn cs ps z chars).drop (i * (z + 1))).take z = pt cs ps z chars[i] := by
  have h1 := drawn_block h i hi
  have h2 := congrArg (List.drop 1) h1
  rw [List.drop_take, List.drop_drop] at h2
  simpa using h2
theorem drawn_sep (h : ∀ c ∈ chars, Good cs ps z c) (i : Nat) (hi : i < chars.length) (h0 : 0 < i) : (drawn cs ps z chars).getD (i * (z + 1) - 1) 0 = 110 := by
  have h1 := drawn_block h i hi
  have h2 := congrArg (fun l => l[0]?) h1
  simp only [List.getElem?_take_of_lt (Nat.succ_pos z), List.getElem?_drop, Nat.add_zero, List.getElem?_cons_zero] at h2
  have h3 : i * (z + 1) = (i * (z + 1) - 1) + 1 := by
    have : 1 ≤ i * (z + 1) := Nat.mul_pos h0 (Nat.succ_pos z)
    omega
  rw [h3, List.getElem?_cons_succ] at h2
  rw [List.getD_eq_getElem?_getD, h2]; rfl

/-- The set that a character must be in. -/
def setAt (edge inner : List UInt8) (n i : Nat) : List UInt8 := if i = 0 ∨ i + 1 = n then edge else inner
theorem read_drawn {edge inner : List UInt8} (h : ∀ c ∈ chars, Good cs ps z c) (hn : 2 ≤ chars.length) (hs : ∀ i (hi : i < chars.length), 0 ≤ Lib.indexByte (setAt edge inner chars.length i) chars[i]) :
    Tw.read cs ps edge inner z (drawn cs ps z chars) = (chars, 0) := by
  have hne : chars ≠ [] := by intro e; rw [e] at hn; simp at hn
  have hl := drawn_len h hne
  have hnn : chars.length = ((drawn cs ps z chars).length + 1) / (z + 1) := by rw [hl, Nat.mul_div_cancel _ (Nat.succ_pos z)]
  have hrd : ∀ i (hi : i < chars.length), Tw.rdAt cs ps z (drawn cs ps z chars) i = (chars[i], true) := fun i hi => by
    unfold Tw.rdAt
    rw [drawn_cut h i hi]
    exact (h _ (List.getElem_mem hi)).2
  have hin : ∀ i (hi : i < chars.length), Tw.isIn (setAt edge inner chars.length i) (Tw.rdAt cs ps z (drawn cs ps z chars) i) = true := fun i hi => by
    rw [hrd i hi]; unfold Tw.isIn; simp [hs i hi]
  rw [Tw.read_all _ _ _ _ _ _ _ hnn (fun i hi => ?_)]
  · refine Prod.ext ?_ rfl
    apply List.ext_getElem
    · simp
    · intro i h1 h2
      simp [hrd i h2]
  · have hi2 := hin i hi
    unfold Tw.rdErr
    rw [if_neg (fun hc => by rw [drawn_sep h i hi hc.1] at hc; exact absurd hc.2 (by decide))]
    unfold setAt at hi2
    by_cases he : i = 0 ∨ i + 1 = chars.length
    · rw [if_pos he] at hi2
      rw [if_neg (fun hc => by rw [hi2] at hc; exact Bool.noConfusion hc.2), if_neg (fun hc => by rw [hi2] at hc; exact Bool.noConfusion hc.2), if_neg (fun hc => by omega)]
    · rw [if_neg he] at hi2
      rw [if_neg (fun hc => by omega), if_neg (fun hc => by omega), if_neg (fun hc => by rw [hi2] at hc; exact Bool.noConfusion hc.2.2)]

/-- One element turned. -/
def turn (c : UInt8) : UInt8 := if c = 119 then 110 else 119
def turnAt (e : List UInt8) (p : Nat) : List UInt8 := e.set p (turn (e.getD p 0))
theorem turnAt_len (e : List UInt8) (p : Nat) : (turnAt e p).length = e.length := by simp [turnAt]
theorem read_err {edge inner : List UInt8} (e : List UInt8) (n i : Nat) (hn : n = (e.length + 1) / (z + 1)) (hi : i < n) (h : Tw.rdErr cs ps edge inner z e n i ≠ 0) : (Tw.read cs ps edge inner z e).2 ≠ 0 := by
  unfold Tw.read
  rw [← hn]
  split
  · rename_i j hj
    have := List.find?_some hj
    simpa using this
  · rename_i hj
    rw [List.find?_eq_none] at hj
    have := hj i (by simpa using hi)
    simp [h] at this
theorem turn_cut (e : List UInt8) (s z p : Nat) (h1 : s ≤ p) (h2 : p < s + z) (_ : p < e.length) : ((turnAt e p).drop s).take z = turnAt ((e.drop s).take z) (p - s) := by
  unfold turnAt
  have e1 : ((e.drop s).take z).getD (p - s) 0 = e.getD p 0 := by
    rw [List.getD_eq_getElem?_getD, List.getD_eq_getElem?_getD, List.getElem?_take_of_lt (by omega), List.getElem?_drop, show s + (p - s) = p by omega]
  rw [e1, List.drop_set, if_neg (by omega), List.take_set]
theorem turn_far (e : List UInt8) (s z p : Nat) (h : p < s ∨ s + z ≤ p) : ((turnAt e p).drop s).take z = (e.drop s).take z := by
  unfold turnAt
  rw [List.drop_set]
  by_cases h1 : p < s
  · rw [if_pos h1]
  · rw [if_neg h1, List.take_set, List.set_eq_of_length_le (by rw [List.length_take]; omega)]
theorem read_turned {edge inner : List UInt8} (h : ∀ c ∈ chars, Good cs ps z c) (hn : 2 ≤ chars.length) (hs : ∀ i (hi : i < chars.length), 0 ≤ Lib.indexByte (setAt edge inner chars.length i) chars[i])
    (hb : ∀ c, 0 ≤ Lib.indexByte edge c → ∀ j, j < z → Tw.isIn edge (Tw.chr cs ps z (turnAt (pt cs ps z c) j)) = false) (hb' : ∀ c, 0 ≤ Lib.indexByte inner c → ∀ j, j < z → Tw.isIn inner (Tw.chr cs ps z (turnAt (pt cs ps z c) j)) = false)
    (p : Nat) (hp : p < (drawn cs ps z chars).length) : (Tw.read cs ps edge inner z (turnAt (drawn cs ps z chars) p)).2 ≠ 0 := by
  have hne : chars ≠ [] := by intro e; rw [e] at hn; simp at hn
  have hl := drawn_len h hne
  have hnn : chars.length = ((turnAt (drawn cs ps z chars) p).length + 1) / (z + 1) := by rw [turnAt_len, hl, Nat.mul_div_cancel _ (Nat.succ_pos z)]
  obtain ⟨i, j, hpj, hj⟩ : ∃ i j, p = i * (z + 1) + j ∧ j < z + 1 := ⟨p / (z + 1), p % (z + 1), by rw [Nat.mul_comm]; exact (Nat.div_add_mod p (z + 1)).symm, Nat.mod_lt _ (Nat.succ_pos z)⟩
  have hin : i < chars.length := by
    rcases Nat.lt_or_ge i chars.length with h1 | h1
    · exact h1
    · have := Nat.mul_le_mul_right (z + 1) h1
      omega
  by_cases hjz : j < z
  · refine read_err _ chars.length i hnn hin ?_
    have hrd : Tw.rdAt cs ps z (turnAt (drawn cs ps z chars) p) i = Tw.chr cs ps z (turnAt (pt cs ps z chars[i]) j) := by
      unfold Tw.rdAt
      rw [turn_cut _ _ _ _ (by omega) (by omega) hp, drawn_cut h i hin, show p - i * (z + 1) = j by omega]
    unfold Tw.rdErr
    rw [hrd]
    by_cases h1 : 0 < i ∧ (turnAt (drawn cs ps z chars) p).getD (i * (z + 1) - 1) 0 = 119
    · rw [if_pos h1]; decide
    · rw [if_neg h1]
      have hsi := hs i hin
      unfold setAt at hsi
      by_cases he : i = 0 ∨ i + 1 = chars.length
      · rw [if_pos he] at hsi
        have hf := hb _ hsi j hjz
        by_cases h2 : i = 0
        · rw [if_pos ⟨h2, hf⟩]; decide
        · rw [if_neg (fun hc => h2 hc.1), if_pos ⟨by omega, hf⟩]; decide
      · rw [if_neg he] at hsi
        have hf := hb' _ hsi j hjz
        rw [if_neg (fun hc => by omega), if_neg (fun hc => by omega), if_pos ⟨by omega, by omega, hf⟩]; decide
  · have hjz' : j = z := by omega
    have hi1 : i + 1 < chars.length := by
      rcases Nat.lt_or_ge (i + 1) chars.length with h1 | h1
      · exact h1
      · have := Nat.mul_le_mul_right (z + 1) h1
        rw [Nat.add_mul] at this
        omega
    refine read_err _ chars.length (i + 1) hnn hi1 ?_
    have hpp : (i + 1) * (z + 1) - 1 = p := by rw [Nat.add_mul]; omega
    have hsp := drawn_sep h (i + 1) hi1 (Nat.succ_pos i)
    rw [hpp] at hsp
    unfold Tw.rdErr
    rw [if_pos ⟨Nat.succ_pos i, by
      rw [hpp]
      unfold turnAt
      rw [hsp, List.getD_eq_getElem?_getD, List.getElem?_set_self hp]; rfl⟩]
    decide
end
end Go.Proofs.YthjlnpcaclfopaaGreat
