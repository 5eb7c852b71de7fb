/-
  Chapter 11, plain: how the two texts look for the UPC-E text.
  No condition.
-/
import Derived.Test.YtfpliihglgjijaaGreatEaR
namespace Go.Proofs.YtfpliihglgjijaaGreat.Ea

/-- The reference's seven digits with the last digit f. -/
def try7 (l : List UInt8) (f : UInt8) : List UInt8 :=
  if f = 51 then l.take 4 ++ (l.drop 9).take 2 ++ [f] else if f = 52 then l.take 5 ++ (l.drop 10).take 1 ++ [f] else if 52 < f then l.take 6 ++ [f] else l.take 3 ++ (l.drop 8).take 3 ++ [f]
def tryF (l : List UInt8) (f : UInt8) : Option (List UInt8) := if (try7 l f).getD 0 0 ≤ 49 ∧ exp7 (try7 l f) = l.take 11 then some (try7 l f ++ l.drop 11) else none
/-- The first of the digits from f on. -/
def tryN (l : List UInt8) : Nat → UInt8 → Option (List UInt8)
  | 0, _ => none
  | n + 1, f => match tryF l f with
    | some r => some r
    | none => tryN l n (f + 1)
theorem u8_cases {c : UInt8} (h : 48 ≤ c.toNat ∧ c.toNat ≤ 57) : c = 48 ∨ c = 49 ∨ c = 50 ∨ c = 51 ∨ c = 52 ∨ c = 53 ∨ c = 54 ∨ c = 55 ∨ c = 56 ∨ c = 57 := by
  have h1 : c.toNat = 48 ∨ c.toNat = 49 ∨ c.toNat = 50 ∨ c.toNat = 51 ∨ c.toNat = 52 ∨ c.toNat = 53 ∨ c.toNat = 54 ∨ c.toNat = 55 ∨ c.toNat = 56 ∨ c.toNat = 57 := by omega
  rcases h1 with h1 | h1 | h1 | h1 | h1 | h1 | h1 | h1 | h1 | h1
  · exact .inl (UInt8.toNat_inj.1 h1)
  · exact .inr (.inl (UInt8.toNat_inj.1 h1))
  · exact .inr (.inr (.inl (UInt8.toNat_inj.1 h1)))
  · exact .inr (.inr (.inr (.inl (UInt8.toNat_inj.1 h1))))
  · exact .inr (.inr (.inr (.inr (.inl (UInt8.toNat_inj.1 h1)))))
  · exact .inr (.inr (.inr (.inr (.inr (.inl (UInt8.toNat_inj.1 h1))))))
  · exact .inr (.inr (.inr (.inr (.inr (.inr (.inl (UInt8.toNat_inj.1 h1)))))))
  · exact .inr (.inr (.inr (.inr (.inr (.inr (.inr (.inl (UInt8.toNat_inj.1 h1))))))))
  · exact .inr (.inr (.inr (.inr (.inr (.inr (.inr (.inr (.inl (UInt8.toNat_inj.1 h1)))))))))
  · exact .inr (.inr (.inr (.inr (.inr (.inr (.inr (.inr (.inr (UInt8.toNat_inj.1 h1)))))))))
section
variable {a0 a1 a2 a3 a4 a5 a6 a7 a8 a9 a10 a11 : UInt8}
theorem tryF_lo (f : UInt8) (hf : f = 48 ∨ f = 49 ∨ f = 50) (h0 : a0 ≤ 49) : tryF [a0, a1, a2, a3, a4, a5, a6, a7, a8, a9, a10, a11] f = if a3 = f ∧ a4 = 48 ∧ a5 = 48 ∧ a6 = 48 ∧ a7 = 48 then some [a0, a1, a2, a8, a9, a10, f, a11] else none := by
  unfold tryF try7 exp7
  rcases hf with rfl | rfl | rfl <;> simp [h0] <;> simp only [eq_comm (a := (48 : UInt8)), eq_comm (a := (49 : UInt8)), eq_comm (a := (50 : UInt8)), eq_comm (a := (51 : UInt8)), eq_comm (a := (52 : UInt8)), eq_comm (a := (53 : UInt8)), eq_comm (a := (54 : UInt8)), eq_comm (a := (55 : UInt8)), eq_comm (a := (56 : UInt8)), eq_comm (a := (57 : UInt8))]
theorem tryF_51 (h0 : a0 ≤ 49) : tryF [a0, a1, a2, a3, a4, a5, a6, a7, a8, a9, a10, a11] 51 = if a4 = 48 ∧ a5 = 48 ∧ a6 = 48 ∧ a7 = 48 ∧ a8 = 48 then some [a0, a1, a2, a3, a9, a10, 51, a11] else none := by
  unfold tryF try7 exp7
  simp [h0] <;> simp only [eq_comm (a := (48 : UInt8)), eq_comm (a := (49 : UInt8)), eq_comm (a := (50 : UInt8)), eq_comm (a := (51 : UInt8)), eq_comm (a := (52 : UInt8)), eq_comm (a := (53 : UInt8)), eq_comm (a := (54 : UInt8)), eq_comm (a := (55 : UInt8)), eq_comm (a := (56 : UInt8)), eq_comm (a := (57 : UInt8))]
theorem tryF_52 (h0 : a0 ≤ 49) : tryF [a0, a1, a2, a3, a4, a5, a6, a7, a8, a9, a10, a11] 52 = if a5 = 48 ∧ a6 = 48 ∧ a7 = 48 ∧ a8 = 48 ∧ a9 = 48 then some [a0, a1, a2, a3, a4, a10, 52, a11] else none := by
  unfold tryF try7 exp7
  simp [h0] <;> simp only [eq_comm (a := (48 : UInt8)), eq_comm (a := (49 : UInt8)), eq_comm (a := (50 : UInt8)), eq_comm (a := (51 : UInt8)), eq_comm (a := (52 : UInt8)), eq_comm (a := (53 : UInt8)), eq_comm (a := (54 : UInt8)), eq_comm (a := (55 : UInt8)), eq_comm (a := (56 : UInt8)), eq_comm (a := (57 : UInt8))]
theorem tryF_hi (f : UInt8) (hf : f = 53 ∨ f = 54 ∨ f = 55 ∨ f = 56 ∨ f = 57) (h0 : a0 ≤ 49) : tryF [a0, a1, a2, a3, a4, a5, a6, a7, a8, a9, a10, a11] f = if a6 = 48 ∧ a7 = 48 ∧ a8 = 48 ∧ a9 = 48 ∧ a10 = f then some [a0, a1, a2, a3, a4, a5, f, a11] else none := by
  unfold tryF try7 exp7
  rcases hf with rfl | rfl | rfl | rfl | rfl <;> simp [h0] <;> simp only [eq_comm (a := (48 : UInt8)), eq_comm (a := (49 : UInt8)), eq_comm (a := (50 : UInt8)), eq_comm (a := (51 : UInt8)), eq_comm (a := (52 : UInt8)), eq_comm (a := (53 : UInt8)), eq_comm (a := (54 : UInt8)), eq_comm (a := (55 : UInt8)), eq_comm (a := (56 : UInt8)), eq_comm (a := (57 : UInt8))]
end
theorem try7_head (l : List UInt8) (f : UInt8) (h : l.length = 12) : (try7 l f).getD 0 0 = l.getD 0 0 := by
  obtain ⟨a0, a1, a2, a3, a4, a5, a6, a7, a8, a9, a10, a11, rfl⟩ := len12 h
  unfold try7; (repeat' split) <;> rfl
theorem try_cut {l : List UInt8} (h : l.length = 12) (hd : digs l = true) : tryN l 10 48 = cut8 l := by
  by_cases h0 : 49 < l.getD 0 0
  · have key : ∀ n f, tryN l n f = none := by
      intro n
      induction n with
      | zero => intro f; rfl
      | succ n ih =>
        intro f
        have : tryF l f = none := by unfold tryF; rw [try7_head l f h, if_neg (fun hh => UInt8.not_lt.2 hh.1 h0)]
        rw [tryN, this]; exact ih _
    rw [key]; unfold cut8; rw [if_pos h0]
  · obtain ⟨a0, a1, a2, a3, a4, a5, a6, a7, a8, a9, a10, a11, rfl⟩ := len12 h
    have h0' : a0 ≤ 49 := UInt8.not_lt.1 h0
    have d3 := u8_cases (digs_iff.1 hd a3 (by simp))
    have d10 := u8_cases (digs_iff.1 hd a10 (by simp))
    have n0 : ¬ 49 < a0 := h0
    unfold cut8 zer
    simp only [tryN, show (48 : UInt8) + 1 = 49 by rfl, show (49 : UInt8) + 1 = 50 by rfl, show (50 : UInt8) + 1 = 51 by rfl, show (51 : UInt8) + 1 = 52 by rfl, show (52 : UInt8) + 1 = 53 by rfl, show (53 : UInt8) + 1 = 54 by rfl, show (54 : UInt8) + 1 = 55 by rfl, show (55 : UInt8) + 1 = 56 by rfl, show (56 : UInt8) + 1 = 57 by rfl]
    rw [tryF_lo 48 (by simp) h0', tryF_lo 49 (by simp) h0', tryF_lo 50 (by simp) h0', tryF_51 h0', tryF_52 h0', tryF_hi 53 (by simp) h0', tryF_hi 54 (by simp) h0', tryF_hi 55 (by simp) h0', tryF_hi 56 (by simp) h0', tryF_hi 57 (by simp) h0']
    simp only [List.getD_cons_zero, List.getD_cons_succ, n0, if_false, List.drop_succ_cons, List.drop_zero, List.take_succ_cons, List.take_zero, List.all_cons, List.all_nil, Bool.and_true, Bool.and_eq_true, beq_iff_eq, Nat.reduceSub]
    by_cases c1 : a4 = 48 ∧ a5 = 48 ∧ a6 = 48 ∧ a7 = 48
    · obtain ⟨rfl, rfl, rfl, rfl⟩ := c1
      by_cases c2 : a8 = 48
      · subst c2
        rcases d3 with rfl | rfl | rfl | rfl | rfl | rfl | rfl | rfl | rfl | rfl <;> simp
      · rcases d3 with rfl | rfl | rfl | rfl | rfl | rfl | rfl | rfl | rfl | rfl <;> simp [c2]
    · have c1' : ¬ (a4 = 48 ∧ a5 = 48 ∧ a6 = 48 ∧ a7 = 48 ∧ a8 = 48) := fun hh => c1 ⟨hh.1, hh.2.1, hh.2.2.1, hh.2.2.2.1⟩
      have c1'' : ∀ p : Prop, ¬ (p ∧ a4 = 48 ∧ a5 = 48 ∧ a6 = 48 ∧ a7 = 48) := fun p hh => c1 hh.2
      simp only [c1', c1'', if_false]
      by_cases c3 : a5 = 48 ∧ a6 = 48 ∧ a7 = 48 ∧ a8 = 48 ∧ a9 = 48
      · simp only [c3, and_self, if_true]; rfl
      · simp only [c3, if_false]
        by_cases c4 : a6 = 48 ∧ a7 = 48 ∧ a8 = 48 ∧ a9 = 48
        · obtain ⟨rfl, rfl, rfl, rfl⟩ := c4
          rcases d10 with rfl | rfl | rfl | rfl | rfl | rfl | rfl | rfl | rfl | rfl <;> simp <;> decide
        · have c4' : ∀ f, ¬ (a6 = 48 ∧ a7 = 48 ∧ a8 = 48 ∧ a9 = 48 ∧ a10 = f) := fun f hh => c4 ⟨hh.1, hh.2.1, hh.2.2.1, hh.2.2.2.1⟩
          have c4'' : ∀ p : Prop, ¬ (p ∧ a6 = 48 ∧ a7 = 48 ∧ a8 = 48 ∧ a9 = 48) := fun p hh => c4 hh.2
          simp only [c4', c4'', if_false]

/-! ### The program's four candidates -/
def cand (l : List UInt8) (i : Nat) : List UInt8 :=
  if i = 0 then l.take 3 ++ (l.drop 8).take 3 ++ (l.drop 3).take 1 ++ l.drop 11
  else if i = 1 then l.take 4 ++ (l.drop 9).take 2 ++ [51] ++ l.drop 11
  else if i = 2 then l.take 5 ++ (l.drop 10).take 1 ++ [52] ++ l.drop 11
  else l.take 6 ++ (l.drop 10).take 1 ++ l.drop 11
def lineN (c : UInt8) : Nat := if c ≤ 50 then 0 else if c = 51 then 1 else if c = 52 then 2 else 3
def okC (l : List UInt8) (i : Nat) : Bool := lineN ((cand l i).getD 6 0) == i && exp8 (cand l i) == l
theorem cand_len {l : List UInt8} (h : l.length = 12) (i : Nat) : (cand l i).length = 8 := by
  unfold cand; (repeat' split) <;> simp <;> omega
theorem cut_cand {l : List UInt8} (h : l.length = 12) (h0 : l.getD 0 0 ≤ 49) (hd : digs l = true) :
    cut8 l = if okC l 0 = true then some (cand l 0) else if okC l 1 = true then some (cand l 1) else if okC l 2 = true then some (cand l 2) else if okC l 3 = true then some (cand l 3) else none := by
  obtain ⟨a0, a1, a2, a3, a4, a5, a6, a7, a8, a9, a10, a11, rfl⟩ := len12 h
  have d3 := u8_cases (digs_iff.1 hd a3 (by simp))
  have d10 := u8_cases (digs_iff.1 hd a10 (by simp))
  have n0 : ¬ 49 < a0 := UInt8.not_lt.2 h0
  have k0 : okC [a0, a1, a2, a3, a4, a5, a6, a7, a8, a9, a10, a11] 0 = true ↔ a3 ≤ 50 ∧ a4 = 48 ∧ a5 = 48 ∧ a6 = 48 ∧ a7 = 48 := by
    unfold okC cand lineN exp8 exp7
    rcases d3 with rfl | rfl | rfl | rfl | rfl | rfl | rfl | rfl | rfl | rfl <;> simp <;> simp only [eq_comm (a := (48 : UInt8)), eq_comm (a := (49 : UInt8)), eq_comm (a := (50 : UInt8)), eq_comm (a := (51 : UInt8)), eq_comm (a := (52 : UInt8)), eq_comm (a := (53 : UInt8)), eq_comm (a := (54 : UInt8)), eq_comm (a := (55 : UInt8)), eq_comm (a := (56 : UInt8)), eq_comm (a := (57 : UInt8))]
  have k1 : okC [a0, a1, a2, a3, a4, a5, a6, a7, a8, a9, a10, a11] 1 = true ↔ a4 = 48 ∧ a5 = 48 ∧ a6 = 48 ∧ a7 = 48 ∧ a8 = 48 := by
    unfold okC cand lineN exp8 exp7
    simp <;> simp only [eq_comm (a := (48 : UInt8)), eq_comm (a := (49 : UInt8)), eq_comm (a := (50 : UInt8)), eq_comm (a := (51 : UInt8)), eq_comm (a := (52 : UInt8)), eq_comm (a := (53 : UInt8)), eq_comm (a := (54 : UInt8)), eq_comm (a := (55 : UInt8)), eq_comm (a := (56 : UInt8)), eq_comm (a := (57 : UInt8))]
  have k2 : okC [a0, a1, a2, a3, a4, a5, a6, a7, a8, a9, a10, a11] 2 = true ↔ a5 = 48 ∧ a6 = 48 ∧ a7 = 48 ∧ a8 = 48 ∧ a9 = 48 := by
    unfold okC cand lineN exp8 exp7
    simp <;> simp only [eq_comm (a := (48 : UInt8)), eq_comm (a := (49 : UInt8)), eq_comm (a := (50 : UInt8)), eq_comm (a := (51 : UInt8)), eq_comm (a := (52 : UInt8)), eq_comm (a := (53 : UInt8)), eq_comm (a := (54 : UInt8)), eq_comm (a := (55 : UInt8)), eq_comm (a := (56 : UInt8)), eq_comm (a := (57 : UInt8))]
  have k3 : okC [a0, a1, a2, a3, a4, a5, a6, a7, a8, a9, a10, a11] 3 = true ↔ 52 < a10 ∧ a6 = 48 ∧ a7 = 48 ∧ a8 = 48 ∧ a9 = 48 := by
    unfold okC cand lineN exp8 exp7
    rcases d10 with rfl | rfl | rfl | rfl | rfl | rfl | rfl | rfl | rfl | rfl <;> simp <;> simp only [eq_comm (a := (48 : UInt8)), eq_comm (a := (49 : UInt8)), eq_comm (a := (50 : UInt8)), eq_comm (a := (51 : UInt8)), eq_comm (a := (52 : UInt8)), eq_comm (a := (53 : UInt8)), eq_comm (a := (54 : UInt8)), eq_comm (a := (55 : UInt8)), eq_comm (a := (56 : UInt8)), eq_comm (a := (57 : UInt8))]
  unfold cut8 zer cand
  simp only [k0, k1, k2, k3]
  simp only [List.getD_cons_zero, List.getD_cons_succ, n0, if_false, List.drop_succ_cons, List.drop_zero, List.take_succ_cons, List.take_zero, List.all_cons, List.all_nil, Bool.and_true, Bool.and_eq_true, beq_iff_eq, Nat.reduceSub]
  rfl
end Go.Proofs.YtfpliihglgjijaaGreat.Ea
