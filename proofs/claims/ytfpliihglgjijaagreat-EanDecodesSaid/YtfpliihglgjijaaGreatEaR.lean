/-
  Chapter 11, plain: the laws about texts and rows.
  No condition.
-/
import Derived.Test.YtfpliihglgjijaaGreatEaQ
import Derived.Test.YtfpliihglgjijaaGreatCdM4
namespace Go.Proofs.YtfpliihglgjijaaGreat.Ea

theorem allDig {l : List UInt8} (h : digs l = true) : Cd.AllDig l := digs_iff.1 h
theorem split_last {l : List UInt8} (h : 0 < l.length) : ∃ d, l = l.take (l.length - 1) ++ [d] := by
  refine ⟨l[l.length - 1], ?_⟩
  conv => lhs; rw [← List.take_append_drop (l.length - 1) l]
  congr 1
  rw [List.drop_eq_getElem_cons (by omega), List.drop_of_length_le (by omega)]
/-- The check digit is right. -/
def good (l : List UInt8) : Prop := l = l.take (l.length - 1) ++ [chk (l.take (l.length - 1))]
instance (l : List UInt8) : Decidable (good l) := inferInstanceAs (Decidable (l = _))
theorem ver_good {l : List UInt8} (h : digs l = true) (h2 : 2 ≤ l.length) (h3 : l.length ≤ 4096) : Cd.verI 1 l = 0 ↔ good l := by
  obtain ⟨d, hd⟩ := split_last (l := l) (by omega)
  have hlen : (l.take (l.length - 1)).length = l.length - 1 := by rw [List.length_take]; omega
  rw [show (1 : Int) = ((1 : Nat) : Int) from rfl, Cd.verI_nat 1 l (by omega) (by omega)]
  unfold good
  generalize l.take (l.length - 1) = r at *
  subst hd
  rw [Cd.ver_digits 1 r d (by omega) (by omega) (by omega) (by omega) (allDig h) h3]
  have hf : Cd.fits 1 (r ++ [d]).length = true := by unfold Cd.fits; simp [Cd.size]; simp at h2; omega
  constructor
  · intro h4
    have h5 : Cd.cmp 1 r = [d] := by first | exact h4.2 | exact h4.2.1 | exact h4.2.2
    have h6 : Cd.cmp 1 r = [chk r] := rfl
    rw [← h5, h6]
  · intro h4
    have h5 : [d] = [chk r] := List.append_cancel_left h4
    first | exact ⟨hf, h5.symm⟩ | (refine ⟨hf, ?_⟩; rw [h5]; rfl)
theorem exp7_len {l : List UInt8} (h : l.length = 7) : (exp7 l).length = 11 := by
  unfold exp7; (repeat' split) <;> simp <;> omega
theorem exp7_digs {l : List UInt8} (h : digs l = true) : digs (exp7 l) = true := by
  have hz4 : digs [48, 48, 48, 48] = true := by decide
  have hz5 : digs [48, 48, 48, 48, 48] = true := by decide
  unfold exp7
  (repeat' split) <;> simp only [digs_app]
  · exact ⟨⟨⟨digs_take h _, digs_take (digs_drop h _) _⟩, hz4⟩, digs_take (digs_drop h _) _⟩
  · exact ⟨⟨digs_take h _, hz5⟩, digs_take (digs_drop h _) _⟩
  · exact ⟨⟨digs_take h _, hz5⟩, digs_take (digs_drop h _) _⟩
  · exact ⟨⟨digs_take h _, hz4⟩, digs_take (digs_drop h _) _⟩
theorem exp8_len {l : List UInt8} (h : l.length = 8) : (exp8 l).length = 12 := by
  unfold exp8; rw [List.length_append, exp7_len (by rw [List.length_take]; omega), List.length_drop]; omega
theorem exp8_digs {l : List UInt8} (h : digs l = true) : digs (exp8 l) = true := by
  unfold exp8; rw [digs_app]; exact ⟨exp7_digs (digs_take h _), digs_drop h _⟩
theorem exp8_take {l : List UInt8} (h : l.length = 8) : (exp8 l).take 11 = exp7 (l.take 7) := by
  unfold exp8; exact take_app _ _ _ (exp7_len (by rw [List.length_take]; omega)).symm
theorem exp8_drop {l : List UInt8} (h : l.length = 8) : (exp8 l).drop 11 = l.drop 7 := by
  unfold exp8; exact drop_app _ _ _ (exp7_len (by rw [List.length_take]; omega)).symm
/-- A text with its right check digit, said of the text itself or its expansion. -/
theorem good_of {k : Int} {l : List UInt8} (h1 : size k ≠ 0) (h3 : l.length = size k) : l = l.take (size k - 1) ++ [chkOf k (l.take (size k - 1))] ↔ good (if k = 4 then exp8 l else l) := by
  by_cases h4 : k = 4
  · subst h4
    have e : size 4 = 8 := rfl
    rw [e] at h3 ⊢
    rw [if_pos rfl]
    unfold good chkOf
    rw [if_pos rfl, exp8_len h3, exp8_take h3]
    obtain ⟨d, hd⟩ := split_last (l := l) (by omega)
    rw [h3] at hd
    have hdr : l.drop 7 = [d] := by rw [hd]; exact drop_app _ _ _ (by rw [List.length_take]; omega)
    constructor
    · intro h
      have h5 : [d] = [chk (exp7 (l.take 7))] := List.append_cancel_left (hd.symm.trans h)
      show exp8 l = _
      unfold exp8
      rw [hdr, h5]
    · intro h
      have h5 : [d] = [chk (exp7 (l.take 7))] := by
        unfold exp8 at h
        rw [hdr] at h
        exact List.append_cancel_left h
      show l = _
      rw [← h5]; exact hd
  · rw [if_neg h4]
    unfold good chkOf
    rw [if_neg h4, h3]
/-- One digit changed. -/
theorem good_sub {a b : List UInt8} {x y : UInt8} (hd : digs (a ++ x :: b) = true) (hd' : digs (a ++ y :: b) = true) (h2 : 2 ≤ (a ++ x :: b).length) (h3 : (a ++ x :: b).length ≤ 4096) (h : good (a ++ x :: b)) (h' : good (a ++ y :: b)) : x = y := by
  have e : (a ++ y :: b).length = (a ++ x :: b).length := by simp
  have v1 := (ver_good hd h2 h3).2 h
  have v2 := (ver_good hd' (by omega) (by omega)).2 h'
  rw [show (1 : Int) = ((1 : Nat) : Int) from rfl, Cd.verI_nat 1 _ (by omega) (by omega)] at v1 v2
  exact Cd.gs_sub a b x y (digs_iff.1 hd x (by simp)) (digs_iff.1 hd' y (by simp)) (Cd.whole1 _ v1) (Cd.whole1 _ v2)
theorem set_split {l : List UInt8} {i : Nat} (hi : i < l.length) (y : UInt8) : l = l.take i ++ l[i] :: l.drop (i + 1) ∧ l.set i y = l.take i ++ y :: l.drop (i + 1) :=
  ⟨by rw [← List.drop_eq_getElem_cons hi, List.take_append_drop], List.set_eq_take_append_cons_drop .. |>.trans (by rw [if_pos hi])⟩
/-- A changed digit is reported. -/
theorem detects {k : Int} {l : List UInt8} (hk : k ≠ 4) (h : full k l = 0) {i : Nat} (hi : i < l.length) {y : UInt8} (hy : 48 ≤ y.toNat ∧ y.toNat ≤ 57) (hne : l[i] ≠ y) (a : List UInt8) : enc k (l.set i y) a = ([], 8) := by
  obtain ⟨h1, h2, h3, h4, h5⟩ := full_ok h
  have e3 : (l.set i y).length = size k := by rw [List.length_set, h3]
  have hd : digs (l.set i y) = true := digs_iff.2 fun c hc => by
    rcases List.mem_or_eq_of_mem_set hc with hc | rfl
    · exact digs_iff.1 h2 c hc
    · exact hy
  have hf : full k (l.set i y) = 8 := by
    rw [full_zero h1 hd e3 (fun e => absurd e hk), if_neg]
    intro hg
    have g1 := (good_of h1 h3).1 h5
    have g2 := (good_of h1 e3).1 hg
    rw [if_neg hk] at g1 g2
    obtain ⟨s1, s2⟩ := set_split hi y
    rw [s2] at g2 hd
    have hl2 : 2 ≤ size k ∧ size k ≤ 13 := by rcases kinds h1 with rfl | rfl | rfl | rfl <;> decide
    have g1' : good (l.take i ++ l[i] :: l.drop (i + 1)) := by rw [← s1]; exact g1
    refine hne (good_sub (by rw [← s1]; exact h2) hd ?_ ?_ g1' g2)
    · rw [← s1, h3]; exact hl2.1
    · rw [← s1, h3]; omega
  unfold enc
  rw [hf]; rfl

/-! ### Compression -/
theorem len12 {l : List UInt8} (h : l.length = 12) : ∃ a0 a1 a2 a3 a4 a5 a6 a7 a8 a9 a10 a11, l = [a0, a1, a2, a3, a4, a5, a6, a7, a8, a9, a10, a11] := by
  match l, h with
  | [a0, a1, a2, a3, a4, a5, a6, a7, a8, a9, a10, a11], _ => exact ⟨_, _, _, _, _, _, _, _, _, _, _, _, rfl⟩
theorem len8 {l : List UInt8} (h : l.length = 8) : ∃ a0 a1 a2 a3 a4 a5 a6 a7, l = [a0, a1, a2, a3, a4, a5, a6, a7] := by
  match l, h with
  | [a0, a1, a2, a3, a4, a5, a6, a7], _ => exact ⟨_, _, _, _, _, _, _, _, rfl⟩
theorem cut8_exp {l u : List UInt8} (h : l.length = 12) (hu : cut8 l = some u) : exp8 u = l ∧ u.length = 8 ∧ u.getD 0 0 ≤ 49 := by
  obtain ⟨a0, a1, a2, a3, a4, a5, a6, a7, a8, a9, a10, a11, rfl⟩ := len12 h
  unfold cut8 zer at hu
  split at hu
  · cases hu
  rename_i h0
  replace h0 : a0 ≤ 49 := UInt8.not_lt.1 h0
  clear h
  split at hu
  · rename_i h1
    simp at h1
    obtain ⟨h1, rfl, rfl, rfl, rfl⟩ := h1
    cases hu
    refine ⟨?_, rfl, h0⟩
    unfold exp8 exp7
    simp [h1]
  split at hu
  · rename_i h1 h2
    simp at h2
    obtain ⟨rfl, rfl, rfl, rfl, rfl⟩ := h2
    cases hu
    refine ⟨?_, rfl, h0⟩
    unfold exp8 exp7
    simp
  split at hu
  · rename_i h1 h2 h3
    simp at h3
    obtain ⟨rfl, rfl, rfl, rfl, rfl⟩ := h3
    cases hu
    refine ⟨?_, rfl, h0⟩
    unfold exp8 exp7
    simp
  split at hu
  · rename_i h1 h2 h3 h4
    simp at h4
    obtain ⟨h4, rfl, rfl, rfl, rfl⟩ := h4
    cases hu
    refine ⟨?_, rfl, h0⟩
    have n1 : ¬ a10 ≤ 50 := by rw [UInt8.le_iff_toNat_le]; rw [UInt8.lt_iff_toNat_lt] at h4; have : (52 : UInt8).toNat = 52 := rfl; have : (50 : UInt8).toNat = 50 := rfl; omega
    have n2 : ¬ a10 = 51 := by rintro rfl; revert h4; decide
    have n3 : ¬ a10 = 52 := by rintro rfl; revert h4; decide
    unfold exp8 exp7
    simp [n1, n2, n3]
  · cases hu
theorem cut8_some {s : List UInt8} (h : s.length = 8) (hd : digs s = true) (h0 : s.getD 0 0 ≤ 49) : cut8 (exp8 s) ≠ none := by
  obtain ⟨a0, a1, a2, a3, a4, a5, a6, a7, rfl⟩ := len8 h
  have h0 : a0 ≤ 49 := h0
  have n0 : ¬ 49 < a0 := UInt8.not_lt.2 h0
  unfold exp8 exp7
  simp only [List.take_succ_cons, List.take_zero, List.drop_succ_cons, List.drop_zero, List.getD_cons_succ, List.getD_cons_zero]
  by_cases h1 : a6 ≤ 50
  · rw [if_pos h1]
    unfold cut8 zer
    simp [n0, h1]
  · rw [if_neg h1]
    by_cases h2 : a6 = 51
    · rw [if_pos h2]
      unfold cut8 zer
      simp [n0]
      split <;> simp
    · rw [if_neg h2]
      by_cases h3 : a6 = 52
      · rw [if_pos h3]
        unfold cut8 zer
        simp [n0]
        (repeat' split) <;> simp
      · rw [if_neg h3]
        have n4 : 52 < a6 := by
          rw [UInt8.lt_iff_toNat_lt]
          rw [UInt8.le_iff_toNat_le] at h1
          have e2 : a6.toNat ≠ 51 := fun e => h2 (UInt8.toNat_inj.1 e)
          have e3 : a6.toNat ≠ 52 := fun e => h3 (UInt8.toNat_inj.1 e)
          have : (52 : UInt8).toNat = 52 := rfl
          have : (50 : UInt8).toNat = 50 := rfl
          omega
        unfold cut8 zer
        simp [n0, n4]
        (repeat' split) <;> simp
theorem full_exp {u : List UInt8} (h2 : digs u = true) (h3 : u.length = 8) (h4 : u.getD 0 0 ≤ 49) : full 3 (exp8 u) = full 4 u := by
  rw [full_zero (k := 4) (by decide) h2 h3 (fun _ => h4), full_zero (k := 3) (by decide) (exp8_digs h2) (exp8_len h3) (fun e => absurd e (by decide))]
  have e1 := good_of (k := 4) (l := u) (by decide) h3
  have e2 := good_of (k := 3) (l := exp8 u) (by decide) (exp8_len h3)
  rw [if_pos rfl] at e1
  rw [if_neg (by decide)] at e2
  by_cases hg : good (exp8 u)
  · rw [if_pos (e1.2 hg), if_pos (e2.2 hg)]
  · rw [if_neg (fun h => hg (e1.1 h)), if_neg (fun h => hg (e2.1 h))]
theorem cut8_digs {l u : List UInt8} (h : digs l = true) (hu : cut8 l = some u) : digs u = true := by
  have h1 : digs [51] = true := by decide
  have h2 : digs [52] = true := by decide
  unfold cut8 at hu
  (repeat' split at hu) <;> cases hu <;> simp only [digs_app]
  · exact ⟨⟨⟨digs_take h _, digs_take (digs_drop h _) _⟩, digs_take (digs_drop h _) _⟩, digs_drop h _⟩
  · exact ⟨⟨⟨digs_take h _, digs_take (digs_drop h _) _⟩, h1⟩, digs_drop h _⟩
  · exact ⟨⟨⟨digs_take h _, digs_take (digs_drop h _) _⟩, h2⟩, digs_drop h _⟩
  · exact ⟨⟨digs_take h _, digs_take (digs_drop h _) _⟩, digs_drop h _⟩
/-- Expand restores what Compress was given. -/
theorem expd_cprs {l u : List UInt8} (h : cprs l = (u, 0)) : expd u = (l, 0) ∧ u.length = 8 ∧ l.length = 12 ∧ u.drop 7 = l.drop 11 := by
  unfold cprs at h
  split at h
  · rename_i h1; injection h with h2 h3; exact absurd h3 h1
  rename_i h1
  obtain ⟨_, g2, g3, _, _⟩ := full_ok (by omega : full 3 l = 0)
  have g3 : l.length = 12 := g3
  cases hc : cut8 l with
  | none => rw [hc] at h; injection h with h2 h3; cases h3
  | some v =>
    rw [hc] at h
    injection h with h2 h3
    subst h2
    obtain ⟨e1, e2, e3⟩ := cut8_exp g3 hc
    have hf : full 4 v = 0 := by rw [← full_exp (cut8_digs g2 hc) e2 e3, e1]; omega
    refine ⟨?_, e2, g3, ?_⟩
    · unfold expd
      rw [hf, if_neg (by simp), e1]
    · rw [← e1, exp8_drop e2]
/-- Compress of what Expand returns expands to it again. -/
theorem cprs_expd {s u : List UInt8} (h : expd s = (u, 0)) : ∃ v, cprs u = (v, 0) ∧ expd v = (u, 0) := by
  unfold expd at h
  split at h
  · rename_i h1; injection h with h2 h3; exact absurd h3 h1
  rename_i h1
  injection h with h2 h3
  subst h2
  obtain ⟨_, g2, g3, g4, _⟩ := full_ok (by omega : full 4 s = 0)
  have hf : full 3 (exp8 s) = 0 := by rw [full_exp g2 g3 (g4 rfl)]; omega
  cases hc : cut8 (exp8 s) with
  | none => exact absurd hc (cut8_some g3 g2 (g4 rfl))
  | some v =>
    have h5 : cprs (exp8 s) = (v, 0) := by unfold cprs; rw [hf, if_neg (by simp), hc]
    exact ⟨v, h5, (expd_cprs h5).1⟩
theorem comp_ok {k : Int} {s u : List UInt8} (h : comp k s = (u, 0)) : full k u = 0 ∧ comp k u = (u, 0) ∧ s.length ≤ u.length ∧ u.take s.length = s := by
  unfold comp at h
  split at h
  · injection h with _ h; cases h
  rename_i h2
  split at h
  · injection h with _ h; cases h
  rename_i h3
  have h3 : digs s = true := by simpa using h3
  split at h
  · injection h with _ h; cases h
  rename_i h4
  split at h
  · injection h with _ h; cases h
  rename_i h5
  split at h
  · injection h with _ h; cases h
  rename_i h6
  injection h with h _
  have hn : 8 ≤ size k := by rcases kinds h2 with rfl | rfl | rfl | rfl <;> decide
  have hlt : (s.take (size k - 1)).length = size k - 1 := by rw [List.length_take]; omega
  have hul : u.length = size k := by rw [← h, List.length_append, hlt]; simp; omega
  have hut : u.take (size k - 1) = s.take (size k - 1) := by rw [← h]; exact take_app _ _ _ hlt.symm
  have hc : 48 ≤ (chkOf k (s.take (size k - 1))).toNat ∧ (chkOf k (s.take (size k - 1))).toNat ≤ 57 := by
    have : ∀ l, 48 ≤ (chk l).toNat ∧ (chk l).toNat ≤ 57 := fun l => dig_iff.1 (Cd.chr_ok _ (by omega) (by omega))
    unfold chkOf; split <;> exact this _
  have hud : digs u = true := by
    rw [← h, digs_app]
    exact ⟨digs_take h3 _, digs_iff.2 fun c hc' => by simp at hc'; rw [hc']; exact hc⟩
  have hu0 : u.getD 0 0 = s.getD 0 0 := by
    have a : u.getD 0 0 = (u.take (size k - 1)).getD 0 0 := by rw [List.getD_eq_getElem?_getD, List.getD_eq_getElem?_getD, List.getElem?_take_of_lt (by omega)]
    have b : s.getD 0 0 = (s.take (size k - 1)).getD 0 0 := by rw [List.getD_eq_getElem?_getD, List.getD_eq_getElem?_getD, List.getElem?_take_of_lt (by omega)]
    rw [a, b, hut]
  have h4' : k = 4 → u.getD 0 0 ≤ 49 := fun e => by rw [hu0]; exact UInt8.not_lt.1 fun e2 => h5 ⟨e, e2⟩
  have h5' : u = u.take (size k - 1) ++ [chkOf k (u.take (size k - 1))] := by rw [hut]; exact h.symm
  refine ⟨full_of h2 hud hul h4' h5', ?_, by omega, ?_⟩
  · unfold comp
    rw [if_neg h2, if_neg (by simp [hud]), if_neg (by omega), if_neg (fun hh => UInt8.not_lt.2 (h4' hh.1) hh.2), if_neg (fun hh => hh.2 h5'), ← h5']
  · by_cases e : s.length = size k
    · have hs : s = s.take (size k - 1) ++ [chkOf k (s.take (size k - 1))] := by
        by_cases e2 : s = s.take (size k - 1) ++ [chkOf k (s.take (size k - 1))]
        · exact e2
        · exact absurd ⟨e, e2⟩ h6
      rw [show s.length = u.length by omega, List.take_length, ← h, ← hs]
    · have e : s.length = size k - 1 := by omega
      rw [e, hut, ← e, List.take_length]

/-! ### Rows that are read -/
theorem take_drop_add {α : Type} (s : List α) (a b : Nat) : s.drop a = (s.drop a).take b ++ s.drop (a + b) := by
  conv => lhs; rw [← List.take_append_drop b (s.drop a)]
  rw [List.drop_drop]
theorem us_two : ∀ (l : List Nat) (n : Nat), l.length = n → (∀ u ∈ l, may false 2 u) → l = List.replicate n 2 := by
  intro l n h h2
  rw [List.eq_replicate_iff]
  exact ⟨h, fun u hu => by have := h2 u hu; unfold may at this; rw [if_neg (by simp)] at this; exact this⟩
theorem us_zero : ∀ (l : List Nat) (n : Nat), l.length = n → (∀ u ∈ l, may false 0 u) → l = List.replicate n 0 := by
  intro l n h h2
  rw [List.eq_replicate_iff]
  exact ⟨h, fun u hu => by have := h2 u hu; unfold may at this; rw [if_neg (by simp)] at this; exact this⟩
theorem dv_chr {d : Nat} (h : d < 10) (l : List UInt8) : dv (chr d :: l) 0 = d := by
  unfold dv chr
  rw [List.getD_cons_zero, chr_nat h]; omega
theorem rd13_inv {s l : List Bool} {t : List UInt8} (hs : s.length = 95) (h1 : s.take 3 = gd) (h2 : s.drop 92 = gd) (h : rd13 s = some t) : s = sym13 t ∧ t.length = 13 ∧ digs t = true := by
  unfold rd13 at h
  cases hA : rcg true 0 0 6 (s.drop 3) with
  | none => rw [hA] at h; cases h
  | some p =>
    obtain ⟨l1, u1⟩ := p
    cases hB : rcg false 2 0 6 (s.drop 50) with
    | none => rw [hA, hB] at h; cases h
    | some q =>
      obtain ⟨l2, u2⟩ := q
      rw [hA, hB] at h
      dsimp only at h
      split at h
      · rename_i hm
        cases hF : find13 u1 with
        | none => rw [hF] at h; cases h
        | some d =>
          rw [hF] at h
          cases h
          obtain ⟨f1, f2⟩ := find13_some hF
          obtain ⟨a1, a2, a3, a4, a5⟩ := rcg_inv true 0 (by omega) 6 _ _ _ hA (by rw [List.length_drop]; omega)
          obtain ⟨b1, b2, b3, b4, b5⟩ := rcg_inv false 2 (by omega) 6 _ _ _ hB (by rw [List.length_drop]; omega)
          have hu2 := us_two u2 6 b3 b5
          refine ⟨?_, by simp [a2, b2], digs_cons (by unfold chr; rw [chr_nat f1]; omega) (by rw [digs_app]; exact ⟨a4, b4⟩)⟩
          unfold sym13
          rw [dv_chr f1, ← f2]
          have e1 : ((chr d :: (l1 ++ l2)).drop 1).take 6 = l1 := by rw [List.drop_succ_cons, List.drop_zero]; exact take_app _ _ _ a2.symm
          have e2 : (chr d :: (l1 ++ l2)).drop 7 = l2 := by rw [List.drop_succ_cons]; exact drop_app _ _ _ a2.symm
          rw [e1, e2, show [2, 2, 2, 2, 2, 2] = List.replicate 6 2 from rfl, ← hu2, ← a1, ← b1]
          conv => lhs; rw [← List.take_append_drop 3 s, h1, take_drop_add s 3 42, take_drop_add s 45 5, take_drop_add s 50 42, hm, h2]
          simp only [List.append_assoc]
      · cases h
theorem rd8_inv {s : List Bool} {t : List UInt8} (hs : s.length = 67) (h1 : s.take 3 = gd) (h2 : s.drop 64 = gd) (h : rd8 s = some t) : s = sym8 t ∧ t.length = 8 ∧ digs t = true := by
  unfold rd8 at h
  cases hA : rcg false 0 0 4 (s.drop 3) with
  | none => rw [hA] at h; cases h
  | some p =>
    obtain ⟨l1, u1⟩ := p
    cases hB : rcg false 2 0 4 (s.drop 36) with
    | none => rw [hA, hB] at h; cases h
    | some q =>
      obtain ⟨l2, u2⟩ := q
      rw [hA, hB] at h
      dsimp only at h
      split at h
      · rename_i hm
        cases h
        obtain ⟨a1, a2, a3, a4, a5⟩ := rcg_inv false 0 (by omega) 4 _ _ _ hA (by rw [List.length_drop]; omega)
        obtain ⟨b1, b2, b3, b4, b5⟩ := rcg_inv false 2 (by omega) 4 _ _ _ hB (by rw [List.length_drop]; omega)
        have hu1 := us_zero u1 4 a3 a5
        have hu2 := us_two u2 4 b3 b5
        refine ⟨?_, by simp [a2, b2], by rw [digs_app]; exact ⟨a4, b4⟩⟩
        unfold sym8
        rw [take_app _ _ _ a2.symm, drop_app _ _ _ a2.symm, show [2, 2, 2, 2] = List.replicate 4 2 from rfl, show [0, 0, 0, 0] = List.replicate 4 0 from rfl, ← hu1, ← hu2, ← a1, ← b1]
        conv => lhs; rw [← List.take_append_drop 3 s, h1, take_drop_add s 3 28, take_drop_add s 31 5, take_drop_add s 36 28, hm, h2]
        simp only [List.append_assoc]
      · cases h
theorem rdE_inv {s : List Bool} {t : List UInt8} (hs : s.length = 51) (h1 : s.take 3 = gd) (h2 : s.drop 45 = eE) (h : rdE s = some t) : s = symE t ∧ t.length = 8 ∧ digs t = true ∧ t.getD 0 0 ≤ 49 := by
  unfold rdE at h
  cases hA : rcg true 0 0 6 (s.drop 3) with
  | none => rw [hA] at h; cases h
  | some p =>
    obtain ⟨l1, u1⟩ := p
    rw [hA] at h
    dsimp only at h
    cases hF : findE u1 with
    | none => rw [hF] at h; cases h
    | some p =>
      obtain ⟨y, c⟩ := p
      rw [hF] at h
      cases h
      obtain ⟨f1, f2, f3⟩ := findE_some hF
      obtain ⟨a1, a2, a3, a4, a5⟩ := rcg_inv true 0 (by omega) 6 _ _ _ hA (by rw [List.length_drop]; omega)
      have hc : ∀ d, d < 10 → 48 ≤ (chr d).toNat ∧ (chr d).toNat ≤ 57 := fun d hd => by unfold chr; rw [chr_nat hd]; omega
      refine ⟨?_, by simp [a2], digs_cons (hc y (by omega)) (by rw [digs_app]; exact ⟨a4, digs_cons (hc c f2) rfl⟩), ?_⟩
      · unfold symE
        have e1 : ((chr y :: (l1 ++ [chr c])).drop 1).take 6 = l1 := by rw [List.drop_succ_cons, List.drop_zero]; exact take_app _ _ _ a2.symm
        have e7 : dv (chr y :: (l1 ++ [chr c])) 7 = c := by
          unfold dv
          rw [List.getD_eq_getElem?_getD, List.getElem?_cons_succ, List.getElem?_append_right (by omega), a2]
          show (chr c).toNat - 48 = c
          unfold chr; rw [chr_nat f2]; omega
        rw [e1, e7, dv_chr (by omega), ← f3, ← a1]
        conv => lhs; rw [← List.take_append_drop 3 s, h1, take_drop_add s 3 42, h2]
        simp only [List.append_assoc]
      · show chr y ≤ 49
        rw [UInt8.le_iff_toNat_le]
        unfold chr
        rw [chr_nat (by omega)]
        show 48 + y ≤ 49
        omega
theorem rdSym_inv {n : Nat} {s : List Bool} (hn : n = 95 ∨ n = 67 ∨ n = 51) (hs : s.length = n) (h : (rdSym n s).2 = 0) : full (rdSym n s).1.1 (rdSym n s).1.2 = 0 ∧ sym (rdSym n s).1.1 (rdSym n s).1.2 = s := by
  unfold rdSym at h ⊢
  by_cases h1 : s.take 3 ≠ gd
  · rw [if_pos h1] at h; cases h
  rw [if_neg h1] at h ⊢
  by_cases h2 : s.drop (n - (stp n).length) ≠ stp n
  · rw [if_pos h2] at h; cases h
  rw [if_neg h2] at h ⊢
  have h1 : s.take 3 = gd := by simpa using h1
  have h2 : s.drop (n - (stp n).length) = stp n := by simpa using h2
  cases hr : rdK n s with
  | none => rw [hr] at h; cases h
  | some t =>
    rw [hr] at h
    dsimp only at h ⊢
    by_cases h3 : full (kindOf n) t ≠ 0
    · rw [if_pos h3] at h; cases h
    rw [if_neg h3] at h ⊢
    have h3 : full (kindOf n) t = 0 := by simpa using h3
    rcases hn with rfl | rfl | rfl
    · obtain ⟨e1, e2, e3⟩ := rd13_inv (l := []) hs h1 h2 hr
      by_cases h4 : t.getD 0 0 = 48
      · rw [if_pos ⟨rfl, h4⟩]
        dsimp only
        have ht : t = 48 :: t.drop 1 := by
          match t, e2, h4 with
          | c :: r, _, h4 => simp at h4; subst h4; rfl
        have hsym : sym 3 (t.drop 1) = s := by show sym13 (48 :: t.drop 1) = s; rw [← ht, e1]
        refine ⟨?_, hsym⟩
        obtain ⟨g1, g2, g3, g4, g5⟩ := full_ok h3
        have hl : (t.drop 1).length = 12 := by rw [List.length_drop, e2]
        refine full_of (by decide) (digs_drop g2 1) hl (fun e => absurd e (by decide)) ?_
        have e5 : size 1 - 1 = 12 := rfl
        have e6 : size 3 - 1 = 11 := rfl
        have e7 : kindOf 95 = 1 := rfl
        rw [e7, e5] at g5
        rw [e6]
        have g6 : chkOf 1 (t.take 12) = chkOf 3 ((t.drop 1).take 11) := by
          unfold chkOf
          rw [if_neg (by decide), if_neg (by decide)]
          conv => lhs; rw [ht]
          rw [List.take_succ_cons, chk_zero]
        rw [g6] at g5
        conv => lhs; rw [g5]
        conv => lhs; rw [ht]
        rw [List.take_succ_cons, List.cons_append]; rfl
      · rw [if_neg (fun hh => h4 hh.2)]
        exact ⟨h3, e1.symm⟩
    · obtain ⟨e1, e2, e3⟩ := rd8_inv hs h1 h2 hr
      rw [if_neg (fun hh => absurd hh.1 (by decide))]
      exact ⟨h3, e1.symm⟩
    · obtain ⟨e1, e2, e3, e4⟩ := rdE_inv hs h1 h2 hr
      rw [if_neg (fun hh => absurd hh.1 (by decide))]
      exact ⟨h3, e1.symm⟩
theorem decF_inv {s : List Bool} : ∀ (l : List (Nat × Nat)) (e : Int), e ≠ 0 → (∀ p ∈ l, fits s p.1 p.2 = true → (rdShape s p.1 p.2).2 = 0 → True) → (decF s e l).2 = 0 → ∃ p ∈ l, fits s p.1 p.2 = true ∧ (rdShape s p.1 p.2).2 = 0 ∧ decF s e l = rdShape s p.1 p.2 := by
  intro l
  induction l with
  | nil => intro e he _ h; exact absurd h he
  | cons p l ih =>
    intro e he hp h
    obtain ⟨n, a⟩ := p
    rw [decF] at h ⊢
    by_cases h1 : fits s n a = false
    · rw [if_pos h1] at h ⊢
      obtain ⟨q, q1, q2⟩ := ih e he (fun _ _ _ _ => trivial) h
      exact ⟨q, List.mem_cons_of_mem _ q1, q2⟩
    · rw [if_neg h1] at h ⊢
      by_cases h2 : (rdShape s n a).2 = 0
      · rw [if_pos h2]
        exact ⟨(n, a), List.mem_cons_self .., by simpa using h1, h2, rfl⟩
      · rw [if_neg h2] at h ⊢
        obtain ⟨q, q1, q2⟩ := ih _ (by split <;> assumption) (fun _ _ _ _ => trivial) h
        exact ⟨q, List.mem_cons_of_mem _ q1, q2⟩
/-- The modules from the first to the last dark one. -/
def trim (s : List Bool) : List Bool := (s.drop (ldg s)).take (s.length - trl s - ldg s)
theorem trim_mid (L R : Nat) (m : List Bool) (h1 : m.head? = some true) (h2 : m.getLast? = some true) : trim (lgt L ++ m ++ lgt R) = m := by
  obtain ⟨r, rfl⟩ : ∃ r, m = true :: r := by cases m with
    | nil => cases h1
    | cons b r => simp at h1; exact ⟨r, by rw [h1]⟩
  obtain ⟨q, hq⟩ := List.getLast?_eq_some_iff.1 h2
  have e1 : ldg (lgt L ++ (true :: r) ++ lgt R) = L := by rw [List.append_assoc, List.cons_append]; exact ldg_lgt _ _
  have e2 : trl (lgt L ++ (true :: r) ++ lgt R) = R := by rw [hq, ← List.append_assoc (lgt L) q [true]]; exact trl_lgt _ _
  have e3 : (lgt L ++ (true :: r) ++ lgt R).length = L + (true :: r).length + R := by rw [List.length_append, List.length_append, lgt_len, lgt_len]
  unfold trim
  rw [e1, e2, e3, List.append_assoc, drop_app _ _ L (lgt_len _).symm, take_app _ _ _ (by omega)]
theorem dec_ok {s : List Bool} (h : (dec s).2 = 0) : dec s = decF (trim s) 7 shapes := by
  unfold dec at h ⊢
  split
  · rename_i h1; rw [if_pos h1] at h; cases h
  rename_i h1
  rw [if_neg h1] at h
  split
  · rename_i h2; rw [if_pos h2] at h; cases h
  rename_i h2
  rw [if_neg h2] at h
  split
  · rename_i h3; rw [if_pos h3] at h; cases h
  rfl
theorem rdAdd_ok {n : Nat} {s : List Bool} (hn : n = 2 ∨ n = 5) (h : (rdAdd n s).2 = 0) : (rdAdd n s).1.length = n := by
  have key : ∀ (gap m : Nat) (s : List Bool) (l : List UInt8) (u : List Nat), rcg true 0 gap m s = some (l, u) → l.length = m := by
    intro gap m
    induction m with
    | zero => intro s l u h; cases h; rfl
    | succ m ih =>
      intro s l u h
      rw [rcg] at h
      cases h1 : look true 0 (s.take 7) with
      | none => rw [h1] at h; cases h
      | some p =>
        rw [h1] at h
        dsimp only at h
        cases h2 : rcg true 0 gap m (s.drop (7 + gap)) with
        | none => rw [h2] at h; cases h
        | some q =>
          rw [h2] at h
          cases h
          simp [ih _ _ _ h2]
  unfold rdAdd at h ⊢
  split
  · rename_i h1; rw [if_pos h1] at h; cases h
  rename_i h1
  rw [if_neg h1] at h
  split
  · rename_i h2; rw [if_pos h2] at h; cases h
  rename_i h2
  rw [if_neg h2] at h
  cases h3 : rcg true 0 2 n (s.drop 4) with
  | none => rw [h3] at h; cases h
  | some p =>
    obtain ⟨l, u⟩ := p
    rw [h3] at h
    dsimp only at h ⊢
    split
    · rename_i h4; rw [if_pos h4] at h; cases h
    · exact key _ _ _ _ _ h3
theorem dec_err {s : List Bool} (h : (dec s).2 ≠ 0) : (dec s).1 = (0, [], []) := by
  have key : ∀ (l : List (Nat × Nat)) (t : List Bool) (e : Int), (decF t e l).2 ≠ 0 → (decF t e l).1 = (0, [], []) := by
    intro l t
    induction l with
    | nil => intro e _; rfl
    | cons p l ih =>
      obtain ⟨n, a⟩ := p
      intro e h
      rw [decF] at h ⊢
      split
      · rename_i h1; rw [if_pos h1] at h; exact ih _ h
      · rename_i h1
        rw [if_neg h1] at h
        split
        · rename_i h2; rw [if_pos h2] at h; exact absurd h2 h
        · rename_i h2; rw [if_neg h2] at h; exact ih _ h
  unfold dec at h ⊢
  split
  · rfl
  rename_i h1
  rw [if_neg h1] at h
  split
  · rfl
  rename_i h2
  rw [if_neg h2] at h
  split
  · rfl
  rename_i h3
  rw [if_neg h3] at h
  exact key _ _ _ h
/-- A row that is read without an add-on. -/
theorem canonical {s : List Bool} (h : (dec s).2 = 0) : (((dec s).1.2.2).length = 0 ∨ ((dec s).1.2.2).length = 2 ∨ ((dec s).1.2.2).length = 5) ∧
    ((dec s).1.2.2 = [] → (enc (dec s).1.1 (dec s).1.2.1 []).2 = 0 ∧ trim (enc (dec s).1.1 (dec s).1.2.1 []).1 = trim s) := by
  have h1 := dec_ok h
  rw [h1] at h ⊢
  obtain ⟨⟨n, a⟩, p1, p2, p3, p4⟩ := decF_inv shapes 7 (by decide) (fun _ _ _ _ => trivial) h
  rw [p4]
  dsimp only at p2 p3 p4 ⊢
  have hna : (n = 95 ∨ n = 67 ∨ n = 51) ∧ (a = 0 ∨ a = 2 ∨ a = 5) := by
    unfold shapes at p1
    simp at p1
    omega
  have hfl := fits_len p2
  unfold rdShape at p3 ⊢
  by_cases e1 : (rdSym n ((trim s).take n)).2 ≠ 0
  · rw [if_pos e1] at p3; exact absurd p3 e1
  rw [if_neg e1] at p3 ⊢
  by_cases e2 : a = 0
  · rw [if_pos e2]
    dsimp only
    rw [if_pos e2] at hfl
    refine ⟨.inl rfl, fun _ => ?_⟩
    have hT : (trim s).take n = trim s := List.take_of_length_le (by omega)
    rw [hT] at e1 ⊢
    obtain ⟨f1, f2⟩ := rdSym_inv hna.1 hfl (by omega)
    have he : enc (rdSym n (trim s)).1.1 (rdSym n (trim s)).1.2 [] = (lgt (lq (rdSym n (trim s)).1.1) ++ sym (rdSym n (trim s)).1.1 (rdSym n (trim s)).1.2 ++ lgt (rq (rdSym n (trim s)).1.1), 0) := by
      unfold enc
      rw [if_neg (by simp [f1]), if_neg (by decide), if_neg (by simp)]
      simp only [List.length_nil, if_true]
    rw [he]
    refine ⟨rfl, ?_⟩
    dsimp only
    rw [trim_mid _ _ _ (sym_head _ _) (sym_last _ _), f2]
  · rw [if_neg e2] at p3 ⊢
    by_cases e3 : (rdAdd a ((trim s).drop ((trim s).length - wAdd a))).2 ≠ 0
    · rw [if_pos e3] at p3; exact absurd p3 e3
    · rw [if_neg e3]
      have ha : a = 2 ∨ a = 5 := by omega
      have hl := rdAdd_ok ha (by omega : (rdAdd a ((trim s).drop ((trim s).length - wAdd a))).2 = 0)
      dsimp only
      refine ⟨.inr (by omega), fun hh => ?_⟩
      rw [hh] at hl
      simp at hl
      omega
end Go.Proofs.YtfpliihglgjijaaGreat.Ea
