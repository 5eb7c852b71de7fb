/-
  Detection: of two accepted strings of one system neither is the other with one character changed, or two different neighbours exchanged, but for the named cases.
  No condition.
-/
import Derived.Test.YtfpliihglgjijaaGreatCdM2
namespace Go.Proofs.YtfpliihglgjijaaGreat.Cd

/-- An accepted string: its data, its check characters. -/
theorem parts (k : Nat) (s : List UInt8) (h1 : 1 ≤ k) (h8 : k ≤ 8) (h : ver k s = 0) : ∃ l, s = l ++ cmp k l ∧ (∀ c ∈ l, datB k (c.toNat : Int) = true) ∧ l ≠ [] ∧ (k = 3 → l.length = 9) ∧ (∀ c ∈ s, chkB k (c.toNat : Int) = true) := by
  obtain ⟨_, hf, hd, hc, he⟩ := (ver_zero_iff k s).1 h
  have hlt := fits_lt k s.length hf
  refine ⟨s.take (s.length - size k), ?_, hd, ?_, ?_, ?_⟩
  · rw [he]; exact (List.take_append_drop _ _).symm
  · intro e
    have : (s.take (s.length - size k)).length = 0 := by rw [e]; rfl
    rw [List.length_take] at this
    omega
  · rintro rfl
    have := fits_isbn _ hf
    rw [List.length_take, this]; rfl
  · intro c hcs
    rw [← List.take_append_drop (s.length - size k) s] at hcs
    rcases List.mem_append.1 hcs with hc' | hc'
    · have := hd c hc'
      unfold datB at this; unfold chkB
      split
      · simp_all
      · split <;> simp_all
    · exact hc c hc'
theorem dig_of {k : Nat} (h7 : k ≠ 7) (h3 : k ≠ 3) (h8 : k ≠ 8) {c : UInt8} (h : chkB k (c.toNat : Int) = true) : 48 ≤ c.toNat ∧ c.toNat ≤ 57 := by
  rw [chkB, if_neg h7, if_neg (by omega)] at h
  simp only [isDig, Bool.and_eq_true, decide_eq_true_eq] at h
  omega
theorem dx_of {k : Nat} (h38 : k = 3 ∨ k = 8) {c : UInt8} (h : chkB k (c.toNat : Int) = true) : isDX c := by
  rw [chkB, if_neg (by omega), if_pos h38] at h
  simp only [isDig, Bool.or_eq_true, Bool.and_eq_true, decide_eq_true_eq, beq_iff_eq] at h
  rcases h with h | h
  · left; omega
  · right; exact UInt8.toNat_inj.1 (by show c.toNat = 88; omega)

/-- The whole string's equation. -/
theorem whole1 (s : List UInt8) (h : ver 1 s = 0) : (gsF s).1 % 10 = 0 := by
  obtain ⟨l, rfl, _⟩ := parts 1 s (by decide) (by decide) h
  simp only [cmp]
  rw [gsF_snoc, dg_chr _ (by omega) (by omega)]
  dsimp only
  omega
theorem whole2 (s : List UInt8) (h : ver 2 s = 0) : (lnF s).1 % 10 = 0 := by
  obtain ⟨l, rfl, _⟩ := parts 2 s (by decide) (by decide) h
  simp only [cmp]
  rw [lnF_snoc, dg_chr _ (by omega) (by omega)]
  dsimp only
  omega
theorem whole3 (s : List UInt8) (h : ver 3 s = 0) : isF s % 11 = 0 ∧ s.length = 10 := by
  obtain ⟨l, rfl, hd, _, h9, _⟩ := parts 3 s (by decide) (by decide) h
  refine ⟨?_, ?_⟩
  · simp only [cmp]
    rw [isF_snoc _ _ (allDig_of' (by decide) hd), vx_chr _ (by omega) (by omega)]
    omega
  · rw [List.length_append, h9 rfl]; rfl
theorem whole4 (s : List UInt8) (h : ver 4 s = 0) : vhF s = 0 := by
  obtain ⟨l, rfl, hd, _, _, hc⟩ := parts 4 s (by decide) (by decide) h
  have hl := allDig_of' (by decide) hd
  have hb := inv_bd _ (vh_bd l hl)
  simp only [cmp] at hc ⊢
  rw [vhF_snoc _ _ hl (dig_of (k := 4) (by decide) (by decide) (by decide) (hc _ (List.mem_append_right _ (List.mem_singleton.2 rfl)))), dg_chr _ (by omega) (by omega)]
  exact dih_inv _ (vh_bd l hl)
theorem whole5 (s : List UInt8) (h : ver 5 s = 0) : dm s = 0 := by
  obtain ⟨l, rfl, hd, _⟩ := parts 5 s (by decide) (by decide) h
  have hb := dm_bd l (allDig_of' (by decide) hd)
  simp only [cmp]
  rw [dmS_app]
  show dmAt (dm l) (dg (chr (dm l))) = 0
  rw [dg_chr _ hb.1 hb.2]
  obtain ⟨a, ha⟩ := fin_of _ hb
  rw [ha]; exact dm_diag a
theorem whole6 (s : List UInt8) (h : ver 6 s = 0) : i97 s = 1 := by
  obtain ⟨l, rfl, hd, _⟩ := parts 6 s (by decide) (by decide) h
  have hb := i97_bd l
  simp only [cmp]
  rw [i9S_app]
  show (10 * ((10 * i97 l + dg (chr ((98 - 100 * i97 l % 97) / 10))) % 97) + dg (chr ((98 - 100 * i97 l % 97) % 10))) % 97 = 1
  rw [dg_chr _ (by omega) (by omega), dg_chr _ (by omega) (by omega)]
  omega
theorem whole8 (s : List UInt8) (h : ver 8 s = 0) : i1S 0 s = 1 := by
  obtain ⟨l, rfl, hd, _⟩ := parts 8 s (by decide) (by decide) h
  have hb := i11_bd l
  simp only [cmp]
  rw [i1S_app _ _ _ (by simp) (allDig_of' (by decide) hd)]
  show (i11 l + vx (chr ((12 - i11 l) % 11))) % 11 = 1
  rw [vx_chr _ (by omega) (by omega)]
  omega
theorem whole7 (s : List UInt8) (h : ver 7 s = 0) : ∃ l d, s = l ++ [d] ∧ 0 ≤ c39 l ∧ plc d = c39 l % 43 ∧ (∀ c ∈ s, 0 ≤ plc c) := by
  obtain ⟨l, rfl, hd, _, _, hc⟩ := parts 7 s (by decide) (by decide) h
  have hb := c39_bd l (plc_of hd)
  have e : ∀ n : Fin 43, plc (syms.getD n.1 48) = (n.1 : Int) := by decide +kernel
  refine ⟨l, _, rfl, hb.1, ?_, fun c hcs => ?_⟩
  · have := e ⟨(c39 l % 43).toNat, by omega⟩
    dsimp only at this
    rw [this]; omega
  · have := hc c hcs; simpa [chkB] using this
theorem plc_inj : ∀ (l : List UInt8) (x y : UInt8), 0 ≤ Lib.indexByte l x → Lib.indexByte l x = Lib.indexByte l y → x = y := by
  intro l
  induction l with
  | nil => intro x y h; simp [Lib.indexByte] at h
  | cons b l ih =>
    intro x y h e
    simp only [Lib.indexByte, beq_iff_eq] at h e
    by_cases hx : b = x
    · by_cases hy : b = y
      · exact hx.symm.trans hy
      · exfalso
        rw [if_pos hx, if_neg hy] at e
        have hg := Lib.indexByte_ge l y
        split at e <;> omega
    · rw [if_neg hx] at h e
      by_cases hxn : Lib.indexByte l x = -1
      · rw [if_pos hxn] at h; omega
      · rw [if_neg hxn] at h e
        have hgx := Lib.indexByte_ge l x
        by_cases hy : b = y
        · rw [if_pos hy] at e; omega
        · rw [if_neg hy] at e
          by_cases hyn : Lib.indexByte l y = -1
          · rw [if_pos hyn] at e; omega
          · rw [if_neg hyn] at e
            exact ih x y (by omega) (by omega)
theorem c39_app (a r : List UInt8) : c39 (a ++ r) = c39 a + c39 r := by
  have h : ∀ (l : List Int) (b : Int), l.foldl (· + ·) b = b + l.foldl (· + ·) 0 := by
    intro l
    induction l with
    | nil => intro b; simp
    | cons x l ih => intro b; simp only [List.foldl_cons]; rw [ih (b + x), ih (0 + x)]; omega
  unfold c39
  rw [List.map_append, List.foldl_append, h]
theorem c39_cons (x : UInt8) (l : List UInt8) : c39 (x :: l) = plc x + c39 l := by
  have := c39_app [x] l
  rw [List.singleton_append] at this
  rw [this]; congr 1
  simp [c39]

/-- ONE CHARACTER CHANGED, not the last one. -/
theorem detects_sub (k : Nat) (a b : List UInt8) (x y : UInt8) (h1 : 1 ≤ k) (h8 : k ≤ 8) (hb : b ≠ []) (hs : ver k (a ++ x :: b) = 0) (ht : ver k (a ++ y :: b) = 0) : x = y := by
  obtain ⟨_, _, hds, _, _, hcs⟩ := parts k _ h1 h8 hs
  obtain ⟨_, _, hdt, _, _, hct⟩ := parts k _ h1 h8 ht
  have cx := hcs x (by simp)
  have cy := hct y (by simp)
  match k, h1, h8 with
  | 1, _, _ => exact gs_sub a b x y (dig_of (k := 1) (by decide) (by decide) (by decide) cx) (dig_of (k := 1) (by decide) (by decide) (by decide) cy) (whole1 _ hs) (whole1 _ ht)
  | 2, _, _ => exact ln_sub a b x y (dig_of (k := 2) (by decide) (by decide) (by decide) cx) (dig_of (k := 2) (by decide) (by decide) (by decide) cy) (whole2 _ hs) (whole2 _ ht)
  | 3, _, _ =>
    obtain ⟨e1, e2⟩ := whole3 _ hs
    rw [List.length_append, List.length_cons] at e2
    exact is_sub a b x y (dx_of (.inl rfl) cx) (dx_of (.inl rfl) cy) (by omega) e1 (whole3 _ ht).1
  | 4, _, _ => exact vh_sub a b x y (fun c hc => dig_of (k := 4) (by decide) (by decide) (by decide) (hcs c hc)) (fun c hc => dig_of (k := 4) (by decide) (by decide) (by decide) (hct c hc)) ((whole4 _ hs).trans (whole4 _ ht).symm)
  | 5, _, _ => exact dm_sub a b x y (fun c hc => dig_of (k := 5) (by decide) (by decide) (by decide) (hcs c hc)) (fun c hc => dig_of (k := 5) (by decide) (by decide) (by decide) (hct c hc)) ((whole5 _ hs).trans (whole5 _ ht).symm)
  | 6, _, _ => exact i9_sub a b x y (dig_of (k := 6) (by decide) (by decide) (by decide) cx) (dig_of (k := 6) (by decide) (by decide) (by decide) cy) ((whole6 _ hs).trans (whole6 _ ht).symm)
  | 7, _, _ =>
    obtain ⟨l, d, el, _, pd, hp⟩ := whole7 _ hs
    obtain ⟨l', d', el', _, pd', hp'⟩ := whole7 _ ht
    obtain ⟨b', e', hb'⟩ : ∃ b' e', b = b' ++ [e'] := ⟨b.dropLast, b.getLast hb, (List.dropLast_concat_getLast hb).symm⟩
    subst hb'
    have u1 : a ++ x :: b' = l ∧ [e'] = [d] := List.append_inj' (by rw [← el]; simp) rfl
    have u2 : a ++ y :: b' = l' ∧ [e'] = [d'] := List.append_inj' (by rw [← el']; simp) rfl
    have ed : d = d' := by have := u1.2.symm.trans u2.2; simpa using this
    rw [← u1.1, c39_app, c39_cons] at pd
    rw [← u2.1, c39_app, c39_cons, ← ed, pd] at pd'
    have px := hp x (by simp)
    have py := hp' y (by simp)
    have bx := plc_bd x
    have by' := plc_bd y
    exact plc_inj syms x y px (by show plc x = plc y; omega)
  | 8, _, _ =>
    obtain ⟨l, el, hd, _⟩ := parts 8 _ (by decide) (by decide) hs
    have hla := allDig_of' (by decide) hd
    have ha : AllDig a := by
      intro c hc
      have hlen : a.length < l.length := by
        have e := congrArg List.length el
        rw [List.length_append, List.length_append, List.length_cons, cmp_size 8 l (by decide) (by decide)] at e
        have : 0 < b.length := List.length_pos_iff.2 hb
        have : size 8 = 1 := rfl
        omega
      have : a = l.take a.length := by
        have := congrArg (List.take a.length) el
        rw [List.take_left, List.take_append_of_le_length (by omega)] at this
        exact this
      rw [this] at hc
      exact hla c (List.mem_of_mem_take hc)
    exact i1_sub a b x y ha hb (dx_of (.inr rfl) cx) (dx_of (.inr rfl) cy) ((whole8 _ hs).trans (whole8 _ ht).symm)

/-- TWO NEIGHBOURS EXCHANGED. -/
theorem detects_swp (k : Nat) (a b : List UInt8) (x y : UInt8) (h1 : 1 ≤ k) (h8 : k ≤ 8) (h7 : k ≠ 7) (hs : ver k (a ++ x :: y :: b) = 0) (ht : ver k (a ++ y :: x :: b) = 0) :
    x = y ∨ (k = 2 ∧ ((dg x = 0 ∧ dg y = 9) ∨ (dg x = 9 ∧ dg y = 0))) ∨ (k = 1 ∧ (dg x - dg y = 5 ∨ dg y - dg x = 5)) := by
  obtain ⟨_, _, hds, _, _, hcs⟩ := parts k _ h1 h8 hs
  obtain ⟨_, _, hdt, _, _, hct⟩ := parts k _ h1 h8 ht
  have cx := hcs x (by simp)
  have cy := hcs y (by simp)
  match k, h1, h8, h7 with
  | 1, _, _, _ =>
    rcases gs_swp a b x y (dig_of (k := 1) (by decide) (by decide) (by decide) cx) (dig_of (k := 1) (by decide) (by decide) (by decide) cy) (whole1 _ hs) (whole1 _ ht) with h | h
    · exact .inl h
    · exact .inr (.inr ⟨rfl, h⟩)
  | 2, _, _, _ =>
    rcases ln_swp a b x y (dig_of (k := 2) (by decide) (by decide) (by decide) cx) (dig_of (k := 2) (by decide) (by decide) (by decide) cy) (whole2 _ hs) (whole2 _ ht) with h | h
    · exact .inl h
    · exact .inr (.inl ⟨rfl, h⟩)
  | 3, _, _, _ => exact .inl (is_swp a b x y (dx_of (.inl rfl) cx) (dx_of (.inl rfl) cy) (whole3 _ hs).1 (whole3 _ ht).1)
  | 4, _, _, _ => exact .inl (vh_swp a b x y (fun c hc => dig_of (k := 4) (by decide) (by decide) (by decide) (hcs c hc)) (fun c hc => dig_of (k := 4) (by decide) (by decide) (by decide) (hct c hc)) ((whole4 _ hs).trans (whole4 _ ht).symm))
  | 5, _, _, _ => exact .inl (dm_swp a b x y (fun c hc => dig_of (k := 5) (by decide) (by decide) (by decide) (hcs c hc)) ((whole5 _ hs).trans (whole5 _ ht).symm))
  | 6, _, _, _ => exact .inl (i9_swp a b x y (dig_of (k := 6) (by decide) (by decide) (by decide) cx) (dig_of (k := 6) (by decide) (by decide) (by decide) cy) ((whole6 _ hs).trans (whole6 _ ht).symm))
  | 8, _, _, _ =>
    obtain ⟨l, el, hd, _⟩ := parts 8 _ (by decide) (by decide) hs
    have hla := allDig_of' (by decide) hd
    have ha : AllDig a := by
      intro c hc
      have hlen : a.length < l.length := by
        have e := congrArg List.length el
        rw [List.length_append, List.length_append, List.length_cons, List.length_cons, cmp_size 8 l (by decide) (by decide)] at e
        have : size 8 = 1 := rfl
        omega
      have : a = l.take a.length := by
        have := congrArg (List.take a.length) el
        rw [List.take_left, List.take_append_of_le_length (by omega)] at this
        exact this
      rw [this] at hc
      exact hla c (List.mem_of_mem_take hc)
    exact .inl (i1_swp a b x y ha (dx_of (.inr rfl) cx) (dx_of (.inr rfl) cy) ((whole8 _ hs).trans (whole8 _ ht).symm))
end Go.Proofs.YtfpliihglgjijaaGreat.Cd
