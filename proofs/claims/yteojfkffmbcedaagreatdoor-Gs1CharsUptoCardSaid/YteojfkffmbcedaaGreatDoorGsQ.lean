/-
  Chapter 14 in plain words: Parse inverts Format, FromChars inverts Chars, and the other way round.
  No condition.
-/
import Derived.Test.YteojfkffmbcedaaGreatDoorGsP
namespace Go.Proofs.YteojfkffmbcedaaGreatDoor
open Go.RowKit

theorem find_cases {l : List UInt8} {r : Gs.Rule} (h : Gs.find l = some r) : ((l, r) ∈ Gs.dir ∧ r.2.2.2 = 0) ∨ ∃ k c, l = k ++ [c] ∧ (k, r) ∈ Gs.dir ∧ r.2.2.2 ≠ 0 ∧ 48 ≤ c.toNat ∧ c.toNat ≤ r.2.2.2.toNat := by
  have key2 : l ≠ [] → ∀ r', Gs.find2 l = some r' → ∃ k c, l = k ++ [c] ∧ (k, r') ∈ Gs.dir ∧ r'.2.2.2 ≠ 0 ∧ 48 ≤ c.toNat ∧ c.toNat ≤ r'.2.2.2.toNat := by
    intro hne r' h'
    unfold Gs.find2 at h'
    split at h'
    · rename_i r1 h1
      split at h'
      · simp at h'
      · rename_i h2
        simp only [Option.some.injEq] at h'
        subst h'
        rw [not_or, not_or] at h2
        obtain ⟨h3, h4, h5⟩ := h2
        refine ⟨l.take (l.length - 1), l.getD (l.length - 1) 0, ?_, get_mem h1, h3, ?_, ?_⟩
        · have e1 : l.dropLast ++ [l.getLast hne] = l := List.dropLast_concat_getLast hne
          have e2 : l.getD (l.length - 1) 0 = l.getLast hne := by
            rw [List.getD_eq_getElem?_getD, List.getLast_eq_getElem, List.getElem?_eq_getElem (by have := List.length_pos_iff.2 hne; omega)]; rfl
          rw [e2, ← List.dropLast_eq_take]; exact e1.symm
        · rw [u8_lt] at h4; have : (48 : UInt8).toNat = 48 := rfl; omega
        · rw [u8_lt] at h5; omega
    · simp at h'
  unfold Gs.find at h
  split at h
  · rename_i r1 h1
    have hne : l ≠ [] := by intro e; rw [e, get_nil] at h1; simp at h1
    split at h
    · rename_i h0
      simp only [Option.some.injEq] at h
      subst h
      exact .inl ⟨get_mem h1, h0⟩
    · exact .inr (key2 hne _ h)
  · split at h
    · simp at h
    · rename_i hne
      exact .inr (key2 hne _ h)

def Gs.sfx : List UInt8 := [48, 49, 50, 51, 52, 53, 54, 55, 56, 57]
theorem sfx_mem (c : UInt8) (h1 : 48 ≤ c.toNat) (h2 : c.toNat ≤ 57) : c ∈ Gs.sfx := by
  have e : c = UInt8.ofNat c.toNat := by simp
  have : c.toNat = 48 ∨ c.toNat = 49 ∨ c.toNat = 50 ∨ c.toNat = 51 ∨ c.toNat = 52 ∨ c.toNat = 53 ∨ c.toNat = 54 ∨ c.toNat = 55 ∨ c.toNat = 56 ∨ c.toNat = 57 := by omega
  rw [e]
  rcases this with h | h | h | h | h | h | h | h | h | h <;> rw [h] <;> decide
def Gs.allAi (P : List UInt8 → Gs.Rule → Bool) : Bool := Gs.dir.all fun p => if p.2.2.2.2 = 0 then P p.1 p.2 else Gs.sfx.all fun c => decide (p.2.2.2.2.toNat < c.toNat) || P (p.1 ++ [c]) p.2
theorem dir_sfx : ∀ p ∈ Gs.dir, p.2.2.2.2.toNat ≤ 57 := by decide +kernel
theorem ai_prop (P : List UInt8 → Gs.Rule → Bool) (hP : Gs.allAi P = true) {l : List UInt8} {r : Gs.Rule} (h : Gs.find l = some r) : P l r = true := by
  unfold Gs.allAi at hP
  rw [List.all_eq_true] at hP
  rcases find_cases h with ⟨h1, h2⟩ | ⟨k, c, rfl, h1, h2, h3, h4⟩
  · have := hP _ h1
    rw [if_pos h2] at this; exact this
  · have := hP _ h1
    rw [if_neg h2, List.all_eq_true] at this
    have h5 := this c (sfx_mem c h3 (Nat.le_trans h4 (dir_sfx _ h1)))
    simp only [Bool.or_eq_true, decide_eq_true_eq] at h5
    rcases h5 with h5 | h5
    · omega
    · exact h5
/-- What all application identifiers keep: two to four digits, none a beginning of another. -/
def Gs.aiOk (l : List UInt8) : Bool := decide (2 ≤ l.length) && decide (l.length ≤ 4) && l.all (fun c => Cd.isDig c.toNat) && (decide (l.length ≤ 2) || (Gs.find (l.take 2)).isNone) && (decide (l.length ≤ 3) || (Gs.find (l.take 3)).isNone)
theorem ai_all : Gs.allAi (fun l _ => Gs.aiOk l) = true := by decide +kernel
theorem ai_ok {l : List UInt8} {r : Gs.Rule} (h : Gs.find l = some r) : 2 ≤ l.length ∧ l.length ≤ 4 ∧ Cd.AllDig l ∧ (2 < l.length → Gs.find (l.take 2) = none) ∧ (3 < l.length → Gs.find (l.take 3) = none) := by
  have := ai_prop _ ai_all h
  unfold Gs.aiOk at this
  simp only [Bool.and_eq_true, Bool.or_eq_true, decide_eq_true_eq, List.all_eq_true, Option.isNone_iff_eq_none] at this
  obtain ⟨⟨⟨⟨h1, h2⟩, h3⟩, h4⟩, h5⟩ := this
  refine ⟨h1, h2, fun c hc => ?_, fun h => h4.resolve_left (by omega), fun h => h5.resolve_left (by omega)⟩
  have := h3 c hc
  simp [Cd.isDig] at this
  omega
theorem ver_find {a d : List UInt8} (h : Gs.ver a d = 0) : ∃ r, Gs.find a = some r ∧ Gs.verR r d = 0 := by
  unfold Gs.ver at h
  split at h
  · simp at h
  · rename_i r hr; exact ⟨r, hr, h⟩
theorem verR_parts {r : Gs.Rule} {d : List UInt8} (h : Gs.verR r d = 0) : r.2.1 ≤ (d.length : Int) ∧ (d.length : Int) ≤ r.2.2.1 ∧ d.all (Gs.okc r.1) = true := by
  unfold Gs.verR at h
  split at h
  · simp at h
  · split at h
    · simp at h
    · rename_i h1 h2
      exact ⟨by omega, by omega, by simpa using h2⟩
theorem okc_not (k : Int) (c : UInt8) (h : Gs.okc k c = true) : c ≠ 40 ∧ c ≠ 41 ∧ c.toNat ≤ 127 := by
  have key : ∀ n : Fin 256, (Cd.isDig ((UInt8.ofNat n.val).toNat) || Gs.charB (UInt8.ofNat n.val)) = true → UInt8.ofNat n.val ≠ 40 ∧ UInt8.ofNat n.val ≠ 41 ∧ (UInt8.ofNat n.val).toNat ≤ 127 := by decide +kernel
  have e : UInt8.ofNat c.toNat = c := by simp
  have := key ⟨c.toNat, UInt8.toNat_lt c⟩
  dsimp only at this
  rw [e] at this
  apply this
  unfold Gs.okc at h
  cases h1 : Cd.isDig c.toNat
  · rw [h1] at h
    simp only [Bool.false_or, Bool.and_eq_true] at h
    rw [h.2]; rfl
  · rfl
theorem ver_data {a d : List UInt8} (h : Gs.ver a d = 0) : ∀ c ∈ d, c ≠ 40 ∧ c ≠ 41 ∧ c.toNat ≤ 127 := by
  obtain ⟨r, _, h2⟩ := ver_find h
  obtain ⟨_, _, h3⟩ := verR_parts h2
  intro c hc
  exact okc_not _ c (List.all_eq_true.1 h3 c hc)
theorem dig_not (l : List UInt8) (h : Cd.AllDig l) : ∀ c ∈ l, c ≠ 40 ∧ c ≠ 41 ∧ c.toNat ≤ 127 := by
  intro c hc
  obtain ⟨h1, h2⟩ := h c hc
  refine ⟨fun e => ?_, fun e => ?_, by omega⟩ <;> (rw [e] at h1; simp at h1)
theorem ver_ai {a d : List UInt8} (h : Gs.ver a d = 0) : ∀ c ∈ a, c ≠ 40 ∧ c ≠ 41 ∧ c.toNat ≤ 127 := by
  obtain ⟨r, h1, _⟩ := ver_find h
  exact dig_not a (ai_ok h1).2.2.1

theorem upto_app (c : UInt8) (a r : List UInt8) (h : ∀ b ∈ a, b ≠ c) (hr : r = [] ∨ ∃ r', r = c :: r') : Gs.upto c (a ++ r) = a := by
  induction a with
  | nil => rcases hr with rfl | ⟨r', rfl⟩ <;> simp [Gs.upto]
  | cons b a ih =>
    have h1 := h b (List.mem_cons_self ..)
    simp only [List.cons_append, Gs.upto, if_neg h1]
    rw [ih (fun x hx => h x (List.mem_cons_of_mem _ hx))]
theorem upto_cut (c : UInt8) (l : List UInt8) : (∀ b ∈ Gs.upto c l, b ≠ c) ∧ ((Gs.upto c l = l) ∨ ∃ r, l = Gs.upto c l ++ c :: r) := by
  induction l with
  | nil => exact ⟨by simp [Gs.upto], .inl rfl⟩
  | cons b l ih =>
    by_cases h : b = c
    · subst h; simp [Gs.upto]
    · simp only [Gs.upto, if_neg h]
      refine ⟨fun x hx => ?_, ?_⟩
      · rcases List.mem_cons.1 hx with rfl | hx
        · exact h
        · exact ih.1 x hx
      · rcases ih.2 with e | ⟨r, e⟩
        · left; rw [e]
        · right; exact ⟨r, by rw [List.cons_append, ← e]⟩
theorem upto_len (c : UInt8) (l : List UInt8) : (Gs.upto c l).length ≤ l.length := by
  rcases (upto_cut c l).2 with e | ⟨r, e⟩
  · rw [e]; exact Nat.le_refl _
  · have := congrArg List.length e
    rw [List.length_append, List.length_cons] at this
    omega
theorem flat_head (xs : List Gs.El) : xs.flatMap Gs.fmtE = [] ∨ ∃ r', xs.flatMap Gs.fmtE = 40 :: r' := by
  cases xs with
  | nil => exact .inl rfl
  | cons x xs => exact .inr ⟨_, rfl⟩

theorem parseF_nil (n : Nat) (acc : List Gs.El) : Gs.parseF n [] acc = (acc, 0) := by cases n <;> rfl
theorem parse_format (xs : List Gs.El) : ∀ (n : Nat) (acc : List Gs.El), Gs.verL xs = 0 → (xs.flatMap Gs.fmtE).length ≤ n → Gs.parseF n (xs.flatMap Gs.fmtE) acc = (acc ++ xs, 0) := by
  induction xs with
  | nil => intro n acc _ _; rw [List.flatMap_nil, parseF_nil, List.append_nil]
  | cons x xs ih =>
    intro n acc hv hn
    obtain ⟨a, d⟩ := x
    unfold Gs.verL at hv
    split at hv
    case isFalse h => exact absurd hv h
    rename_i h0
    dsimp only at h0
    have hc : ((a, d) :: xs).flatMap Gs.fmtE = 40 :: (a ++ 41 :: (d ++ xs.flatMap Gs.fmtE)) := by simp [Gs.fmtE]
    rw [hc] at hn ⊢
    obtain ⟨m, rfl⟩ : ∃ m, n = m + 1 := ⟨n - 1, by simp at hn; omega⟩
    have e1 : Gs.upto 41 (a ++ 41 :: (d ++ xs.flatMap Gs.fmtE)) = a := upto_app 41 a _ (fun b hb => (ver_ai h0 b hb).2.1) (.inr ⟨_, rfl⟩)
    have e2 : Gs.upto 40 (d ++ xs.flatMap Gs.fmtE) = d := upto_app 40 d _ (fun b hb => (ver_data h0 b hb).1) (flat_head xs)
    have e3 : (a ++ 41 :: (d ++ xs.flatMap Gs.fmtE)).drop (a.length + 1) = d ++ xs.flatMap Gs.fmtE := by
      rw [← List.drop_drop, List.drop_left]; rfl
    simp only [Gs.parseF, e1, e3, e2]
    rw [if_neg (by simp), if_neg (by simp), if_neg (by simpa using h0), List.drop_left, ih m _ hv (by simp at hn ⊢; omega), List.append_assoc]; rfl
theorem parse_inv (n : Nat) : ∀ (l : List UInt8) (acc res : List Gs.El), l.length ≤ n → Gs.parseF n l acc = (res, 0) → ∃ xs, res = acc ++ xs ∧ Gs.verL xs = 0 ∧ xs.flatMap Gs.fmtE = l := by
  induction n with
  | zero =>
    intro l acc res hl h
    obtain rfl := List.eq_nil_of_length_eq_zero (by omega : l.length = 0)
    simp only [Gs.parseF, Prod.mk.injEq, and_true] at h
    exact ⟨[], by simp [h], rfl, rfl⟩
  | succ n ih =>
    intro l acc res hl h
    cases l with
    | nil =>
      simp only [Gs.parseF, Prod.mk.injEq, and_true] at h
      exact ⟨[], by simp [h], rfl, rfl⟩
    | cons b r =>
      simp only [Gs.parseF] at h
      split at h
      · simp at h
      · rename_i hb
        split at h
        · simp at h
        · rename_i hlen
          obtain ⟨c1, c2⟩ := upto_cut 41 r
          rcases c2 with c2 | ⟨r2, c2⟩
          · rw [c2] at hlen; exact absurd rfl hlen
          · generalize Gs.upto 41 r = a at *
            have e3 : r.drop (a.length + 1) = r2 := by rw [c2, ← List.drop_drop, List.drop_left]; rfl
            rw [e3] at h
            obtain ⟨d1, d2⟩ := upto_cut 40 r2
            have d3 := upto_len 40 r2
            generalize Gs.upto 40 r2 = d at *
            split at h
            · rename_i hv
              simp only [Prod.mk.injEq] at h
              exact absurd h.2 hv
            · rename_i hv
              have hv : Gs.ver a d = 0 := Decidable.of_not_not hv
              have hrl : r.length = a.length + 1 + r2.length := by rw [c2]; simp; omega
              obtain ⟨xs, x1, x2, x3⟩ := ih (r2.drop d.length) _ res (by simp at hl ⊢; omega) h
              refine ⟨(a, d) :: xs, by rw [x1, List.append_assoc]; rfl, by simp only [Gs.verL]; rw [if_pos hv]; exact x2, ?_⟩
              have hb : b = 40 := Decidable.of_not_not hb
              have hd : d ++ r2.drop d.length = r2 := by
                rcases d2 with d2 | ⟨r3, d2⟩
                · rw [d2]; simp
                · conv => lhs; rw [d2]
                  rw [List.drop_left, ← d2]
              have hc : ((a, d) :: xs).flatMap Gs.fmtE = 40 :: (a ++ 41 :: (d ++ xs.flatMap Gs.fmtE)) := by simp [Gs.fmtE]
              rw [hc, x3, hd, ← c2, hb]
/-- Parse inverts Format. -/
theorem parse_of_format {xs : List Gs.El} {s : List UInt8} (h : Gs.format xs = (s, 0)) : Gs.parse s = (xs, 0) := by
  unfold Gs.format at h
  split at h
  · rename_i h1; simp only [Prod.mk.injEq] at h; exact absurd h.2 h1
  · split at h
    · simp at h
    · rename_i h1 h2
      simp only [Prod.mk.injEq, and_true] at h
      subst h
      have h1 := Decidable.of_not_not h1
      unfold Gs.verAll at h1
      split at h1
      · simp at h1
      · rename_i h3
        unfold Gs.parse
        rw [if_neg h2, if_neg, parse_format xs _ [] h1 (Nat.le_refl _)]; rfl
        cases xs with
        | nil => exact absurd rfl h3
        | cons x xs => simp [Gs.fmtE]
/-- Format inverts Parse. -/
theorem format_of_parse {xs : List Gs.El} {s : List UInt8} (h : Gs.parse s = (xs, 0)) : Gs.format xs = (s, 0) := by
  unfold Gs.parse at h
  split at h
  · simp at h
  · split at h
    · simp at h
    · rename_i h1 h2
      obtain ⟨ys, y1, y2, y3⟩ := parse_inv _ s [] xs (Nat.le_refl _) h
      rw [List.nil_append] at y1
      subst y1
      have hne : xs ≠ [] := fun e => h2 (by rw [← y3, e]; rfl)
      unfold Gs.format Gs.verAll
      rw [if_neg hne, if_neg (by simpa using y2), y3, if_neg h1]
end Go.Proofs.YteojfkffmbcedaaGreatDoor
