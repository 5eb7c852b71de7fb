/-
  Chapter 11: readLong and readShort, walked.
  Condition: a string of 95 or 67 modules.
-/
import Derived.Test.YtfpliihglgjijaaGreatEaWF
namespace Go.Proofs.YtfpliihglgjijaaGreat
set_option linter.unusedVariables false
open Go.RowKit

/-- What a symbol contains. -/
def linV (k : Int) (t a : List UInt8) : Value := .agg #[.int .i64 k, .string (Ea.bS t), .string (Ea.bS a)]
def symV (r : (Int × List UInt8) × Int) : Value := .tuple #[linV r.1.1 r.1.2 [], .int .i64 r.2]
theorem halv_ok {both : Bool} {n : Nat} {sl : List Bool} {l : List UInt8} {u : List Nat} (h : halv both 0 n sl = ((l, u), 0)) (hl : 14 * n + 8 ≤ sl.length) : Ea.digs l = true ∧ l.length = 2 * n ∧ (∀ x ∈ u, x < 3) ∧ u.length = n := by
  unfold halv at h
  split at h
  · cases h
  split at h
  · cases h
  cases h1 : Ea.rcg both 0 0 n (sl.drop 3) with
  | none => rw [h1] at h; cases h
  | some p =>
    obtain ⟨l1, u1⟩ := p
    cases h2 : Ea.rcg false 2 0 n (sl.drop (7 * n + 8)) with
    | none => rw [h1, h2] at h; cases h
    | some q =>
      obtain ⟨l2, u2⟩ := q
      rw [h1, h2] at h
      dsimp only at h
      split at h
      · cases h
        obtain ⟨_, a2, a3, a4, a5⟩ := Ea.rcg_inv both 0 (by omega) n _ _ _ h1 (by rw [List.length_drop]; omega)
        obtain ⟨_, b2, b3, b4, b5⟩ := Ea.rcg_inv false 2 (by omega) n _ _ _ h2 (by rw [List.length_drop]; omega)
        exact ⟨by rw [Ea.digs_app]; exact ⟨a4, b4⟩, by rw [List.length_append, a2, b2]; omega, fun x hx => Ea.may_lt (by omega) (a5 x hx), a3⟩
      · cases h
theorem full_good {k : Int} {l : List UInt8} (h1 : Ea.size k ≠ 0) (h2 : Ea.digs l = true) (h3 : l.length = Ea.size k) (h4 : k = 4 → l.getD 0 0 ≤ 49) : Ea.full k l = if Ea.good (if k = 4 then Ea.exp8 l else l) then 0 else 8 := by
  rw [full_steps, if_neg h1, if_neg (by rw [h2]; simp), if_neg (fun h => h h3), if_neg (fun h => h.2 (h4 h.1))]
/-- What readLong says, by the halves. -/
def longP (h : (List UInt8 × List Nat) × Int) : (Int × List UInt8) × Int :=
  if h.2 ≠ 0 then ((0, []), h.2) else match Ea.find13 h.1.2 with
    | none => ((0, []), 18)
    | some d => if Ea.good (Ea.chr d :: h.1.1) then (if d = 0 then ((3, h.1.1), 0) else ((1, Ea.chr d :: h.1.1), 0)) else ((0, []), 8)
theorem chr_zero_iff {d : Nat} (hd : d < 10) : Ea.chr d = 48 ↔ d = 0 := by
  have : ∀ d : Fin 10, Ea.chr d = 48 ↔ d.1 = 0 := by decide
  exact this ⟨d, hd⟩
theorem chr_dig {d : Nat} (hd : d < 10) : 48 ≤ (Ea.chr d).toNat ∧ (Ea.chr d).toNat ≤ 57 := by unfold Ea.chr; rw [Ea.chr_nat hd]; omega
theorem halv_none {both : Bool} {t n : Nat} {sl : List Bool} (g1 : sl.take 3 = Ea.gd) (g2 : sl.drop (sl.length - 3) = Ea.gd) (h : Ea.rcg both t 0 n (sl.drop 3) = none ∨ Ea.rcg false 2 0 n (sl.drop (7 * n + 8)) = none ∨ (sl.drop (7 * n + 3)).take 5 ≠ Ea.md) : halv both t n sl = (([], []), 18) := by
  unfold halv
  rw [if_neg (fun h => h g1), if_neg (fun h => h g2)]
  cases h1 : Ea.rcg both t 0 n (sl.drop 3) with
  | none => rfl
  | some p =>
    cases h2 : Ea.rcg false 2 0 n (sl.drop (7 * n + 8)) with
    | none => rfl
    | some q =>
      rw [h1, h2] at h
      exact if_neg (h.resolve_left (by simp) |>.resolve_left (by simp))
theorem halv_some {both : Bool} {t n : Nat} {sl : List Bool} {l r : List UInt8} {u v : List Nat} (g1 : sl.take 3 = Ea.gd) (g2 : sl.drop (sl.length - 3) = Ea.gd) (h1 : Ea.rcg both t 0 n (sl.drop 3) = some (l, u)) (h2 : Ea.rcg false 2 0 n (sl.drop (7 * n + 8)) = some (r, v)) (hm : (sl.drop (7 * n + 3)).take 5 = Ea.md) : halv both t n sl = ((l ++ r, u), 0) := by
  unfold halv
  rw [if_neg (fun h => h g1), if_neg (fun h => h g2), h1, h2]
  exact if_pos hm
theorem long_eq (sl : List Bool) (hW : sl.length = 95) : Ea.rdSym 95 sl = longP (halv true 0 6 sl) := by
  unfold Ea.rdSym
  rw [show 95 - (Ea.stp 95).length = sl.length - 3 by rw [hW]; rfl, show Ea.stp 95 = Ea.gd from rfl]
  by_cases g1 : sl.take 3 = Ea.gd
  · by_cases g2 : sl.drop (sl.length - 3) = Ea.gd
    · rw [if_neg (fun h => h g1), if_neg (fun h => h g2)]
      rw [show Ea.rdK 95 sl = Ea.rd13 sl from rfl]
      unfold Ea.rd13
      cases h1 : Ea.rcg true 0 0 6 (sl.drop 3) with
      | none => rw [halv_none g1 g2 (.inl h1)]; rfl
      | some p =>
        obtain ⟨l, u⟩ := p
        cases h2 : Ea.rcg false 2 0 6 (sl.drop 50) with
        | none => rw [halv_none g1 g2 (.inr (.inl h2))]; rfl
        | some q =>
          obtain ⟨r, v⟩ := q
          dsimp only
          by_cases hm : (sl.drop 45).take 5 = Ea.md
          · have hh := halv_some g1 g2 h1 h2 hm
            obtain ⟨k1, k2, k3, k4⟩ := halv_ok hh (by omega)
            rw [if_pos hm, hh]
            unfold longP
            rw [if_neg (by simp)]
            dsimp only
            cases hf : Ea.find13 u with
            | none => rfl
            | some d =>
              obtain ⟨f1, _⟩ := Ea.find13_some hf
              rw [Option.map_some]
              dsimp only
              have hfull := full_good (k := 1) (l := Ea.chr d :: (l ++ r)) (by decide) (Ea.digs_cons (chr_dig f1) k1) (by rw [List.length_cons, k2]; rfl) (fun e => by cases e)
              rw [if_neg (show ¬(1 : Int) = 4 by decide)] at hfull
              rw [show Ea.kindOf 95 = 1 from rfl, hfull]
              by_cases hg : Ea.good (Ea.chr d :: (l ++ r))
              · rw [if_pos hg, if_pos hg, if_neg (by simp)]
                by_cases h0 : d = 0
                · rw [if_pos h0, if_pos ⟨rfl, by rw [List.getD_cons_zero]; exact (chr_zero_iff f1).2 h0⟩]; rfl
                · rw [if_neg h0, if_neg (fun h => h0 ((chr_zero_iff f1).1 (by rw [List.getD_cons_zero] at h; exact h.2)))]
              · rw [if_neg hg, if_neg hg, if_pos (show (8 : Int) ≠ 0 by decide)]
          · rw [halv_none g1 g2 (.inr (.inr hm)), if_neg hm]; rfl
    · have hh : halv true 0 6 sl = (([], []), 20) := by
        unfold halv
        rw [if_neg (fun h => h g1), if_pos g2]
      rw [if_neg (fun h => h g1), if_pos g2, hh]; rfl
  · have hh : halv true 0 6 sl = (([], []), 19) := by
      unfold halv
      rw [if_pos g1]
    rw [if_pos g1, hh]; rfl
/-- What readShort says, by the halves. -/
def shortP (h : (List UInt8 × List Nat) × Int) : (Int × List UInt8) × Int :=
  if h.2 ≠ 0 then ((0, []), h.2) else if Ea.good h.1.1 then ((2, h.1.1), 0) else ((0, []), 8)
theorem short_eq (sl : List Bool) (hW : sl.length = 67) : Ea.rdSym 67 sl = shortP (halv false 0 4 sl) := by
  unfold Ea.rdSym
  rw [show 67 - (Ea.stp 67).length = sl.length - 3 by rw [hW]; rfl, show Ea.stp 67 = Ea.gd from rfl]
  by_cases g1 : sl.take 3 = Ea.gd
  · by_cases g2 : sl.drop (sl.length - 3) = Ea.gd
    · rw [if_neg (fun h => h g1), if_neg (fun h => h g2)]
      rw [show Ea.rdK 67 sl = Ea.rd8 sl from rfl]
      unfold Ea.rd8
      cases h1 : Ea.rcg false 0 0 4 (sl.drop 3) with
      | none => rw [halv_none g1 g2 (.inl h1)]; rfl
      | some p =>
        obtain ⟨l, u⟩ := p
        cases h2 : Ea.rcg false 2 0 4 (sl.drop 36) with
        | none => rw [halv_none g1 g2 (.inr (.inl h2))]; rfl
        | some q =>
          obtain ⟨r, v⟩ := q
          dsimp only
          by_cases hm : (sl.drop 31).take 5 = Ea.md
          · have hh := halv_some g1 g2 h1 h2 hm
            obtain ⟨k1, k2, k3, k4⟩ := halv_ok hh (by omega)
            rw [if_pos hm, hh]
            unfold shortP
            rw [if_neg (by simp)]
            dsimp only
            have hfull := full_good (k := 2) (l := l ++ r) (by decide) k1 (by rw [k2]; rfl) (fun e => by cases e)
            rw [if_neg (show ¬(2 : Int) = 4 by decide)] at hfull
            rw [show Ea.kindOf 67 = 2 from rfl, hfull]
            by_cases hg : Ea.good (l ++ r)
            · rw [if_pos hg, if_pos hg, if_neg (by simp), if_neg (fun h => by cases h.1)]
            · rw [if_neg hg, if_neg hg, if_pos (show (8 : Int) ≠ 0 by decide)]
          · rw [halv_none g1 g2 (.inr (.inr hm)), if_neg hm]; rfl
    · have hh : halv false 0 4 sl = (([], []), 20) := by
        unfold halv
        rw [if_neg (fun h => h g1), if_pos g2]
      rw [if_neg (fun h => h g1), if_pos g2, hh]; rfl
  · have hh : halv false 0 4 sl = (([], []), 19) := by
      unfold halv
      rw [if_pos g1]
    rw [if_pos g1, hh]; rfl
end Go.Proofs.YtfpliihglgjijaaGreat
