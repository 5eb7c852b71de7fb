/-
  Chapter 48, plain: texts that win.
  No condition.
-/
import Derived.Test.YtamkgbodifjlaaaGreatDoorGlYc
import Derived.Test.YtamkgbodifjlaaaGreatDoorCdMa
import Derived.Test.YtamkgbodifjlaaaGreatDoorGlPa

/-
  Chapter 48, plain: texts that win.
  No condition.
-/
namespace Go.Proofs.YtamkgbodifjlaaaGreatDoor.Gl

/-- The beginning of a text, with its cost. -/
def sumC (t : List Ch) : Nat → Int
  | 0 => 0
  | i + 1 => sumC t i + (t.getD i (0, 0)).2
theorem sumC_succ (t : List Ch) (i : Nat) : sumC t (i + 1) = sumC t i + (t.getD i (0, 0)).2 := rfl
def pref (t : List Ch) (i : Nat) : Pt := ((t.take i).map (·.1), sumC t i)
theorem pref_succ {t : List Ch} {i : Nat} {x : Ch} (h : t[i]? = some x) : pref t (i + 1) = ((pref t i).1 ++ [x.1], (pref t i).2 + x.2) := by
  unfold pref
  rw [sumC_succ, List.take_add_one, h, List.getD_eq_getElem?_getD, h]
  simp
/-- Each right character costs less than the others of its glyph. -/
def Least (os : List (List Ch)) (t : List Ch) : Prop := os.length = t.length ∧ ∀ (i : Nat) (l : List Ch) (x : Ch), os[i]? = some l → t[i]? = some x → x ∈ l ∧ ∀ c ∈ l, c = x ∨ x.2 < c.2
theorem Least.good {os : List (List Ch)} {t : List Ch} (h : Least os t) : ∀ (i : Nat) (q : Pt), i ≤ t.length → Good os i q → q = pref t i ∨ (pref t i).2 < q.2
  | 0, q, _, hq => .inl hq
  | i + 1, q, hi, ⟨p, l, c, hp, hl, hc, e⟩ => by
    obtain ⟨x, hx⟩ : ∃ x, t[i]? = some x := ⟨_, List.getElem?_eq_getElem (by omega)⟩
    have h1 := h.good i p (by omega) hp
    have h2 := (h.2 i l x hl hx).2 c hc
    rw [pref_succ hx, e]
    rcases h1 with rfl | h1
    · rcases h2 with rfl | h2
      · exact .inl rfl
      · exact .inr (by dsimp only; omega)
    · refine .inr ?_
      dsimp only
      rcases h2 with rfl | h2 <;> omega
theorem Least.wins {os : List (List Ch)} {t : List Ch} (h : Least os t) : Wins os 0 t.length (pref t) where
  zero := rfl
  step i hi := by
    obtain ⟨x, hx⟩ : ∃ x, t[i]? = some x := ⟨_, List.getElem?_eq_getElem hi⟩
    obtain ⟨l, hl⟩ : ∃ l, os[i]? = some l := ⟨_, List.getElem?_eq_getElem (by rw [h.1]; exact hi)⟩
    obtain ⟨j, hj, e⟩ := List.getElem_of_mem (h.2 i l x hl hx).1
    exact ⟨l, j, x, hl, by rw [List.getElem?_eq_getElem hj, e], pref_succ hx⟩
  good _ _ _ := rfl
  best i hi q hq _ _ := by
    rcases h.good i q hi hq with h | h
    · exact .inl h
    · exact .inr (bet_less h)
theorem Least.ends {os : List (List Ch)} {t : List Ch} (h : Least os t) : Ends os 0 t.length (pref t) (t.map (·.1), sumC t t.length) where
  fin := by
    refine ⟨0, ?_, ?_⟩
    · rw [List.drop_of_length_le (by rw [h.1]; exact Nat.le_refl _)]; rfl
    · have e : (keyS 0 (pref t t.length).1 t.length).1 = [] := rfl
      rw [e, List.append_nil, Int.add_zero]
      unfold pref
      rw [List.take_length]
  best q m hq _ hm := by
    have e : (keyS 0 q.1 t.length).1 = [] := rfl
    rw [List.drop_of_length_le (by rw [h.1]; exact Nat.le_refl _)] at hm
    have hm0 : m = 0 := (Option.some.inj hm).symm
    rw [e, hm0, List.append_nil, Int.add_zero]
    have e2 : pref t t.length = (t.map (·.1), sumC t t.length) := by unfold pref; rw [List.take_length]
    rw [← e2]
    rcases h.good t.length q (Nat.le_refl _) hq with h | h
    · exact .inl h
    · exact .inr (bet_less h)

/-! ### One glyph of a checked text may be something else -/
/-- Every glyph has one choice, but for one glyph, whose choices have one cost. -/
structure OneOff (os : List (List Ch)) (s : List UInt8) (k : Nat) (c : Int) : Prop where
  len : os.length = s.length
  low : k < s.length
  one : ∀ i x, i ≠ k → s[i]? = some x → os[i]? = some [(x, 0)]
  off : ∃ l, os[k]? = some l ∧ (∀ x, s[k]? = some x → (x, c) ∈ l) ∧ ∀ y ∈ l, y.2 = c
def offT (s : List UInt8) (k : Nat) (c : Int) (i : Nat) : Pt := (s.take i, if k < i then c else 0)
theorem OneOff.good {os : List (List Ch)} {s : List UInt8} {k : Nat} {c : Int} (h : OneOff os s k c) : ∀ (i : Nat) (q : Pt), i ≤ s.length → Good os i q →
    q.2 = (if k < i then c else 0) ∧ (i ≤ k → q.1 = s.take i) ∧ (k < i → ∃ y, q.1 = s.take k ++ y :: (s.drop (k + 1)).take (i - k - 1))
  | 0, q, _, hq => by
    have e : q = ([], 0) := hq
    rw [e]
    exact ⟨by rw [if_neg (Nat.not_lt_zero _)], fun _ => by simp, fun h => absurd h (Nat.not_lt_zero _)⟩
  | i + 1, q, hi, ⟨p, l, d, hp, hl, hd, e⟩ => by
    obtain ⟨h1, h2, h3⟩ := h.good i p (by omega) hp
    obtain ⟨x, hx⟩ : ∃ x, s[i]? = some x := ⟨_, List.getElem?_eq_getElem (by omega)⟩
    rw [e]
    dsimp only
    rcases Nat.lt_trichotomy i k with hik | hik | hik
    · have h4 := h.one i x (by omega) hx
      rw [hl] at h4
      have h5 := Option.some.inj h4
      subst h5
      have h6 : d = (x, 0) := by simpa using hd
      subst h6
      refine ⟨by rw [h1, if_neg (by omega), if_neg (by omega)]; rfl, fun _ => ?_, fun h => by omega⟩
      rw [h2 (by omega), List.take_add_one, hx]; rfl
    · subst hik
      obtain ⟨l', h4, h5, h6⟩ := h.off
      rw [hl] at h4
      have h7 := Option.some.inj h4
      subst h7
      refine ⟨by rw [h1, if_neg (by omega), if_pos (by omega), h6 d hd, Int.zero_add], fun h => by omega, fun _ => ⟨d.1, ?_⟩⟩
      rw [h2 (Nat.le_refl _), show i + 1 - i - 1 = 0 by omega, List.take_zero]
    · have h4 := h.one i x (by omega) hx
      rw [hl] at h4
      have h5 := Option.some.inj h4
      subst h5
      have h6 : d = (x, 0) := by simpa using hd
      subst h6
      refine ⟨by rw [h1, if_pos hik, if_pos (by omega)]; exact Int.add_zero _, fun h => by omega, fun _ => ?_⟩
      obtain ⟨y, hy⟩ := h3 hik
      refine ⟨y, ?_⟩
      rw [hy, show i + 1 - k - 1 = (i - k - 1) + 1 by omega, List.take_add_one, List.getElem?_drop, show k + 1 + (i - k - 1) = i by omega, hx]
      simp
/-- The text, filled up to the length of the data. -/
def fill (t : List UInt8) (n : Nat) : List UInt8 := t ++ List.replicate (n - t.length) 48
theorem keyS_fill (check : Int) (t : List UInt8) (n : Nat) (h : check ≠ 0) : keyS check t n = ((Cd.compI check (fill t n)).1, (Cd.compI check (fill t n)).2 == 0) := by
  unfold keyS fill; rw [if_neg h]
theorem comp_zero {k : Nat} {l : List UInt8} (h : (Cd.comp k l).2 = 0) : (Cd.comp k l).1 = Cd.cmp k l ∧ l ≠ [] ∧ l.length ≤ 4096 ∧ (∀ c ∈ l, Cd.datB k (c.toNat : Int) = true) ∧ Cd.fits k (l.length + Cd.size k) = true := by
  unfold Cd.comp at h ⊢
  split at h
  · exact absurd h (by decide)
  · split at h
    · exact absurd h (by decide)
    · split at h
      · exact absurd h (by decide)
      · split at h
        · exact absurd h (by decide)
        · rename_i h1 h2 h3 h4
          refine ⟨by rw [if_neg h1, if_neg h2, if_neg h3, if_neg h4], h1, by omega, ?_, by simpa using h4⟩
          rw [Bool.not_eq_false] at h3
          rw [List.all_eq_true] at h3
          exact h3
theorem comp_ok {k : Nat} {l : List UInt8} (h1 : l ≠ []) (h2 : l.length ≤ 4096) (h3 : ∀ c ∈ l, Cd.datB k (c.toNat : Int) = true) (h4 : Cd.fits k (l.length + Cd.size k) = true) : Cd.comp k l = (Cd.cmp k l, 0) := by
  unfold Cd.comp
  rw [if_neg h1, if_neg (by omega), if_neg (by rw [Bool.not_eq_false, List.all_eq_true]; exact h3), if_neg (by rw [h4]; exact Bool.noConfusion)]
theorem dat48 (k : Nat) : Cd.datB k ((48 : UInt8).toNat : Int) = true := by
  unfold Cd.datB
  split <;> decide
/-- Two texts with one key that differ in one character are equal. -/
theorem same_key {k : Nat} (h1 : 1 ≤ k) (h8 : k ≤ 8) {a b : List UInt8} {x y : UInt8} (hn : (a ++ x :: b).length ≤ 4000) (hx : (Cd.comp k (a ++ x :: b)).2 = 0) (hy : (Cd.comp k (a ++ y :: b)).2 = 0) (he : (Cd.comp k (a ++ y :: b)).1 = (Cd.comp k (a ++ x :: b)).1) : x = y := by
  obtain ⟨e1, _, _, d1, f1⟩ := comp_zero hx
  obtain ⟨e2, _, _, d2, f2⟩ := comp_zero hy
  have hl : (a ++ y :: b).length = (a ++ x :: b).length := by simp
  have hz := Cd.size_bd k
  have v1 := Cd.ver_app k _ h1 h8 d1 f1 (by omega)
  have v2 := Cd.ver_app k _ h1 h8 d2 f2 (by omega)
  rw [e1, e2] at he
  rw [he] at v2
  rw [List.append_assoc, List.cons_append] at v1 v2
  refine Cd.detects_sub k a _ x y h1 h8 ?_ v1 v2
  intro e
  have h9 := congrArg List.length e
  rw [List.length_append, Cd.cmp_size k _ h1 h8] at h9
  simp only [List.length_nil] at h9
  omega
/-- Choices of single characters. -/
theorem rest_singles (r : List UInt8) : ∀ (key : List UInt8) (m : Int), rest (r.map fun x => [(x, 0)]) key = some m → m = 0 ∧ (key.length = r.length → key = r) := by
  induction r with
  | nil => intro key m h; exact ⟨(Option.some.inj h).symm, fun h => List.eq_nil_of_length_eq_zero h⟩
  | cons x r ih =>
    intro key m h
    simp only [List.map_cons, rest] at h
    have hf : List.find? (fun c : Ch => c.1 == key.headD 0) [(x, 0)] = if x == key.headD 0 then some (x, 0) else none := by
      simp only [List.find?]
      cases x == key.headD 0 <;> rfl
    rw [hf] at h
    cases hb : x == key.headD 0 with
    | false => rw [hb] at h; cases h
    | true =>
      rw [hb, if_pos rfl] at h
      dsimp only at h
      cases hr : rest (r.map fun x => [(x, 0)]) key.tail with
      | none => rw [hr] at h; cases h
      | some n =>
        rw [hr] at h
        obtain ⟨h1, h2⟩ := ih _ _ hr
        refine ⟨by rw [← Option.some.inj h, h1]; rfl, fun hl => ?_⟩
        cases key with
        | nil => cases hl
        | cons y key =>
          have e : x = y := by simpa using hb
          rw [e, ← h2 (by simpa using hl)]; rfl
theorem rest_right (ls : List (List Ch)) : ∀ (r : List UInt8), ls.length = r.length → (∀ (i : Nat) l x, ls[i]? = some l → r[i]? = some x → ∃ c, l.find? (fun c => c.1 == x) = some c) → ∃ m, rest ls r = some m := by
  induction ls with
  | nil => intro r _ _; exact ⟨0, rfl⟩
  | cons l ls ih =>
    intro r hl h
    cases r with
    | nil => cases hl
    | cons x r =>
      obtain ⟨c, hc⟩ := h 0 l x rfl rfl
      obtain ⟨m, hm⟩ := ih r (by simpa using hl) (fun i l x h1 h2 => h (i + 1) l x (by simpa using h1) (by simpa using h2))
      refine ⟨c.2 + m, ?_⟩
      simp only [rest, List.headD_cons, List.tail_cons]
      rw [hc]
      dsimp only
      rw [hm]
theorem rest_off (c : Int) (ls : List (List Ch)) : ∀ (r : List UInt8) (m : Int) (j : Nat), rest ls r = some m → (∀ (i : Nat) l, ls[i]? = some l → ∀ x ∈ l, x.2 = if i = j then c else 0) → m = if j < ls.length then c else 0 := by
  induction ls with
  | nil => intro r m j h _; rw [List.length_nil, if_neg (Nat.not_lt_zero _)]; exact (Option.some.inj h).symm
  | cons l ls ih =>
    intro r m j h hf
    simp only [rest] at h
    cases hc : l.find? (fun c : Ch => c.1 == r.headD 0) with
    | none => rw [hc] at h; cases h
    | some d =>
      rw [hc] at h
      dsimp only at h
      cases hr : rest ls r.tail with
      | none => rw [hr] at h; cases h
      | some n =>
        rw [hr] at h
        have h2 := hf 0 l rfl d (List.mem_of_find?_eq_some hc)
        rw [← Option.some.inj h, List.length_cons]
        cases j with
        | zero =>
          have h1 := ih r.tail n ls.length hr (fun i l h x hx => by
            rw [if_neg (by have := (List.getElem?_eq_some_iff.1 h).1; omega)]
            have := hf (i + 1) l (by simpa using h) x hx
            rwa [if_neg (by omega)] at this)
          rw [if_neg (Nat.lt_irrefl _)] at h1
          rw [if_pos rfl] at h2
          rw [h1, h2, if_pos (by omega), Int.add_zero]
        | succ j =>
          have h1 := ih r.tail n j hr (fun i l h x hx => by
            have := hf (i + 1) l (by simpa using h) x hx
            rw [this]
            by_cases e : i = j
            · rw [if_pos e, if_pos (by omega)]
            · rw [if_neg e, if_neg (by omega)])
          rw [if_neg (by omega)] at h2
          rw [h1, h2, Int.zero_add]
          by_cases e : j < ls.length
          · rw [if_pos e, if_pos (by omega)]
          · rw [if_neg e, if_neg (by omega)]
/-- The text: data and check characters. -/
structure Checked (kk : Nat) (d s : List UInt8) : Prop where
  one : 1 ≤ kk
  eight : kk ≤ 8
  ok : (Cd.comp kk d).2 = 0
  text : s = d ++ Cd.cmp kk d
  few : s.length ≤ 64
theorem Checked.key {kk : Nat} {d s : List UInt8} (h : Checked kk d s) (t : List UInt8) : keyS (kk : Int) t d.length = ((Cd.comp kk (fill t d.length)).1, (Cd.comp kk (fill t d.length)).2 == 0) := by
  have h1 := h.one
  have h8 := h.eight
  rw [keyS_fill _ _ _ (by omega)]
  unfold Cd.compI
  rw [if_neg (by omega), Int.toNat_natCast]
theorem Checked.len {kk : Nat} {d s : List UInt8} (h : Checked kk d s) : s.length = d.length + Cd.size kk ∧ 0 < d.length ∧ 1 ≤ Cd.size kk := by
  have hz := Cd.size_bd kk
  refine ⟨by rw [h.text, List.length_append, Cd.cmp_size kk d h.one h.eight], List.length_pos_iff.2 (comp_zero h.ok).2.1, hz.1⟩
theorem Checked.take {kk : Nat} {d s : List UInt8} (h : Checked kk d s) {i : Nat} (hi : i ≤ d.length) : s.take i = d.take i := by
  rw [h.text, List.take_append_of_le_length hi]
theorem Checked.good {kk : Nat} {d s : List UInt8} (h : Checked kk d s) {i : Nat} (hi : i ≤ d.length) (_h0 : 0 < i) : (Cd.comp kk (fill (s.take i) d.length)).2 = 0 := by
  obtain ⟨h1, h2, h3⟩ := h.len
  obtain ⟨_, _, hl, hd, hf⟩ := comp_zero h.ok
  have hlen : (fill (s.take i) d.length).length = d.length := by
    unfold fill; rw [List.length_append, List.length_replicate, List.length_take]; omega
  rw [comp_ok]
  · intro e
    have := congrArg List.length e
    rw [hlen] at this
    simp only [List.length_nil] at this
    omega
  · rw [hlen]; exact hl
  · intro c hc
    unfold fill at hc
    rw [h.take hi] at hc
    rcases List.mem_append.1 hc with hc | hc
    · exact hd c (List.mem_of_mem_take hc)
    · rw [(List.mem_replicate.1 hc).2]; exact dat48 kk
  · rw [hlen]; exact hf
theorem Checked.full {kk : Nat} {d s : List UInt8} (h : Checked kk d s) : fill (s.take d.length) d.length = d := by
  rw [h.take (Nat.le_refl _), List.take_length]
  unfold fill
  rw [Nat.sub_self]; simp
theorem OneOff.uniq {os : List (List Ch)} {s d : List UInt8} {k kk : Nat} {c : Int} (h : OneOff os s k c) (H : Checked kk d s) {i : Nat} (hi : i ≤ d.length) {q : Pt} (hq : Good os i q) (hk : (keyS (kk : Int) q.1 d.length).2 = true) (he : (keyS (kk : Int) q.1 d.length).1 = (keyS (kk : Int) (s.take i) d.length).1) : q = offT s k c i := by
  obtain ⟨l1, l2, l3⟩ := H.len
  obtain ⟨h1, h2, h3⟩ := h.good i q (by omega) hq
  refine Prod.ext ?_ h1
  show q.1 = s.take i
  rcases Nat.lt_or_ge k i with hki | hki
  · obtain ⟨y, hy⟩ := h3 hki
    obtain ⟨x, hx⟩ : ∃ x, s[k]? = some x := ⟨_, List.getElem?_eq_getElem h.low⟩
    have e1 : s.take i = s.take k ++ x :: (s.drop (k + 1)).take (i - k - 1) := by
      have e : s.drop k = x :: s.drop (k + 1) := by
        rw [List.drop_eq_getElem_cons h.low, (List.getElem?_eq_some_iff.1 hx).2]
      have e2 : s.take i = s.take k ++ (s.drop k).take (i - k) := by
        rw [← List.take_add, show k + (i - k) = i by omega]
      rw [e2, e, show i - k = (i - k - 1) + 1 by omega, List.take_succ_cons, show i - k - 1 + 1 - 1 = i - k - 1 by omega]
    have hlq : q.1.length = (s.take i).length := by rw [hy, e1]; simp
    have hg := H.good hi (by omega)
    rw [H.key] at hk he
    rw [H.key] at he
    dsimp only at hk he
    rw [beq_iff_eq] at hk
    have f1 : fill q.1 d.length = s.take k ++ y :: ((s.drop (k + 1)).take (i - k - 1) ++ List.replicate (d.length - (s.take i).length) 48) := by
      unfold fill; rw [hlq, hy]; simp
    have f2 : fill (s.take i) d.length = s.take k ++ x :: ((s.drop (k + 1)).take (i - k - 1) ++ List.replicate (d.length - (s.take i).length) 48) := by
      unfold fill
      generalize d.length - (s.take i).length = r
      rw [e1]; simp
    have hfl : (fill (s.take i) d.length).length = d.length := by
      unfold fill; rw [List.length_append, List.length_replicate, List.length_take]; omega
    rw [f1] at hk he
    rw [f2] at hg he hfl
    have hf := H.few
    have := same_key H.one H.eight (by omega) hg hk he
    rw [hy, e1, this]
  · exact h2 hki
theorem OneOff.wins {os : List (List Ch)} {s d : List UInt8} {k kk : Nat} {c : Int} (h : OneOff os s k c) (H : Checked kk d s) : Wins os (kk : Int) d.length (offT s k c) where
  zero := by unfold offT; rw [if_neg (Nat.not_lt_zero _)]; rfl
  step i hi := by
    obtain ⟨l1, l2, l3⟩ := H.len
    obtain ⟨x, hx⟩ : ∃ x, s[i]? = some x := ⟨_, List.getElem?_eq_getElem (by omega)⟩
    have ht : s.take (i + 1) = s.take i ++ [x] := by rw [List.take_add_one, hx]; rfl
    unfold offT
    by_cases e : i = k
    · subst e
      obtain ⟨l, h1, h2, h3⟩ := h.off
      obtain ⟨j, hj, e⟩ := List.getElem_of_mem (h2 x hx)
      exact ⟨l, j, (x, c), h1, by rw [List.getElem?_eq_getElem hj, e], by rw [ht, if_neg (Nat.lt_irrefl _), if_pos (by omega), Int.zero_add]⟩
    · refine ⟨_, 0, (x, 0), h.one i x e hx, rfl, ?_⟩
      rw [ht, Int.add_zero]
      by_cases hk : k < i
      · rw [if_pos hk, if_pos (by omega)]
      · rw [if_neg hk, if_neg (by omega)]
  good i hi h0 := by
    show (keyS (kk : Int) (s.take i) d.length).2 = true
    rw [H.key]
    have := H.good hi h0
    dsimp only
    rw [this]; rfl
  best i hi q hq hk he := .inl (h.uniq H hi hq hk he)
theorem OneOff.ends {os : List (List Ch)} {s d : List UInt8} {k kk : Nat} {c : Int} (h : OneOff os s k c) (H : Checked kk d s) : Ends os (kk : Int) d.length (offT s k c) (s, c) := by
  obtain ⟨l1, l2, l3⟩ := H.len
  have hkey : (keyS (kk : Int) (offT s k c d.length).1 d.length).1 = Cd.cmp kk d := by
    show (keyS (kk : Int) (s.take d.length) d.length).1 = _
    rw [H.key, H.full]; exact (comp_zero H.ok).1
  have hdr : s.drop d.length = Cd.cmp kk d := by rw [H.text, List.drop_left]
  have htk : s.take d.length = d := by rw [H.text, List.take_left]
  have hol : (os.drop d.length).length = Cd.size kk := by rw [List.length_drop, h.len]; omega
  -- the cost of a completion
  have hcost : ∀ key m, rest (os.drop d.length) key = some m → (if k < d.length then c else 0) + m = c := fun key m hm => by
    have h1 := rest_off c _ key m (if d.length ≤ k then k - d.length else (os.drop d.length).length) hm (fun i l hl x hx => by
      rw [List.getElem?_drop] at hl
      have hil := (List.getElem?_eq_some_iff.1 hl).1
      rw [h.len] at hil
      obtain ⟨y, hy⟩ : ∃ y, s[d.length + i]? = some y := ⟨_, List.getElem?_eq_getElem hil⟩
      by_cases e : d.length + i = k
      · obtain ⟨l', h2, _, h4⟩ := h.off
        rw [e, h2] at hl
        have := Option.some.inj hl
        subst this
        rw [h4 x hx, if_pos (by rw [if_pos (by omega)]; omega)]
      · rw [h.one _ y e hy] at hl
        have := Option.some.inj hl
        subst this
        have hx0 : x = (y, 0) := by simpa using hx
        rw [hx0, if_neg]
        split
        · omega
        · rw [hol]; omega)
    rw [h1]
    have hlow := h.low
    by_cases e : d.length ≤ k
    · rw [if_neg (by omega), if_pos e, if_pos (by rw [hol]; omega), Int.zero_add]
    · rw [if_pos (by omega), if_neg e, if_neg (Nat.lt_irrefl _), Int.add_zero]
  obtain ⟨m, hm⟩ : ∃ m, rest (os.drop d.length) (Cd.cmp kk d) = some m := rest_right _ _ (by rw [hol, Cd.cmp_size kk d H.one H.eight]) (fun i l x hl hx => by
    rw [List.getElem?_drop] at hl
    rw [← hdr, List.getElem?_drop] at hx
    by_cases e : d.length + i = k
    · obtain ⟨l', h2, h3, _⟩ := h.off
      rw [e, h2] at hl
      have := Option.some.inj hl
      subst this
      cases hf : l'.find? (fun c : Ch => c.1 == x) with
      | some c => exact ⟨c, rfl⟩
      | none =>
        have := List.find?_eq_none.1 hf _ (h3 x (by rw [← e]; exact hx))
        simp at this
    · rw [h.one _ x e hx] at hl
      have := Option.some.inj hl
      subst this
      exact ⟨(x, 0), by simp⟩)
  refine ⟨⟨m, by rw [hkey]; exact hm, ?_⟩, fun q m' hq hk hr => .inl ?_⟩
  · rw [hkey]
    have h1 := hcost _ m hm
    show (s, c) = (s.take d.length ++ Cd.cmp kk d, (if k < d.length then c else 0) + m)
    rw [h1, htk, ← H.text]
  · have hq2 : q = offT s k c d.length := by
      rcases Nat.lt_or_ge k d.length with hkd | hkd
      · refine h.uniq H (Nat.le_refl _) hq hk ?_
        have hk2 : (keyS (kk : Int) (s.take d.length) d.length).1 = Cd.cmp kk d := hkey
        rw [hk2, ← hdr]
        have e : os.drop d.length = (s.drop d.length).map fun x => [(x, 0)] := by
          refine List.ext_getElem? fun i => ?_
          rw [List.getElem?_drop, List.getElem?_map, List.getElem?_drop]
          cases hx : s[d.length + i]? with
          | none => rw [List.getElem?_eq_none (by rw [h.len]; exact List.getElem?_eq_none_iff.1 hx)]; rfl
          | some x => rw [h.one _ x (by omega) hx]; rfl
        rw [e] at hr
        refine (rest_singles _ _ _ hr).2 ?_
        rw [H.key] at hk ⊢
        dsimp only at hk ⊢
        rw [beq_iff_eq] at hk
        obtain ⟨e1, _⟩ := comp_zero hk
        rw [e1, Cd.cmp_size _ _ H.one H.eight, List.length_drop, l1]; omega
      · obtain ⟨h1, h2, _⟩ := h.good d.length q (by omega) hq
        exact Prod.ext (h2 hkd) h1
    have h1 := hcost _ m' hr
    rw [hq2, hkey]
    show (s.take d.length ++ Cd.cmp kk d, (if k < d.length then c else 0) + m') = (s, c)
    rw [h1, htk, ← H.text]
end Go.Proofs.YtamkgbodifjlaaaGreatDoor.Gl

/-
  Chapter 48, plain: a drawn text with one pixel of each glyph inverted.
  No condition.
-/
namespace Go.Proofs.YtamkgbodifjlaaaGreatDoor.Gl

/-- A glyph with one pixel inverted. -/
def bent (c : UInt8) (p : Nat) : List Bool := (List.range 35).map fun j => bitAt (code c) j != (j == p)
theorem bent_len (c : UInt8) (p : Nat) : (bent c p).length = 35 := by simp [bent]
theorem bent_at (c : UInt8) (p : Nat) {i : Nat} (hi : i < 35) : (bent c p).getD i false = (bitAt (code c) i != (i == p)) := by
  simp [bent, List.getD_eq_getElem?_getD, hi]
theorem countP_near (P Q : Nat → Bool) (p n : Nat) (h : ∀ i, i < n → i ≠ p → P i = Q i) : (List.range n).countP P ≤ (List.range n).countP Q + if p < n then 1 else 0 := by
  induction n with
  | zero => simp
  | succ n ih =>
    have h1 := ih fun i hi => h i (by omega)
    rw [List.range_succ, List.countP_append, List.countP_append, List.countP_singleton, List.countP_singleton]
    by_cases e : n = p
    · subst e
      have e1 : (if n < n + 1 then 1 else 0) = 1 := if_pos (Nat.lt_succ_self _)
      rw [if_neg (Nat.lt_irrefl _)] at h1
      rw [e1]
      split <;> split <;> omega
    · rw [h n (Nat.lt_succ_self n) e]
      have e1 : (if p < n + 1 then 1 else 0) = if p < n then 1 else 0 := by
        by_cases e2 : p < n
        · rw [if_pos e2, if_pos (by omega)]
        · rw [if_neg e2, if_neg (by omega)]
      rw [e1]
      omega
theorem cost_bent (c d : UInt8) (p : Nat) : dist c d ≤ cost (bent c p) d + 1 := by
  have h := countP_near (fun i => (pix c).getD i false != bitAt (code d) i) (fun i => (bent c p).getD i false != bitAt (code d) i) p 35 (fun i hi hne => by
    rw [pix_at c hi, bent_at c p hi, beq_eq_false_iff_ne.2 hne]; simp)
  unfold dist cost
  split at h <;> omega
theorem count_one : ∀ p : Fin 35, (List.range 35).countP (fun i => i == p.1) = 1 := by decide +kernel
theorem cost_own (c : UInt8) (p : Nat) (hp : p < 35) : cost (bent c p) c = 1 := by
  unfold cost
  rw [List.countP_congr (q := fun i => i == p) (fun i hi => by
    rw [bent_at c p (List.mem_range.1 hi)]
    cases bitAt (code c) i <;> cases hb : i == p <;> simp_all)]
  exact count_one ⟨p, hp⟩
/-- The class of a character. -/
def klass (c : UInt8) : UInt8 := if 48 ≤ c.toNat ∧ c.toNat ≤ 57 then 100 else 97
theorem klass_far : ∀ c ∈ chars, solid c = true → ∀ d ∈ chars, cls d (klass c) = true → c ≠ d → 3 ≤ dist c d := by decide +kernel
theorem klass_own : ∀ c ∈ chars, solid c = true → cls c (klass c) = true := by decide +kernel
theorem chs_bent (c : UInt8) (p : Nat) (hp : p < 35) (hc : c ∈ chars) (hs : solid c = true) : ((c, 1) : Ch) ∈ chs (ranked (bent c p)) (klass c) ∧ ∀ x ∈ chs (ranked (bent c p)) (klass c), x = (c, 1) ∨ 1 < x.2 := by
  have h1 : ∀ x ∈ chs (ranked (bent c p)) (klass c), x = (c, 1) ∨ 1 < x.2 := fun x hx => by
    obtain ⟨h2, h3⟩ := chs_sub hx
    obtain ⟨h4, h5⟩ := ranked_mem _ h2
    by_cases e : c = x.1
    · refine .inl (Prod.ext e.symm ?_)
      rw [h5, ← e, cost_own c p hp]; rfl
    · refine .inr ?_
      have := klass_far c hc hs x.1 h4 h3 e
      have := cost_bent c x.1 p
      omega
  refine ⟨?_, h1⟩
  have hm : ((c, (cost (bent c p) c : Int)) : Ch) ∈ ranked (bent c p) := (ranked_perm _).mem_iff.2 (List.mem_map.2 ⟨c, hc, rfl⟩)
  obtain ⟨y, hy, e1, e2⟩ := chs_least hm (klass_own c hc hs)
  rcases h1 y hy with rfl | h2
  · exact hy
  · dsimp only at e1 e2
    rw [cost_own c p hp] at e2
    omega
theorem corr_least (s : List UInt8) (ps : Nat → Nat) (os : List (List Ch)) (hs : ∀ c ∈ s, c ∈ chars ∧ solid c = true) (hp : ∀ i, ps i < 35) (hl : os.length = s.length) (h : ∀ (i : Nat) c, s[i]? = some c → os[i]? = some (chs (ranked (bent c (ps i))) (klass c))) : Least os (s.map fun c => (c, 1)) := by
  refine ⟨by rw [hl, List.length_map], fun i l x h1 h2 => ?_⟩
  rw [List.getElem?_map] at h2
  obtain ⟨c, hc, rfl⟩ := Option.map_eq_some_iff.1 h2
  rw [h i c hc] at h1
  have := Option.some.inj h1
  subst this
  obtain ⟨h3, h4⟩ := hs c (List.mem_of_getElem? hc)
  exact chs_bent c (ps i) (hp i) h3 h4
theorem sumC_ones (s : List UInt8) : ∀ i, i ≤ s.length → sumC (s.map fun c => ((c, 1) : Ch)) i = (i : Int) := by
  intro i
  induction i with
  | zero => intro _; rfl
  | succ i ih =>
    intro hi
    unfold sumC
    rw [ih (by omega), List.getD_eq_getElem?_getD, List.getElem?_map, List.getElem?_eq_getElem (show i < s.length by omega)]
    simp
/-- The cells of the bent bitmap. -/
theorem cells_bent (s : List UInt8) (m : List Bool) (ps : Nat → Nat) (i : Nat) (hi : i < s.length) (hm : ∀ x y, x < wid s 1 → y < 7 → m.getD (y * wid s 1 + x) false = (px s 1 x y != (decide (x % 6 < 5) && (y * 5 + x % 6 == ps (x / 6))))) :
    cells m (wid s 1) (0 + wid s 1) (0 + 7) (0 + 6 * i * 1) 0 1 = bent (s.getD i 32) (ps i) := by
  unfold cells bent
  refine List.map_congr_left fun j hj => ?_
  have hj := List.mem_range.1 hj
  have hw : 6 * i + 5 ≤ wid s 1 := by unfold wid; omega
  unfold cell
  rw [cellN_const _ _ _ _ _ _ _ (bitAt (code (s.getD i 32)) j != (j == ps i)) 1]
  · cases (bitAt (code (s.getD i 32)) j != (j == ps i)) <;> decide
  · intro v hv u hu
    have e := px_cell s 1 i j u v hj hu hv
    obtain rfl : u = 0 := by omega
    obtain rfl : v = 0 := by omega
    simp only [Nat.mul_one, Nat.zero_add, Nat.add_zero] at e ⊢
    have hx : 6 * i + j % 5 < wid s 1 := by omega
    rw [hm _ _ hx (by omega), e]
    have h1 : (6 * i + j % 5) % 6 = j % 5 := by omega
    have h2 : (6 * i + j % 5) / 6 = i := by omega
    have h3 : j / 5 * 5 + j % 5 = j := by omega
    rw [h1, h2, h3, decide_eq_true (show 6 * i + j % 5 < wid s 1 from hx), decide_eq_true (show j / 5 < 7 by omega), decide_eq_true (show j % 5 < 5 by omega)]
    simp
theorem read_bent (s : List UInt8) (m : List Bool) (ps : Nat → Nat) (hl : 0 < s.length) (hm : ∀ x y, x < wid s 1 → y < 7 → m.getD (y * wid s 1 + x) false = (px s 1 x y != (decide (x % 6 < 5) && (y * 5 + x % 6 == ps (x / 6))))) :
    read m (wid s 1) 0 0 (wid s 1) 7 1 = (List.range s.length).map fun i => (0 + 6 * i * 1, ranked (bent (s.getD i 32) (ps i))) := by
  unfold read
  rw [many_text s.length 1 (wid s 1) hl (by decide) (by unfold wid; omega) (by unfold wid; omega)]
  refine List.map_congr_left fun i hi => ?_
  rw [cells_bent s m ps i (List.mem_range.1 hi) hm]
end Go.Proofs.YtamkgbodifjlaaaGreatDoor.Gl

/-
  Chapter 48, plain: a drawn text with few pixels of each cell inverted.
  No condition.
-/
namespace Go.Proofs.YtamkgbodifjlaaaGreatDoor.Gl

/-- Where two bitmaps differ. -/
def dif (a b : List Bool) (N : Nat) : List Bool := (List.range N).map fun q => a.getD q false != b.getD q false
theorem dif_at (a b : List Bool) (N q : Nat) (hq : q < N) : (dif a b N).getD q false = (a.getD q false != b.getD q false) := by
  simp [dif, List.getD_eq_getElem?_getD, hq]
theorem countP_or (P Q R : Nat → Bool) : ∀ l : List Nat, (∀ i ∈ l, P i = true → Q i = true ∨ R i = true) → l.countP P ≤ l.countP Q + l.countP R
  | [], _ => by simp
  | a :: l, h => by
    have h1 := countP_or P Q R l fun i hi => h i (List.mem_cons_of_mem _ hi)
    have h2 := h a (List.mem_cons_self ..)
    rw [List.countP_cons, List.countP_cons, List.countP_cons]
    by_cases hp : P a = true
    · rcases h2 hp with h3 | h3
      · rw [if_pos hp, if_pos h3]; split <;> omega
      · rw [if_pos hp, if_pos h3]; split <;> omega
    · rw [if_neg hp]; omega
theorem cellN_or (a b d : List Bool) (W xr yb x y k : Nat) : ∀ j, (∀ v i, v < j → i < k → x + i < xr → y + v < yb → a.getD ((y + v) * W + (x + i)) false = true → b.getD ((y + v) * W + (x + i)) false = true ∨ d.getD ((y + v) * W + (x + i)) false = true) → cellN a W xr yb x y k j ≤ cellN b W xr yb x y k j + cellN d W xr yb x y k j
  | 0, _ => by simp [cellN]
  | j + 1, h => by
    have h1 := cellN_or a b d W xr yb x y k j fun v i hv => h v i (by omega)
    have h2 := countP_or (fun i => decide (x + i < xr) && decide (y + j < yb) && a.getD ((y + j) * W + (x + i)) false) (fun i => decide (x + i < xr) && decide (y + j < yb) && b.getD ((y + j) * W + (x + i)) false) (fun i => decide (x + i < xr) && decide (y + j < yb) && d.getD ((y + j) * W + (x + i)) false) (List.range k) (fun i hi hp => by
      simp only [Bool.and_eq_true, decide_eq_true_eq] at hp ⊢
      have := h j i (Nat.lt_succ_self j) (List.mem_range.1 hi) hp.1.1 hp.1.2 hp.2
      rcases this with h | h
      · exact .inl ⟨hp.1, h⟩
      · exact .inr ⟨hp.1, h⟩)
    unfold cellN cellRow
    omega
theorem cellN_congr (a b : List Bool) (W xr yb x y k : Nat) : ∀ j, (∀ v i, v < j → i < k → x + i < xr → y + v < yb → a.getD ((y + v) * W + (x + i)) false = b.getD ((y + v) * W + (x + i)) false) → cellN a W xr yb x y k j = cellN b W xr yb x y k j
  | 0, _ => rfl
  | j + 1, h => by
    have h1 := cellN_congr a b W xr yb x y k j fun v i hv => h v i (by omega)
    unfold cellN cellRow
    rw [h1, List.countP_congr (fun i hi => ?_)]
    have := h j i (Nat.lt_succ_self j) (List.mem_range.1 hi)
    simp only [Bool.and_eq_true, decide_eq_true_eq]
    constructor
    · rintro ⟨h2, h3⟩; exact ⟨h2, by rw [← this h2.1 h2.2]; exact h3⟩
    · rintro ⟨h2, h3⟩; exact ⟨h2, by rw [this h2.1 h2.2]; exact h3⟩
/-- One pixel more. -/
theorem cellN_near (a b : List Bool) (W yb x y k p : Nat) (h : ∀ q, q ≠ p → a.getD q false = b.getD q false) : ∀ j, cellN a W W yb x y k j ≤ cellN b W W yb x y k j + if y ≤ p / W ∧ p / W < y + j then 1 else 0
  | 0 => by simp [cellN]
  | j + 1 => by
    have h1 := cellN_near a b W yb x y k p h j
    unfold cellN
    by_cases e : p / W = y + j
    · have h2 := countP_near (fun i => decide (x + i < W) && decide (y + j < yb) && a.getD ((y + j) * W + (x + i)) false) (fun i => decide (x + i < W) && decide (y + j < yb) && b.getD ((y + j) * W + (x + i)) false) (p % W - x) k (fun i hi hne => by
        by_cases hx : x + i < W
        · have hq : (y + j) * W + (x + i) ≠ p := by
            intro e2
            have : ((y + j) * W + (x + i)) % W = x + i := by rw [Nat.mul_comm, Nat.mul_add_mod, Nat.mod_eq_of_lt hx]
            rw [e2] at this
            omega
          rw [h _ hq]
        · simp [hx])
      rw [if_neg (by omega)] at h1
      rw [if_pos (by omega)]
      unfold cellRow
      split at h2 <;> omega
    · have h2 : cellRow a W W yb x (y + j) k = cellRow b W W yb x (y + j) k := by
        unfold cellRow
        refine List.countP_congr (fun i _ => ?_)
        by_cases hx : x + i < W
        · have hq : (y + j) * W + (x + i) ≠ p := by
            intro e2
            refine e ?_
            rw [← e2, Nat.mul_comm, Nat.mul_add_div (by omega), Nat.div_eq_of_lt hx]; omega
          rw [h _ hq]
        · simp [hx]
      rw [h2]
      by_cases e2 : y ≤ p / W ∧ p / W < y + j
      · rw [if_pos e2] at h1
        rw [if_pos (by omega)]; omega
      · rw [if_neg e2] at h1
        rw [if_neg (by omega)]; omega
theorem cellN_zero (a : List Bool) (W xr yb x y k : Nat) (h : ∀ q, a.getD q false = false) : ∀ j, cellN a W xr yb x y k j = 0
  | 0 => rfl
  | j + 1 => by
    unfold cellN cellRow
    rw [cellN_zero a W xr yb x y k h j, List.countP_congr (q := fun _ => false) (fun i _ => by rw [h]; simp)]
    simp

/-- Fewer than half of the pixels of each cell are inverted. -/
structure Noisy (s : List UInt8) (k : Nat) (m : List Bool) (us : List Nat) : Prop where
  len : m.length = wid s k * (7 * k)
  ulen : us.length = 6 * s.length * 7
  low : ∀ cx cy, cx < 6 * s.length - 1 → cy < 7 → cellN (dif m (drawn s k) (wid s k * (7 * k))) (wid s k) (wid s k) (7 * k) (cx * k) (cy * k) k k ≤ us.getD (cy * (6 * s.length) + cx) 0
  half : ∀ c, 2 * us.getD c 0 < k * k
theorem Noisy.start (s : List UInt8) (k : Nat) (hk : 0 < k) : Noisy s k (drawn s k) (List.replicate (6 * s.length * 7) 0) where
  len := drawn_len s k
  ulen := by simp
  low cx cy _ _ := by
    rw [cellN_zero]
    · exact Nat.zero_le _
    · intro q
      by_cases hq : q < wid s k * (7 * k)
      · rw [dif_at _ _ _ _ hq]; simp
      · simp [dif, List.getD_eq_getElem?_getD, hq]
  half c := by
    have : (List.replicate (6 * s.length * 7) 0).getD c 0 = 0 := by
      rw [List.getD_eq_getElem?_getD, List.getElem?_replicate]
      split <;> rfl
    rw [this]
    exact Nat.mul_pos hk hk
theorem set_at {α : Type} (l : List α) (i j : Nat) (x d : α) (hi : i < l.length) : (l.set i x).getD j d = if j = i then x else l.getD j d := by
  rw [List.getD_eq_getElem?_getD, List.getD_eq_getElem?_getD, List.getElem?_set]
  by_cases e : j = i
  · subst e; simp [hi]
  · rw [if_neg (fun h : i = j => e h.symm), if_neg e]
theorem Noisy.step {s : List UInt8} {k : Nat} {m : List Bool} {us : List Nat} (h : Noisy s k m us) (hk : 0 < k) {p : Nat} (hp : p < wid s k * (7 * k)) (hc : 2 * (us.getD (p / wid s k / k * (6 * s.length) + p % wid s k / k) 0 + 1) < k * k) :
    Noisy s k (m.set p (!m.getD p false)) (us.set (p / wid s k / k * (6 * s.length) + p % wid s k / k) (us.getD (p / wid s k / k * (6 * s.length) + p % wid s k / k) 0 + 1)) := by
  have hw : 0 < wid s k := by
    rcases Nat.eq_zero_or_pos (wid s k) with h0 | h0
    · rw [h0, Nat.zero_mul] at hp; omega
    · exact h0
  have h1 : p / wid s k < 7 * k := (Nat.div_lt_iff_lt_mul hw).2 (by rw [Nat.mul_comm]; exact hp)
  have h2 : p % wid s k < (6 * s.length - 1) * k := Nat.mod_lt _ hw
  have h3 : p / wid s k / k < 7 := (Nat.div_lt_iff_lt_mul hk).2 h1
  have h4 : p % wid s k / k < 6 * s.length - 1 := (Nat.div_lt_iff_lt_mul hk).2 h2
  have hcl : p / wid s k / k * (6 * s.length) + p % wid s k / k < us.length := by
    rw [h.ulen]
    have : p / wid s k / k * (6 * s.length) ≤ 6 * (6 * s.length) := Nat.mul_le_mul_right _ (by omega)
    omega
  refine ⟨by rw [List.length_set]; exact h.len, by rw [List.length_set]; exact h.ulen, fun cx cy hx hy => ?_, fun c => ?_⟩
  · have hd : ∀ q, q ≠ p → (dif (m.set p (!m.getD p false)) (drawn s k) (wid s k * (7 * k))).getD q false = (dif m (drawn s k) (wid s k * (7 * k))).getD q false := fun q hq => by
      by_cases hl : q < wid s k * (7 * k)
      · rw [dif_at _ _ _ _ hl, dif_at _ _ _ _ hl, set_at _ _ _ _ _ (by rw [h.len]; exact hp), if_neg hq]
      · simp [dif, List.getD_eq_getElem?_getD, hl]
    rw [set_at _ _ _ _ _ hcl]
    have hlow := h.low cx cy hx hy
    split
    · rename_i e
      have := cellN_near _ _ (wid s k) (7 * k) (cx * k) (cy * k) k p hd k
      rw [e] at hlow
      split at this <;> omega
    · rename_i e
      rw [cellN_congr _ (dif m (drawn s k) (wid s k * (7 * k))) _ _ _ _ _ _ k (fun v i hv hi hxi hyv => hd _ (fun e2 => e ?_))]
      · exact hlow
      · have e3 : p / wid s k = cy * k + v := by
          rw [← e2, Nat.mul_comm, Nat.mul_add_div hw, Nat.div_eq_of_lt hxi, Nat.add_zero]
        have e4 : p % wid s k = cx * k + i := by
          rw [← e2, Nat.mul_comm, Nat.mul_add_mod, Nat.mod_eq_of_lt hxi]
        rw [e3, e4, div_cell hv, div_cell hi]
  · rw [set_at _ _ _ _ _ hcl]
    split
    · exact hc
    · exact h.half c
theorem Noisy.cell {s : List UInt8} {k : Nat} {m : List Bool} {us : List Nat} (h : Noisy s k m us) (_hk : 0 < k) {i : Nat} (hi : i < s.length) : cells m (wid s k) (0 + wid s k) (0 + 7 * k) (0 + 6 * i * k) 0 k = pix (s.getD i 32) := by
  unfold cells pix
  refine List.map_congr_left fun j hj => ?_
  have hj := List.mem_range.1 hj
  have hw : 6 * i * k + 5 * k ≤ wid s k := by
    unfold wid
    rw [← Nat.add_mul]
    exact Nat.mul_le_mul_right k (by omega)
  have hq : j % 5 * k ≤ 4 * k := Nat.mul_le_mul_right k (by omega)
  have hr : j / 5 * k ≤ 6 * k := Nat.mul_le_mul_right k (by omega)
  have hbase : cellN (drawn s k) (wid s k) (wid s k) (7 * k) (6 * i * k + j % 5 * k) (j / 5 * k) k k = if bitAt (code (s.getD i 32)) j then k * k else 0 := by
    refine cellN_const _ _ _ _ _ _ _ _ k fun v hv u hu => ?_
    have e := px_cell s k i j u v hj hu hv
    rw [drawn_at s k _ _ (by omega) (by omega), e, decide_eq_true (by omega), decide_eq_true (by omega)]
    simp
  have hcx : 6 * i * k + j % 5 * k = (6 * i + j % 5) * k := (Nat.add_mul _ _ _).symm
  have hlow := h.low (6 * i + j % 5) (j / 5) (by omega) (by omega)
  have hhalf := h.half (j / 5 * (6 * s.length) + (6 * i + j % 5))
  rw [← hcx] at hlow
  have hN : ∀ v u, v < k → u < k → (j / 5 * k + v) * wid s k + (6 * i * k + j % 5 * k + u) < wid s k * (7 * k) := fun v u hv hu => by
    have h1 : (j / 5 * k + v + 1) * wid s k ≤ 7 * k * wid s k := Nat.mul_le_mul_right _ (by omega)
    rw [Nat.succ_mul] at h1
    rw [Nat.mul_comm (wid s k)]
    omega
  have t1 := cellN_or m (drawn s k) (dif m (drawn s k) (wid s k * (7 * k))) (wid s k) (wid s k) (7 * k) (6 * i * k + j % 5 * k) (j / 5 * k) k k (fun v u hv hu _ _ h1 => by
    rw [dif_at _ _ _ _ (hN v u hv hu), h1]
    cases (drawn s k).getD ((j / 5 * k + v) * wid s k + (6 * i * k + j % 5 * k + u)) false <;> simp)
  have t2 := cellN_or (drawn s k) m (dif m (drawn s k) (wid s k * (7 * k))) (wid s k) (wid s k) (7 * k) (6 * i * k + j % 5 * k) (j / 5 * k) k k (fun v u hv hu _ _ h1 => by
    rw [dif_at _ _ _ _ (hN v u hv hu), h1]
    cases m.getD ((j / 5 * k + v) * wid s k + (6 * i * k + j % 5 * k + u)) false <;> simp)
  rw [hbase] at t1 t2
  unfold Gl.cell
  simp only [Nat.zero_add]
  cases hb : bitAt (code (s.getD i 32)) j with
  | true =>
    rw [hb, if_pos rfl] at t2
    exact decide_eq_true (by omega)
  | false =>
    rw [hb] at t1
    simp only [Bool.false_eq_true, if_false, Nat.zero_add] at t1
    exact decide_eq_false (by omega)
theorem read_noisy {s : List UInt8} {k : Nat} {m : List Bool} {us : List Nat} (h : Noisy s k m us) (hk : 0 < k) (hl : 0 < s.length) : read m (wid s k) 0 0 (wid s k) (7 * k) k = (List.range s.length).map fun i => (0 + 6 * i * k, ranked (pix (s.getD i 32))) := by
  unfold read
  rw [many_text s.length k (wid s k) hl hk (by unfold wid; exact Nat.mul_lt_mul_of_pos_right (by omega) hk) (Nat.le_refl _)]
  refine List.map_congr_left fun i hi => ?_
  rw [h.cell hk (List.mem_range.1 hi)]
end Go.Proofs.YtamkgbodifjlaaaGreatDoor.Gl
