/-
  Chapter 48, plain: the states of Resolve, and a text that wins.
  No condition.
-/
import Derived.Test.YtamkgbodifjlaaaGreatDoorGlPb
import Derived.Test.YtamkgbodifjlaaaGreatDoorCd
import Derived.Maps.RangeWalk

/-
  Chapter 48, plain: the states of Resolve, and a text that wins.
  No condition.
-/
namespace Go.Proofs.YtamkgbodifjlaaaGreatDoor.Gl

/-- The key of the beginning of a text, filled up to n characters, and whether there is one. -/
def keyS (check : Int) (t : List UInt8) (n : Nat) : List UInt8 × Bool :=
  if check = 0 then ([], true) else ((Cd.compI check (t ++ List.replicate (n - t.length) 48)).1, (Cd.compI check (t ++ List.replicate (n - t.length) 48)).2 == 0)
def keyAt (check : Int) (n i : Nat) (t : List UInt8) : List UInt8 := if i = 0 then [] else (keyS check t n).1
/-- The partial texts of the first i glyphs. -/
def Good (os : List (List Ch)) : Nat → Pt → Prop
  | 0, p => p = ([], 0)
  | i + 1, p => ∃ q l c, Good os i q ∧ os[i]? = some l ∧ c ∈ l ∧ p = (q.1 ++ [c.1], q.2 + c.2)
theorem Good.len {os : List (List Ch)} : ∀ {i : Nat} {p : Pt}, Good os i p → p.1.length = i
  | 0, p, h => by unfold Good at h; rw [h]; rfl
  | i + 1, p, ⟨q, l, c, hq, _, _, e⟩ => by rw [e]; simp [Good.len hq]
theorem Good.cost {os : List (List Ch)} (h : ∀ l ∈ os, ∀ c ∈ l, 0 ≤ c.2 ∧ c.2 ≤ 35) : ∀ {i : Nat} {p : Pt}, Good os i p → 0 ≤ p.2 ∧ p.2 ≤ 35 * i
  | 0, p, hp => by unfold Good at hp; rw [hp]; simp
  | i + 1, p, ⟨q, l, c, hq, hl, hc, e⟩ => by
    have h1 := Good.cost h hq
    have h2 := h l (List.mem_of_getElem? hl) c hc
    rw [e]
    dsimp only
    omega
/-- T is, of all the partial texts with its key, the best one, and so on at each length. -/
structure Wins (os : List (List Ch)) (check : Int) (n : Nat) (T : Nat → Pt) : Prop where
  zero : T 0 = ([], 0)
  step : ∀ i, i < n → ∃ (l : List Ch) (j : Nat) (c : Ch), os[i]? = some l ∧ l[j]? = some c ∧ T (i + 1) = ((T i).1 ++ [c.1], (T i).2 + c.2)
  good : ∀ i, i ≤ n → 0 < i → (keyS check (T i).1 n).2 = true
  best : ∀ i, i ≤ n → ∀ q, Good os i q → (keyS check q.1 n).2 = true → (keyS check q.1 n).1 = (keyS check (T i).1 n).1 → q = T i ∨ (bet (T i) q = true ∧ bet q (T i) = false)
theorem Wins.isGood {os : List (List Ch)} {check : Int} {n : Nat} {T : Nat → Pt} (h : Wins os check n T) : ∀ i, i ≤ n → Good os i (T i)
  | 0, _ => h.zero
  | i + 1, hi => by
    obtain ⟨l, j, c, h1, h2, h3⟩ := h.step i (by omega)
    exact ⟨T i, l, c, h.isGood i (by omega), h1, List.mem_of_getElem? h2, h3⟩

/-! ### Keys are short -/
theorem len_of_sub {α : Type} [DecidableEq α] : ∀ (l m : List α), l.Nodup → (∀ x ∈ l, x ∈ m) → l.length ≤ m.length
  | [], _, _, _ => Nat.zero_le _
  | a :: l, m, hn, hs => by
    rw [List.nodup_cons] at hn
    have ha := hs a (List.mem_cons_self ..)
    have h1 := len_of_sub l (m.erase a) hn.2 (fun x hx => by
      have hxa : x ≠ a := fun e => hn.1 (e ▸ hx)
      exact (List.mem_erase_of_ne hxa).2 (hs x (List.mem_cons_of_mem _ hx)))
    rw [List.length_erase_of_mem ha] at h1
    have : 0 < m.length := List.length_pos_of_mem ha
    simp only [List.length_cons]
    omega
def code2 (l : List UInt8) : Nat := match l with
  | [] => 0
  | [a] => 1 + a.toNat
  | a :: b :: _ => 257 + a.toNat * 256 + b.toNat
theorem code2_lt (l : List UInt8) : code2 l < 65793 := by
  match l with
  | [] => simp [code2]
  | [a] => have := a.toNat_lt; simp only [code2]; omega
  | a :: b :: _ => have := a.toNat_lt; have := b.toNat_lt; simp only [code2]; omega
theorem code2_inj {l m : List UInt8} (hl : l.length ≤ 2) (hm : m.length ≤ 2) (h : code2 l = code2 m) : l = m := by
  match l, m with
  | [], [] => rfl
  | [], [a] => simp only [code2] at h; omega
  | [], a :: b :: _ => simp only [code2] at h; omega
  | [a], [] => simp only [code2] at h; omega
  | [a], [b] => simp only [code2] at h; rw [UInt8.toNat_inj.1 (show a.toNat = b.toNat by omega)]
  | [a], b :: c :: _ => have := a.toNat_lt; simp only [code2] at h; omega
  | a :: b :: _, [] => simp only [code2] at h; omega
  | a :: b :: _, [c] => have := c.toNat_lt; simp only [code2] at h; omega
  | a :: b :: l', c :: d :: m' =>
    have := a.toNat_lt
    have := b.toNat_lt
    have := c.toNat_lt
    have := d.toNat_lt
    simp only [code2] at h
    simp only [List.length_cons] at hl hm
    have e1 : l' = [] := List.eq_nil_of_length_eq_zero (by omega)
    have e2 : m' = [] := List.eq_nil_of_length_eq_zero (by omega)
    rw [UInt8.toNat_inj.1 (show a.toNat = c.toNat by omega), UInt8.toNat_inj.1 (show b.toNat = d.toNat by omega), e1, e2]
/-- Different short keys are not many. -/
theorem few_keys (l : List (List UInt8)) (hn : l.Nodup) (h : ∀ x ∈ l, x.length ≤ 2) : l.length ≤ 65793 := by
  have h1 : (l.map code2).Nodup := by
    show (l.map code2).Pairwise (· ≠ ·)
    rw [List.pairwise_map]
    exact List.Pairwise.imp_of_mem (fun hx hy hne e => hne (code2_inj (h _ hx) (h _ hy) e)) hn
  have h2 := len_of_sub (l.map code2) (List.range 65793) h1 (fun x hx => by
    obtain ⟨y, _, rfl⟩ := List.mem_map.1 hx
    exact List.mem_range.2 (code2_lt y))
  rw [List.length_map, List.length_range] at h2
  exact h2

/-! ### Completion -/
/-- The cost of the check characters among the choices of the further glyphs. -/
def rest : List (List Ch) → List UInt8 → Option Int
  | [], _ => some 0
  | l :: ls, k => match l.find? (fun c => c.1 == k.headD 0) with
    | none => none
    | some c => match rest ls k.tail with
      | none => none
      | some n => some (c.2 + n)
end Go.Proofs.YtamkgbodifjlaaaGreatDoor.Gl

/-
  Chapter 48, plain: the map of states, as it is read.
  No condition.
-/
namespace Go.Proofs.YtamkgbodifjlaaaGreatDoor
open Go.Maps

section
variable {H : Type}
def Gl.dat (p : Gl.Pt) : DataW H := .agg [.lit (.string p.1), .lit (.int .i64 p.2)]
theorem Gl.dat_inj {p q : Gl.Pt} (h : Gl.dat (H := H) p = Gl.dat q) : p = q := by
  unfold Gl.dat at h
  injection h with h
  simp only [List.cons.injEq, DataW.lit.injEq, Lit.string.injEq, Lit.int.injEq, true_and, and_true] at h
  exact Prod.ext h.1 h.2
/-- How a partial text reads. -/
def partR : Value → Option (DataW H × List MemPlace)
  | .agg cs => match cs.toList with
    | [.string s, .int .i64 c] => some (Gl.dat (s.data.toList, c), [])
    | _ => none
  | _ => none
theorem partR_mk (s : ByteArray) (c : Int) : partR (H := H) (.agg #[.string s, .int .i64 c]) = some (Gl.dat (s.data.toList, c), []) := rfl
theorem partR_inv {v : Value} {z : DataW H × List MemPlace} (h : partR v = some z) : ∃ s c, v = .agg #[.string s, .int .i64 c] ∧ z = (Gl.dat (s.data.toList, c), []) := by
  unfold partR at h
  split at h
  · rename_i cs
    split at h
    · rename_i s c e
      refine ⟨s, c, ?_, (Option.some.inj h).symm⟩
      congr 1
      exact Array.toList_inj.1 e
    · cases h
  · cases h

variable (os : List (List Gl.Ch)) (check : Int) (n : Nat)
/-- Each entry is a partial text of i characters under its key. -/
def Gl.States (i : Nat) (D : DataW H) : Prop := ∀ kl, Maps.has D kl = true → ∃ p, Gl.Good os i p ∧ (0 < i → (Gl.keyS check p.1 n).2 = true) ∧ kl = .string (Gl.keyAt check n i p.1) ∧ ∀ zd, D.atKey kl zd = Gl.dat p
/-- The winner is there. -/
def Gl.HasT (T : Nat → Gl.Pt) (i : Nat) (D : DataW H) : Prop := Maps.has D (.string (Gl.keyAt check n i (T i).1)) = true ∧ ∀ zd, D.atKey (.string (Gl.keyAt check n i (T i).1)) zd = Gl.dat (T i)

theorem Gl.cmpLen (k : Nat) (l : List UInt8) : (Cd.cmp k l).length ≤ 2 := by
  unfold Cd.cmp; split <;> simp
theorem Gl.compLen (k : Int) (l : List UInt8) : (Cd.compI k l).1.length ≤ 2 := by
  unfold Cd.compI Cd.comp
  split
  · simp
  · repeat' split
    all_goals first | exact Gl.cmpLen _ _ | simp
theorem Gl.keyS_len (check : Int) (t : List UInt8) (n : Nat) : (Gl.keyS check t n).1.length ≤ 2 := by
  unfold Gl.keyS
  split
  · simp
  · exact Gl.compLen _ _
theorem Gl.keyAt_len (check : Int) (n i : Nat) (t : List UInt8) : (Gl.keyAt check n i t).length ≤ 2 := by
  unfold Gl.keyAt
  split
  · simp
  · exact Gl.keyS_len _ _ _
variable {os check n}
/-- There are not many states. -/
theorem Gl.States.few {i : Nat} {D : DataW H} (h : Gl.States os check n i D) (ht : ∃ es, D = .map es ∧ es.Pairwise (fun p q => p.1 ≠ q.1) ∧ ∀ p ∈ es, WideAt.IsKeyLit p.1) : Maps.size D ≤ 65793 := by
  obtain ⟨es, rfl, hp, hi⟩ := ht
  have hk : ∀ p ∈ es, ∃ t : List UInt8, p.1 = .string t ∧ t.length ≤ 2 := fun p hp => by
    obtain ⟨q, _, _, h3, _⟩ := h p.1 (List.any_eq_true.2 ⟨p, hp, WideAt.sameKey_self (hi p hp)⟩)
    exact ⟨_, h3, Gl.keyAt_len _ _ _ _⟩
  have hf := Gl.few_keys (es.map fun p => match p.1 with | .string t => t | _ => []) (by
    show List.Pairwise (· ≠ ·) _
    rw [List.pairwise_map]
    refine List.Pairwise.imp_of_mem (fun {a b} ha hb hne e => hne ?_) hp
    obtain ⟨t, e1, _⟩ := hk a ha
    obtain ⟨u, e2, _⟩ := hk b hb
    rw [e1, e2] at e ⊢
    dsimp only at e
    rw [e]) (fun x hx => by
    obtain ⟨p, hp, rfl⟩ := List.mem_map.1 hx
    obtain ⟨t, e1, h2⟩ := hk p hp
    rw [e1]; exact h2)
  rw [List.length_map] at hf
  exact hf
/-- The first map. -/
theorem Gl.States.start (T : Nat → Gl.Pt) (h0 : T 0 = ([], 0)) {D : DataW H} (hD : IsMap D) (he : ∀ kl, Maps.has D kl = false) (hK : WideAt.IsKeyLit (.string [])) :
    Gl.States os check n 0 (D.put (.string []) (Gl.dat ([], 0))) ∧ Gl.HasT check n T 0 (D.put (.string []) (Gl.dat ([], 0))) := by
  constructor
  · intro kl hk
    by_cases e : kl = .string []
    · subst e
      exact ⟨([], 0), rfl, fun h => absurd h (Nat.lt_irrefl 0), rfl, fun zd => atKey_put_same hD hK _ _⟩
    · rw [has_put_other e, he] at hk
      cases hk
  · unfold Gl.HasT
    rw [h0]
    exact ⟨has_put_same hD hK _, fun zd => atKey_put_same hD hK _ _⟩
theorem Gl.States.empty (i : Nat) {D : DataW H} (he : ∀ kl, Maps.has D kl = false) : Gl.States os check n i D := fun kl hk => by rw [he] at hk; cases hk
/-- A text is put in. -/
theorem Gl.States.put {i : Nat} {D : DataW H} (h : Gl.States os check n (i + 1) D) (hD : IsMap D) {q : Gl.Pt} (hq : Gl.Good os (i + 1) q) (ho : (Gl.keyS check q.1 n).2 = true) (hK : WideAt.IsKeyLit (.string (Gl.keyS check q.1 n).1)) :
    Gl.States os check n (i + 1) (D.put (.string (Gl.keyS check q.1 n).1) (Gl.dat q)) := by
  intro kl hk
  by_cases e : kl = .string (Gl.keyS check q.1 n).1
  · subst e
    exact ⟨q, hq, fun _ => ho, rfl, fun zd => atKey_put_same hD hK _ _⟩
  · rw [has_put_other e] at hk
    obtain ⟨p, h1, h2, h3, h4⟩ := h kl hk
    exact ⟨p, h1, h2, h3, fun zd => by rw [atKey_put_other e]; exact h4 zd⟩
/-- What stands at a text's key. -/
theorem Gl.States.at_ {i : Nat} {D : DataW H} (h : Gl.States os check n (i + 1) D) {k : List UInt8} (hk : Maps.has D (.string k) = true) : ∃ p, Gl.Good os (i + 1) p ∧ (Gl.keyS check p.1 n).2 = true ∧ (Gl.keyS check p.1 n).1 = k ∧ ∀ zd, D.atKey (.string k) zd = Gl.dat p := by
  obtain ⟨p, h1, h2, h3, h4⟩ := h _ hk
  injection h3 with h3
  exact ⟨p, h1, h2 (Nat.succ_pos i), h3.symm, h4⟩
variable {T : Nat → Gl.Pt}
/-- The winner stays. -/
theorem Gl.HasT.keep (W : Gl.Wins os check n T) {i : Nat} (hi : i + 1 ≤ n) {D : DataW H} (hT : Gl.HasT check n T (i + 1) D) (hD : IsMap D) {q : Gl.Pt} (hq : Gl.Good os (i + 1) q) (ho : (Gl.keyS check q.1 n).2 = true) (hK : WideAt.IsKeyLit (.string (Gl.keyS check q.1 n).1))
    (hb : Maps.has D (.string (Gl.keyS check q.1 n).1) = false ∨ ∃ p, (∀ zd, D.atKey (.string (Gl.keyS check q.1 n).1) zd = Gl.dat p) ∧ Gl.bet q p = true) : Gl.HasT check n T (i + 1) (D.put (.string (Gl.keyS check q.1 n).1) (Gl.dat q)) := by
  obtain ⟨h1, h2⟩ := hT
  have hka : Gl.keyAt check n (i + 1) (T (i + 1)).1 = (Gl.keyS check (T (i + 1)).1 n).1 := rfl
  rw [hka] at h1 h2
  by_cases e : (Gl.keyS check q.1 n).1 = (Gl.keyS check (T (i + 1)).1 n).1
  · rcases W.best (i + 1) hi q hq ho e with rfl | ⟨_, hb2⟩
    · exact ⟨has_put_same hD hK _, fun zd => atKey_put_same hD hK _ _⟩
    · exfalso
      rcases hb with hb | ⟨p, hp, hb⟩
      · rw [e, h1] at hb; cases hb
      · have := hp .nil
        rw [e, h2] at this
        rw [Gl.dat_inj this] at hb2
        rw [hb2] at hb; cases hb
  · have e' : (Lit.string (Gl.keyS check (T (i + 1)).1 n).1) ≠ .string (Gl.keyS check q.1 n).1 := fun h => by injection h with h; exact e h.symm
    unfold Gl.HasT
    rw [hka]
    exact ⟨by rw [has_put_other e']; exact h1, fun zd => by rw [atKey_put_other e']; exact h2 zd⟩
/-- The winner comes. -/
theorem Gl.HasT.comes (W : Gl.Wins os check n T) {i : Nat} (hi : i + 1 ≤ n) {D : DataW H} (hS : Gl.States os check n (i + 1) D) (hD : IsMap D) (hK : WideAt.IsKeyLit (.string (Gl.keyS check (T (i + 1)).1 n).1)) :
    (Maps.has D (.string (Gl.keyS check (T (i + 1)).1 n).1) = true → ∀ p, (∀ zd, D.atKey (.string (Gl.keyS check (T (i + 1)).1 n).1) zd = Gl.dat p) → Gl.bet (T (i + 1)) p = false → Gl.HasT check n T (i + 1) D) ∧
    Gl.HasT check n T (i + 1) (D.put (.string (Gl.keyS check (T (i + 1)).1 n).1) (Gl.dat (T (i + 1)))) := by
  refine ⟨fun hh p hp hb => ?_, has_put_same hD hK _, fun zd => atKey_put_same hD hK _ _⟩
  obtain ⟨p', h1, h2, h3, h4⟩ := hS.at_ hh
  have e : p' = p := Gl.dat_inj ((h4 .nil).symm.trans (hp .nil))
  subst e
  rcases W.best (i + 1) hi p' h1 h2 h3 with e | ⟨hb2, _⟩
  · rw [e] at h4
    exact ⟨hh, h4⟩
  · rw [hb2] at hb; cases hb
theorem Gl.step_put (W : Gl.Wins os check n T) {i : Nat} (hi : i + 1 ≤ n) {D : DataW H} (hS : Gl.States os check n (i + 1) D) (hD : IsMap D) {q : Gl.Pt} (hq : Gl.Good os (i + 1) q) (ho : (Gl.keyS check q.1 n).2 = true) (hK : WideAt.IsKeyLit (.string (Gl.keyS check q.1 n).1))
    (hb : Maps.has D (.string (Gl.keyS check q.1 n).1) = false ∨ ∃ p, (∀ zd, D.atKey (.string (Gl.keyS check q.1 n).1) zd = Gl.dat p) ∧ Gl.bet q p = true) {A A' : Prop} (hA : A → Gl.HasT check n T (i + 1) D) (hA' : A' → A ∨ q = T (i + 1)) (h : A') :
    Gl.HasT check n T (i + 1) (D.put (.string (Gl.keyS check q.1 n).1) (Gl.dat q)) := by
  rcases hA' h with h | rfl
  · exact Gl.HasT.keep W hi (hA h) hD hq ho hK hb
  · exact (Gl.HasT.comes W hi hS hD hK).2
theorem Gl.step_stay (W : Gl.Wins os check n T) {i : Nat} (hi : i + 1 ≤ n) {D : DataW H} (hS : Gl.States os check n (i + 1) D) (hD : IsMap D) {q p : Gl.Pt} (hK : WideAt.IsKeyLit (.string (Gl.keyS check q.1 n).1))
    (hh : Maps.has D (.string (Gl.keyS check q.1 n).1) = true) (hp : ∀ zd, D.atKey (.string (Gl.keyS check q.1 n).1) zd = Gl.dat p) (hb : Gl.bet q p = false) {A A' : Prop} (hA : A → Gl.HasT check n T (i + 1) D) (hA' : A' → A ∨ q = T (i + 1)) (h : A') :
    Gl.HasT check n T (i + 1) D := by
  rcases hA' h with h | rfl
  · exact hA h
  · exact (Gl.HasT.comes W hi hS hD hK).1 hh p hp hb
theorem Gl.step_skip (W : Gl.Wins os check n T) {i : Nat} (hi : i + 1 ≤ n) {D : DataW H} {q : Gl.Pt} (ho : (Gl.keyS check q.1 n).2 = false) {A A' : Prop} (hA : A → Gl.HasT check n T (i + 1) D) (hA' : A' → A ∨ q = T (i + 1)) (h : A') : Gl.HasT check n T (i + 1) D := by
  rcases hA' h with h | rfl
  · exact hA h
  · rw [W.good (i + 1) hi (Nat.succ_pos i)] at ho; cases ho
end
end Go.Proofs.YtamkgbodifjlaaaGreatDoor
