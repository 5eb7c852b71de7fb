/-
  Chapter 11, plain: digits drawn and read, rows trimmed.
  No condition.
-/
import Derived.Test.YtfpliihglgjijaaGreatEa
namespace Go.Proofs.YtfpliihglgjijaaGreat.Ea

theorem dig_iff {c : UInt8} : Cd.isDig c.toNat = true ↔ 48 ≤ c.toNat ∧ c.toNat ≤ 57 := by
  unfold Cd.isDig; simp; omega
theorem digs_iff {l : List UInt8} : digs l = true ↔ ∀ c ∈ l, 48 ≤ c.toNat ∧ c.toNat ≤ 57 := by
  unfold digs; rw [List.all_eq_true]; exact ⟨fun h c hc => dig_iff.1 (h c hc), fun h c hc => dig_iff.2 (h c hc)⟩
theorem digs_app {a b : List UInt8} : digs (a ++ b) = true ↔ digs a = true ∧ digs b = true := by unfold digs; simp
theorem digs_take {l : List UInt8} (h : digs l = true) (n : Nat) : digs (l.take n) = true := digs_iff.2 fun c hc => digs_iff.1 h c (List.mem_of_mem_take hc)
theorem digs_drop {l : List UInt8} (h : digs l = true) (n : Nat) : digs (l.drop n) = true := digs_iff.2 fun c hc => digs_iff.1 h c (List.mem_of_mem_drop hc)
theorem idx_some {α : Type} [DecidableEq α] : ∀ {l : List α} {y : α} {n : Nat}, idx l y = some n → l[n]? = some y := by
  intro l
  induction l with
  | nil => intro y n h; cases h
  | cons x l ih =>
    intro y n h
    unfold idx at h
    split at h
    · rename_i e; subst e; cases h; rfl
    · cases hi : idx l y with
      | none => rw [hi] at h; cases h
      | some m => rw [hi] at h; cases h; simpa using ih hi
theorem modl_len : ∀ (t : Fin 3) (d : Fin 10), (modl t d).length = 7 := by decide
theorem modl_len' {t d : Nat} (ht : t < 3) (hd : d < 10) : (modl t d).length = 7 := modl_len ⟨t, ht⟩ ⟨d, hd⟩
theorem look_modl : ∀ (t : Fin 2) (d : Fin 10), look true 0 (modl t d) = some (d.1, t.1) := by decide
theorem look_one : ∀ (t : Fin 3) (d : Fin 10), look false t (modl t d) = some (d.1, t.1) := by decide
theorem lookT_some {t d : Nat} {m : List Bool} (ht : t < 3) (h : lookT t m = some d) : d < 10 ∧ m = modl t d := by
  have h1 := idx_some h
  have h2 : (tab.getD t []).length = 10 := by
    have : ∀ t : Fin 3, (tab.getD t []).length = 10 := by decide
    exact this ⟨t, ht⟩
  obtain ⟨h3, h4⟩ := List.getElem?_eq_some_iff.1 h1
  refine ⟨by omega, ?_⟩
  unfold modl
  rw [List.getD_eq_getElem?_getD, h1]; rfl
/-- A set that may stand there. -/
def may (both : Bool) (t u : Nat) : Prop := if both = true then u < 2 else u = t
theorem look_some {both : Bool} {t d u : Nat} {m : List Bool} (ht : t < 3) (h : look both t m = some (d, u)) : d < 10 ∧ m = modl u d ∧ may both t u := by
  unfold look at h
  cases both with
  | true =>
    rw [if_pos rfl] at h
    cases h1 : lookT 1 m with
    | some d1 =>
      rw [h1] at h; cases h
      obtain ⟨h3, h4⟩ := lookT_some (by omega) h1
      exact ⟨h3, h4, by unfold may; rw [if_pos rfl]; omega⟩
    | none =>
      rw [h1] at h
      cases h2 : lookT 0 m with
      | none => rw [h2] at h; cases h
      | some d2 =>
        rw [h2] at h; cases h
        obtain ⟨h3, h4⟩ := lookT_some (by omega) h2
        exact ⟨h3, h4, by unfold may; rw [if_pos rfl]; omega⟩
  | false =>
    rw [if_neg (by simp)] at h
    cases h2 : lookT t m with
    | none => rw [h2] at h; cases h
    | some d2 =>
      rw [h2] at h; cases h
      obtain ⟨h3, h4⟩ := lookT_some ht h2
      exact ⟨h3, h4, by unfold may; rw [if_neg (by simp)]⟩
theorem look_of {both : Bool} {t d u : Nat} (ht : t < 3) (hd : d < 10) (hu : may both t u) : look both t (modl u d) = some (d, u) := by
  unfold may at hu
  cases both with
  | true =>
    rw [if_pos rfl] at hu
    have h1 : look true t (modl u d) = look true 0 (modl u d) := by unfold look; simp
    rw [h1]; exact look_modl ⟨u, hu⟩ ⟨d, hd⟩
  | false => rw [if_neg (by simp)] at hu; subst hu; exact look_one ⟨u, ht⟩ ⟨d, hd⟩
theorem may_lt {both : Bool} {t u : Nat} (ht : t < 3) (h : may both t u) : u < 3 := by
  unfold may at h; cases both <;> simp at h <;> omega
theorem chr_sub {c : UInt8} (h : 48 ≤ c.toNat ∧ c.toNat ≤ 57) : UInt8.ofNat (48 + (c.toNat - 48)) = c := by
  rw [show 48 + (c.toNat - 48) = c.toNat by omega]; simp
theorem chr_nat {d : Nat} (h : d < 10) : (UInt8.ofNat (48 + d)).toNat = 48 + d := by
  simp; omega

theorem drw_cons (sep : List Bool) (c : UInt8) (l : List UInt8) (t : Nat) (ts : List Nat) : drw sep (c :: l) (t :: ts) = modl t (c.toNat - 48) ++ (if l = [] then [] else sep ++ drw sep l ts) := by
  cases l with
  | nil => simp [drw]
  | cons d l => simp [drw]
theorem drw_len (sep : List Bool) : ∀ (l : List UInt8) (us : List Nat), digs l = true → us.length = l.length → (∀ u ∈ us, u < 3) → (drw sep l us).length = 7 * l.length + sep.length * (l.length - 1) := by
  intro l
  induction l with
  | nil => intro us _ _ _; simp [drw]
  | cons c l ih =>
    intro us h1 h2 h3
    cases us with
    | nil => simp at h2
    | cons u us =>
      have hc := digs_iff.1 h1 c (List.mem_cons_self ..)
      rw [drw_cons, List.length_append, modl_len' (h3 u (List.mem_cons_self ..)) (by omega)]
      by_cases h0 : l = []
      · subst h0; simp
      · have hp := List.length_pos_iff.2 h0
        rw [if_neg h0, List.length_append, ih us (digs_iff.2 fun c hc => digs_iff.1 h1 c (List.mem_cons_of_mem _ hc)) (by simpa using h2) (fun u hu => h3 u (List.mem_cons_of_mem _ hu))]
        simp only [List.length_cons, Nat.add_sub_cancel]
        have : sep.length * l.length = sep.length * (l.length - 1) + sep.length := by
          conv => lhs; rw [show l.length = (l.length - 1) + 1 by omega]
          rw [Nat.mul_add, Nat.mul_one]
        omega
theorem drop_app {α : Type} (a b : List α) (n : Nat) (h : n = a.length) : (a ++ b).drop n = b := by subst h; simp
theorem take_app {α : Type} (a b : List α) (n : Nat) (h : n = a.length) : (a ++ b).take n = a := by subst h; simp
/-- What was drawn is read. -/
theorem rcg_drw (both : Bool) (t : Nat) (ht : t < 3) (sep : List Bool) : ∀ (l : List UInt8) (us : List Nat) (rest : List Bool), digs l = true → us.length = l.length → (∀ u ∈ us, may both t u) →
    rcg both t sep.length l.length (drw sep l us ++ rest) = some (l, us) := by
  intro l
  induction l with
  | nil => intro us rest _ h2 _; rw [List.length_nil] at h2; rw [List.eq_nil_of_length_eq_zero h2]; rfl
  | cons c l ih =>
    intro us rest h1 h2 h3
    cases us with
    | nil => simp at h2
    | cons u us =>
      have hc := digs_iff.1 h1 c (List.mem_cons_self ..)
      have hu := h3 u (List.mem_cons_self ..)
      have hm := modl_len' (may_lt ht hu) (show c.toNat - 48 < 10 by omega)
      rw [drw_cons, List.length_cons, rcg, List.append_assoc, take_app _ _ 7 hm.symm, look_of ht (by omega) hu]
      dsimp only
      have hi := fun rest => ih us rest (digs_iff.2 fun c hc => digs_iff.1 h1 c (List.mem_cons_of_mem _ hc)) (by simpa using h2) (fun u hu => h3 u (List.mem_cons_of_mem _ hu))
      by_cases h0 : l = []
      · subst h0
        have : us = [] := List.eq_nil_of_length_eq_zero (by simpa using h2)
        subst this
        simp only [List.length_nil, rcg, chr_sub hc]
      · rw [if_neg h0, show (modl u (c.toNat - 48) ++ (sep ++ drw sep l us ++ rest)) = (modl u (c.toNat - 48) ++ sep) ++ (drw sep l us ++ rest) by simp, drop_app _ _ (7 + sep.length) (by rw [List.length_append, hm]), hi]
        simp only [chr_sub hc]
/-- What is read was drawn. -/
theorem rcg_inv (both : Bool) (t : Nat) (ht : t < 3) : ∀ (n : Nat) (s : List Bool) (l : List UInt8) (us : List Nat), rcg both t 0 n s = some (l, us) → 7 * n ≤ s.length →
    s.take (7 * n) = drw [] l us ∧ l.length = n ∧ us.length = n ∧ digs l = true ∧ ∀ u ∈ us, may both t u := by
  intro n
  induction n with
  | zero => intro s l us h _; cases h; exact ⟨rfl, rfl, rfl, rfl, fun u hu => by cases hu⟩
  | succ n ih =>
    intro s l us h hs
    rw [rcg] at h
    cases h1 : look both t (s.take 7) with
    | none => rw [h1] at h; cases h
    | some p =>
      obtain ⟨d, u⟩ := p
      rw [h1] at h
      dsimp only at h
      cases h2 : rcg both t 0 n (s.drop (7 + 0)) with
      | none => rw [h2] at h; cases h
      | some q =>
        obtain ⟨ds, vs⟩ := q
        rw [h2] at h
        dsimp only at h
        cases h
        obtain ⟨e1, e2, e3⟩ := look_some ht h1
        obtain ⟨f1, f2, f3, f4, f5⟩ := ih _ _ _ h2 (by rw [List.length_drop]; omega)
        refine ⟨?_, by simp [f2], by simp [f3], ?_, ?_⟩
        · rw [drw_cons, chr_nat e1, Nat.add_sub_cancel_left, ← e2, Nat.mul_add, Nat.mul_one, Nat.add_comm, List.take_add, ← f1]
          congr 1
          by_cases h0 : ds = []
          · rw [if_pos h0]
            have : n = 0 := by rw [← f2, h0]; rfl
            subst this; simp
          · rw [if_neg h0]; simp
        · refine digs_iff.2 fun c hc => ?_
          rcases List.mem_cons.1 hc with rfl | hc
          · rw [chr_nat e1]; omega
          · exact digs_iff.1 f4 c hc
        · intro v hv
          rcases List.mem_cons.1 hv with rfl | hv
          · exact e3
          · exact f5 v hv

/-! ### Reading from the left -/
theorem modl_inj : ∀ (t t' : Fin 3) (d d' : Fin 10), modl t d = modl t' d' → t = t' ∧ d = d' := by decide +kernel
theorem look_none {both : Bool} {t : Nat} (ht : t < 3) {m : List Bool} (h : look both t m = none) {d u : Nat} (hd : d < 10) (hu : may both t u) : m ≠ modl u d := by
  rintro rfl
  rw [look_of ht hd hu] at h; cases h
theorem look_uniq {both : Bool} {t : Nat} (ht : t < 3) {m : List Bool} {d0 u0 : Nat} (h : look both t m = some (d0, u0)) {d u : Nat} (hd : d < 10) (hu : may both t u) : m = modl u d ↔ d = d0 ∧ u = u0 := by
  obtain ⟨h1, h2, h3⟩ := look_some ht h
  constructor
  · rintro e
    have := modl_inj ⟨u, may_lt ht hu⟩ ⟨u0, may_lt ht h3⟩ ⟨d, hd⟩ ⟨d0, h1⟩ (e.symm.trans h2)
    simp at this
    exact ⟨this.2, this.1⟩
  · rintro ⟨rfl, rfl⟩; exact h2
/-- What has been read, and what is still to be read. -/
def sofar (r : Option (List UInt8 × List Nat)) (ds : List UInt8) (us : List Nat) : Option (List UInt8 × List Nat) := r.map (fun p => (ds ++ p.1, us ++ p.2))
theorem sofar_nil (r : Option (List UInt8 × List Nat)) : sofar r [] [] = r := by unfold sofar; cases r <;> rfl
theorem sofar_end (ds : List UInt8) (us : List Nat) : sofar (some ([], [])) ds us = some (ds, us) := by unfold sofar; simp
theorem sofar_none (ds : List UInt8) (us : List Nat) : sofar none ds us = none := rfl
theorem rcg_none {both : Bool} {t gap n : Nat} {s : List Bool} (h : look both t (s.take 7) = none) : rcg both t gap (n + 1) s = none := by rw [rcg, h]
theorem rcg_some {both : Bool} {t gap n : Nat} {s : List Bool} {d u : Nat} (h : look both t (s.take 7) = some (d, u)) (ds : List UInt8) (us : List Nat) : sofar (rcg both t gap (n + 1) s) ds us = sofar (rcg both t gap n (s.drop (7 + gap))) (ds ++ [chr d]) (us ++ [u]) := by
  rw [rcg, h]
  dsimp only
  cases rcg both t gap n (s.drop (7 + gap)) with
  | none => rfl
  | some p => obtain ⟨l, v⟩ := p; unfold sofar chr; simp

/-! ### Light modules at the ends -/
theorem ldg_lgt (n : Nat) (l : List Bool) : ldg (lgt n ++ true :: l) = n := by
  unfold lgt
  induction n with
  | zero => rfl
  | succ n ih => rw [List.replicate_succ, List.cons_append, ldg]; simp [ih]
theorem ldg_le (l : List Bool) : ldg l ≤ l.length := by
  induction l with
  | nil => simp [ldg]
  | cons b l ih => unfold ldg; split <;> simp; omega
theorem ldg_split : ∀ (l : List Bool), ldg l < l.length → ∃ r, l = lgt (ldg l) ++ true :: r := by
  intro l
  induction l with
  | nil => intro h; simp [ldg] at h
  | cons b l ih =>
    intro h
    cases b with
    | true => exact ⟨l, by simp [ldg, lgt]⟩
    | false =>
      have e : ldg (false :: l) = ldg l + 1 := by simp [ldg]
      rw [e] at h ⊢
      obtain ⟨r, hr⟩ := ih (by simpa using h)
      refine ⟨r, ?_⟩
      unfold lgt at *
      rw [List.replicate_succ, List.cons_append, ← hr]
theorem rev_lgt (n : Nat) : (lgt n).reverse = lgt n := by unfold lgt; simp
theorem lgt_len (n : Nat) : (lgt n).length = n := by unfold lgt; simp
theorem trl_lgt (n : Nat) (l : List Bool) : trl (l ++ [true] ++ lgt n) = n := by
  unfold trl; rw [List.reverse_append, rev_lgt, List.reverse_append]; exact ldg_lgt _ _
/-- A row of some light modules around modules that begin and end dark. -/
theorem dec_mid (L R : Nat) (m : List Bool) (h7 : 7 ≤ L ∧ 7 ≤ R) (h1 : m.head? = some true) (h2 : m.getLast? = some true) (hlen : L + m.length + R ≤ 65536) :
    dec (lgt L ++ m ++ lgt R) = decF m 7 shapes := by
  obtain ⟨r, rfl⟩ : ∃ r, m = true :: r := by cases m with
    | nil => cases h1
    | cons b r => simp at h1; exact ⟨r, by rw [h1]⟩
  obtain ⟨q, hq⟩ : ∃ q, true :: r = q ++ [true] := by
    obtain ⟨q, hq⟩ := List.getLast?_eq_some_iff.1 h2
    exact ⟨q, hq⟩
  have e1 : ldg (lgt L ++ (true :: r) ++ lgt R) = L := by rw [List.append_assoc, List.cons_append]; exact ldg_lgt _ _
  have e2 : trl (lgt L ++ (true :: r) ++ lgt R) = R := by rw [hq, ← List.append_assoc (lgt L) q [true]]; exact trl_lgt _ _
  have e3 : (lgt L ++ (true :: r) ++ lgt R).length = L + (true :: r).length + R := by rw [List.length_append, List.length_append, lgt_len, lgt_len]
  unfold dec
  rw [e1, e2, e3, if_neg (by omega), if_neg (by simp; omega), if_neg (by omega)]
  rw [List.append_assoc, drop_app _ _ L (lgt_len _).symm, take_app _ _ _ (by omega)]
end Go.Proofs.YtfpliihglgjijaaGreat.Ea
