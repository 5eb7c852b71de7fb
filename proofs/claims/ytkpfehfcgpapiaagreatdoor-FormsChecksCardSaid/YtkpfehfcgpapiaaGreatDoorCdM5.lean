/-
  The corrections: which strings are among them, that they are different, and that the reference's list has the same strings.
  No condition.
-/
import Derived.Test.YtkpfehfcgpapiaaGreatDoorCdMa
import Derived.Sort.Walk0
namespace Go.Proofs.YtkpfehfcgpapiaaGreatDoor.Cd

abbrev leS (x y : List UInt8) : Bool := decide (x ≤ y)
theorem leS_trans (a b c : List UInt8) (h1 : leS a b = true) (h2 : leS b c = true) : leS a c = true := by
  rw [decide_eq_true_eq] at *; exact List.le_trans h1 h2
theorem leS_total (a b : List UInt8) : (leS a b || leS b a) = true := by
  rw [Bool.or_eq_true, decide_eq_true_eq, decide_eq_true_eq]; exact List.le_total a b
theorem leS_anti (a b : List UInt8) (h1 : leS a b = true) (h2 : leS b a = true) : a = b := by
  rw [decide_eq_true_eq] at *; exact List.le_antisymm h1 h2
theorem sort_pairwise (l : List (List UInt8)) : (l.mergeSort leS).Pairwise (fun x y => leS x y = true) := List.pairwise_mergeSort leS_trans leS_total l
theorem sort_unique (l m : List (List UInt8)) (hp : m.Perm l) (hs : m.Pairwise (fun x y => leS x y = true)) : m = l.mergeSort leS :=
  List.Perm.eq_of_pairwise (le := fun x y => leS x y = true) (fun a b _ _ h1 h2 => leS_anti a b h1 h2) hs (sort_pairwise l) (hp.trans (List.mergeSort_perm l leS).symm)

/-! ### Characters of the changed strings -/
theorem get_sub1 (l : List UInt8) (i : Nat) (c : UInt8) (h : i < l.length) (p : Nat) : (sub1 l i c).getD p 0 = if p = i then c else l.getD p 0 := by
  unfold sub1
  simp only [List.getD_eq_getElem?_getD]
  by_cases h1 : p < i
  · rw [if_neg (by omega), List.append_assoc, List.getElem?_append_left (by rw [List.length_take]; omega), List.getElem?_take, if_pos h1]
  · rw [List.append_assoc, List.getElem?_append_right (by rw [List.length_take]; omega), List.length_take, Nat.min_eq_left (by omega)]
    by_cases h2 : p = i
    · subst h2; rw [if_pos rfl, Nat.sub_self]; rfl
    · rw [if_neg h2, List.singleton_append, show p - i = (p - i - 1) + 1 by omega, List.getElem?_cons_succ, List.getElem?_drop]
      congr 2; omega
theorem len_sub1 (l : List UInt8) (i : Nat) (c : UInt8) (h : i < l.length) : (sub1 l i c).length = l.length := by
  simp only [sub1, List.length_append, List.length_take, List.length_drop, List.length_singleton]; omega
theorem split2 (l : List UInt8) (i : Nat) (h : i + 1 < l.length) : swp l i = l.take i ++ l.getD (i + 1) 0 :: l.getD i 0 :: l.drop (i + 2) := by
  have h0 : i < l.length := by omega
  have e0 : (l.drop i).take 1 = [l[i]] := by rw [List.drop_eq_getElem_cons h0]; rfl
  have e1 : (l.drop (i + 1)).take 1 = [l[i + 1]] := by rw [List.drop_eq_getElem_cons h]; rfl
  unfold swp
  rw [e0, e1, List.getD_eq_getElem?_getD, List.getElem?_eq_getElem h, List.getD_eq_getElem?_getD, List.getElem?_eq_getElem h0]
  simp only [Option.getD_some, List.append_assoc]
  rfl
theorem len_swp (l : List UInt8) (i : Nat) (h : i + 1 < l.length) : (swp l i).length = l.length := by
  rw [split2 l i h]
  simp only [List.length_append, List.length_take, List.length_cons, List.length_drop]; omega
theorem get_swp (l : List UInt8) (i : Nat) (h : i + 1 < l.length) (p : Nat) : (swp l i).getD p 0 = if p = i then l.getD (i + 1) 0 else if p = i + 1 then l.getD i 0 else l.getD p 0 := by
  rw [split2 l i h]
  simp only [List.getD_eq_getElem?_getD]
  by_cases h1 : p < i
  · rw [if_neg (by omega), if_neg (by omega), List.getElem?_append_left (by rw [List.length_take]; omega), List.getElem?_take, if_pos h1]
  · rw [List.getElem?_append_right (by rw [List.length_take]; omega), List.length_take, Nat.min_eq_left (by omega)]
    by_cases h2 : p = i
    · subst h2; rw [if_pos rfl, Nat.sub_self]; rfl
    · rw [if_neg h2]
      by_cases h3 : p = i + 1
      · subst h3; rw [if_pos rfl, show i + 1 - i = 1 by omega]; rfl
      · rw [if_neg h3, show p - i = (p - i - 2) + 1 + 1 by omega, List.getElem?_cons_succ, List.getElem?_cons_succ, List.getElem?_drop]
        congr 2; omega
theorem list_ext (a b : List UInt8) (hl : a.length = b.length) (h : ∀ p, p < a.length → a.getD p 0 = b.getD p 0) : a = b := by
  apply List.ext_getElem hl
  intro p h1 h2
  have := h p h1
  rw [List.getD_eq_getElem?_getD, List.getD_eq_getElem?_getD, List.getElem?_eq_getElem h1, List.getElem?_eq_getElem h2] at this
  exact this
theorem sub1_self (l : List UInt8) (i : Nat) (h : i < l.length) : sub1 l i (l.getD i 0) = l := by
  apply list_ext _ _ (len_sub1 l i _ h)
  intro p _
  rw [get_sub1 l i _ h]
  split
  · rename_i e; rw [e]
  · rfl
theorem sub1_ne (l : List UInt8) (i : Nat) (c : UInt8) (h : i < l.length) : sub1 l i c ≠ l ↔ c ≠ l.getD i 0 := by
  constructor
  · intro hn e; exact hn (by rw [e]; exact sub1_self l i h)
  · intro hn e
    have := congrArg (fun x => x.getD i 0) e
    simp only [get_sub1 l i c h, if_true] at this
    exact hn this
theorem sub1_back (l : List UInt8) (i : Nat) (c : UInt8) (h : i < l.length) : sub1 (sub1 l i c) i (l.getD i 0) = l := by
  have h' : i < (sub1 l i c).length := by rw [len_sub1 l i c h]; exact h
  apply list_ext
  · rw [len_sub1 _ i _ h', len_sub1 l i c h]
  intro p _
  rw [get_sub1 _ i _ h', get_sub1 l i c h]
  split
  · rename_i e; rw [e]
  · rfl
theorem swp_back (l : List UInt8) (i : Nat) (h : i + 1 < l.length) : swp (swp l i) i = l := by
  have h' : i + 1 < (swp l i).length := by rw [len_swp l i h]; exact h
  apply list_ext
  · rw [len_swp _ i h', len_swp l i h]
  intro p _
  rw [get_swp _ i h', get_swp l i h, get_swp l i h, get_swp l i h]
  by_cases h1 : p = i
  · subst h1; simp
  · by_cases h2 : p = i + 1
    · subst h2; simp
    · simp [h1, h2]
theorem swp_ne (l : List UInt8) (i : Nat) (h : i + 1 < l.length) : swp l i ≠ l ↔ l.getD i 0 ≠ l.getD (i + 1) 0 := by
  constructor
  · intro hn e
    apply hn
    apply list_ext _ _ (len_swp l i h)
    intro p _
    rw [get_swp l i h]
    split
    · rename_i e1; rw [e1, e]
    · split
      · rename_i e1; rw [e1, e]
      · rfl
  · intro hn e
    have := congrArg (fun x => x.getD i 0) e
    simp only [get_swp l i h, if_true] at this
    exact hn this.symm

/-! ### What is among the corrections -/
theorem mem_subs (k : Int) (l : List UInt8) (i : Nat) (cs : List UInt8) (x : List UInt8) : x ∈ subs k l i cs ↔ ∃ c ∈ cs, x = sub1 l i c ∧ x ≠ l ∧ verI k x = 0 := by
  unfold subs
  rw [List.mem_map]
  constructor
  · rintro ⟨c, hc, rfl⟩
    rw [List.mem_filter] at hc
    obtain ⟨h1, h2⟩ := hc
    unfold subsOk at h2
    rw [Bool.and_eq_true, bne_iff_ne, beq_iff_eq] at h2
    exact ⟨c, h1, rfl, h2.1, h2.2⟩
  · rintro ⟨c, hc, rfl, h1, h2⟩
    refine ⟨c, ?_, rfl⟩
    rw [List.mem_filter]
    refine ⟨hc, ?_⟩
    unfold subsOk
    rw [Bool.and_eq_true, bne_iff_ne, beq_iff_eq]
    exact ⟨h1, h2⟩
theorem mem_swps (k : Int) (l : List UInt8) (i : Nat) (x : List UInt8) : x ∈ swps k l i ↔ i + 1 < l.length ∧ x = swp l i ∧ l.getD i 0 ≠ l.getD (i + 1) 0 ∧ verI k x = 0 := by
  unfold swps
  cases h : swpOk k l i
  · simp only [Bool.false_eq_true, if_false, List.not_mem_nil, false_iff]
    rintro ⟨h1, rfl, h2, h3⟩
    unfold swpOk at h
    simp only [h1, decide_true, Bool.true_and, Bool.and_eq_false_iff, bne_eq_false_iff_eq, beq_eq_false_iff_ne] at h
    rcases h with h | h
    · exact h2 h
    · exact h h3
  · rw [if_pos rfl, List.mem_singleton]
    unfold swpOk at h
    rw [Bool.and_eq_true, Bool.and_eq_true, decide_eq_true_eq, bne_iff_ne, beq_iff_eq] at h
    constructor
    · rintro rfl; exact ⟨h.1.1, rfl, h.1.2, h.2⟩
    · rintro ⟨_, rfl, _⟩; rfl
theorem mem_corTo (k : Int) (l : List UInt8) (n : Nat) (x : List UInt8) : x ∈ corTo k l n ↔ (∃ i, i < n ∧ x ∈ subs k l i syms) ∨ (∃ i, i + 1 < n ∧ x ∈ swps k l i) := by
  unfold corTo
  rw [List.mem_flatMap]
  constructor
  · rintro ⟨i, hi, hx⟩
    rw [List.mem_range] at hi
    unfold corAt at hx
    rcases List.mem_append.1 hx with hx | hx
    · exact .inl ⟨i, hi, hx⟩
    · cases i with
      | zero => simp at hx
      | succ j => exact .inr ⟨j, hi, hx⟩
  · rintro (⟨i, hi, hx⟩ | ⟨i, hi, hx⟩)
    · exact ⟨i, List.mem_range.2 hi, List.mem_append_left _ hx⟩
    · exact ⟨i + 1, List.mem_range.2 hi, List.mem_append_right _ hx⟩
theorem mem_ok (k : Int) (l : List UInt8) (n : Nat) (x : List UInt8) (hn : n ≤ l.length) (h : x ∈ corTo k l n) : x ≠ l ∧ verI k x = 0 ∧ x.length = l.length := by
  rcases (mem_corTo k l n x).1 h with ⟨i, hi, hx⟩ | ⟨i, hi, hx⟩
  · obtain ⟨c, _, rfl, h1, h2⟩ := (mem_subs k l i syms x).1 hx
    exact ⟨h1, h2, len_sub1 l i c (by omega)⟩
  · obtain ⟨h1, rfl, h2, h3⟩ := (mem_swps k l i x).1 hx
    exact ⟨(swp_ne l i h1).2 h2, h3, len_swp l i h1⟩
theorem syms_chk (k : Nat) (c : UInt8) (h : chkB k (c.toNat : Int) = true) : c ∈ syms := by
  have h1 : ∀ c : UInt8, isDig (c.toNat : Int) = true → c ∈ syms := by
    intro c hc
    simp only [isDig, Bool.and_eq_true, decide_eq_true_eq] at hc
    have : ∀ n : Fin 10, UInt8.ofNat (48 + n.1) ∈ syms := by decide
    have e : c = UInt8.ofNat (48 + (c.toNat - 48)) := by
      apply UInt8.toNat_inj.1
      rw [show 48 + (c.toNat - 48) = c.toNat by omega]
      simp
    rw [e]; exact this ⟨c.toNat - 48, by omega⟩
  have h2 : ∀ (l : List UInt8) (c : UInt8), 0 ≤ Lib.indexByte l c → c ∈ l := by
    intro l c
    induction l with
    | nil => intro h; simp [Lib.indexByte] at h
    | cons b l ih =>
      intro h
      simp only [Lib.indexByte, beq_iff_eq] at h
      by_cases hb : b = c
      · rw [hb]; exact List.mem_cons_self ..
      · rw [if_neg hb] at h
        by_cases hn : Lib.indexByte l c = -1
        · rw [if_pos hn] at h; omega
        · rw [if_neg hn] at h
          have := Lib.indexByte_ge l c
          exact List.mem_cons_of_mem _ (ih (by omega))
  unfold chkB at h
  split at h
  · rw [decide_eq_true_eq, show ((c.toNat : Int).toNat).toUInt8 = c by simp] at h
    exact h2 syms c h
  · split at h
    · rw [Bool.or_eq_true, beq_iff_eq] at h
      rcases h with h | h
      · exact h1 c h
      · have e : c = 88 := UInt8.toNat_inj.1 (by show c.toNat = 88; omega)
        rw [e]; decide
    · exact h1 c h
/-- The original is among the corrections of what it was changed to. -/
theorem restores_sub (n : Nat) (t : List UInt8) (i : Nat) (c : UInt8) (h1 : 1 ≤ n) (h8 : n ≤ 8) (hi : i < t.length) (hv : ver n t = 0) (hne : sub1 t i c ≠ t) : t ∈ corTo n (sub1 t i c) t.length := by
  rw [mem_corTo]
  left
  refine ⟨i, hi, (mem_subs _ _ _ _ _).2 ⟨t.getD i 0, ?_, (sub1_back t i c hi).symm, fun e => hne e.symm, by rw [verI_nat n t h1 h8]; exact hv⟩⟩
  obtain ⟨_, _, _, _, _, hc⟩ := parts n t h1 h8 hv
  apply syms_chk n
  apply hc
  rw [List.getD_eq_getElem?_getD, List.getElem?_eq_getElem hi]
  exact List.getElem_mem _
theorem restores_swp (n : Nat) (t : List UInt8) (i : Nat) (h1 : 1 ≤ n) (h8 : n ≤ 8) (hi : i + 1 < t.length) (hv : ver n t = 0) (hne : swp t i ≠ t) : t ∈ corTo n (swp t i) t.length := by
  rw [mem_corTo]
  right
  refine ⟨i, hi, (mem_swps _ _ _ _).2 ⟨by rw [len_swp t i hi]; exact hi, (swp_back t i hi).symm, ?_, by rw [verI_nat n t h1 h8]; exact hv⟩⟩
  rw [get_swp t i hi, get_swp t i hi, if_pos rfl, if_neg (by omega), if_pos rfl]
  exact fun e => (swp_ne t i hi).1 hne e.symm

/-! ### The corrections are different -/
theorem sub_sub (l : List UInt8) (i j : Nat) (c d : UInt8) (hi : i < l.length) (hj : j < l.length) (h1 : sub1 l i c ≠ l) (e : sub1 l i c = sub1 l j d) : i = j := by
  by_cases hij : i = j
  · exact hij
  · exfalso
    have := congrArg (fun x => x.getD i 0) e
    simp only [get_sub1 l i c hi, get_sub1 l j d hj, if_true, if_neg hij] at this
    exact (sub1_ne l i c hi).1 h1 this
theorem sub_swp (l : List UInt8) (i j : Nat) (c : UInt8) (hi : i < l.length) (hj : j + 1 < l.length) (h2 : l.getD j 0 ≠ l.getD (j + 1) 0) (e : sub1 l i c = swp l j) : False := by
  have e1 := congrArg (fun x => x.getD j 0) e
  have e2 := congrArg (fun x => x.getD (j + 1) 0) e
  simp only [get_sub1 l i c hi, get_swp l j hj, if_true] at e1 e2
  rw [if_neg (show ¬ j + 1 = j by omega)] at e2
  by_cases hij : j = i
  · rw [if_neg (show ¬ j + 1 = i by omega)] at e2
    exact h2 e2.symm
  · rw [if_neg hij] at e1
    exact h2 e1
theorem swp_swp (l : List UInt8) (i j : Nat) (hi : i + 1 < l.length) (hj : j + 1 < l.length) (h1 : l.getD i 0 ≠ l.getD (i + 1) 0) (h2 : l.getD j 0 ≠ l.getD (j + 1) 0) (e : swp l i = swp l j) : i = j := by
  have e1 := congrArg (fun x => x.getD i 0) e
  have e2 := congrArg (fun x => x.getD j 0) e
  simp only [get_swp l i hi, get_swp l j hj, if_true] at e1 e2
  by_cases a : i = j
  · exact a
  · rw [if_neg a] at e1
    rw [if_neg (fun h => a h.symm)] at e2
    by_cases b : i = j + 1
    · by_cases c : j = i + 1
      · omega
      · rw [if_neg c] at e2; exact absurd e2 h2
    · rw [if_neg b] at e1; exact absurd e1.symm h1
theorem corTo_nodup (k : Int) (l : List UInt8) (n : Nat) (hn : n ≤ l.length) : (corTo k l n).Pairwise (· ≠ ·) := by
  unfold corTo
  rw [List.pairwise_flatMap]
  constructor
  · intro i hi
    rw [List.mem_range] at hi
    unfold corAt
    rw [List.pairwise_append]
    refine ⟨?_, ?_, ?_⟩
    · unfold subs
      rw [List.pairwise_map]
      have hs : syms.Pairwise (· ≠ ·) := by decide
      refine (hs.filter _).imp ?_
      intro c d hcd e
      have := congrArg (fun x => x.getD i 0) e
      simp only [get_sub1 l i _ (show i < l.length by omega), if_true] at this
      exact hcd this
    · cases i with
      | zero => exact List.Pairwise.nil
      | succ j => simp only []; unfold swps; split <;> simp
    · intro x hx y hy e
      cases i with
      | zero => simp at hy
      | succ j =>
        obtain ⟨c, _, rfl, _, _⟩ := (mem_subs _ _ _ _ _).1 hx
        obtain ⟨h1, rfl, h2, _⟩ := (mem_swps _ _ _ _).1 hy
        exact sub_swp l (j + 1) j c (by omega) h1 h2 e
  · refine (List.pairwise_lt_range.imp_of_mem ?_)
    intro i j hi hj hij x hx y hy e
    rw [List.mem_range] at hi hj
    subst e
    unfold corAt at hx hy
    rcases List.mem_append.1 hx with hx | hx <;> rcases List.mem_append.1 hy with hy | hy
    · obtain ⟨c, _, rfl, h1, _⟩ := (mem_subs _ _ _ _ _).1 hx
      obtain ⟨d, _, e, _, _⟩ := (mem_subs _ _ _ _ _).1 hy
      have := sub_sub l i j c d (by omega) (by omega) h1 e
      omega
    · cases j with
      | zero => simp at hy
      | succ j =>
        obtain ⟨c, _, rfl, _, _⟩ := (mem_subs _ _ _ _ _).1 hx
        obtain ⟨h1, e, h2, _⟩ := (mem_swps _ _ _ _).1 hy
        exact sub_swp l i j c (by omega) h1 h2 e
    · cases i with
      | zero => simp at hx
      | succ i =>
        obtain ⟨h1, rfl, h2, _⟩ := (mem_swps _ _ _ _).1 hx
        obtain ⟨c, _, e, _, _⟩ := (mem_subs _ _ _ _ _).1 hy
        exact sub_swp l j i c (by omega) h1 h2 e.symm
    · cases i with
      | zero => simp at hx
      | succ i =>
        cases j with
        | zero => omega
        | succ j =>
          obtain ⟨h1, rfl, h2, _⟩ := (mem_swps _ _ _ _).1 hx
          obtain ⟨h3, e, h4, _⟩ := (mem_swps _ _ _ _).1 hy
          have := swp_swp l i j h1 h3 h2 h4 e
          omega
/-- Sorted, and different: strictly ascending. -/
theorem cor_strict (k : Int) (l : List UInt8) (j : Nat) (h : j + 1 < ((corTo k l l.length).mergeSort leS).length) :
    ((corTo k l l.length).mergeSort leS).getD j [] < ((corTo k l l.length).mergeSort leS).getD (j + 1) [] := by
  have hs := sort_pairwise (corTo k l l.length)
  have hd : ((corTo k l l.length).mergeSort leS).Pairwise (· ≠ ·) := (corTo_nodup k l l.length (Nat.le_refl _)).perm (List.mergeSort_perm _ _).symm (fun h => h.symm)
  generalize (corTo k l l.length).mergeSort leS = m at *
  have h0 : j < m.length := by omega
  have g1 := (List.pairwise_iff_getElem.1 hs) j (j + 1) h0 h (by omega)
  have g2 := (List.pairwise_iff_getElem.1 hd) j (j + 1) h0 h (by omega)
  rw [List.getD_eq_getElem?_getD, List.getElem?_eq_getElem h0, List.getD_eq_getElem?_getD, List.getElem?_eq_getElem h]
  rw [decide_eq_true_eq] at g1
  show m[j] < m[j + 1]
  rcases Classical.em (m[j] < m[j + 1]) with hlt | hlt
  · exact hlt
  · exact absurd (List.le_antisymm g1 (List.not_lt.1 hlt)) g2

/-! ### The reference's order -/
def refTo (k : Int) (l : List UInt8) (n : Nat) : List (List UInt8) := (List.range n).flatMap fun i => subs k l i syms ++ swps k l i
theorem refTo_succ (k : Int) (l : List UInt8) (n : Nat) : refTo k l (n + 1) = refTo k l n ++ (subs k l n syms ++ swps k l n) := by
  unfold refTo; rw [List.range_succ, List.flatMap_append]; simp
theorem ref_perm (k : Int) (l : List UInt8) (m : Nat) : (corTo k l (m + 1) ++ swps k l m).Perm (refTo k l (m + 1)) := by
  induction m with
  | zero => simp [corTo, refTo, corAt]
  | succ m ih =>
    rw [corTo_succ, refTo_succ]
    show (corTo k l (m + 1) ++ (subs k l (m + 1) syms ++ swps k l m) ++ swps k l (m + 1)).Perm _
    have e1 : (corTo k l (m + 1) ++ (subs k l (m + 1) syms ++ swps k l m) ++ swps k l (m + 1)).Perm ((corTo k l (m + 1) ++ swps k l m) ++ (subs k l (m + 1) syms ++ swps k l (m + 1))) := by
      simp only [List.append_assoc]
      refine List.Perm.append_left _ ?_
      rw [← List.append_assoc, ← List.append_assoc]
      exact List.Perm.append_right _ List.perm_append_comm
    exact e1.trans (ih.append_right _)
theorem ref_perm_all (k : Int) (l : List UInt8) : (corTo k l l.length).Perm (refTo k l l.length) := by
  cases h : l.length with
  | zero => simp [corTo, refTo]
  | succ m =>
    have := ref_perm k l m
    have e : swps k l m = [] := by
      unfold swps swpOk
      rw [if_neg]
      simp [h]
    rwa [e, List.append_nil] at this
/-- Insertion into a sorted list. -/
def ins (ss : List (List UInt8)) (s : List UInt8) : List (List UInt8) := ss.takeWhile (fun x => decide (x < s)) ++ [s] ++ ss.dropWhile (fun x => decide (x < s))
theorem ins_perm (ss : List (List UInt8)) (s : List UInt8) : (ins ss s).Perm (ss ++ [s]) := by
  unfold ins
  have e : (ss ++ [s]).Perm (ss.takeWhile (fun x => decide (x < s)) ++ ss.dropWhile (fun x => decide (x < s)) ++ [s]) := by rw [List.takeWhile_append_dropWhile]
  refine List.Perm.trans ?_ e.symm
  rw [List.append_assoc, List.append_assoc]
  exact List.Perm.append_left _ List.perm_append_comm
theorem ins_len (ss : List (List UInt8)) (s : List UInt8) : (ins ss s).length = ss.length + 1 := by
  rw [(ins_perm ss s).length_eq, List.length_append]; rfl
theorem ins_sorted (ss : List (List UInt8)) (s : List UInt8) (h : ss.Pairwise (fun x y => leS x y = true)) : (ins ss s).Pairwise (fun x y => leS x y = true) := by
  induction ss with
  | nil => simp [ins]
  | cons a ss ih =>
    rw [List.pairwise_cons] at h
    unfold ins at *
    by_cases ha : a < s
    · rw [List.takeWhile_cons_of_pos (by simpa using ha), List.dropWhile_cons_of_pos (by simpa using ha)]
      simp only [List.cons_append]
      rw [List.pairwise_cons]
      refine ⟨fun x hx => ?_, ih h.2⟩
      have hx' : x ∈ ss ++ [s] := (ins_perm ss s).subset hx
      rcases List.mem_append.1 hx' with hx' | hx'
      · exact h.1 x hx'
      · rw [List.mem_singleton] at hx'
        rw [hx', decide_eq_true_eq]
        exact List.le_of_lt ha
    · rw [List.takeWhile_cons_of_neg (by simpa using ha), List.dropWhile_cons_of_neg (by simpa using ha)]
      simp only [List.nil_append, List.singleton_append]
      have hsa : s ≤ a := List.not_lt.1 ha
      rw [List.pairwise_cons]
      refine ⟨fun x hx => ?_, List.pairwise_cons.2 h⟩
      rcases List.mem_cons.1 hx with rfl | hx
      · rw [decide_eq_true_eq]; exact hsa
      · exact leS_trans s a x (by rw [decide_eq_true_eq]; exact hsa) (h.1 x hx)
def insAll (l : List (List UInt8)) : List (List UInt8) := l.foldl ins []
theorem insAll_snoc (l : List (List UInt8)) (s : List UInt8) : insAll (l ++ [s]) = ins (insAll l) s := by unfold insAll; rw [List.foldl_append]; rfl
theorem insAll_ok (l : List (List UInt8)) : (insAll l).Perm l ∧ (insAll l).Pairwise (fun x y => leS x y = true) := by
  suffices ∀ (l a : List (List UInt8)), a.Pairwise (fun x y => leS x y = true) → (l.foldl ins a).Perm (a ++ l) ∧ (l.foldl ins a).Pairwise (fun x y => leS x y = true) by
    have := this l [] List.Pairwise.nil
    rwa [List.nil_append] at this
  intro l
  induction l with
  | nil => intro a h; exact ⟨by simp, h⟩
  | cons s l ih =>
    intro a h
    obtain ⟨h1, h2⟩ := ih (ins a s) (ins_sorted a s h)
    refine ⟨h1.trans ?_, h2⟩
    have := (ins_perm a s).append_right l
    rwa [List.append_assoc, List.singleton_append] at this
theorem ref_is (k : Int) (l : List UInt8) : insAll (refTo k l l.length) = (corTo k l l.length).mergeSort leS := by
  obtain ⟨h1, h2⟩ := insAll_ok (refTo k l l.length)
  exact sort_unique _ _ (h1.trans (ref_perm_all k l).symm) h2
end Go.Proofs.YtkpfehfcgpapiaaGreatDoor.Cd
