/-
  What Append returns is accepted, and with the same data nothing else is.
  No condition.
-/
import Derived.Test.YtkpfehfcgpapiaaGreatDoorCd

/-
  What Append returns is accepted, and with the same data nothing else is.
  No condition.
-/
namespace Go.Proofs.YtkpfehfcgpapiaaGreatDoor.Cd

theorem chr_ok (v : Int) (h0 : 0 ≤ v) (_h1 : v ≤ 9) : isDig ((chr v).toNat : Int) = true := by
  obtain ⟨n, rfl⟩ := Int.eq_ofNat_of_zero_le h0
  have h : ∀ n : Fin 10, isDig ((chr (n.1 : Int)).toNat : Int) = true := by decide
  exact h ⟨n, by omega⟩
theorem chr_okX (v : Int) (h0 : 0 ≤ v) (_h1 : v ≤ 10) : (isDig ((chr v).toNat : Int) || ((chr v).toNat : Int) == 88) = true := by
  obtain ⟨n, rfl⟩ := Int.eq_ofNat_of_zero_le h0
  have h : ∀ n : Fin 11, (isDig ((chr (n.1 : Int)).toNat : Int) || ((chr (n.1 : Int)).toNat : Int) == 88) = true := by decide
  exact h ⟨n, by omega⟩
theorem syms_ok : ∀ n : Fin 43, 0 ≤ plc (syms.getD n.1 48) := by decide +kernel
theorem allDig_of' {k : Nat} (h7 : k ≠ 7) {l : List UInt8} (h : ∀ c ∈ l, datB k (c.toNat : Int) = true) : AllDig l := fun c hc => by
  have := h c hc
  rw [datB, if_neg h7] at this
  simp only [isDig, Bool.and_eq_true, decide_eq_true_eq] at this
  omega
theorem plc_of {l : List UInt8} (h : ∀ c ∈ l, datB 7 (c.toNat : Int) = true) : ∀ c ∈ l, 0 ≤ plc c := fun c hc => by
  have := h c hc; simpa [datB] using this

theorem cmp_size (k : Nat) (l : List UInt8) (h1 : 1 ≤ k) (h8 : k ≤ 8) : (cmp k l).length = size k := by
  match k, h1, h8 with
  | 1, _, _ => rfl
  | 2, _, _ => rfl
  | 3, _, _ => rfl
  | 4, _, _ => rfl
  | 5, _, _ => rfl
  | 6, _, _ => rfl
  | 7, _, _ => rfl
  | 8, _, _ => rfl
theorem cmp_chk (k : Nat) (l : List UInt8) (h1 : 1 ≤ k) (h8 : k ≤ 8) (hd : ∀ c ∈ l, datB k (c.toNat : Int) = true) : (cmp k l).all (fun c => chkB k c.toNat) = true := by
  match k, h1, h8 with
  | 1, _, _ => simp only [cmp, List.all_cons, List.all_nil, Bool.and_true]; exact chr_ok _ (by omega) (by omega)
  | 2, _, _ => simp only [cmp, List.all_cons, List.all_nil, Bool.and_true]; exact chr_ok _ (by omega) (by omega)
  | 3, _, _ => simp only [cmp, List.all_cons, List.all_nil, Bool.and_true]; exact chr_okX _ (by omega) (by omega)
  | 4, _, _ =>
    have := inv_bd _ (vh_bd l (allDig_of' (by decide) hd))
    simp only [cmp, List.all_cons, List.all_nil, Bool.and_true]; exact chr_ok _ (by omega) (by omega)
  | 5, _, _ =>
    have := dm_bd l (allDig_of' (by decide) hd)
    simp only [cmp, List.all_cons, List.all_nil, Bool.and_true]; exact chr_ok _ (by omega) (by omega)
  | 6, _, _ =>
    have := i97_bd l
    simp only [cmp, List.all_cons, List.all_nil, Bool.and_true, Bool.and_eq_true]
    exact ⟨chr_ok _ (by omega) (by omega), chr_ok _ (by omega) (by omega)⟩
  | 7, _, _ =>
    have hb := c39_bd l (plc_of hd)
    simp only [cmp, List.all_cons, List.all_nil, Bool.and_true]
    have := syms_ok ⟨(c39 l % 43).toNat, by omega⟩
    simpa [chkB] using this
  | 8, _, _ =>
    have := i11_bd l
    simp only [cmp, List.all_cons, List.all_nil, Bool.and_true]; exact chr_okX _ (by omega) (by omega)

/-- What Verify = 0 says of the parts. -/
theorem ver_zero_iff (k : Nat) (l : List UInt8) : ver k l = 0 ↔ l.length ≤ 4096 ∧ fits k l.length = true ∧ (∀ c ∈ l.take (l.length - size k), datB k (c.toNat : Int) = true) ∧ (∀ c ∈ l.drop (l.length - size k), chkB k (c.toNat : Int) = true) ∧ cmp k (l.take (l.length - size k)) = l.drop (l.length - size k) := by
  unfold ver
  rw [← List.all_eq_true (p := fun c : UInt8 => datB k c.toNat), ← List.all_eq_true (p := fun c : UInt8 => chkB k c.toNat)]
  by_cases h1 : 4096 < l.length
  · rw [if_pos h1]; constructor
    · intro h; omega
    · intro h; omega
  rw [if_neg h1]
  cases h2 : fits k l.length
  · simp
  rw [if_neg (by simp)]
  cases h3 : (l.take (l.length - size k)).all (fun c => datB k c.toNat)
  · simp
  rw [if_neg (by simp)]
  cases h4 : (l.drop (l.length - size k)).all (fun c => chkB k c.toNat)
  · simp
  rw [if_neg (by simp)]
  by_cases h5 : cmp k (l.take (l.length - size k)) = l.drop (l.length - size k)
  · rw [if_pos h5]; simp [h5]; omega
  · rw [if_neg h5]; simp [h5]

/-- When Append succeeds. -/
theorem app_ok (k : Int) (l : List UInt8) (h : (app k l).2 = 0) : ∃ n : Nat, k = (n : Int) ∧ 1 ≤ n ∧ n ≤ 8 ∧ l ≠ [] ∧ (∀ c ∈ l, datB n (c.toNat : Int) = true) ∧ fits n (l.length + size n) = true ∧ l.length + size n ≤ 4096 ∧ (app k l).1 = l ++ cmp n l := by
  unfold app at h ⊢
  by_cases h0 : (compI k l).2 = 0
  · rw [if_pos h0] at h ⊢
    by_cases h4 : 4096 < l.length + (compI k l).1.length
    · rw [if_pos h4] at h; cases h
    · rw [if_neg h4]
      unfold compI at h0 h4 ⊢
      by_cases hk : k < 1 ∨ 8 < k
      · rw [if_pos hk] at h0; cases h0
      · rw [if_neg hk] at h0 h4 ⊢
        obtain ⟨n, rfl⟩ := Int.eq_ofNat_of_zero_le (show 0 ≤ k by omega)
        rw [Int.toNat_natCast] at h0 h4 ⊢
        unfold comp at h0 h4 ⊢
        by_cases e1 : l = []
        · rw [if_pos e1] at h0; cases h0
        rw [if_neg e1] at h0 h4 ⊢
        by_cases e2 : 4096 < l.length
        · rw [if_pos e2] at h0; cases h0
        rw [if_neg e2] at h0 h4 ⊢
        by_cases e3 : l.all (fun c => datB n c.toNat) = false
        · rw [if_pos e3] at h0; cases h0
        rw [if_neg e3] at h0 h4 ⊢
        by_cases e4 : fits n (l.length + size n) = false
        · rw [if_pos e4] at h0; cases h0
        rw [if_neg e4] at h4 ⊢
        rw [Bool.not_eq_false] at e3 e4
        dsimp only at h4 ⊢
        rw [cmp_size n l (by omega) (by omega)] at h4
        exact ⟨n, rfl, by omega, by omega, e1, List.all_eq_true.1 e3, e4, by omega, rfl⟩
  · rw [if_neg h0] at h; exact absurd h h0
theorem app_no (k : Int) (l : List UInt8) (h : (app k l).2 ≠ 0) : (app k l).1 = [] := by
  unfold app at h ⊢
  by_cases h0 : (compI k l).2 = 0
  · rw [if_pos h0] at h ⊢
    by_cases h4 : 4096 < l.length + (compI k l).1.length
    · rw [if_pos h4]
    · rw [if_neg h4] at h; exact absurd rfl h
  · rw [if_neg h0]

theorem cut_len (n : Nat) (l : List UInt8) (h1 : 1 ≤ n) (h8 : n ≤ 8) : (l ++ cmp n l).length - size n = l.length := by
  rw [List.length_append, cmp_size n l h1 h8]; omega
theorem ver_app (n : Nat) (l : List UInt8) (h1 : 1 ≤ n) (h8 : n ≤ 8) (hd : ∀ c ∈ l, datB n (c.toNat : Int) = true) (hf : fits n (l.length + size n) = true) (hl : l.length + size n ≤ 4096) : ver n (l ++ cmp n l) = 0 := by
  rw [ver_zero_iff, cut_len n l h1 h8]
  rw [List.take_left, List.drop_left]
  refine ⟨?_, ?_, hd, List.all_eq_true.1 (cmp_chk n l h1 h8 hd), rfl⟩
  · rw [List.length_append, cmp_size n l h1 h8]; omega
  · rw [List.length_append, cmp_size n l h1 h8]; exact hf
/-- With the data l, only l followed by its check characters is accepted. -/
theorem ver_same (n : Nat) (l u : List UInt8) (_h1 : 1 ≤ n) (_h8 : n ≤ 8) (hu : u.length = l.length + size n) (ht : u.take l.length = l) (h : ver n u = 0) : u = l ++ cmp n l := by
  rw [ver_zero_iff, hu, show l.length + size n - size n = l.length by omega] at h
  have h5 := h.2.2.2.2
  rw [ht] at h5
  have := List.take_append_drop l.length u
  rw [ht, ← h5] at this
  exact this.symm
theorem verI_nat (n : Nat) (l : List UInt8) (h1 : 1 ≤ n) (h8 : n ≤ 8) : verI (n : Int) l = ver n l := by
  rw [verI, if_neg (by omega), Int.toNat_natCast]
end Go.Proofs.YtkpfehfcgpapiaaGreatDoor.Cd

/-
  Two accepted strings do not differ in one character, nor by an exchange of neighbours, but for the cases that the chapter names.
  No condition.
-/
namespace Go.Proofs.YtkpfehfcgpapiaaGreatDoor.Cd

/-- The value of a digit, or of X. -/
def vx (c : UInt8) : Int := if c = 88 then 10 else dg c
def isDX (c : UInt8) : Prop := (48 ≤ c.toNat ∧ c.toNat ≤ 57) ∨ c = 88
theorem vx_dig {c : UInt8} (h : 48 ≤ c.toNat ∧ c.toNat ≤ 57) : vx c = dg c := if_neg (by rintro rfl; revert h; decide)
theorem vx_bd {c : UInt8} (h : isDX c) : 0 ≤ vx c ∧ vx c ≤ 10 := by
  rcases h with h | rfl
  · rw [vx_dig h]; have := dg_bd h; omega
  · decide
theorem dg_inj {a b : UInt8} (h : dg a = dg b) : a = b := by unfold dg at h; exact UInt8.toNat_inj.1 (by omega)
theorem vx_inj {a b : UInt8} (ha : isDX a) (hb : isDX b) (h : vx a = vx b) : a = b := by
  rcases ha with ha | rfl <;> rcases hb with hb | rfl
  · rw [vx_dig ha, vx_dig hb] at h; exact dg_inj h
  · rw [vx_dig ha, show vx 88 = 10 from rfl] at h; have := dg_bd ha; omega
  · rw [vx_dig hb, show vx 88 = 10 from rfl] at h; have := dg_bd hb; omega
  · rfl
theorem vx_chr (v : Int) (h0 : 0 ≤ v) (h1 : v ≤ 10) : vx (chr v) = v := by
  obtain ⟨n, rfl⟩ := Int.eq_ofNat_of_zero_le h0
  have h : ∀ n : Fin 11, vx (chr (n.1 : Int)) = (n.1 : Int) := by decide
  exact h ⟨n, by omega⟩
theorem dg_chr (v : Int) (h0 : 0 ≤ v) (h1 : v ≤ 9) : dg (chr v) = v := by
  obtain ⟨n, rfl⟩ := Int.eq_ofNat_of_zero_le h0
  have h : ∀ n : Fin 10, dg (chr (n.1 : Int)) = (n.1 : Int) := by decide
  exact h ⟨n, by omega⟩

/-! ### GS1 -/
def gsF : List UInt8 → Int × Int
  | [] => (0, 1)
  | c :: l => ((gsF l).1 + (gsF l).2 * dg c, 4 - (gsF l).2)
theorem gsF_w (l : List UInt8) : (gsF l).2 = if l.length % 2 = 0 then 1 else 3 := by
  induction l with
  | nil => rfl
  | cons c l ih => simp only [gsF, ih, List.length_cons]; split <;> split <;> omega
theorem gsF_snoc (l : List UInt8) (d : UInt8) : gsF (l ++ [d]) = ((gsP l).1 + dg d, (gsP l).2) := by
  induction l with
  | nil => simp [gsF, gsP]
  | cons c l ih =>
    simp only [List.cons_append, gsF, ih, gsP]
    congr 1
    omega
theorem gsF_app (a r r' : List UInt8) (h : r.length = r'.length) : (gsF (a ++ r)).1 - (gsF (a ++ r')).1 = (gsF r).1 - (gsF r').1 := by
  induction a with
  | nil => rfl
  | cons c a ih =>
    have e : (gsF (a ++ r)).2 = (gsF (a ++ r')).2 := by rw [gsF_w, gsF_w, List.length_append, List.length_append, h]
    simp only [List.cons_append, gsF, e]
    omega
theorem gs_sub (a b : List UInt8) (x y : UInt8) (hx : 48 ≤ x.toNat ∧ x.toNat ≤ 57) (hy : 48 ≤ y.toNat ∧ y.toNat ≤ 57) (h1 : (gsF (a ++ x :: b)).1 % 10 = 0) (h2 : (gsF (a ++ y :: b)).1 % 10 = 0) : x = y := by
  have e := gsF_app a (x :: b) (y :: b) rfl
  simp only [gsF] at e
  have hw := gsF_w b
  have bx := dg_bd hx
  have hby := dg_bd hy
  apply dg_inj
  split at hw <;> rw [hw] at e <;> omega
theorem gs_swp (a b : List UInt8) (x y : UInt8) (hx : 48 ≤ x.toNat ∧ x.toNat ≤ 57) (hy : 48 ≤ y.toNat ∧ y.toNat ≤ 57) (h1 : (gsF (a ++ x :: y :: b)).1 % 10 = 0) (h2 : (gsF (a ++ y :: x :: b)).1 % 10 = 0) :
    x = y ∨ dg x - dg y = 5 ∨ dg y - dg x = 5 := by
  have e := gsF_app a (x :: y :: b) (y :: x :: b) rfl
  simp only [gsF] at e
  have hw := gsF_w b
  have bx := dg_bd hx
  have hby := dg_bd hy
  by_cases hxy : dg x = dg y
  · exact .inl (dg_inj hxy)
  · right
    split at hw <;> rw [hw] at e <;> omega

/-! ### Luhn -/
def lf (b : Bool) (x : Int) : Int := if b then dbl x else x
def lnF : List UInt8 → Int × Bool
  | [] => (0, false)
  | c :: l => ((lnF l).1 + lf (lnF l).2 (dg c), !(lnF l).2)
theorem lnF_w (l : List UInt8) : (lnF l).2 = decide (l.length % 2 = 1) := by
  induction l with
  | nil => rfl
  | cons c l ih =>
    simp only [lnF, ih, List.length_cons]
    by_cases h : l.length % 2 = 1
    · have : ¬ (l.length + 1) % 2 = 1 := by omega
      simp [h, this]
    · have : (l.length + 1) % 2 = 1 := by omega
      simp [h, this]
theorem lnF_snoc (l : List UInt8) (d : UInt8) : lnF (l ++ [d]) = ((lnP l).1 + dg d, (lnP l).2) := by
  induction l with
  | nil => simp [lnF, lnP, lf]
  | cons c l ih =>
    simp only [List.cons_append, lnF, ih, lnP, lf]
    congr 1
    omega
theorem lnF_app (a r r' : List UInt8) (h : r.length = r'.length) : (lnF (a ++ r)).1 - (lnF (a ++ r')).1 = (lnF r).1 - (lnF r').1 := by
  induction a with
  | nil => rfl
  | cons c a ih =>
    have e : (lnF (a ++ r)).2 = (lnF (a ++ r')).2 := by rw [lnF_w, lnF_w, List.length_append, List.length_append, h]
    simp only [List.cons_append, lnF, e]
    omega
theorem ln_sub (a b : List UInt8) (x y : UInt8) (hx : 48 ≤ x.toNat ∧ x.toNat ≤ 57) (hy : 48 ≤ y.toNat ∧ y.toNat ≤ 57) (h1 : (lnF (a ++ x :: b)).1 % 10 = 0) (h2 : (lnF (a ++ y :: b)).1 % 10 = 0) : x = y := by
  have e := lnF_app a (x :: b) (y :: b) rfl
  simp only [lnF] at e
  have bx := dg_bd hx
  have hby := dg_bd hy
  apply dg_inj
  generalize (lnF b).2 = t at e
  cases t
  · simp only [lf, Bool.false_eq_true, if_false] at e; omega
  · simp only [lf, if_true, dbl] at e
    split at e <;> split at e <;> omega
theorem ln_swp (a b : List UInt8) (x y : UInt8) (hx : 48 ≤ x.toNat ∧ x.toNat ≤ 57) (hy : 48 ≤ y.toNat ∧ y.toNat ≤ 57) (h1 : (lnF (a ++ x :: y :: b)).1 % 10 = 0) (h2 : (lnF (a ++ y :: x :: b)).1 % 10 = 0) :
    x = y ∨ (dg x = 0 ∧ dg y = 9) ∨ (dg x = 9 ∧ dg y = 0) := by
  have e := lnF_app a (x :: y :: b) (y :: x :: b) rfl
  simp only [lnF] at e
  have bx := dg_bd hx
  have hby := dg_bd hy
  by_cases hxy : dg x = dg y
  · exact .inl (dg_inj hxy)
  · right
    generalize (lnF b).2 = t at e
    cases t
    · simp only [lf, Bool.not_false, if_true, Bool.false_eq_true, if_false, dbl] at e
      split at e <;> split at e <;> omega
    · simp only [lf, Bool.not_true, if_true, Bool.false_eq_true, if_false, dbl] at e
      split at e <;> split at e <;> omega

/-! ### ISBN -/
def isF : List UInt8 → Int
  | [] => 0
  | c :: l => isF l + ((l.length : Int) + 1) * vx c
theorem isF_snoc (l : List UInt8) (d : UInt8) (h : AllDig l) : isF (l ++ [d]) = isb l + vx d := by
  induction l with
  | nil => simp [isF, isb]
  | cons c l ih =>
    simp only [List.cons_append, isF, isb, ih (fun x hx => h x (List.mem_cons_of_mem _ hx)), List.length_append, List.length_singleton, vx_dig (h c (List.mem_cons_self ..))]
    rw [show (((l.length + 1 : Nat) : Int) + 1) = (l.length : Int) + 2 by omega]
    omega
theorem isF_app (a r r' : List UInt8) (h : r.length = r'.length) : isF (a ++ r) - isF (a ++ r') = isF r - isF r' := by
  induction a with
  | nil => rfl
  | cons c a ih =>
    simp only [List.cons_append, isF, List.length_append, h]
    omega
theorem is_sub (a b : List UInt8) (x y : UInt8) (hx : isDX x) (hy : isDX y) (hb : b.length ≤ 9) (h1 : isF (a ++ x :: b) % 11 = 0) (h2 : isF (a ++ y :: b) % 11 = 0) : x = y := by
  have e := isF_app a (x :: b) (y :: b) rfl
  simp only [isF] at e
  have bx := vx_bd hx
  have hby := vx_bd hy
  apply vx_inj hx hy
  generalize vx x = p at *
  generalize vx y = q at *
  generalize b.length = m at *
  match m, hb with
  | 0, _ | 1, _ | 2, _ | 3, _ | 4, _ | 5, _ | 6, _ | 7, _ | 8, _ | 9, _ => omega
theorem is_swp (a b : List UInt8) (x y : UInt8) (hx : isDX x) (hy : isDX y) (h1 : isF (a ++ x :: y :: b) % 11 = 0) (h2 : isF (a ++ y :: x :: b) % 11 = 0) : x = y := by
  have e := isF_app a (x :: y :: b) (y :: x :: b) rfl
  simp only [isF, List.length_cons] at e
  have bx := vx_bd hx
  have hby := vx_bd hy
  apply vx_inj hx hy
  have e1 : ((b.length + 1 : Nat) : Int) + 1 = ((b.length : Int) + 1) + 1 := by omega
  rw [e1, Int.add_mul ((b.length : Int) + 1) 1 (vx x), Int.add_mul ((b.length : Int) + 1) 1 (vx y)] at e
  omega

/-! ### Verhoeff -/
def vhF : List UInt8 → Int
  | [] => 0
  | c :: l => dih (vhF l) (permN l.length (dg c))
theorem dih_assoc : ∀ a b c : Fin 10, dih (dih (a.1 : Int) (b.1 : Int)) (c.1 : Int) = dih (a.1 : Int) (dih (b.1 : Int) (c.1 : Int)) := by decide +kernel
theorem dih_left : ∀ a b c : Fin 10, dih (a.1 : Int) (b.1 : Int) = dih (a.1 : Int) (c.1 : Int) → b = c := by decide +kernel
theorem dih_right : ∀ a b c : Fin 10, dih (b.1 : Int) (a.1 : Int) = dih (c.1 : Int) (a.1 : Int) → b = c := by decide +kernel
theorem dih_anti : ∀ u v : Fin 10, dih (u.1 : Int) (perm (v.1 : Int)) = dih (v.1 : Int) (perm (u.1 : Int)) → u = v := by decide +kernel
theorem dih_zero : ∀ a : Fin 10, dih 0 (a.1 : Int) = (a.1 : Int) ∧ dih (a.1 : Int) 0 = (a.1 : Int) := by decide +kernel
theorem perm_inj : ∀ a b : Fin 10, perm (a.1 : Int) = perm (b.1 : Int) → a = b := by decide +kernel
theorem fin_of (x : Int) (h : 0 ≤ x ∧ x ≤ 9) : ∃ a : Fin 10, x = (a.1 : Int) := ⟨⟨x.toNat, by omega⟩, by simp only []; omega⟩
theorem dih_assoc' (a b c : Int) (ha : 0 ≤ a ∧ a ≤ 9) (hb : 0 ≤ b ∧ b ≤ 9) (hc : 0 ≤ c ∧ c ≤ 9) : dih (dih a b) c = dih a (dih b c) := by
  obtain ⟨a, rfl⟩ := fin_of a ha; obtain ⟨b, rfl⟩ := fin_of b hb; obtain ⟨c, rfl⟩ := fin_of c hc
  exact dih_assoc a b c
theorem dih_left' (a b c : Int) (ha : 0 ≤ a ∧ a ≤ 9) (hb : 0 ≤ b ∧ b ≤ 9) (hc : 0 ≤ c ∧ c ≤ 9) (h : dih a b = dih a c) : b = c := by
  obtain ⟨a, rfl⟩ := fin_of a ha; obtain ⟨b, rfl⟩ := fin_of b hb; obtain ⟨c, rfl⟩ := fin_of c hc
  rw [dih_left a b c h]
theorem dih_right' (a b c : Int) (ha : 0 ≤ a ∧ a ≤ 9) (hb : 0 ≤ b ∧ b ≤ 9) (hc : 0 ≤ c ∧ c ≤ 9) (h : dih b a = dih c a) : b = c := by
  obtain ⟨a, rfl⟩ := fin_of a ha; obtain ⟨b, rfl⟩ := fin_of b hb; obtain ⟨c, rfl⟩ := fin_of c hc
  rw [dih_right a b c h]
theorem permN_inj (n : Nat) (a b : Int) (ha : 0 ≤ a ∧ a ≤ 9) (hb : 0 ≤ b ∧ b ≤ 9) (h : permN n a = permN n b) : a = b := by
  induction n with
  | zero => exact h
  | succ n ih =>
    apply ih
    have h1 := permN_bd n a ha
    have h2 := permN_bd n b hb
    obtain ⟨u, hu⟩ := fin_of _ h1
    obtain ⟨v, hv⟩ := fin_of _ h2
    have h3 : perm (permN n a) = perm (permN n b) := h
    rw [hu, hv] at h3 ⊢
    rw [perm_inj u v h3]
theorem vhF_bd (l : List UInt8) (h : AllDig l) : 0 ≤ vhF l ∧ vhF l ≤ 9 := by
  induction l with
  | nil => simp [vhF]
  | cons c l ih => exact dih_bd _ _ (ih (fun x hx => h x (List.mem_cons_of_mem _ hx))) (permN_bd _ _ (dg_bd (h c (List.mem_cons_self ..))))
theorem allDig_cons {c : UInt8} {l : List UInt8} (h : AllDig (c :: l)) : (48 ≤ c.toNat ∧ c.toNat ≤ 57) ∧ AllDig l := ⟨h c (List.mem_cons_self ..), fun x hx => h x (List.mem_cons_of_mem _ hx)⟩
theorem allDig_app {a b : List UInt8} (h : AllDig (a ++ b)) : AllDig a ∧ AllDig b := ⟨fun x hx => h x (List.mem_append_left _ hx), fun x hx => h x (List.mem_append_right _ hx)⟩
theorem vhF_snoc (l : List UInt8) (d : UInt8) (h : AllDig l) (hd : 48 ≤ d.toNat ∧ d.toNat ≤ 57) : vhF (l ++ [d]) = dih (dg d) (vh l) := by
  induction l with
  | nil =>
    simp only [List.nil_append, vhF, vh, List.length_nil, permN]
    obtain ⟨a, ha⟩ := fin_of _ (dg_bd hd)
    rw [ha, (dih_zero a).1, (dih_zero a).2]
  | cons c l ih =>
    obtain ⟨hc, hl⟩ := allDig_cons h
    simp only [List.cons_append, vhF, vh, ih hl, List.length_append, List.length_singleton]
    exact dih_assoc' _ _ _ (dg_bd hd) (vh_bd l hl) (permN_bd _ _ (dg_bd hc))
theorem vhF_app (a r r' : List UInt8) (hl : r.length = r'.length) (ha : AllDig a) (hr : AllDig r) (hr' : AllDig r') (h : vhF (a ++ r) = vhF (a ++ r')) : vhF r = vhF r' := by
  induction a with
  | nil => exact h
  | cons c a ih =>
    obtain ⟨hc, hal⟩ := allDig_cons ha
    apply ih hal
    simp only [List.cons_append, vhF, List.length_append, hl] at h
    exact dih_right' _ _ _ (permN_bd _ _ (dg_bd hc)) (vhF_bd _ (fun x hx => (List.mem_append.1 hx).elim (hal x) (hr x))) (vhF_bd _ (fun x hx => (List.mem_append.1 hx).elim (hal x) (hr' x))) h
theorem vh_sub (a b : List UInt8) (x y : UInt8) (h : AllDig (a ++ x :: b)) (h' : AllDig (a ++ y :: b)) (e : vhF (a ++ x :: b) = vhF (a ++ y :: b)) : x = y := by
  obtain ⟨ha, hxb⟩ := allDig_app h
  obtain ⟨_, hyb⟩ := allDig_app h'
  have e2 := vhF_app a (x :: b) (y :: b) rfl ha hxb hyb e
  obtain ⟨hx, hb⟩ := allDig_cons hxb
  obtain ⟨hy, _⟩ := allDig_cons hyb
  simp only [vhF] at e2
  exact dg_inj (permN_inj _ _ _ (dg_bd hx) (dg_bd hy) (dih_left' _ _ _ (vhF_bd b hb) (permN_bd _ _ (dg_bd hx)) (permN_bd _ _ (dg_bd hy)) e2))
theorem vh_swp (a b : List UInt8) (x y : UInt8) (h : AllDig (a ++ x :: y :: b)) (h' : AllDig (a ++ y :: x :: b)) (e : vhF (a ++ x :: y :: b) = vhF (a ++ y :: x :: b)) : x = y := by
  obtain ⟨ha, hxb⟩ := allDig_app h
  obtain ⟨_, hyb⟩ := allDig_app h'
  have e2 := vhF_app a (x :: y :: b) (y :: x :: b) rfl ha hxb hyb e
  obtain ⟨hx, h2⟩ := allDig_cons hxb
  obtain ⟨hy, hb⟩ := allDig_cons h2
  simp only [vhF, List.length_cons] at e2
  have bx := permN_bd b.length _ (dg_bd hx)
  have hby := permN_bd b.length _ (dg_bd hy)
  rw [dih_assoc' _ _ _ (vhF_bd b hb) hby (permN_bd _ _ (dg_bd hx)), dih_assoc' _ _ _ (vhF_bd b hb) bx (permN_bd _ _ (dg_bd hy))] at e2
  have e3 := dih_left' _ _ _ (vhF_bd b hb) (dih_bd _ _ hby (permN_bd _ _ (dg_bd hx))) (dih_bd _ _ bx (permN_bd _ _ (dg_bd hy))) e2
  simp only [permN] at e3
  obtain ⟨u, hu⟩ := fin_of _ hby
  obtain ⟨v, hv⟩ := fin_of _ bx
  rw [hu, hv] at e3
  have := dih_anti u v e3
  subst this
  exact dg_inj (permN_inj _ _ _ (dg_bd hx) (dg_bd hy) (hv.trans hu.symm))

/-! ### Damm -/
def dmS (p : Int) (l : List UInt8) : Int := l.foldl (fun c x => dmAt c (dg x)) p
theorem dm_row : ∀ c x y : Fin 10, dmAt (c.1 : Int) (x.1 : Int) = dmAt (c.1 : Int) (y.1 : Int) → x = y := by decide +kernel
theorem dm_col : ∀ c d x : Fin 10, dmAt (c.1 : Int) (x.1 : Int) = dmAt (d.1 : Int) (x.1 : Int) → c = d := by decide +kernel
theorem dm_anti : ∀ c x y : Fin 10, dmAt (dmAt (c.1 : Int) (x.1 : Int)) (y.1 : Int) = dmAt (dmAt (c.1 : Int) (y.1 : Int)) (x.1 : Int) → x = y := by decide +kernel
theorem dm_diag : ∀ c : Fin 10, dmAt (c.1 : Int) (c.1 : Int) = 0 := by decide +kernel
theorem dmS_inj (l : List UInt8) (p q : Int) (hl : AllDig l) (hp : 0 ≤ p ∧ p ≤ 9) (hq : 0 ≤ q ∧ q ≤ 9) (h : dmS p l = dmS q l) : p = q := by
  induction l generalizing p q with
  | nil => exact h
  | cons c l ih =>
    obtain ⟨hc, hl'⟩ := allDig_cons hl
    have := ih (dmAt p (dg c)) (dmAt q (dg c)) hl' (dmAt_bd _ _ hp (dg_bd hc)) (dmAt_bd _ _ hq (dg_bd hc)) h
    obtain ⟨a, rfl⟩ := fin_of p hp; obtain ⟨b, rfl⟩ := fin_of q hq; obtain ⟨x, hx⟩ := fin_of _ (dg_bd hc)
    rw [hx] at this
    rw [dm_col a b x this]
theorem dmS_app (a r : List UInt8) : dm (a ++ r) = dmS (dm a) r := by unfold dm dmS; rw [List.foldl_append]
theorem dm_sub (a b : List UInt8) (x y : UInt8) (h : AllDig (a ++ x :: b)) (h' : AllDig (a ++ y :: b)) (e : dm (a ++ x :: b) = dm (a ++ y :: b)) : x = y := by
  obtain ⟨ha, hxb⟩ := allDig_app h
  obtain ⟨_, hyb⟩ := allDig_app h'
  obtain ⟨hx, hb⟩ := allDig_cons hxb
  obtain ⟨hy, _⟩ := allDig_cons hyb
  rw [dmS_app, dmS_app] at e
  have := dmS_inj b _ _ hb (dmAt_bd _ _ (dm_bd a ha) (dg_bd hx)) (dmAt_bd _ _ (dm_bd a ha) (dg_bd hy)) e
  obtain ⟨c, hc⟩ := fin_of _ (dm_bd a ha); obtain ⟨u, hu⟩ := fin_of _ (dg_bd hx); obtain ⟨v, hv⟩ := fin_of _ (dg_bd hy)
  rw [hc, hu, hv] at this
  have := dm_row c u v this
  subst this
  exact dg_inj (hu.trans hv.symm)
theorem dm_swp (a b : List UInt8) (x y : UInt8) (h : AllDig (a ++ x :: y :: b)) (e : dm (a ++ x :: y :: b) = dm (a ++ y :: x :: b)) : x = y := by
  obtain ⟨ha, hxb⟩ := allDig_app h
  obtain ⟨hx, h2⟩ := allDig_cons hxb
  obtain ⟨hy, hb⟩ := allDig_cons h2
  rw [dmS_app, dmS_app] at e
  have := dmS_inj b _ _ hb (dmAt_bd _ _ (dmAt_bd _ _ (dm_bd a ha) (dg_bd hx)) (dg_bd hy)) (dmAt_bd _ _ (dmAt_bd _ _ (dm_bd a ha) (dg_bd hy)) (dg_bd hx)) e
  obtain ⟨c, hc⟩ := fin_of _ (dm_bd a ha); obtain ⟨u, hu⟩ := fin_of _ (dg_bd hx); obtain ⟨v, hv⟩ := fin_of _ (dg_bd hy)
  rw [hc, hu, hv] at this
  have := dm_anti c u v this
  subst this
  exact dg_inj (hu.trans hv.symm)

/-! ### ISO 7064, modulo 97 -/
def i9S (p : Int) (l : List UInt8) : Int := l.foldl (fun r c => (10 * r + dg c) % 97) p
theorem i9S_inj (l : List UInt8) (p q : Int) (hp : 0 ≤ p ∧ p ≤ 96) (hq : 0 ≤ q ∧ q ≤ 96) (h : i9S p l = i9S q l) : p = q := by
  induction l generalizing p q with
  | nil => exact h
  | cons c l ih =>
    have := ih ((10 * p + dg c) % 97) ((10 * q + dg c) % 97) (by omega) (by omega) h
    omega
theorem i9S_app (a r : List UInt8) : i97 (a ++ r) = i9S (i97 a) r := by unfold i97 i9S; rw [List.foldl_append]
theorem i9_sub (a b : List UInt8) (x y : UInt8) (hx : 48 ≤ x.toNat ∧ x.toNat ≤ 57) (hy : 48 ≤ y.toNat ∧ y.toNat ≤ 57) (e : i97 (a ++ x :: b) = i97 (a ++ y :: b)) : x = y := by
  rw [i9S_app, i9S_app] at e
  have := i9S_inj b ((10 * i97 a + dg x) % 97) ((10 * i97 a + dg y) % 97) (by omega) (by omega) e
  have := dg_bd hx
  have := dg_bd hy
  exact dg_inj (by omega)
theorem i9_swp (a b : List UInt8) (x y : UInt8) (hx : 48 ≤ x.toNat ∧ x.toNat ≤ 57) (hy : 48 ≤ y.toNat ∧ y.toNat ≤ 57) (e : i97 (a ++ x :: y :: b) = i97 (a ++ y :: x :: b)) : x = y := by
  rw [i9S_app, i9S_app] at e
  have := i9S_inj b ((10 * ((10 * i97 a + dg x) % 97) + dg y) % 97) ((10 * ((10 * i97 a + dg y) % 97) + dg x) % 97) (by omega) (by omega) e
  have := dg_bd hx
  have := dg_bd hy
  exact dg_inj (by omega)

/-! ### ISO 7064, modulo 11-2 -/
def i1S (p : Int) : List UInt8 → Int
  | [] => p
  | [d] => (p + vx d) % 11
  | c :: c' :: l => i1S (2 * (p + vx c) % 11) (c' :: l)
theorem i1S_inj (l : List UInt8) (p q : Int) (hl : l ≠ []) (hp : 0 ≤ p ∧ p ≤ 10) (hq : 0 ≤ q ∧ q ≤ 10) (h : i1S p l = i1S q l) : p = q := by
  induction l generalizing p q with
  | nil => exact absurd rfl hl
  | cons c l ih =>
    cases l with
    | nil => simp only [i1S] at h; omega
    | cons c' l =>
      simp only [i1S] at h
      have := ih (2 * (p + vx c) % 11) (2 * (q + vx c) % 11) (by simp) (by omega) (by omega) h
      omega
theorem i1S_app (a r : List UInt8) (p : Int) (hr : r ≠ []) (ha : AllDig a) : i1S p (a ++ r) = i1S (a.foldl (fun p c => 2 * (p + dg c) % 11) p) r := by
  induction a generalizing p with
  | nil => rfl
  | cons c a ih =>
    obtain ⟨hc, ha'⟩ := allDig_cons ha
    cases har : a ++ r with
    | nil => exact absurd (List.append_eq_nil_iff.1 har).2 hr
    | cons d l =>
      rw [List.cons_append, har]
      simp only [i1S, List.foldl_cons]
      rw [← har, ih _ ha', vx_dig hc]
theorem i1_sub (a b : List UInt8) (x y : UInt8) (ha : AllDig a) (hb : b ≠ []) (hx : isDX x) (hy : isDX y) (e : i1S 0 (a ++ x :: b) = i1S 0 (a ++ y :: b)) : x = y := by
  rw [i1S_app _ _ _ (by simp) ha, i1S_app _ _ _ (by simp) ha] at e
  have bp := i11_bd a
  unfold i11 at bp
  generalize a.foldl (fun p c => 2 * (p + dg c) % 11) 0 = p at *
  cases b with
  | nil => exact absurd rfl hb
  | cons c b =>
    simp only [i1S] at e
    have := i1S_inj (c :: b) _ _ (by simp) (by omega) (by omega) e
    have := vx_bd hx
    have := vx_bd hy
    exact vx_inj hx hy (by omega)
theorem i1_swp (a b : List UInt8) (x y : UInt8) (ha : AllDig a) (hx : isDX x) (hy : isDX y) (e : i1S 0 (a ++ x :: y :: b) = i1S 0 (a ++ y :: x :: b)) : x = y := by
  rw [i1S_app _ _ _ (by simp) ha, i1S_app _ _ _ (by simp) ha] at e
  have bp := i11_bd a
  unfold i11 at bp
  generalize a.foldl (fun p c => 2 * (p + dg c) % 11) 0 = p at *
  have := vx_bd hx
  have := vx_bd hy
  cases b with
  | nil =>
    simp only [i1S] at e
    exact vx_inj hx hy (by omega)
  | cons c b =>
    simp only [i1S] at e
    have := i1S_inj (c :: b) _ _ (by simp) (by omega) (by omega) e
    exact vx_inj hx hy (by omega)
end Go.Proofs.YtkpfehfcgpapiaaGreatDoor.Cd

/-
  Detection: of two accepted strings of one system neither is the other with one character changed, or two different neighbours exchanged, but for the named cases.
  No condition.
-/
namespace Go.Proofs.YtkpfehfcgpapiaaGreatDoor.Cd

/-- An accepted string: its data, its check characters. -/
theorem parts (k : Nat) (s : List UInt8) (h1 : 1 ≤ k) (h8 : k ≤ 8) (h : ver k s = 0) : ∃ l, s = l ++ cmp k l ∧ (∀ c ∈ l, datB k (c.toNat : Int) = true) ∧ l ≠ [] ∧ (k = 3 → l.length = 9) ∧ (∀ c ∈ s, chkB k (c.toNat : Int) = true) := by
  obtain ⟨_, hf, hd, hc, he⟩ := (ver_zero_iff k s).1 h
  have hlt := fits_lt k s.length hf
  refine ⟨s.take (s.length - size k), ?_, hd, ?_, ?_, ?_⟩
  · rw [he]; exact (List.take_append_drop _ _).symm
  · intro e
    have : (s.take (s.length - size k)).length = 0 := by rw [e]; rfl
    rw [List.length_take] at this
    omega
  · rintro rfl
    have := fits_isbn _ hf
    rw [List.length_take, this]; rfl
  · intro c hcs
    rw [← List.take_append_drop (s.length - size k) s] at hcs
    rcases List.mem_append.1 hcs with hc' | hc'
    · have := hd c hc'
      unfold datB at this; unfold chkB
      split
      · simp_all
      · split <;> simp_all
    · exact hc c hc'
theorem dig_of {k : Nat} (h7 : k ≠ 7) (h3 : k ≠ 3) (h8 : k ≠ 8) {c : UInt8} (h : chkB k (c.toNat : Int) = true) : 48 ≤ c.toNat ∧ c.toNat ≤ 57 := by
  rw [chkB, if_neg h7, if_neg (by omega)] at h
  simp only [isDig, Bool.and_eq_true, decide_eq_true_eq] at h
  omega
theorem dx_of {k : Nat} (h38 : k = 3 ∨ k = 8) {c : UInt8} (h : chkB k (c.toNat : Int) = true) : isDX c := by
  rw [chkB, if_neg (by omega), if_pos h38] at h
  simp only [isDig, Bool.or_eq_true, Bool.and_eq_true, decide_eq_true_eq, beq_iff_eq] at h
  rcases h with h | h
  · left; omega
  · right; exact UInt8.toNat_inj.1 (by show c.toNat = 88; omega)

/-- The whole string's equation. -/
theorem whole1 (s : List UInt8) (h : ver 1 s = 0) : (gsF s).1 % 10 = 0 := by
  obtain ⟨l, rfl, _⟩ := parts 1 s (by decide) (by decide) h
  simp only [cmp]
  rw [gsF_snoc, dg_chr _ (by omega) (by omega)]
  dsimp only
  omega
theorem whole2 (s : List UInt8) (h : ver 2 s = 0) : (lnF s).1 % 10 = 0 := by
  obtain ⟨l, rfl, _⟩ := parts 2 s (by decide) (by decide) h
  simp only [cmp]
  rw [lnF_snoc, dg_chr _ (by omega) (by omega)]
  dsimp only
  omega
theorem whole3 (s : List UInt8) (h : ver 3 s = 0) : isF s % 11 = 0 ∧ s.length = 10 := by
  obtain ⟨l, rfl, hd, _, h9, _⟩ := parts 3 s (by decide) (by decide) h
  refine ⟨?_, ?_⟩
  · simp only [cmp]
    rw [isF_snoc _ _ (allDig_of' (by decide) hd), vx_chr _ (by omega) (by omega)]
    omega
  · rw [List.length_append, h9 rfl]; rfl
theorem whole4 (s : List UInt8) (h : ver 4 s = 0) : vhF s = 0 := by
  obtain ⟨l, rfl, hd, _, _, hc⟩ := parts 4 s (by decide) (by decide) h
  have hl := allDig_of' (by decide) hd
  have hb := inv_bd _ (vh_bd l hl)
  simp only [cmp] at hc ⊢
  rw [vhF_snoc _ _ hl (dig_of (k := 4) (by decide) (by decide) (by decide) (hc _ (List.mem_append_right _ (List.mem_singleton.2 rfl)))), dg_chr _ (by omega) (by omega)]
  exact dih_inv _ (vh_bd l hl)
theorem whole5 (s : List UInt8) (h : ver 5 s = 0) : dm s = 0 := by
  obtain ⟨l, rfl, hd, _⟩ := parts 5 s (by decide) (by decide) h
  have hb := dm_bd l (allDig_of' (by decide) hd)
  simp only [cmp]
  rw [dmS_app]
  show dmAt (dm l) (dg (chr (dm l))) = 0
  rw [dg_chr _ hb.1 hb.2]
  obtain ⟨a, ha⟩ := fin_of _ hb
  rw [ha]; exact dm_diag a
theorem whole6 (s : List UInt8) (h : ver 6 s = 0) : i97 s = 1 := by
  obtain ⟨l, rfl, hd, _⟩ := parts 6 s (by decide) (by decide) h
  have hb := i97_bd l
  simp only [cmp]
  rw [i9S_app]
  show (10 * ((10 * i97 l + dg (chr ((98 - 100 * i97 l % 97) / 10))) % 97) + dg (chr ((98 - 100 * i97 l % 97) % 10))) % 97 = 1
  rw [dg_chr _ (by omega) (by omega), dg_chr _ (by omega) (by omega)]
  omega
theorem whole8 (s : List UInt8) (h : ver 8 s = 0) : i1S 0 s = 1 := by
  obtain ⟨l, rfl, hd, _⟩ := parts 8 s (by decide) (by decide) h
  have hb := i11_bd l
  simp only [cmp]
  rw [i1S_app _ _ _ (by simp) (allDig_of' (by decide) hd)]
  show (i11 l + vx (chr ((12 - i11 l) % 11))) % 11 = 1
  rw [vx_chr _ (by omega) (by omega)]
  omega
theorem whole7 (s : List UInt8) (h : ver 7 s = 0) : ∃ l d, s = l ++ [d] ∧ 0 ≤ c39 l ∧ plc d = c39 l % 43 ∧ (∀ c ∈ s, 0 ≤ plc c) := by
  obtain ⟨l, rfl, hd, _, _, hc⟩ := parts 7 s (by decide) (by decide) h
  have hb := c39_bd l (plc_of hd)
  have e : ∀ n : Fin 43, plc (syms.getD n.1 48) = (n.1 : Int) := by decide +kernel
  refine ⟨l, _, rfl, hb.1, ?_, fun c hcs => ?_⟩
  · have := e ⟨(c39 l % 43).toNat, by omega⟩
    dsimp only at this
    rw [this]; omega
  · have := hc c hcs; simpa [chkB] using this
theorem plc_inj : ∀ (l : List UInt8) (x y : UInt8), 0 ≤ Lib.indexByte l x → Lib.indexByte l x = Lib.indexByte l y → x = y := by
  intro l
  induction l with
  | nil => intro x y h; simp [Lib.indexByte] at h
  | cons b l ih =>
    intro x y h e
    simp only [Lib.indexByte, beq_iff_eq] at h e
    by_cases hx : b = x
    · by_cases hy : b = y
      · exact hx.symm.trans hy
      · exfalso
        rw [if_pos hx, if_neg hy] at e
        have hg := Lib.indexByte_ge l y
        split at e <;> omega
    · rw [if_neg hx] at h e
      by_cases hxn : Lib.indexByte l x = -1
      · rw [if_pos hxn] at h; omega
      · rw [if_neg hxn] at h e
        have hgx := Lib.indexByte_ge l x
        by_cases hy : b = y
        · rw [if_pos hy] at e; omega
        · rw [if_neg hy] at e
          by_cases hyn : Lib.indexByte l y = -1
          · rw [if_pos hyn] at e; omega
          · rw [if_neg hyn] at e
            exact ih x y (by omega) (by omega)
theorem c39_app (a r : List UInt8) : c39 (a ++ r) = c39 a + c39 r := by
  have h : ∀ (l : List Int) (b : Int), l.foldl (· + ·) b = b + l.foldl (· + ·) 0 := by
    intro l
    induction l with
    | nil => intro b; simp
    | cons x l ih => intro b; simp only [List.foldl_cons]; rw [ih (b + x), ih (0 + x)]; omega
  unfold c39
  rw [List.map_append, List.foldl_append, h]
theorem c39_cons (x : UInt8) (l : List UInt8) : c39 (x :: l) = plc x + c39 l := by
  have := c39_app [x] l
  rw [List.singleton_append] at this
  rw [this]; congr 1
  simp [c39]

/-- ONE CHARACTER CHANGED, not the last one. -/
theorem detects_sub (k : Nat) (a b : List UInt8) (x y : UInt8) (h1 : 1 ≤ k) (h8 : k ≤ 8) (hb : b ≠ []) (hs : ver k (a ++ x :: b) = 0) (ht : ver k (a ++ y :: b) = 0) : x = y := by
  obtain ⟨_, _, hds, _, _, hcs⟩ := parts k _ h1 h8 hs
  obtain ⟨_, _, hdt, _, _, hct⟩ := parts k _ h1 h8 ht
  have cx := hcs x (by simp)
  have cy := hct y (by simp)
  match k, h1, h8 with
  | 1, _, _ => exact gs_sub a b x y (dig_of (k := 1) (by decide) (by decide) (by decide) cx) (dig_of (k := 1) (by decide) (by decide) (by decide) cy) (whole1 _ hs) (whole1 _ ht)
  | 2, _, _ => exact ln_sub a b x y (dig_of (k := 2) (by decide) (by decide) (by decide) cx) (dig_of (k := 2) (by decide) (by decide) (by decide) cy) (whole2 _ hs) (whole2 _ ht)
  | 3, _, _ =>
    obtain ⟨e1, e2⟩ := whole3 _ hs
    rw [List.length_append, List.length_cons] at e2
    exact is_sub a b x y (dx_of (.inl rfl) cx) (dx_of (.inl rfl) cy) (by omega) e1 (whole3 _ ht).1
  | 4, _, _ => exact vh_sub a b x y (fun c hc => dig_of (k := 4) (by decide) (by decide) (by decide) (hcs c hc)) (fun c hc => dig_of (k := 4) (by decide) (by decide) (by decide) (hct c hc)) ((whole4 _ hs).trans (whole4 _ ht).symm)
  | 5, _, _ => exact dm_sub a b x y (fun c hc => dig_of (k := 5) (by decide) (by decide) (by decide) (hcs c hc)) (fun c hc => dig_of (k := 5) (by decide) (by decide) (by decide) (hct c hc)) ((whole5 _ hs).trans (whole5 _ ht).symm)
  | 6, _, _ => exact i9_sub a b x y (dig_of (k := 6) (by decide) (by decide) (by decide) cx) (dig_of (k := 6) (by decide) (by decide) (by decide) cy) ((whole6 _ hs).trans (whole6 _ ht).symm)
  | 7, _, _ =>
    obtain ⟨l, d, el, _, pd, hp⟩ := whole7 _ hs
    obtain ⟨l', d', el', _, pd', hp'⟩ := whole7 _ ht
    obtain ⟨b', e', hb'⟩ : ∃ b' e', b = b' ++ [e'] := ⟨b.dropLast, b.getLast hb, (List.dropLast_concat_getLast hb).symm⟩
    subst hb'
    have u1 : a ++ x :: b' = l ∧ [e'] = [d] := List.append_inj' (by rw [← el]; simp) rfl
    have u2 : a ++ y :: b' = l' ∧ [e'] = [d'] := List.append_inj' (by rw [← el']; simp) rfl
    have ed : d = d' := by have := u1.2.symm.trans u2.2; simpa using this
    rw [← u1.1, c39_app, c39_cons] at pd
    rw [← u2.1, c39_app, c39_cons, ← ed, pd] at pd'
    have px := hp x (by simp)
    have py := hp' y (by simp)
    have bx := plc_bd x
    have by' := plc_bd y
    exact plc_inj syms x y px (by show plc x = plc y; omega)
  | 8, _, _ =>
    obtain ⟨l, el, hd, _⟩ := parts 8 _ (by decide) (by decide) hs
    have hla := allDig_of' (by decide) hd
    have ha : AllDig a := by
      intro c hc
      have hlen : a.length < l.length := by
        have e := congrArg List.length el
        rw [List.length_append, List.length_append, List.length_cons, cmp_size 8 l (by decide) (by decide)] at e
        have : 0 < b.length := List.length_pos_iff.2 hb
        have : size 8 = 1 := rfl
        omega
      have : a = l.take a.length := by
        have := congrArg (List.take a.length) el
        rw [List.take_left, List.take_append_of_le_length (by omega)] at this
        exact this
      rw [this] at hc
      exact hla c (List.mem_of_mem_take hc)
    exact i1_sub a b x y ha hb (dx_of (.inr rfl) cx) (dx_of (.inr rfl) cy) ((whole8 _ hs).trans (whole8 _ ht).symm)

/-- TWO NEIGHBOURS EXCHANGED. -/
theorem detects_swp (k : Nat) (a b : List UInt8) (x y : UInt8) (h1 : 1 ≤ k) (h8 : k ≤ 8) (h7 : k ≠ 7) (hs : ver k (a ++ x :: y :: b) = 0) (ht : ver k (a ++ y :: x :: b) = 0) :
    x = y ∨ (k = 2 ∧ ((dg x = 0 ∧ dg y = 9) ∨ (dg x = 9 ∧ dg y = 0))) ∨ (k = 1 ∧ (dg x - dg y = 5 ∨ dg y - dg x = 5)) := by
  obtain ⟨_, _, hds, _, _, hcs⟩ := parts k _ h1 h8 hs
  obtain ⟨_, _, hdt, _, _, hct⟩ := parts k _ h1 h8 ht
  have cx := hcs x (by simp)
  have cy := hcs y (by simp)
  match k, h1, h8, h7 with
  | 1, _, _, _ =>
    rcases gs_swp a b x y (dig_of (k := 1) (by decide) (by decide) (by decide) cx) (dig_of (k := 1) (by decide) (by decide) (by decide) cy) (whole1 _ hs) (whole1 _ ht) with h | h
    · exact .inl h
    · exact .inr (.inr ⟨rfl, h⟩)
  | 2, _, _, _ =>
    rcases ln_swp a b x y (dig_of (k := 2) (by decide) (by decide) (by decide) cx) (dig_of (k := 2) (by decide) (by decide) (by decide) cy) (whole2 _ hs) (whole2 _ ht) with h | h
    · exact .inl h
    · exact .inr (.inl ⟨rfl, h⟩)
  | 3, _, _, _ => exact .inl (is_swp a b x y (dx_of (.inl rfl) cx) (dx_of (.inl rfl) cy) (whole3 _ hs).1 (whole3 _ ht).1)
  | 4, _, _, _ => exact .inl (vh_swp a b x y (fun c hc => dig_of (k := 4) (by decide) (by decide) (by decide) (hcs c hc)) (fun c hc => dig_of (k := 4) (by decide) (by decide) (by decide) (hct c hc)) ((whole4 _ hs).trans (whole4 _ ht).symm))
  | 5, _, _, _ => exact .inl (dm_swp a b x y (fun c hc => dig_of (k := 5) (by decide) (by decide) (by decide) (hcs c hc)) ((whole5 _ hs).trans (whole5 _ ht).symm))
  | 6, _, _, _ => exact .inl (i9_swp a b x y (dig_of (k := 6) (by decide) (by decide) (by decide) cx) (dig_of (k := 6) (by decide) (by decide) (by decide) cy) ((whole6 _ hs).trans (whole6 _ ht).symm))
  | 8, _, _, _ =>
    obtain ⟨l, el, hd, _⟩ := parts 8 _ (by decide) (by decide) hs
    have hla := allDig_of' (by decide) hd
    have ha : AllDig a := by
      intro c hc
      have hlen : a.length < l.length := by
        have e := congrArg List.length el
        rw [List.length_append, List.length_append, List.length_cons, List.length_cons, cmp_size 8 l (by decide) (by decide)] at e
        have : size 8 = 1 := rfl
        omega
      have : a = l.take a.length := by
        have := congrArg (List.take a.length) el
        rw [List.take_left, List.take_append_of_le_length (by omega)] at this
        exact this
      rw [this] at hc
      exact hla c (List.mem_of_mem_take hc)
    exact .inl (i1_swp a b x y ha (dx_of (.inr rfl) cx) (dx_of (.inr rfl) cy) ((whole8 _ hs).trans (whole8 _ ht).symm))
end Go.Proofs.YtkpfehfcgpapiaaGreatDoor.Cd
