/-
  Two accepted strings do not differ in one character, nor by an exchange of neighbours, but for the cases that the chapter names.
  No condition.
-/
import Derived.Test.YtfpliihglgjijaaGreatCdM1
namespace Go.Proofs.YtfpliihglgjijaaGreat.Cd

/-- The value of a digit, or of X. -/
def vx (c : UInt8) : Int := if c = 88 then 10 else dg c
def isDX (c : UInt8) : Prop := (48 ≤ c.toNat ∧ c.toNat ≤ 57) ∨ c = 88
theorem vx_dig {c : UInt8} (h : 48 ≤ c.toNat ∧ c.toNat ≤ 57) : vx c = dg c := if_neg (by rintro rfl; revert h; decide)
theorem vx_bd {c : UInt8} (h : isDX c) : 0 ≤ vx c ∧ vx c ≤ 10 := by
  rcases h with h | rfl
  · rw [vx_dig h]; have := dg_bd h; omega
  · decide
theorem dg_inj {a b : UInt8} (h : dg a = dg b) : a = b := by unfold dg at h; exact UInt8.toNat_inj.1 (by omega)
theorem vx_inj {a b : UInt8} (ha : isDX a) (hb : isDX b) (h : vx a = vx b) : a = b := by
  rcases ha with ha | rfl <;> rcases hb with hb | rfl
  · rw [vx_dig ha, vx_dig hb] at h; exact dg_inj h
  · rw [vx_dig ha, show vx 88 = 10 from rfl] at h; have := dg_bd ha; omega
  · rw [vx_dig hb, show vx 88 = 10 from rfl] at h; have := dg_bd hb; omega
  · rfl
theorem vx_chr (v : Int) (h0 : 0 ≤ v) (h1 : v ≤ 10) : vx (chr v) = v := by
  obtain ⟨n, rfl⟩ := Int.eq_ofNat_of_zero_le h0
  have h : ∀ n : Fin 11, vx (chr (n.1 : Int)) = (n.1 : Int) := by decide
  exact h ⟨n, by omega⟩
theorem dg_chr (v : Int) (h0 : 0 ≤ v) (h1 : v ≤ 9) : dg (chr v) = v := by
  obtain ⟨n, rfl⟩ := Int.eq_ofNat_of_zero_le h0
  have h : ∀ n : Fin 10, dg (chr (n.1 : Int)) = (n.1 : Int) := by decide
  exact h ⟨n, by omega⟩

/-! ### GS1 -/
def gsF : List UInt8 → Int × Int
  | [] => (0, 1)
  | c :: l => ((gsF l).1 + (gsF l).2 * dg c, 4 - (gsF l).2)
theorem gsF_w (l : List UInt8) : (gsF l).2 = if l.length % 2 = 0 then 1 else 3 := by
  induction l with
  | nil => rfl
  | cons c l ih => simp only [gsF, ih, List.length_cons]; split <;> split <;> omega
theorem gsF_snoc (l : List UInt8) (d : UInt8) : gsF (l ++ [d]) = ((gsP l).1 + dg d, (gsP l).2) := by
  induction l with
  | nil => simp [gsF, gsP]
  | cons c l ih =>
    simp only [List.cons_append, gsF, ih, gsP]
    congr 1
    omega
theorem gsF_app (a r r' : List UInt8) (h : r.length = r'.length) : (gsF (a ++ r)).1 - (gsF (a ++ r')).1 = (gsF r).1 - (gsF r').1 := by
  induction a with
  | nil => rfl
  | cons c a ih =>
    have e : (gsF (a ++ r)).2 = (gsF (a ++ r')).2 := by rw [gsF_w, gsF_w, List.length_append, List.length_append, h]
    simp only [List.cons_append, gsF, e]
    omega
theorem gs_sub (a b : List UInt8) (x y : UInt8) (hx : 48 ≤ x.toNat ∧ x.toNat ≤ 57) (hy : 48 ≤ y.toNat ∧ y.toNat ≤ 57) (h1 : (gsF (a ++ x :: b)).1 % 10 = 0) (h2 : (gsF (a ++ y :: b)).1 % 10 = 0) : x = y := by
  have e := gsF_app a (x :: b) (y :: b) rfl
  simp only [gsF] at e
  have hw := gsF_w b
  have bx := dg_bd hx
  have hby := dg_bd hy
  apply dg_inj
  split at hw <;> rw [hw] at e <;> omega
theorem gs_swp (a b : List UInt8) (x y : UInt8) (hx : 48 ≤ x.toNat ∧ x.toNat ≤ 57) (hy : 48 ≤ y.toNat ∧ y.toNat ≤ 57) (h1 : (gsF (a ++ x :: y :: b)).1 % 10 = 0) (h2 : (gsF (a ++ y :: x :: b)).1 % 10 = 0) :
    x = y ∨ dg x - dg y = 5 ∨ dg y - dg x = 5 := by
  have e := gsF_app a (x :: y :: b) (y :: x :: b) rfl
  simp only [gsF] at e
  have hw := gsF_w b
  have bx := dg_bd hx
  have hby := dg_bd hy
  by_cases hxy : dg x = dg y
  · exact .inl (dg_inj hxy)
  · right
    split at hw <;> rw [hw] at e <;> omega

/-! ### Luhn -/
def lf (b : Bool) (x : Int) : Int := if b then dbl x else x
def lnF : List UInt8 → Int × Bool
  | [] => (0, false)
  | c :: l => ((lnF l).1 + lf (lnF l).2 (dg c), !(lnF l).2)
theorem lnF_w (l : List UInt8) : (lnF l).2 = decide (l.length % 2 = 1) := by
  induction l with
  | nil => rfl
  | cons c l ih =>
    simp only [lnF, ih, List.length_cons]
    by_cases h : l.length % 2 = 1
    · have : ¬ (l.length + 1) % 2 = 1 := by omega
      simp [h, this]
    · have : (l.length + 1) % 2 = 1 := by omega
      simp [h, this]
theorem lnF_snoc (l : List UInt8) (d : UInt8) : lnF (l ++ [d]) = ((lnP l).1 + dg d, (lnP l).2) := by
  induction l with
  | nil => simp [lnF, lnP, lf]
  | cons c l ih =>
    simp only [List.cons_append, lnF, ih, lnP, lf]
    congr 1
    omega
theorem lnF_app (a r r' : List UInt8) (h : r.length = r'.length) : (lnF (a ++ r)).1 - (lnF (a ++ r')).1 = (lnF r).1 - (lnF r').1 := by
  induction a with
  | nil => rfl
  | cons c a ih =>
    have e : (lnF (a ++ r)).2 = (lnF (a ++ r')).2 := by rw [lnF_w, lnF_w, List.length_append, List.length_append, h]
    simp only [List.cons_append, lnF, e]
    omega
theorem ln_sub (a b : List UInt8) (x y : UInt8) (hx : 48 ≤ x.toNat ∧ x.toNat ≤ 57) (hy : 48 ≤ y.toNat ∧ y.toNat ≤ 57) (h1 : (lnF (a ++ x :: b)).1 % 10 = 0) (h2 : (lnF (a ++ y :: b)).1 % 10 = 0) : x = y := by
  have e := lnF_app a (x :: b) (y :: b) rfl
  simp only [lnF] at e
  have bx := dg_bd hx
  have hby := dg_bd hy
  apply dg_inj
  generalize (lnF b).2 = t at e
  cases t
  · simp only [lf, Bool.false_eq_true, if_false] at e; omega
  · simp only [lf, if_true, dbl] at e
    split at e <;> split at e <;> omega
theorem ln_swp (a b : List UInt8) (x y : UInt8) (hx : 48 ≤ x.toNat ∧ x.toNat ≤ 57) (hy : 48 ≤ y.toNat ∧ y.toNat ≤ 57) (h1 : (lnF (a ++ x :: y :: b)).1 % 10 = 0) (h2 : (lnF (a ++ y :: x :: b)).1 % 10 = 0) :
    x = y ∨ (dg x = 0 ∧ dg y = 9) ∨ (dg x = 9 ∧ dg y = 0) := by
  have e := lnF_app a (x :: y :: b) (y :: x :: b) rfl
  simp only [lnF] at e
  have bx := dg_bd hx
  have hby := dg_bd hy
  by_cases hxy : dg x = dg y
  · exact .inl (dg_inj hxy)
  · right
    generalize (lnF b).2 = t at e
    cases t
    · simp only [lf, Bool.not_false, if_true, Bool.false_eq_true, if_false, dbl] at e
      split at e <;> split at e <;> omega
    · simp only [lf, Bool.not_true, if_true, Bool.false_eq_true, if_false, dbl] at e
      split at e <;> split at e <;> omega

/-! ### ISBN -/
def isF : List UInt8 → Int
  | [] => 0
  | c :: l => isF l + ((l.length : Int) + 1) * vx c
theorem isF_snoc (l : List UInt8) (d : UInt8) (h : AllDig l) : isF (l ++ [d]) = isb l + vx d := by
  induction l with
  | nil => simp [isF, isb]
  | cons c l ih =>
    simp only [List.cons_append, isF, isb, ih (fun x hx => h x (List.mem_cons_of_mem _ hx)), List.length_append, List.length_singleton, vx_dig (h c (List.mem_cons_self ..))]
    rw [show (((l.length + 1 : Nat) : Int) + 1) = (l.length : Int) + 2 by omega]
    omega
theorem isF_app (a r r' : List UInt8) (h : r.length = r'.length) : isF (a ++ r) - isF (a ++ r') = isF r - isF r' := by
  induction a with
  | nil => rfl
  | cons c a ih =>
    simp only [List.cons_append, isF, List.length_append, h]
    omega
theorem is_sub (a b : List UInt8) (x y : UInt8) (hx : isDX x) (hy : isDX y) (hb : b.length ≤ 9) (h1 : isF (a ++ x :: b) % 11 = 0) (h2 : isF (a ++ y :: b) % 11 = 0) : x = y := by
  have e := isF_app a (x :: b) (y :: b) rfl
  simp only [isF] at e
  have bx := vx_bd hx
  have hby := vx_bd hy
  apply vx_inj hx hy
  generalize vx x = p at *
  generalize vx y = q at *
  generalize b.length = m at *
  match m, hb with
  | 0, _ | 1, _ | 2, _ | 3, _ | 4, _ | 5, _ | 6, _ | 7, _ | 8, _ | 9, _ => omega
theorem is_swp (a b : List UInt8) (x y : UInt8) (hx : isDX x) (hy : isDX y) (h1 : isF (a ++ x :: y :: b) % 11 = 0) (h2 : isF (a ++ y :: x :: b) % 11 = 0) : x = y := by
  have e := isF_app a (x :: y :: b) (y :: x :: b) rfl
  simp only [isF, List.length_cons] at e
  have bx := vx_bd hx
  have hby := vx_bd hy
  apply vx_inj hx hy
  have e1 : ((b.length + 1 : Nat) : Int) + 1 = ((b.length : Int) + 1) + 1 := by omega
  rw [e1, Int.add_mul ((b.length : Int) + 1) 1 (vx x), Int.add_mul ((b.length : Int) + 1) 1 (vx y)] at e
  omega

/-! ### Verhoeff -/
def vhF : List UInt8 → Int
  | [] => 0
  | c :: l => dih (vhF l) (permN l.length (dg c))
theorem dih_assoc : ∀ a b c : Fin 10, dih (dih (a.1 : Int) (b.1 : Int)) (c.1 : Int) = dih (a.1 : Int) (dih (b.1 : Int) (c.1 : Int)) := by decide +kernel
theorem dih_left : ∀ a b c : Fin 10, dih (a.1 : Int) (b.1 : Int) = dih (a.1 : Int) (c.1 : Int) → b = c := by decide +kernel
theorem dih_right : ∀ a b c : Fin 10, dih (b.1 : Int) (a.1 : Int) = dih (c.1 : Int) (a.1 : Int) → b = c := by decide +kernel
theorem dih_anti : ∀ u v : Fin 10, dih (u.1 : Int) (perm (v.1 : Int)) = dih (v.1 : Int) (perm (u.1 : Int)) → u = v := by decide +kernel
theorem dih_zero : ∀ a : Fin 10, dih 0 (a.1 : Int) = (a.1 : Int) ∧ dih (a.1 : Int) 0 = (a.1 : Int) := by decide +kernel
theorem perm_inj : ∀ a b : Fin 10, perm (a.1 : Int) = perm (b.1 : Int) → a = b := by decide +kernel
theorem fin_of (x : Int) (h : 0 ≤ x ∧ x ≤ 9) : ∃ a : Fin 10, x = (a.1 : Int) := ⟨⟨x.toNat, by omega⟩, by simp only []; omega⟩
theorem dih_assoc' (a b c : Int) (ha : 0 ≤ a ∧ a ≤ 9) (hb : 0 ≤ b ∧ b ≤ 9) (hc : 0 ≤ c ∧ c ≤ 9) : dih (dih a b) c = dih a (dih b c) := by
  obtain ⟨a, rfl⟩ := fin_of a ha; obtain ⟨b, rfl⟩ := fin_of b hb; obtain ⟨c, rfl⟩ := fin_of c hc
  exact dih_assoc a b c
theorem dih_left' (a b c : Int) (ha : 0 ≤ a ∧ a ≤ 9) (hb : 0 ≤ b ∧ b ≤ 9) (hc : 0 ≤ c ∧ c ≤ 9) (h : dih a b = dih a c) : b = c := by
  obtain ⟨a, rfl⟩ := fin_of a ha; obtain ⟨b, rfl⟩ := fin_of b hb; obtain ⟨c, rfl⟩ := fin_of c hc
  rw [dih_left a b c h]
theorem dih_right' (a b c : Int) (ha : 0 ≤ a ∧ a ≤ 9) (hb : 0 ≤ b ∧ b ≤ 9) (hc : 0 ≤ c ∧ c ≤ 9) (h : dih b a = dih c a) : b = c := by
  obtain ⟨a, rfl⟩ := fin_of a ha; obtain ⟨b, rfl⟩ := fin_of b hb; obtain ⟨c, rfl⟩ := fin_of c hc
  rw [dih_right a b c h]
theorem permN_inj (n : Nat) (a b : Int) (ha : 0 ≤ a ∧ a ≤ 9) (hb : 0 ≤ b ∧ b ≤ 9) (h : permN n a = permN n b) : a = b := by
  induction n with
  | zero => exact h
  | succ n ih =>
    apply ih
    have h1 := permN_bd n a ha
    have h2 := permN_bd n b hb
    obtain ⟨u, hu⟩ := fin_of _ h1
    obtain ⟨v, hv⟩ := fin_of _ h2
    have h3 : perm (permN n a) = perm (permN n b) := h
    rw [hu, hv] at h3 ⊢
    rw [perm_inj u v h3]
theorem vhF_bd (l : List UInt8) (h : AllDig l) : 0 ≤ vhF l ∧ vhF l ≤ 9 := by
  induction l with
  | nil => simp [vhF]
  | cons c l ih => exact dih_bd _ _ (ih (fun x hx => h x (List.mem_cons_of_mem _ hx))) (permN_bd _ _ (dg_bd (h c (List.mem_cons_self ..))))
theorem allDig_cons {c : UInt8} {l : List UInt8} (h : AllDig (c :: l)) : (48 ≤ c.toNat ∧ c.toNat ≤ 57) ∧ AllDig l := ⟨h c (List.mem_cons_self ..), fun x hx => h x (List.mem_cons_of_mem _ hx)⟩
theorem allDig_app {a b : List UInt8} (h : AllDig (a ++ b)) : AllDig a ∧ AllDig b := ⟨fun x hx => h x (List.mem_append_left _ hx), fun x hx => h x (List.mem_append_right _ hx)⟩
theorem vhF_snoc (l : List UInt8) (d : UInt8) (h : AllDig l) (hd : 48 ≤ d.toNat ∧ d.toNat ≤ 57) : vhF (l ++ [d]) = dih (dg d) (vh l) := by
  induction l with
  | nil =>
    simp only [List.nil_append, vhF, vh, List.length_nil, permN]
    obtain ⟨a, ha⟩ := fin_of _ (dg_bd hd)
    rw [ha, (dih_zero a).1, (dih_zero a).2]
  | cons c l ih =>
    obtain ⟨hc, hl⟩ := allDig_cons h
    simp only [List.cons_append, vhF, vh, ih hl, List.length_append, List.length_singleton]
    exact dih_assoc' _ _ _ (dg_bd hd) (vh_bd l hl) (permN_bd _ _ (dg_bd hc))
theorem vhF_app (a r r' : List UInt8) (hl : r.length = r'.length) (ha : AllDig a) (hr : AllDig r) (hr' : AllDig r') (h : vhF (a ++ r) = vhF (a ++ r')) : vhF r = vhF r' := by
  induction a with
  | nil => exact h
  | cons c a ih =>
    obtain ⟨hc, hal⟩ := allDig_cons ha
    apply ih hal
    simp only [List.cons_append, vhF, List.length_append, hl] at h
    exact dih_right' _ _ _ (permN_bd _ _ (dg_bd hc)) (vhF_bd _ (fun x hx => (List.mem_append.1 hx).elim (hal x) (hr x))) (vhF_bd _ (fun x hx => (List.mem_append.1 hx).elim (hal x) (hr' x))) h
theorem vh_sub (a b : List UInt8) (x y : UInt8) (h : AllDig (a ++ x :: b)) (h' : AllDig (a ++ y :: b)) (e : vhF (a ++ x :: b) = vhF (a ++ y :: b)) : x = y := by
  obtain ⟨ha, hxb⟩ := allDig_app h
  obtain ⟨_, hyb⟩ := allDig_app h'
  have e2 := vhF_app a (x :: b) (y :: b) rfl ha hxb hyb e
  obtain ⟨hx, hb⟩ := allDig_cons hxb
  obtain ⟨hy, _⟩ := allDig_cons hyb
  simp only [vhF] at e2
  exact dg_inj (permN_inj _ _ _ (dg_bd hx) (dg_bd hy) (dih_left' _ _ _ (vhF_bd b hb) (permN_bd _ _ (dg_bd hx)) (permN_bd _ _ (dg_bd hy)) e2))
theorem vh_swp (a b : List UInt8) (x y : UInt8) (h : AllDig (a ++ x :: y :: b)) (h' : AllDig (a ++ y :: x :: b)) (e : vhF (a ++ x :: y :: b) = vhF (a ++ y :: x :: b)) : x = y := by
  obtain ⟨ha, hxb⟩ := allDig_app h
  obtain ⟨_, hyb⟩ := allDig_app h'
  have e2 := vhF_app a (x :: y :: b) (y :: x :: b) rfl ha hxb hyb e
  obtain ⟨hx, h2⟩ := allDig_cons hxb
  obtain ⟨hy, hb⟩ := allDig_cons h2
  simp only [vhF, List.length_cons] at e2
  have bx := permN_bd b.length _ (dg_bd hx)
  have hby := permN_bd b.length _ (dg_bd hy)
  rw [dih_assoc' _ _ _ (vhF_bd b hb) hby (permN_bd _ _ (dg_bd hx)), dih_assoc' _ _ _ (vhF_bd b hb) bx (permN_bd _ _ (dg_bd hy))] at e2
  have e3 := dih_left' _ _ _ (vhF_bd b hb) (dih_bd _ _ hby (permN_bd _ _ (dg_bd hx))) (dih_bd _ _ bx (permN_bd _ _ (dg_bd hy))) e2
  simp only [permN] at e3
  obtain ⟨u, hu⟩ := fin_of _ hby
  obtain ⟨v, hv⟩ := fin_of _ bx
  rw [hu, hv] at e3
  have := dih_anti u v e3
  subst this
  exact dg_inj (permN_inj _ _ _ (dg_bd hx) (dg_bd hy) (hv.trans hu.symm))

/-! ### Damm -/
def dmS (p : Int) (l : List UInt8) : Int := l.foldl (fun c x => dmAt c (dg x)) p
theorem dm_row : ∀ c x y : Fin 10, dmAt (c.1 : Int) (x.1 : Int) = dmAt (c.1 : Int) (y.1 : Int) → x = y := by decide +kernel
theorem dm_col : ∀ c d x : Fin 10, dmAt (c.1 : Int) (x.1 : Int) = dmAt (d.1 : Int) (x.1 : Int) → c = d := by decide +kernel
theorem dm_anti : ∀ c x y : Fin 10, dmAt (dmAt (c.1 : Int) (x.1 : Int)) (y.1 : Int) = dmAt (dmAt (c.1 : Int) (y.1 : Int)) (x.1 : Int) → x = y := by decide +kernel
theorem dm_diag : ∀ c : Fin 10, dmAt (c.1 : Int) (c.1 : Int) = 0 := by decide +kernel
theorem dmS_inj (l : List UInt8) (p q : Int) (hl : AllDig l) (hp : 0 ≤ p ∧ p ≤ 9) (hq : 0 ≤ q ∧ q ≤ 9) (h : dmS p l = dmS q l) : p = q := by
  induction l generalizing p q with
  | nil => exact h
  | cons c l ih =>
    obtain ⟨hc, hl'⟩ := allDig_cons hl
    have := ih (dmAt p (dg c)) (dmAt q (dg c)) hl' (dmAt_bd _ _ hp (dg_bd hc)) (dmAt_bd _ _ hq (dg_bd hc)) h
    obtain ⟨a, rfl⟩ := fin_of p hp; obtain ⟨b, rfl⟩ := fin_of q hq; obtain ⟨x, hx⟩ := fin_of _ (dg_bd hc)
    rw [hx] at this
    rw [dm_col a b x this]
theorem dmS_app (a r : List UInt8) : dm (a ++ r) = dmS (dm a) r := by unfold dm dmS; rw [List.foldl_append]
theorem dm_sub (a b : List UInt8) (x y : UInt8) (h : AllDig (a ++ x :: b)) (h' : AllDig (a ++ y :: b)) (e : dm (a ++ x :: b) = dm (a ++ y :: b)) : x = y := by
  obtain ⟨ha, hxb⟩ := allDig_app h
  obtain ⟨_, hyb⟩ := allDig_app h'
  obtain ⟨hx, hb⟩ := allDig_cons hxb
  obtain ⟨hy, _⟩ := allDig_cons hyb
  rw [dmS_app, dmS_app] at e
  have := dmS_inj b _ _ hb (dmAt_bd _ _ (dm_bd a ha) (dg_bd hx)) (dmAt_bd _ _ (dm_bd a ha) (dg_bd hy)) e
  obtain ⟨c, hc⟩ := fin_of _ (dm_bd a ha); obtain ⟨u, hu⟩ := fin_of _ (dg_bd hx); obtain ⟨v, hv⟩ := fin_of _ (dg_bd hy)
  rw [hc, hu, hv] at this
  have := dm_row c u v this
  subst this
  exact dg_inj (hu.trans hv.symm)
theorem dm_swp (a b : List UInt8) (x y : UInt8) (h : AllDig (a ++ x :: y :: b)) (e : dm (a ++ x :: y :: b) = dm (a ++ y :: x :: b)) : x = y := by
  obtain ⟨ha, hxb⟩ := allDig_app h
  obtain ⟨hx, h2⟩ := allDig_cons hxb
  obtain ⟨hy, hb⟩ := allDig_cons h2
  rw [dmS_app, dmS_app] at e
  have := dmS_inj b _ _ hb (dmAt_bd _ _ (dmAt_bd _ _ (dm_bd a ha) (dg_bd hx)) (dg_bd hy)) (dmAt_bd _ _ (dmAt_bd _ _ (dm_bd a ha) (dg_bd hy)) (dg_bd hx)) e
  obtain ⟨c, hc⟩ := fin_of _ (dm_bd a ha); obtain ⟨u, hu⟩ := fin_of _ (dg_bd hx); obtain ⟨v, hv⟩ := fin_of _ (dg_bd hy)
  rw [hc, hu, hv] at this
  have := dm_anti c u v this
  subst this
  exact dg_inj (hu.trans hv.symm)

/-! ### ISO 7064, modulo 97 -/
def i9S (p : Int) (l : List UInt8) : Int := l.foldl (fun r c => (10 * r + dg c) % 97) p
theorem i9S_inj (l : List UInt8) (p q : Int) (hp : 0 ≤ p ∧ p ≤ 96) (hq : 0 ≤ q ∧ q ≤ 96) (h : i9S p l = i9S q l) : p = q := by
  induction l generalizing p q with
  | nil => exact h
  | cons c l ih =>
    have := ih ((10 * p + dg c) % 97) ((10 * q + dg c) % 97) (by omega) (by omega) h
    omega
theorem i9S_app (a r : List UInt8) : i97 (a ++ r) = i9S (i97 a) r := by unfold i97 i9S; rw [List.foldl_append]
theorem i9_sub (a b : List UInt8) (x y : UInt8) (hx : 48 ≤ x.toNat ∧ x.toNat ≤ 57) (hy : 48 ≤ y.toNat ∧ y.toNat ≤ 57) (e : i97 (a ++ x :: b) = i97 (a ++ y :: b)) : x = y := by
  rw [i9S_app, i9S_app] at e
  have := i9S_inj b ((10 * i97 a + dg x) % 97) ((10 * i97 a + dg y) % 97) (by omega) (by omega) e
  have := dg_bd hx
  have := dg_bd hy
  exact dg_inj (by omega)
theorem i9_swp (a b : List UInt8) (x y : UInt8) (hx : 48 ≤ x.toNat ∧ x.toNat ≤ 57) (hy : 48 ≤ y.toNat ∧ y.toNat ≤ 57) (e : i97 (a ++ x :: y :: b) = i97 (a ++ y :: x :: b)) : x = y := by
  rw [i9S_app, i9S_app] at e
  have := i9S_inj b ((10 * ((10 * i97 a + dg x) % 97) + dg y) % 97) ((10 * ((10 * i97 a + dg y) % 97) + dg x) % 97) (by omega) (by omega) e
  have := dg_bd hx
  have := dg_bd hy
  exact dg_inj (by omega)

/-! ### ISO 7064, modulo 11-2 -/
def i1S (p : Int) : List UInt8 → Int
  | [] => p
  | [d] => (p + vx d) % 11
  | c :: c' :: l => i1S (2 * (p + vx c) % 11) (c' :: l)
theorem i1S_inj (l : List UInt8) (p q : Int) (hl : l ≠ []) (hp : 0 ≤ p ∧ p ≤ 10) (hq : 0 ≤ q ∧ q ≤ 10) (h : i1S p l = i1S q l) : p = q := by
  induction l generalizing p q with
  | nil => exact absurd rfl hl
  | cons c l ih =>
    cases l with
    | nil => simp only [i1S] at h; omega
    | cons c' l =>
      simp only [i1S] at h
      have := ih (2 * (p + vx c) % 11) (2 * (q + vx c) % 11) (by simp) (by omega) (by omega) h
      omega
theorem i1S_app (a r : List UInt8) (p : Int) (hr : r ≠ []) (ha : AllDig a) : i1S p (a ++ r) = i1S (a.foldl (fun p c => 2 * (p + dg c) % 11) p) r := by
  induction a generalizing p with
  | nil => rfl
  | cons c a ih =>
    obtain ⟨hc, ha'⟩ := allDig_cons ha
    cases har : a ++ r with
    | nil => exact absurd (List.append_eq_nil_iff.1 har).2 hr
    | cons d l =>
      rw [List.cons_append, har]
      simp only [i1S, List.foldl_cons]
      rw [← har, ih _ ha', vx_dig hc]
theorem i1_sub (a b : List UInt8) (x y : UInt8) (ha : AllDig a) (hb : b ≠ []) (hx : isDX x) (hy : isDX y) (e : i1S 0 (a ++ x :: b) = i1S 0 (a ++ y :: b)) : x = y := by
  rw [i1S_app _ _ _ (by simp) ha, i1S_app _ _ _ (by simp) ha] at e
  have bp := i11_bd a
  unfold i11 at bp
  generalize a.foldl (fun p c => 2 * (p + dg c) % 11) 0 = p at *
  cases b with
  | nil => exact absurd rfl hb
  | cons c b =>
    simp only [i1S] at e
    have := i1S_inj (c :: b) _ _ (by simp) (by omega) (by omega) e
    have := vx_bd hx
    have := vx_bd hy
    exact vx_inj hx hy (by omega)
theorem i1_swp (a b : List UInt8) (x y : UInt8) (ha : AllDig a) (hx : isDX x) (hy : isDX y) (e : i1S 0 (a ++ x :: y :: b) = i1S 0 (a ++ y :: x :: b)) : x = y := by
  rw [i1S_app _ _ _ (by simp) ha, i1S_app _ _ _ (by simp) ha] at e
  have bp := i11_bd a
  unfold i11 at bp
  generalize a.foldl (fun p c => 2 * (p + dg c) % 11) 0 = p at *
  have := vx_bd hx
  have := vx_bd hy
  cases b with
  | nil =>
    simp only [i1S] at e
    exact vx_inj hx hy (by omega)
  | cons c b =>
    simp only [i1S] at e
    have := i1S_inj (c :: b) _ _ (by simp) (by omega) (by omega) e
    exact vx_inj hx hy (by omega)
end Go.Proofs.YtfpliihglgjijaaGreat.Cd
