/-
  The eight check digit systems as plain functions on lists of bytes.
  No condition.
-/
import Derived.Lib.Bytealg
import Derived.Lib.ItoaNum
namespace Go.Proofs.YtkpfehfcgpapiaaGreatDoor.Cd

/-- The value of a digit. -/
def dg (c : UInt8) : Int := (c.toNat : Int) - 48
def isDig (c : Int) : Bool := decide (48 ≤ c) && decide (c ≤ 57)
def AllDig (l : List UInt8) : Prop := ∀ c ∈ l, 48 ≤ c.toNat ∧ c.toNat ≤ 57
def syms : List UInt8 := [48, 49, 50, 51, 52, 53, 54, 55, 56, 57, 65, 66, 67, 68, 69, 70, 71, 72, 73, 74, 75, 76, 77, 78, 79, 80, 81, 82, 83, 84, 85, 86, 87, 88, 89, 90, 45, 46, 32, 36, 47, 43, 37]
def plc (c : UInt8) : Int := Lib.indexByte syms c

theorem dg_bd {c : UInt8} (h : 48 ≤ c.toNat ∧ c.toNat ≤ 57) : 0 ≤ dg c ∧ dg c ≤ 9 := by unfold dg; omega
theorem allDig_drop {l : List UInt8} (h : AllDig l) (k : Nat) : AllDig (l.drop k) := fun c hc => h c (List.mem_of_mem_drop hc)
theorem allDig_take {l : List UInt8} (h : AllDig l) (k : Nat) : AllDig (l.take k) := fun c hc => h c (List.mem_of_mem_take hc)

/-- CheckGS1: the sum and the next weight. -/
def gsP : List UInt8 → Int × Int
  | [] => (0, 3)
  | c :: l => ((gsP l).1 + (gsP l).2 * dg c, 4 - (gsP l).2)
theorem gsP_w (l : List UInt8) : (gsP l).2 = if l.length % 2 = 0 then 3 else 1 := by
  induction l with
  | nil => rfl
  | cons c l ih => simp only [gsP, ih, List.length_cons]; split <;> split <;> omega
theorem gsP_bd (l : List UInt8) (h : AllDig l) : 0 ≤ (gsP l).1 ∧ (gsP l).1 ≤ 27 * l.length := by
  induction l with
  | nil => simp [gsP]
  | cons c l ih =>
    have h1 := ih (fun x hx => h x (List.mem_cons_of_mem _ hx))
    have h2 := dg_bd (h c (List.mem_cons_self ..))
    have h3 := gsP_w l
    simp only [gsP, List.length_cons]
    split at h3 <;> rw [h3] <;> omega

/-- CheckLuhn: the sum, and whether the next digit is doubled. -/
def dbl (x : Int) : Int := if 2 * x > 9 then 2 * x - 9 else 2 * x
theorem dbl_hi (x : Int) (h : 9 < x * 2) : dbl x = x * 2 - 9 := by unfold dbl; rw [if_pos (by omega)]; omega
theorem dbl_lo (x : Int) (h : ¬ 9 < x * 2) : dbl x = x * 2 := by unfold dbl; rw [if_neg (by omega)]; omega
def lnP : List UInt8 → Int × Bool
  | [] => (0, true)
  | c :: l => ((lnP l).1 + (if (lnP l).2 then dbl (dg c) else dg c), !(lnP l).2)
theorem lnP_w (l : List UInt8) : (lnP l).2 = decide (l.length % 2 = 0) := by
  induction l with
  | nil => rfl
  | cons c l ih =>
    simp only [lnP, ih, List.length_cons]
    by_cases h : l.length % 2 = 0
    · have : ¬ (l.length + 1) % 2 = 0 := by omega
      simp [h, this]
    · have : (l.length + 1) % 2 = 0 := by omega
      simp [h, this]
theorem lnP_bd (l : List UInt8) (h : AllDig l) : 0 ≤ (lnP l).1 ∧ (lnP l).1 ≤ 9 * l.length := by
  induction l with
  | nil => simp [lnP]
  | cons c l ih =>
    have h1 := ih (fun x hx => h x (List.mem_cons_of_mem _ hx))
    have h2 := dg_bd (h c (List.mem_cons_self ..))
    simp only [lnP, List.length_cons]
    unfold dbl
    split
    · split <;> omega
    · omega

/-- CheckISBN: the sum of the digits times 2, 3, .. from the right. -/
def isb : List UInt8 → Int
  | [] => 0
  | c :: l => isb l + ((l.length : Int) + 2) * dg c

/-- CheckVerhoeff. -/
def permL : List Int := [1, 5, 7, 6, 2, 8, 3, 0, 9, 4]
def perm (x : Int) : Int := permL.getD x.toNat 0
def permN : Nat → Int → Int
  | 0, x => x
  | n + 1, x => perm (permN n x)
def dih (a b : Int) : Int := if a < 5 then (if b < 5 then (a + b) % 5 else 5 + (a + b - 5) % 5) else (if b < 5 then 5 + (a - b) % 5 else (a - b + 5) % 5)
def vh : List UInt8 → Int
  | [] => 0
  | c :: l => dih (vh l) (permN (l.length + 1) (dg c))
/-- The inverse in the group. -/
def inv (c : Int) : Int := if c < 5 then (5 - c) % 5 else c

/-- CheckDamm. -/
def dmT : List (List UInt8) := [[48, 51, 49, 55, 53, 57, 56, 54, 52, 50], [55, 48, 57, 50, 49, 53, 52, 56, 54, 51], [52, 50, 48, 54, 56, 55, 49, 51, 53, 57], [49, 55, 53, 48, 57, 56, 51, 52, 50, 54], [54, 49, 50, 51, 48, 52, 53, 57, 55, 56], [51, 54, 55, 52, 50, 48, 57, 53, 56, 49], [53, 56, 54, 57, 55, 50, 48, 49, 51, 52], [56, 57, 52, 53, 51, 54, 50, 48, 49, 55], [57, 52, 51, 56, 54, 49, 55, 50, 48, 53], [50, 53, 56, 49, 52, 51, 54, 55, 57, 48]]
def dmAt (c x : Int) : Int := dg ((dmT.getD c.toNat []).getD x.toNat 48)
def dm (l : List UInt8) : Int := l.foldl (fun c x => dmAt c (dg x)) 0

def i97 (l : List UInt8) : Int := l.foldl (fun r c => (10 * r + dg c) % 97) 0
def i11 (l : List UInt8) : Int := l.foldl (fun p c => 2 * (p + dg c) % 11) 0
def c39 (l : List UInt8) : Int := (l.map plc).foldl (· + ·) 0

/-- The character of a value from 0 to 10. -/
def chr (v : Int) : UInt8 := if v = 10 then 88 else UInt8.ofNat (48 + v.toNat)

/-- The check characters of valid data. -/
def cmp (k : Nat) (l : List UInt8) : List UInt8 :=
  match k with
  | 1 => [chr ((10 - (gsP l).1 % 10) % 10)]
  | 2 => [chr ((10 - (lnP l).1 % 10) % 10)]
  | 3 => [chr ((11 - isb l % 11) % 11)]
  | 4 => [chr (inv (vh l))]
  | 5 => [chr (dm l)]
  | 6 => [chr ((98 - 100 * i97 l % 97) / 10), chr ((98 - 100 * i97 l % 97) % 10)]
  | 7 => [syms.getD (c39 l % 43).toNat 48]
  | 8 => [chr ((12 - i11 l) % 11)]
  | _ => []
def size (k : Nat) : Nat := if k = 6 then 2 else 1
/-- May a character be one of the data? -/
def datB (k : Nat) (c : Int) : Bool := if k = 7 then decide (0 ≤ plc c.toNat.toUInt8) else isDig c
/-- May it be a check character? -/
def chkB (k : Nat) (c : Int) : Bool := if k = 7 then decide (0 ≤ plc c.toNat.toUInt8) else if k = 3 ∨ k = 8 then (isDig c || (c == 88)) else isDig c
def fits (k : Nat) (n : Nat) : Bool := if k = 3 then n == 10 else decide (size k < n)

/-- What Verify returns. -/
def ver (k : Nat) (l : List UInt8) : Int :=
  if 4096 < l.length then 4
  else if fits k l.length = false then 7
  else if (l.take (l.length - size k)).all (fun c => datB k c.toNat) = false then 6
  else if (l.drop (l.length - size k)).all (fun c => chkB k c.toNat) = false then 6
  else if cmp k (l.take (l.length - size k)) = l.drop (l.length - size k) then 0 else 8
def verI (k : Int) (l : List UInt8) : Int := if k < 1 ∨ 8 < k then 1 else ver k.toNat l
/-- What Compute returns. -/
def comp (k : Nat) (l : List UInt8) : List UInt8 × Int :=
  if l = [] then ([], 5)
  else if 4096 < l.length then ([], 4)
  else if l.all (fun c => datB k c.toNat) = false then ([], 6)
  else if fits k (l.length + size k) = false then ([], 7)
  else (cmp k l, 0)
def compI (k : Int) (l : List UInt8) : List UInt8 × Int := if k < 1 ∨ 8 < k then ([], 1) else comp k.toNat l
def app (k : Int) (l : List UInt8) : List UInt8 × Int :=
  if (compI k l).2 = 0 then (if 4096 < l.length + (compI k l).1.length then ([], 4) else (l ++ (compI k l).1, 0)) else ([], (compI k l).2)
/-- The weight of the digit i places before the end. -/
def wt (ws : List Int) (m : Int) (i : Nat) : Int := ((ws.getD (i % ws.length) 0).tmod m + m) % m
def wsP (ws : List Int) (m : Int) : List UInt8 → Int
  | [] => 0
  | c :: l => (wsP ws m l + dg c * wt ws m l.length) % m
/-- What Weighted returns. -/
def wsum (l : List UInt8) (ws : List Int) (m : Int) : Int × Int :=
  if m < 1 ∨ 65536 < m then (0, 3)
  else if ws = [] then (0, 5)
  else if 4096 < l.length then (0, 4)
  else if l.all (fun c => isDig c.toNat) = false then (0, 6)
  else (wsP ws m l, 0)
theorem wt_bd (ws : List Int) (m : Int) (i : Nat) (h : 1 ≤ m) : 0 ≤ wt ws m i ∧ wt ws m i < m := ⟨Int.emod_nonneg _ (by omega), Int.emod_lt_of_pos _ (by omega)⟩
theorem wsP_bd (ws : List Int) (m : Int) (l : List UInt8) (h : 1 ≤ m) : 0 ≤ wsP ws m l ∧ wsP ws m l < m := by
  cases l with
  | nil => simp only [wsP]; omega
  | cons c l => exact ⟨Int.emod_nonneg _ (by omega), Int.emod_lt_of_pos _ (by omega)⟩
theorem tmod_bd (x m : Int) (h : 1 ≤ m) : -m < x.tmod m ∧ x.tmod m < m := by
  refine ⟨?_, Int.tmod_lt_of_pos _ (by omega)⟩
  by_cases hx : 0 ≤ x
  · have := Int.tmod_nonneg m hx; omega
  · have h1 := Int.neg_tmod x m
    have h2 : (-x).tmod m < m := Int.tmod_lt_of_pos _ (by omega)
    omega

/-- One character changed; two neighbours exchanged. -/
def sub1 (l : List UInt8) (i : Nat) (c : UInt8) : List UInt8 := l.take i ++ [c] ++ l.drop (i + 1)
def swp (l : List UInt8) (i : Nat) : List UInt8 := l.take i ++ (l.drop (i + 1)).take 1 ++ (l.drop i).take 1 ++ l.drop (i + 2)
def subsOk (k : Int) (l : List UInt8) (i : Nat) (c : UInt8) : Bool := sub1 l i c != l && verI k (sub1 l i c) == 0
def subs (k : Int) (l : List UInt8) (i : Nat) (cs : List UInt8) : List (List UInt8) := (cs.filter (subsOk k l i)).map (sub1 l i)
/-- Is the string with the characters i and i + 1 exchanged one of the corrections? -/
def swpOk (k : Int) (l : List UInt8) (i : Nat) : Bool := decide (i + 1 < l.length) && l.getD i 0 != l.getD (i + 1) 0 && verI k (swp l i) == 0
def swps (k : Int) (l : List UInt8) (i : Nat) : List (List UInt8) := if swpOk k l i then [swp l i] else []
def corAt (k : Int) (l : List UInt8) (i : Nat) : List (List UInt8) := subs k l i syms ++ (match i with | 0 => [] | j + 1 => swps k l j)
def corTo (k : Int) (l : List UInt8) (n : Nat) : List (List UInt8) := (List.range n).flatMap (corAt k l)
def cor (k : Int) (l : List UInt8) : List (List UInt8) × Int :=
  if k < 1 ∨ 8 < k then ([], 1)
  else if 64 < l.length then ([], 4)
  else if fits k.toNat l.length = false then ([], 7)
  else ((corTo k l l.length).mergeSort (fun x y => decide (x ≤ y)), 0)
theorem subs_snoc (k : Int) (l : List UInt8) (i : Nat) (cs : List UInt8) (c : UInt8) : subs k l i (cs ++ [c]) = subs k l i cs ++ (if subsOk k l i c then [sub1 l i c] else []) := by
  unfold subs
  rw [List.filter_append, List.map_append]
  congr 1
  by_cases h : subsOk k l i c = true <;> simp [h]
theorem subs_len (k : Int) (l : List UInt8) (i : Nat) (cs : List UInt8) : (subs k l i cs).length ≤ cs.length := by
  unfold subs; rw [List.length_map]; exact List.length_filter_le _ _
theorem swps_len (k : Int) (l : List UInt8) (i : Nat) : (swps k l i).length ≤ 1 := by unfold swps; split <;> simp
theorem corAt_len (k : Int) (l : List UInt8) (i : Nat) : (corAt k l i).length ≤ 44 := by
  unfold corAt
  rw [List.length_append]
  have h1 := subs_len k l i syms
  have h2 : syms.length = 43 := rfl
  cases i with
  | zero => simp only [List.length_nil]; omega
  | succ j => have := swps_len k l j; simp only []; omega
theorem corTo_succ (k : Int) (l : List UInt8) (n : Nat) : corTo k l (n + 1) = corTo k l n ++ corAt k l n := by
  unfold corTo; rw [List.range_succ, List.flatMap_append]; simp
theorem corTo_len (k : Int) (l : List UInt8) (n : Nat) : (corTo k l n).length ≤ 44 * n := by
  induction n with
  | zero => simp [corTo]
  | succ n ih => rw [corTo_succ, List.length_append]; have := corAt_len k l n; omega
theorem size_bd (k : Nat) : 1 ≤ size k ∧ size k ≤ 2 := by unfold size; split <;> omega
theorem fits_lt (k n : Nat) (h : fits k n = true) : size k < n := by
  unfold fits at h
  split at h
  · rename_i h3; subst h3
    have : n = 10 := by simpa using h
    subst this; decide
  · simpa using h
theorem fits_isbn (n : Nat) (h : fits 3 n = true) : n = 10 := by simpa [fits] using h

/-! ### Steps from the right and from the left -/
theorem foldl_snoc {α β : Type} (f : β → α → β) (b : β) (l : List α) (x : α) : (l ++ [x]).foldl f b = f (l.foldl f b) x := by simp
theorem perm_bd (x : Int) : 0 ≤ perm x ∧ perm x ≤ 9 := by
  unfold perm
  generalize x.toNat = n
  match n with
  | 0 => decide
  | 1 => decide
  | 2 => decide
  | 3 => decide
  | 4 => decide
  | 5 => decide
  | 6 => decide
  | 7 => decide
  | 8 => decide
  | 9 => decide
  | n + 10 => simp [permL]
theorem permN_bd (n : Nat) (x : Int) (h : 0 ≤ x ∧ x ≤ 9) : 0 ≤ permN n x ∧ permN n x ≤ 9 := by
  cases n with
  | zero => exact h
  | succ n => exact perm_bd _
theorem dih_bd (a b : Int) (_ha : 0 ≤ a ∧ a ≤ 9) (_hb : 0 ≤ b ∧ b ≤ 9) : 0 ≤ dih a b ∧ dih a b ≤ 9 := by
  unfold dih; split <;> split <;> omega
theorem vh_bd (l : List UInt8) (h : AllDig l) : 0 ≤ vh l ∧ vh l ≤ 9 := by
  induction l with
  | nil => simp [vh]
  | cons c l ih =>
    exact dih_bd _ _ (ih (fun x hx => h x (List.mem_cons_of_mem _ hx))) (permN_bd _ _ (dg_bd (h c (List.mem_cons_self ..))))
theorem isb_bd (l : List UInt8) (h : AllDig l) (hl : l.length ≤ 9) : 0 ≤ isb l ∧ isb l ≤ 99 * l.length := by
  induction l with
  | nil => simp [isb]
  | cons c l ih =>
    simp only [List.length_cons] at hl
    have h1 := ih (fun x hx => h x (List.mem_cons_of_mem _ hx)) (by omega)
    have h2 := dg_bd (h c (List.mem_cons_self ..))
    simp only [isb, List.length_cons]
    have h3 : 0 ≤ ((l.length : Int) + 2) * dg c := Int.mul_nonneg (by omega) h2.1
    have h4 : ((l.length : Int) + 2) * dg c ≤ 11 * 9 := Int.mul_le_mul (by omega) h2.2 h2.1 (by omega)
    omega
theorem foldl_inv {α : Type} (f : Int → α → Int) (P : Int → Prop) (l : List α) (b : Int) (hb : P b) (hs : ∀ p c, P p → P (f p c)) : P (l.foldl f b) := by
  induction l generalizing b with
  | nil => exact hb
  | cons c l ih => exact ih _ (hs _ _ hb)
theorem dmAt_bd (c x : Int) : 0 ≤ c ∧ c ≤ 9 → 0 ≤ x ∧ x ≤ 9 → 0 ≤ dmAt c x ∧ dmAt c x ≤ 9 := by
  intro hc hx
  obtain ⟨c, rfl⟩ := Int.eq_ofNat_of_zero_le hc.1
  obtain ⟨x, rfl⟩ := Int.eq_ofNat_of_zero_le hx.1
  have h : ∀ (c : Fin 10) (x : Fin 10), 0 ≤ dmAt (c.1 : Int) (x.1 : Int) ∧ dmAt (c.1 : Int) (x.1 : Int) ≤ 9 := by decide
  exact h ⟨c, by omega⟩ ⟨x, by omega⟩
theorem dm_bd (l : List UInt8) (h : AllDig l) : 0 ≤ dm l ∧ dm l ≤ 9 := by
  have : ∀ (l : List UInt8) (b : Int), AllDig l → 0 ≤ b ∧ b ≤ 9 → 0 ≤ l.foldl (fun c x => dmAt c (dg x)) b ∧ l.foldl (fun c x => dmAt c (dg x)) b ≤ 9 := by
    intro l
    induction l with
    | nil => intro b _ hb; exact hb
    | cons c l ih => intro b h hb; exact ih _ (fun x hx => h x (List.mem_cons_of_mem _ hx)) (dmAt_bd _ _ hb (dg_bd (h c (List.mem_cons_self ..))))
  exact this l 0 h (by omega)
theorem i97_bd (l : List UInt8) : 0 ≤ i97 l ∧ i97 l ≤ 96 := foldl_inv _ (fun p => 0 ≤ p ∧ p ≤ 96) l 0 (by omega) (fun p c hp => by omega)
theorem i11_bd (l : List UInt8) : 0 ≤ i11 l ∧ i11 l ≤ 10 := foldl_inv _ (fun p => 0 ≤ p ∧ p ≤ 10) l 0 (by omega) (fun p c hp => by omega)
theorem plc_bd (c : UInt8) : -1 ≤ plc c ∧ plc c ≤ 42 := by
  have h : ∀ (l : List UInt8), -1 ≤ Lib.indexByte l c ∧ Lib.indexByte l c < (l.length : Int) := by
    intro l
    induction l with
    | nil => simp [Lib.indexByte]
    | cons b l ih =>
      simp only [Lib.indexByte, List.length_cons]
      split
      · omega
      · split <;> omega
  have := h syms
  have e : (syms.length : Int) = 43 := rfl
  unfold plc; omega
theorem c39_bd (l : List UInt8) (h : ∀ c ∈ l, 0 ≤ plc c) : 0 ≤ c39 l ∧ c39 l ≤ 42 * l.length := by
  have : ∀ (l : List UInt8) (b : Int), (∀ c ∈ l, 0 ≤ plc c) → b ≤ (l.map plc).foldl (· + ·) b ∧ (l.map plc).foldl (· + ·) b ≤ b + 42 * l.length := by
    intro l
    induction l with
    | nil => intro b _; simp
    | cons c l ih =>
      intro b h
      have h1 := ih (b + plc c) (fun x hx => h x (List.mem_cons_of_mem _ hx))
      have h2 := plc_bd c
      have h3 := h c (List.mem_cons_self ..)
      simp only [List.map_cons, List.foldl_cons, List.length_cons]
      omega
  have := this l 0 h
  unfold c39; omega
theorem inv_bd (c : Int) (_h : 0 ≤ c ∧ c ≤ 9) : 0 ≤ inv c ∧ inv c ≤ 9 := by unfold inv; split <;> omega
theorem dih_inv (c : Int) (_h : 0 ≤ c ∧ c ≤ 9) : dih (inv c) c = 0 := by
  unfold dih inv; repeat' split
  all_goals omega
theorem dih_inv_only (c e : Int) (h : 0 ≤ c ∧ c ≤ 9) (he : 0 ≤ e ∧ e ≤ 9) (h0 : dih e c = 0) : e = inv c := by
  unfold dih at h0; unfold inv; split at h0 <;> split at h0 <;> split <;> omega
theorem dec1 : ∀ i : Fin 10, Lib.decDigits i.1 = [UInt8.ofNat (48 + i.1)] := by
  intro i; rw [Lib.decDigits]; simp
theorem dec_chr (v : Nat) (h : v < 10) : Lib.decDigits v = [chr (v : Int)] := by
  rw [dec1 ⟨v, h⟩, chr, if_neg (by omega)]; simp
end Go.Proofs.YtkpfehfcgpapiaaGreatDoor.Cd
