/-
  What Append returns is accepted, and with the same data nothing else is.
  No condition.
-/
import Derived.Test.YtfpliihglgjijaaGreatCd
namespace Go.Proofs.YtfpliihglgjijaaGreat.Cd

theorem chr_ok (v : Int) (h0 : 0 ≤ v) (_h1 : v ≤ 9) : isDig ((chr v).toNat : Int) = true := by
  obtain ⟨n, rfl⟩ := Int.eq_ofNat_of_zero_le h0
  have h : ∀ n : Fin 10, isDig ((chr (n.1 : Int)).toNat : Int) = true := by decide
  exact h ⟨n, by omega⟩
theorem chr_okX (v : Int) (h0 : 0 ≤ v) (_h1 : v ≤ 10) : (isDig ((chr v).toNat : Int) || ((chr v).toNat : Int) == 88) = true := by
  obtain ⟨n, rfl⟩ := Int.eq_ofNat_of_zero_le h0
  have h : ∀ n : Fin 11, (isDig ((chr (n.1 : Int)).toNat : Int) || ((chr (n.1 : Int)).toNat : Int) == 88) = true := by decide
  exact h ⟨n, by omega⟩
theorem syms_ok : ∀ n : Fin 43, 0 ≤ plc (syms.getD n.1 48) := by decide +kernel
theorem allDig_of' {k : Nat} (h7 : k ≠ 7) {l : List UInt8} (h : ∀ c ∈ l, datB k (c.toNat : Int) = true) : AllDig l := fun c hc => by
  have := h c hc
  rw [datB, if_neg h7] at this
  simp only [isDig, Bool.and_eq_true, decide_eq_true_eq] at this
  omega
theorem plc_of {l : List UInt8} (h : ∀ c ∈ l, datB 7 (c.toNat : Int) = true) : ∀ c ∈ l, 0 ≤ plc c := fun c hc => by
  have := h c hc; simpa [datB] using this

theorem cmp_size (k : Nat) (l : List UInt8) (h1 : 1 ≤ k) (h8 : k ≤ 8) : (cmp k l).length = size k := by
  match k, h1, h8 with
  | 1, _, _ => rfl
  | 2, _, _ => rfl
  | 3, _, _ => rfl
  | 4, _, _ => rfl
  | 5, _, _ => rfl
  | 6, _, _ => rfl
  | 7, _, _ => rfl
  | 8, _, _ => rfl
theorem cmp_chk (k : Nat) (l : List UInt8) (h1 : 1 ≤ k) (h8 : k ≤ 8) (hd : ∀ c ∈ l, datB k (c.toNat : Int) = true) : (cmp k l).all (fun c => chkB k c.toNat) = true := by
  match k, h1, h8 with
  | 1, _, _ => simp only [cmp, List.all_cons, List.all_nil, Bool.and_true]; exact chr_ok _ (by omega) (by omega)
  | 2, _, _ => simp only [cmp, List.all_cons, List.all_nil, Bool.and_true]; exact chr_ok _ (by omega) (by omega)
  | 3, _, _ => simp only [cmp, List.all_cons, List.all_nil, Bool.and_true]; exact chr_okX _ (by omega) (by omega)
  | 4, _, _ =>
    have := inv_bd _ (vh_bd l (allDig_of' (by decide) hd))
    simp only [cmp, List.all_cons, List.all_nil, Bool.and_true]; exact chr_ok _ (by omega) (by omega)
  | 5, _, _ =>
    have := dm_bd l (allDig_of' (by decide) hd)
    simp only [cmp, List.all_cons, List.all_nil, Bool.and_true]; exact chr_ok _ (by omega) (by omega)
  | 6, _, _ =>
    have := i97_bd l
    simp only [cmp, List.all_cons, List.all_nil, Bool.and_true, Bool.and_eq_true]
    exact ⟨chr_ok _ (by omega) (by omega), chr_ok _ (by omega) (by omega)⟩
  | 7, _, _ =>
    have hb := c39_bd l (plc_of hd)
    simp only [cmp, List.all_cons, List.all_nil, Bool.and_true]
    have := syms_ok ⟨(c39 l % 43).toNat, by omega⟩
    simpa [chkB] using this
  | 8, _, _ =>
    have := i11_bd l
    simp only [cmp, List.all_cons, List.all_nil, Bool.and_true]; exact chr_okX _ (by omega) (by omega)

/-- What Verify = 0 says of the parts. -/
theorem ver_zero_iff (k : Nat) (l : List UInt8) : ver k l = 0 ↔ l.length ≤ 4096 ∧ fits k l.length = true ∧ (∀ c ∈ l.take (l.length - size k), datB k (c.toNat : Int) = true) ∧ (∀ c ∈ l.drop (l.length - size k), chkB k (c.toNat : Int) = true) ∧ cmp k (l.take (l.length - size k)) = l.drop (l.length - size k) := by
  unfold ver
  rw [← List.all_eq_true (p := fun c : UInt8 => datB k c.toNat), ← List.all_eq_true (p := fun c : UInt8 => chkB k c.toNat)]
  by_cases h1 : 4096 < l.length
  · rw [if_pos h1]; constructor
    · intro h; omega
    · intro h; omega
  rw [if_neg h1]
  cases h2 : fits k l.length
  · simp
  rw [if_neg (by simp)]
  cases h3 : (l.take (l.length - size k)).all (fun c => datB k c.toNat)
  · simp
  rw [if_neg (by simp)]
  cases h4 : (l.drop (l.length - size k)).all (fun c => chkB k c.toNat)
  · simp
  rw [if_neg (by simp)]
  by_cases h5 : cmp k (l.take (l.length - size k)) = l.drop (l.length - size k)
  · rw [if_pos h5]; simp [h5]; omega
  · rw [if_neg h5]; simp [h5]

/-- When Append succeeds. -/
theorem app_ok (k : Int) (l : List UInt8) (h : (app k l).2 = 0) : ∃ n : Nat, k = (n : Int) ∧ 1 ≤ n ∧ n ≤ 8 ∧ l ≠ [] ∧ (∀ c ∈ l, datB n (c.toNat : Int) = true) ∧ fits n (l.length + size n) = true ∧ l.length + size n ≤ 4096 ∧ (app k l).1 = l ++ cmp n l := by
  unfold app at h ⊢
  by_cases h0 : (compI k l).2 = 0
  · rw [if_pos h0] at h ⊢
    by_cases h4 : 4096 < l.length + (compI k l).1.length
    · rw [if_pos h4] at h; cases h
    · rw [if_neg h4]
      unfold compI at h0 h4 ⊢
      by_cases hk : k < 1 ∨ 8 < k
      · rw [if_pos hk] at h0; cases h0
      · rw [if_neg hk] at h0 h4 ⊢
        obtain ⟨n, rfl⟩ := Int.eq_ofNat_of_zero_le (show 0 ≤ k by omega)
        rw [Int.toNat_natCast] at h0 h4 ⊢
        unfold comp at h0 h4 ⊢
        by_cases e1 : l = []
        · rw [if_pos e1] at h0; cases h0
        rw [if_neg e1] at h0 h4 ⊢
        by_cases e2 : 4096 < l.length
        · rw [if_pos e2] at h0; cases h0
        rw [if_neg e2] at h0 h4 ⊢
        by_cases e3 : l.all (fun c => datB n c.toNat) = false
        · rw [if_pos e3] at h0; cases h0
        rw [if_neg e3] at h0 h4 ⊢
        by_cases e4 : fits n (l.length + size n) = false
        · rw [if_pos e4] at h0; cases h0
        rw [if_neg e4] at h4 ⊢
        rw [Bool.not_eq_false] at e3 e4
        dsimp only at h4 ⊢
        rw [cmp_size n l (by omega) (by omega)] at h4
        exact ⟨n, rfl, by omega, by omega, e1, List.all_eq_true.1 e3, e4, by omega, rfl⟩
  · rw [if_neg h0] at h; exact absurd h h0
theorem app_no (k : Int) (l : List UInt8) (h : (app k l).2 ≠ 0) : (app k l).1 = [] := by
  unfold app at h ⊢
  by_cases h0 : (compI k l).2 = 0
  · rw [if_pos h0] at h ⊢
    by_cases h4 : 4096 < l.length + (compI k l).1.length
    · rw [if_pos h4]
    · rw [if_neg h4] at h; exact absurd rfl h
  · rw [if_neg h0]

theorem cut_len (n : Nat) (l : List UInt8) (h1 : 1 ≤ n) (h8 : n ≤ 8) : (l ++ cmp n l).length - size n = l.length := by
  rw [List.length_append, cmp_size n l h1 h8]; omega
theorem ver_app (n : Nat) (l : List UInt8) (h1 : 1 ≤ n) (h8 : n ≤ 8) (hd : ∀ c ∈ l, datB n (c.toNat : Int) = true) (hf : fits n (l.length + size n) = true) (hl : l.length + size n ≤ 4096) : ver n (l ++ cmp n l) = 0 := by
  rw [ver_zero_iff, cut_len n l h1 h8]
  rw [List.take_left, List.drop_left]
  refine ⟨?_, ?_, hd, List.all_eq_true.1 (cmp_chk n l h1 h8 hd), rfl⟩
  · rw [List.length_append, cmp_size n l h1 h8]; omega
  · rw [List.length_append, cmp_size n l h1 h8]; exact hf
/-- With the data l, only l followed by its check characters is accepted. -/
theorem ver_same (n : Nat) (l u : List UInt8) (_h1 : 1 ≤ n) (_h8 : n ≤ 8) (hu : u.length = l.length + size n) (ht : u.take l.length = l) (h : ver n u = 0) : u = l ++ cmp n l := by
  rw [ver_zero_iff, hu, show l.length + size n - size n = l.length by omega] at h
  have h5 := h.2.2.2.2
  rw [ht] at h5
  have := List.take_append_drop l.length u
  rw [ht, ← h5] at this
  exact this.symm
theorem verI_nat (n : Nat) (l : List UInt8) (h1 : 1 ≤ n) (h8 : n ≤ 8) : verI (n : Int) l = ver n l := by
  rw [verI, if_neg (by omega), Int.toNat_natCast]
end Go.Proofs.YtfpliihglgjijaaGreat.Cd
