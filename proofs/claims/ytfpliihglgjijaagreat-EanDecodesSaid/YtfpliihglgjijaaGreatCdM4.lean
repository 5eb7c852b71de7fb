/-
  Strings of digits are accepted in GS1, ISBN and ISO 11 exactly if their weighted sums are the specified ones.
  No condition.
-/
import Derived.Test.YtfpliihglgjijaaGreatCdM3
namespace Go.Proofs.YtfpliihglgjijaaGreat.Cd

theorem wt13 (i : Nat) : wt [1, 3] 10 i = if i % 2 = 0 then 1 else 3 := by
  have h : ∀ j : Fin 2, ((([1, 3] : List Int).getD j.1 0).tmod 10 + 10) % 10 = if j.1 = 0 then 1 else 3 := by decide
  exact h ⟨i % 2, Nat.mod_lt _ (by decide)⟩
theorem ws_gs (s : List UInt8) : wsP [1, 3] 10 s = (gsF s).1 % 10 := by
  induction s with
  | nil => rfl
  | cons c l ih =>
    simp only [wsP, gsF, ih, wt13, gsF_w]
    split <;> omega
def w11 : List Int := [1, 2, 4, 8, 5, 10, 9, 7, 3, 6]
theorem w11_bd (i : Nat) : 0 ≤ wt w11 11 i ∧ wt w11 11 i ≤ 10 := by have := wt_bd w11 11 i (by omega); omega
theorem w11_succ (i : Nat) : wt w11 11 (i + 1) = (2 * wt w11 11 i) % 11 := by
  have h : ∀ j : Fin 10, (((w11.getD ((j.1 + 1) % 10) 0).tmod 11 + 11) % 11) = (2 * (((w11.getD j.1 0).tmod 11 + 11) % 11)) % 11 := by decide
  have := h ⟨i % 10, Nat.mod_lt _ (by decide)⟩
  dsimp only at this
  show ((w11.getD ((i + 1) % 10) 0).tmod 11 + 11) % 11 = (2 * (((w11.getD (i % 10) 0).tmod 11 + 11) % 11)) % 11
  rw [← this, show (i + 1) % 10 = (i % 10 + 1) % 10 by omega]
theorem w11_zero : wt w11 11 0 = 1 := by decide
theorem ws_11 (l : List UInt8) (d : UInt8) (p : Int) : (l.foldl (fun p c => 2 * (p + dg c) % 11) p + dg d) % 11 = (p * wt w11 11 l.length + wsP w11 11 (l ++ [d])) % 11 := by
  induction l generalizing p with
  | nil =>
    simp only [List.foldl_nil, List.nil_append, wsP, List.length_nil, w11_zero]
    omega
  | cons c l ih =>
    simp only [List.foldl_cons, List.cons_append, wsP, List.length_cons, List.length_append, List.length_nil, Nat.zero_add]
    rw [ih, w11_succ]
    have hb := w11_bd l.length
    generalize wsP w11 11 (l ++ [d]) = x
    generalize dg c = y
    generalize wt w11 11 l.length = q at *
    obtain ⟨n, rfl⟩ := Int.eq_ofNat_of_zero_le hb.1
    have hn : n ≤ 10 := by omega
    clear ih hb
    match n, hn with
    | 0, _ | 1, _ | 2, _ | 3, _ | 4, _ | 5, _ | 6, _ | 7, _ | 8, _ | 9, _ | 10, _ => omega
def w10 : List Int := [1, 2, 3, 4, 5, 6, 7, 8, 9, 10]
theorem w10_at : ∀ i : Fin 10, wt w10 11 i.1 = (i.1 : Int) + 1 := by decide
theorem ws_is (s : List UInt8) (h : AllDig s) (hl : s.length ≤ 10) : wsP w10 11 s = isF s % 11 := by
  induction s with
  | nil => rfl
  | cons c l ih =>
    obtain ⟨hc, hl'⟩ := allDig_cons h
    simp only [List.length_cons] at hl
    have e := w10_at ⟨l.length, by omega⟩
    dsimp only at e
    simp only [wsP, isF, ih hl' (by omega), e, vx_dig hc]
    rw [Int.mul_comm (dg c)]
    omega

/-- An accepted string of digits, by its data and its check digit. -/
theorem ver_digits (k : Nat) (l : List UInt8) (d : UInt8) (_h1 : 1 ≤ k) (_h8 : k ≤ 8) (h7 : k ≠ 7) (h6 : k ≠ 6) (hs : AllDig (l ++ [d])) (hl : (l ++ [d]).length ≤ 4096) : ver k (l ++ [d]) = 0 ↔ fits k (l ++ [d]).length = true ∧ cmp k l = [d] := by
  have hz : size k = 1 := if_neg h6
  have hcut : (l ++ [d]).length - size k = l.length := by rw [hz, List.length_append, List.length_singleton]; omega
  obtain ⟨hda, hdd⟩ := allDig_app hs
  have hd0 := hdd d (List.mem_singleton.2 rfl)
  have ddig : ∀ c : UInt8, 48 ≤ c.toNat ∧ c.toNat ≤ 57 → isDig (c.toNat : Int) = true := fun c hc => by simp only [isDig, Bool.and_eq_true, decide_eq_true_eq]; omega
  rw [ver_zero_iff, hcut, List.take_left, List.drop_left]
  constructor
  · intro h; exact ⟨h.2.1, h.2.2.2.2⟩
  · intro h
    refine ⟨hl, h.1, fun c hc => ?_, fun c hc => ?_, h.2⟩
    · rw [datB, if_neg h7]; exact ddig c (hda c hc)
    · rw [List.mem_singleton] at hc
      subst hc
      rw [chkB, if_neg h7]
      split
      · rw [ddig c hd0]; rfl
      · exact ddig c hd0
theorem last_of (s : List UInt8) (h : 2 ≤ s.length) : ∃ l d, s = l ++ [d] ∧ l ≠ [] := by
  have hne : s ≠ [] := by rintro rfl; simp at h
  refine ⟨s.dropLast, s.getLast hne, (List.dropLast_concat_getLast hne).symm, ?_⟩
  intro e
  have := congrArg List.length e
  rw [List.length_dropLast] at this
  simp only [List.length_nil] at this
  omega
theorem chr_eq (v : Int) (d : UInt8) (h0 : 0 ≤ v) (h1 : v ≤ 10) (hd : 48 ≤ d.toNat ∧ d.toNat ≤ 57) : [chr v] = [d] ↔ v = dg d := by
  constructor
  · intro h
    have e : chr v = d := by simpa using h
    rw [← vx_chr v h0 h1, e, vx_dig hd]
  · intro h
    have := dg_bd hd
    rw [List.cons_eq_cons]
    refine ⟨dg_inj ?_, rfl⟩
    rw [dg_chr v h0 (by omega), h]
theorem sums1 (s : List UInt8) (hs : AllDig s) (h2 : 2 ≤ s.length) (hl : s.length ≤ 4096) : ver 1 s = 0 ↔ wsP [1, 3] 10 s = 0 := by
  obtain ⟨l, d, rfl, hne⟩ := last_of s h2
  obtain ⟨hda, hdd⟩ := allDig_app hs
  have hd0 := hdd d (List.mem_singleton.2 rfl)
  have hb := dg_bd hd0
  rw [ver_digits 1 l d (by decide) (by decide) (by decide) (by decide) hs hl, ws_gs, gsF_snoc]
  have hf : fits 1 (l ++ [d]).length = true := by
    show decide (1 < (l ++ [d]).length) = true
    exact decide_eq_true (by omega)
  simp only [cmp, hf, true_and]
  rw [chr_eq _ d (by omega) (by omega) hd0]
  omega
theorem sums8 (s : List UInt8) (hs : AllDig s) (h2 : 2 ≤ s.length) (hl : s.length ≤ 4096) : ver 8 s = 0 ↔ wsP w11 11 s = 1 := by
  obtain ⟨l, d, rfl, hne⟩ := last_of s h2
  obtain ⟨hda, hdd⟩ := allDig_app hs
  have hd0 := hdd d (List.mem_singleton.2 rfl)
  have hb := dg_bd hd0
  rw [ver_digits 8 l d (by decide) (by decide) (by decide) (by decide) hs hl]
  have hf : fits 8 (l ++ [d]).length = true := by
    show decide (1 < (l ++ [d]).length) = true
    exact decide_eq_true (by omega)
  have e := ws_11 l d 0
  have hi := i11_bd l
  have hwb := wsP_bd w11 11 (l ++ [d]) (by omega)
  rw [show l.foldl (fun p c => 2 * (p + dg c) % 11) 0 = i11 l from rfl, Int.zero_mul, Int.zero_add] at e
  simp only [cmp, hf, true_and]
  rw [chr_eq _ d (by omega) (by omega) hd0]
  omega
theorem sums3 (s : List UInt8) (hs : AllDig s) (h2 : 2 ≤ s.length) (hl : s.length ≤ 4096) : ver 3 s = 0 ↔ s.length = 10 ∧ wsP w10 11 s = 0 := by
  obtain ⟨l, d, rfl, hne⟩ := last_of s h2
  obtain ⟨hda, hdd⟩ := allDig_app hs
  have hd0 := hdd d (List.mem_singleton.2 rfl)
  have hb := dg_bd hd0
  rw [ver_digits 3 l d (by decide) (by decide) (by decide) (by decide) hs hl]
  have hf : fits 3 (l ++ [d]).length = true ↔ (l ++ [d]).length = 10 := by simp [fits]
  rw [hf]
  constructor
  · rintro ⟨h10, hc⟩
    refine ⟨h10, ?_⟩
    rw [ws_is _ hs (by omega), isF_snoc l d hda, vx_dig hd0]
    simp only [cmp] at hc
    rw [chr_eq _ d (by omega) (by omega) hd0] at hc
    omega
  · rintro ⟨h10, hc⟩
    refine ⟨h10, ?_⟩
    rw [ws_is _ hs (by omega), isF_snoc l d hda, vx_dig hd0] at hc
    simp only [cmp]
    rw [chr_eq _ d (by omega) (by omega) hd0]
    omega
theorem wsum_digits (s : List UInt8) (ws : List Int) (m : Int) (hs : AllDig s) (hl : s.length ≤ 4096) (hw : ws ≠ []) (h1 : 1 ≤ m) (h2 : m ≤ 65536) : wsum s ws m = (wsP ws m s, 0) := by
  unfold wsum
  rw [if_neg (by omega), if_neg hw, if_neg (by omega), if_neg]
  intro h
  rw [List.all_eq_false] at h
  obtain ⟨c, hc, hn⟩ := h
  apply hn
  have := hs c hc
  simp only [isDig, Bool.and_eq_true, decide_eq_true_eq]
  omega
end Go.Proofs.YtfpliihglgjijaaGreat.Cd
