/-
  Chapter 51, plain: a character that is lost is restored.
  No condition.
-/
import Derived.Test.YtkpfehfcgpapiaaGreatDoorFmPa
import Derived.Test.YtkpfehfcgpapiaaGreatDoorCdM5
namespace Go.Proofs.YtkpfehfcgpapiaaGreatDoor.Fm

theorem core_mem {f : Fld} {v : S} (h : (63 : UInt8) ∈ v) : (63 : UInt8) ∈ core f v := by
  unfold core
  split
  · rename_i hc
    obtain ⟨a, rfl⟩ : ∃ a, v = a ++ [88] := by
      have hv : v ≠ [] := fun e => by rw [e] at h; cases h
      refine ⟨v.dropLast, ?_⟩
      have h1 := List.dropLast_concat_getLast hv
      have h2 : v.getLast hv = 88 := by have := hc.2; rw [List.getLast?_eq_some_getLast hv] at this; exact Option.some.inj this
      rw [h2] at h1
      exact h1.symm
    rw [List.dropLast_concat]
    rcases List.mem_append.1 h with h | h
    · exact h
    · exact absurd (List.mem_singleton.1 h) (by decide)
  · exact h
theorem core_q {f : Fld} {v : S} (h : (63 : UInt8) ∈ v) : (core f v).all dg = false := by
  rw [List.all_eq_false]
  exact ⟨63, core_mem h, by decide⟩
/-- What a right value of digits is. -/
theorem dig_ok {f : Fld} (hop : f.op = 1) {s : S} (h3 : 0 < s.length) (h : value f s = 0) : isName f.name = true ∧ memE f = 0 ∧ digV f s = 0 := by
  unfold value at h
  by_cases h0 : isName f.name = false ∨ memE f ≠ 0
  · rw [if_pos h0] at h; cases h
  · rw [if_neg h0, if_neg (by omega), if_pos hop] at h
    refine ⟨?_, ?_, h⟩
    · cases hn : isName f.name with
      | true => rfl
      | false => exact absurd (.inl hn) h0
    · by_cases hm : memE f = 0
      · exact hm
      · exact absurd (.inr hm) h0
theorem digV_parts {f : Fld} {s : S} (h : digV f s = 0) : f.mn ≤ s.length ∧ (s.length : Int) ≤ f.mx ∧ (core f s).all dg = true ∧ (f.ck ≠ 0 → Cd.verI f.ck s = 0) := by
  unfold digV at h
  by_cases h0 : (s.length : Int) < f.mn ∨ f.mx < s.length
  · rw [if_pos h0] at h; cases h
  · rw [if_neg h0] at h
    cases hc : (core f s).all dg with
    | false => rw [hc] at h; simp at h
    | true =>
      rw [hc, if_pos rfl] at h
      refine ⟨by omega, by omega, rfl, fun hk => ?_⟩
      rw [if_neg hk] at h; exact h
theorem value_dig {f : Fld} (hop : f.op = 1) {s : S} (hn : isName f.name = true) (hm : memE f = 0) (h3 : 0 < s.length) : value f s = digV f s := by
  unfold value
  rw [if_neg (by rw [hn, hm]; simp), if_neg (by omega), if_pos hop]
theorem sub1_len (s : S) (k : Nat) (c : UInt8) (h : k < s.length) : (Cd.sub1 s k c).length = s.length := Cd.len_sub1 s k c h
theorem mem_of_getD {l : S} {p : Nat} {c : UInt8} (hp : p < l.length) (h : l.getD p 0 = c) : c ∈ l := by
  rw [List.getD_eq_getElem?_getD, List.getElem?_eq_getElem hp] at h
  rw [← show l[p] = c from h]
  exact List.getElem_mem hp
theorem filter_one {l : List S} {s : S} (hn : l.Pairwise (· ≠ ·)) (P : S → Bool) (hs : s ∈ l) (hp : P s = true) (h : ∀ t ∈ l, P t = true → t = s) : l.filter P = [s] := by
  induction l with
  | nil => cases hs
  | cons x r ih =>
    rw [List.pairwise_cons] at hn
    rcases List.mem_cons.1 hs with rfl | hs
    · rw [List.filter_cons, if_pos hp]
      congr 1
      rw [List.filter_eq_nil_iff]
      intro t ht hpt
      exact hn.1 t ht (h t (List.mem_cons_of_mem _ ht) hpt).symm
    · have hx : P x = false := by
        cases hpx : P x with
        | false => rfl
        | true => exact absurd (h x (List.mem_cons_self ..) hpx) (fun e => hn.1 s hs e)
      rw [List.filter_cons, hx, if_neg (by simp)]
      exact ih hn.2 hs (fun t ht => h t (List.mem_cons_of_mem _ ht))
/-- Two right strings that differ in one place at most are the same. -/
theorem one_off {n : Nat} (h1 : 1 ≤ n) (h8 : n ≤ 8) {s : S} {k : Nat} {c : UInt8} (hk : k < s.length) (hs : Cd.ver n s = 0) (ht : Cd.ver n (Cd.sub1 s k c) = 0) : Cd.sub1 s k c = s := by
  have hz := Cd.size_bd n
  obtain ⟨x, hx⟩ : ∃ x, s[k]? = some x := ⟨_, List.getElem?_eq_getElem hk⟩
  have e1 : s = s.take k ++ x :: s.drop (k + 1) := by
    rw [← (List.getElem?_eq_some_iff.1 hx).2, ← List.drop_eq_getElem_cons hk, List.take_append_drop]
  have e2 : Cd.sub1 s k c = s.take k ++ c :: s.drop (k + 1) := by unfold Cd.sub1; rw [List.append_assoc]; rfl
  by_cases hb : s.drop (k + 1) = []
  · -- the last place
    have hl : s.length = k + 1 := by have := congrArg List.length hb; rw [List.length_drop] at this; simp at this; omega
    obtain ⟨d, hd, _, _, _, _⟩ := Cd.parts n s h1 h8 hs
    have hdl : s.length = d.length + Cd.size n := by rw [hd, List.length_append, Cd.cmp_size n d h1 h8]
    have htk : (Cd.sub1 s k c).take d.length = d := by
      rw [e2, List.take_append_of_le_length (by rw [List.length_take]; omega), List.take_take, Nat.min_eq_left (by omega)]
      have : s.take d.length = d := by rw [hd, List.take_left]
      exact this
    have := Cd.ver_same n d (Cd.sub1 s k c) h1 h8 (by rw [Cd.len_sub1 s k c hk, hdl]) htk ht
    rw [this, ← hd]
  · rw [e2] at ht ⊢
    have hs2 := hs
    rw [e1] at hs2
    have := Cd.detects_sub n (s.take k) (s.drop (k + 1)) x c h1 h8 hb hs2 ht
    rw [← this]
    exact e1.symm
theorem ver_fits {n : Nat} {s : S} (h : Cd.ver n s = 0) : Cd.fits n s.length = true := ((Cd.ver_zero_iff n s).1 h).2.1
/-- Repair restores a character that is lost. -/
theorem fix_q {f : Fld} (hop : f.op = 1) {n : Nat} (hn : f.ck = (n : Int)) (h1 : 1 ≤ n) (h8 : n ≤ 8) {s : S} (h0 : 0 < s.length) (h64 : s.length ≤ 64) (hv : value f s = 0) {k : Nat} (hk : k < s.length) : fix f (Cd.sub1 s k 63) = s := by
  obtain ⟨hnm, hmm, hdv⟩ := dig_ok hop h0 hv
  obtain ⟨p1, p2, p3, p4⟩ := digV_parts hdv
  have hver : Cd.ver n s = 0 := by rw [← Cd.verI_nat n s h1 h8, ← hn]; exact p4 (by omega)
  have hlen := Cd.len_sub1 s k 63 hk
  have hq : (63 : UInt8) ∈ Cd.sub1 s k 63 := by unfold Cd.sub1; simp
  have hqs : (63 : UInt8) ∉ s := fun h => by rw [core_q h] at p3; cases p3
  have hne : Cd.sub1 s k 63 ≠ s := fun e => hqs (by rw [← e]; exact hq)
  have hv6 : value f (Cd.sub1 s k 63) = 6 := by
    rw [value_dig hop hnm hmm (by omega)]
    unfold digV
    rw [hlen, if_neg (by omega), core_q hq, if_neg (by simp)]
  have hbad : ∀ t : S, (63 : UInt8) ∈ t → value f t ≠ 0 := fun t ht e => by
    have h3 : 0 < t.length := List.length_pos_of_mem ht
    obtain ⟨_, _, hd⟩ := dig_ok hop h3 e
    have := (digV_parts hd).2.2.1
    rw [core_q ht] at this
    cases this
  have hcor : Cd.cor f.ck (Cd.sub1 s k 63) = ((Cd.corTo f.ck (Cd.sub1 s k 63) (Cd.sub1 s k 63).length).mergeSort (fun x y => decide (x ≤ y)), 0) := by
    unfold Cd.cor
    rw [hlen, if_neg (by omega), if_neg (by omega), if_neg (by rw [hn, Int.toNat_natCast, ver_fits hver]; simp)]
  have hperm := List.mergeSort_perm (Cd.corTo f.ck (Cd.sub1 s k 63) (Cd.sub1 s k 63).length) (fun x y => decide (x ≤ y))
  have hone : rightOnes f (Cd.sub1 s k 63) = [s] := by
    unfold rightOnes
    rw [hcor]
    refine filter_one ?_ _ ?_ (by rw [hv]; rfl) (fun t ht hp => ?_)
    · exact (hperm.symm.pairwise_iff (fun h e => h e.symm)).1 (Cd.corTo_nodup f.ck _ _ (Nat.le_refl _))
    · rw [hperm.mem_iff, hlen, hn]
      exact Cd.restores_sub n s k 63 h1 h8 hk hver hne
    · rw [hperm.mem_iff] at ht
      have hp0 : value f t = 0 := by simpa using hp
      rcases (Cd.mem_corTo _ _ _ _).1 ht with ⟨i, hi, hs⟩ | ⟨i, hi, hs⟩
      · obtain ⟨c, _, rfl, _, hver2⟩ := (Cd.mem_subs _ _ _ _ _).1 hs
        by_cases e : i = k
        · subst e
          have e2 : Cd.sub1 (Cd.sub1 s i 63) i c = Cd.sub1 s i c := by
            refine Cd.list_ext _ _ (by rw [Cd.len_sub1 _ _ _ hi, hlen, Cd.len_sub1 _ _ _ hk]) fun p hp => ?_
            rw [Cd.get_sub1 _ _ _ hi, Cd.get_sub1 _ _ _ hk, Cd.get_sub1 _ _ _ hk]
            split <;> rfl
          rw [e2] at hver2 ⊢
          rw [hn, Cd.verI_nat n _ h1 h8] at hver2
          exact one_off h1 h8 hk hver hver2
        · refine absurd hp0 (hbad _ (mem_of_getD (p := k) (by rw [Cd.len_sub1 _ _ _ hi, hlen]; exact hk) ?_))
          rw [Cd.get_sub1 _ _ _ hi, if_neg (fun h => e h.symm), Cd.get_sub1 _ _ _ hk, if_pos rfl]
      · obtain ⟨hi2, rfl, _, _⟩ := (Cd.mem_swps _ _ _ _).1 hs
        have hk63 : (Cd.sub1 s k 63).getD k 0 = 63 := by rw [Cd.get_sub1 _ _ _ hk, if_pos rfl]
        refine absurd hp0 (hbad _ ?_)
        by_cases e1 : k = i
        · refine mem_of_getD (p := i + 1) (by rw [Cd.len_swp _ _ hi2]; exact hi2) ?_
          rw [Cd.get_swp _ _ hi2, if_neg (by omega), if_pos rfl, ← e1, hk63]
        · by_cases e2 : k = i + 1
          · refine mem_of_getD (p := i) (by rw [Cd.len_swp _ _ hi2]; omega) ?_
            rw [Cd.get_swp _ _ hi2, if_pos rfl, ← e2, hk63]
          · refine mem_of_getD (p := k) (by rw [Cd.len_swp _ _ hi2, hlen]; exact hk) ?_
            rw [Cd.get_swp _ _ hi2, if_neg e1, if_neg e2, hk63]
  unfold fix
  rw [if_pos ⟨hop, by omega, .inl hv6⟩, hone]
end Go.Proofs.YtkpfehfcgpapiaaGreatDoor.Fm
