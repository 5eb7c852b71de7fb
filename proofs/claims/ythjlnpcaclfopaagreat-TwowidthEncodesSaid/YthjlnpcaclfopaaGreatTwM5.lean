/-
  Chapter 12, plain laws: what Encode returns, Decode reads; one element turned, Decode returns an error.
  No condition.
-/
import Derived.Test.YthjlnpcaclfopaaGreatTwM4
import Derived.Test.YthjlnpcaclfopaaGreatTwW12
namespace Go.Proofs.YthjlnpcaclfopaaGreat
open Go.RowKit

theorem comp_len1 (k : Int) (l : List UInt8) (hk : k = 1 ∨ k = 7) (h : (Cd.compI k l).2 = 0) : (Cd.compI k l).1.length = 1 := by
  rw [compI_ok k l h]
  rcases hk with rfl | rfl <;> rfl
theorem cmp7_mem (l : List UInt8) (h : (Cd.compI 7 l).2 = 0) : ∀ c ∈ (Cd.compI 7 l).1, c ∈ Cd.syms := by
  rw [compI_ok 7 l h]
  intro c hc
  have hc' : c = Cd.syms.getD (Cd.c39 l % 43).toNat 48 := by simpa [Cd.cmp] using hc
  rw [hc']
  have h1 : (Cd.c39 l % 43).toNat < Cd.syms.length := by
    have : Cd.syms.length = 43 := rfl
    omega
  exact getD_any _ _ h1
where
  getD_any (l : List UInt8) (i : Nat) (h : i < l.length) : l.getD i 48 ∈ l := by
    rw [List.getD_eq_getElem?_getD, List.getElem?_eq_getElem h]; exact List.getElem_mem _

theorem sym39 (l : List UInt8) (check : Bool) (hl : 1 ≤ l.length ∧ l.length ≤ 1000) (h : (Tw.comp39 l check).2 = 0) : Sym 0 l check (Tw.comp39 l check).1 := by
  obtain ⟨d, hd, hmem, hlen, hpre⟩ : ∃ d, (Tw.comp39 l check).1 = 42 :: d ++ [42] ∧ (∀ c ∈ d, c ∈ Cd.syms) ∧ d.length = l.length + check.toNat ∧ d.take l.length = l := by
    unfold Tw.comp39 at h ⊢
    by_cases ho : Tw.only l Cd.syms = false
    · rw [if_pos ho] at h; simp at h
    · rw [if_neg ho] at h ⊢
      rw [Bool.not_eq_false] at ho
      cases check
      · rw [if_pos rfl] at h ⊢
        exact ⟨l, rfl, only_mem ho, rfl, List.take_length⟩
      · rw [if_neg Bool.noConfusion] at h ⊢
        by_cases hz : (Cd.compI 7 l).2 = 0
        · rw [if_pos hz] at h ⊢
          refine ⟨l ++ (Cd.compI 7 l).1, by simp, fun c hc => ?_, by rw [List.length_append, comp_len1 7 l (by omega) hz]; rfl, List.take_left⟩
          rcases List.mem_append.1 hc with h1 | h1
          · exact only_mem ho c h1
          · exact cmp7_mem l hz c h1
        · rw [if_neg hz] at h; exact absurd h hz
  rw [hd]
  have hb : check.toNat ≤ 1 := Bool.toNat_le check
  have hcl : (42 :: d ++ [42]).length = d.length + 2 := by simp
  have hS : ∀ i (h : i < (42 :: d ++ [42]).length), (42 :: d ++ [42])[i] ∈ setAt [42] Cd.syms (42 :: d ++ [42]).length i := by
    intro i hi
    rw [hcl] at hi
    unfold setAt
    rw [hcl]
    by_cases h0 : i = 0
    · subst h0; rw [if_pos (.inl rfl)]; simp
    · obtain ⟨j, rfl⟩ : ∃ j, i = j + 1 := ⟨i - 1, by omega⟩
      have e : (42 :: d ++ [42])[j + 1]'(by rw [hcl]; exact hi) = (d ++ [42])[j]'(by simp; omega) := rfl
      rw [e]
      by_cases h1 : j = d.length
      · subst h1
        rw [if_pos (.inr (by omega))]
        simp
      · rw [if_neg (by omega), List.getElem_append_left (by omega)]
        exact hmem _ (List.getElem_mem _)
  obtain ⟨r1, r2, r3, r4, r5⟩ := sym_spaced Tw.c39 Tw.p39 [42] Cd.syms 9 (42 :: d ++ [42]) (by omega) (by rw [hcl]; omega) good39 nw39 (by decide) syms39 (fun c hc j hj => t39e c hc ⟨j, hj⟩) (fun c hc j hj => t39i c hc ⟨j, hj⟩) hS
  rw [hcl] at r3
  refine ⟨r1, r2, ?_, ?_, ?_, r4, r5⟩
  · show Tw.text39 (42 :: d ++ [42]) check = l
    unfold Tw.text39
    rw [hcl, show d.length + 2 - 2 - check.toNat = l.length by omega]
    rw [show List.drop 1 (42 :: d ++ [42]) = d ++ [42] from rfl, List.take_append_of_le_length (by omega)]
    exact hpre
  · show Tw.counts 9 1 1000 (drawn Tw.c39 Tw.p39 9 (42 :: d ++ [42])).length check = true
    unfold Tw.counts
    rw [r3]
    simp only [Bool.and_eq_true, decide_eq_true_eq]
    omega
  · show (drawn Tw.c39 Tw.p39 9 (42 :: d ++ [42])).length % 2 = 1
    omega

theorem symCb (l : List UInt8) (check : Bool) (hl : l.length ≤ 1000) (h : (Tw.compCb l check).2 = 0) : Sym 1 l check (Tw.compCb l check).1 := by
  obtain ⟨a, m, x, b, hd, hl3, ha, hb', hm, hx⟩ : ∃ (a : UInt8) (m x : List UInt8) (b : UInt8), (Tw.compCb l check).1 = a :: (m ++ x) ++ [b] ∧ l = a :: m ++ [b] ∧ a ∈ Tw.eCb ∧ b ∈ Tw.eCb ∧ (∀ c ∈ m ++ x, c ∈ Tw.dCb) ∧ x.length = check.toNat := by
    unfold Tw.compCb at h ⊢
    by_cases h2 : l.length < 2
    · rw [if_pos h2] at h; simp at h
    · rw [if_neg h2] at h ⊢
      obtain ⟨a, t, rfl⟩ : ∃ a t, l = a :: t := by
        cases l with
        | nil => simp at h2
        | cons a t => exact ⟨a, t, rfl⟩
      obtain ⟨m, b, rfl⟩ : ∃ m b, t = m ++ [b] := ⟨t.dropLast, t.getLast (by intro e; rw [e] at h2; simp at h2), (List.dropLast_concat_getLast _).symm⟩
      have e1 : (a :: (m ++ [b])).length = m.length + 2 := by simp
      rw [e1] at h ⊢
      have e2 : (a :: (m ++ [b])).drop (m.length + 2 - 1) = [b] := by
        rw [show m.length + 2 - 1 = m.length + 1 by omega, List.drop_succ_cons, List.drop_left]
      have e3 : ((a :: (m ++ [b])).drop 1).take (m.length + 2 - 2) = m := by
        rw [show m.length + 2 - 2 = m.length by omega, List.drop_succ_cons, List.drop_zero, List.take_left]
      have e4 : (a :: (m ++ [b])).take (m.length + 2 - 1) = a :: m := by
        rw [show m.length + 2 - 1 = m.length + 1 by omega, List.take_succ_cons, List.take_left]
      rw [e2, e3, show (a :: (m ++ [b])).take 1 = [a] from rfl] at h
      rw [e2, e3, e4, show (a :: (m ++ [b])).take 1 = [a] from rfl]
      by_cases h3 : Tw.only [a] Tw.eCb = false
      · rw [if_pos h3] at h; simp at h
      · rw [if_neg h3] at h ⊢
        by_cases h4 : Tw.only [b] Tw.eCb = false
        · rw [if_pos h4] at h; simp at h
        · rw [if_neg h4] at h ⊢
          by_cases h5 : Tw.only m Tw.dCb = false
          · rw [if_pos h5] at h; simp at h
          · rw [if_neg h5] at h ⊢
            rw [Bool.not_eq_false] at h3 h4 h5
            have ha := only_mem h3 a (by simp)
            have hb := only_mem h4 b (by simp)
            have hm := only_mem h5
            cases check
            · rw [if_pos rfl]
              exact ⟨a, m, [], b, by simp, by simp, ha, hb, by simpa using hm, rfl⟩
            · rw [if_neg Bool.noConfusion]
              refine ⟨a, m, [Tw.dCb.getD ((16 - Tw.sumCb (a :: (m ++ [b])) % 16) % 16).toNat 0], b, by simp, by simp, ha, hb, fun c hc => ?_, rfl⟩
              rcases List.mem_append.1 hc with h1 | h1
              · exact hm c h1
              · rw [List.mem_singleton] at h1
                rw [h1]
                refine getD_mem' _ _ ?_
                have : Tw.dCb.length = 16 := rfl
                omega
  rw [hd]
  have hb : check.toNat ≤ 1 := Bool.toNat_le check
  have hll : l.length = m.length + 2 := by rw [hl3]; simp
  have hcl : (a :: (m ++ x) ++ [b]).length = m.length + x.length + 2 := by simp; omega
  have hS : ∀ i (h : i < (a :: (m ++ x) ++ [b]).length), (a :: (m ++ x) ++ [b])[i] ∈ setAt Tw.eCb Tw.dCb (a :: (m ++ x) ++ [b]).length i := by
    intro i hi
    rw [hcl] at hi
    unfold setAt
    rw [hcl]
    by_cases h0 : i = 0
    · subst h0; rw [if_pos (.inl rfl)]; exact ha
    · obtain ⟨j, rfl⟩ : ∃ j, i = j + 1 := ⟨i - 1, by omega⟩
      have e : (a :: (m ++ x) ++ [b])[j + 1]'(by rw [hcl]; exact hi) = ((m ++ x) ++ [b])[j]'(by simp; omega) := rfl
      rw [e]
      by_cases h1 : j = (m ++ x).length
      · rw [if_pos (.inr (by rw [h1, List.length_append])), List.getElem_append_right (by omega)]
        simpa using hb'
      · rw [List.length_append] at h1
        rw [if_neg (by omega), List.getElem_append_left (by rw [List.length_append]; omega)]
        exact hm _ (List.getElem_mem _)
  obtain ⟨r1, r2, r3, r4, r5⟩ := sym_spaced Tw.cCb Tw.pCb Tw.eCb Tw.dCb 7 (a :: (m ++ x) ++ [b]) (by omega) (by rw [hcl]; omega) goodCb nwCb ecbc dcbc (fun c hc j hj => tCbe c hc ⟨j, hj⟩) (fun c hc j hj => tCbi c hc ⟨j, hj⟩) hS
  rw [hcl] at r3
  refine ⟨r1, r2, ?_, ?_, ?_, r4, r5⟩
  · show Tw.textCb (a :: (m ++ x) ++ [b]) check = l
    unfold Tw.textCb
    rw [hcl, hl3]
    cases check
    · have : x = [] := List.eq_nil_of_length_eq_zero hx
      subst this
      simp
    · rw [if_pos rfl]
      obtain ⟨y, rfl⟩ : ∃ y, x = [y] := by
        match x, hx with
        | [y], _ => exact ⟨y, rfl⟩
      have e1 : (a :: (m ++ [y]) ++ [b]).take (m.length + [y].length + 2 - 2) = a :: m := by
        rw [show m.length + [y].length + 2 - 2 = m.length + 1 by simp, show a :: (m ++ [y]) ++ [b] = (a :: m) ++ ([y] ++ [b]) by simp, show m.length + 1 = (a :: m).length by simp, List.take_left]
      have e2 : (a :: (m ++ [y]) ++ [b]).drop (m.length + [y].length + 2 - 1) = [b] := by
        rw [show m.length + [y].length + 2 - 1 = (a :: (m ++ [y])).length by simp, List.drop_left]
      rw [e1, e2]
  · show Tw.counts 7 0 998 (drawn Tw.cCb Tw.pCb 7 (a :: (m ++ x) ++ [b])).length check = true
    unfold Tw.counts
    rw [r3]
    simp only [Bool.and_eq_true, decide_eq_true_eq]
    omega
  · show (drawn Tw.cCb Tw.pCb 7 (a :: (m ++ x) ++ [b])).length % 2 = 1
    omega

theorem mix_mem : ∀ (a b : List UInt8) (x : UInt8), x ∈ Tw.mix a b → x ∈ a ∨ x ∈ b
  | [], _, x, h => by simp [Tw.mix] at h
  | _ :: _, [], x, h => by simp [Tw.mix] at h
  | p :: a, q :: b, x, h => by
    simp only [Tw.mix, List.mem_cons] at h
    rcases h with rfl | rfl | h
    · exact .inl (List.mem_cons_self ..)
    · exact .inr (List.mem_cons_self ..)
    · rcases mix_mem a b x h with h | h
      · exact .inl (List.mem_cons_of_mem _ h)
      · exact .inr (List.mem_cons_of_mem _ h)
theorem pairs_nw : ∀ l : List UInt8, Digits l → ∀ x ∈ Tw.drawPairs l, x = 110 ∨ x = 119
  | [], _, x, h => by simp [Tw.drawPairs] at h
  | [_], _, x, h => by simp [Tw.drawPairs] at h
  | a :: b :: l, hd, x, h => by
    rw [Tw.drawPairs, List.mem_append] at h
    rcases h with h | h
    · rcases mix_mem _ _ x h with h | h
      · exact nwItf a (hd a (by simp)) x h
      · exact nwItf b (hd b (by simp)) x h
    · exact pairs_nw l (fun c hc => hd c (by simp [hc])) x h
theorem dig_wide : ∀ c ∈ Tw.cItf, 110 ∈ pd c ∧ 119 ∈ pd c := by decide +kernel
theorem cmp1_mem (l : List UInt8) (h : (Cd.compI 1 l).2 = 0) : ∀ c ∈ (Cd.compI 1 l).1, c ∈ Tw.cItf := by
  rw [compI_ok 1 l h]
  exact fun c hc => index_mem (cmp1_dig l c hc)
theorem mem_mix (a b : List UInt8) (x : UInt8) (ha : a.length = 5) (hb : b.length = 5) (h : x ∈ a) : x ∈ Tw.mix a b := by
  obtain ⟨a0, a1, a2, a3, a4, rfl⟩ := list5 ha
  obtain ⟨b0, b1, b2, b3, b4, rfl⟩ := list5 hb
  simp only [List.mem_cons, List.not_mem_nil, or_false] at h
  simp only [Tw.mix, List.mem_cons, List.not_mem_nil, or_false]
  rcases h with h | h | h | h | h <;> simp [h]
theorem symItf (l : List UInt8) (check : Bool) (hl : 1 ≤ l.length ∧ l.length ≤ 1000) (h : (Tw.compItf l check).2 = 0) : Sym 2 l check (Tw.compItf l check).1 := by
  obtain ⟨d, hd, hmem, hlen, hpre, hev⟩ : ∃ d, (Tw.compItf l check).1 = d ∧ Digits d ∧ d.length = l.length + check.toNat ∧ d.take l.length = l ∧ d.length % 2 = 0 := by
    unfold Tw.compItf at h ⊢
    by_cases ho : Tw.only l Tw.cItf = false
    · rw [if_pos ho] at h; simp at h
    · rw [if_neg ho] at h ⊢
      rw [Bool.not_eq_false] at ho
      cases check
      · rw [if_pos rfl] at h ⊢
        by_cases he : l.length % 2 = 0
        · rw [if_pos he]
          exact ⟨l, rfl, only_mem ho, rfl, List.take_length, he⟩
        · rw [if_neg he] at h; simp at h
      · rw [if_neg Bool.noConfusion] at h ⊢
        by_cases hz : (Cd.compI 1 l).2 = 0
        · rw [if_pos hz] at h ⊢
          by_cases he : (l ++ (Cd.compI 1 l).1).length % 2 = 0
          · rw [if_pos he]
            refine ⟨l ++ (Cd.compI 1 l).1, rfl, fun c hc => ?_, by rw [List.length_append, comp_len1 1 l (by omega) hz]; rfl, List.take_left, he⟩
            rcases List.mem_append.1 hc with h1 | h1
            · exact only_mem ho c h1
            · exact cmp1_mem l hz c h1
          · rw [if_neg he] at h; simp at h
        · rw [if_neg hz] at h; exact absurd h hz
  rw [hd]
  have hb : check.toNat ≤ 1 := Bool.toNat_le check
  obtain ⟨n, hn⟩ : ∃ n, d.length = 2 * n := ⟨d.length / 2, by omega⟩
  have hil := itf_len n d hmem hn
  refine ⟨read_itf n d hmem hn, fun p hp => read_itf_turned n d hmem hn p hp, ?_, ?_, ?_, ?_, fun p => ?_⟩
  · show Tw.textItf d check = l
    unfold Tw.textItf
    cases check
    · have e : l.length = d.length := by rw [hlen]; rfl
      rw [e, List.take_length] at hpre
      rw [if_neg Bool.noConfusion]; exact hpre
    · rw [if_pos rfl, hlen]; exact hpre
  · show Tw.countsItf (Tw.drawItf d).length = true
    unfold Tw.countsItf
    rw [hil]
    simp only [Bool.and_eq_true, decide_eq_true_eq]
    omega
  · show (Tw.drawItf d).length % 2 = 1
    omega
  · intro x hx
    have hx' : x ∈ [110, 110, 110, 110] ++ Tw.drawPairs d ++ [119, 110, 110] := hx
    rw [List.mem_append, List.mem_append] at hx'
    rcases hx' with (h1 | h1) | h1
    · exact .inl (by simpa using h1)
    · exact pairs_nw d hmem x h1
    · simp only [List.mem_cons, List.not_mem_nil, or_false] at h1
      rcases h1 with rfl | rfl | rfl <;> simp
  · have n1 : 1 ≤ n := by omega
    have hpr := itf_pair n d hmem hn 0 n1
    have c0 := hmem _ (getD_mem' d 0 (by omega))
    have c1 := hmem _ (getD_mem' d 1 (by omega))
    have m0 : 110 ∈ Tw.pairAt (Tw.drawItf d) 0 ∧ 119 ∈ Tw.pairAt (Tw.drawItf d) 0 := by
      rw [hpr]
      exact ⟨mem_mix _ _ _ (good_itf _ c0).1 (good_itf _ c1).1 (dig_wide _ c0).1, mem_mix _ _ _ (good_itf _ c0).1 (good_itf _ c1).1 (dig_wide _ c0).2⟩
    have m1 : ((Tw.drawItf d).drop ((Tw.drawItf d).length - 3)).take 10 = [119, 110, 110] := by rw [itf_tail n d hmem hn]; rfl
    refine two_blocks (Tw.drawItf d) 4 ((Tw.drawItf d).length - 3) 10 p (by omega) m0 ?_
    rw [m1]; decide

theorem compK_len (k : Nat) (l : List UInt8) (check : Bool) : (Tw.compK k l check).1.length ≤ l.length + 4 := by
  have hc7 := compI_len 7 l
  have hc1 := compI_len 1 l
  match k with
  | 0 =>
    show (Tw.comp39 l check).1.length ≤ _
    unfold Tw.comp39
    repeat' split
    all_goals simp only [List.length_append, List.length_cons, List.length_nil]; omega
  | 1 =>
    show (Tw.compCb l check).1.length ≤ _
    unfold Tw.compCb
    repeat' split
    all_goals simp only [List.length_append, List.length_cons, List.length_nil, List.length_take, List.length_drop]; omega
  | k + 2 =>
    show (Tw.compItf l check).1.length ≤ _
    unfold Tw.compItf
    repeat' split
    all_goals simp only [List.length_append, List.length_nil]; omega

/-- What Encode returns. -/
theorem enc_sym (kind : Int) (l : List UInt8) (r : Int) (check : Bool) (ws : List Int) (h : Tw.enc kind l r check = (ws, 0)) :
    ∃ k chars, ((kind = 5 ∧ k = 0) ∨ (kind = 6 ∧ k = 1) ∨ (kind = 7 ∧ k = 2)) ∧ Tw.compK k l check = (chars, 0) ∧ ws = Tw.widths r (Tw.drawK k chars) ∧ (r = 2 ∨ r = 3) ∧ Sym k l check chars := by
  have key : ∀ k, k < 3 → Tw.encK k l r check = (ws, 0) → ∃ chars, Tw.compK k l check = (chars, 0) ∧ ws = Tw.widths r (Tw.drawK k chars) ∧ (r = 2 ∨ r = 3) ∧ Sym k l check chars := by
    intro k hk h
    unfold Tw.encK at h
    by_cases hr : r ≠ 2 ∧ r ≠ 3
    · rw [if_pos hr] at h; simp at h
    · rw [if_neg hr] at h
      by_cases h0 : l = []
      · rw [if_pos h0] at h; simp at h
      · rw [if_neg h0] at h
        by_cases h1 : 1000 < l.length
        · rw [if_pos h1] at h; simp at h
        · rw [if_neg h1] at h
          by_cases h2 : (Tw.compK k l check).2 ≠ 0
          · rw [if_pos h2] at h; injection h with _ h; exact absurd h h2
          · rw [if_neg h2] at h
            have h2' : (Tw.compK k l check).2 = 0 := Decidable.of_not_not h2
            have hlp : 1 ≤ l.length := List.length_pos_iff.2 h0
            injection h with h _
            refine ⟨(Tw.compK k l check).1, Prod.ext rfl h2', h.symm, by omega, ?_⟩
            match k, hk with
            | 0, _ => exact sym39 l check ⟨hlp, by omega⟩ h2'
            | 1, _ => exact symCb l check (by omega) h2'
            | 2, _ => exact symItf l check ⟨hlp, by omega⟩ h2'
  unfold Tw.enc at h
  by_cases h5 : kind = 5
  · rw [if_pos h5] at h
    obtain ⟨chars, hc⟩ := key 0 (by omega) h
    exact ⟨0, chars, .inl ⟨h5, rfl⟩, hc⟩
  · rw [if_neg h5] at h
    by_cases h6 : kind = 6
    · rw [if_pos h6] at h
      obtain ⟨chars, hc⟩ := key 1 (by omega) h
      exact ⟨1, chars, .inr (.inl ⟨h6, rfl⟩), hc⟩
    · rw [if_neg h6] at h
      by_cases h7 : kind = 7
      · rw [if_pos h7] at h
        obtain ⟨chars, hc⟩ := key 2 (by omega) h
        exact ⟨2, chars, .inr (.inr ⟨h7, rfl⟩), hc⟩
      · rw [if_neg h7] at h; simp at h
theorem dec_kind (kind : Int) (k : Nat) (hk : (kind = 5 ∧ k = 0) ∨ (kind = 6 ∧ k = 1) ∨ (kind = 7 ∧ k = 2)) (ws : List Int) (check : Bool) : Tw.dec kind ws check = Tw.decK k ws check := by
  unfold Tw.dec
  rcases hk with ⟨rfl, rfl⟩ | ⟨rfl, rfl⟩ | ⟨rfl, rfl⟩ <;> rfl
/-- Widths that are read as the elements that were drawn give the text. -/
theorem dec_ok (k : Nat) (l : List UInt8) (check : Bool) (chars : List UInt8) (hs : Sym k l check chars) (hc : Tw.compK k l check = (chars, 0)) (ws : List Int) (hw : Tw.wide ws = (isW (Tw.drawK k chars), 0)) (hl : ws.length = (Tw.drawK k chars).length) : Tw.decK k ws check = (l, 0) := by
  unfold Tw.decK
  rw [hw, hl, hs.counts, if_neg Bool.noConfusion, if_neg (fun h => h rfl)]
  simp only
  rw [elems_isW _ hs.nw, hs.read, if_neg (fun h => h rfl)]
  simp only
  rw [hs.text]
  by_cases hck : check = true
  · subst hck
    rw [hc, if_neg (fun h => h.2 rfl)]
  · rw [if_neg (fun h => hck h.1)]
theorem turnAt_nw (e : List UInt8) (p : Nat) (h : NW e) : NW (turnAt e p) := by
  intro x hx
  unfold turnAt at hx
  rcases List.mem_or_eq_of_mem_set hx with h1 | h1
  · exact h x h1
  · rw [h1]; unfold turn; split <;> simp
theorem dec_turned (k : Nat) (l : List UInt8) (check : Bool) (chars : List UInt8) (hs : Sym k l check chars) (p : Nat) (hp : p < (Tw.drawK k chars).length) (ws : List Int) (hw : Tw.wide ws = (isW (turnAt (Tw.drawK k chars) p), 0)) (hl : ws.length = (Tw.drawK k chars).length) :
    (Tw.decK k ws check).1 = [] ∧ (Tw.decK k ws check).2 ≠ 0 := by
  have ht := hs.turned p hp
  unfold Tw.decK
  rw [hw, hl, hs.counts, if_neg Bool.noConfusion, if_neg (fun h => h rfl)]
  simp only
  rw [elems_isW _ (turnAt_nw _ p hs.nw), if_pos ht]
  exact ⟨rfl, ht⟩
end Go.Proofs.YthjlnpcaclfopaaGreat
