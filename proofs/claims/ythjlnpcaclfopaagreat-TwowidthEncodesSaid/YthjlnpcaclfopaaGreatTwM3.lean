/-
  Chapter 12, plain laws: ITF that is drawn is read; one element turned is an error.
  No condition.
-/
import Derived.Test.YthjlnpcaclfopaaGreatTwM2
namespace Go.Proofs.YthjlnpcaclfopaaGreat
open Go.RowKit

theorem index_mem {l : List UInt8} {c : UInt8} (h : 0 ≤ Lib.indexByte l c) : c ∈ l := by
  obtain ⟨n, hn⟩ := Int.eq_ofNat_of_zero_le h
  exact List.mem_of_getElem? (Lib.indexByte_some hn).1

def pd (c : UInt8) : List UInt8 := (Tw.pat Tw.cItf Tw.pItf 5 c).1
theorem good_itf : ∀ c ∈ Tw.cItf, (pd c).length = 5 ∧ Tw.chr Tw.cItf Tw.pItf 5 (pd c) = (c, true) := by decide +kernel
theorem turn_itf : ∀ c ∈ Tw.cItf, ∀ j : Fin 5, (Tw.chr Tw.cItf Tw.pItf 5 (turnAt (pd c) j.val)).2 = false := by decide +kernel
def Digits (l : List UInt8) : Prop := ∀ c ∈ l, c ∈ Tw.cItf

def pairsL : List UInt8 → List (List UInt8)
  | a :: b :: l => Tw.mix (pd a) (pd b) :: pairsL l
  | _ => []
theorem draw_flat : ∀ l : List UInt8, Tw.drawPairs l = (pairsL l).flatten
  | [] => rfl
  | [_] => rfl
  | a :: b :: l => by rw [Tw.drawPairs, pairsL, List.flatten_cons, draw_flat l]; rfl
theorem pairsL_len : ∀ (h : Nat) (l : List UInt8), l.length = 2 * h → (pairsL l).length = h
  | 0, l, e => by obtain rfl := List.eq_nil_of_length_eq_zero e; rfl
  | h + 1, a :: b :: l, e => by simp only [List.length_cons] at e; rw [pairsL, List.length_cons, pairsL_len h l (by omega)]
  | h + 1, [], e => by simp at e
  | h + 1, [_], e => by simp at e; omega
theorem pairsL_at : ∀ (h : Nat) (l : List UInt8) (i : Nat), l.length = 2 * h → i < h → (pairsL l)[i]? = some (Tw.mix (pd (l.getD (2 * i) 0)) (pd (l.getD (2 * i + 1) 0)))
  | 0, _, _, _, h => absurd h (Nat.not_lt_zero _)
  | h + 1, [], _, e, _ => by simp at e
  | h + 1, [_], _, e, _ => by simp at e; omega
  | h + 1, a :: b :: l, 0, _, _ => rfl
  | h + 1, a :: b :: l, i + 1, e, hi => by
    simp only [List.length_cons] at e
    rw [pairsL, List.getElem?_cons_succ, pairsL_at h l i (by omega) (by omega)]
    rfl
theorem getD_mem' (l : List UInt8) (i : Nat) (h : i < l.length) : l.getD i 0 ∈ l := by
  rw [List.getD_eq_getElem?_getD, List.getElem?_eq_getElem h]; exact List.getElem_mem _
theorem pairs_ten (_ : Nat) (l : List UInt8) (hd : Digits l) : ∀ x ∈ pairsL l, x.length = 10 := by
  have key : ∀ (n : Nat) (l : List UInt8), l.length ≤ n → Digits l → ∀ x ∈ pairsL l, x.length = 10 := by
    intro n
    induction n with
    | zero => intro l hl _ x hx; obtain rfl := List.eq_nil_of_length_eq_zero (Nat.le_zero.1 hl); simp [pairsL] at hx
    | succ n ih =>
      intro l hl hd x hx
      match l, hl, hd, hx with
      | [], _, _, hx => simp [pairsL] at hx
      | [_], _, _, hx => simp [pairsL] at hx
      | a :: b :: l, hl, hd, hx =>
        rw [pairsL, List.mem_cons] at hx
        rcases hx with rfl | hx
        · exact mix_full _ _ 5 (good_itf a (hd a (by simp))).1 (good_itf b (hd b (by simp))).1
        · exact ih l (by simp only [List.length_cons] at hl; omega) (fun c hc => hd c (by simp [hc])) x hx
  exact key _ l (Nat.le_refl _) hd
theorem pairs_len (h : Nat) (l : List UInt8) (hd : Digits l) (e : l.length = 2 * h) : (Tw.drawPairs l).length = 10 * h := by
  rw [draw_flat, flat_len 10 _ (pairs_ten h l hd), pairsL_len h l e]; omega
theorem itf_len (h : Nat) (l : List UInt8) (hd : Digits l) (e : l.length = 2 * h) : (Tw.drawItf l).length = 7 + 10 * h := by
  unfold Tw.drawItf
  simp only [List.length_append, List.length_cons, List.length_nil, pairs_len h l hd e]; omega
theorem itf_pair (h : Nat) (l : List UInt8) (hd : Digits l) (e : l.length = 2 * h) (i : Nat) (hi : i < h) : Tw.pairAt (Tw.drawItf l) i = Tw.mix (pd (l.getD (2 * i) 0)) (pd (l.getD (2 * i + 1) 0)) := by
  have hl := pairs_len h l hd e
  have h1 := flat_block 10 (pairsL l) i (by rw [pairsL_len h l e]; exact hi) (pairs_ten h l hd)
  rw [← draw_flat] at h1
  have h2 := pairsL_at h l i e hi
  rw [List.getElem?_eq_getElem (by rw [pairsL_len h l e]; exact hi)] at h2
  rw [Option.some.injEq] at h2
  rw [← h2, ← h1]
  unfold Tw.pairAt Tw.drawItf
  rw [List.append_assoc, ← List.drop_drop, show List.drop 4 ([110, 110, 110, 110] ++ (Tw.drawPairs l ++ [119, 110, 110])) = Tw.drawPairs l ++ [119, 110, 110] from rfl, Nat.mul_comm 10 i]
  rw [List.drop_append_of_le_length (by omega), List.take_append_of_le_length (by rw [List.length_drop]; omega)]
theorem list5 {a : List UInt8} (h : a.length = 5) : ∃ a0 a1 a2 a3 a4, a = [a0, a1, a2, a3, a4] := by
  match a, h with
  | [a0, a1, a2, a3, a4], _ => exact ⟨a0, a1, a2, a3, a4, rfl⟩
theorem mix_parts {a b : List UInt8} (ha : a.length = 5) (hb : b.length = 5) : Tw.evens (Tw.mix a b) = a ∧ Tw.odds (Tw.mix a b) = b := by
  obtain ⟨a0, a1, a2, a3, a4, rfl⟩ := list5 ha
  obtain ⟨b0, b1, b2, b3, b4, rfl⟩ := list5 hb
  exact ⟨rfl, rfl⟩
theorem mix_turn {a b : List UInt8} (ha : a.length = 5) (hb : b.length = 5) (j : Nat) (hj : j < 10) :
    (∃ q, q < 5 ∧ Tw.evens (turnAt (Tw.mix a b) j) = turnAt a q) ∨ (∃ q, q < 5 ∧ Tw.odds (turnAt (Tw.mix a b) j) = turnAt b q) := by
  obtain ⟨a0, a1, a2, a3, a4, rfl⟩ := list5 ha
  obtain ⟨b0, b1, b2, b3, b4, rfl⟩ := list5 hb
  obtain rfl | rfl | rfl | rfl | rfl | rfl | rfl | rfl | rfl | rfl : j = 0 ∨ j = 1 ∨ j = 2 ∨ j = 3 ∨ j = 4 ∨ j = 5 ∨ j = 6 ∨ j = 7 ∨ j = 8 ∨ j = 9 := by omega
  · exact .inl ⟨0, by omega, rfl⟩
  · exact .inr ⟨0, by omega, rfl⟩
  · exact .inl ⟨1, by omega, rfl⟩
  · exact .inr ⟨1, by omega, rfl⟩
  · exact .inl ⟨2, by omega, rfl⟩
  · exact .inr ⟨2, by omega, rfl⟩
  · exact .inl ⟨3, by omega, rfl⟩
  · exact .inr ⟨3, by omega, rfl⟩
  · exact .inl ⟨4, by omega, rfl⟩
  · exact .inr ⟨4, by omega, rfl⟩
theorem range_pairs : ∀ (h : Nat) (l : List UInt8), l.length = 2 * h → ((List.range h).flatMap fun i => [l.getD (2 * i) 0, l.getD (2 * i + 1) 0]) = l
  | 0, l, e => by obtain rfl := List.eq_nil_of_length_eq_zero e; rfl
  | h + 1, [], e => by simp at e
  | h + 1, [_], e => by simp at e; omega
  | h + 1, a :: b :: l, e => by
    simp only [List.length_cons] at e
    rw [List.range_succ_eq_map, List.flatMap_cons, List.flatMap_map]
    have := range_pairs h l (by omega)
    conv => rhs; rw [← this]
    rfl
theorem itf_tail (h : Nat) (l : List UInt8) (hd : Digits l) (e : l.length = 2 * h) : (Tw.drawItf l).drop ((Tw.drawItf l).length - 3) = [119, 110, 110] := by
  rw [itf_len h l hd e]
  unfold Tw.drawItf
  rw [show 7 + 10 * h - 3 = ([110, 110, 110, 110] ++ Tw.drawPairs l).length by simp only [List.length_append, List.length_cons, List.length_nil, pairs_len h l hd e]; omega, List.drop_left]
theorem read_itf (h : Nat) (l : List UInt8) (hd : Digits l) (e : l.length = 2 * h) : Tw.readItf (Tw.drawItf l) = (l, 0) := by
  have hl := itf_len h l hd e
  have hn : ((Tw.drawItf l).length - 7) / 10 = h := by omega
  have hA : ∀ i, i < h → Tw.digA (Tw.drawItf l) i = (l.getD (2 * i) 0, true) ∧ Tw.digB (Tw.drawItf l) i = (l.getD (2 * i + 1) 0, true) := fun i hi => by
    have g1 := good_itf _ (hd _ (getD_mem' l (2 * i) (by omega)))
    have g2 := good_itf _ (hd _ (getD_mem' l (2 * i + 1) (by omega)))
    obtain ⟨m1, m2⟩ := mix_parts g1.1 g2.1
    unfold Tw.digA Tw.digB
    rw [itf_pair h l hd e i hi, m1, m2]
    exact ⟨g1.2, g2.2⟩
  unfold Tw.readItf
  rw [hn, if_neg (fun hc => hc rfl), if_neg (by
    rw [Bool.not_eq_false, List.all_eq_true]
    intro i hi
    have := hA i (by simpa using hi)
    unfold Tw.pairOk
    rw [this.1, this.2]; rfl), if_neg (fun hc => hc (itf_tail h l hd e))]
  refine Prod.ext ?_ rfl
  simp only
  conv => rhs; rw [← range_pairs h l e]
  rw [List.flatMap_def, List.flatMap_def]
  congr 1
  refine List.map_congr_left (fun i hi => ?_)
  have := hA i (by simpa using hi)
  rw [this.1, this.2]
theorem turn_ne (e : List UInt8) (p : Nat) (hp : p < e.length) : turnAt e p ≠ e := by
  intro h
  have h1 := congrArg (fun l => l.getD p 0) h
  unfold turnAt at h1
  simp only [List.getD_eq_getElem?_getD, List.getElem?_set_self hp, Option.getD_some] at h1
  unfold turn at h1
  split at h1
  · rename_i hq; rw [hq] at h1; exact absurd h1 (by decide)
  · rename_i hq; exact hq h1.symm
theorem read_itf_turned (h : Nat) (l : List UInt8) (hd : Digits l) (e : l.length = 2 * h) (p : Nat) (hp : p < (Tw.drawItf l).length) : (Tw.readItf (turnAt (Tw.drawItf l) p)).2 ≠ 0 := by
  have hl := itf_len h l hd e
  have hn : ((turnAt (Tw.drawItf l) p).length - 7) / 10 = h := by rw [turnAt_len]; omega
  unfold Tw.readItf
  rw [hn]
  by_cases h4 : p < 4
  · have hc := turn_cut (Tw.drawItf l) 0 4 p (Nat.zero_le _) (by omega) hp
    rw [List.drop_zero, List.drop_zero, Nat.sub_zero] at hc
    have ht : (Tw.drawItf l).take 4 = [110, 110, 110, 110] := rfl
    rw [ht] at hc
    rw [if_pos (by rw [hc]; exact turn_ne _ _ (by simpa using h4))]
    decide
  · by_cases hs : p < 4 + 10 * h
    · split
      · decide
      · rw [if_pos ?_]
        · decide
        · rw [List.all_eq_false]
          refine ⟨(p - 4) / 10, by simp; omega, ?_⟩
          have hi : (p - 4) / 10 < h := by omega
          have g1 := good_itf _ (hd _ (getD_mem' l (2 * ((p - 4) / 10)) (by omega)))
          have g2 := good_itf _ (hd _ (getD_mem' l (2 * ((p - 4) / 10) + 1) (by omega)))
          have hpair : Tw.pairAt (turnAt (Tw.drawItf l) p) ((p - 4) / 10) = turnAt (Tw.mix (pd (l.getD (2 * ((p - 4) / 10)) 0)) (pd (l.getD (2 * ((p - 4) / 10) + 1) 0))) ((p - 4) % 10) := by
            rw [← itf_pair h l hd e _ hi]
            unfold Tw.pairAt
            rw [turn_cut _ _ _ _ (by omega) (by omega) hp, show p - (4 + 10 * ((p - 4) / 10)) = (p - 4) % 10 by omega]
          unfold Tw.pairOk Tw.digA Tw.digB
          rw [hpair]
          rcases mix_turn g1.1 g2.1 ((p - 4) % 10) (by omega) with ⟨q, hq, he⟩ | ⟨q, hq, he⟩
          · rw [he, turn_itf _ (hd _ (getD_mem' l (2 * ((p - 4) / 10)) (by omega))) ⟨q, hq⟩]; simp
          · rw [he, turn_itf _ (hd _ (getD_mem' l (2 * ((p - 4) / 10) + 1) (by omega))) ⟨q, hq⟩]; simp
    · split
      · decide
      · split
        · decide
        · rw [if_pos ?_]
          · decide
          · have hc := turn_cut (Tw.drawItf l) ((Tw.drawItf l).length - 3) 3 p (by omega) (by omega) hp
            have ht : ((Tw.drawItf l).drop ((Tw.drawItf l).length - 3)).take 3 = [119, 110, 110] := by rw [itf_tail h l hd e]; rfl
            rw [ht] at hc
            have hd3 : ((turnAt (Tw.drawItf l) p).drop ((Tw.drawItf l).length - 3)).take 3 = (turnAt (Tw.drawItf l) p).drop ((turnAt (Tw.drawItf l) p).length - 3) := by
              rw [turnAt_len, List.take_of_length_le (by rw [List.length_drop, turnAt_len]; omega)]
            rw [← hd3, hc]
            exact turn_ne _ _ (by simp; omega)
end Go.Proofs.YthjlnpcaclfopaaGreat
