/-
  Chapter 12 in plain words: a check character that is read is the one that is reckoned.
  No condition beyond what each lemma says.
-/
import Derived.Test.YthjlnpcaclfopaaGreatTwD4
import Derived.Test.YthjlnpcaclfopaaGreatTwRm
namespace Go.Proofs.YthjlnpcaclfopaaGreat
open Go.RowKit

theorem rwide_len (ws : List Int) (h : (Tw.wide ws).2 = 0) : (Tw.wide ws).1.length = ws.length := by
  unfold Tw.wide at h ⊢
  split
  · rename_i g; rw [if_pos g] at h; simp at h
  · rename_i g; rw [if_neg g] at h
    split
    · rename_i g; rw [if_pos g] at h; simp at h
    · rename_i g; rw [if_neg g] at h
      split
      · simp
      · rename_i g; rw [if_neg g] at h
        split
        · rename_i g; rw [if_pos g] at h; simp at h
        · simp
theorem read_inv (cs ps edge inner : List UInt8) (z : Nat) (e : List UInt8) (n : Nat) (hn : n = (e.length + 1) / (z + 1)) (h : (Tw.read cs ps edge inner z e).2 = 0) :
    (Tw.read cs ps edge inner z e).1 = (List.range n).map (fun i => (Tw.rdAt cs ps z e i).1) ∧ ∀ i, i < n → Tw.rdErr cs ps edge inner z e n i = 0 := by
  unfold Tw.read at h ⊢
  rw [← hn] at h ⊢
  split
  · rename_i i hi
    rw [hi] at h
    have := List.find?_some hi
    simp at this
    exact absurd h this
  · rename_i hi
    refine ⟨rfl, fun i hin => ?_⟩
    rw [List.find?_eq_none] at hi
    simpa using hi i (by simpa using hin)
/-- What is known of the characters that were read. -/
theorem read_parts (cs ps edge inner : List UInt8) (z : Nat) (e : List UInt8) (n : Nat) (hn : n = (e.length + 1) / (z + 1)) (hn2 : 2 ≤ n) (he0 : Lib.indexByte edge 0 < 0) (hi0 : Lib.indexByte inner 0 < 0) (h : (Tw.read cs ps edge inner z e).2 = 0) :
    ∃ a M b, (Tw.read cs ps edge inner z e).1 = a :: (M ++ [b]) ∧ M.length = n - 2 ∧ 0 ≤ Lib.indexByte edge a ∧ 0 ≤ Lib.indexByte edge b ∧ ∀ c ∈ M, 0 ≤ Lib.indexByte inner c := by
  obtain ⟨h1, h2⟩ := read_inv cs ps edge inner z e n hn h
  have key : ∀ i, Tw.isIn edge (Tw.rdAt cs ps z e i) = decide (0 ≤ Lib.indexByte edge (Tw.rdAt cs ps z e i).1) := fun i => isIn_eq edge cs ps z _ he0
  have key2 : ∀ i, Tw.isIn inner (Tw.rdAt cs ps z e i) = decide (0 ≤ Lib.indexByte inner (Tw.rdAt cs ps z e i).1) := fun i => isIn_eq inner cs ps z _ hi0
  have g0 := h2 0 (by omega)
  have gz := h2 (n - 1) (by omega)
  refine ⟨(Tw.rdAt cs ps z e 0).1, (List.range (n - 2)).map (fun i => (Tw.rdAt cs ps z e (i + 1)).1), (Tw.rdAt cs ps z e (n - 1)).1, ?_, by simp, ?_, ?_, ?_⟩
  · rw [h1]
    obtain ⟨m, rfl⟩ : ∃ m, n = m + 2 := ⟨n - 2, by omega⟩
    rw [List.range_succ, List.map_append, List.range_succ_eq_map]
    simp
  · unfold Tw.rdErr at g0
    rw [if_neg (by omega)] at g0
    by_cases hb : Tw.isIn edge (Tw.rdAt cs ps z e 0) = false
    · rw [if_pos ⟨rfl, hb⟩] at g0; simp at g0
    · rw [key 0] at hb; simpa using hb
  · unfold Tw.rdErr at gz
    by_cases hb : Tw.isIn edge (Tw.rdAt cs ps z e (n - 1)) = false
    · have q1 : ¬ (0 < n - 1 ∧ e.getD ((n - 1) * (z + 1) - 1) 0 = 119) := by intro c; rw [if_pos c] at gz; simp at gz
      rw [if_neg q1, if_neg (by omega), if_pos ⟨by omega, hb⟩] at gz
      simp at gz
    · rw [key] at hb; simpa using hb
  · intro c hc
    rw [List.mem_map] at hc
    obtain ⟨i, hi, rfl⟩ := hc
    have hi' : i < n - 2 := by simpa using hi
    have gi := h2 (i + 1) (by omega)
    unfold Tw.rdErr at gi
    by_cases hb : Tw.isIn inner (Tw.rdAt cs ps z e (i + 1)) = false
    · have q1 : ¬ (0 < i + 1 ∧ e.getD ((i + 1) * (z + 1) - 1) 0 = 119) := by intro c; rw [if_pos c] at gi; simp at gi
      rw [if_neg q1, if_neg (by omega), if_neg (by omega), if_pos ⟨by omega, by omega, hb⟩] at gi
      simp at gi
    · rw [key2] at hb; simpa using hb
theorem idx42 (c : UInt8) (h : 0 ≤ Lib.indexByte [42] c) : c = 42 := by
  have := star_eq c
  rw [decide_eq_true h, beq_iff_eq] at this
  exact UInt8.toNat_inj.1 (by simpa using (by omega : c.toNat = 42))
theorem cut_inner (a b : UInt8) (M : List UInt8) (k : Nat) (h : k ≤ M.length) : ((a :: (M ++ [b])).drop 1).take k = M.take k := by
  simp [List.take_append_of_le_length h]
theorem cmp_0 (M : List UInt8) (h2 : 2 ≤ M.length) (hl : M.length ≤ 1001) (hM : ∀ c ∈ M, 0 ≤ Lib.indexByte Cd.syms c) :
    (Tw.comp39 (M.take (M.length - 1)) true = (42 :: (M ++ [42]), 0)) ↔ (Cd.app 7 (M.take (M.length - 1))).1 = M := by
  have ho : Tw.only (M.take (M.length - 1)) Cd.syms = true := by
    rw [only_all, List.all_eq_true]
    intro c hc; simpa using hM c (List.mem_of_mem_take hc)
  have hl1 : (M.take (M.length - 1)).length = M.length - 1 := by rw [List.length_take]; omega
  generalize M.take (M.length - 1) = T at *
  have h0 := comp39_err T true (by omega) (by omega)
  rw [if_pos ho] at h0
  have hc := comp_chk0 T (by omega) (by omega) h0
  rw [show Tw.comp39 T true = ((Tw.comp39 T true).1, (Tw.comp39 T true).2) from rfl, hc, h0, Prod.mk.injEq]
  simp
theorem cb_ok5 (l : List UInt8) (check : Bool) (h : (Tw.compCb l check).2 = 0) : ∀ c ∈ l, 0 ≤ Lib.indexByte Tw.cCb c := by
  rw [compCb_err] at h
  by_cases g0 : l.length < 2
  · rw [if_pos g0] at h; simp at h
  rw [if_neg g0] at h
  cases g1 : Tw.only (l.take 1) Tw.eCb
  · rw [g1, if_pos rfl] at h; simp at h
  cases g2 : Tw.only (l.drop (l.length - 1)) Tw.eCb
  · rw [g1, g2, if_neg Bool.noConfusion, if_pos rfl] at h; simp at h
  cases g3 : Tw.only ((l.drop 1).take (l.length - 2)) Tw.dCb
  · rw [g1, g2, g3, if_neg Bool.noConfusion, if_neg Bool.noConfusion, if_pos rfl] at h; simp at h
  exact cb_valid l (by omega) g1 g2 g3
theorem cmp_1 (a b : UInt8) (M : List UInt8) (h1 : 1 ≤ M.length) (ha : 0 ≤ Lib.indexByte Tw.eCb a) (hb : 0 ≤ Lib.indexByte Tw.eCb b) (hM : ∀ c ∈ M, 0 ≤ Lib.indexByte Tw.dCb c) :
    Tw.compCb (a :: (M.take (M.length - 1) ++ [b])) true = (Tw.cbc (a :: (M.take (M.length - 1) ++ [b])), 0) ∧ ∀ c ∈ a :: (M.take (M.length - 1) ++ [b]), 0 ≤ Lib.indexByte Tw.cCb c := by
  have hl1 : (M.take (M.length - 1)).length = M.length - 1 := by rw [List.length_take]; omega
  have hN : ∀ c ∈ M.take (M.length - 1), 0 ≤ Lib.indexByte Tw.dCb c := fun c hc => hM c (List.mem_of_mem_take hc)
  generalize M.take (M.length - 1) = N at *
  have e1 : Tw.only ((a :: (N ++ [b])).take 1) Tw.eCb = true := by simpa [Tw.only] using ha
  have hlen : (a :: (N ++ [b])).length = N.length + 2 := by simp
  have e2 : (a :: (N ++ [b])).drop ((a :: (N ++ [b])).length - 1) = [b] := by
    rw [hlen, show N.length + 2 - 1 = N.length + 1 by omega]; simp
  have e3 : ((a :: (N ++ [b])).drop 1).take ((a :: (N ++ [b])).length - 2) = N := by
    rw [hlen, show N.length + 2 - 2 = N.length by omega]; simp
  have hz : (Tw.compCb (a :: (N ++ [b])) true).2 = 0 := by
    rw [compCb_err, if_neg (by rw [hlen]; omega), e1, if_neg Bool.noConfusion, e2, if_neg (by simpa [Tw.only] using hb), e3, if_neg]
    rw [Bool.not_eq_false, only_all, List.all_eq_true]
    intro c hc; simpa using hN c hc
  refine ⟨Prod.ext (comp_chk1 _ hz) hz, (cb_ok5 _ true hz)⟩
theorem cmp_2 (l : List UInt8) (h1 : 1 ≤ l.length) (hl : l.length ≤ 1000) (ho : l.length % 2 = 1) (hd : ∀ c ∈ l, 0 ≤ Lib.indexByte Tw.cItf c) : Tw.compItf l true = ((Cd.app 1 l).1, 0) := by
  have hon : Tw.only l Tw.cItf = true := by
    rw [only_all, List.all_eq_true]
    intro c hc; simpa using hd c hc
  have hz : (Tw.compItf l true).2 = 0 := by
    rw [compItf_err l true h1 hl, hon, if_neg (show ¬ (true = false) from Bool.noConfusion), ho]; rfl
  exact Prod.ext (comp_chk2 l hl h1 hz) hz
theorem itf_parts (e : List UInt8) (h : Nat) (he : (e.length - 7) / 10 = h) (hz : (Tw.readItf e).2 = 0) : (Tw.readItf e).1.length = 2 * h ∧ ∀ c ∈ (Tw.readItf e).1, 0 ≤ Lib.indexByte Tw.cItf c := by
  unfold Tw.readItf at hz ⊢
  rw [he] at hz ⊢
  split
  · rename_i g; rw [if_pos g] at hz; simp at hz
  · rename_i g; rw [if_neg g] at hz
    split
    · rename_i g; rw [if_pos g] at hz; simp at hz
    · rename_i g; rw [if_neg g] at hz
      split
      · rename_i g; rw [if_pos g] at hz; simp at hz
      · rw [Bool.not_eq_false, List.all_eq_true] at g
        have dig : ∀ p, (Tw.chr Tw.cItf Tw.pItf 5 p).2 = true → 0 ≤ Lib.indexByte Tw.cItf (Tw.chr Tw.cItf Tw.pItf 5 p).1 := by
          intro p hp
          have hk : ∀ i : Fin 10, 0 ≤ Lib.indexByte Tw.cItf (Tw.cItf.getD i.val 0) := by decide
          rcases chr_cases Tw.cItf Tw.pItf 5 p with q | ⟨i, hi, _, q⟩
          · rw [q] at hp; simp at hp
          · rw [q]; exact hk ⟨i, hi⟩
        constructor
        · clear g he hz
          induction h with
          | zero => rfl
          | succ k ih => rw [flat_succ, List.length_append, ih]; simp; omega
        · intro c hc
          simp only [List.mem_flatMap] at hc
          obtain ⟨i, hi, hc⟩ := hc
          have hp := g i hi
          unfold Tw.pairOk at hp
          rw [Bool.and_eq_true] at hp
          simp only [List.mem_cons, List.not_mem_nil, or_false] at hc
          rcases hc with rfl | rfl
          · exact dig _ hp.1
          · exact dig _ hp.2
end Go.Proofs.YthjlnpcaclfopaaGreat
