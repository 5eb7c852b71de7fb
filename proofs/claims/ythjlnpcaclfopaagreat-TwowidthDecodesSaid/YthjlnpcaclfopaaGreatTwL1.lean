/-
  Chapter 12: Full and Plain are inverse to each other: the plain law, and the law TwowidthInverts, walked.
  Condition: the strings are within the reach.
-/
import Derived.Test.YthjlnpcaclfopaaGreatTwE2
namespace Go.Proofs.YthjlnpcaclfopaaGreat
open Go.RowKit

/-- One step of Plain at the characters of one ASCII character. -/
def repOk (c : UInt8) : Bool :=
  match Tw.rep c with
  | [a] => decide (0 ≤ Lib.indexByte Cd.syms a) && decide (Lib.indexByte [36, 47, 43, 37] a < 0) && (Tw.unrep [a] == some c)
  | [a, b] => decide (0 ≤ Lib.indexByte Cd.syms a) && decide (0 ≤ Lib.indexByte [36, 47, 43, 37] a) && (Tw.unrep [a, b] == some c)
  | _ => false
theorem repOk_all : ∀ c : UInt8, c ≤ 127 → repOk c = true := by
  have h : ∀ i : Fin 128, repOk (UInt8.ofNat i.val) = true := by decide +kernel
  intro c hc
  have h2 := UInt8.le_iff_toNat_le.1 hc
  have e : (127 : UInt8).toNat = 127 := rfl
  have := h ⟨c.toNat, by omega⟩
  simpa using this
theorem plain_step (c : UInt8) (hc : c ≤ 127) (f : Nat) (l acc : List UInt8) : Tw.plainGo (f + 1) (Tw.rep c ++ l) acc = Tw.plainGo f l (acc ++ [c]) := by
  have h := repOk_all c hc
  unfold repOk at h
  split at h
  · rename_i a ha
    simp only [Bool.and_eq_true, decide_eq_true_eq, beq_iff_eq] at h
    rw [ha, List.cons_append, List.nil_append, Tw.plainGo, if_neg (by omega), if_neg (by omega), h.2]
  · rename_i a b ha
    simp only [Bool.and_eq_true, decide_eq_true_eq, beq_iff_eq] at h
    rw [ha, List.cons_append, List.cons_append, List.nil_append, Tw.plainGo, if_neg (by omega), if_pos (by omega)]
    rw [show List.take 2 (a :: b :: l) = [a, b] from rfl, h.2]
    rfl
  · exact Bool.noConfusion h
theorem rep_pos (c : UInt8) : 1 ≤ (Tw.rep c).length := by
  have h : ∀ i : Fin 256, 1 ≤ (Tw.rep (UInt8.ofNat i.val)).length := by decide +kernel
  have := h ⟨c.toNat, c.toNat_lt⟩
  simpa using this
theorem plain_reps (l : List UInt8) : ∀ (f : Nat) (acc : List UInt8), (∀ c ∈ l, c ≤ 127) → (l.flatMap Tw.rep).length ≤ f → Tw.plainGo f (l.flatMap Tw.rep) acc = (acc ++ l, 0) := by
  induction l with
  | nil => intro f acc _ _; rw [List.flatMap_nil, plain_end, List.append_nil]
  | cons c l ih =>
    intro f acc h hf
    have h1 := rep_pos c
    rw [List.flatMap_cons, List.length_append] at hf
    obtain ⟨g, rfl⟩ : ∃ g, f = g + 1 := ⟨f - 1, by omega⟩
    rw [List.flatMap_cons, plain_step c (h c (List.mem_cons_self ..)), ih g _ (fun x hx => h x (List.mem_cons_of_mem _ hx)) (by omega), List.append_assoc]
    rfl
theorem plain_full (l t : List UInt8) (h : Tw.full l = (t, 0)) : Tw.plain t = (l, 0) := by
  unfold Tw.full at h
  by_cases h1 : (l.all fun c => decide (c ≤ 127)) = false
  · rw [if_pos h1] at h; injection h with _ h; simp at h
  · rw [if_neg h1] at h
    by_cases h2 : 1000 < l.length
    · rw [if_pos h2] at h; injection h with _ h; simp at h
    · rw [if_neg h2] at h
      by_cases h3 : 1000 < (l.flatMap Tw.rep).length
      · rw [if_pos h3] at h; injection h with _ h; simp at h
      · rw [if_neg h3] at h
        injection h with h _
        subst h
        rw [Bool.not_eq_false, List.all_eq_true] at h1
        unfold Tw.plain
        rw [if_neg h3, plain_reps l _ [] (fun c hc => by simpa using h1 c hc) (Nat.le_refl _), List.nil_append]
theorem unrep_rep {p : List UInt8} {x : UInt8} (h : Tw.unrep p = some x) : Tw.rep x = p ∧ x ≤ 127 := by
  unfold Tw.unrep at h
  have h1 := List.find?_some h
  have h2 := List.mem_of_find?_eq_some h
  rw [List.mem_map] at h2
  obtain ⟨c, hc, rfl⟩ := h2
  refine ⟨by simpa using h1, ?_⟩
  have hc' : c < 128 := by simpa using hc
  rw [UInt8.le_iff_toNat_le]
  have e : (127 : UInt8).toNat = 127 := rfl
  simp; omega
theorem plain_inv : ∀ (f : Nat) (t acc out : List UInt8), t.length ≤ f → Tw.plainGo f t acc = (out, 0) → ∃ l, out = acc ++ l ∧ t = l.flatMap Tw.rep ∧ ∀ c ∈ l, c ≤ 127
  | 0, t, acc, out, hf, h => by
    obtain rfl := List.eq_nil_of_length_eq_zero (Nat.le_zero.1 hf)
    rw [plain_end] at h
    injection h with h _
    exact ⟨[], by simp [h], rfl, by simp⟩
  | f + 1, [], acc, out, _, h => by
    rw [plain_end] at h
    injection h with h _
    exact ⟨[], by simp [h], rfl, by simp⟩
  | f + 1, c :: l, acc, out, hf, h => by
    simp only [List.length_cons] at hf
    rw [Tw.plainGo] at h
    by_cases h1 : Lib.indexByte Cd.syms c < 0
    · rw [if_pos h1] at h; injection h with _ h; simp at h
    · rw [if_neg h1] at h
      by_cases h2 : 0 ≤ Lib.indexByte [36, 47, 43, 37] c
      · rw [if_pos h2] at h
        cases hu : Tw.unrep ((c :: l).take 2) with
        | none => rw [hu] at h; injection h with _ h; simp at h
        | some x =>
          rw [hu] at h
          obtain ⟨m, rfl, h4, h5⟩ := plain_inv f (l.drop 1) (acc ++ [x]) out (by rw [List.length_drop]; omega) h
          obtain ⟨h6, h7⟩ := unrep_rep hu
          refine ⟨x :: m, by simp, ?_, fun y hy => by rcases List.mem_cons.1 hy with rfl | hy; exact h7; exact h5 y hy⟩
          rw [List.flatMap_cons, h6, ← h4]
          cases l <;> simp
      · rw [if_neg h2] at h
        cases hu : Tw.unrep [c] with
        | none => rw [hu] at h; injection h with _ h; simp at h
        | some x =>
          rw [hu] at h
          obtain ⟨m, rfl, h4, h5⟩ := plain_inv f l (acc ++ [x]) out (by omega) h
          obtain ⟨h6, h7⟩ := unrep_rep hu
          refine ⟨x :: m, by simp, ?_, fun y hy => by rcases List.mem_cons.1 hy with rfl | hy; exact h7; exact h5 y hy⟩
          rw [List.flatMap_cons, h6, ← h4]
          rfl
theorem len_reps (l : List UInt8) : l.length ≤ (l.flatMap Tw.rep).length := by
  induction l with
  | nil => simp
  | cons c l ih => have := rep_pos c; rw [List.flatMap_cons, List.length_append, List.length_cons]; omega
theorem full_plain (t l : List UInt8) (h : Tw.plain t = (l, 0)) : Tw.full l = (t, 0) := by
  unfold Tw.plain at h
  by_cases h1 : 1000 < t.length
  · rw [if_pos h1] at h; injection h with _ h; simp at h
  · rw [if_neg h1] at h
    obtain ⟨m, h2, h3, h4⟩ := plain_inv _ _ _ _ (Nat.le_refl _) h
    rw [List.nil_append] at h2
    subst h2
    have := len_reps l
    unfold Tw.full
    rw [if_neg (by rw [Bool.not_eq_false, List.all_eq_true]; intro c hc; simpa using h4 c hc), if_neg (by rw [← h3] at this; omega), ← h3, if_neg h1]

theorem decR_at {f : Nat} {args : Array Value} {w : World} {D : ByteArray} {x : Int} (h : Calls Tryz.prog f args w (DecR (D.data.toList, x) w)) :
    Calls Tryz.prog f args w fun e w' => e = .returned (.tuple #[.string D, .int .i64 x]) ∧ Ext w w' :=
  h.mono fun e w' ⟨he, hx⟩ => ⟨by rw [he]; simp only [strV, mk_toList], hx⟩
theorem plain_err (t : List UInt8) (h : (Tw.plain t).2 ≠ 0) : (Tw.plain t).1 = [] := by
  have key : ∀ (f : Nat) (t acc : List UInt8), (Tw.plainGo f t acc).2 ≠ 0 → (Tw.plainGo f t acc).1 = [] := by
    intro f
    induction f with
    | zero => intro t acc h; simp [Tw.plainGo] at h
    | succ f ih =>
      intro t acc h
      cases t with
      | nil => simp [Tw.plainGo] at h
      | cons c l =>
        rw [Tw.plainGo] at h ⊢
        by_cases h1 : Lib.indexByte Cd.syms c < 0
        · rw [if_pos h1]
        · rw [if_neg h1] at h ⊢
          by_cases h2 : 0 ≤ Lib.indexByte [36, 47, 43, 37] c
          · rw [if_pos h2] at h ⊢
            cases hu : Tw.unrep ((c :: l).take 2) with
            | none => rfl
            | some x => rw [hu] at h; exact ih _ _ h
          · rw [if_neg h2] at h ⊢
            cases hu : Tw.unrep [c] with
            | none => rfl
            | some x => rw [hu] at h; exact ih _ _ h
  unfold Tw.plain at h ⊢
  by_cases h1 : 1000 < t.length
  · rw [if_pos h1]
  · rw [if_neg h1] at h ⊢; exact key _ _ _ h

end Go.Proofs.YthjlnpcaclfopaaGreat
