/-
  Chapter 12: Full and Plain are inverse to each other: the plain law, and the law TwowidthInverts, walked.
  Condition: the strings are within the reach.
-/
import Derived.Test.YtlocohcbfpeddaaTwE2
namespace Go.Proofs.Ytlocohcbfpeddaa
open Go.RowKit

/-- One step of Plain at the characters of one ASCII character. -/
def repOk (c : UInt8) : Bool :=
  match Tw.rep c with
  | [a] => decide (0 ≤ Lib.indexByte Cd.syms a) && decide (Lib.indexByte [36, 47, 43, 37] a < 0) && (Tw.unrep [a] == some c)
  | [a, b] => decide (0 ≤ Lib.indexByte Cd.syms a) && decide (0 ≤ Lib.indexByte [36, 47, 43, 37] a) && (Tw.unrep [a, b] == some c)
  | _ => false
theorem repOk_all : ∀ c : UInt8, c ≤ 127 → repOk c = true := by
  have h : ∀ i : Fin 128, repOk (UInt8.ofNat i.val) = true := by decide +kernel
  intro c hc
  have h2 := UInt8.le_iff_toNat_le.1 hc
  have e : (127 : UInt8).toNat = 127 := rfl
  have := h ⟨c.toNat, by omega⟩
  simpa using this
theorem plain_step (c : UInt8) (hc : c ≤ 127) (f : Nat) (l acc : List UInt8) : Tw.plainGo (f + 1) (Tw.rep c ++ l) acc = Tw.plainGo f l (acc ++ [c]) := by
  have h := repOk_all c hc
  unfold repOk at h
  split at h
  · rename_i a ha
    simp only [Bool.and_eq_true, decide_eq_true_eq, beq_iff_eq] at h
    rw [ha, List.cons_append, List.nil_append, Tw.plainGo, if_neg (by omega), if_neg (by omega), h.2]
  · rename_i a b ha
    simp only [Bool.and_eq_true, decide_eq_true_eq, beq_iff_eq] at h
    rw [ha, List.cons_append, List.cons_append, List.nil_append, Tw.plainGo, if_neg (by omega), if_pos (by omega)]
    rw [show List.take 2 (a :: b :: l) = [a, b] from rfl, h.2]
    rfl
  · exact Bool.noConfusion h
theorem rep_pos (c : UInt8) : 1 ≤ (Tw.rep c).length := by
  have h : ∀ i : Fin 256, 1 ≤ (Tw.rep (UInt8.ofNat i.val)).length := by decide +kernel
  have := h ⟨c.toNat, c.toNat_lt⟩
  simpa using this
theorem plain_reps (l : List UInt8) : ∀ (f : Nat) (acc : List UInt8), (∀ c ∈ l, c ≤ 127) → (l.flatMap Tw.rep).length ≤ f → Tw.plainGo f (l.flatMap Tw.rep) acc = (acc ++ l, 0) := by
  induction l with
  | nil => intro f acc _ _; rw [List.flatMap_nil, plain_end, List.append_nil]
  | cons c l ih =>
    intro f acc h hf
    have h1 := rep_pos c
    rw [List.flatMap_cons, List.length_append] at hf
    obtain ⟨g, rfl⟩ : ∃ g, f = g + 1 := ⟨f - 1, by omega⟩
    rw [List.flatMap_cons, plain_step c (h c (List.mem_cons_self ..)), ih g _ (fun x hx => h x (List.mem_cons_of_mem _ hx)) (by omega), List.append_assoc]
    rfl
theorem plain_full (l t : List UInt8) (h : Tw.full l = (t, 0)) : Tw.plain t = (l, 0) := by
  unfold Tw.full at h
  by_cases h1 : (l.all fun c => decide (c ≤ 127)) = false
  · rw [if_pos h1] at h; injection h with _ h; simp at h
  · rw [if_neg h1] at h
    by_cases h2 : 1000 < l.length
    · rw [if_pos h2] at h; injection h with _ h; simp at h
    · rw [if_neg h2] at h
      by_cases h3 : 1000 < (l.flatMap Tw.rep).length
      · rw [if_pos h3] at h; injection h with _ h; simp at h
      · rw [if_neg h3] at h
        injection h with h _
        subst h
        rw [Bool.not_eq_false, List.all_eq_true] at h1
        unfold Tw.plain
        rw [if_neg h3, plain_reps l _ [] (fun c hc => by simpa using h1 c hc) (Nat.le_refl _), List.nil_append]
theorem unrep_rep {p : List UInt8} {x : UInt8} (h : Tw.unrep p = some x) : Tw.rep x = p ∧ x ≤ 127 := by
  unfold Tw.unrep at h
  have h1 := List.find?_some h
  have h2 := List.mem_of_find?_eq_some h
  rw [List.mem_map] at h2
  obtain ⟨c, hc, rfl⟩ := h2
  refine ⟨by simpa using h1, ?_⟩
  have hc' : c < 128 := by simpa using hc
  rw [UInt8.le_iff_toNat_le]
  have e : (127 : UInt8).toNat = 127 := rfl
  simp; omega
theorem plain_inv : ∀ (f : Nat) (t acc out : List UInt8), t.length ≤ f → Tw.plainGo f t acc = (out, 0) → ∃ l, out = acc ++ l ∧ t = l.flatMap Tw.rep ∧ ∀ c ∈ l, c ≤ 127
  | 0, t, acc, out, hf, h => by
    obtain rfl := List.eq_nil_of_length_eq_zero (Nat.le_zero.1 hf)
    rw [plain_end] at h
    injection h with h _
    exact ⟨[], by simp [h], rfl, by simp⟩
  | f + 1, [], acc, out, _, h => by
    rw [plain_end] at h
    injection h with h _
    exact ⟨[], by simp [h], rfl, by simp⟩
  | f + 1, c :: l, acc, out, hf, h => by
    simp only [List.length_cons] at hf
    rw [Tw.plainGo] at h
    by_cases h1 : Lib.indexByte Cd.syms c < 0
    · rw [if_pos h1] at h; injection h with _ h; simp at h
    · rw [if_neg h1] at h
      by_cases h2 : 0 ≤ Lib.indexByte [36, 47, 43, 37] c
      · rw [if_pos h2] at h
        cases hu : Tw.unrep ((c :: l).take 2) with
        | none => rw [hu] at h; injection h with _ h; simp at h
        | some x =>
          rw [hu] at h
          obtain ⟨m, rfl, h4, h5⟩ := plain_inv f (l.drop 1) (acc ++ [x]) out (by rw [List.length_drop]; omega) h
          obtain ⟨h6, h7⟩ := unrep_rep hu
          refine ⟨x :: m, by simp, ?_, fun y hy => by rcases List.mem_cons.1 hy with rfl | hy; exact h7; exact h5 y hy⟩
          rw [List.flatMap_cons, h6, ← h4]
          cases l <;> simp
      · rw [if_neg h2] at h
        cases hu : Tw.unrep [c] with
        | none => rw [hu] at h; injection h with _ h; simp at h
        | some x =>
          rw [hu] at h
          obtain ⟨m, rfl, h4, h5⟩ := plain_inv f l (acc ++ [x]) out (by omega) h
          obtain ⟨h6, h7⟩ := unrep_rep hu
          refine ⟨x :: m, by simp, ?_, fun y hy => by rcases List.mem_cons.1 hy with rfl | hy; exact h7; exact h5 y hy⟩
          rw [List.flatMap_cons, h6, ← h4]
          rfl
theorem len_reps (l : List UInt8) : l.length ≤ (l.flatMap Tw.rep).length := by
  induction l with
  | nil => simp
  | cons c l ih => have := rep_pos c; rw [List.flatMap_cons, List.length_append, List.length_cons]; omega
theorem full_plain (t l : List UInt8) (h : Tw.plain t = (l, 0)) : Tw.full l = (t, 0) := by
  unfold Tw.plain at h
  by_cases h1 : 1000 < t.length
  · rw [if_pos h1] at h; injection h with _ h; simp at h
  · rw [if_neg h1] at h
    obtain ⟨m, h2, h3, h4⟩ := plain_inv _ _ _ _ (Nat.le_refl _) h
    rw [List.nil_append] at h2
    subst h2
    have := len_reps l
    unfold Tw.full
    rw [if_neg (by rw [Bool.not_eq_false, List.all_eq_true]; intro c hc; simpa using h4 c hc), if_neg (by rw [← h3] at this; omega), ← h3, if_neg h1]

theorem decR_at {f : Nat} {args : Array Value} {w : World} {D : ByteArray} {x : Int} (h : Calls Try.prog f args w (DecR (D.data.toList, x) w)) :
    Calls Try.prog f args w fun e w' => e = .returned (.tuple #[.string D, .int .i64 x]) ∧ Ext w w' :=
  h.mono fun e w' ⟨he, hx⟩ => ⟨by rw [he]; simp only [strV, mk_toList], hx⟩
theorem plain_err (t : List UInt8) (h : (Tw.plain t).2 ≠ 0) : (Tw.plain t).1 = [] := by
  have key : ∀ (f : Nat) (t acc : List UInt8), (Tw.plainGo f t acc).2 ≠ 0 → (Tw.plainGo f t acc).1 = [] := by
    intro f
    induction f with
    | zero => intro t acc h; simp [Tw.plainGo] at h
    | succ f ih =>
      intro t acc h
      cases t with
      | nil => simp [Tw.plainGo] at h
      | cons c l =>
        rw [Tw.plainGo] at h ⊢
        by_cases h1 : Lib.indexByte Cd.syms c < 0
        · rw [if_pos h1]
        · rw [if_neg h1] at h ⊢
          by_cases h2 : 0 ≤ Lib.indexByte [36, 47, 43, 37] c
          · rw [if_pos h2] at h ⊢
            cases hu : Tw.unrep ((c :: l).take 2) with
            | none => rfl
            | some x => rw [hu] at h; exact ih _ _ h
          · rw [if_neg h2] at h ⊢
            cases hu : Tw.unrep [c] with
            | none => rfl
            | some x => rw [hu] at h; exact ih _ _ h
  unfold Tw.plain at h ⊢
  by_cases h1 : 1000 < t.length
  · rw [if_pos h1]
  · rw [if_neg h1] at h ⊢; exact key _ _ _ h

set_option maxRecDepth 100000 in
set_option maxHeartbeats 4000000 in
theorem law_inverts (s t : ByteArray) (w : World) (hs : s.size ≤ 9223372036854775807) (ht : t.size ≤ 9223372036854775807) :
    Calls Try.prog 7 #[.string s, .string t] w fun e w' => e = .returned (.bool true) ∧ Ext w w' := by
  by_cases hs4 : 400 < s.size
  · go_enter Try.func7, Try.ntmps7
    go_wp2_with fail
    refine (example_any _).mono ?_
    rintro e wz ⟨rfl, hz⟩
    go_wp2
    go_ret
    exact ⟨rfl, hz⟩
  by_cases ht4 : 400 < t.size
  · go_enter Try.func7, Try.ntmps7
    go_wp2_with fail
    refine (example_any _).mono ?_
    rintro e wz ⟨rfl, hz⟩
    go_wp2
    go_ret
    exact ⟨rfl, hz⟩
  have HFA := Lib.hid (fun w => full_any s w hs)
  have HPT := Lib.hid (fun w => plain_any t w ht)
  have HP1 := Lib.hid (fun a => plain_full s.data.toList a)
  have HP2 := Lib.hid (fun a => full_plain t.data.toList a)
  have hfl : (Tw.full s.data.toList).1.length ≤ 1000 := by
    unfold Tw.full
    repeat' split
    all_goals first | (simp; done) | (simp only; omega)
  have hpl : (Tw.plain t.data.toList).1.length ≤ 1000 := by
    cases he : decide ((Tw.plain t.data.toList).2 = 0)
    · have : (Tw.plain t.data.toList).1 = [] := plain_err _ (by simpa using he)
      rw [this]; simp
    · have h0 : Tw.plain t.data.toList = ((Tw.plain t.data.toList).1, 0) := Prod.ext rfl (by simpa using he)
      have h1 := full_plain _ _ h0
      unfold Tw.full at h1
      by_cases hq : 1000 < (Tw.plain t.data.toList).1.length
      · rw [if_pos hq] at h1
        split at h1 <;> (injection h1 with _ h1; simp at h1)
      · omega
  generalize Tw.full s.data.toList = fa at *
  generalize Tw.plain t.data.toList = pt at *
  obtain ⟨fa1, fa2⟩ := fa
  obtain ⟨pt1, pt2⟩ := pt
  obtain ⟨A, rfl⟩ : ∃ C : ByteArray, fa1 = C.data.toList := ⟨⟨fa1.toArray⟩, by simp⟩
  obtain ⟨C, rfl⟩ : ∃ C : ByteArray, pt1 = C.data.toList := ⟨⟨pt1.toArray⟩, by simp⟩
  simp only [len_data] at hfl hpl
  replace HFA := Lib.hid (fun w => decR_at (HFA.out w))
  replace HPT := Lib.hid (fun w => decR_at (HPT.out w))
  by_cases h1 : fa2 = 0
  · subst h1
    have HPA : Hid (∀ w, Calls Try.prog 13 #[.string A] w fun e w' => e = .returned (.tuple #[.string s, .int .i64 0]) ∧ Ext w w') := Lib.hid (fun w => by
      have := plain_any A w (by omega)
      rw [HP1.out _ rfl] at this
      exact decR_at this)
    by_cases h2 : pt2 = 0
    · subst h2
      have HFT : Hid (∀ w, Calls Try.prog 11 #[.string C] w fun e w' => e = .returned (.tuple #[.string t, .int .i64 0]) ∧ Ext w w') := Lib.hid (fun w => by
        have := full_any C w (by omega)
        rw [HP2.out _ rfl] at this
        exact decR_at this)
      clear HP1 HP2
      go_enter Try.func7, Try.ntmps7
      go_wp2_with fail
      refine (HFA.out _).mono ?_
      rintro e w1 ⟨rfl, h1⟩
      go_wp2_with fail
      refine (HPA.out _).mono ?_
      rintro e w2 ⟨rfl, h2⟩
      go_wp2_with fail
      refine (HPT.out _).mono ?_
      rintro e w3 ⟨rfl, h3⟩
      go_wp2_with fail
      refine (HFT.out _).mono ?_
      rintro e w4 ⟨rfl, h4⟩
      go_wp2_with fail
      refine (example_any _).mono ?_
      rintro e wz ⟨rfl, hz⟩
      go_wp2
      go_ret
      exact ⟨rfl, ((h1.trans h2).trans (h3.trans h4)).trans hz⟩
    · have d2 : (pt2 == 0) = false := beq_eq_false_iff_ne.2 h2
      clear HP1 HP2 h2
      go_enter Try.func7, Try.ntmps7
      go_wp2_with fail
      refine (HFA.out _).mono ?_
      rintro e w1 ⟨rfl, h1⟩
      go_wp2_with fail
      refine (HPA.out _).mono ?_
      rintro e w2 ⟨rfl, h2⟩
      go_wp2_with fail
      refine (HPT.out _).mono ?_
      rintro e w4 ⟨rfl, h4⟩
      go_wp2_with fail
      refine (example_any _).mono ?_
      rintro e wz ⟨rfl, hz⟩
      go_wp2
      go_ret
      exact ⟨rfl, ((h1.trans h2).trans h4).trans hz⟩
  · have d1 : (fa2 == 0) = false := beq_eq_false_iff_ne.2 h1
    by_cases h2 : pt2 = 0
    · subst h2
      have HFT : Hid (∀ w, Calls Try.prog 11 #[.string C] w fun e w' => e = .returned (.tuple #[.string t, .int .i64 0]) ∧ Ext w w') := Lib.hid (fun w => by
        have := full_any C w (by omega)
        rw [HP2.out _ rfl] at this
        exact decR_at this)
      clear HP1 HP2 h1
      go_enter Try.func7, Try.ntmps7
      go_wp2_with fail
      refine (HFA.out _).mono ?_
      rintro e w2 ⟨rfl, h2⟩
      go_wp2_with fail
      refine (HPT.out _).mono ?_
      rintro e w3 ⟨rfl, h3⟩
      go_wp2_with fail
      refine (HFT.out _).mono ?_
      rintro e w4 ⟨rfl, h4⟩
      go_wp2_with fail
      refine (example_any _).mono ?_
      rintro e wz ⟨rfl, hz⟩
      go_wp2
      go_ret
      exact ⟨rfl, (h2.trans (h3.trans h4)).trans hz⟩
    · have d2 : (pt2 == 0) = false := beq_eq_false_iff_ne.2 h2
      clear HP1 HP2 h2 h1
      go_enter Try.func7, Try.ntmps7
      go_wp2_with fail
      refine (HFA.out _).mono ?_
      rintro e w2 ⟨rfl, h2⟩
      go_wp2_with fail
      refine (HPT.out _).mono ?_
      rintro e w4 ⟨rfl, h4⟩
      go_wp2_with fail
      refine (example_any _).mono ?_
      rintro e wz ⟨rfl, hz⟩
      go_wp2
      go_ret
      exact ⟨rfl, (h2.trans h4).trans hz⟩
end Go.Proofs.Ytlocohcbfpeddaa
