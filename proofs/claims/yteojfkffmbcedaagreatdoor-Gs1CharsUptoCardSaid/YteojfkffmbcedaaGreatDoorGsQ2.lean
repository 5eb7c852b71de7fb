/-
  Chapter 14 in plain words: FromChars inverts Chars, and the other way round.
  No condition.
-/
import Derived.Test.YteojfkffmbcedaaGreatDoorGsQ
namespace Go.Proofs.YteojfkffmbcedaaGreatDoor
open Go.RowKit

theorem verL_cons {x : Gs.El} {xs : List Gs.El} (h : Gs.verL (x :: xs) = 0) : Gs.ver x.1 x.2 = 0 ∧ Gs.verL xs = 0 := by
  unfold Gs.verL at h
  split at h
  · rename_i h0; exact ⟨h0, h⟩
  · rename_i h0; exact absurd h h0
theorem run_app (a r : List Int) (h : ∀ b ∈ a, b ≠ 256) : Gs.run (a ++ r) = a ++ Gs.run r := by
  induction a with
  | nil => rfl
  | cons b a ih => simp only [List.cons_append, Gs.run, if_neg (h b (List.mem_cons_self ..))]; rw [ih (fun x hx => h x (List.mem_cons_of_mem _ hx))]
theorem run_cut (l : List Int) : (∀ b ∈ Gs.run l, b ≠ 256 ∧ b ∈ l) ∧ ((Gs.run l = l) ∨ ∃ r, l = Gs.run l ++ 256 :: r) := by
  induction l with
  | nil => exact ⟨by simp [Gs.run], .inl rfl⟩
  | cons b l ih =>
    by_cases h : b = 256
    · subst h; simp [Gs.run]
    · simp only [Gs.run, if_neg h]
      refine ⟨fun x hx => ?_, ?_⟩
      · rcases List.mem_cons.1 hx with rfl | hx
        · exact ⟨h, List.mem_cons_self ..⟩
        · exact ⟨(ih.1 x hx).1, List.mem_cons_of_mem _ (ih.1 x hx).2⟩
      · rcases ih.2 with e | ⟨r, e⟩
        · left; rw [e]
        · right; exact ⟨r, by rw [List.cons_append, ← e]⟩
theorem run_len (l : List Int) : (Gs.run l).length ≤ l.length := by
  rcases (run_cut l).2 with e | ⟨r, e⟩
  · rw [e]; exact Nat.le_refl _
  · have := congrArg List.length e
    rw [List.length_append, List.length_cons] at this
    omega
theorem byte_int (c : UInt8) : Gs.byte (c.toNat : Int) = c := by
  have := UInt8.toNat_lt c
  unfold Gs.byte
  rw [Int.emod_eq_of_lt (by omega) (by omega), Int.toNat_natCast]; simp
theorem text_ints (l : List UInt8) : Gs.text (Gs.ints l) = l := by
  unfold Gs.text Gs.ints
  rw [List.map_map]
  conv => rhs; rw [← List.map_id l]
  exact List.map_congr_left fun c _ => byte_int c
theorem text_app (a b : List Int) : Gs.text (a ++ b) = Gs.text a ++ Gs.text b := List.map_append
theorem ints_app (a b : List UInt8) : Gs.ints (a ++ b) = Gs.ints a ++ Gs.ints b := List.map_append
theorem ints_len (a : List UInt8) : (Gs.ints a).length = a.length := List.length_map _
theorem text_len (a : List Int) : (Gs.text a).length = a.length := List.length_map _
theorem ints_ne (l : List UInt8) : ∀ b ∈ Gs.ints l, b ≠ 256 := by
  intro b hb
  obtain ⟨c, _, rfl⟩ := List.mem_map.1 hb
  have := UInt8.toNat_lt c
  omega
theorem ints_text (l : List Int) (h : ∀ b ∈ l, 0 ≤ b ∧ b ≤ 127) : Gs.ints (Gs.text l) = l := by
  unfold Gs.text Gs.ints
  rw [List.map_map]
  conv => rhs; rw [← List.map_id l]
  refine List.map_congr_left fun c hc => ?_
  obtain ⟨h1, h2⟩ := h c hc
  simp only [Function.comp, Gs.byte, id]
  rw [Int.emod_eq_of_lt h1 (by omega)]
  have : (UInt8.ofNat c.toNat).toNat = c.toNat := by simp; omega
  rw [this]; omega

theorem pre_of {a t : List UInt8} {r : Gs.Rule} (h : Gs.find a = some r) : Gs.pre (a ++ t) = some (a, r) := by
  obtain ⟨h1, h2, _, h4, h5⟩ := ai_ok h
  have ta : ∀ n, n ≤ a.length → (a ++ t).take n = a.take n := fun n hn => List.take_append_of_le_length hn
  have lt : ∀ n, n ≤ a.length → n ≤ (a ++ t).length := fun n hn => by rw [List.length_append]; omega
  have hit : Gs.preN (a ++ t) a.length = some (a, r) := by
    unfold Gs.preN
    rw [if_pos (lt _ (Nat.le_refl _)), ta _ (Nat.le_refl _), List.take_length, h]; rfl
  have miss : ∀ n, n < a.length → Gs.find (a.take n) = none → Gs.preN (a ++ t) n = none := by
    intro n hn hf
    unfold Gs.preN
    rw [if_pos (lt _ (by omega)), ta _ (by omega), hf]; rfl
  unfold Gs.pre
  have hl : a.length = 2 ∨ a.length = 3 ∨ a.length = 4 := by omega
  rcases hl with e | e | e
  · rw [e] at hit; rw [hit]; rfl
  · rw [e] at hit; rw [miss 2 (by omega) (h4 (by omega)), hit]; rfl
  · rw [e] at hit; rw [miss 2 (by omega) (h4 (by omega)), miss 3 (by omega) (h5 (by omega)), hit]; rfl
theorem pre_inv {l a : List UInt8} {r : Gs.Rule} (h : Gs.pre l = some (a, r)) : Gs.find a = some r ∧ l.take a.length = a ∧ a.length ≤ l.length := by
  have key : ∀ n, Gs.preN l n = some (a, r) → Gs.find a = some r ∧ l.take a.length = a ∧ a.length ≤ l.length := by
    intro n hn
    unfold Gs.preN at hn
    split at hn
    · rename_i hle
      rw [Option.map_eq_some_iff] at hn
      obtain ⟨r', h1, h2⟩ := hn
      simp only [Prod.mk.injEq] at h2
      obtain ⟨rfl, rfl⟩ := h2
      refine ⟨h1, ?_, by rw [List.length_take]; omega⟩
      rw [List.length_take, Nat.min_eq_left hle]
    · simp at hn
  unfold Gs.pre at h
  rw [Option.or_eq_some_iff, Option.or_eq_some_iff] at h
  rcases h with h | ⟨_, h | ⟨_, h⟩⟩
  all_goals exact key _ h

theorem chG_ne {xs : List Gs.El} (hv : Gs.verL xs = 0) (h : xs ≠ []) : Gs.chG xs ≠ [] := by
  cases xs with
  | nil => exact absurd rfl h
  | cons x xs =>
    obtain ⟨h0, _⟩ := verL_cons hv
    obtain ⟨r, h1, _⟩ := ver_find h0
    have := (ai_ok h1).1
    intro e
    have := congrArg List.length e
    simp only [Gs.chG, List.length_append, ints_len, List.length_nil] at this
    omega
theorem fromF_nil (n : Nat) (acc : List Gs.El) : Gs.fromF n [] acc = (acc, 0) := by cases n <;> rfl
theorem next_of (x : Gs.El) (xs : List Gs.El) (hv : Gs.verL (x :: xs) = 0) : ∃ k, Gs.next (Gs.chG (x :: xs)) = (x, k, 0) ∧ (Gs.chG (x :: xs)).drop k = Gs.chG xs ∧ 0 < k ∧ k ≤ (Gs.chG (x :: xs)).length := by
  obtain ⟨a, d⟩ := x
  obtain ⟨h0, h00⟩ := verL_cons hv
  dsimp only at h0
  obtain ⟨r, h1, h2⟩ := ver_find h0
  obtain ⟨ro1, ro2, ro3, ro4, ro5, ro6, ro7, ro8⟩ := find_ok h1
  obtain ⟨l1, l2, l3⟩ := verR_parts h2
  have hal := (ai_ok h1).1
  have hfx : Gs.fixed a = Gs.isFix r := by unfold Gs.fixed; rw [h1]
  simp only [Gs.chG]
  rw [hfx]
  have hpos : ∀ t : List Int, (Gs.ints (a ++ d) ++ t).length ≠ 0 := fun t => by rw [List.length_append, ints_len, List.length_append]; omega
  cases hf : Gs.isFix r
  · cases xs with
    | nil =>
      have e : Gs.ints (a ++ d) ++ ((if (false || ([] : List Gs.El).isEmpty) = true then [] else [256]) ++ Gs.chG []) = Gs.ints (a ++ d) := by simp [Gs.chG]
      rw [e]
      have er : Gs.run (Gs.ints (a ++ d)) = Gs.ints (a ++ d) := by have := run_app (Gs.ints (a ++ d)) [] (ints_ne _); simpa [Gs.run] using this
      refine ⟨(Gs.ints (a ++ d)).length, ?_, by simp [Gs.chG], by rw [ints_len, List.length_append]; omega, Nat.le_refl _⟩
      unfold Gs.next
      rw [er, if_neg (by have := hpos []; simpa using this), text_ints, pre_of h1]
      dsimp only
      rw [if_neg (by rw [hf]; exact Bool.noConfusion), List.drop_left, if_neg (by simpa using h0), if_neg (by omega), Nat.min_eq_right (by omega)]
    | cons y ys =>
      have e : Gs.ints (a ++ d) ++ ((if (false || (y :: ys).isEmpty) = true then [] else [256]) ++ Gs.chG (y :: ys)) = Gs.ints (a ++ d) ++ (256 :: Gs.chG (y :: ys)) := by simp
      rw [e]
      have er : Gs.run (Gs.ints (a ++ d) ++ (256 :: Gs.chG (y :: ys))) = Gs.ints (a ++ d) := by rw [run_app _ _ (ints_ne _)]; simp [Gs.run]
      have hne : (Gs.chG (y :: ys)).length ≠ 0 := fun e => chG_ne h00 (by simp) (List.eq_nil_of_length_eq_zero e)
      refine ⟨(Gs.ints (a ++ d)).length + 1, ?_, by rw [← List.drop_drop, List.drop_left]; rfl, by omega, by rw [List.length_append, List.length_cons]; omega⟩
      unfold Gs.next
      rw [er, if_neg (by have := hpos []; simpa using this), text_ints, pre_of h1]
      dsimp only
      have hl : (Gs.ints (a ++ d) ++ 256 :: Gs.chG (y :: ys)).length = (Gs.ints (a ++ d)).length + 1 + (Gs.chG (y :: ys)).length := by rw [List.length_append, List.length_cons]; omega
      rw [if_neg (by rw [hf]; exact Bool.noConfusion), List.drop_left, if_neg (by simpa using h0), hl, if_neg (by omega), Nat.min_eq_left (by omega)]
  · have e : Gs.ints (a ++ d) ++ ((if (true || xs.isEmpty) = true then [] else [256]) ++ Gs.chG xs) = Gs.ints (a ++ d) ++ Gs.chG xs := by simp
    rw [e]
    have er : Gs.run (Gs.ints (a ++ d) ++ Gs.chG xs) = Gs.ints (a ++ d) ++ Gs.run (Gs.chG xs) := run_app _ _ (ints_ne _)
    have hfe : r.2.1 = r.2.2.1 := by simpa [Gs.isFix] using hf
    have hdl : r.2.2.1.toNat = d.length := by omega
    refine ⟨a.length + d.length, ?_, ?_, by omega, by rw [List.length_append, ints_len, List.length_append]; omega⟩
    · unfold Gs.next
      rw [er, if_neg (hpos _), text_app, text_ints, List.append_assoc, pre_of h1]
      dsimp only
      rw [hf, if_pos rfl, hdl, if_neg (by rw [List.length_append, ints_len, List.length_append]; omega), List.drop_left, List.take_left, if_neg (by simpa using h0)]
    · rw [show a.length + d.length = (Gs.ints (a ++ d)).length by rw [ints_len, List.length_append], List.drop_left]
theorem from_chars (xs : List Gs.El) : ∀ (n : Nat) (acc : List Gs.El), Gs.verL xs = 0 → (Gs.chG xs).length ≤ n → Gs.fromF n (Gs.chG xs) acc = (acc ++ xs, 0) := by
  induction xs with
  | nil => intro n acc _ _; simp only [Gs.chG]; rw [fromF_nil, List.append_nil]
  | cons x xs ih =>
    intro n acc hv hn
    obtain ⟨k, k1, k2, k3, k4⟩ := next_of x xs hv
    obtain ⟨m, rfl⟩ : ∃ m, n = m + 1 := ⟨n - 1, by omega⟩
    have hne := chG_ne hv (by simp)
    rw [Gs.fromF, if_neg hne, k1, if_neg (by simp)]
    dsimp only
    rw [k2, ih m _ (verL_cons hv).2 (by rw [← k2, List.length_drop]; omega), List.append_assoc]; rfl
theorem okCh_run {c : List Int} (h : c.all Gs.okCh = true) : ∀ b ∈ Gs.run c, 0 ≤ b ∧ b ≤ 127 := by
  intro b hb
  obtain ⟨h1, h2⟩ := (run_cut c).1 b hb
  have := List.all_eq_true.1 h b h2
  simp [Gs.okCh] at this
  omega
theorem next_inv {c : List Int} {x : Gs.El} {k : Nat} (hc : c.all Gs.okCh = true) (h : Gs.next c = (x, k, 0)) :
    Gs.ver x.1 x.2 = 0 ∧ 0 < k ∧ k ≤ c.length ∧ c = Gs.ints (x.1 ++ x.2) ++ ((if Gs.fixed x.1 || (c.drop k).isEmpty then [] else [256]) ++ c.drop k) := by
  have hrt := okCh_run hc
  obtain ⟨_, rc⟩ := run_cut c
  have rl := run_len c
  unfold Gs.next at h
  split at h
  · simp at h
  · rename_i hpos
    split at h
    · simp at h
    · rename_i a r hp
      obtain ⟨p1, p2, p3⟩ := pre_inv hp
      obtain ⟨ro1, ro2, ro3, ro4, ro5, ro6, ro7, ro8⟩ := find_ok p1
      have hal := (ai_ok p1).1
      have hfx : Gs.fixed a = Gs.isFix r := by unfold Gs.fixed; rw [p1]
      rw [text_len] at p3
      have hit : Gs.ints (Gs.text (Gs.run c)) = Gs.run c := ints_text _ hrt
      have hcat : a ++ (Gs.text (Gs.run c)).drop a.length = Gs.text (Gs.run c) := by
        conv => lhs; rw [← p2]
        rw [List.length_take, text_len, Nat.min_eq_left p3, List.take_append_drop]
      split at h
      · rename_i hf
        split at h
        · simp at h
        · rename_i hlen
          split at h
          · rename_i hv
            simp only [Prod.mk.injEq] at h
            exact absurd h.2.2 hv
          · rename_i hv
            simp only [Prod.mk.injEq, and_true] at h
            obtain ⟨rfl, rfl⟩ := h
            dsimp only
            refine ⟨Decidable.of_not_not hv, by omega, by omega, ?_⟩
            rw [hfx, hf]
            simp only [Bool.true_or, if_true, List.nil_append]
            have e1 : a ++ ((Gs.text (Gs.run c)).drop a.length).take r.2.2.1.toNat = (Gs.text (Gs.run c)).take (a.length + r.2.2.1.toNat) := by
              rw [List.take_add, p2]
            have e2 : Gs.ints ((Gs.text (Gs.run c)).take (a.length + r.2.2.1.toNat)) = (Gs.run c).take (a.length + r.2.2.1.toNat) := by
              unfold Gs.ints at hit ⊢
              rw [List.map_take, hit]
            rw [e1, e2]
            have e3 : (Gs.run c).take (a.length + r.2.2.1.toNat) = c.take (a.length + r.2.2.1.toNat) := by
              rcases rc with e | ⟨q, e⟩
              · rw [e]
              · conv => rhs; rw [e]
                rw [List.take_append_of_le_length (by omega)]
            rw [e3, List.take_append_drop]
      · rename_i hf
        split at h
        · rename_i hv
          simp only [Prod.mk.injEq] at h
          exact absurd h.2.2 hv
        · rename_i hv
          split at h
          · simp at h
          · rename_i hend
            simp only [Prod.mk.injEq, and_true] at h
            obtain ⟨rfl, rfl⟩ := h
            dsimp only
            refine ⟨Decidable.of_not_not hv, by omega, by omega, ?_⟩
            rw [hfx, hcat, hit]
            have hf' : Gs.isFix r = false := by simpa using hf
            rw [hf']
            rcases rc with e | ⟨q, e⟩
            · rw [e]
              have : min (c.length + 1) c.length = c.length := by omega
              rw [this, List.drop_length]; simp
            · have hl : c.length = (Gs.run c).length + 1 + q.length := by
                have := congrArg List.length e
                rw [List.length_append, List.length_cons] at this; omega
              have hq : c.drop (min ((Gs.run c).length + 1) c.length) = q := by
                rw [Nat.min_eq_left (by omega)]
                have h5 : (Gs.run c ++ 256 :: q).drop ((Gs.run c).length + 1) = q := by rw [← List.drop_drop, List.drop_left]; rfl
                exact (congrArg (List.drop ((Gs.run c).length + 1)) e).trans h5
              rw [hq]
              cases q with
              | nil => simp at hl; omega
              | cons y ys => simp; exact e
theorem from_inv (n : Nat) : ∀ (c : List Int) (acc res : List Gs.El), c.all Gs.okCh = true → c.length ≤ n → Gs.fromF n c acc = (res, 0) → ∃ xs, res = acc ++ xs ∧ Gs.verL xs = 0 ∧ Gs.chG xs = c := by
  induction n with
  | zero =>
    intro c acc res _ hl h
    obtain rfl := List.eq_nil_of_length_eq_zero (by omega : c.length = 0)
    simp only [Gs.fromF, Prod.mk.injEq, and_true] at h
    exact ⟨[], by simp [h], rfl, rfl⟩
  | succ n ih =>
    intro c acc res hc hl h
    rw [Gs.fromF] at h
    split at h
    · rename_i h0
      simp only [Prod.mk.injEq, and_true] at h
      exact ⟨[], by simp [h], rfl, by rw [h0]; rfl⟩
    · rename_i h0
      split at h
      · rename_i h1
        simp only [Prod.mk.injEq] at h
        exact absurd h.2 h1
      · rename_i h1
        have h1 := Decidable.of_not_not h1
        generalize hn : Gs.next c = nx at *
        obtain ⟨x, k, e⟩ := nx
        dsimp only at h h1
        subst h1
        obtain ⟨v0, k0, k1, hcat⟩ := next_inv hc hn
        obtain ⟨xs, x1, x2, x3⟩ := ih (c.drop k) _ res (List.all_eq_true.2 fun b hb => List.all_eq_true.1 hc b (List.mem_of_mem_drop hb)) (by rw [List.length_drop]; omega) h
        refine ⟨x :: xs, by rw [x1, List.append_assoc]; rfl, by simp only [Gs.verL]; rw [if_pos v0]; exact x2, ?_⟩
        have hemp : xs.isEmpty = (c.drop k).isEmpty := by
          cases xs with
          | nil => rw [← x3]; rfl
          | cons y ys =>
            have := chG_ne x2 (by simp)
            rw [x3] at this
            cases hd : c.drop k with
            | nil => exact absurd hd this
            | cons _ _ => rfl
        simp only [Gs.chG]
        rw [hemp, x3]
        exact hcat.symm
theorem chars_ok {xs : List Gs.El} (hv : Gs.verL xs = 0) : (256 :: Gs.chG xs).all Gs.okCh = true := by
  rw [List.all_cons]
  have : (Gs.chG xs).all Gs.okCh = true := by
    induction xs with
    | nil => rfl
    | cons x xs ih =>
      obtain ⟨h0, h1⟩ := verL_cons hv
      simp only [Gs.chG, List.all_append]
      rw [ih h1]
      have h2 : ∀ l : List UInt8, (∀ c ∈ l, c ≠ 40 ∧ c ≠ 41 ∧ c.toNat ≤ 127) → (Gs.ints l).all Gs.okCh = true := by
        intro l hl
        rw [List.all_eq_true]
        intro b hb
        obtain ⟨c, hc, rfl⟩ := List.mem_map.1 hb
        have := (hl c hc).2.2
        simp [Gs.okCh]
        omega
      rw [ints_app, List.all_append, h2 _ (ver_ai h0), h2 _ (ver_data h0)]
      split <;> rfl
  rw [this]; rfl
/-- FromChars inverts Chars. -/
theorem from_of_chars {xs : List Gs.El} {c : List Int} (h : Gs.chars xs = (c, 0)) : Gs.frChars c = (xs, 0) := by
  unfold Gs.chars at h
  split at h
  · rename_i h1; simp only [Prod.mk.injEq] at h; exact absurd h.2 h1
  · split at h
    · simp at h
    · rename_i h1 h2
      simp only [Prod.mk.injEq, and_true] at h
      subst h
      have h1 := Decidable.of_not_not h1
      unfold Gs.verAll at h1
      split at h1
      · simp at h1
      · rename_i h3
        have hne := chG_ne h1 h3
        unfold Gs.frChars
        rw [if_neg h2, if_neg (by rw [chars_ok h1]; exact Bool.noConfusion), if_neg (by simp), if_neg (by rw [List.length_cons]; intro e; exact hne (List.eq_nil_of_length_eq_zero (by omega)))]
        show Gs.fromF _ (Gs.chG xs) [] = _
        rw [from_chars xs _ [] h1 (by rw [List.length_cons]; omega)]; rfl
/-- Chars inverts FromChars. -/
theorem chars_of_from {xs : List Gs.El} {c : List Int} (h : Gs.frChars c = (xs, 0)) : Gs.chars xs = (c, 0) := by
  unfold Gs.frChars at h
  split at h
  · simp at h
  · split at h
    · simp at h
    · split at h
      · simp at h
      · split at h
        · simp at h
        · rename_i h1 h2 h3 h4
          cases c with
          | nil => simp at h3
          | cons b c =>
            have h3 : b = 256 := Decidable.of_not_not h3
            subst h3
            have h2 : (256 :: c).all Gs.okCh = true := by simpa using h2
            rw [List.all_cons, Bool.and_eq_true] at h2
            obtain ⟨ys, y1, y2, y3⟩ := from_inv _ c [] xs h2.2 (by rw [List.length_cons]; omega) h
            rw [List.nil_append] at y1
            subst y1
            have hne : xs ≠ [] := fun e => h4 (by rw [← y3, e]; rfl)
            unfold Gs.chars Gs.verAll
            rw [if_neg hne, if_neg (by simpa using y2), y3, if_neg h1]
end Go.Proofs.YteojfkffmbcedaaGreatDoor
