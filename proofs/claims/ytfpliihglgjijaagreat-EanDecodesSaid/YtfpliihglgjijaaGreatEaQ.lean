/-
  Chapter 11, plain: symbols and add-ons drawn and read; the round trip.
  No condition.
-/
import Derived.Test.YtfpliihglgjijaaGreatEaP
namespace Go.Proofs.YtfpliihglgjijaaGreat.Ea

/-- A complete text of a kind. -/
theorem full_ok {k : Int} {l : List UInt8} (h : full k l = 0) : size k ≠ 0 ∧ digs l = true ∧ l.length = size k ∧ (k = 4 → l.getD 0 0 ≤ 49) ∧ l = l.take (size k - 1) ++ [chkOf k (l.take (size k - 1))] := by
  unfold full at h
  split at h
  · cases h
  rename_i h1
  unfold comp at h
  split at h
  · cases h
  rename_i h2
  split at h
  · cases h
  rename_i h3
  have h3 : digs l = true := by simpa using h3
  split at h
  · cases h
  rename_i h4
  split at h
  · cases h
  rename_i h5
  split at h
  · cases h
  rename_i h6
  have hl : l.length = size k := by
    by_cases e : l.length = size k
    · exact e
    · exact absurd ⟨h2, h3, by by_cases e2 : l.length + 1 = size k; exact e2; exact absurd ⟨e, e2⟩ h4⟩ h1
  refine ⟨h2, h3, hl, fun e => ?_, ?_⟩
  · have : ¬ 49 < l.getD 0 0 := fun e2 => h5 ⟨e, e2⟩
    exact UInt8.not_lt.1 this
  · by_cases e : l = l.take (size k - 1) ++ [chkOf k (l.take (size k - 1))]
    · exact e
    · exact absurd ⟨hl, e⟩ h6
theorem full_of {k : Int} {l : List UInt8} (h1 : size k ≠ 0) (h2 : digs l = true) (h3 : l.length = size k) (h4 : k = 4 → l.getD 0 0 ≤ 49) (h5 : l = l.take (size k - 1) ++ [chkOf k (l.take (size k - 1))]) : full k l = 0 := by
  unfold full
  rw [if_neg (by omega)]
  unfold comp
  rw [if_neg h1, if_neg (by simp [h2]), if_neg (by omega), if_neg (fun h => by have := h4 h.1; exact UInt8.not_lt.2 this h.2), if_neg (fun h => h.2 h5)]
theorem full_zero {k : Int} {l : List UInt8} (h1 : size k ≠ 0) (h2 : digs l = true) (h3 : l.length = size k) (h4 : k = 4 → l.getD 0 0 ≤ 49) : full k l = if l = l.take (size k - 1) ++ [chkOf k (l.take (size k - 1))] then 0 else 8 := by
  by_cases h5 : l = l.take (size k - 1) ++ [chkOf k (l.take (size k - 1))]
  · rw [if_pos h5]; exact full_of h1 h2 h3 h4 h5
  · rw [if_neg h5]
    unfold full
    rw [if_neg (by omega)]
    unfold comp
    rw [if_neg h1, if_neg (by simp [h2]), if_neg (by omega), if_neg (fun h => by have := h4 h.1; exact UInt8.not_lt.2 this h.2), if_pos ⟨h3, h5⟩]

theorem sets13_ok : ∀ d : Fin 10, (sets13 d).length = 6 ∧ (∀ u ∈ sets13 d, u < 2) ∧ find13 (sets13 d) = some d.1 := by decide
theorem setsE_ok : ∀ (s : Fin 2) (c : Fin 10), (setsE s c).length = 6 ∧ (∀ u ∈ setsE s c, u < 2) ∧ findE (setsE s c) = some (s.1, c.1) := by decide
theorem setsA2_ok : ∀ d : Fin 4, (setsA2.getD d []).length = 2 ∧ ∀ u ∈ setsA2.getD d [], u < 2 := by decide
theorem setsA5_ok : ∀ d : Fin 10, (setsA5.getD d []).length = 5 ∧ ∀ u ∈ setsA5.getD d [], u < 2 := by decide
theorem setsAdd_ok {a : List UInt8} (h : a.length = 2 ∨ a.length = 5) : (setsAdd a).length = a.length ∧ ∀ u ∈ setsAdd a, u < 2 := by
  unfold setsAdd
  rcases h with h | h
  · rw [if_pos h, h]; exact setsA2_ok ⟨_, Nat.mod_lt _ (by omega)⟩
  · rw [if_neg (by omega), h]; exact setsA5_ok ⟨_, Nat.mod_lt _ (by omega)⟩
theorem find13_some {u : List Nat} {d : Nat} (h : find13 u = some d) : d < 10 ∧ u = sets13 d := by
  have h1 := idx_some h
  obtain ⟨h2, h3⟩ := List.getElem?_eq_some_iff.1 h1
  exact ⟨h2, by unfold sets13; rw [List.getD_eq_getElem?_getD, h1]; rfl⟩
theorem findE_some {u : List Nat} {s c : Nat} (h : findE u = some (s, c)) : s < 2 ∧ c < 10 ∧ u = setsE s c := by
  unfold findE at h
  cases h0 : idx setsE0 u with
  | some c0 =>
    rw [h0] at h; cases h
    have h1 := idx_some h0
    obtain ⟨h2, h3⟩ := List.getElem?_eq_some_iff.1 h1
    exact ⟨by omega, h2, by unfold setsE; rw [if_pos rfl, List.getD_eq_getElem?_getD, h1]; rfl⟩
  | none =>
    rw [h0] at h
    cases h4 : idx (setsE0.map (fun l => l.map (fun x => 1 - x))) u with
    | none => rw [h4] at h; cases h
    | some c0 =>
      rw [h4] at h; cases h
      have h1 := idx_some h4
      obtain ⟨h2, h3⟩ := List.getElem?_eq_some_iff.1 h1
      rw [List.length_map] at h2
      refine ⟨by omega, h2, ?_⟩
      unfold setsE
      rw [if_neg (by omega), ← h3, List.getElem_map, List.getD_eq_getElem?_getD, List.getElem?_eq_getElem h2]
      rfl
theorem dv_lt {l : List UInt8} (h : digs l = true) (i : Nat) : dv l i < 10 := by
  unfold dv
  rw [List.getD_eq_getElem?_getD]
  cases e : l[i]? with
  | none => simp
  | some c => have := digs_iff.1 h c (List.mem_of_getElem? e); simp; omega
theorem dv_nat {l : List UInt8} (h : digs l = true) {i : Nat} (hi : i < l.length) : chr (dv l i) = l.getD i 0 := by
  unfold chr dv
  rw [List.getD_eq_getElem?_getD, List.getD_eq_getElem?_getD, List.getElem?_eq_getElem hi]
  exact chr_sub (digs_iff.1 h _ (List.getElem_mem hi))
theorem may_both {t : Nat} {us : List Nat} (h : ∀ u ∈ us, u < 2) : ∀ u ∈ us, may true t u := fun u hu => by unfold may; rw [if_pos rfl]; exact h u hu
theorem may_two : ∀ u ∈ [2, 2, 2, 2, 2, 2], may false 2 u := fun u hu => by unfold may; simp at hu ⊢; exact hu
theorem may_two' : ∀ u ∈ [2, 2, 2, 2], may false 2 u := fun u hu => by unfold may; simp at hu ⊢; exact hu
theorem may_nil : ∀ u ∈ [0, 0, 0, 0], may false 0 u := fun u hu => by unfold may; simp at hu ⊢; exact hu
theorem lt_both {t : Nat} {us : List Nat} (ht : t < 3) {b : Bool} (h : ∀ u ∈ us, may b t u) : ∀ u ∈ us, u < 3 := fun u hu => may_lt ht (h u hu)

theorem drw6_len {l : List UInt8} {us : List Nat} (h1 : digs l = true) (h2 : l.length = 6) (h3 : us.length = 6) (h4 : ∀ u ∈ us, u < 3) : (drw [] l us).length = 42 := by
  rw [drw_len [] l us h1 (by omega) h4, h2]; rfl
theorem drw4_len {l : List UInt8} {us : List Nat} (h1 : digs l = true) (h2 : l.length = 4) (h3 : us.length = 4) (h4 : ∀ u ∈ us, u < 3) : (drw [] l us).length = 28 := by
  rw [drw_len [] l us h1 (by omega) h4, h2]; rfl
theorem rcg6 {both : Bool} {t : Nat} (ht : t < 3) {l : List UInt8} {us : List Nat} (rest : List Bool) (h1 : digs l = true) (h2 : l.length = 6) (h3 : us.length = 6) (h4 : ∀ u ∈ us, may both t u) : rcg both t 0 6 (drw [] l us ++ rest) = some (l, us) := by
  have := rcg_drw both t ht [] l us rest h1 (by omega) h4
  rw [h2] at this; exact this
theorem rcg4 {both : Bool} {t : Nat} (ht : t < 3) {l : List UInt8} {us : List Nat} (rest : List Bool) (h1 : digs l = true) (h2 : l.length = 4) (h3 : us.length = 4) (h4 : ∀ u ∈ us, may both t u) : rcg both t 0 4 (drw [] l us ++ rest) = some (l, us) := by
  have := rcg_drw both t ht [] l us rest h1 (by omega) h4
  rw [h2] at this; exact this

theorem gd_len : gd.length = 3 := rfl
theorem md_len : md.length = 5 := rfl
theorem eE_len : eE.length = 6 := rfl
theorem sA_len : sA.length = 4 := rfl
theorem gA_len : gA.length = 2 := rfl
theorem sym13_len {l : List UInt8} (h1 : digs l = true) (h2 : l.length = 13) : (sym13 l).length = 95 := by
  unfold sym13
  obtain ⟨a, b, _⟩ := sets13_ok ⟨dv l 0, dv_lt h1 0⟩
  simp only [List.length_append, gd_len, md_len]
  rw [drw6_len (digs_take (digs_drop h1 1) 6) (by simp; omega) a (fun u hu => by have := b u hu; omega), drw6_len (digs_drop h1 7) (by simp; omega) rfl (by simp)]
theorem sym8_len {l : List UInt8} (h1 : digs l = true) (h2 : l.length = 8) : (sym8 l).length = 67 := by
  unfold sym8
  simp only [List.length_append, gd_len, md_len]
  rw [drw4_len (digs_take h1 4) (by simp; omega) rfl (by simp), drw4_len (digs_drop h1 4) (by simp; omega) rfl (by simp)]
theorem symE_len {l : List UInt8} (h1 : digs l = true) (h2 : l.length = 8) (h3 : dv l 0 < 2) : (symE l).length = 51 := by
  unfold symE
  obtain ⟨a, b, _⟩ := setsE_ok ⟨dv l 0, h3⟩ ⟨dv l 7, dv_lt h1 7⟩
  simp only [List.length_append, gd_len, eE_len]
  rw [drw6_len (digs_take (digs_drop h1 1) 6) (by simp; omega) a (fun u hu => by have := b u hu; omega)]
theorem split13 {l : List UInt8} (h : l.length = 13) : l.getD 0 0 :: ((l.drop 1).take 6 ++ l.drop 7) = l := by
  match l, h with
  | [_, _, _, _, _, _, _, _, _, _, _, _, _], _ => rfl
theorem split8 {l : List UInt8} (h : l.length = 8) : l.getD 0 0 :: ((l.drop 1).take 6 ++ [l.getD 7 0]) = l := by
  match l, h with
  | [_, _, _, _, _, _, _, _], _ => rfl
theorem rd13_sym {l : List UInt8} (h1 : digs l = true) (h2 : l.length = 13) : rd13 (sym13 l) = some l := by
  unfold rd13 sym13
  obtain ⟨a, b, c⟩ := sets13_ok ⟨dv l 0, dv_lt h1 0⟩
  dsimp only at a b c
  have d1 := digs_take (digs_drop h1 1) 6
  have l1 := drw6_len d1 (by simp; omega) a (fun u hu => by have := b u hu; omega)
  have d2 := digs_drop h1 7
  have l2 := drw6_len d2 (by simp; omega) (us := [2, 2, 2, 2, 2, 2]) rfl (by simp)
  generalize hA : drw [] ((l.drop 1).take 6) (sets13 (dv l 0)) = A at *
  generalize hB : drw [] (l.drop 7) [2, 2, 2, 2, 2, 2] = B at *
  rw [show gd ++ A ++ md ++ B ++ gd = gd ++ (A ++ (md ++ B ++ gd)) by simp, drop_app gd _ 3 rfl]
  rw [show gd ++ (A ++ (md ++ B ++ gd)) = (gd ++ A ++ md) ++ (B ++ gd) by simp, drop_app (gd ++ A ++ md) _ 50 (by simp [l1, gd_len, md_len])]
  rw [show (gd ++ A ++ md) ++ (B ++ gd) = (gd ++ A) ++ (md ++ (B ++ gd)) by simp, drop_app (gd ++ A) _ 45 (by simp [l1, gd_len]), take_app md _ 5 rfl]
  rw [← hA, ← hB, rcg6 (by omega) _ d1 (by simp; omega) a (may_both b), rcg6 (by omega) _ d2 (by simp; omega) rfl may_two]
  dsimp only
  rw [if_pos rfl, c, Option.map_some, dv_nat h1 (by omega), split13 h2]
theorem rd8_sym {l : List UInt8} (h1 : digs l = true) (h2 : l.length = 8) : rd8 (sym8 l) = some l := by
  unfold rd8 sym8
  have d1 := digs_take h1 4
  have l1 := drw4_len d1 (by simp; omega) (us := [0, 0, 0, 0]) rfl (by simp)
  have d2 := digs_drop h1 4
  have l2 := drw4_len d2 (by simp; omega) (us := [2, 2, 2, 2]) rfl (by simp)
  generalize hA : drw [] (l.take 4) [0, 0, 0, 0] = A at *
  generalize hB : drw [] (l.drop 4) [2, 2, 2, 2] = B at *
  rw [show gd ++ A ++ md ++ B ++ gd = gd ++ (A ++ (md ++ B ++ gd)) by simp, drop_app gd _ 3 rfl]
  rw [show gd ++ (A ++ (md ++ B ++ gd)) = (gd ++ A ++ md) ++ (B ++ gd) by simp, drop_app (gd ++ A ++ md) _ 36 (by simp [l1, gd_len, md_len])]
  rw [show (gd ++ A ++ md) ++ (B ++ gd) = (gd ++ A) ++ (md ++ (B ++ gd)) by simp, drop_app (gd ++ A) _ 31 (by simp [l1, gd_len]), take_app md _ 5 rfl]
  rw [← hA, ← hB, rcg4 (by omega) _ d1 (by simp; omega) rfl may_nil, rcg4 (by omega) _ d2 (by simp; omega) rfl may_two']
  dsimp only
  rw [if_pos rfl, List.take_append_drop]
theorem rdE_sym {l : List UInt8} (h1 : digs l = true) (h2 : l.length = 8) (h3 : dv l 0 < 2) : rdE (symE l) = some l := by
  unfold rdE symE
  obtain ⟨a, b, c⟩ := setsE_ok ⟨dv l 0, h3⟩ ⟨dv l 7, dv_lt h1 7⟩
  dsimp only at a b c
  have d1 := digs_take (digs_drop h1 1) 6
  rw [List.append_assoc, drop_app gd _ 3 rfl, rcg6 (by omega) _ d1 (by simp; omega) a (may_both b)]
  dsimp only
  rw [c, Option.map_some]
  dsimp only
  rw [dv_nat h1 (by omega), dv_nat h1 (by omega), split8 h2]

/-- The modules of a symbol of a complete text. -/
def wOf (k : Int) : Nat := if k = 1 ∨ k = 3 then 95 else if k = 2 then 67 else 51
theorem kinds {k : Int} (h : size k ≠ 0) : k = 1 ∨ k = 2 ∨ k = 3 ∨ k = 4 := by unfold size at h; (repeat' split at h) <;> omega
theorem dv2 {l : List UInt8} (h1 : digs l = true) (h2 : 0 < l.length) (h : l.getD 0 0 ≤ 49) : dv l 0 < 2 := by
  unfold dv
  rw [List.getD_eq_getElem?_getD, List.getElem?_eq_getElem h2] at *
  have : (l[0]).toNat ≤ 49 := h
  simp; omega
theorem digs_cons {c : UInt8} {l : List UInt8} (hc : 48 ≤ c.toNat ∧ c.toNat ≤ 57) (h : digs l = true) : digs (c :: l) = true := digs_iff.2 fun x hx => by
  rcases List.mem_cons.1 hx with rfl | hx
  · exact hc
  · exact digs_iff.1 h x hx
theorem sym_len {k : Int} {l : List UInt8} (h : full k l = 0) : (sym k l).length = wOf k := by
  obtain ⟨h1, h2, h3, h4, _⟩ := full_ok h
  rcases kinds h1 with rfl | rfl | rfl | rfl
  · exact sym13_len h2 h3
  · exact sym8_len h2 h3
  · exact sym13_len (digs_cons (by decide) h2) (by rw [List.length_cons, h3]; rfl)
  · exact symE_len h2 h3 (dv2 h2 (by rw [h3]; decide) (h4 rfl))
/-- The check digit of a UPC-A text is that of the EAN-13 text with a zero ahead. -/
theorem gsP_zero (l : List UInt8) : (Cd.gsP (48 :: l)).1 = (Cd.gsP l).1 := by
  have : Cd.dg 48 = 0 := by decide
  rw [Cd.gsP, this]; simp
theorem chk_zero (l : List UInt8) : chk (48 :: l) = chk l := by unfold chk; rw [gsP_zero]
theorem full_13 {l : List UInt8} (h : full 3 l = 0) : full 1 (48 :: l) = 0 := by
  obtain ⟨h1, h2, h3, h4, h5⟩ := full_ok h
  refine full_of (by decide) (digs_cons (by decide) h2) (by rw [List.length_cons, h3]; rfl) (fun e => by cases e) ?_
  have e1 : size 1 - 1 = 12 := rfl
  have e3 : size 3 - 1 = 11 := rfl
  rw [e3] at h5
  rw [e1, List.take_succ_cons, List.cons_append]
  congr 1
  conv => lhs; rw [h5]
  congr 2
  unfold chkOf
  simp [chk_zero]
/-- What Decode says of the kind and the text. -/
def outK (k : Int) (l : List UInt8) : Int := if k = 1 ∧ l.getD 0 0 = 48 then 3 else k
def outT (k : Int) (l : List UInt8) : List UInt8 := if k = 1 ∧ l.getD 0 0 = 48 then l.drop 1 else l
theorem take_gd (r : List Bool) : (gd ++ r).take 3 = gd := take_app gd r 3 rfl
theorem rdSym_sym {k : Int} {l : List UInt8} (h : full k l = 0) : rdSym (wOf k) (sym k l) = ((outK k l, outT k l), 0) := by
  obtain ⟨h1, h2, h3, h4, h5⟩ := full_ok h
  have hlen := sym_len h
  have key : ∀ (n : Nat) (s : List Bool) (k' : Int) (l' : List UInt8), full k' l' = 0 → rdK n s = some l' → kindOf n = k' → s.length = n → (∃ q, s = gd ++ q) → (∃ q, s = q ++ stp n) →
      rdSym n s = if n = 95 ∧ l'.getD 0 0 = 48 then ((3, l'.drop 1), 0) else ((k', l'), 0) := by
    intro n s k' l' a1 a2 a3 a4 ⟨q, a5⟩ ⟨q2, a6⟩
    unfold rdSym
    have e1 : s.take 3 = gd := by rw [a5]; exact take_gd q
    have e2 : s.drop (n - (stp n).length) = stp n := by
      conv => lhs; rw [a6]
      refine drop_app _ _ _ ?_
      have := congrArg List.length a6
      rw [List.length_append] at this
      omega
    rw [if_neg (by simp [e1]), if_neg (by simp [e2]), a2]
    dsimp only
    rw [a3, a1, if_neg (by simp)]
  rcases kinds h1 with rfl | rfl | rfl | rfl
  · rw [show wOf 1 = 95 from rfl, key 95 (sym 1 l) 1 l h (rd13_sym h2 h3) rfl hlen ⟨_, by unfold sym; rw [if_neg (by decide), if_pos rfl]; unfold sym13; simp only [List.append_assoc]; rfl⟩ ⟨_, by unfold sym; rw [if_neg (by decide), if_pos rfl]; unfold sym13; rfl⟩]
    unfold outK outT
    by_cases e : l.getD 0 0 = 48
    · simp only [e, and_self, if_true]
    · simp only [e, and_false, if_false]
  · rw [show wOf 2 = 67 from rfl, key 67 (sym 2 l) 2 l h (rd8_sym h2 h3) rfl hlen ⟨_, by show sym8 l = _; unfold sym8; simp only [List.append_assoc]; rfl⟩ ⟨_, by show sym8 l = _; unfold sym8; rfl⟩]
    rfl
  · have hz := full_13 h
    rw [show wOf 3 = 95 from rfl, key 95 (sym 3 l) 1 (48 :: l) hz (rd13_sym (digs_cons (by decide) h2) (by rw [List.length_cons, h3]; rfl)) rfl hlen ⟨_, by show sym13 (48 :: l) = _; unfold sym13; simp only [List.append_assoc]; rfl⟩ ⟨_, by show sym13 (48 :: l) = _; unfold sym13; rfl⟩]
    rfl
  · have hd := dv2 h2 (by rw [h3]; decide) (h4 rfl)
    rw [show wOf 4 = 51 from rfl, key 51 (sym 4 l) 4 l h (rdE_sym h2 h3 hd) rfl hlen ⟨_, by show symE l = _; unfold symE; simp only [List.append_assoc]; rfl⟩ ⟨_, by show symE l = _; unfold symE; rfl⟩]
    rfl
theorem addn_len {a : List UInt8} (h1 : digs a = true) (h2 : a.length = 2 ∨ a.length = 5) : (addn a).length = wAdd a.length := by
  obtain ⟨e1, e2⟩ := setsAdd_ok h2
  unfold addn
  rw [List.length_append, drw_len gA a _ h1 e1 (fun u hu => by have := e2 u hu; omega)]
  rcases h2 with h2 | h2 <;> rw [h2] <;> rfl
theorem drop_plus {α : Type} (a b : List α) (n : Nat) : (a ++ b).drop (a.length + n) = b.drop n := by rw [← List.drop_drop, drop_app a b _ rfl]
/-- Between two digits stands the separator. -/
theorem drw_gap (sep : List Bool) (hs : sep.length = 2) : ∀ (l : List UInt8) (us : List Nat) (i : Nat), digs l = true → us.length = l.length → (∀ u ∈ us, u < 3) → i + 1 < l.length → ((drw sep l us).drop (7 + 9 * i)).take 2 = sep := by
  intro l
  induction l with
  | nil => intro us i _ _ _ h; simp at h
  | cons c l ih =>
    intro us i h1 h2 h3 h4
    cases us with
    | nil => simp at h2
    | cons u us =>
      have hc := digs_iff.1 h1 c (List.mem_cons_self ..)
      have hm := modl_len' (h3 u (List.mem_cons_self ..)) (show c.toNat - 48 < 10 by omega)
      have h0 : l ≠ [] := by intro e; subst e; simp at h4
      rw [drw_cons, if_neg h0]
      cases i with
      | zero => rw [drop_app _ _ _ (by rw [hm]), take_app _ _ 2 hs.symm]
      | succ i =>
        have hi := ih us i (digs_iff.2 fun c hc => digs_iff.1 h1 c (List.mem_cons_of_mem _ hc)) (by simpa using h2) (fun u hu => h3 u (List.mem_cons_of_mem _ hu)) (by simpa using h4)
        rw [← List.append_assoc, show 7 + 9 * (i + 1) = (modl u (c.toNat - 48) ++ sep).length + (7 + 9 * i) by rw [List.length_append, hm, hs]; omega, drop_plus, hi]
theorem rdAdd_addn {a : List UInt8} (h1 : digs a = true) (h2 : a.length = 2 ∨ a.length = 5) : rdAdd a.length (addn a) = (a, 0) := by
  obtain ⟨e1, e2⟩ := setsAdd_ok h2
  have e3 : ∀ u ∈ setsAdd a, u < 3 := fun u hu => by have := e2 u hu; omega
  unfold rdAdd
  have t1 : (addn a).take 4 = sA := take_app sA _ 4 rfl
  have t2 : (addn a).drop 4 = drw gA a (setsAdd a) := drop_app sA _ 4 rfl
  rw [t1, t2, if_neg (by simp), if_neg, ← List.append_nil (drw gA a (setsAdd a)), show (2 : Nat) = gA.length from rfl, rcg_drw true 0 (by omega) gA a _ [] h1 e1 (may_both e2)]
  · simp
  · rw [Bool.not_eq_false, List.all_eq_true]
    intro i hi
    rw [List.mem_range] at hi
    have : (addn a).drop (11 + 9 * i) = (drw gA a (setsAdd a)).drop (7 + 9 * i) := by rw [← t2, List.drop_drop]; congr 1; omega
    rw [this, drw_gap gA rfl a _ i h1 e1 e3 (by omega)]
    simp

theorem head_app {s r : List Bool} (h : s.head? = some true) : (s ++ r).head? = some true := by
  cases s with
  | nil => cases h
  | cons b s => exact h
theorem last_app {s r : List Bool} (h : r.getLast? = some true) : (s ++ r).getLast? = some true := by
  rw [List.getLast?_append, h]; rfl
theorem sym_head (k : Int) (l : List UInt8) : (sym k l).head? = some true := by
  unfold sym sym13 sym8 symE
  repeat' split
  all_goals rfl
theorem sym_last (k : Int) (l : List UInt8) : (sym k l).getLast? = some true := by
  unfold sym sym13 sym8 symE
  repeat' split
  all_goals exact last_app rfl
theorem modl_last : ∀ (t : Fin 2) (d : Fin 10), (modl t d).getLast? = some true := by decide
theorem drw_last (sep : List Bool) : ∀ (l : List UInt8) (us : List Nat), digs l = true → us.length = l.length → (∀ u ∈ us, u < 2) → l ≠ [] → (drw sep l us).getLast? = some true := by
  intro l
  induction l with
  | nil => intro us _ _ _ h; exact absurd rfl h
  | cons c l ih =>
    intro us h1 h2 h3 _
    cases us with
    | nil => simp at h2
    | cons u us =>
      have hc := digs_iff.1 h1 c (List.mem_cons_self ..)
      rw [drw_cons]
      by_cases h0 : l = []
      · rw [if_pos h0, List.append_nil]
        exact modl_last ⟨u, h3 u (List.mem_cons_self ..)⟩ ⟨c.toNat - 48, by omega⟩
      · rw [if_neg h0]
        exact last_app (last_app (ih us (digs_iff.2 fun c hc => digs_iff.1 h1 c (List.mem_cons_of_mem _ hc)) (by simpa using h2) (fun u hu => h3 u (List.mem_cons_of_mem _ hu)) h0))
theorem addn_last {a : List UInt8} (h1 : digs a = true) (h2 : a.length = 2 ∨ a.length = 5) : (addn a).getLast? = some true := by
  obtain ⟨e1, e2⟩ := setsAdd_ok h2
  exact last_app (drw_last gA a _ h1 e1 e2 (fun e => by subst e; simp at h2))

/-- The modules of a symbol with an add-on, from the first to the last dark one. -/
def body (k : Int) (l a : List UInt8) : List Bool := if a.length = 0 then sym k l else sym k l ++ lgt 9 ++ addn a
theorem enc_body {k : Int} {l a : List UInt8} (h : (enc k l a).2 = 0) : full k l = 0 ∧ digs a = true ∧ (a.length = 0 ∨ a.length = 2 ∨ a.length = 5) ∧ (enc k l a).1 = lgt (lq k) ++ body k l a ++ lgt (if a.length = 0 then rq k else 7) := by
  unfold enc at h ⊢
  by_cases h1 : full k l ≠ 0
  · rw [if_pos h1] at h; exact absurd h h1
  · rw [if_neg h1] at h ⊢
    by_cases h2 : digs a = false
    · rw [if_pos h2] at h; cases h
    · rw [if_neg h2] at h ⊢
      by_cases h3 : a.length ≠ 0 ∧ a.length ≠ 2 ∧ a.length ≠ 5
      · rw [if_pos h3] at h; cases h
      · rw [if_neg h3]
        refine ⟨by omega, by simpa using h2, by omega, ?_⟩
        unfold body
        by_cases h4 : a.length = 0
        · simp only [if_pos h4]
        · simp only [if_neg h4, List.append_assoc]
theorem rdShape_body {k : Int} {l a : List UInt8} (h : full k l = 0) (h1 : digs a = true) (h2 : a.length = 0 ∨ a.length = 2 ∨ a.length = 5) : rdShape (body k l a) (wOf k) a.length = ((outK k l, outT k l, a), 0) := by
  have hl := sym_len h
  unfold rdShape
  have e1 : (body k l a).take (wOf k) = sym k l := by
    unfold body
    split
    · rw [← hl, List.take_length]
    · rw [List.append_assoc, take_app _ _ _ hl.symm]
  rw [e1, rdSym_sym h, if_neg (by simp)]
  by_cases h0 : a.length = 0
  · rw [if_pos h0, List.eq_nil_of_length_eq_zero h0]
  · rw [if_neg h0]
    have h3 : a.length = 2 ∨ a.length = 5 := by omega
    have e2 : (body k l a).drop ((body k l a).length - wAdd a.length) = addn a := by
      unfold body
      rw [if_neg h0]
      exact drop_app _ _ _ (by rw [List.length_append (as := sym k l ++ lgt 9), addn_len h1 h3]; omega)
    rw [e2, rdAdd_addn h1 h3, if_neg (by simp)]
theorem fits_body {k : Int} {l a : List UInt8} (h : full k l = 0) (h1 : digs a = true) (h2 : a.length = 0 ∨ a.length = 2 ∨ a.length = 5) : fits (body k l a) (wOf k) a.length = true := by
  have hl := sym_len h
  unfold fits body
  by_cases h0 : a.length = 0
  · rw [if_pos h0, if_pos h0, hl]; simp
  · have h3 : a.length = 2 ∨ a.length = 5 := by omega
    rw [if_neg h0, if_neg h0]
    simp only [List.length_append, hl, lgt_len, addn_len h1 h3]
    rw [List.append_assoc, drop_app _ _ _ hl.symm, take_app _ _ _ (by rw [lgt_len]; omega)]
    simp [lgt]
    omega
theorem body_len {k : Int} {l a : List UInt8} (h : full k l = 0) (h1 : digs a = true) (h2 : a.length = 0 ∨ a.length = 2 ∨ a.length = 5) : (body k l a).length = wOf k + (if a.length = 0 then 0 else 9 + wAdd a.length) := by
  have hl := sym_len h
  unfold body
  by_cases h0 : a.length = 0
  · rw [if_pos h0, if_pos h0, hl]; rfl
  · have h3 : a.length = 2 ∨ a.length = 5 := by omega
    rw [if_neg h0, if_neg h0]
    simp only [List.length_append, hl, lgt_len, addn_len h1 h3]; omega
theorem fits_len {s : List Bool} {n a : Nat} (h : fits s n a = true) : if a = 0 then s.length = n else n + wAdd a + 7 ≤ s.length ∧ s.length ≤ n + wAdd a + 12 := by
  unfold fits at h
  split
  · rename_i h0; rw [if_pos h0] at h; simpa using h
  · rename_i h0; rw [if_neg h0] at h; simp at h; exact ⟨h.1.1, h.1.2⟩
theorem no_fit {s : List Bool} {n a : Nat} (h : ¬ (if a = 0 then s.length = n else n + wAdd a + 7 ≤ s.length ∧ s.length ≤ n + wAdd a + 12)) : fits s n a = false := by
  cases e : fits s n a with
  | false => rfl
  | true => exact absurd (fits_len e) h
/-- An EAN-8 symbol with five more digits is no symbol of 95 modules with two more. -/
theorem no_95 {l a : List UInt8} (h : full 2 l = 0) (h1 : digs a = true) (h2 : a.length = 5) : fits (body 2 l a) 95 2 = false := by
  have hl := sym_len h
  obtain ⟨e1, e2⟩ := setsAdd_ok (a := a) (.inr h2)
  have hg := drw_gap gA rfl a (setsAdd a) 1 h1 e1 (fun u hu => by have := e2 u hu; omega) (by omega)
  have hb := body_len h h1 (.inr (.inr h2))
  rw [h2] at hb
  have hb : (body 2 l a).length = 123 := hb
  cases e : fits (body 2 l a) 95 2 with
  | false => rfl
  | true =>
    unfold fits at e
    rw [if_neg (by decide), hb] at e
    rw [Bool.and_eq_true, List.all_eq_true] at e
    have e3 := e.2
    have hw : wAdd 2 = 20 := rfl
    rw [hw] at e3
    have h97 : (body 2 l a)[97]? = some true := by
      have : (body 2 l a).drop 96 = (drw gA a (setsAdd a)).drop 16 := by
        unfold body addn
        rw [if_neg (by omega), show sym 2 l ++ lgt 9 ++ (sA ++ drw gA a (setsAdd a)) = (sym 2 l ++ lgt 9 ++ sA) ++ drw gA a (setsAdd a) by simp, show 96 = (sym 2 l ++ lgt 9 ++ sA).length + 16 by simp only [List.length_append, hl, lgt_len, sA_len]; rfl, drop_plus]
      have e4 : ((body 2 l a).drop 96).take 2 = gA := by rw [this]; exact hg
      have e5 : (((body 2 l a).drop 96).take 2)[1]? = some true := by rw [e4]; rfl
      rw [List.getElem?_take_of_lt (by omega), List.getElem?_drop] at e5
      exact e5
    have hm : true ∈ ((body 2 l a).drop 95).take (123 - 95 - 20) := by
      refine List.mem_of_getElem? (i := 2) ?_
      rw [List.getElem?_take_of_lt (by omega), List.getElem?_drop]
      exact h97
    have := e3 true hm
    cases this
theorem decF_step {s : List Bool} {e : Int} {n a : Nat} {l : List (Nat × Nat)} (h : fits s n a = false) : decF s e ((n, a) :: l) = decF s e l := by rw [decF, if_pos h]
theorem decF_here {s : List Bool} {e : Int} {n a : Nat} {l : List (Nat × Nat)} {r : Int × List UInt8 × List UInt8} (h : fits s n a = true) (h1 : rdShape s n a = (r, 0)) : decF s e ((n, a) :: l) = (r, 0) := by
  rw [decF, if_neg (by simp [h]), h1]; simp
/-- Decode of the modules of a symbol, whatever light modules lie around. -/
theorem dec_body {k : Int} {l a : List UInt8} (h : full k l = 0) (h1 : digs a = true) (h2 : a.length = 0 ∨ a.length = 2 ∨ a.length = 5) : decF (body k l a) 7 shapes = ((outK k l, outT k l, a), 0) := by
  have hb := body_len h h1 h2
  have hf := fits_body h h1 h2
  have hr := rdShape_body h h1 h2
  have step : ∀ (n b : Nat) (r : List (Nat × Nat)), ¬ (if b = 0 then (body k l a).length = n else n + wAdd b + 7 ≤ (body k l a).length ∧ (body k l a).length ≤ n + wAdd b + 12) → decF (body k l a) 7 ((n, b) :: r) = decF (body k l a) 7 r :=
    fun n b r hh => decF_step (no_fit hh)
  unfold shapes
  rcases kinds (full_ok h).1 with rfl | rfl | rfl | rfl
  · have hw : wOf 1 = 95 := rfl
    rw [hw] at hb hf hr
    rcases h2 with h2 | h2 | h2 <;> rw [h2] at hb hf hr
    · exact decF_here hf hr
    · have hb : (body 1 l a).length = 124 := hb
      rw [step 95 0 _ (by rw [hb]; decide)]
      exact decF_here hf hr
    · have hb : (body 1 l a).length = 151 := hb
      rw [step 95 0 _ (by rw [hb]; decide), step 95 2 _ (by rw [hb]; decide)]
      exact decF_here hf hr
  · have hw : wOf 2 = 67 := rfl
    rw [hw] at hb hf hr
    rcases h2 with h2 | h2 | h2
    · rw [h2] at hb hf hr
      have hb : (body 2 l a).length = 67 := hb
      rw [step 95 0 _ (by rw [hb]; decide), step 95 2 _ (by rw [hb]; decide), step 95 5 _ (by rw [hb]; decide)]
      exact decF_here hf hr
    · rw [h2] at hb hf hr
      have hb : (body 2 l a).length = 96 := hb
      rw [step 95 0 _ (by rw [hb]; decide), step 95 2 _ (by rw [hb]; decide), step 95 5 _ (by rw [hb]; decide), step 67 0 _ (by rw [hb]; decide)]
      exact decF_here hf hr
    · have h95 := no_95 h h1 h2
      rw [h2] at hb hf hr
      have hb : (body 2 l a).length = 123 := hb
      rw [step 95 0 _ (by rw [hb]; decide), decF_step h95, step 95 5 _ (by rw [hb]; decide), step 67 0 _ (by rw [hb]; decide), step 67 2 _ (by rw [hb]; decide)]
      exact decF_here hf hr
  · have hw : wOf 3 = 95 := rfl
    rw [hw] at hb hf hr
    rcases h2 with h2 | h2 | h2 <;> rw [h2] at hb hf hr
    · exact decF_here hf hr
    · have hb : (body 3 l a).length = 124 := hb
      rw [step 95 0 _ (by rw [hb]; decide)]
      exact decF_here hf hr
    · have hb : (body 3 l a).length = 151 := hb
      rw [step 95 0 _ (by rw [hb]; decide), step 95 2 _ (by rw [hb]; decide)]
      exact decF_here hf hr
  · have hw : wOf 4 = 51 := rfl
    rw [hw] at hb hf hr
    rcases h2 with h2 | h2 | h2 <;> rw [h2] at hb hf hr
    · have hb : (body 4 l a).length = 51 := hb
      rw [step 95 0 _ (by rw [hb]; decide), step 95 2 _ (by rw [hb]; decide), step 95 5 _ (by rw [hb]; decide), step 67 0 _ (by rw [hb]; decide), step 67 2 _ (by rw [hb]; decide), step 67 5 _ (by rw [hb]; decide)]
      exact decF_here hf hr
    · have hb : (body 4 l a).length = 80 := hb
      rw [step 95 0 _ (by rw [hb]; decide), step 95 2 _ (by rw [hb]; decide), step 95 5 _ (by rw [hb]; decide), step 67 0 _ (by rw [hb]; decide), step 67 2 _ (by rw [hb]; decide), step 67 5 _ (by rw [hb]; decide), step 51 0 _ (by rw [hb]; decide)]
      exact decF_here hf hr
    · have hb : (body 4 l a).length = 107 := hb
      rw [step 95 0 _ (by rw [hb]; decide), step 95 2 _ (by rw [hb]; decide), step 95 5 _ (by rw [hb]; decide), step 67 0 _ (by rw [hb]; decide), step 67 2 _ (by rw [hb]; decide), step 67 5 _ (by rw [hb]; decide), step 51 0 _ (by rw [hb]; decide), step 51 2 _ (by rw [hb]; decide)]
      exact decF_here hf hr
theorem body_ends {k : Int} {l a : List UInt8} (h1 : digs a = true) (h2 : a.length = 0 ∨ a.length = 2 ∨ a.length = 5) : (body k l a).head? = some true ∧ (body k l a).getLast? = some true := by
  unfold body
  by_cases h0 : a.length = 0
  · rw [if_pos h0]; exact ⟨sym_head k l, sym_last k l⟩
  · rw [if_neg h0]; exact ⟨head_app (head_app (sym_head k l)), last_app (addn_last h1 (by omega))⟩
/-- The round trip. -/
theorem dec_enc {k : Int} {l a : List UInt8} (h : (enc k l a).2 = 0) (L R : Nat) (hL : L ≤ 1000) (hR : R ≤ 1000) : dec (lgt L ++ (enc k l a).1 ++ lgt R) = ((outK k l, outT k l, a), 0) := by
  obtain ⟨h1, h2, h3, h4⟩ := enc_body h
  obtain ⟨e1, e2⟩ := body_ends (k := k) (l := l) h2 h3
  have hb := body_len h1 h2 h3
  have hq : 7 ≤ lq k ∧ lq k ≤ 11 := by unfold lq; split <;> (try split) <;> omega
  have hr : 7 ≤ (if a.length = 0 then rq k else 7) ∧ (if a.length = 0 then rq k else 7) ≤ 9 := by unfold rq; (repeat' split) <;> omega
  rw [h4, show lgt L ++ (lgt (lq k) ++ body k l a ++ lgt (if a.length = 0 then rq k else 7)) ++ lgt R = lgt (L + lq k) ++ body k l a ++ lgt ((if a.length = 0 then rq k else 7) + R) by
    unfold lgt; simp only [List.append_assoc, ← List.replicate_append_replicate]]
  have hw : wOf k ≤ 95 := by unfold wOf; (repeat' split) <;> omega
  have hwa : wAdd a.length ≤ 47 := by unfold wAdd; (repeat' split) <;> omega
  have hbl : (body k l a).length ≤ 200 := by rw [hb]; split <;> omega
  rw [dec_mid _ _ _ (by omega) e1 e2 (by omega)]
  exact dec_body h1 h2 h3
end Go.Proofs.YtfpliihglgjijaaGreat.Ea
