/-
  Slices of structs (k cells each): a call's own ones, appended to, written into, read as lists.
  No condition.
-/
import Derived.Test.YtkpfehfcgpapiaaGreatDoorSl2
namespace Go.Proofs.YtkpfehfcgpapiaaGreatDoor
open Go.RowKit

section
variable {α : Type} {enc : α → List Value} {k : Nat}
def cellsK (enc : α → List Value) (xs : List α) : List Value := xs.flatMap enc
theorem cellsK_len (hk : ∀ x, (enc x).length = k) (xs : List α) : (cellsK enc xs).length = xs.length * k := by
  induction xs with
  | nil => simp [cellsK]
  | cons x xs ih =>
    have : cellsK enc (x :: xs) = enc x ++ cellsK enc xs := rfl
    rw [this, List.length_append, ih, hk, List.length_cons, Nat.add_mul, Nat.one_mul, Nat.add_comm]
theorem cellsK_app (xs ys : List α) : cellsK enc (xs ++ ys) = cellsK enc xs ++ cellsK enc ys := by simp [cellsK]
theorem cellsK_at (hk : ∀ x, (enc x).length = k) (xs : List α) : ∀ (i : Nat) (x : α), xs[i]? = some x → ∀ c, c < k → (cellsK enc xs)[i * k + c]? = (enc x)[c]? := by
  induction xs with
  | nil => intro i x h; simp at h
  | cons y ys ih =>
    intro i x h c hc
    have e : cellsK enc (y :: ys) = enc y ++ cellsK enc ys := rfl
    cases i with
    | zero =>
      simp only [List.getElem?_cons_zero, Option.some.injEq] at h
      subst h
      rw [e, Nat.zero_mul, Nat.zero_add, List.getElem?_append_left (by rw [hk]; exact hc)]
    | succ i =>
      rw [List.getElem?_cons_succ] at h
      have h2 : (i + 1) * k + c = (enc y).length + (i * k + c) := by rw [hk, Nat.add_mul, Nat.one_mul]; omega
      rw [e, h2, List.getElem?_append_right (Nat.le_add_right _ _), Nat.add_sub_cancel_left]
      exact ih i x h c hc
theorem cellsK_one (h1 : ∀ x, ∀ u ∈ enc x, u.oneCell' = true) (xs : List α) : ∀ u ∈ cellsK enc xs, u.oneCell' = true := by
  intro u hu
  obtain ⟨x, _, h⟩ := List.mem_flatMap.1 hu
  exact h1 x u h

/-- v is a slice of the call's own that holds the elements xs. -/
def KOwn (T : TypeId) (k : Nat) (enc : α → List Value) (w : World) (B : Nat) (v : Value) (xs : List α) : Prop := w.ownsRow B T k v xs.length (cellsK enc xs)
variable {T : TypeId} {w w' : World} {B : Nat} {v : Value} {xs : List α}
theorem KOwn.nil (T : TypeId) (k : Nat) (enc : α → List Value) (w : World) (B : Nat) : KOwn T k enc w B (.slice none 0 0) [] := World.ownsRow_nil _ _ _ _
theorem KOwn.ext (h : KOwn T k enc w B v xs) (hx : Ext w w') : KOwn T k enc w' B v xs := by
  refine World.ownsRow.kept h hx.asGrown ?_
  cases hv : v.ownBlock with
  | none => exact .inl rfl
  | some k => exact .inr (by simp)
theorem KOwn.low (h : KOwn T k enc w B v xs) : ∀ b, v.ownBlock = some b → B ≤ b := fun b hb => (World.ownsRow.lt h b hb).1
theorem KOwn.mono {B' : Nat} (h : KOwn T k enc w B v xs) (hB : B' ≤ B) : KOwn T k enc w B' v xs := by
  obtain ⟨h1, h2⟩ := h
  refine ⟨h1, ?_⟩
  rcases h2 with h2 | ⟨g, cap, cur, h3, h4, h5⟩
  · exact .inl h2
  · exact .inr ⟨g, cap, cur, h3, Nat.le_trans hB h4, h5⟩
theorem KOwn.kept {row : Option Nat} (h : KOwn T k enc w B v xs) (hg : w.grownBy w' row) (hne : v.ownBlock = none ∨ v.ownBlock ≠ row) : KOwn T k enc w' B v xs := World.ownsRow.kept h hg hne
theorem KOwn.congr {ys : List α} (h : KOwn T k enc w B v xs) (e : xs = ys) : KOwn T k enc w B v ys := e ▸ h

/-- A slice that reads as a list of elements. -/
def KSl (k : Nat) (enc : α → List Value) (w : World) (v : Value) (xs : List α) : Prop :=
  (xs = [] ∧ ∃ a c, v = .slice a 0 c) ∨ ∃ b off cap, v = .slice (some ⟨b, off, none⟩) xs.length cap ∧ b < w.heap.size ∧ ∀ i x, xs[i]? = some x → ∀ c, c < k → w.cell? ⟨b, off + i * k + c, none⟩ = (enc x)[c]?
theorem KSl.ext (h : KSl k enc w v xs) (hx : Ext w w') : KSl k enc w' v xs := by
  rcases h with h | ⟨b, off, cap, h1, h2, h3⟩
  · exact .inl h
  · exact .inr ⟨b, off, cap, h1, Nat.lt_of_lt_of_le h2 hx.size, fun i x hi c hc => by rw [hx.cell (p := ⟨b, off + i * k + c, none⟩) h2]; exact h3 i x hi c hc⟩
theorem KSl.congr {ys : List α} (h : KSl k enc w v xs) (e : xs = ys) : KSl k enc w v ys := e ▸ h
theorem KSl.nil (k : Nat) (enc : α → List Value) (w : World) : KSl k enc w (.slice none 0 0) [] := .inl ⟨rfl, none, 0, rfl⟩
theorem KOwn.form (h : KOwn T k enc w B v xs) : (xs = [] ∧ v = .slice none 0 0) ∨ ∃ g cap, v = .slice (some ⟨g, 0, none⟩) xs.length cap ∧ B ≤ g ∧ g < w.heap.size := by
  rcases h.2 with ⟨hnil, h0⟩ | ⟨g, cap, cur, hv, hbase, hb, _⟩
  · exact .inl ⟨List.eq_nil_of_length_eq_zero h0, hnil⟩
  · exact .inr ⟨g, cap, hv, hbase, (Array.getElem?_eq_some_iff.1 hb).1⟩
theorem KOwn.sl (hk : ∀ x, (enc x).length = k) (h : KOwn T k enc w B v xs) : KSl k enc w v xs := by
  rcases h.form with ⟨h0, h1⟩ | ⟨g, cap, hv, _, hg⟩
  · exact .inl ⟨h0, _, _, h1⟩
  · refine .inr ⟨g, 0, cap, hv, hg, fun i x hi c hc => ?_⟩
    have hh := h
    unfold KOwn at hh
    rw [hv] at hh
    have hil : i < xs.length := by
      rcases Nat.lt_or_ge i xs.length with h | h
      · exact h
      · rw [List.getElem?_eq_none h] at hi; simp at hi
    have hle : (i + 1) * k ≤ xs.length * k := Nat.mul_le_mul_right k hil
    rw [Nat.zero_add, hh.cellAt (i * k + c) (by rw [Nat.add_mul, Nat.one_mul] at hle; omega)]
    exact cellsK_at hk xs i x hi c hc
theorem KSl.form (h : KSl k enc w v xs) : ∃ a c, v = .slice a xs.length c := by
  rcases h with ⟨rfl, a, c, rfl⟩ | ⟨b, off, cap, rfl, _⟩
  · exact ⟨a, c, rfl⟩
  · exact ⟨_, _, rfl⟩
theorem KSl.at_ {a : Option Addr} {n cp : Nat} (h : KSl k enc w (.slice a n cp) xs) {i : Nat} {x : α} (hi : xs[i]? = some x) :
    ∃ b off, a = some ⟨b, off, none⟩ ∧ b < w.heap.size ∧ ∀ c, c < k → w.cell? ⟨b, off + i * k + c, none⟩ = (enc x)[c]? := by
  rcases h with ⟨rfl, _⟩ | ⟨b, off, cap, he, hb, hc⟩
  · simp at hi
  · injection he with h1 h2 h3
    exact ⟨b, off, h1, hb, hc i x hi⟩
/-- A slice that is not empty: where it lies. -/
theorem KSl.some_ (h : KSl k enc w v xs) (h0 : 0 < xs.length) :
    ∃ b off cap, v = .slice (some ⟨b, off, none⟩) xs.length cap ∧ b < w.heap.size ∧ ∀ i x, xs[i]? = some x → ∀ c, c < k → w.cell? ⟨b, off + i * k + c, none⟩ = (enc x)[c]? := by
  rcases h with ⟨rfl, _⟩ | h
  · simp at h0
  · exact h
/-- A slice cut at its front. -/
theorem KSl.drop {b off n cap : Nat} (h : KSl k enc w (.slice (some ⟨b, off, none⟩) n cap) xs) (j : Nat) (cap' : Nat) (hk : 0 < xs.length) : KSl k enc w (.slice (some ⟨b, off + j * k, none⟩) (xs.length - j) cap') (xs.drop j) := by
  obtain ⟨b', off', cap2, he, hb, hc⟩ := h.some_ hk
  injection he with h1 h2 h3
  injection h1 with h1
  injection h1 with h1 h4
  subst h1 h4
  refine .inr ⟨b, off + j * k, cap', by rw [List.length_drop], hb, fun i x hi c hcc => ?_⟩
  rw [List.getElem?_drop] at hi
  have := hc (j + i) x hi c hcc
  rw [← this]
  congr 2
  rw [Nat.add_mul]; omega
theorem KSl.take {b off n cap : Nat} (h : KSl k enc w (.slice (some ⟨b, off, none⟩) n cap) xs) (j : Nat) (hj : j ≤ xs.length) (cap' : Nat) (hk : 0 < xs.length) : KSl k enc w (.slice (some ⟨b, off, none⟩) j cap') (xs.take j) := by
  obtain ⟨b', off', cap2, he, hb, hc⟩ := h.some_ hk
  injection he with h1 h2 h3
  injection h1 with h1
  injection h1 with h1 h4
  subst h1 h4
  refine .inr ⟨b, off, cap', by rw [List.length_take, Nat.min_eq_left hj], hb, fun i x hi c hcc => ?_⟩
  have hi' : xs[i]? = some x := by
    rw [List.getElem?_take] at hi
    split at hi
    · exact hi
    · simp at hi
  exact hc i x hi' c hcc

theorem append_k {w : World} {ops : Array Oper} {rest : List Oper} {o : Oper} {a : Act} {Q : Exit → Act → World → Prop} (hgd : o.guard = none) (s x : Operand) (ST T : TypeId) (z : Value) (bytes : Nat)
    (ho : o.op = .call { callee := .builtin .append, args := #[s, x], argTypes := #[ST, ST] })
    (hT : Tryz.prog.underlying ST = some (.slice T)) (hi : (Tryz.prog.info? T).map (fun i => (i.zero, i.size, i.bytes)) = some (some z, k, bytes)) (hz : z.cells.size = k) (hk0 : 0 < k) (hby : bytes ≤ 1000)
    (hk : ∀ x, (enc x).length = k) (h1 : ∀ x, ∀ u ∈ enc x, u.oneCell' = true)
    (B : Nat) (v : Value) (xs : List α) (hs : a.eval s = v) (hown : KOwn T k enc w B v xs) (b : Nat) (u : α) (hx : a.eval x = .slice (some ⟨b, 0, none⟩) 1 1)
    (hc : ∀ c r, (enc u)[c]? = some r → w.cell? ⟨b, c, none⟩ = some r) (hn : xs.length ≤ 999999999) (hB : B ≤ w.heap.size)
    (h : ∀ v' w', KOwn T k enc w' B v' (xs ++ [u]) → w.grownBy w' v.ownBlock → wpList Tryz.prog ops Q rest (a.put o.dst v') w') : wpList Tryz.prog ops Q (o :: rest) a w := by
  obtain ⟨i0, hi, hz0, hz1, hz2⟩ := info_parts hi
  refine wpList_append_own _ hgd s x ST ho B T i0 z k bytes hT hi hz0 hz1 hz2 hz hk0 v xs.length (cellsK enc xs) hs hown ⟨b, 0, none⟩ 1 1 (enc u) hx (by rw [hk, Nat.one_mul]) ?_ (h1 u) ?_ ?_ hB ?_
  · intro j r hj; rw [add_at]; exact hc j r hj
  · unfold maxLen; omega
  · exact Nat.le_trans (Nat.mul_le_mul (show xs.length + 1 ≤ 1000000000 by omega) hby) (by decide)
  · intro v' w' h1 h2 _
    refine h v' w' ?_ h2
    unfold KOwn
    rw [List.length_append, cellsK_app]
    simpa [cellsK] using h1
theorem run_append_ks {w : World} (ST T ty : TypeId) (z : Value) (bytes : Nat)
    (hT : Tryz.prog.underlying ST = some (.slice T)) (hi : (Tryz.prog.info? T).map (fun i => (i.zero, i.size, i.bytes)) = some (some z, k, bytes)) (hz : z.cells.size = k) (hk0 : 0 < k) (hby : bytes ≤ 1000)
    (hk : ∀ x, (enc x).length = k) (h1 : ∀ x, ∀ u ∈ enc x, u.oneCell' = true)
    (B : Nat) (v : Value) (xs ys : List α) (hown : KOwn T k enc w B v xs) (g off c : Nat) (hy : KSl k enc w (.slice (some ⟨g, off, none⟩) ys.length c) ys) (hn : xs.length + ys.length ≤ 1000000000) (hB : B ≤ w.heap.size) :
    ∃ v' w', (Builtin.append_ #[ST, ST] ty #[v, .slice (some ⟨g, off, none⟩) ys.length c]).run Tryz.prog w = .ok v' w' ∧ KOwn T k enc w' B v' (xs ++ ys) ∧ w.grownBy w' v.ownBlock := by
  obtain ⟨i0, hi, hz0, hz1, hz2⟩ := info_parts hi
  have hcells : ∀ j y, (cellsK enc ys)[j]? = some y → w.cell? ((⟨g, off, none⟩ : Addr).add j) = some y := fun j y hj => by
    have hjl : j < (cellsK enc ys).length := (List.getElem?_eq_some_iff.1 hj).1
    rw [cellsK_len hk] at hjl
    have hq : j / k < ys.length := (Nat.div_lt_iff_lt_mul hk0).2 hjl
    have hr : j % k < k := Nat.mod_lt _ hk0
    have hx : ys[j / k]? = some ys[j / k] := List.getElem?_eq_getElem hq
    obtain ⟨b', o', he, _, hc⟩ := hy.at_ hx
    simp only [Option.some.injEq, Addr.mk.injEq, and_true] at he
    obtain ⟨rfl, rfl⟩ := he
    have hjd : j / k * k + j % k = j := by rw [Nat.mul_comm]; exact Nat.div_add_mod j k
    have h2 := hc (j % k) hr
    have h3 := cellsK_at hk ys (j / k) _ hx (j % k) hr
    rw [hjd] at h3
    rw [Nat.add_assoc, hjd] at h2
    rw [add_off, ← hj, h2]
    exact h3.symm
  obtain ⟨v', w', h2, h3, h4, _⟩ := run_append_own (P := Tryz.prog) w B ST ty T i0 z k bytes hT hi hz0 hz1 hz2 hz hk0 v xs.length (cellsK enc xs) hown ⟨g, off, none⟩ ys.length c (cellsK enc ys) (cellsK_len hk ys) hcells (cellsK_one h1 ys) (by unfold maxLen; omega) (Nat.le_trans (Nat.mul_le_mul hn hby) (by decide)) hB
  refine ⟨v', w', h2, ?_, h4⟩
  unfold KOwn
  rw [List.length_append, cellsK_app]; exact h3

/-- A cell of an element of the call's own is written. -/
theorem KOwn.stored {g n cap : Nat} {xs : List α} (hk : ∀ x, (enc x).length = k) (h : KOwn T k enc w B (.slice (some ⟨g, 0, none⟩) n cap) xs) {i c : Nat} {x y : α} (hi : xs[i]? = some x) (hc : c < k) (u : Value) (hy : enc y = (enc x).set c u) :
    KOwn T k enc (w.setCell ⟨g, i * k + c, none⟩ u) B (.slice (some ⟨g, 0, none⟩) n cap) (xs.set i y) ∧ w.grownBy (w.setCell ⟨g, i * k + c, none⟩ u) (some g) := by
  have hn : xs.length = n := by
    rcases h.form with ⟨_, h1⟩ | ⟨g', c', h1, _⟩
    · simp at h1
    · injection h1 with _ h2; exact h2.symm
  have hh := h
  unfold KOwn at hh
  subst hn
  obtain ⟨h1, h2⟩ := hh.stored (i * k + c) u
  refine ⟨?_, h2⟩
  unfold KOwn
  rw [List.length_set]
  have e : cellsK enc (xs.set i y) = (cellsK enc xs).set (i * k + c) u := by
    have hil : i < xs.length := (List.getElem?_eq_some_iff.1 hi).1
    clear h1 h2 hh h
    induction xs generalizing i with
    | nil => simp at hi
    | cons z zs ih =>
      have ez : ∀ l, cellsK enc (z :: l) = enc z ++ cellsK enc l := fun _ => rfl
      cases i with
      | zero =>
        simp only [List.getElem?_cons_zero, Option.some.injEq] at hi
        subst hi
        show cellsK enc (y :: zs) = _
        rw [ez, Nat.zero_mul, Nat.zero_add, List.set_append_left _ _ (by rw [hk]; exact hc), ← hy]
        rfl
      | succ i =>
        rw [List.getElem?_cons_succ] at hi
        have e2 : (i + 1) * k + c = (enc z).length + (i * k + c) := by rw [hk, Nat.add_mul, Nat.one_mul]; omega
        show cellsK enc (z :: zs.set i y) = _
        rw [ez, ez, e2, List.set_append_right _ _ (Nat.le_add_right _ _), Nat.add_sub_cancel_left, ih hi (by simpa using hil)]
  rw [e]; exact h1
end
end Go.Proofs.YtkpfehfcgpapiaaGreatDoor
