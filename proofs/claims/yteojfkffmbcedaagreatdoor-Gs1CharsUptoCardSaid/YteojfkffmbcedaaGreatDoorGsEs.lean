/-
  Chapter 14: elements that came in, and what the bound on the bulk gives.
  No condition.
-/
import Derived.Test.YteojfkffmbcedaaGreatDoorGsSp
namespace Go.Proofs.YteojfkffmbcedaaGreatDoor
set_option linter.unusedVariables false
open Go.RowKit Go.ChangeShapes Go.WideShapes Go.Deep Go.Joins

theorem bulk_one {H : Type} (d : DataW H) : 1 ≤ Rows.uptoBulk d := by
  cases d with
  | lit l => cases l <;> simp [Rows.uptoBulk]
  | nil => simp [Rows.uptoBulk]
  | ptr d => simp [Rows.uptoBulk]
  | slice elems spare => simp [Rows.uptoBulk]
  | agg parts => simp [Rows.uptoBulk]
  | iface t d => simp [Rows.uptoBulk]
  | map entries => simp [Rows.uptoBulk]
  | held h => simp [Rows.uptoBulk]
theorem bulk_len {H : Type} (l : List (DataW H)) : l.length ≤ Rows.uptoBulkAll l := by
  induction l with
  | nil => simp [Rows.uptoBulkAll]
  | cons x r ih => have := bulk_one x; simp only [Rows.uptoBulkAll, List.length_cons]; omega
theorem bulk_mem {H : Type} {d : DataW H} {l : List (DataW H)} (h : d ∈ l) : Rows.uptoBulk d ≤ Rows.uptoBulkAll l := by
  induction l with
  | nil => cases h
  | cons x r ih =>
    simp only [Rows.uptoBulkAll]
    cases List.mem_cons.1 h with
    | inl e => subst e; omega
    | inr e => have := ih e; omega
theorem bulk_bound {H : Type} {l : List (DataW H)} (hk : Rows.uptoSmall H l = true) : Rows.uptoBulkAll l ≤ 1048576 := of_decide_eq_true hk
section
variable {H : Type} {enc : TypeId × Value → H} {w : World} {base b0 : Nat} {spare : Nat → Bool} {held : Bool} {r : Reach}
set_option maxRecDepth 100000 in
theorem open_el {v : Value} {d : DataW H} {p : List MemPlace} (hv : Value.okWide Tryz.prog w r b0 35 v) (h : DataW.Trod enc Tryz.prog w base spare held 35 v d p) :
    ∃ a x : ByteArray, v = .agg #[.string a, .string x] ∧ a.size ≤ maxLen ∧ x.size ≤ maxLen := by
  obtain ⟨v0, v1, y0, y1, n, rfl, rfl, rfl, h0, h1⟩ := open_agg2 Tryz.underlying35 (by kernel_rfl) (by kernel_rfl) hv h
  obtain ⟨s0, e0, _, z0⟩ := DataW.trod_string Tryz.underlying9 h0
  obtain ⟨s1, e1, _, z1⟩ := DataW.trod_string Tryz.underlying9 h1
  simp only [List.cons.injEq, and_true] at e0 e1
  subst e0 e1
  exact ⟨s0, s1, rfl, z0, z1⟩
theorem spot_none {b off : Nat} {q : Option _} {v : Value} (h : w.cell? ((⟨b, off, q⟩ : Addr).add 0) = some v) : q = none := by
  cases q with
  | none => rfl
  | some q => exact absurd h (by unfold Addr.add World.cell?; split <;> simp)
theorem open_els_gen {P : Program} {t e : TypeId} {f0 f1 : Field} {a : Option Addr} {len cap : Nat} {d : DataW H} {p : List MemPlace} (ht : P.underlying t = some (.slice e)) (hs : P.underlying e = some (.struct #[f0, f1]))
    (hone : oneCellFields P #[f0, f1] = true) (hC : P.cellsOf e = 2) (h0 : P.underlying f0.type = some .string) (h1 : P.underlying f1.type = some .string) (h : DataW.Trod enc P w base (fun _ => true) held t (.slice a len cap) d p) :
    ∃ xs : List Gs.El, ESl w (.slice a len cap) xs ∧ (∀ x ∈ xs, x.1.length ≤ maxLen ∧ x.2.length ≤ maxLen) ∧ xs.length ≤ Rows.uptoBulk d := by
  obtain ⟨fuel, hf⟩ := h
  rcases open_slice ht hf with ⟨hcs, _⟩ | ⟨x, l, c, m, n, D, Pl, hcs, _, hlc, hcm, hm, hx, hi⟩
  · simp [Value.cells] at hcs
    obtain ⟨rfl, rfl, rfl⟩ := hcs
    exact ⟨[], .inl ⟨rfl, _, _, rfl⟩, fun x hx => by simp at hx, Nat.zero_le _⟩
  · simp [Value.cells] at hcs
    obtain ⟨rfl, rfl, rfl⟩ := hcs
    simp only [if_true] at hm
    subst hm
    rw [hC] at hi hx
    have key : ∀ k, k ≤ len → ∃ xs : List Gs.El, xs.length = k ∧ (∀ y ∈ xs, y.1.length ≤ maxLen ∧ y.2.length ≤ maxLen) ∧ ∀ i y, xs[i]? = some y → w.cell? (x.add (i * 2)) = some (encS y.1) ∧ w.cell? (x.add (i * 2 + 1)) = some (encS y.2) := by
      intro k
      induction k with
      | zero => intro _; exact ⟨[], rfl, fun y hy => by simp at hy, fun i y h => by simp at h⟩
      | succ k ih =>
        intro hk
        obtain ⟨xs, h1', h2', h3'⟩ := ih (by omega)
        obtain ⟨cs', hc, htr⟩ := hi k (by omega)
        obtain ⟨_, hcl, hat⟩ := World.cells?_some hc
        match cs', hcl with
        | [c0, c1], _ =>
          obtain ⟨y0, y1, n', hxx, _, t0, t1⟩ := trod_struct2 hs htr
          obtain ⟨o0, k0⟩ := hone_of hone 0 f0 rfl
          obtain ⟨o1, k1⟩ := hone_of hone 1 f1 rfl
          have t0' : DataW.trod enc P w base (fun _ => true) held n' f0.type [c0] = some y0 := by simpa [o0, k0] using t0
          have t1' : DataW.trod enc P w base (fun _ => true) held n' f1.type [c1] = some y1 := by simpa [o1, k1] using t1
          obtain ⟨s0, e0, _, z0⟩ := DataW.trod_string h0 t0'
          obtain ⟨s1, e1, _, z1⟩ := DataW.trod_string h1 t1'
          simp only [List.cons.injEq, and_true] at e0 e1
          subst e0 e1
          have q0 := hat 0 (by omega)
          have q1 := hat 1 (by omega)
          rw [Go.Deep.add_add] at q0 q1
          refine ⟨xs ++ [(s0.data.toList, s1.data.toList)], by simp [h1'], fun y hy => ?_, fun i y hy => ?_⟩
          · rcases List.mem_append.1 hy with hy | hy
            · exact h2' y hy
            · simp only [List.mem_singleton] at hy
              subst hy
              exact ⟨by rw [len_data]; exact z0, by rw [len_data]; exact z1⟩
          · by_cases hik : i < k
            · rw [List.getElem?_append_left (by omega)] at hy
              exact h3' i y hy
            · have hil : i = k := by
                have := (List.getElem?_eq_some_iff.1 hy).1
                rw [List.length_append] at this
                simp at this
                omega
              subst hil
              rw [List.getElem?_append_right (by omega), h1'] at hy
              simp only [Nat.sub_self, List.getElem?_cons_zero, Option.some.injEq] at hy
              subst hy
              rw [encS_of, encS_of]
              exact ⟨by simpa using q0, by simpa using q1⟩
    obtain ⟨xs, h1', h2', h3'⟩ := key len (Nat.le_refl _)
    refine ⟨xs, ?_, h2', ?_⟩
    · by_cases hl0 : len = 0
      · subst hl0
        exact .inl ⟨List.eq_nil_of_length_eq_zero h1', _, _, rfl⟩
      · obtain ⟨b, off, q⟩ := x
        obtain ⟨y, hy⟩ : ∃ y, xs[0]? = some y := ⟨_, List.getElem?_eq_getElem (by omega)⟩
        have hq := spot_none (by simpa using (h3' 0 y hy).1)
        subst hq
        refine .inr ⟨b, off, _, by rw [h1'], ?_, fun i z hz => ?_⟩
        · have := (h3' 0 y hy).1
          rw [add_off] at this
          rcases Nat.lt_or_ge b w.heap.size with h | h
          · exact h
          · simp [World.cell?, Array.getElem?_eq_none h] at this
        · have := h3' i z hz
          rw [add_off, add_off] at this
          exact this
    · have hd := congrArg Prod.fst hx
      dsimp only at hd
      rw [hd, h1']
      have := bulk_len ((List.range len).map D)
      simp only [List.length_map, List.length_range] at this
      simp only [Rows.uptoBulk]
      omega
set_option maxRecDepth 100000 in
theorem open_els {v : Value} {d : DataW H} {p : List MemPlace} (hv : Value.okWide Tryz.prog w r b0 22 v) (h : DataW.Trod enc Tryz.prog w base (fun _ => true) held 22 v d p) :
    ∃ (u : Value) (xs : List Gs.El), v = u ∧ ESl w u xs ∧ (∀ x ∈ xs, x.1.length ≤ maxLen ∧ x.2.length ≤ maxLen) ∧ xs.length ≤ Rows.uptoBulk d := by
  obtain ⟨a, len, cap, rfl⟩ := okWide_slice Tryz.underlying22 hv
  obtain ⟨xs, h1, h2, h3⟩ := open_els_gen Tryz.underlying22 Tryz.underlying35 (by kernel_rfl) (by kernel_rfl) Tryz.underlying9 Tryz.underlying9 h
  exact ⟨_, xs, rfl, h1, h2, h3⟩
end
end Go.Proofs.YteojfkffmbcedaaGreatDoor
