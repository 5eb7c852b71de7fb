/-
  A slice of ints that came in, as a list.
  No condition.
-/
import Derived.Test.YtciogogpoiijcaaCdW5
import Derived.OpenShut
namespace Go.Proofs.Ytciogogpoiijcaa
open Go.RowKit Go.ChangeShapes Go.WideShapes

theorem ints_of {w : World} {a : Option Addr} {len cap : Nat} {zs : List Int}
    (h : (a = none ∧ len = 0 ∧ cap = 0 ∧ zs = []) ∨ ∃ x, a = some x ∧ len ≤ cap ∧ cap ≤ maxLen ∧ zs.length = cap ∧ (∀ i, i < zs.length → w.cell? (x.add i) = some (.int .i64 (zs.getD i 0))) ∧ ∀ n ∈ zs, (Lit.int .i64 n).wf = true) :
    IntsAt w (.slice a len cap) (zs.take len) := by
  rcases h with ⟨rfl, rfl, rfl, rfl⟩ | ⟨x, rfl, hlc, _, hz, hc, _⟩
  · exact .inl ⟨rfl, none, 0, rfl⟩
  · by_cases h0 : len = 0
    · subst h0
      exact .inl ⟨by simp, some x, cap, rfl⟩
    · obtain ⟨b, off, rfl, hc'⟩ := ints_at hc (by omega)
      have hl : (zs.take len).length = len := by rw [List.length_take]; omega
      refine .inr ⟨b, off, cap, by rw [hl], ?_, fun i hi => ?_⟩
      · have := hc' 0 (by omega)
        rcases Nat.lt_or_ge b w.heap.size with h | h
        · exact h
        · simp [World.cell?, Array.getElem?_eq_none h] at this
      · rw [hl] at hi
        rw [hc' i (by omega)]
        simp only [List.getD_eq_getElem?_getD, List.getElem?_take, hi, if_true]
end Go.Proofs.Ytciogogpoiijcaa
