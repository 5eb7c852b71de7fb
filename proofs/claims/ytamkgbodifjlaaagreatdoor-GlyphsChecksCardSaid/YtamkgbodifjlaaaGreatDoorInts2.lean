/-
  A slice of ints that came in, as a slice that reads as a list.
  No condition.
-/
import Derived.Test.YtamkgbodifjlaaaGreatDoorSl
import Derived.OpenShut
namespace Go.Proofs.YtamkgbodifjlaaaGreatDoor
open Go.RowKit Go.ChangeShapes Go.WideShapes

theorem ints_sl {w : World} {a : Option Addr} {len cap : Nat} {zs : List Int}
    (h : (a = none ∧ len = 0 ∧ cap = 0 ∧ zs = []) ∨ ∃ x, a = some x ∧ len ≤ cap ∧ cap ≤ maxLen ∧ zs.length = cap ∧ (∀ i, i < zs.length → w.cell? (x.add i) = some (.int .i64 (zs.getD i 0))) ∧ ∀ n ∈ zs, (Lit.int .i64 n).wf = true) :
    Sl w (.slice a len cap) ((zs.take len).map encI) := by
  rcases h with ⟨rfl, rfl, rfl, rfl⟩ | ⟨x, rfl, hlc, hcm, hz, hc, hwf⟩
  · exact .inl ⟨rfl, none, 0, rfl⟩
  · by_cases h0 : len = 0
    · subst h0
      exact .inl ⟨by simp, some x, cap, rfl⟩
    · have hl : ((zs.take len).map encI).length = len := by rw [List.length_map, List.length_take]; omega
      obtain ⟨b, off, path⟩ := x
      have hp : path = none := by
        have := hc 0 (by omega)
        cases path with
        | none => rfl
        | some q => exact absurd this (by unfold Addr.add World.cell?; split <;> simp)
      subst hp
      refine .inr ⟨b, off, cap, by rw [hl], ?_, fun i hi => ?_⟩
      · have := hc 0 (by omega)
        rw [add_off] at this
        rcases Nat.lt_or_ge b w.heap.size with h | h
        · exact h
        · simp [World.cell?, Array.getElem?_eq_none h] at this
      · rw [hl] at hi
        have := hc i (by omega)
        rw [add_off] at this
        rw [this, List.getElem?_map, List.getElem?_take, if_pos hi, List.getD_eq_getElem?_getD, List.getElem?_eq_getElem (show i < zs.length by omega)]
        rfl
end Go.Proofs.YtamkgbodifjlaaaGreatDoor
