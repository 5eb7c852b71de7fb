/-
  Chapter 12 in plain words: alphabets.
  No condition.
-/
import Derived.Test.YthjlnpcaclfopaaGreatCd
namespace Go.Proofs.YthjlnpcaclfopaaGreat.Tw

/-- The elements of the character number i. -/
def cutAt (ps : List UInt8) (z i : Nat) : List UInt8 := (ps.drop (i * z)).take z
def pat (cs ps : List UInt8) (z : Nat) (c : UInt8) : List UInt8 × Bool :=
  if Lib.indexByte cs c < 0 then ([], false) else (cutAt ps z (Lib.indexByte cs c).toNat, true)
def chr (cs ps : List UInt8) (z : Nat) (p : List UInt8) : UInt8 × Bool :=
  match (List.range cs.length).find? (fun i => cutAt ps z i == p) with
  | some i => (cs.getD i 0, true)
  | none => (0, false)

theorem chr_at (cs ps : List UInt8) (z : Nat) (p : List UInt8) (j : Nat) (hj : j < cs.length) (h : cutAt ps z j = p) (hb : ∀ i, i < j → cutAt ps z i ≠ p) : chr cs ps z p = (cs.getD j 0, true) := by
  have : (List.range cs.length).find? (fun i => cutAt ps z i == p) = some j := by
    rw [List.find?_eq_some_iff_getElem]
    refine ⟨by simpa using h, j, by simpa using hj, by simp, fun i hi => ?_⟩
    simpa using hb i hi
  unfold chr; rw [this]
theorem chr_none (cs ps : List UInt8) (z : Nat) (p : List UInt8) (hb : ∀ i, i < cs.length → cutAt ps z i ≠ p) : chr cs ps z p = (0, false) := by
  have : (List.range cs.length).find? (fun i => cutAt ps z i == p) = none := by
    rw [List.find?_eq_none]
    intro i hi
    simpa using hb i (by simpa using hi)
  unfold chr; rw [this]

def only (l cs : List UInt8) : Bool := l.all fun c => decide (0 ≤ Lib.indexByte cs c)
/-- Whether a symbol with separated characters can have n elements. -/
def counts (z least most : Nat) (n : Nat) (check : Bool) : Bool :=
  decide ((n + 1) % (z + 1) = 0) && decide (least + 2 + check.toNat ≤ (n + 1) / (z + 1)) && decide ((n + 1) / (z + 1) ≤ most + 2 + check.toNat)
/-- The characters of a text of Code 39. -/
def comp39 (l : List UInt8) (check : Bool) : List UInt8 × Int :=
  if only l Cd.syms = false then ([], 6)
  else if check = false then (42 :: l ++ [42], 0)
  else if (Cd.compI 7 l).2 = 0 then (42 :: l ++ (Cd.compI 7 l).1 ++ [42], 0) else ([], (Cd.compI 7 l).2)
def text39 (l : List UInt8) (check : Bool) : List UInt8 := (l.drop 1).take (l.length - 2 - check.toNat)
end Go.Proofs.YthjlnpcaclfopaaGreat.Tw
