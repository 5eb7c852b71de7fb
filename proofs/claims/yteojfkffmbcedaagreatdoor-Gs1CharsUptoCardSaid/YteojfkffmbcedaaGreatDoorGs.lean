/-
  Chapter 14 in plain words: the table of application identifiers.
  No condition.
-/
import Derived.Test.YteojfkffmbcedaaGreatDoorKit
import Derived.Maps.OwnSet
import Derived.Maps.Views
import Derived.StringKeys
import Derived.Lib.Fields
import Derived.WalkSmall
import Derived.Lib.LaidTab
namespace Go.Proofs.YteojfkffmbcedaaGreatDoor
open Go.RowKit Go.WideMaps Go.Maps

/-- A rule: kind, least and greatest length, suffix. -/
abbrev Gs.Rule := Int × Int × Int × UInt8
def Gs.base : List (List UInt8 × Gs.Rule) := [([48, 48], (1, 18, 18, 0)), ([50, 48], (0, 2, 2, 0)), ([56, 48, 50, 48], (3, 1, 25, 0))]
def Gs.lists : List (List UInt8 × Gs.Rule) := [
  ([48, 49, 32, 48, 50], (1, 14, 14, 0)),
  ([49, 49, 32, 49, 50, 32, 49, 51, 32, 49, 53, 32, 49, 54, 32, 49, 55], (2, 6, 6, 0)),
  ([51, 49, 48, 32, 51, 49, 49, 32, 51, 49, 50, 32, 51, 49, 51, 32, 51, 49, 52, 32, 51, 49, 53, 32, 51, 49, 54], (0, 6, 6, 53)),
  ([51, 50, 48, 32, 51, 50, 49, 32, 51, 50, 50, 32, 51, 50, 51, 32, 51, 50, 52, 32, 51, 50, 53, 32, 51, 50, 54, 32, 51, 50, 55, 32, 51, 50, 56, 32, 51, 50, 57], (0, 6, 6, 53)),
  ([51, 51, 48, 32, 51, 51, 49, 32, 51, 51, 50, 32, 51, 51, 51, 32, 51, 51, 52, 32, 51, 51, 53, 32, 51, 51, 54, 32, 51, 51, 55], (0, 6, 6, 53)),
  ([52, 49, 48, 32, 52, 49, 49, 32, 52, 49, 50, 32, 52, 49, 51, 32, 52, 49, 52, 32, 52, 49, 53, 32, 52, 49, 54, 32, 52, 49, 55], (1, 13, 13, 0)),
  ([51, 48, 32, 51, 55], (0, 1, 8, 0)),
  ([51, 57, 48, 32, 51, 57, 50], (0, 1, 15, 57)),
  ([49, 48, 32, 50, 49, 32, 50, 50, 32, 50, 53, 52], (3, 1, 20, 0)),
  ([50, 52, 48, 32, 50, 52, 49, 32, 50, 53, 48, 32, 50, 53, 49, 32, 52, 48, 48, 32, 52, 48, 49, 32, 52, 48, 51, 32, 57, 48], (3, 1, 30, 0)),
  ([57, 49, 32, 57, 50, 32, 57, 51, 32, 57, 52, 32, 57, 53, 32, 57, 54, 32, 57, 55, 32, 57, 56, 32, 57, 57], (3, 1, 90, 0))]
/-- The entries after n lists and m words of the next one. -/
def Gs.words (p : List UInt8 × Gs.Rule) : List (List UInt8 × Gs.Rule) := (Lib.fields p.1).map fun k => (k, p.2)
def Gs.ents (n : Nat) : List (List UInt8 × Gs.Rule) := Gs.base ++ (Gs.lists.take n).flatMap Gs.words
theorem ents_succ (n : Nat) (p : List UInt8 × Gs.Rule) (h : Gs.lists[n]? = some p) : Gs.ents (n + 1) = Gs.ents n ++ Gs.words p := by
  unfold Gs.ents
  rw [List.take_add_one, h, List.flatMap_append]
  simp
def ruleV (r : Gs.Rule) : Value := .agg #[.int .i64 r.1, .int .i64 r.2.1, .int .i64 r.2.2.1, .int .u8 (r.2.2.2.toNat : Int)]
def ruleD (r : Gs.Rule) : DataW Unit := .agg [.lit (.int .i64 r.1), .lit (.int .i64 r.2.1), .lit (.int .i64 r.2.2.1), .lit (.int .u8 (r.2.2.2.toNat : Int))]
/-- How a rule reads. -/
def ruleR (v : Value) : Option (DataW Unit × List MemPlace) := match v with
  | .agg ⟨[.int .i64 a, .int .i64 b, .int .i64 c, .int .u8 d]⟩ => some (.agg [.lit (.int .i64 a), .lit (.int .i64 b), .lit (.int .i64 c), .lit (.int .u8 d)], [])
  | _ => none
theorem ruleR_mk (r : Gs.Rule) : ruleR (ruleV r) = some (ruleD r, []) := rfl
theorem ruleR_inv {v : Value} {r : Gs.Rule} {ps : List MemPlace} (h : ruleR v = some (ruleD r, ps)) : v = ruleV r := by
  unfold ruleR at h
  split at h
  · unfold ruleD at h
    simp only [Option.some.injEq, Prod.mk.injEq, DataW.agg.injEq, List.cons.injEq, DataW.lit.injEq, Lit.int.injEq, and_true, true_and] at h
    obtain ⟨⟨rfl, rfl, rfl, rfl⟩, _⟩ := h
    rfl
  · simp at h
def Gs.tabOf (l : List (List UInt8 × Gs.Rule)) : DataW Unit := l.foldl (fun m p => m.put (.string p.1) (ruleD p.2)) (.map [])
theorem tabOf_snoc (l : List (List UInt8 × Gs.Rule)) (p : List UInt8 × Gs.Rule) : Gs.tabOf (l ++ [p]) = (Gs.tabOf l).put (.string p.1) (ruleD p.2) := by simp [Gs.tabOf]
theorem tabOf_map (l : List (List UInt8 × Gs.Rule)) : IsMap (Gs.tabOf l) := by
  unfold Gs.tabOf
  have : ∀ (l : List (List UInt8 × Gs.Rule)) (m : DataW Unit), IsMap m → IsMap (l.foldl (fun m p => m.put (.string p.1) (ruleD p.2)) m) := by
    intro l
    induction l with
    | nil => intro m h; exact h
    | cons p l ih => intro m h; exact ih _ (h.put _ _)
  exact this l _ isMap_empty
/-- The rule of a prefix. -/
def Gs.get (l : List (List UInt8 × Gs.Rule)) (k : List UInt8) : Option Gs.Rule := (l.reverse.find? fun p => p.1 == k).map (·.2)
theorem get_snoc (l : List (List UInt8 × Gs.Rule)) (p : List UInt8 × Gs.Rule) (k : List UInt8) : Gs.get (l ++ [p]) k = if p.1 = k then some p.2 else Gs.get l k := by
  unfold Gs.get
  rw [List.reverse_append]
  simp only [List.reverse_cons, List.reverse_nil, List.nil_append, List.singleton_append, List.find?_cons]
  by_cases h : p.1 = k
  · simp [h]
  · have : (p.1 == k) = false := by simpa using h
    simp [h, this]
theorem tab_reads (l : List (List UInt8 × Gs.Rule)) (k : List UInt8) : Maps.has (Gs.tabOf l) (.string k) = (Gs.get l k).isSome ∧ ∀ z r, Gs.get l k = some r → (Gs.tabOf l).atKey (.string k) z = ruleD r := by
  have key : ∀ n (l : List (List UInt8 × Gs.Rule)), l.length = n → Maps.has (Gs.tabOf l) (.string k) = (Gs.get l k).isSome ∧ ∀ z r, Gs.get l k = some r → (Gs.tabOf l).atKey (.string k) z = ruleD r := by
    intro n
    induction n with
    | zero =>
      intro l hl
      obtain rfl := List.eq_nil_of_length_eq_zero hl
      exact ⟨rfl, fun z r h => by simp [Gs.get] at h⟩
    | succ n ih =>
      intro l hl
      obtain ⟨m, p, rfl⟩ : ∃ m p, l = m ++ [p] := ⟨l.dropLast, l.getLast (by intro e; rw [e] at hl; simp at hl), (List.dropLast_concat_getLast _).symm⟩
      have ihm := ih m (by simpa using hl)
      rw [tabOf_snoc, get_snoc]
      by_cases h : p.1 = k
      · rw [if_pos h, ← h]
        refine ⟨by rw [has_put_same (tabOf_map m) (show WideAt.IsKeyLit (.string _) from trivial)]; rfl, fun z r hr => ?_⟩
        simp only [Option.some.injEq] at hr
        rw [← hr]
        exact atKey_put_same (tabOf_map m) (show WideAt.IsKeyLit (.string _) from trivial) _ _
      · rw [if_neg h]
        have hne : (Lit.string k) ≠ .string p.1 := fun e => h (by injection e with e; exact e.symm)
        rw [has_put_other hne]
        exact ⟨ihm.1, fun z r hr => by rw [atKey_put_other hne]; exact ihm.2 z r hr⟩
  exact key l.length l rfl
def Gs.dir : List (List UInt8 × Gs.Rule) := Gs.ents 11
theorem lists_small : ∀ p ∈ Gs.lists, p.1.length ≤ 100 ∧ (∀ b ∈ p.1, b.toNat < 128) ∧ (Lib.fields p.1).length ≤ 10 ∧ ∀ k ∈ Lib.fields p.1, k.length ≤ 10 := by decide +kernel
/-- The table of white space stays. -/
theorem tabIs_ext {w w' : World} {n : String} {q : IntKind} {zs : List Int} (h : Lib.TabIs Tryz.prog w n q zs) (hx : Ext w w') : Lib.TabIs Tryz.prog w' n q zs := by
  unfold Lib.TabIs World.var? at h ⊢
  cases hg : Tryz.prog.globalNamed n with
  | none => rw [hg] at h; simp at h
  | some g =>
    rw [hg] at h
    simp only [Option.bind_some] at h ⊢
    have hlt : g < w.heap.size := by
      rcases Nat.lt_or_ge g w.heap.size with hh | hh
      · exact hh
      · rw [Array.getElem?_eq_none hh] at h; simp at h
    rw [hx.block g hlt]; exact h
end Go.Proofs.YteojfkffmbcedaaGreatDoor
