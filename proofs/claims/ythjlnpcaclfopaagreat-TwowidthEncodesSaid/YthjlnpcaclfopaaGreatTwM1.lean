/-
  Chapter 12, plain laws: widths that are clearly narrow or wide are read as such; what is drawn is read.
  No condition.
-/
import Derived.Test.YthjlnpcaclfopaaGreatRuns
namespace Go.Proofs.YthjlnpcaclfopaaGreat
open Go.RowKit

theorem lw_ge (ws : List Int) (C : Int) : ∀ (l : List Int) (a : Int), C ≤ a → (∀ x ∈ l, Tw.isWide ws x = true → C ≤ x) → C ≤ l.foldl (fun a x => if Tw.isWide ws x then min a x else a) a
  | [], a, ha, _ => ha
  | y :: l, a, ha, h => by
    simp only [List.foldl_cons]
    refine lw_ge ws C l _ ?_ (fun x hx => h x (List.mem_cons_of_mem _ hx))
    have := h y (List.mem_cons_self ..)
    by_cases hy : Tw.isWide ws y = true
    · rw [if_pos hy]; have := this hy; omega
    · rw [if_neg hy]; exact ha
theorem mn_le (ws : List Int) (B : Int) : ∀ (l : List Int) (a : Int), a ≤ B → (∀ x ∈ l, Tw.isWide ws x = false → x ≤ B) → l.foldl (fun a x => if Tw.isWide ws x then a else max a x) a ≤ B
  | [], a, ha, _ => ha
  | y :: l, a, ha, h => by
    simp only [List.foldl_cons]
    refine mn_le ws B l _ ?_ (fun x hx => h x (List.mem_cons_of_mem _ hx))
    have := h y (List.mem_cons_self ..)
    by_cases hy : Tw.isWide ws y = true
    · rw [if_pos hy]; exact ha
    · rw [if_neg hy]; have := this (by simpa using hy); omega

theorem wide_of (ws : List Int) (bs : List Bool) (A B C D : Int) (hlen : ws.length = bs.length) (h : ∀ i (hi : i < ws.length) (hb : i < bs.length), (bs[i] = false → A ≤ ws[i] ∧ ws[i] ≤ B) ∧ (bs[i] = true → C ≤ ws[i] ∧ ws[i] ≤ D))
    (hn : false ∈ bs) (hw : true ∈ bs) (h1 : 1 ≤ A) (h2 : D ≤ 65536) (h3 : 2 * B ≤ A + C) (h4 : B + D < 2 * C) (h5 : 3 * B ≤ 2 * C) : Tw.wide ws = (bs, 0) := by
  obtain ⟨i0, hi0, e0⟩ := List.mem_iff_getElem.1 hn
  obtain ⟨i1, hi1, e1⟩ := List.mem_iff_getElem.1 hw
  have n0 := (h i0 (by omega) hi0).1 e0
  have n1 := (h i1 (by omega) hi1).2 e1
  have hne : ws ≠ [] := by intro e; rw [e] at hlen; rw [List.length_nil] at hlen; omega
  have hall : ∀ x ∈ ws, (A ≤ x ∧ x ≤ B) ∨ (C ≤ x ∧ x ≤ D) := by
    intro x hx
    obtain ⟨i, hi, rfl⟩ := List.mem_iff_getElem.1 hx
    cases hb : bs[i]'(by omega)
    · exact .inl ((h i hi (by omega)).1 hb)
    · exact .inr ((h i hi (by omega)).2 hb)
  have hlo := hall _ (lo_mem hne)
  have hhi := hall _ (hi_mem hne)
  have hlo2 := lo_le (List.getElem_mem (l := ws) (n := i0) (by omega))
  have hhi2 := le_hi (List.getElem_mem (l := ws) (n := i1) (by omega))
  have hL : A ≤ Tw.lo ws ∧ Tw.lo ws ≤ B := by omega
  have hH : C ≤ Tw.hi ws ∧ Tw.hi ws ≤ D := by omega
  have hW : ∀ x, C ≤ x → Tw.isWide ws x = true := fun x hx => by unfold Tw.isWide; simp; omega
  have hN : ∀ x, x ≤ B → Tw.isWide ws x = false := fun x hx => by unfold Tw.isWide; simp; omega
  have hlw : C ≤ Tw.leastWide ws ws := by
    unfold Tw.leastWide
    refine lw_ge ws C ws _ hH.1 (fun x hx hi => ?_)
    rcases hall x hx with hq | hq
    · rw [hN x hq.2] at hi; exact Bool.noConfusion hi
    · exact hq.1
  have hmn : Tw.mostNarrow ws ws ≤ B := by
    unfold Tw.mostNarrow
    refine mn_le ws B ws _ hL.2 (fun x hx hi => ?_)
    rcases hall x hx with hq | hq
    · exact hq.2
    · rw [hW x hq.1] at hi; exact Bool.noConfusion hi
  unfold Tw.wide
  rw [if_neg hne, if_neg (by
    rw [Bool.not_eq_false]; unfold Tw.inRng; rw [List.all_eq_true]
    intro x hx
    have := hall x hx
    simp; omega), if_neg (by omega), if_neg (by omega)]
  refine Prod.ext ?_ rfl
  apply List.ext_getElem
  · simp [hlen]
  · intro i hi hi'
    simp only [List.length_map] at hi
    simp only [List.getElem_map]
    cases hb : bs[i]
    · exact hN _ ((h i hi hi').1 hb).2
    · exact hW _ ((h i hi hi').2 hb).1

/-- The elements of what the widths were made of. -/
def isW (e : List UInt8) : List Bool := e.map fun c => decide (c = 119)
def NW (e : List UInt8) : Prop := ∀ c ∈ e, c = 110 ∨ c = 119
theorem elems_isW (e : List UInt8) (h : NW e) : Tw.elems (isW e) = e := by
  unfold Tw.elems isW
  rw [List.map_map]
  conv => rhs; rw [← List.map_id e]
  refine List.map_congr_left (fun c hc => ?_)
  rcases h c hc with rfl | rfl <;> rfl
theorem wide_scaled (e : List UInt8) (r f : Int) (hr : r = 2 ∨ r = 3) (hf : 1 ≤ f ∧ f ≤ 1000) (h0 : 110 ∈ e) (h1 : 119 ∈ e) : Tw.wide ((Tw.widths r e).map (· * f)) = (isW e, 0) := by
  have hrf : r * f ≤ 3000 ∧ 2 * f ≤ r * f := by rcases hr with rfl | rfl <;> omega
  refine wide_of _ _ f f (r * f) (r * f) (by simp [Tw.widths, isW]) (fun i hi hb => ?_) (List.mem_map.2 ⟨110, h0, rfl⟩) (List.mem_map.2 ⟨119, h1, rfl⟩) hf.1 (by omega) (by omega) (by omega) (by omega)
  simp only [Tw.widths, isW, List.getElem_map]
  refine ⟨fun hq => ?_, fun hq => ?_⟩
  · rw [if_neg (by simpa using hq)]; omega
  · rw [if_pos (by simpa using hq)]; omega
end Go.Proofs.YthjlnpcaclfopaaGreat
