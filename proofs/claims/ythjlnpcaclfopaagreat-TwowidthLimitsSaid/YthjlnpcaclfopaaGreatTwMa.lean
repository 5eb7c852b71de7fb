/-
  Chapter 12, plain laws: widths that are clearly narrow or wide are read as such; what is drawn is read.
  No condition.
-/
import Derived.Test.YthjlnpcaclfopaaGreatRuns
import Derived.Test.YthjlnpcaclfopaaGreatTwW12

/-
  Chapter 12, plain laws: widths that are clearly narrow or wide are read as such; what is drawn is read.
  No condition.
-/
namespace Go.Proofs.YthjlnpcaclfopaaGreat
open Go.RowKit

theorem lw_ge (ws : List Int) (C : Int) : ∀ (l : List Int) (a : Int), C ≤ a → (∀ x ∈ l, Tw.isWide ws x = true → C ≤ x) → C ≤ l.foldl (fun a x => if Tw.isWide ws x then min a x else a) a
  | [], a, ha, _ => ha
  | y :: l, a, ha, h => by
    simp only [List.foldl_cons]
    refine lw_ge ws C l _ ?_ (fun x hx => h x (List.mem_cons_of_mem _ hx))
    have := h y (List.mem_cons_self ..)
    by_cases hy : Tw.isWide ws y = true
    · rw [if_pos hy]; have := this hy; omega
    · rw [if_neg hy]; exact ha
theorem mn_le (ws : List Int) (B : Int) : ∀ (l : List Int) (a : Int), a ≤ B → (∀ x ∈ l, Tw.isWide ws x = false → x ≤ B) → l.foldl (fun a x => if Tw.isWide ws x then a else max a x) a ≤ B
  | [], a, ha, _ => ha
  | y :: l, a, ha, h => by
    simp only [List.foldl_cons]
    refine mn_le ws B l _ ?_ (fun x hx => h x (List.mem_cons_of_mem _ hx))
    have := h y (List.mem_cons_self ..)
    by_cases hy : Tw.isWide ws y = true
    · rw [if_pos hy]; exact ha
    · rw [if_neg hy]; have := this (by simpa using hy); omega

theorem wide_of (ws : List Int) (bs : List Bool) (A B C D : Int) (hlen : ws.length = bs.length) (h : ∀ i (hi : i < ws.length) (hb : i < bs.length), (bs[i] = false → A ≤ ws[i] ∧ ws[i] ≤ B) ∧ (bs[i] = true → C ≤ ws[i] ∧ ws[i] ≤ D))
    (hn : false ∈ bs) (hw : true ∈ bs) (h1 : 1 ≤ A) (h2 : D ≤ 65536) (h3 : 2 * B ≤ A + C) (h4 : B + D < 2 * C) (h5 : 3 * B ≤ 2 * C) : Tw.wide ws = (bs, 0) := by
  obtain ⟨i0, hi0, e0⟩ := List.mem_iff_getElem.1 hn
  obtain ⟨i1, hi1, e1⟩ := List.mem_iff_getElem.1 hw
  have n0 := (h i0 (by omega) hi0).1 e0
  have n1 := (h i1 (by omega) hi1).2 e1
  have hne : ws ≠ [] := by intro e; rw [e] at hlen; rw [List.length_nil] at hlen; omega
  have hall : ∀ x ∈ ws, (A ≤ x ∧ x ≤ B) ∨ (C ≤ x ∧ x ≤ D) := by
    intro x hx
    obtain ⟨i, hi, rfl⟩ := List.mem_iff_getElem.1 hx
    cases hb : bs[i]'(by omega)
    · exact .inl ((h i hi (by omega)).1 hb)
    · exact .inr ((h i hi (by omega)).2 hb)
  have hlo := hall _ (lo_mem hne)
  have hhi := hall _ (hi_mem hne)
  have hlo2 := lo_le (List.getElem_mem (l := ws) (n := i0) (by omega))
  have hhi2 := le_hi (List.getElem_mem (l := ws) (n := i1) (by omega))
  have hL : A ≤ Tw.lo ws ∧ Tw.lo ws ≤ B := by omega
  have hH : C ≤ Tw.hi ws ∧ Tw.hi ws ≤ D := by omega
  have hW : ∀ x, C ≤ x → Tw.isWide ws x = true := fun x hx => by unfold Tw.isWide; simp; omega
  have hN : ∀ x, x ≤ B → Tw.isWide ws x = false := fun x hx => by unfold Tw.isWide; simp; omega
  have hlw : C ≤ Tw.leastWide ws ws := by
    unfold Tw.leastWide
    refine lw_ge ws C ws _ hH.1 (fun x hx hi => ?_)
    rcases hall x hx with hq | hq
    · rw [hN x hq.2] at hi; exact Bool.noConfusion hi
    · exact hq.1
  have hmn : Tw.mostNarrow ws ws ≤ B := by
    unfold Tw.mostNarrow
    refine mn_le ws B ws _ hL.2 (fun x hx hi => ?_)
    rcases hall x hx with hq | hq
    · exact hq.2
    · rw [hW x hq.1] at hi; exact Bool.noConfusion hi
  unfold Tw.wide
  rw [if_neg hne, if_neg (by
    rw [Bool.not_eq_false]; unfold Tw.inRng; rw [List.all_eq_true]
    intro x hx
    have := hall x hx
    simp; omega), if_neg (by omega), if_neg (by omega)]
  refine Prod.ext ?_ rfl
  apply List.ext_getElem
  · simp [hlen]
  · intro i hi hi'
    simp only [List.length_map] at hi
    simp only [List.getElem_map]
    cases hb : bs[i]
    · exact hN _ ((h i hi hi').1 hb).2
    · exact hW _ ((h i hi hi').2 hb).1

/-- The elements of what the widths were made of. -/
def isW (e : List UInt8) : List Bool := e.map fun c => decide (c = 119)
def NW (e : List UInt8) : Prop := ∀ c ∈ e, c = 110 ∨ c = 119
theorem elems_isW (e : List UInt8) (h : NW e) : Tw.elems (isW e) = e := by
  unfold Tw.elems isW
  rw [List.map_map]
  conv => rhs; rw [← List.map_id e]
  refine List.map_congr_left (fun c hc => ?_)
  rcases h c hc with rfl | rfl <;> rfl
theorem wide_scaled (e : List UInt8) (r f : Int) (hr : r = 2 ∨ r = 3) (hf : 1 ≤ f ∧ f ≤ 1000) (h0 : 110 ∈ e) (h1 : 119 ∈ e) : Tw.wide ((Tw.widths r e).map (· * f)) = (isW e, 0) := by
  have hrf : r * f ≤ 3000 ∧ 2 * f ≤ r * f := by rcases hr with rfl | rfl <;> omega
  refine wide_of _ _ f f (r * f) (r * f) (by simp [Tw.widths, isW]) (fun i hi hb => ?_) (List.mem_map.2 ⟨110, h0, rfl⟩) (List.mem_map.2 ⟨119, h1, rfl⟩) hf.1 (by omega) (by omega) (by omega) (by omega)
  simp only [Tw.widths, isW, List.getElem_map]
  refine ⟨fun hq => ?_, fun hq => ?_⟩
  · rw [if_neg (by simpa using hq)]; omega
  · rw [if_pos (by simpa using hq)]; omega
end Go.Proofs.YthjlnpcaclfopaaGreat

/-
  Chapter 12, plain laws: separated characters that are drawn are read; one element turned is an error.
  No condition.
-/
namespace Go.Proofs.YthjlnpcaclfopaaGreat
open Go.RowKit

theorem flat_block (m : Nat) : ∀ (L : List (List UInt8)) (i : Nat) (hi : i < L.length), (∀ x ∈ L, x.length = m) → (L.flatten.drop (i * m)).take m = L[i]
  | [], i, hi, _ => absurd hi (Nat.not_lt_zero _)
  | x :: L, 0, _, h => by
    have := h x (List.mem_cons_self ..)
    simp only [Nat.zero_mul, List.drop_zero, List.flatten_cons, List.getElem_cons_zero]
    rw [← this, List.take_left]
  | x :: L, i + 1, hi, h => by
    have hx := h x (List.mem_cons_self ..)
    have ih := flat_block m L i (by simpa using hi) (fun y hy => h y (List.mem_cons_of_mem _ hy))
    rw [List.flatten_cons, List.getElem_cons_succ, ← ih, Nat.add_mul, Nat.one_mul]
    congr 1
    rw [Nat.add_comm, ← hx, List.drop_append]
    simp
theorem flat_len (m : Nat) : ∀ (L : List (List UInt8)), (∀ x ∈ L, x.length = m) → L.flatten.length = L.length * m
  | [], _ => by simp
  | x :: L, h => by
    rw [List.flatten_cons, List.length_append, h x (List.mem_cons_self ..), flat_len m L (fun y hy => h y (List.mem_cons_of_mem _ hy)), List.length_cons, Nat.add_mul]; omega
theorem join_flat (L : List (List UInt8)) (h : L ≠ []) : 110 :: Lib.join L [110] = (L.map (fun x => 110 :: x)).flatten := by
  cases L with
  | nil => exact absurd rfl h
  | cons x r => rw [Lib.join_cons]; simp [Lib.joinTail]

section
variable (cs ps : List UInt8) (z : Nat)
def pt (c : UInt8) : List UInt8 := (Tw.pat cs ps z c).1
/-- What is drawn for characters. -/
def drawn (chars : List UInt8) : List UInt8 := Lib.join (chars.map (pt cs ps z)) [110]
/-- A character is read back from its own elements. -/
def Good (c : UInt8) : Prop := (pt cs ps z c).length = z ∧ Tw.chr cs ps z (pt cs ps z c) = (c, true)
variable {cs ps z} {chars : List UInt8}
theorem drawn_block (h : ∀ c ∈ chars, Good cs ps z c) (i : Nat) (hi : i < chars.length) : ((110 :: drawn cs ps z chars).drop (i * (z + 1))).take (z + 1) = 110 :: pt cs ps z chars[i] := by
  unfold drawn
  rw [join_flat _ (by intro e; have := congrArg List.length e; simp at this; rw [this] at hi; simp at hi)]
  rw [flat_block (z + 1) _ i (by simpa using hi) (fun x hx => by
    rw [List.mem_map] at hx; obtain ⟨y, hy, rfl⟩ := hx
    rw [List.mem_map] at hy; obtain ⟨c, hc, rfl⟩ := hy
    rw [List.length_cons, (h c hc).1])]
  simp
theorem drawn_len (h : ∀ c ∈ chars, Good cs ps z c) (h0 : chars ≠ []) : (drawn cs ps z chars).length + 1 = chars.length * (z + 1) := by
  have : (110 :: drawn cs ps z chars).length = chars.length * (z + 1) := by
    unfold drawn
    rw [join_flat _ (by simpa using h0), flat_len (z + 1) _ (fun x hx => by
      rw [List.mem_map] at hx; obtain ⟨y, hy, rfl⟩ := hx
      rw [List.mem_map] at hy; obtain ⟨c, hc, rfl⟩ := hy
      rw [List.length_cons, (h c hc).1])]
    simp
  simpa using this
theorem drawn_cut (h : ∀ c ∈ chars, Good cs ps z c) (i : Nat) (hi : i < chars.length) : ((drawn cs ps z chars).drop (i * (z + 1))).take z = pt cs ps z chars[i] := by
  have h1 := drawn_block h i hi
  have h2 := congrArg (List.drop 1) h1
  rw [List.drop_take, List.drop_drop] at h2
  simpa using h2
theorem drawn_sep (h : ∀ c ∈ chars, Good cs ps z c) (i : Nat) (hi : i < chars.length) (h0 : 0 < i) : (drawn cs ps z chars).getD (i * (z + 1) - 1) 0 = 110 := by
  have h1 := drawn_block h i hi
  have h2 := congrArg (fun l => l[0]?) h1
  simp only [List.getElem?_take_of_lt (Nat.succ_pos z), List.getElem?_drop, Nat.add_zero, List.getElem?_cons_zero] at h2
  have h3 : i * (z + 1) = (i * (z + 1) - 1) + 1 := by
    have : 1 ≤ i * (z + 1) := Nat.mul_pos h0 (Nat.succ_pos z)
    omega
  rw [h3, List.getElem?_cons_succ] at h2
  rw [List.getD_eq_getElem?_getD, h2]; rfl

/-- The set that a character must be in. -/
def setAt (edge inner : List UInt8) (n i : Nat) : List UInt8 := if i = 0 ∨ i + 1 = n then edge else inner
theorem read_drawn {edge inner : List UInt8} (h : ∀ c ∈ chars, Good cs ps z c) (hn : 2 ≤ chars.length) (hs : ∀ i (hi : i < chars.length), 0 ≤ Lib.indexByte (setAt edge inner chars.length i) chars[i]) :
    Tw.read cs ps edge inner z (drawn cs ps z chars) = (chars, 0) := by
  have hne : chars ≠ [] := by intro e; rw [e] at hn; simp at hn
  have hl := drawn_len h hne
  have hnn : chars.length = ((drawn cs ps z chars).length + 1) / (z + 1) := by rw [hl, Nat.mul_div_cancel _ (Nat.succ_pos z)]
  have hrd : ∀ i (hi : i < chars.length), Tw.rdAt cs ps z (drawn cs ps z chars) i = (chars[i], true) := fun i hi => by
    unfold Tw.rdAt
    rw [drawn_cut h i hi]
    exact (h _ (List.getElem_mem hi)).2
  have hin : ∀ i (hi : i < chars.length), Tw.isIn (setAt edge inner chars.length i) (Tw.rdAt cs ps z (drawn cs ps z chars) i) = true := fun i hi => by
    rw [hrd i hi]; unfold Tw.isIn; simp [hs i hi]
  rw [Tw.read_all _ _ _ _ _ _ _ hnn (fun i hi => ?_)]
  · refine Prod.ext ?_ rfl
    apply List.ext_getElem
    · simp
    · intro i h1 h2
      simp [hrd i h2]
  · have hi2 := hin i hi
    unfold Tw.rdErr
    rw [if_neg (fun hc => by rw [drawn_sep h i hi hc.1] at hc; exact absurd hc.2 (by decide))]
    unfold setAt at hi2
    by_cases he : i = 0 ∨ i + 1 = chars.length
    · rw [if_pos he] at hi2
      rw [if_neg (fun hc => by rw [hi2] at hc; exact Bool.noConfusion hc.2), if_neg (fun hc => by rw [hi2] at hc; exact Bool.noConfusion hc.2), if_neg (fun hc => by omega)]
    · rw [if_neg he] at hi2
      rw [if_neg (fun hc => by omega), if_neg (fun hc => by omega), if_neg (fun hc => by rw [hi2] at hc; exact Bool.noConfusion hc.2.2)]

/-- One element turned. -/
def turn (c : UInt8) : UInt8 := if c = 119 then 110 else 119
def turnAt (e : List UInt8) (p : Nat) : List UInt8 := e.set p (turn (e.getD p 0))
theorem turnAt_len (e : List UInt8) (p : Nat) : (turnAt e p).length = e.length := by simp [turnAt]
theorem read_err {edge inner : List UInt8} (e : List UInt8) (n i : Nat) (hn : n = (e.length + 1) / (z + 1)) (hi : i < n) (h : Tw.rdErr cs ps edge inner z e n i ≠ 0) : (Tw.read cs ps edge inner z e).2 ≠ 0 := by
  unfold Tw.read
  rw [← hn]
  split
  · rename_i j hj
    have := List.find?_some hj
    simpa using this
  · rename_i hj
    rw [List.find?_eq_none] at hj
    have := hj i (by simpa using hi)
    simp [h] at this
theorem turn_cut (e : List UInt8) (s z p : Nat) (h1 : s ≤ p) (h2 : p < s + z) (_ : p < e.length) : ((turnAt e p).drop s).take z = turnAt ((e.drop s).take z) (p - s) := by
  unfold turnAt
  have e1 : ((e.drop s).take z).getD (p - s) 0 = e.getD p 0 := by
    rw [List.getD_eq_getElem?_getD, List.getD_eq_getElem?_getD, List.getElem?_take_of_lt (by omega), List.getElem?_drop, show s + (p - s) = p by omega]
  rw [e1, List.drop_set, if_neg (by omega), List.take_set]
theorem turn_far (e : List UInt8) (s z p : Nat) (h : p < s ∨ s + z ≤ p) : ((turnAt e p).drop s).take z = (e.drop s).take z := by
  unfold turnAt
  rw [List.drop_set]
  by_cases h1 : p < s
  · rw [if_pos h1]
  · rw [if_neg h1, List.take_set, List.set_eq_of_length_le (by rw [List.length_take]; omega)]
theorem read_turned {edge inner : List UInt8} (h : ∀ c ∈ chars, Good cs ps z c) (hn : 2 ≤ chars.length) (hs : ∀ i (hi : i < chars.length), 0 ≤ Lib.indexByte (setAt edge inner chars.length i) chars[i])
    (hb : ∀ c, 0 ≤ Lib.indexByte edge c → ∀ j, j < z → Tw.isIn edge (Tw.chr cs ps z (turnAt (pt cs ps z c) j)) = false) (hb' : ∀ c, 0 ≤ Lib.indexByte inner c → ∀ j, j < z → Tw.isIn inner (Tw.chr cs ps z (turnAt (pt cs ps z c) j)) = false)
    (p : Nat) (hp : p < (drawn cs ps z chars).length) : (Tw.read cs ps edge inner z (turnAt (drawn cs ps z chars) p)).2 ≠ 0 := by
  have hne : chars ≠ [] := by intro e; rw [e] at hn; simp at hn
  have hl := drawn_len h hne
  have hnn : chars.length = ((turnAt (drawn cs ps z chars) p).length + 1) / (z + 1) := by rw [turnAt_len, hl, Nat.mul_div_cancel _ (Nat.succ_pos z)]
  obtain ⟨i, j, hpj, hj⟩ : ∃ i j, p = i * (z + 1) + j ∧ j < z + 1 := ⟨p / (z + 1), p % (z + 1), by rw [Nat.mul_comm]; exact (Nat.div_add_mod p (z + 1)).symm, Nat.mod_lt _ (Nat.succ_pos z)⟩
  have hin : i < chars.length := by
    rcases Nat.lt_or_ge i chars.length with h1 | h1
    · exact h1
    · have := Nat.mul_le_mul_right (z + 1) h1
      omega
  by_cases hjz : j < z
  · refine read_err _ chars.length i hnn hin ?_
    have hrd : Tw.rdAt cs ps z (turnAt (drawn cs ps z chars) p) i = Tw.chr cs ps z (turnAt (pt cs ps z chars[i]) j) := by
      unfold Tw.rdAt
      rw [turn_cut _ _ _ _ (by omega) (by omega) hp, drawn_cut h i hin, show p - i * (z + 1) = j by omega]
    unfold Tw.rdErr
    rw [hrd]
    by_cases h1 : 0 < i ∧ (turnAt (drawn cs ps z chars) p).getD (i * (z + 1) - 1) 0 = 119
    · rw [if_pos h1]; decide
    · rw [if_neg h1]
      have hsi := hs i hin
      unfold setAt at hsi
      by_cases he : i = 0 ∨ i + 1 = chars.length
      · rw [if_pos he] at hsi
        have hf := hb _ hsi j hjz
        by_cases h2 : i = 0
        · rw [if_pos ⟨h2, hf⟩]; decide
        · rw [if_neg (fun hc => h2 hc.1), if_pos ⟨by omega, hf⟩]; decide
      · rw [if_neg he] at hsi
        have hf := hb' _ hsi j hjz
        rw [if_neg (fun hc => by omega), if_neg (fun hc => by omega), if_pos ⟨by omega, by omega, hf⟩]; decide
  · have hjz' : j = z := by omega
    have hi1 : i + 1 < chars.length := by
      rcases Nat.lt_or_ge (i + 1) chars.length with h1 | h1
      · exact h1
      · have := Nat.mul_le_mul_right (z + 1) h1
        rw [Nat.add_mul] at this
        omega
    refine read_err _ chars.length (i + 1) hnn hi1 ?_
    have hpp : (i + 1) * (z + 1) - 1 = p := by rw [Nat.add_mul]; omega
    have hsp := drawn_sep h (i + 1) hi1 (Nat.succ_pos i)
    rw [hpp] at hsp
    unfold Tw.rdErr
    rw [if_pos ⟨Nat.succ_pos i, by
      rw [hpp]
      unfold turnAt
      rw [hsp, List.getD_eq_getElem?_getD, List.getElem?_set_self hp]; rfl⟩]
    decide
end
end Go.Proofs.YthjlnpcaclfopaaGreat

/-
  Chapter 12, plain laws: ITF that is drawn is read; one element turned is an error.
  No condition.
-/
namespace Go.Proofs.YthjlnpcaclfopaaGreat
open Go.RowKit

theorem index_mem {l : List UInt8} {c : UInt8} (h : 0 ≤ Lib.indexByte l c) : c ∈ l := by
  obtain ⟨n, hn⟩ := Int.eq_ofNat_of_zero_le h
  exact List.mem_of_getElem? (Lib.indexByte_some hn).1

def pd (c : UInt8) : List UInt8 := (Tw.pat Tw.cItf Tw.pItf 5 c).1
theorem good_itf : ∀ c ∈ Tw.cItf, (pd c).length = 5 ∧ Tw.chr Tw.cItf Tw.pItf 5 (pd c) = (c, true) := by decide +kernel
theorem turn_itf : ∀ c ∈ Tw.cItf, ∀ j : Fin 5, (Tw.chr Tw.cItf Tw.pItf 5 (turnAt (pd c) j.val)).2 = false := by decide +kernel
def Digits (l : List UInt8) : Prop := ∀ c ∈ l, c ∈ Tw.cItf

def pairsL : List UInt8 → List (List UInt8)
  | a :: b :: l => Tw.mix (pd a) (pd b) :: pairsL l
  | _ => []
theorem draw_flat : ∀ l : List UInt8, Tw.drawPairs l = (pairsL l).flatten
  | [] => rfl
  | [_] => rfl
  | a :: b :: l => by rw [Tw.drawPairs, pairsL, List.flatten_cons, draw_flat l]; rfl
theorem pairsL_len : ∀ (h : Nat) (l : List UInt8), l.length = 2 * h → (pairsL l).length = h
  | 0, l, e => by obtain rfl := List.eq_nil_of_length_eq_zero e; rfl
  | h + 1, a :: b :: l, e => by simp only [List.length_cons] at e; rw [pairsL, List.length_cons, pairsL_len h l (by omega)]
  | h + 1, [], e => by simp at e
  | h + 1, [_], e => by simp at e; omega
theorem pairsL_at : ∀ (h : Nat) (l : List UInt8) (i : Nat), l.length = 2 * h → i < h → (pairsL l)[i]? = some (Tw.mix (pd (l.getD (2 * i) 0)) (pd (l.getD (2 * i + 1) 0)))
  | 0, _, _, _, h => absurd h (Nat.not_lt_zero _)
  | h + 1, [], _, e, _ => by simp at e
  | h + 1, [_], _, e, _ => by simp at e; omega
  | h + 1, a :: b :: l, 0, _, _ => rfl
  | h + 1, a :: b :: l, i + 1, e, hi => by
    simp only [List.length_cons] at e
    rw [pairsL, List.getElem?_cons_succ, pairsL_at h l i (by omega) (by omega)]
    rfl
theorem getD_mem' (l : List UInt8) (i : Nat) (h : i < l.length) : l.getD i 0 ∈ l := by
  rw [List.getD_eq_getElem?_getD, List.getElem?_eq_getElem h]; exact List.getElem_mem _
theorem pairs_ten (_ : Nat) (l : List UInt8) (hd : Digits l) : ∀ x ∈ pairsL l, x.length = 10 := by
  have key : ∀ (n : Nat) (l : List UInt8), l.length ≤ n → Digits l → ∀ x ∈ pairsL l, x.length = 10 := by
    intro n
    induction n with
    | zero => intro l hl _ x hx; obtain rfl := List.eq_nil_of_length_eq_zero (Nat.le_zero.1 hl); simp [pairsL] at hx
    | succ n ih =>
      intro l hl hd x hx
      match l, hl, hd, hx with
      | [], _, _, hx => simp [pairsL] at hx
      | [_], _, _, hx => simp [pairsL] at hx
      | a :: b :: l, hl, hd, hx =>
        rw [pairsL, List.mem_cons] at hx
        rcases hx with rfl | hx
        · exact mix_full _ _ 5 (good_itf a (hd a (by simp))).1 (good_itf b (hd b (by simp))).1
        · exact ih l (by simp only [List.length_cons] at hl; omega) (fun c hc => hd c (by simp [hc])) x hx
  exact key _ l (Nat.le_refl _) hd
theorem pairs_len (h : Nat) (l : List UInt8) (hd : Digits l) (e : l.length = 2 * h) : (Tw.drawPairs l).length = 10 * h := by
  rw [draw_flat, flat_len 10 _ (pairs_ten h l hd), pairsL_len h l e]; omega
theorem itf_len (h : Nat) (l : List UInt8) (hd : Digits l) (e : l.length = 2 * h) : (Tw.drawItf l).length = 7 + 10 * h := by
  unfold Tw.drawItf
  simp only [List.length_append, List.length_cons, List.length_nil, pairs_len h l hd e]; omega
theorem itf_pair (h : Nat) (l : List UInt8) (hd : Digits l) (e : l.length = 2 * h) (i : Nat) (hi : i < h) : Tw.pairAt (Tw.drawItf l) i = Tw.mix (pd (l.getD (2 * i) 0)) (pd (l.getD (2 * i + 1) 0)) := by
  have hl := pairs_len h l hd e
  have h1 := flat_block 10 (pairsL l) i (by rw [pairsL_len h l e]; exact hi) (pairs_ten h l hd)
  rw [← draw_flat] at h1
  have h2 := pairsL_at h l i e hi
  rw [List.getElem?_eq_getElem (by rw [pairsL_len h l e]; exact hi)] at h2
  rw [Option.some.injEq] at h2
  rw [← h2, ← h1]
  unfold Tw.pairAt Tw.drawItf
  rw [List.append_assoc, ← List.drop_drop, show List.drop 4 ([110, 110, 110, 110] ++ (Tw.drawPairs l ++ [119, 110, 110])) = Tw.drawPairs l ++ [119, 110, 110] from rfl, Nat.mul_comm 10 i]
  rw [List.drop_append_of_le_length (by omega), List.take_append_of_le_length (by rw [List.length_drop]; omega)]
theorem list5 {a : List UInt8} (h : a.length = 5) : ∃ a0 a1 a2 a3 a4, a = [a0, a1, a2, a3, a4] := by
  match a, h with
  | [a0, a1, a2, a3, a4], _ => exact ⟨a0, a1, a2, a3, a4, rfl⟩
theorem mix_parts {a b : List UInt8} (ha : a.length = 5) (hb : b.length = 5) : Tw.evens (Tw.mix a b) = a ∧ Tw.odds (Tw.mix a b) = b := by
  obtain ⟨a0, a1, a2, a3, a4, rfl⟩ := list5 ha
  obtain ⟨b0, b1, b2, b3, b4, rfl⟩ := list5 hb
  exact ⟨rfl, rfl⟩
theorem mix_turn {a b : List UInt8} (ha : a.length = 5) (hb : b.length = 5) (j : Nat) (hj : j < 10) :
    (∃ q, q < 5 ∧ Tw.evens (turnAt (Tw.mix a b) j) = turnAt a q) ∨ (∃ q, q < 5 ∧ Tw.odds (turnAt (Tw.mix a b) j) = turnAt b q) := by
  obtain ⟨a0, a1, a2, a3, a4, rfl⟩ := list5 ha
  obtain ⟨b0, b1, b2, b3, b4, rfl⟩ := list5 hb
  obtain rfl | rfl | rfl | rfl | rfl | rfl | rfl | rfl | rfl | rfl : j = 0 ∨ j = 1 ∨ j = 2 ∨ j = 3 ∨ j = 4 ∨ j = 5 ∨ j = 6 ∨ j = 7 ∨ j = 8 ∨ j = 9 := by omega
  · exact .inl ⟨0, by omega, rfl⟩
  · exact .inr ⟨0, by omega, rfl⟩
  · exact .inl ⟨1, by omega, rfl⟩
  · exact .inr ⟨1, by omega, rfl⟩
  · exact .inl ⟨2, by omega, rfl⟩
  · exact .inr ⟨2, by omega, rfl⟩
  · exact .inl ⟨3, by omega, rfl⟩
  · exact .inr ⟨3, by omega, rfl⟩
  · exact .inl ⟨4, by omega, rfl⟩
  · exact .inr ⟨4, by omega, rfl⟩
theorem range_pairs : ∀ (h : Nat) (l : List UInt8), l.length = 2 * h → ((List.range h).flatMap fun i => [l.getD (2 * i) 0, l.getD (2 * i + 1) 0]) = l
  | 0, l, e => by obtain rfl := List.eq_nil_of_length_eq_zero e; rfl
  | h + 1, [], e => by simp at e
  | h + 1, [_], e => by simp at e; omega
  | h + 1, a :: b :: l, e => by
    simp only [List.length_cons] at e
    rw [List.range_succ_eq_map, List.flatMap_cons, List.flatMap_map]
    have := range_pairs h l (by omega)
    conv => rhs; rw [← this]
    rfl
theorem itf_tail (h : Nat) (l : List UInt8) (hd : Digits l) (e : l.length = 2 * h) : (Tw.drawItf l).drop ((Tw.drawItf l).length - 3) = [119, 110, 110] := by
  rw [itf_len h l hd e]
  unfold Tw.drawItf
  rw [show 7 + 10 * h - 3 = ([110, 110, 110, 110] ++ Tw.drawPairs l).length by simp only [List.length_append, List.length_cons, List.length_nil, pairs_len h l hd e]; omega, List.drop_left]
theorem read_itf (h : Nat) (l : List UInt8) (hd : Digits l) (e : l.length = 2 * h) : Tw.readItf (Tw.drawItf l) = (l, 0) := by
  have hl := itf_len h l hd e
  have hn : ((Tw.drawItf l).length - 7) / 10 = h := by omega
  have hA : ∀ i, i < h → Tw.digA (Tw.drawItf l) i = (l.getD (2 * i) 0, true) ∧ Tw.digB (Tw.drawItf l) i = (l.getD (2 * i + 1) 0, true) := fun i hi => by
    have g1 := good_itf _ (hd _ (getD_mem' l (2 * i) (by omega)))
    have g2 := good_itf _ (hd _ (getD_mem' l (2 * i + 1) (by omega)))
    obtain ⟨m1, m2⟩ := mix_parts g1.1 g2.1
    unfold Tw.digA Tw.digB
    rw [itf_pair h l hd e i hi, m1, m2]
    exact ⟨g1.2, g2.2⟩
  unfold Tw.readItf
  rw [hn, if_neg (fun hc => hc rfl), if_neg (by
    rw [Bool.not_eq_false, List.all_eq_true]
    intro i hi
    have := hA i (by simpa using hi)
    unfold Tw.pairOk
    rw [this.1, this.2]; rfl), if_neg (fun hc => hc (itf_tail h l hd e))]
  refine Prod.ext ?_ rfl
  simp only
  conv => rhs; rw [← range_pairs h l e]
  rw [List.flatMap_def, List.flatMap_def]
  congr 1
  refine List.map_congr_left (fun i hi => ?_)
  have := hA i (by simpa using hi)
  rw [this.1, this.2]
theorem turn_ne (e : List UInt8) (p : Nat) (hp : p < e.length) : turnAt e p ≠ e := by
  intro h
  have h1 := congrArg (fun l => l.getD p 0) h
  unfold turnAt at h1
  simp only [List.getD_eq_getElem?_getD, List.getElem?_set_self hp, Option.getD_some] at h1
  unfold turn at h1
  split at h1
  · rename_i hq; rw [hq] at h1; exact absurd h1 (by decide)
  · rename_i hq; exact hq h1.symm
theorem read_itf_turned (h : Nat) (l : List UInt8) (hd : Digits l) (e : l.length = 2 * h) (p : Nat) (hp : p < (Tw.drawItf l).length) : (Tw.readItf (turnAt (Tw.drawItf l) p)).2 ≠ 0 := by
  have hl := itf_len h l hd e
  have hn : ((turnAt (Tw.drawItf l) p).length - 7) / 10 = h := by rw [turnAt_len]; omega
  unfold Tw.readItf
  rw [hn]
  by_cases h4 : p < 4
  · have hc := turn_cut (Tw.drawItf l) 0 4 p (Nat.zero_le _) (by omega) hp
    rw [List.drop_zero, List.drop_zero, Nat.sub_zero] at hc
    have ht : (Tw.drawItf l).take 4 = [110, 110, 110, 110] := rfl
    rw [ht] at hc
    rw [if_pos (by rw [hc]; exact turn_ne _ _ (by simpa using h4))]
    decide
  · by_cases hs : p < 4 + 10 * h
    · split
      · decide
      · rw [if_pos ?_]
        · decide
        · rw [List.all_eq_false]
          refine ⟨(p - 4) / 10, by simp; omega, ?_⟩
          have hi : (p - 4) / 10 < h := by omega
          have g1 := good_itf _ (hd _ (getD_mem' l (2 * ((p - 4) / 10)) (by omega)))
          have g2 := good_itf _ (hd _ (getD_mem' l (2 * ((p - 4) / 10) + 1) (by omega)))
          have hpair : Tw.pairAt (turnAt (Tw.drawItf l) p) ((p - 4) / 10) = turnAt (Tw.mix (pd (l.getD (2 * ((p - 4) / 10)) 0)) (pd (l.getD (2 * ((p - 4) / 10) + 1) 0))) ((p - 4) % 10) := by
            rw [← itf_pair h l hd e _ hi]
            unfold Tw.pairAt
            rw [turn_cut _ _ _ _ (by omega) (by omega) hp, show p - (4 + 10 * ((p - 4) / 10)) = (p - 4) % 10 by omega]
          unfold Tw.pairOk Tw.digA Tw.digB
          rw [hpair]
          rcases mix_turn g1.1 g2.1 ((p - 4) % 10) (by omega) with ⟨q, hq, he⟩ | ⟨q, hq, he⟩
          · rw [he, turn_itf _ (hd _ (getD_mem' l (2 * ((p - 4) / 10)) (by omega))) ⟨q, hq⟩]; simp
          · rw [he, turn_itf _ (hd _ (getD_mem' l (2 * ((p - 4) / 10) + 1) (by omega))) ⟨q, hq⟩]; simp
    · split
      · decide
      · split
        · decide
        · rw [if_pos ?_]
          · decide
          · have hc := turn_cut (Tw.drawItf l) ((Tw.drawItf l).length - 3) 3 p (by omega) (by omega) hp
            have ht : ((Tw.drawItf l).drop ((Tw.drawItf l).length - 3)).take 3 = [119, 110, 110] := by rw [itf_tail h l hd e]; rfl
            rw [ht] at hc
            have hd3 : ((turnAt (Tw.drawItf l) p).drop ((Tw.drawItf l).length - 3)).take 3 = (turnAt (Tw.drawItf l) p).drop ((turnAt (Tw.drawItf l) p).length - 3) := by
              rw [turnAt_len, List.take_of_length_le (by rw [List.length_drop, turnAt_len]; omega)]
            rw [← hd3, hc]
            exact turn_ne _ _ (by simp; omega)
end Go.Proofs.YthjlnpcaclfopaaGreat

/-
  Chapter 12, plain laws: what Encode returns, Decode reads; one element turned, Decode returns an error.
  No condition.
-/
namespace Go.Proofs.YthjlnpcaclfopaaGreat
open Go.RowKit

/-- What holds of the characters of a text. -/
structure Sym (k : Nat) (l : List UInt8) (check : Bool) (chars : List UInt8) : Prop where
  read : Tw.readK k (Tw.drawK k chars) = (chars, 0)
  turned : ∀ p, p < (Tw.drawK k chars).length → (Tw.readK k (turnAt (Tw.drawK k chars) p)).2 ≠ 0
  text : Tw.textK k chars check = l
  counts : Tw.countsK k (Tw.drawK k chars).length check = true
  odd : (Tw.drawK k chars).length % 2 = 1
  nw : NW (Tw.drawK k chars)
  both : ∀ p, (110 ∈ Tw.drawK k chars ∧ 119 ∈ Tw.drawK k chars) ∧ 110 ∈ turnAt (Tw.drawK k chars) p ∧ 119 ∈ turnAt (Tw.drawK k chars) p

theorem good39 : ∀ c ∈ Tw.c39, (pt Tw.c39 Tw.p39 9 c).length = 9 ∧ Tw.chr Tw.c39 Tw.p39 9 (pt Tw.c39 Tw.p39 9 c) = (c, true) := by decide +kernel
theorem goodCb : ∀ c ∈ Tw.cCb, (pt Tw.cCb Tw.pCb 7 c).length = 7 ∧ Tw.chr Tw.cCb Tw.pCb 7 (pt Tw.cCb Tw.pCb 7 c) = (c, true) := by decide +kernel
theorem nw39 : ∀ c ∈ Tw.c39, (∀ x ∈ pt Tw.c39 Tw.p39 9 c, x = 110 ∨ x = 119) ∧ 110 ∈ pt Tw.c39 Tw.p39 9 c ∧ 119 ∈ pt Tw.c39 Tw.p39 9 c := by decide +kernel
theorem nwCb : ∀ c ∈ Tw.cCb, (∀ x ∈ pt Tw.cCb Tw.pCb 7 c, x = 110 ∨ x = 119) ∧ 110 ∈ pt Tw.cCb Tw.pCb 7 c ∧ 119 ∈ pt Tw.cCb Tw.pCb 7 c := by decide +kernel
theorem nwItf : ∀ c ∈ Tw.cItf, ∀ x ∈ pd c, x = 110 ∨ x = 119 := by decide +kernel
theorem t39e : ∀ c ∈ ([42] : List UInt8), ∀ j : Fin 9, Tw.isIn [42] (Tw.chr Tw.c39 Tw.p39 9 (turnAt (pt Tw.c39 Tw.p39 9 c) j.val)) = false := by decide +kernel
theorem t39i : ∀ c ∈ Cd.syms, ∀ j : Fin 9, Tw.isIn Cd.syms (Tw.chr Tw.c39 Tw.p39 9 (turnAt (pt Tw.c39 Tw.p39 9 c) j.val)) = false := by decide +kernel
theorem tCbe : ∀ c ∈ Tw.eCb, ∀ j : Fin 7, Tw.isIn Tw.eCb (Tw.chr Tw.cCb Tw.pCb 7 (turnAt (pt Tw.cCb Tw.pCb 7 c) j.val)) = false := by decide +kernel
theorem tCbi : ∀ c ∈ Tw.dCb, ∀ j : Fin 7, Tw.isIn Tw.dCb (Tw.chr Tw.cCb Tw.pCb 7 (turnAt (pt Tw.cCb Tw.pCb 7 c) j.val)) = false := by decide +kernel
theorem syms39 : ∀ c ∈ Cd.syms, c ∈ Tw.c39 := by decide +kernel
theorem dcbc : ∀ c ∈ Tw.dCb, c ∈ Tw.cCb := by decide +kernel
theorem ecbc : ∀ c ∈ Tw.eCb, c ∈ Tw.cCb := by decide +kernel
theorem mem_index {l : List UInt8} {c : UInt8} (h : c ∈ l) : 0 ≤ Lib.indexByte l c := by
  have h1 := Lib.indexByte_ge l c
  rcases Int.lt_or_le (Lib.indexByte l c) 0 with h2 | h2
  · obtain ⟨i, hi, rfl⟩ := List.mem_iff_getElem.1 h
    exact absurd (List.getElem?_eq_getElem hi) (Lib.indexByte_none (by omega) i)
  · exact h2

/-- Both kinds of elements stay where there are two characters. -/
theorem two_blocks (e : List UInt8) (s1 s2 z p : Nat) (h12 : s1 + z ≤ s2) (m1 : 110 ∈ (e.drop s1).take z ∧ 119 ∈ (e.drop s1).take z) (m2 : 110 ∈ (e.drop s2).take z ∧ 119 ∈ (e.drop s2).take z) :
    (110 ∈ e ∧ 119 ∈ e) ∧ 110 ∈ turnAt e p ∧ 119 ∈ turnAt e p := by
  have sub : ∀ (l : List UInt8) (s : Nat) (x : UInt8), x ∈ (l.drop s).take z → x ∈ l := fun l s x hx => List.mem_of_mem_drop (List.mem_of_mem_take hx)
  refine ⟨⟨sub e s1 _ m1.1, sub e s1 _ m1.2⟩, ?_⟩
  by_cases h : p < s2
  · have := turn_far e s2 z p (.inl h)
    rw [← this] at m2
    exact ⟨sub _ s2 _ m2.1, sub _ s2 _ m2.2⟩
  · have := turn_far e s1 z p (.inr (by omega))
    rw [← this] at m1
    exact ⟨sub _ s1 _ m1.1, sub _ s1 _ m1.2⟩
theorem drawn_nw (cs ps : List UInt8) (z : Nat) (chars : List UInt8) (h : ∀ c ∈ chars, ∀ x ∈ pt cs ps z c, x = 110 ∨ x = 119) : NW (drawn cs ps z chars) := by
  intro x hx
  unfold drawn at hx
  cases chars with
  | nil => simp [Lib.join, List.intercalate] at hx
  | cons c r =>
    have hx' : x ∈ 110 :: Lib.join ((c :: r).map (pt cs ps z)) [110] := List.mem_cons_of_mem _ hx
    rw [join_flat _ (by simp), List.mem_flatten] at hx'
    obtain ⟨b, hb, hxb⟩ := hx'
    rw [List.mem_map] at hb
    obtain ⟨y, hy, rfl⟩ := hb
    rw [List.mem_map] at hy
    obtain ⟨d, hd, rfl⟩ := hy
    rcases List.mem_cons.1 hxb with rfl | h1
    · exact .inl rfl
    · exact h d hd x h1

/-- Separated characters. -/
theorem sym_spaced (cs ps edge inner : List UInt8) (z : Nat) (chars : List UInt8) (_ : 1 ≤ z) (hn : 2 ≤ chars.length) (hg : ∀ c ∈ cs, Good cs ps z c) (hw : ∀ c ∈ cs, (∀ x ∈ pt cs ps z c, x = 110 ∨ x = 119) ∧ 110 ∈ pt cs ps z c ∧ 119 ∈ pt cs ps z c)
    (he : ∀ c ∈ edge, c ∈ cs) (hi : ∀ c ∈ inner, c ∈ cs) (hte : ∀ c ∈ edge, ∀ j, j < z → Tw.isIn edge (Tw.chr cs ps z (turnAt (pt cs ps z c) j)) = false) (hti : ∀ c ∈ inner, ∀ j, j < z → Tw.isIn inner (Tw.chr cs ps z (turnAt (pt cs ps z c) j)) = false)
    (hs : ∀ i (h : i < chars.length), chars[i] ∈ setAt edge inner chars.length i) :
    Tw.read cs ps edge inner z (drawn cs ps z chars) = (chars, 0) ∧ (∀ p, p < (drawn cs ps z chars).length → (Tw.read cs ps edge inner z (turnAt (drawn cs ps z chars) p)).2 ≠ 0) ∧ (drawn cs ps z chars).length + 1 = chars.length * (z + 1) ∧ NW (drawn cs ps z chars) ∧
      ∀ p, (110 ∈ drawn cs ps z chars ∧ 119 ∈ drawn cs ps z chars) ∧ 110 ∈ turnAt (drawn cs ps z chars) p ∧ 119 ∈ turnAt (drawn cs ps z chars) p := by
  have hcs : ∀ c ∈ chars, c ∈ cs := by
    intro c hc
    obtain ⟨i, h, rfl⟩ := List.mem_iff_getElem.1 hc
    have := hs i h
    unfold setAt at this
    split at this
    · exact he _ this
    · exact hi _ this
  have hG : ∀ c ∈ chars, Good cs ps z c := fun c hc => hg c (hcs c hc)
  have hS : ∀ i (h : i < chars.length), 0 ≤ Lib.indexByte (setAt edge inner chars.length i) chars[i] := fun i h => mem_index (hs i h)
  have hne : chars ≠ [] := by intro e; rw [e] at hn; simp at hn
  refine ⟨read_drawn hG hn hS, fun p hp => read_turned hG hn hS (fun c hc j hj => hte c (index_mem hc) j hj) (fun c hc j hj => hti c (index_mem hc) j hj) p hp, drawn_len hG hne, drawn_nw cs ps z chars (fun c hc => (hw c (hcs c hc)).1), fun p => ?_⟩
  have b0 := drawn_cut hG 0 (by omega)
  have b1 := drawn_cut hG 1 (by omega)
  refine two_blocks _ (0 * (z + 1)) (1 * (z + 1)) z p (by omega) ?_ ?_
  · rw [b0]; exact (hw _ (hcs _ (List.getElem_mem _))).2
  · rw [b1]; exact (hw _ (hcs _ (List.getElem_mem _))).2

theorem only_mem {l cs : List UInt8} (h : Tw.only l cs = true) : ∀ c ∈ l, c ∈ cs := by
  intro c hc
  unfold Tw.only at h
  rw [List.all_eq_true] at h
  exact index_mem (by simpa using h c hc)
end Go.Proofs.YthjlnpcaclfopaaGreat

/-
  Chapter 12, plain laws: what Encode returns, Decode reads; one element turned, Decode returns an error.
  No condition.
-/
namespace Go.Proofs.YthjlnpcaclfopaaGreat
open Go.RowKit

theorem comp_len1 (k : Int) (l : List UInt8) (hk : k = 1 ∨ k = 7) (h : (Cd.compI k l).2 = 0) : (Cd.compI k l).1.length = 1 := by
  rw [compI_ok k l h]
  rcases hk with rfl | rfl <;> rfl
theorem cmp7_mem (l : List UInt8) (h : (Cd.compI 7 l).2 = 0) : ∀ c ∈ (Cd.compI 7 l).1, c ∈ Cd.syms := by
  rw [compI_ok 7 l h]
  intro c hc
  have hc' : c = Cd.syms.getD (Cd.c39 l % 43).toNat 48 := by simpa [Cd.cmp] using hc
  rw [hc']
  have h1 : (Cd.c39 l % 43).toNat < Cd.syms.length := by
    have : Cd.syms.length = 43 := rfl
    omega
  exact getD_any _ _ h1
where
  getD_any (l : List UInt8) (i : Nat) (h : i < l.length) : l.getD i 48 ∈ l := by
    rw [List.getD_eq_getElem?_getD, List.getElem?_eq_getElem h]; exact List.getElem_mem _

theorem sym39 (l : List UInt8) (check : Bool) (hl : 1 ≤ l.length ∧ l.length ≤ 1000) (h : (Tw.comp39 l check).2 = 0) : Sym 0 l check (Tw.comp39 l check).1 := by
  obtain ⟨d, hd, hmem, hlen, hpre⟩ : ∃ d, (Tw.comp39 l check).1 = 42 :: d ++ [42] ∧ (∀ c ∈ d, c ∈ Cd.syms) ∧ d.length = l.length + check.toNat ∧ d.take l.length = l := by
    unfold Tw.comp39 at h ⊢
    by_cases ho : Tw.only l Cd.syms = false
    · rw [if_pos ho] at h; simp at h
    · rw [if_neg ho] at h ⊢
      rw [Bool.not_eq_false] at ho
      cases check
      · rw [if_pos rfl] at h ⊢
        exact ⟨l, rfl, only_mem ho, rfl, List.take_length⟩
      · rw [if_neg Bool.noConfusion] at h ⊢
        by_cases hz : (Cd.compI 7 l).2 = 0
        · rw [if_pos hz] at h ⊢
          refine ⟨l ++ (Cd.compI 7 l).1, by simp, fun c hc => ?_, by rw [List.length_append, comp_len1 7 l (by omega) hz]; rfl, List.take_left⟩
          rcases List.mem_append.1 hc with h1 | h1
          · exact only_mem ho c h1
          · exact cmp7_mem l hz c h1
        · rw [if_neg hz] at h; exact absurd h hz
  rw [hd]
  have hb : check.toNat ≤ 1 := Bool.toNat_le check
  have hcl : (42 :: d ++ [42]).length = d.length + 2 := by simp
  have hS : ∀ i (h : i < (42 :: d ++ [42]).length), (42 :: d ++ [42])[i] ∈ setAt [42] Cd.syms (42 :: d ++ [42]).length i := by
    intro i hi
    rw [hcl] at hi
    unfold setAt
    rw [hcl]
    by_cases h0 : i = 0
    · subst h0; rw [if_pos (.inl rfl)]; simp
    · obtain ⟨j, rfl⟩ : ∃ j, i = j + 1 := ⟨i - 1, by omega⟩
      have e : (42 :: d ++ [42])[j + 1]'(by rw [hcl]; exact hi) = (d ++ [42])[j]'(by simp; omega) := rfl
      rw [e]
      by_cases h1 : j = d.length
      · subst h1
        rw [if_pos (.inr (by omega))]
        simp
      · rw [if_neg (by omega), List.getElem_append_left (by omega)]
        exact hmem _ (List.getElem_mem _)
  obtain ⟨r1, r2, r3, r4, r5⟩ := sym_spaced Tw.c39 Tw.p39 [42] Cd.syms 9 (42 :: d ++ [42]) (by omega) (by rw [hcl]; omega) good39 nw39 (by decide) syms39 (fun c hc j hj => t39e c hc ⟨j, hj⟩) (fun c hc j hj => t39i c hc ⟨j, hj⟩) hS
  rw [hcl] at r3
  refine ⟨r1, r2, ?_, ?_, ?_, r4, r5⟩
  · show Tw.text39 (42 :: d ++ [42]) check = l
    unfold Tw.text39
    rw [hcl, show d.length + 2 - 2 - check.toNat = l.length by omega]
    rw [show List.drop 1 (42 :: d ++ [42]) = d ++ [42] from rfl, List.take_append_of_le_length (by omega)]
    exact hpre
  · show Tw.counts 9 1 1000 (drawn Tw.c39 Tw.p39 9 (42 :: d ++ [42])).length check = true
    unfold Tw.counts
    rw [r3]
    simp only [Bool.and_eq_true, decide_eq_true_eq]
    omega
  · show (drawn Tw.c39 Tw.p39 9 (42 :: d ++ [42])).length % 2 = 1
    omega

theorem symCb (l : List UInt8) (check : Bool) (hl : l.length ≤ 1000) (h : (Tw.compCb l check).2 = 0) : Sym 1 l check (Tw.compCb l check).1 := by
  obtain ⟨a, m, x, b, hd, hl3, ha, hb', hm, hx⟩ : ∃ (a : UInt8) (m x : List UInt8) (b : UInt8), (Tw.compCb l check).1 = a :: (m ++ x) ++ [b] ∧ l = a :: m ++ [b] ∧ a ∈ Tw.eCb ∧ b ∈ Tw.eCb ∧ (∀ c ∈ m ++ x, c ∈ Tw.dCb) ∧ x.length = check.toNat := by
    unfold Tw.compCb at h ⊢
    by_cases h2 : l.length < 2
    · rw [if_pos h2] at h; simp at h
    · rw [if_neg h2] at h ⊢
      obtain ⟨a, t, rfl⟩ : ∃ a t, l = a :: t := by
        cases l with
        | nil => simp at h2
        | cons a t => exact ⟨a, t, rfl⟩
      obtain ⟨m, b, rfl⟩ : ∃ m b, t = m ++ [b] := ⟨t.dropLast, t.getLast (by intro e; rw [e] at h2; simp at h2), (List.dropLast_concat_getLast _).symm⟩
      have e1 : (a :: (m ++ [b])).length = m.length + 2 := by simp
      rw [e1] at h ⊢
      have e2 : (a :: (m ++ [b])).drop (m.length + 2 - 1) = [b] := by
        rw [show m.length + 2 - 1 = m.length + 1 by omega, List.drop_succ_cons, List.drop_left]
      have e3 : ((a :: (m ++ [b])).drop 1).take (m.length + 2 - 2) = m := by
        rw [show m.length + 2 - 2 = m.length by omega, List.drop_succ_cons, List.drop_zero, List.take_left]
      have e4 : (a :: (m ++ [b])).take (m.length + 2 - 1) = a :: m := by
        rw [show m.length + 2 - 1 = m.length + 1 by omega, List.take_succ_cons, List.take_left]
      rw [e2, e3, show (a :: (m ++ [b])).take 1 = [a] from rfl] at h
      rw [e2, e3, e4, show (a :: (m ++ [b])).take 1 = [a] from rfl]
      by_cases h3 : Tw.only [a] Tw.eCb = false
      · rw [if_pos h3] at h; simp at h
      · rw [if_neg h3] at h ⊢
        by_cases h4 : Tw.only [b] Tw.eCb = false
        · rw [if_pos h4] at h; simp at h
        · rw [if_neg h4] at h ⊢
          by_cases h5 : Tw.only m Tw.dCb = false
          · rw [if_pos h5] at h; simp at h
          · rw [if_neg h5] at h ⊢
            rw [Bool.not_eq_false] at h3 h4 h5
            have ha := only_mem h3 a (by simp)
            have hb := only_mem h4 b (by simp)
            have hm := only_mem h5
            cases check
            · rw [if_pos rfl]
              exact ⟨a, m, [], b, by simp, by simp, ha, hb, by simpa using hm, rfl⟩
            · rw [if_neg Bool.noConfusion]
              refine ⟨a, m, [Tw.dCb.getD ((16 - Tw.sumCb (a :: (m ++ [b])) % 16) % 16).toNat 0], b, by simp, by simp, ha, hb, fun c hc => ?_, rfl⟩
              rcases List.mem_append.1 hc with h1 | h1
              · exact hm c h1
              · rw [List.mem_singleton] at h1
                rw [h1]
                refine getD_mem' _ _ ?_
                have : Tw.dCb.length = 16 := rfl
                omega
  rw [hd]
  have hb : check.toNat ≤ 1 := Bool.toNat_le check
  have hll : l.length = m.length + 2 := by rw [hl3]; simp
  have hcl : (a :: (m ++ x) ++ [b]).length = m.length + x.length + 2 := by simp; omega
  have hS : ∀ i (h : i < (a :: (m ++ x) ++ [b]).length), (a :: (m ++ x) ++ [b])[i] ∈ setAt Tw.eCb Tw.dCb (a :: (m ++ x) ++ [b]).length i := by
    intro i hi
    rw [hcl] at hi
    unfold setAt
    rw [hcl]
    by_cases h0 : i = 0
    · subst h0; rw [if_pos (.inl rfl)]; exact ha
    · obtain ⟨j, rfl⟩ : ∃ j, i = j + 1 := ⟨i - 1, by omega⟩
      have e : (a :: (m ++ x) ++ [b])[j + 1]'(by rw [hcl]; exact hi) = ((m ++ x) ++ [b])[j]'(by simp; omega) := rfl
      rw [e]
      by_cases h1 : j = (m ++ x).length
      · rw [if_pos (.inr (by rw [h1, List.length_append])), List.getElem_append_right (by omega)]
        simpa using hb'
      · rw [List.length_append] at h1
        rw [if_neg (by omega), List.getElem_append_left (by rw [List.length_append]; omega)]
        exact hm _ (List.getElem_mem _)
  obtain ⟨r1, r2, r3, r4, r5⟩ := sym_spaced Tw.cCb Tw.pCb Tw.eCb Tw.dCb 7 (a :: (m ++ x) ++ [b]) (by omega) (by rw [hcl]; omega) goodCb nwCb ecbc dcbc (fun c hc j hj => tCbe c hc ⟨j, hj⟩) (fun c hc j hj => tCbi c hc ⟨j, hj⟩) hS
  rw [hcl] at r3
  refine ⟨r1, r2, ?_, ?_, ?_, r4, r5⟩
  · show Tw.textCb (a :: (m ++ x) ++ [b]) check = l
    unfold Tw.textCb
    rw [hcl, hl3]
    cases check
    · have : x = [] := List.eq_nil_of_length_eq_zero hx
      subst this
      simp
    · rw [if_pos rfl]
      obtain ⟨y, rfl⟩ : ∃ y, x = [y] := by
        match x, hx with
        | [y], _ => exact ⟨y, rfl⟩
      have e1 : (a :: (m ++ [y]) ++ [b]).take (m.length + [y].length + 2 - 2) = a :: m := by
        rw [show m.length + [y].length + 2 - 2 = m.length + 1 by simp, show a :: (m ++ [y]) ++ [b] = (a :: m) ++ ([y] ++ [b]) by simp, show m.length + 1 = (a :: m).length by simp, List.take_left]
      have e2 : (a :: (m ++ [y]) ++ [b]).drop (m.length + [y].length + 2 - 1) = [b] := by
        rw [show m.length + [y].length + 2 - 1 = (a :: (m ++ [y])).length by simp, List.drop_left]
      rw [e1, e2]
  · show Tw.counts 7 0 998 (drawn Tw.cCb Tw.pCb 7 (a :: (m ++ x) ++ [b])).length check = true
    unfold Tw.counts
    rw [r3]
    simp only [Bool.and_eq_true, decide_eq_true_eq]
    omega
  · show (drawn Tw.cCb Tw.pCb 7 (a :: (m ++ x) ++ [b])).length % 2 = 1
    omega

theorem mix_mem : ∀ (a b : List UInt8) (x : UInt8), x ∈ Tw.mix a b → x ∈ a ∨ x ∈ b
  | [], _, x, h => by simp [Tw.mix] at h
  | _ :: _, [], x, h => by simp [Tw.mix] at h
  | p :: a, q :: b, x, h => by
    simp only [Tw.mix, List.mem_cons] at h
    rcases h with rfl | rfl | h
    · exact .inl (List.mem_cons_self ..)
    · exact .inr (List.mem_cons_self ..)
    · rcases mix_mem a b x h with h | h
      · exact .inl (List.mem_cons_of_mem _ h)
      · exact .inr (List.mem_cons_of_mem _ h)
theorem pairs_nw : ∀ l : List UInt8, Digits l → ∀ x ∈ Tw.drawPairs l, x = 110 ∨ x = 119
  | [], _, x, h => by simp [Tw.drawPairs] at h
  | [_], _, x, h => by simp [Tw.drawPairs] at h
  | a :: b :: l, hd, x, h => by
    rw [Tw.drawPairs, List.mem_append] at h
    rcases h with h | h
    · rcases mix_mem _ _ x h with h | h
      · exact nwItf a (hd a (by simp)) x h
      · exact nwItf b (hd b (by simp)) x h
    · exact pairs_nw l (fun c hc => hd c (by simp [hc])) x h
theorem dig_wide : ∀ c ∈ Tw.cItf, 110 ∈ pd c ∧ 119 ∈ pd c := by decide +kernel
theorem cmp1_mem (l : List UInt8) (h : (Cd.compI 1 l).2 = 0) : ∀ c ∈ (Cd.compI 1 l).1, c ∈ Tw.cItf := by
  rw [compI_ok 1 l h]
  exact fun c hc => index_mem (cmp1_dig l c hc)
theorem mem_mix (a b : List UInt8) (x : UInt8) (ha : a.length = 5) (hb : b.length = 5) (h : x ∈ a) : x ∈ Tw.mix a b := by
  obtain ⟨a0, a1, a2, a3, a4, rfl⟩ := list5 ha
  obtain ⟨b0, b1, b2, b3, b4, rfl⟩ := list5 hb
  simp only [List.mem_cons, List.not_mem_nil, or_false] at h
  simp only [Tw.mix, List.mem_cons, List.not_mem_nil, or_false]
  rcases h with h | h | h | h | h <;> simp [h]
theorem symItf (l : List UInt8) (check : Bool) (hl : 1 ≤ l.length ∧ l.length ≤ 1000) (h : (Tw.compItf l check).2 = 0) : Sym 2 l check (Tw.compItf l check).1 := by
  obtain ⟨d, hd, hmem, hlen, hpre, hev⟩ : ∃ d, (Tw.compItf l check).1 = d ∧ Digits d ∧ d.length = l.length + check.toNat ∧ d.take l.length = l ∧ d.length % 2 = 0 := by
    unfold Tw.compItf at h ⊢
    by_cases ho : Tw.only l Tw.cItf = false
    · rw [if_pos ho] at h; simp at h
    · rw [if_neg ho] at h ⊢
      rw [Bool.not_eq_false] at ho
      cases check
      · rw [if_pos rfl] at h ⊢
        by_cases he : l.length % 2 = 0
        · rw [if_pos he]
          exact ⟨l, rfl, only_mem ho, rfl, List.take_length, he⟩
        · rw [if_neg he] at h; simp at h
      · rw [if_neg Bool.noConfusion] at h ⊢
        by_cases hz : (Cd.compI 1 l).2 = 0
        · rw [if_pos hz] at h ⊢
          by_cases he : (l ++ (Cd.compI 1 l).1).length % 2 = 0
          · rw [if_pos he]
            refine ⟨l ++ (Cd.compI 1 l).1, rfl, fun c hc => ?_, by rw [List.length_append, comp_len1 1 l (by omega) hz]; rfl, List.take_left, he⟩
            rcases List.mem_append.1 hc with h1 | h1
            · exact only_mem ho c h1
            · exact cmp1_mem l hz c h1
          · rw [if_neg he] at h; simp at h
        · rw [if_neg hz] at h; exact absurd h hz
  rw [hd]
  have hb : check.toNat ≤ 1 := Bool.toNat_le check
  obtain ⟨n, hn⟩ : ∃ n, d.length = 2 * n := ⟨d.length / 2, by omega⟩
  have hil := itf_len n d hmem hn
  refine ⟨read_itf n d hmem hn, fun p hp => read_itf_turned n d hmem hn p hp, ?_, ?_, ?_, ?_, fun p => ?_⟩
  · show Tw.textItf d check = l
    unfold Tw.textItf
    cases check
    · have e : l.length = d.length := by rw [hlen]; rfl
      rw [e, List.take_length] at hpre
      rw [if_neg Bool.noConfusion]; exact hpre
    · rw [if_pos rfl, hlen]; exact hpre
  · show Tw.countsItf (Tw.drawItf d).length = true
    unfold Tw.countsItf
    rw [hil]
    simp only [Bool.and_eq_true, decide_eq_true_eq]
    omega
  · show (Tw.drawItf d).length % 2 = 1
    omega
  · intro x hx
    have hx' : x ∈ [110, 110, 110, 110] ++ Tw.drawPairs d ++ [119, 110, 110] := hx
    rw [List.mem_append, List.mem_append] at hx'
    rcases hx' with (h1 | h1) | h1
    · exact .inl (by simpa using h1)
    · exact pairs_nw d hmem x h1
    · simp only [List.mem_cons, List.not_mem_nil, or_false] at h1
      rcases h1 with rfl | rfl | rfl <;> simp
  · have n1 : 1 ≤ n := by omega
    have hpr := itf_pair n d hmem hn 0 n1
    have c0 := hmem _ (getD_mem' d 0 (by omega))
    have c1 := hmem _ (getD_mem' d 1 (by omega))
    have m0 : 110 ∈ Tw.pairAt (Tw.drawItf d) 0 ∧ 119 ∈ Tw.pairAt (Tw.drawItf d) 0 := by
      rw [hpr]
      exact ⟨mem_mix _ _ _ (good_itf _ c0).1 (good_itf _ c1).1 (dig_wide _ c0).1, mem_mix _ _ _ (good_itf _ c0).1 (good_itf _ c1).1 (dig_wide _ c0).2⟩
    have m1 : ((Tw.drawItf d).drop ((Tw.drawItf d).length - 3)).take 10 = [119, 110, 110] := by rw [itf_tail n d hmem hn]; rfl
    refine two_blocks (Tw.drawItf d) 4 ((Tw.drawItf d).length - 3) 10 p (by omega) m0 ?_
    rw [m1]; decide

theorem compK_len (k : Nat) (l : List UInt8) (check : Bool) : (Tw.compK k l check).1.length ≤ l.length + 4 := by
  have hc7 := compI_len 7 l
  have hc1 := compI_len 1 l
  match k with
  | 0 =>
    show (Tw.comp39 l check).1.length ≤ _
    unfold Tw.comp39
    repeat' split
    all_goals simp only [List.length_append, List.length_cons, List.length_nil]; omega
  | 1 =>
    show (Tw.compCb l check).1.length ≤ _
    unfold Tw.compCb
    repeat' split
    all_goals simp only [List.length_append, List.length_cons, List.length_nil, List.length_take, List.length_drop]; omega
  | k + 2 =>
    show (Tw.compItf l check).1.length ≤ _
    unfold Tw.compItf
    repeat' split
    all_goals simp only [List.length_append, List.length_nil]; omega

/-- What Encode returns. -/
theorem enc_sym (kind : Int) (l : List UInt8) (r : Int) (check : Bool) (ws : List Int) (h : Tw.enc kind l r check = (ws, 0)) :
    ∃ k chars, ((kind = 5 ∧ k = 0) ∨ (kind = 6 ∧ k = 1) ∨ (kind = 7 ∧ k = 2)) ∧ Tw.compK k l check = (chars, 0) ∧ ws = Tw.widths r (Tw.drawK k chars) ∧ (r = 2 ∨ r = 3) ∧ Sym k l check chars := by
  have key : ∀ k, k < 3 → Tw.encK k l r check = (ws, 0) → ∃ chars, Tw.compK k l check = (chars, 0) ∧ ws = Tw.widths r (Tw.drawK k chars) ∧ (r = 2 ∨ r = 3) ∧ Sym k l check chars := by
    intro k hk h
    unfold Tw.encK at h
    by_cases hr : r ≠ 2 ∧ r ≠ 3
    · rw [if_pos hr] at h; simp at h
    · rw [if_neg hr] at h
      by_cases h0 : l = []
      · rw [if_pos h0] at h; simp at h
      · rw [if_neg h0] at h
        by_cases h1 : 1000 < l.length
        · rw [if_pos h1] at h; simp at h
        · rw [if_neg h1] at h
          by_cases h2 : (Tw.compK k l check).2 ≠ 0
          · rw [if_pos h2] at h; injection h with _ h; exact absurd h h2
          · rw [if_neg h2] at h
            have h2' : (Tw.compK k l check).2 = 0 := Decidable.of_not_not h2
            have hlp : 1 ≤ l.length := List.length_pos_iff.2 h0
            injection h with h _
            refine ⟨(Tw.compK k l check).1, Prod.ext rfl h2', h.symm, by omega, ?_⟩
            match k, hk with
            | 0, _ => exact sym39 l check ⟨hlp, by omega⟩ h2'
            | 1, _ => exact symCb l check (by omega) h2'
            | 2, _ => exact symItf l check ⟨hlp, by omega⟩ h2'
  unfold Tw.enc at h
  by_cases h5 : kind = 5
  · rw [if_pos h5] at h
    obtain ⟨chars, hc⟩ := key 0 (by omega) h
    exact ⟨0, chars, .inl ⟨h5, rfl⟩, hc⟩
  · rw [if_neg h5] at h
    by_cases h6 : kind = 6
    · rw [if_pos h6] at h
      obtain ⟨chars, hc⟩ := key 1 (by omega) h
      exact ⟨1, chars, .inr (.inl ⟨h6, rfl⟩), hc⟩
    · rw [if_neg h6] at h
      by_cases h7 : kind = 7
      · rw [if_pos h7] at h
        obtain ⟨chars, hc⟩ := key 2 (by omega) h
        exact ⟨2, chars, .inr (.inr ⟨h7, rfl⟩), hc⟩
      · rw [if_neg h7] at h; simp at h
theorem dec_kind (kind : Int) (k : Nat) (hk : (kind = 5 ∧ k = 0) ∨ (kind = 6 ∧ k = 1) ∨ (kind = 7 ∧ k = 2)) (ws : List Int) (check : Bool) : Tw.dec kind ws check = Tw.decK k ws check := by
  unfold Tw.dec
  rcases hk with ⟨rfl, rfl⟩ | ⟨rfl, rfl⟩ | ⟨rfl, rfl⟩ <;> rfl
/-- Widths that are read as the elements that were drawn give the text. -/
theorem dec_ok (k : Nat) (l : List UInt8) (check : Bool) (chars : List UInt8) (hs : Sym k l check chars) (hc : Tw.compK k l check = (chars, 0)) (ws : List Int) (hw : Tw.wide ws = (isW (Tw.drawK k chars), 0)) (hl : ws.length = (Tw.drawK k chars).length) : Tw.decK k ws check = (l, 0) := by
  unfold Tw.decK
  rw [hw, hl, hs.counts, if_neg Bool.noConfusion, if_neg (fun h => h rfl)]
  simp only
  rw [elems_isW _ hs.nw, hs.read, if_neg (fun h => h rfl)]
  simp only
  rw [hs.text]
  by_cases hck : check = true
  · subst hck
    rw [hc, if_neg (fun h => h.2 rfl)]
  · rw [if_neg (fun h => hck h.1)]
theorem turnAt_nw (e : List UInt8) (p : Nat) (h : NW e) : NW (turnAt e p) := by
  intro x hx
  unfold turnAt at hx
  rcases List.mem_or_eq_of_mem_set hx with h1 | h1
  · exact h x h1
  · rw [h1]; unfold turn; split <;> simp
theorem dec_turned (k : Nat) (l : List UInt8) (check : Bool) (chars : List UInt8) (hs : Sym k l check chars) (p : Nat) (hp : p < (Tw.drawK k chars).length) (ws : List Int) (hw : Tw.wide ws = (isW (turnAt (Tw.drawK k chars) p), 0)) (hl : ws.length = (Tw.drawK k chars).length) :
    (Tw.decK k ws check).1 = [] ∧ (Tw.decK k ws check).2 ≠ 0 := by
  have ht := hs.turned p hp
  unfold Tw.decK
  rw [hw, hl, hs.counts, if_neg Bool.noConfusion, if_neg (fun h => h rfl)]
  simp only
  rw [elems_isW _ (turnAt_nw _ p hs.nw), if_pos ht]
  exact ⟨rfl, ht⟩
end Go.Proofs.YthjlnpcaclfopaaGreat
