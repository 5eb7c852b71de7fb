/-
  Chapter 48 as plain functions: the font, costs, the characters by their cost, lines, cells.
  No condition.
-/
import Derived.Shelf.SlSortCmp.Insertion
import Derived.Lib.Small

/-
  Chapter 48 as plain functions: the font, costs, the characters by their cost, lines, cells.
  No condition.
-/
namespace Go.Proofs.YtamkgbodifjlaaaGreatDoor.Gl

/-! ### The font -/
def font : List Nat := [
  0, 17734058000, 22166896640, 11105828170, 4819720132, 26610901603, 13510137421, 26055016448, 4580720900, 17452634384, 156718208, 139432064, 24848, 1015808, 792, 35791360,
  15692650286, 4718727327, 15603929375, 33357366830, 2359917634, 33854359086, 6728664622, 33321787656, 15613438510, 15621129292, 830497536, 830497040, 2290622594, 32537600, 17452568848, 15603929092,
  15627640334, 15621670449, 32801506878, 16660316687, 30687151708, 33840644639, 33840579088, 15620359727, 18842895921, 33424543903, 7585466956, 18879369809, 17734058527, 19182306865, 18850958897, 15621211694,
  32801505808, 15621215821, 32801512049, 16660235326, 33424543876, 18842437166, 18842436932, 18842572657, 18834663985, 18834657412, 33321787935, 30618960412, 30203318428, 31]
/-- The characters of the font. -/
def known (c : UInt8) : Bool := (decide (32 ≤ c.toNat) && decide (c.toNat ≤ 90)) || c.toNat == 91 || c.toNat == 93 || c.toNat == 95
def chars : List UInt8 := ((List.range 60).map fun i => UInt8.ofNat (32 + i)) ++ [93, 95]
def idx (c : UInt8) : Nat := if c.toNat ≤ 91 then c.toNat - 32 else if c.toNat = 93 then 60 else 61
def code (c : UInt8) : Nat := font.getD (idx c) 0
def bitAt (n i : Nat) : Bool := n.testBit (34 - i)
/-- The pixels of a glyph. -/
def pix (c : UInt8) : List Bool := (List.range 35).map (bitAt (code c))
/-- The rows of a glyph as the tables have them: 41 bytes. -/
def txt (c : UInt8) : List UInt8 := (List.range 41).map fun i => if i % 6 = 5 then 32 else if bitAt (code c) (i / 6 * 5 + i % 6) then 49 else 48

theorem known_iff : ∀ n : Fin 256, known (UInt8.ofNat n.1) = decide (UInt8.ofNat n.1 ∈ chars) := by decide +kernel
theorem known_mem (c : UInt8) : known c = decide (c ∈ chars) := by
  have h := known_iff ⟨c.toNat, by have := c.toNat_lt; omega⟩
  simpa using h
theorem chars_len : chars.length = 62 := rfl
theorem chars_nodup : chars.Nodup := by decide +kernel
theorem txt_pix : ∀ c ∈ chars, ((txt c).filter (· != 32)).map (· == 49) = pix c := by decide +kernel
theorem txt_len (c : UInt8) : (txt c).length = 41 := by simp [txt]
theorem pix_len (c : UInt8) : (pix c).length = 35 := by simp [pix]
theorem pix_at (c : UInt8) {i : Nat} (hi : i < 35) : (pix c).getD i false = bitAt (code c) i := by
  simp [pix, List.getD_eq_getElem?_getD, hi]

/-! ### Costs -/
abbrev Ch := UInt8 × Int
/-- The number of pixels at which a bitmap differs from a glyph. -/
def cost (m : List Bool) (c : UInt8) : Nat := (List.range 35).countP fun i => m.getD i false != bitAt (code c) i
def dist (a b : UInt8) : Nat := cost (pix a) b
theorem cost_le (m : List Bool) (c : UInt8) : cost m c ≤ 35 := by
  have := List.countP_le_length (p := fun i => m.getD i false != bitAt (code c) i) (l := List.range 35)
  simpa [cost] using this

/-- The order of Match: by costs, then by characters. -/
def cfM (x y : Ch) : Int := if Lib.compareInt x.2 y.2 ≠ 0 then Lib.compareInt x.2 y.2 else Lib.compareInt (x.1.toNat : Int) (y.1.toNat : Int)
theorem ltM (x y : Ch) : ltOf cfM x y = decide (x.2 < y.2 ∨ (x.2 = y.2 ∧ x.1.toNat < y.1.toNat)) := by
  unfold ltOf cfM Lib.compareInt
  by_cases h1 : x.2 < y.2
  · simp [h1]
  · by_cases h2 : y.2 < x.2
    · have : ¬ x.2 = y.2 := by omega
      simp [h1, h2, this]
    · have e : x.2 = y.2 := by omega
      by_cases h3 : x.1.toNat < y.1.toNat
      · have h3' : (x.1.toNat : Int) < (y.1.toNat : Int) := by omega
        simp [e, h3, h3']
      · have h3' : ¬ (x.1.toNat : Int) < (y.1.toNat : Int) := by omega
        by_cases h4 : (y.1.toNat : Int) < (x.1.toNat : Int) <;> simp [e, h3, h3', h4]
theorem swoM : Go.Sort.SWO (ltOf cfM) where
  irrefl x := by rw [ltM]; simp
  trans x y z h1 h2 := by rw [ltM] at *; simp only [decide_eq_true_eq] at *; omega
  ntrans x y z h1 h2 := by rw [ltM] at *; simp only [decide_eq_false_iff_not] at *; omega
theorem totM (x y : Ch) (h1 : ltOf cfM x y = false) (h2 : ltOf cfM y x = false) : x = y := by
  rw [ltM] at *
  simp only [decide_eq_false_iff_not] at *
  have e1 : x.2 = y.2 := by omega
  have e2 : x.1 = y.1 := UInt8.toNat_inj.1 (by omega)
  exact Prod.ext e2 e1

/-- What Match returns: the characters by ascending costs. -/
def ranked (m : List Bool) : List Ch := (List.range 36).flatMap fun n => (chars.filter fun c => cost m c == n).map fun c => (c, (n : Int))
def priced (m : List Bool) : List Ch := chars.map fun c => (c, (cost m c : Int))

theorem flat_perm {α : Type} (f : α → Nat) (l : List α) (N : Nat) : (List.range N).flatMap (fun n => l.filter fun x => f x == n) |>.Perm (l.filter fun x => decide (f x < N)) := by
  induction N with
  | zero => simp
  | succ N ih =>
    rw [List.range_succ, List.flatMap_append]
    refine (List.Perm.append_right _ ih).trans ?_
    have h := List.filter_append_perm (fun x => decide (f x < N)) (l.filter fun x => decide (f x < N + 1))
    rw [List.filter_filter, List.filter_filter] at h
    refine List.Perm.trans (List.Perm.of_eq ?_) h
    simp only [List.flatMap_cons, List.flatMap_nil, List.append_nil]
    congr 1
    · refine List.filter_congr fun x _ => ?_
      by_cases h : f x < N
      · have : f x < N + 1 := by omega
        simp [h, this]
      · simp [h]
    · refine List.filter_congr fun x _ => ?_
      by_cases h : f x = N
      · simp [h]
      · by_cases h2 : f x < N
        · have : f x < N + 1 := by omega
          simp [h, h2]
        · have : ¬ f x < N + 1 := by omega
          simp [h, this]
theorem ranked_perm (m : List Bool) : (ranked m).Perm (priced m) := by
  have h := flat_perm (cost m) chars 36
  have h0 : (chars.filter fun x => decide (cost m x < 36)) = chars := List.filter_eq_self.2 fun x _ => by have := cost_le m x; simp; omega
  rw [h0] at h
  have h1 := h.map fun c => (c, (cost m c : Int))
  refine List.Perm.trans (List.Perm.of_eq ?_) h1
  rw [List.map_flatMap]
  unfold ranked
  congr 1
  funext n
  refine List.map_congr_left fun c hc => ?_
  have := (List.mem_filter.1 hc).2
  simp only [beq_iff_eq] at this
  rw [this]
theorem chars_sorted : chars.Pairwise (fun a b => a.toNat < b.toNat) := by decide +kernel
theorem ranked_sorted (m : List Bool) : (ranked m).Pairwise fun x y => (!(ltOf cfM y x)) = true := by
  unfold ranked
  rw [List.pairwise_flatMap]
  refine ⟨fun n _ => ?_, ?_⟩
  · rw [List.pairwise_map]
    refine (chars_sorted.filter _).imp fun {a b} h => ?_
    rw [ltM]
    simp
    omega
  · refine List.pairwise_lt_range.imp fun {a b} hab => ?_
    intro x hx y hy
    obtain ⟨c, _, rfl⟩ := List.mem_map.1 hx
    obtain ⟨d, _, rfl⟩ := List.mem_map.1 hy
    rw [ltM]
    simp
    omega
/-- The library's sort gives the same list. -/
theorem ranked_sort (m : List Bool) : (priced m).mergeSort (fun x y => !(ltOf cfM y x)) = ranked m := by
  refine List.Perm.eq_of_pairwise (le := fun x y => (!(ltOf cfM y x)) = true) ?_ ?_ (ranked_sorted m) ((List.mergeSort_perm _ _).trans (ranked_perm m).symm)
  · intro a b _ _ h1 h2
    simp only [Bool.not_eq_true'] at h1 h2
    exact totM a b h2 h1
  · refine List.pairwise_mergeSort ?_ ?_ _
    · intro a b c h1 h2
      rw [ltM] at *
      simp only [Bool.not_eq_true', decide_eq_false_iff_not] at *
      omega
    · intro a b
      rw [ltM, ltM]
      simp only [Bool.or_eq_true, Bool.not_eq_true', decide_eq_false_iff_not]
      omega
theorem ranked_len (m : List Bool) : (ranked m).length = 62 := by rw [(ranked_perm m).length_eq]; simp [priced, chars_len]
theorem ranked_mem (m : List Bool) {x : Ch} (h : x ∈ ranked m) : x.1 ∈ chars ∧ x.2 = (cost m x.1 : Int) := by
  have := (ranked_perm m).mem_iff.1 h
  obtain ⟨c, hc, rfl⟩ := List.mem_map.1 this
  exact ⟨hc, rfl⟩
/-- The characters within a distance of another one. -/
def near (c : UInt8) (d : Int) : List UInt8 := chars.filter fun o => o != c && decide ((dist c o : Int) ≤ d)
end Go.Proofs.YtamkgbodifjlaaaGreatDoor.Gl

/-
  Chapter 48 as plain functions: the lines of a bitmap, cells, what Read reads.
  No condition.
-/
namespace Go.Proofs.YtamkgbodifjlaaaGreatDoor.Gl

/-! ### Lines -/
def rowAt (m : List Bool) (W y : Nat) : List Bool := (m.drop (y * W)).take W
theorem rowAt_at (m : List Bool) (W y x : Nat) (hx : x < W) : (rowAt m W y).getD x false = m.getD (y * W + x) false := by
  unfold rowAt
  rw [List.getD_eq_getElem?_getD, List.getElem?_take, if_pos hx, List.getElem?_drop, List.getD_eq_getElem?_getD]
theorem rowAt_len (m : List Bool) (W y H : Nat) (hm : m.length = W * H) (hy : y < H) : (rowAt m W y).length = W := by
  unfold rowAt
  rw [List.length_take, List.length_drop, hm]
  have : (y + 1) * W ≤ W * H := by rw [Nat.mul_comm W H]; exact Nat.mul_le_mul_right W hy
  rw [Nat.add_mul, Nat.one_mul] at this
  omega
/-- The first and the last dark column of the first n. -/
def endsN (r : List Bool) : Nat → Option (Nat × Nat)
  | 0 => none
  | n + 1 => if r.getD n false = true then (match endsN r n with | none => some (n, n) | some (a, _) => some (a, n)) else endsN r n
def ends (r : List Bool) : Option (Nat × Nat) := endsN r r.length
theorem endsN_none {r : List Bool} {n : Nat} (h : ∀ i, i < n → r.getD i false = false) : endsN r n = none := by
  induction n with
  | zero => rfl
  | succ n ih => unfold endsN; rw [h n (Nat.lt_succ_self n)]; exact ih fun i hi => h i (by omega)
theorem endsN_fst {r : List Bool} {a n : Nat} (ha : r.getD a false = true) (h : ∀ i, i < a → r.getD i false = false) (hn : a < n) : ∃ b, endsN r n = some (a, b) := by
  induction n with
  | zero => omega
  | succ n ih =>
    unfold endsN
    by_cases e : a = n
    · subst e
      rw [if_pos ha, endsN_none h]
      exact ⟨_, rfl⟩
    · obtain ⟨b, hb⟩ := ih (by omega)
      rw [hb]
      split
      · exact ⟨_, rfl⟩
      · exact ⟨_, rfl⟩
theorem endsN_lst {r : List Bool} {b n : Nat} (hb : r.getD b false = true) (hn : b < n) (h : ∀ i, b < i → i < n → r.getD i false = false) : ∃ a, endsN r n = some (a, b) := by
  induction n with
  | zero => omega
  | succ n ih =>
    unfold endsN
    by_cases e : b = n
    · subst e
      rw [if_pos hb]
      split
      · exact ⟨_, rfl⟩
      · exact ⟨_, rfl⟩
    · rw [h n (by omega) (by omega), if_neg (by simp)]
      exact ih (by omega) fun i h1 h2 => h i h1 (by omega)
theorem ends_some {r : List Bool} {a b : Nat} (ha : r.getD a false = true) (h1 : ∀ i, i < a → r.getD i false = false) (hb : r.getD b false = true) (hl : b < r.length) (h2 : ∀ i, b < i → i < r.length → r.getD i false = false) : ends r = some (a, b) := by
  have hab : a < r.length := by
    rcases Nat.lt_or_ge a r.length with h | h
    · exact h
    · rw [List.getD_eq_getElem?_getD, List.getElem?_eq_none h] at ha; simp at ha
  obtain ⟨b', e1⟩ := endsN_fst ha h1 hab
  obtain ⟨a', e2⟩ := endsN_lst hb hl h2
  unfold ends
  rw [e1] at e2 ⊢
  injection e2 with e2
  injection e2 with e3 e4
  rw [e4]
theorem endsN_lt {r : List Bool} {n a b : Nat} (h : endsN r n = some (a, b)) : a ≤ b ∧ b < n := by
  induction n generalizing a b with
  | zero => simp [endsN] at h
  | succ n ih =>
    unfold endsN at h
    split at h
    · cases e : endsN r n with
      | none =>
        rw [e] at h
        simp only [Option.some.injEq, Prod.mk.injEq] at h
        omega
      | some p =>
        obtain ⟨a', b'⟩ := p
        rw [e] at h
        simp only [Option.some.injEq, Prod.mk.injEq] at h
        have := ih e
        omega
    · have := ih h; omega

/-- A box: its corner, width and height. -/
abbrev Bx := Int × Int × Int × Int
def upd (b : Bx) (f l : Nat) : Bx := (min b.1 (f : Int), b.2.1, max (b.1 + b.2.2.1) ((l : Int) + 1) - min b.1 (f : Int), b.2.2.2 + 1)
def lstep (st : List Bx × Bool) (y : Nat) : Option (Nat × Nat) → List Bx × Bool
  | none => (st.1, false)
  | some (f, l) => if st.2 = true then (st.1.dropLast ++ [upd (st.1.getLast?.getD (0, 0, 0, 0)) f l], true) else (st.1 ++ [((f : Int), (y : Int), (l : Int) + 1 - f, 1)], true)
def linesN (m : List Bool) (W : Nat) : Nat → List Bx × Bool
  | 0 => ([], false)
  | y + 1 => lstep (linesN m W y) y (ends (rowAt m W y))
/-- What Lines returns. -/
def lines (m : List Bool) (W H : Nat) : List Bx := (linesN m W H).1
/-- What the lines of the first rows keep. -/
theorem linesN_ok (m : List Bool) (W H : Nat) (hm : m.length = W * H) : ∀ y, y ≤ H → ((linesN m W y).2 = true → (linesN m W y).1 ≠ []) ∧ (linesN m W y).1.length ≤ y ∧ ∀ b ∈ (linesN m W y).1, 0 ≤ b.1 ∧ 0 ≤ b.2.1 ∧ 0 ≤ b.2.2.1 ∧ b.1 + b.2.2.1 ≤ W ∧ 0 ≤ b.2.2.2 ∧ b.2.1 + b.2.2.2 ≤ y := by
  intro y hy
  induction y with
  | zero => simp [linesN]
  | succ y ih =>
    obtain ⟨h0, hl, h1⟩ := ih (by omega)
    have hlen := rowAt_len m W y H hm hy
    have hall : ∀ b ∈ (linesN m W y).1, 0 ≤ b.1 ∧ 0 ≤ b.2.1 ∧ 0 ≤ b.2.2.1 ∧ b.1 + b.2.2.1 ≤ W ∧ 0 ≤ b.2.2.2 ∧ b.2.1 + b.2.2.2 ≤ ((y + 1 : Nat) : Int) := fun b hb => by
      have := h1 b hb; omega
    unfold linesN lstep
    cases e : ends (rowAt m W y) with
    | none => exact ⟨by simp, by simp only; omega, hall⟩
    | some p =>
      obtain ⟨f, l⟩ := p
      have hfl := endsN_lt e
      rw [hlen] at hfl
      dsimp only
      by_cases ho : (linesN m W y).2 = true
      · rw [if_pos ho]
        have hne := h0 ho
        refine ⟨by simp, ?_, ?_⟩
        · simp only [List.length_append, List.length_dropLast, List.length_cons, List.length_nil]
          have := List.length_pos_iff.2 hne
          omega
        · intro b hb
          simp only [List.mem_append, List.mem_singleton] at hb
          rcases hb with hb | rfl
          · exact hall b (List.dropLast_subset _ hb)
          · have hg : (linesN m W y).1.getLast? = some ((linesN m W y).1.getLast hne) := List.getLast?_eq_some_getLast hne
            rw [hg, Option.getD_some]
            have := h1 _ (List.getLast_mem hne)
            revert this
            generalize (linesN m W y).1.getLast hne = q
            obtain ⟨q1, q2, q3, q4⟩ := q
            intro this
            unfold upd
            dsimp only at this ⊢
            omega
      · rw [if_neg ho]
        refine ⟨by simp, ?_, ?_⟩
        · simp only [List.length_append, List.length_cons, List.length_nil]; omega
        · intro b hb
          simp only [List.mem_append, List.mem_singleton] at hb
          rcases hb with hb | rfl
          · exact hall b hb
          · dsimp only; omega

/-! ### Cells -/
/-- The number of dark pixels of a square that lie in a line whose right and lower ends are xr, yb. -/
def cellRow (m : List Bool) (W xr yb x v k : Nat) : Nat := (List.range k).countP fun i => decide (x + i < xr) && decide (v < yb) && m.getD (v * W + (x + i)) false
def cellN (m : List Bool) (W xr yb x y k : Nat) : Nat → Nat
  | 0 => 0
  | j + 1 => cellN m W xr yb x y k j + cellRow m W xr yb x (y + j) k
def cell (m : List Bool) (W xr yb x y k : Nat) : Bool := decide (k * k < 2 * cellN m W xr yb x y k k)
def cells (m : List Bool) (W xr yb x y k : Nat) : List Bool := (List.range 35).map fun i => cell m W xr yb (x + i % 5 * k) (y + i / 5 * k) k
theorem cellRow_le (m : List Bool) (W xr yb x v k : Nat) : cellRow m W xr yb x v k ≤ k := by
  have := List.countP_le_length (p := fun i => decide (x + i < xr) && decide (v < yb) && m.getD (v * W + (x + i)) false) (l := List.range k)
  simpa [cellRow] using this
theorem cellN_le (m : List Bool) (W xr yb x y k j : Nat) : cellN m W xr yb x y k j ≤ j * k := by
  induction j with
  | zero => simp [cellN]
  | succ j ih =>
    have := cellRow_le m W xr yb x (y + j) k
    unfold cellN
    rw [Nat.add_mul, Nat.one_mul]
    omega
/-- The number of characters of a line. -/
def many (w k : Nat) : Nat := (w + k + 6 * k - 1) / (6 * k)
/-- The characters of a line from (x, y) with width w and height h: the box's corner, and the characters by costs. -/
def read (m : List Bool) (W x y w h k : Nat) : List (Nat × List Ch) := (List.range (many w k)).map fun i => (x + 6 * i * k, ranked (cells m W (x + w) (y + h) (x + 6 * i * k) y k))
end Go.Proofs.YtamkgbodifjlaaaGreatDoor.Gl

/-
  Chapter 48 as plain functions: a drawn text; the chapter's examples.
  No condition.
-/
namespace Go.Proofs.YtamkgbodifjlaaaGreatDoor.Gl

/-- A pixel of the bitmap of a text. -/
def px (s : List UInt8) (k x y : Nat) : Bool := decide (x % (6 * k) < 5 * k) && bitAt (code (s.getD (x / (6 * k)) 32)) (y / k * 5 + x % (6 * k) / k)
def wid (s : List UInt8) (k : Nat) : Nat := (6 * s.length - 1) * k
/-- The bitmap of a text. -/
def drawn (s : List UInt8) (k : Nat) : List Bool := (List.range (wid s k * (7 * k))).map fun p => px s k (p % wid s k) (p / wid s k)
theorem drawn_len (s : List UInt8) (k : Nat) : (drawn s k).length = wid s k * (7 * k) := by simp [drawn]

theorem ex_lines : lines (drawn [65, 49] 2) 22 14 = [(0, 0, 22, 14)] := by decide +kernel
theorem ex_read : (read (drawn [65, 49] 2) 22 0 0 22 14 2).map (fun p => (p.1, p.2.headD (0, 0))) = [(0, (65, 0)), (12, (49, 0))] := by decide +kernel
theorem ex_near : (near 79 5).contains 48 = true ∧ (near 79 5).contains 71 = true ∧ (near 79 5).contains 81 = true ∧ (near 79 5).contains 85 = true ∧ (near 79 5).contains 68 = false ∧ (near 79 5).contains 79 = false := by decide +kernel
theorem ex_match : (ranked (pix 79)).headD (0, 0) = (79, 0) := by decide +kernel
end Go.Proofs.YtamkgbodifjlaaaGreatDoor.Gl

/-
  Chapter 48, plain: Lines and Read of a drawn text.
  No condition.
-/
namespace Go.Proofs.YtamkgbodifjlaaaGreatDoor.Gl

def solid (c : UInt8) : Bool := (decide (48 ≤ c.toNat) && decide (c.toNat ≤ 57)) || (decide (65 ≤ c.toNat) && decide (c.toNat ≤ 90))
def drawable (s : List UInt8) : Bool := decide (0 < s.length) && decide (s.length ≤ 20) && (s.getD 0 32 != 32) && (s.getD (s.length - 1) 32 != 32) && s.all (fun c => chars.contains c) && s.any solid
theorem font_rows : ∀ c ∈ chars, solid c = true → ∀ r : Fin 7, (List.range 5).any (fun j => bitAt (code c) (r.1 * 5 + j)) = true := by decide +kernel
theorem font_left : ∀ c ∈ chars, c ≠ 32 → (List.range 7).any (fun r => bitAt (code c) (r * 5)) = true := by decide +kernel
theorem font_dist : ∀ c ∈ chars, ∀ d ∈ chars, c ≠ d → 0 < dist c d := by decide +kernel
theorem cost_pix (c : UInt8) : cost (pix c) c = 0 := by
  unfold cost
  rw [List.countP_eq_zero]
  intro i hi
  rw [pix_at c (List.mem_range.1 hi)]
  simp

theorem div_cell {k a u : Nat} (hu : u < k) : (a * k + u) / k = a := by
  rw [Nat.add_comm, Nat.add_mul_div_right _ _ (by omega), Nat.div_eq_of_lt hu, Nat.zero_add]
theorem px_cell (s : List UInt8) (k i j u v : Nat) (_hj : j < 35) (hu : u < k) (hv : v < k) : px s k (6 * i * k + j % 5 * k + u) (j / 5 * k + v) = bitAt (code (s.getD i 32)) j := by
  have hq : j % 5 < 5 := Nat.mod_lt _ (by omega)
  have h1 : j % 5 * k + u < 5 * k := by
    have : j % 5 * k ≤ 4 * k := Nat.mul_le_mul_right k (by omega)
    omega
  have h2 : 6 * i * k + j % 5 * k + u = (j % 5 * k + u) + 6 * k * i := by
    rw [Nat.mul_right_comm 6 i k]; omega
  have e1 : (6 * i * k + j % 5 * k + u) % (6 * k) = j % 5 * k + u := by
    rw [h2, Nat.add_mul_mod_self_left, Nat.mod_eq_of_lt (by omega)]
  have e2 : (6 * i * k + j % 5 * k + u) / (6 * k) = i := by
    rw [h2, Nat.add_mul_div_left _ _ (by omega), Nat.div_eq_of_lt (by omega), Nat.zero_add]
  unfold px
  rw [e1, e2, div_cell hv, div_cell hu]
  have : j / 5 * 5 + j % 5 = j := by omega
  rw [this]
  simp [h1]
theorem px_gap (s : List UInt8) (k i x y : Nat) (h1 : 6 * i * k + 5 * k ≤ x) (h2 : x < 6 * (i + 1) * k) : px s k x y = false := by
  have e : x = (x - 6 * i * k) + 6 * k * i := by rw [Nat.mul_right_comm 6 k i]; omega
  have h3 : x - 6 * i * k < 6 * k := by rw [Nat.mul_add, Nat.add_mul] at h2; omega
  unfold px
  have e1 : x % (6 * k) = x - 6 * i * k := by
    rw [e, Nat.add_mul_mod_self_left]
    rw [← e, Nat.mod_eq_of_lt h3]
  rw [e1]
  have : ¬ x - 6 * i * k < 5 * k := by omega
  simp [this]
theorem drawn_at (s : List UInt8) (k x y : Nat) (hx : x < wid s k) (hy : y < 7 * k) : (drawn s k).getD (y * wid s k + x) false = px s k x y := by
  unfold drawn
  have h : y * wid s k + x < wid s k * (7 * k) := by
    have : (y + 1) * wid s k ≤ 7 * k * wid s k := Nat.mul_le_mul_right _ hy
    rw [Nat.add_mul, Nat.one_mul] at this
    rw [Nat.mul_comm (wid s k)]
    omega
  have e1 : (y * wid s k + x) % wid s k = x := by rw [Nat.add_comm, Nat.add_mul_mod_self_right, Nat.mod_eq_of_lt hx]
  have e2 : (y * wid s k + x) / wid s k = y := div_cell hx
  rw [List.getD_eq_getElem?_getD, List.getElem?_map, List.getElem?_range h]
  simp [e1, e2]
theorem row_px (s : List UInt8) (k x y : Nat) (hx : x < wid s k) (hy : y < 7 * k) : (rowAt (drawn s k) (wid s k) y).getD x false = px s k x y := by
  rw [rowAt_at _ _ _ _ hx, drawn_at s k x y hx hy]
theorem row_len (s : List UInt8) (k y : Nat) (hy : y < 7 * k) : (rowAt (drawn s k) (wid s k) y).length = wid s k := rowAt_len _ _ _ (7 * k) (drawn_len s k) hy

theorem endsN_all {r : List Bool} {n a b : Nat} (h : endsN r n = some (a, b)) : r.getD a false = true ∧ r.getD b false = true ∧ ∀ x, x < n → r.getD x false = true → a ≤ x ∧ x ≤ b := by
  induction n generalizing a b with
  | zero => simp [endsN] at h
  | succ n ih =>
    unfold endsN at h
    split at h
    · rename_i hn
      cases e : endsN r n with
      | none =>
        rw [e] at h
        simp only [Option.some.injEq, Prod.mk.injEq] at h
        obtain ⟨rfl, rfl⟩ := h
        refine ⟨hn, hn, fun x hx hd => ?_⟩
        by_cases hxn : x = n
        · omega
        · exfalso
          obtain ⟨b', hb'⟩ : ∃ p, endsN r n = some p := by
            have hxn' : x < n := by omega
            clear ih hn hx e
            revert hxn' hd hxn
            intro h1 h2 h3
            obtain ⟨y, hy⟩ : ∃ y, y ≤ x ∧ r.getD y false = true ∧ ∀ i, i < y → r.getD i false = false := by
              clear h2
              induction x using Nat.strongRecOn with
              | _ x ihx =>
                by_cases hh : ∃ i, i < x ∧ r.getD i false = true
                · obtain ⟨i, hi, hd⟩ := hh
                  obtain ⟨y, hy1, hy2⟩ := ihx i hi hd (by omega)
                  exact ⟨y, by omega, hy2⟩
                · refine ⟨x, Nat.le_refl _, h1, fun i hi => ?_⟩
                  cases hd : r.getD i false with
                  | false => rfl
                  | true => exact absurd ⟨i, hi, hd⟩ hh
            obtain ⟨b, hb⟩ := endsN_fst hy.2.1 hy.2.2 (show y < n by omega)
            exact ⟨_, hb⟩
          rw [e] at hb'
          simp at hb'
      | some p =>
        obtain ⟨a', b'⟩ := p
        rw [e] at h
        simp only [Option.some.injEq, Prod.mk.injEq] at h
        obtain ⟨rfl, rfl⟩ := h
        obtain ⟨h1, h2, h3⟩ := ih e
        have h4 := endsN_lt e
        refine ⟨h1, hn, fun x hx hd => ?_⟩
        by_cases hxn : x = n
        · omega
        · have := h3 x (by omega) hd; omega
    · rename_i hn
      obtain ⟨h1, h2, h3⟩ := ih h
      refine ⟨h1, h2, fun x hx hd => ?_⟩
      by_cases hxn : x = n
      · subst hxn; exact absurd hd hn
      · exact h3 x (by omega) hd
theorem endsN_ex {r : List Bool} {n x : Nat} (hx : x < n) (hd : r.getD x false = true) : ∃ p, endsN r n = some p := by
  induction n with
  | zero => omega
  | succ n ih =>
    unfold endsN
    by_cases hn : r.getD n false = true
    · rw [if_pos hn]
      split
      · exact ⟨_, rfl⟩
      · exact ⟨_, rfl⟩
    · rw [if_neg hn]
      have : x ≠ n := fun e => hn (e ▸ hd)
      exact ih (by omega)

/-- What drawable asks. -/
theorem drawable_parts {s : List UInt8} (h : drawable s = true) : 0 < s.length ∧ s.length ≤ 20 ∧ s.getD 0 32 ≠ 32 ∧ s.getD (s.length - 1) 32 ≠ 32 ∧ (∀ c ∈ s, c ∈ chars) ∧ ∃ i, i < s.length ∧ solid (s.getD i 32) = true := by
  unfold drawable at h
  simp only [Bool.and_eq_true, decide_eq_true_eq, bne_iff_ne, ne_eq, List.all_eq_true, List.contains_iff_mem, List.any_eq_true] at h
  obtain ⟨⟨⟨⟨⟨h1, h2⟩, h3⟩, h4⟩, h5⟩, c, hc, hs⟩ := h
  refine ⟨h1, h2, h3, h4, h5, ?_⟩
  obtain ⟨i, hi, e⟩ := List.getElem_of_mem hc
  exact ⟨i, hi, by rw [List.getD_eq_getElem?_getD, List.getElem?_eq_getElem hi, e]; exact hs⟩
theorem getD_mem {s : List UInt8} {i : Nat} (hi : i < s.length) : s.getD i 32 ∈ s := by
  rw [List.getD_eq_getElem?_getD, List.getElem?_eq_getElem hi]; exact List.getElem_mem hi

/-- The lines of a drawn text: one box, of the whole height. -/
theorem lines_drawn (s : List UInt8) (k : Nat) (hk : 0 < k) (h : drawable s = true) :
    ∃ B : Nat, lines (drawn s k) (wid s k) (7 * k) = [(0, 0, (B : Int), ((7 * k : Nat) : Int))] ∧ B ≤ wid s k ∧ 6 * (s.length - 1) * k < B ∧ ∀ x y, x < wid s k → y < 7 * k → px s k x y = true → x < B := by
  obtain ⟨hl, h20, hf, hlast, hall, i0, hi0, hsol⟩ := drawable_parts h
  have hw : wid s k = 6 * (s.length - 1) * k + 5 * k := by
    unfold wid
    rw [← Nat.add_mul]
    congr 1
    omega
  have hdark : ∀ y, y < 7 * k → ∃ x, x < wid s k ∧ px s k x y = true := by
    intro y hy
    have hr : y / k < 7 := (Nat.div_lt_iff_lt_mul hk).2 hy
    have h1 := font_rows _ (hall _ (getD_mem hi0)) hsol ⟨y / k, hr⟩
    rw [List.any_eq_true] at h1
    obtain ⟨j, hj, hb⟩ := h1
    have hj := List.mem_range.1 hj
    refine ⟨6 * i0 * k + j * k + 0, ?_, ?_⟩
    · have h2 : 6 * i0 * k ≤ 6 * (s.length - 1) * k := Nat.mul_le_mul_right k (by omega)
      have h3 : j * k ≤ 4 * k := Nat.mul_le_mul_right k (by omega)
      omega
    · have h3 := px_cell s k i0 (y / k * 5 + j) 0 (y % k) (by omega) hk (Nat.mod_lt _ hk)
      have e1 : (y / k * 5 + j) % 5 = j := by omega
      have e2 : (y / k * 5 + j) / 5 = y / k := by omega
      have e3 : y / k * k + y % k = y := by rw [Nat.mul_comm]; exact Nat.div_add_mod y k
      rw [e1, e2, e3] at h3
      rw [h3]; exact hb
  have main : ∀ y, y < 7 * k → ∃ A B : Nat, linesN (drawn s k) (wid s k) (y + 1) = ([((A : Int), 0, (B : Int) - A, ((y + 1 : Nat) : Int))], true) ∧ A < B ∧ B ≤ wid s k ∧ ∀ x v, x < wid s k → v < y + 1 → px s k x v = true → A ≤ x ∧ x < B := by
    intro y
    induction y with
    | zero =>
      intro hy
      obtain ⟨x0, hx0, hd0⟩ := hdark 0 hy
      obtain ⟨⟨a, b⟩, hp⟩ := endsN_ex (r := rowAt (drawn s k) (wid s k) 0) (n := wid s k) hx0 (by rw [row_px s k x0 0 hx0 hy]; exact hd0)
      have hlt := endsN_lt hp
      have hal := endsN_all hp
      refine ⟨a, b + 1, ?_, by omega, by omega, fun x v hx hv hd => ?_⟩
      · unfold linesN
        unfold ends
        rw [row_len s k 0 hy, hp]
        simp [linesN, lstep]
      · obtain rfl : v = 0 := by omega
        have := hal.2.2 x hx (by rw [row_px s k x 0 hx hy]; exact hd)
        omega
    | succ y ih =>
      intro hy
      obtain ⟨A, B, h1, h2, h3, h4⟩ := ih (by omega)
      obtain ⟨x0, hx0, hd0⟩ := hdark (y + 1) hy
      obtain ⟨⟨a, b⟩, hp⟩ := endsN_ex (r := rowAt (drawn s k) (wid s k) (y + 1)) (n := wid s k) hx0 (by rw [row_px s k x0 (y + 1) hx0 hy]; exact hd0)
      have hlt := endsN_lt hp
      have hal := endsN_all hp
      refine ⟨min A a, max B (b + 1), ?_, by omega, by omega, fun x v hx hv hd => ?_⟩
      · show lstep (linesN (drawn s k) (wid s k) (y + 1)) (y + 1) (ends (rowAt (drawn s k) (wid s k) (y + 1))) = _
        unfold ends
        rw [row_len s k (y + 1) hy, hp, h1]
        simp only [lstep, if_true, List.dropLast_singleton, List.nil_append, List.getLast?_singleton, Option.getD_some, upd, Prod.mk.injEq, List.cons.injEq, and_true, true_and]
        omega
      · by_cases hv2 : v < y + 1
        · have := h4 x v hx hv2 hd; omega
        · obtain rfl : v = y + 1 := by omega
          have := hal.2.2 x hx (by rw [row_px s k x (y + 1) hx hy]; exact hd)
          omega
  have hlefts : ∀ i, i < s.length → s.getD i 32 ≠ 32 → ∃ y, y < 7 * k ∧ px s k (6 * i * k) y = true := by
    intro i hi hne
    have h1 := font_left _ (hall _ (getD_mem hi)) hne
    rw [List.any_eq_true] at h1
    obtain ⟨r, hr, hb⟩ := h1
    have hr := List.mem_range.1 hr
    refine ⟨r * k, Nat.mul_lt_mul_of_pos_right hr hk, ?_⟩
    have h3 := px_cell s k i (r * 5) 0 0 (by omega) hk hk
    have e1 : r * 5 % 5 = 0 := by omega
    have e2 : r * 5 / 5 = r := by omega
    simp only [e1, e2, Nat.zero_mul, Nat.add_zero] at h3
    rw [h3]; exact hb
  have h7 : 7 * k - 1 + 1 = 7 * k := by omega
  obtain ⟨A, B, h1, h2, h3, h4⟩ := main (7 * k - 1) (by omega)
  rw [h7] at h1 h4
  have hA : A = 0 := by
    obtain ⟨y, hy, hd⟩ := hlefts 0 hl hf
    rw [Nat.mul_zero, Nat.zero_mul] at hd
    have := h4 0 y (by omega) hy hd
    omega
  subst hA
  refine ⟨B, ?_, h3, ?_, fun x y hx hy hd => (h4 x y hx hy hd).2⟩
  · unfold lines
    rw [h1]
    simp
  · obtain ⟨y, hy, hd⟩ := hlefts (s.length - 1) (by omega) hlast
    exact (h4 _ y (by omega) hy hd).2

theorem cellRow_const (m : List Bool) (W xr yb x v k : Nat) (b : Bool) (h : ∀ i, i < k → (decide (x + i < xr) && decide (v < yb) && m.getD (v * W + (x + i)) false) = b) : cellRow m W xr yb x v k = if b then k else 0 := by
  unfold cellRow
  rw [List.countP_congr (q := fun _ => b) (fun i hi => by rw [h i (List.mem_range.1 hi)])]
  cases b
  · simp
  · simp
theorem cellN_const (m : List Bool) (W xr yb x y k : Nat) (b : Bool) (j : Nat) (h : ∀ v, v < j → ∀ i, i < k → (decide (x + i < xr) && decide (y + v < yb) && m.getD ((y + v) * W + (x + i)) false) = b) : cellN m W xr yb x y k j = if b then j * k else 0 := by
  induction j with
  | zero => simp [cellN]
  | succ j ih =>
    unfold cellN
    rw [ih fun v hv => h v (by omega), cellRow_const m W xr yb x (y + j) k b (h j (Nat.lt_succ_self j))]
    cases b
    · simp
    · simp [Nat.add_mul]
theorem many_text (L k w : Nat) (hL : 0 < L) (hk : 0 < k) (h1 : 6 * (L - 1) * k < w) (h2 : w ≤ (6 * L - 1) * k) : many w k = L := by
  unfold many
  have e1 : 6 * (L - 1) * k + 6 * k = 6 * k * L := by
    obtain ⟨n, rfl⟩ : ∃ n, L = n + 1 := ⟨L - 1, by omega⟩
    rw [Nat.add_sub_cancel, Nat.mul_add, Nat.mul_one, Nat.mul_right_comm]
  have e2 : (6 * L - 1) * k + k = 6 * k * L := by
    rw [← Nat.succ_mul]
    show (6 * L - 1 + 1) * k = _
    rw [Nat.sub_add_cancel (by omega), Nat.mul_right_comm]
  have : (w + k + 6 * k - 1) = (w + k + 6 * k - 1 - 6 * k * L) + 6 * k * L := by omega
  rw [this, Nat.add_mul_div_left _ _ (by omega), Nat.div_eq_of_lt (by omega), Nat.zero_add]
/-- The cells of a character of a drawn text, in a line that holds all its dark pixels. -/
theorem cells_drawn (s : List UInt8) (k B i : Nat) (hk : 0 < k) (hi : i < s.length) (hB : ∀ x y, x < wid s k → y < 7 * k → px s k x y = true → x < B) : cells (drawn s k) (wid s k) (0 + B) (0 + 7 * k) (0 + 6 * i * k) 0 k = pix (s.getD i 32) := by
  unfold cells pix
  refine List.map_congr_left fun j hj => ?_
  have hj := List.mem_range.1 hj
  have hw : 6 * i * k + 5 * k ≤ wid s k := by
    unfold wid
    rw [← Nat.add_mul]
    exact Nat.mul_le_mul_right k (by omega)
  have hq : j % 5 * k ≤ 4 * k := Nat.mul_le_mul_right k (by omega)
  have hr : j / 5 * k ≤ 6 * k := Nat.mul_le_mul_right k (by omega)
  unfold cell
  rw [cellN_const _ _ _ _ _ _ _ (bitAt (code (s.getD i 32)) j) k]
  · have hkk : 0 < k * k := Nat.mul_pos hk hk
    cases bitAt (code (s.getD i 32)) j
    · simp
    · simp; omega
  · intro v hv u hu
    have e := px_cell s k i j u v hj hu hv
    have hx : 0 + 6 * i * k + j % 5 * k + u < wid s k := by omega
    have hy : 0 + j / 5 * k + v < 7 * k := by omega
    rw [drawn_at s k _ _ hx hy]
    try simp only [Nat.zero_add] at hx hy
    try simp only [Nat.zero_add]
    try simp only [Nat.zero_add] at e
    rw [e]
    have h1 := hB _ _ hx hy
    rw [e] at h1
    cases hb : bitAt (code (s.getD i 32)) j
    · simp
    · simp [h1 hb, hy]
theorem ranked_pix (c : UInt8) (hc : c ∈ chars) : ∃ l, ranked (pix c) = (c, 0) :: l := by
  have h0 : (chars.filter fun d => cost (pix c) d == 0) = [c] := by
    have h1 : ∀ d ∈ chars, (cost (pix c) d == 0) = (d == c) := by
      intro d hd
      by_cases e : d = c
      · subst e; simp [cost_pix]
      · have := font_dist c hc d hd (fun h => e h.symm)
        unfold dist at this
        have h2 : ¬ cost (pix c) d = 0 := by omega
        rw [beq_eq_false_iff_ne.2 h2, beq_eq_false_iff_ne.2 e]
    rw [List.filter_congr h1]
    clear h1
    have hn := chars_nodup
    revert hn hc
    generalize chars = l
    intro hc hn
    induction l with
    | nil => simp at hc
    | cons a l ih =>
      rw [List.nodup_cons] at hn
      by_cases e : a = c
      · subst e
        rw [List.filter_cons_of_pos (by simp)]
        congr 1
        rw [List.filter_eq_nil_iff]
        intro x hx
        simp only [beq_iff_eq]
        intro e
        subst e
        exact hn.1 hx
      · rw [List.filter_cons_of_neg (by simpa using e)]
        simp only [List.mem_cons] at hc
        rcases hc with hc | hc
        · exact absurd hc.symm e
        · exact ih hc hn.2
  unfold ranked
  have : List.range 36 = 0 :: (List.range 35).map (· + 1) := by decide
  rw [this, List.flatMap_cons, h0]
  exact ⟨_, rfl⟩
/-- Read of a drawn text. -/
theorem read_drawn (s : List UInt8) (k B : Nat) (hk : 0 < k) (hl : 0 < s.length) (h1 : B ≤ wid s k) (h2 : 6 * (s.length - 1) * k < B) (hB : ∀ x y, x < wid s k → y < 7 * k → px s k x y = true → x < B) :
    read (drawn s k) (wid s k) 0 0 B (7 * k) k = (List.range s.length).map fun i => (0 + 6 * i * k, ranked (pix (s.getD i 32))) := by
  unfold read
  rw [many_text s.length k B hl hk h2 h1]
  refine List.map_congr_left fun i hi => ?_
  rw [cells_drawn s k B i hk (List.mem_range.1 hi) hB]
end Go.Proofs.YtamkgbodifjlaaaGreatDoor.Gl
