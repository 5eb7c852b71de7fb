/-
  Chapter 48, the program: Read.
  Condition: a valid bitmap, a line inside of it, a scale from 1 to 64.
-/
import Derived.Test.YtamkgbodifjlaaaGreatDoorGlWz
import Derived.Test.YtamkgbodifjlaaaGreatDoorGlPa
import Derived.Deep.RegionLaw
import Derived.BigRegion
import Derived.Test.YtamkgbodifjlaaaGreatDoorApd
import Derived.Test.YtamkgbodifjlaaaGreatDoorSl2
namespace Go.Proofs.YtamkgbodifjlaaaGreatDoor
set_option linter.unusedVariables false
open Go.RowKit

/-- A glyph as Read makes it: its box, the best choice, and where the others lie. -/
abbrev Gy := Gl.Bx × Gl.Ch × Nat × Nat
def encG (x : Gy) : List Value := [encI x.1.1, encI x.1.2.1, encI x.1.2.2.1, encI x.1.2.2.2, encB x.2.1.1, encI x.2.1.2, .slice (some ⟨x.2.2.1, 2, none⟩) 61 x.2.2.2]
theorem encG_len (x : Gy) : (encG x).length = 7 := rfl
theorem encG_one (x : Gy) : ∀ v ∈ encG x, v.oneCell' = true := by
  intro v hv
  simp only [encG, List.mem_cons, List.not_mem_nil, or_false] at hv
  rcases hv with rfl | rfl | rfl | rfl | rfl | rfl | rfl <;> rfl
theorem info_glyph : (Tryz.prog.info? 54).map (fun i => (i.zero, i.size, i.bytes)) = some (some (.agg #[.int .i64 0, .int .i64 0, .int .i64 0, .int .i64 0, .int .u8 0, .int .i64 0, .slice none 0 0]), 7, 72) := by kernel_rfl
/-- What lies in a block reads as choices. -/
def GAt (o : Obj) (g c : Nat) (xs : List Gl.Ch) : Prop := ∀ w' : World, w'.heap[g]? = some o → KSl 2 encC w' (.slice (some ⟨g, 2, none⟩) 61 c) xs
theorem KSl.of_block {α : Type} {k : Nat} {enc : α → List Value} {w w' : World} {g off n cap : Nat} {xs : List α} {o : Obj} (h : KSl k enc w (.slice (some ⟨g, off, none⟩) n cap) xs) (h1 : w.heap[g]? = some o) (h2 : w'.heap[g]? = some o) : KSl k enc w' (.slice (some ⟨g, off, none⟩) n cap) xs := by
  rcases h with ⟨rfl, a, c, h3⟩ | ⟨b, o2, cp, h3, h4, h5⟩
  · exact .inl ⟨rfl, a, c, h3⟩
  · injection h3 with e1 e2 e3
    injection e1 with e1
    injection e1 with e4 e5
    subst e4 e5
    refine .inr ⟨g, off, cap, by rw [e2], lt_at h2, fun i x hi c hc => ?_⟩
    rw [← h5 i x hi c hc]
    exact World.cell?_of_block (w := w) (a := ⟨g, off + i * k + c, none⟩) (by rw [h1, h2])
/-- The glyphs that have been read: each lies where the two rows that grow do not. -/
def GsOf (B : Nat) (W : World) (vg vt : Value) (y k : Nat) (R : List (Nat × List Gl.Ch)) (gs : List Gy) : Prop :=
  gs.length = R.length ∧ ∀ (i : Nat) r, R[i]? = some r → ∃ g c o, gs[i]? = some (((r.1 : Int), (y : Int), ((5 * k : Nat) : Int), ((7 * k : Nat) : Int)), r.2.headD (0, 0), g, c) ∧ W.heap[g]? = some o ∧ B ≤ g ∧ vg.ownBlock ≠ some g ∧ vt.ownBlock ≠ some g ∧ GAt o g c r.2.tail
theorem GsOf.move {B : Nat} {W W' : World} {vg vt vg' vt' : Value} {y k : Nat} {R : List (Nat × List Gl.Ch)} {gs : List Gy} (h : GsOf B W vg vt y k R gs)
    (hh : ∀ (g : Nat) (o : Obj), W.heap[g]? = some o → B ≤ g → vg.ownBlock ≠ some g → vt.ownBlock ≠ some g → W'.heap[g]? = some o ∧ vg'.ownBlock ≠ some g ∧ vt'.ownBlock ≠ some g) : GsOf B W' vg' vt' y k R gs := by
  refine ⟨h.1, fun i r hi => ?_⟩
  obtain ⟨g, c, o, h1, h2, hB, h3, h4, h5⟩ := h.2 i r hi
  obtain ⟨a1, a2, a3⟩ := hh g o h2 hB h3 h4
  exact ⟨g, c, o, h1, a1, hB, a2, a3, h5⟩
theorem GsOf.snoc {B : Nat} {W : World} {vg vt : Value} {y k : Nat} {R : List (Nat × List Gl.Ch)} {gs : List Gy} (h : GsOf B W vg vt y k R gs) (x : Nat) (hd : Gl.Ch) (tl : List Gl.Ch) (g c : Nat) (o : Obj) (h2 : W.heap[g]? = some o) (hB : B ≤ g) (h3 : vg.ownBlock ≠ some g) (h4 : vt.ownBlock ≠ some g) (h5 : GAt o g c tl) :
    GsOf B W vg vt y k (R ++ [(x, hd :: tl)]) (gs ++ [(((x : Int), (y : Int), ((5 * k : Nat) : Int), ((7 * k : Nat) : Int)), hd, g, c)]) := by
  refine ⟨by simp [h.1], fun i r hi => ?_⟩
  rcases Nat.lt_trichotomy i R.length with hl | hl | hl
  · rw [List.getElem?_append_left hl] at hi
    obtain ⟨g', c', o', b1, b2⟩ := h.2 i r hi
    exact ⟨g', c', o', by rw [List.getElem?_append_left (by rw [h.1]; exact hl)]; exact b1, b2⟩
  · subst hl
    rw [List.getElem?_append_right (Nat.le_refl _), Nat.sub_self] at hi
    simp only [List.getElem?_cons_zero, Option.some.injEq] at hi
    subst hi
    refine ⟨g, c, o, ?_, h2, hB, h3, h4, h5⟩
    rw [List.getElem?_append_right (by rw [h.1]; exact Nat.le_refl _), h.1, Nat.sub_self]
    rfl
  · rw [List.getElem?_eq_none (by simp; omega)] at hi
    cases hi
theorem slice_tail {g c : Nat} (hc : 62 ≤ c) (w : World) : (Instr.slice 35 (.slice (some ⟨g, 0, none⟩) 62 c) (some (.int .i64 1)) none none).run Tryz.prog w = .ok (.slice (some ⟨g, 2, none⟩) 61 (c - 1)) w := by
  have e : Tryz.prog.elem 35 = 67 := by kernel_rfl
  have ht : Tryz.prog.underlying 35 = some (.slice (Tryz.prog.elem 35)) := by rw [e]; exact Tryz.underlying35
  rw [run_slice_l w 35 (some ⟨g, 0, none⟩) 62 c ht .i64 1 (by omega) (by omega), e, Tryz.sizeOf67 w]
  have hne : ¬ c = 1 := by omega
  simp [Result.andThen, sliced, hne, Addr.add]
/-- The blocks of a walk over a line: the bitmap, the line, the result, the text line; and what has been read. -/
def ReadR (w : World) (b9 : Nat) (mb lb : Array Value) (lx ly lw lh : Int) (y k : Nat) (R : List (Nat × List Gl.Ch)) (vt : Value) (wr : World) : Prop :=
  ∃ vg gs, wr.heap[w.heap.size]? = some (.cells mb 24 (0, 0)) ∧ wr.heap[w.heap.size + 1]? = some (.cells lb 26 (0, 0)) ∧
  wr.heap[w.heap.size + 1 + 1]? = some (.cells #[.int .i64 0, .int .i64 0, .int .i64 0, .int .i64 0, .string ⟨#[]⟩, .slice none 0 0] 45 (0, 0)) ∧
  wr.heap[b9]? = some (.cells #[.int .i64 lx, .int .i64 ly, .int .i64 lw, .int .i64 lh, .string ⟨#[]⟩, vg] 45 (0, 0)) ∧
  KOwn 54 7 encG wr (b9 + 1) vg gs ∧ GsOf (b9 + 1) wr vg vt y k R gs ∧ Own 5 wr (b9 + 1) vt ((R.map fun r => (r.2.headD (0, 0)).1).map encB) ∧ (vg.ownBlock = none ∨ vg.ownBlock ≠ vt.ownBlock) ∧ Ext w wr
/-- A line of text as it was read. -/
def LineAt (w' : World) (vg : Value) (y k : Nat) (R : List (Nat × List Gl.Ch)) : Prop :=
  ∃ gs : List Gy, KSl 7 encG w' vg gs ∧ gs.length = R.length ∧ ∀ (i : Nat) r, R[i]? = some r → ∃ g c, gs[i]? = some (((r.1 : Int), (y : Int), ((5 * k : Nat) : Int), ((7 * k : Nat) : Int)), r.2.headD (0, 0), g, c) ∧ KSl 2 encC w' (.slice (some ⟨g, 2, none⟩) 61 c) r.2.tail
def Gl.textOf (R : List (Nat × List Gl.Ch)) : List UInt8 := R.map fun r => (r.2.headD (0, 0)).1
/-- What Read hands back when it finds nothing wrong. -/
def OwnsL (lx ly lw lh : Int) (y k : Nat) (R : List (Nat × List Gl.Ch)) (w : World) (e : Ending) (w' : World) : Prop :=
  ∃ vg, e = .returned (.tuple #[.agg #[.int .i64 lx, .int .i64 ly, .int .i64 lw, .int .i64 lh, .string (bS (Gl.textOf R)), vg], .int .i64 0]) ∧ LineAt w' vg y k R ∧ Ext w w'
theorem Gl.read_at (m : List Bool) (W x y w h k i : Nat) (hi : i < Gl.many w k) : (Gl.read m W x y w h k)[i]? = some (x + 6 * i * k, Gl.ranked (Gl.cells m W (x + w) (y + h) (x + 6 * i * k) y k)) := by
  unfold Gl.read
  rw [List.getElem?_map, List.getElem?_range hi]
  rfl
theorem Gl.read_succ (m : List Bool) (W x y w h k i : Nat) (hi : i < Gl.many w k) : (Gl.read m W x y w h k).take (i + 1) = (Gl.read m W x y w h k).take i ++ [(x + 6 * i * k, Gl.ranked (Gl.cells m W (x + w) (y + h) (x + 6 * i * k) y k))] := by
  rw [List.take_add_one, Gl.read_at m W x y w h k i hi]
  rfl
theorem Gl.cells_len (m : List Bool) (W xr yb x y k : Nat) : (Gl.cells m W xr yb x y k).length = 35 := by simp [Gl.cells]
theorem KOwn.setCell {α : Type} {T : TypeId} {k : Nat} {enc : α → List Value} {w : World} {B : Nat} {v : Value} {xs : List α} {a : Addr} (h : KOwn T k enc w B v xs) (ha : a.block < B) (u : Value) : KOwn T k enc (w.setCell a u) B v xs := ownsRow_setCell_below h ha u
theorem KOwn.block {α : Type} {T : TypeId} {k : Nat} {enc : α → List Value} {w : World} {B : Nat} {v : Value} {xs : List α} (h : KOwn T k enc w B v xs) {b : Nat} (hb : v.ownBlock = some b) : B ≤ b ∧ b < w.heap.size := World.ownsRow.lt h b hb
theorem Own.block {T : TypeId} {w : World} {B : Nat} {v : Value} {xs : List Value} (h : Own T w B v xs) {b : Nat} (hb : v.ownBlock = some b) : B ≤ b ∧ b < w.heap.size := World.ownsRow.lt h b hb
theorem row6_set {w : World} {b : Nat} {x0 x1 x2 x3 x4 x5 p0 p1 p2 p3 p4 p5 : Value} {t : TypeId} (h : w.heap[b]? = some (.cells #[x0, x1, x2, x3, x4, x5] t (0, 0))) :
    ((((((w.setCell ⟨b, 0, none⟩ p0).setCell ⟨b, 1, none⟩ p1).setCell ⟨b, 2, none⟩ p2).setCell ⟨b, 3, none⟩ p3).setCell ⟨b, 4, none⟩ p4).setCell ⟨b, 5, none⟩ p5).heap[b]? = some (.cells #[p0, p1, p2, p3, p4, p5] t (0, 0)) :=
  heap_set (heap_set (heap_set (heap_set (heap_set (heap_set h)))))
theorem load_line {w : World} {g : Nat} {t : TypeId} {x0 x1 x2 x3 x4 x5 : Value} (hg : w.heap[g]? = some (.cells #[x0, x1, x2, x3, x4, x5] t (0, 0))) : (loadVar 45 ⟨g, 0, none⟩).run Tryz.prog w = .ok (.agg #[x0, x1, x2, x3, x4, x5]) w := by
  rw [run_loadVar_row w g t _ #[x0, x1, x2, x3, x4, x5] (0, 0) _ hg Tryz.underlying45 rfl (by kernel_rfl)]
theorem cell_far {w : World} {b g i j : Nat} {u : Value} (h : b ≠ g) : (w.setCell ⟨b, i, none⟩ u).cell? ⟨g, j, none⟩ = w.cell? ⟨g, j, none⟩ := World.cell?_of_block (a := ⟨g, j, none⟩) (far1 h rfl)
theorem rows3 {w w2 : World} {o1 o2 o3 : Obj} (h : Ext (((w.alloc o1).alloc o2).alloc o3) w2) : w2.heap[w.heap.size]? = some o1 ∧ w2.heap[w.heap.size + 1]? = some o2 ∧ w2.heap[w.heap.size + 1 + 1]? = some o3 ∧ Ext w w2 := by
  have hx : Ext w w2 := ((((Ext.refl w).alloc o1).alloc o2).alloc o3).trans h
  refine ⟨row_on (heap_alloc_new w o1) ((((Ext.refl _).alloc o2).alloc o3).trans h), ?_, ?_, hx⟩
  · have := heap_alloc_new (w.alloc o1) o2
    rw [World.size_alloc] at this
    exact row_on this (((Ext.refl _).alloc o3).trans h)
  · have := heap_alloc_new ((w.alloc o1).alloc o2) o3
    rw [World.size_alloc, World.size_alloc] at this
    exact row_on this h
set_option maxRecDepth 100000 in
set_option maxHeartbeats 4000000 in
theorem read_any (v : Value) (m : List Bool) (W H lx ly lw lh k : Nat) (w : World) (hv : SlK w v (m.map encT)) (hm : m.length = W * H) (hval : Gl.valid (W : Int) (H : Int) m.length = true) (hin : Gl.ins (W : Int) (H : Int) (lx : Int) (ly : Int) (lw : Int) (lh : Int) = true) (hk : 1 ≤ k) (hk2 : k ≤ 64) :
    Calls Tryz.prog 21 #[.agg #[.int .i64 (W : Int), .int .i64 (H : Int), v], .agg #[.int .i64 (lx : Int), .int .i64 (ly : Int), .int .i64 (lw : Int), .int .i64 (lh : Int)], .int .i64 (k : Int)] w
      (OwnsL lx ly lw lh ly k (Gl.read m W lx ly lw lh k) w) := by
  obtain ⟨W', H', e1, e2, hW, hW2, hH, hH2, _, hM4⟩ := Gl.valid_parts hval
  obtain rfl : W = W' := by omega
  obtain rfl : H = H' := by omega
  have hWH : 1 ≤ W * H := Nat.mul_pos hW hH
  have hbox : lx + lw ≤ W ∧ ly + lh ≤ H ∧ 1 ≤ lw ∧ 1 ≤ lh := by
    unfold Gl.ins at hin
    simp only [Bool.and_eq_true, decide_eq_true_eq] at hin
    omega
  have HV := Lib.hid hv
  obtain ⟨b, off, c, rfl, hc, hb, hpx⟩ := hv.px (by omega)
  have HCK := Lib.hid (fun W1 => check_any (W : Int) (H : Int) (some ⟨b, off, none⟩) m.length c W1 (by unfold maxLen; omega))
  rw [hval, if_pos rfl] at HCK
  have HIN := Lib.hid (inside_any (W : Int) (H : Int) (.slice (some ⟨b, off, none⟩) m.length c) (lx : Int) (ly : Int) (lw : Int) (lh : Int) (by omega) (by omega) (by omega) (by omega))
  rw [hin] at HIN
  have d1 : decide ((k : Int) < 1) = false := decide_eq_false (by omega)
  have d2 : decide ((64 : Int) < (k : Int)) = false := decide_eq_false (by omega)
  obtain ⟨ln, hln⟩ : ∃ ln, m.length = ln := ⟨_, rfl⟩
  rw [hln] at HCK HIN hc HV ⊢
  have HLN := Lib.hid (And.intro hln hm)
  obtain ⟨k6, hk6⟩ : ∃ k6, 6 * k = k6 := ⟨_, rfl⟩
  have e6 : (6 : Int) * (k : Int) = (k6 : Int) := by omega
  obtain ⟨n, hn⟩ : ∃ n, Gl.many lw k = n := ⟨_, rfl⟩
  have eq1 : ((lw : Int) + (k : Int) + (k6 : Int) - 1) / (k6 : Int) = (n : Int) := by
    rw [← hn]
    unfold Gl.many
    rw [hk6]
    have : ((lw : Int) + (k : Int) + (k6 : Int) - 1) = ((lw + k + k6 - 1 : Nat) : Int) := by omega
    rw [this]
    rfl
  have hnb : n ≤ 4096 := by
    rw [← hn]
    unfold Gl.many
    rw [hk6]
    have : (lw + k + k6 - 1) / k6 < 4097 := (Nat.div_lt_iff_lt_mul (by omega)).2 (by omega)
    omega
  have HN := Lib.hid hn
  have hmany : 6 * k * n ≤ lw + 7 * k := by
    rw [← hn]
    unfold Gl.many
    have := Nat.div_mul_le_self (lw + k + 6 * k - 1) (6 * k)
    rw [Nat.mul_comm] at this
    omega
  have HMANY := Lib.hid hmany
  clear hmany
  clear hpx hv hm hval hin hWH hln hM4 hn e1 e2
  go_enter Tryz.func21, Tryz.ntmps21
  go_wp2_with fail
  refine (HCK.out _).mono ?_
  rintro e w1 ⟨rfl, hx1⟩
  have hx1' := hx1.before
  obtain ⟨⟨c0, c1, c2⟩, c3, c4, c5, c6⟩ := keep34 hx1'
  go_wp2_with fail
  refine (HIN.out _).mono ?_
  rintro e w2 ⟨rfl, hx2⟩
  clear c0 c1 c2 c3 c4 c5 c6
  have hx := hx1.trans hx2
  obtain ⟨⟨c0, c1, c2⟩, c3, c4, c5, c6⟩ := keep34 hx.before
  clear hx1 hx1' hx2
  go_wp2
  rw [eq1]
  have HX := Lib.hid hx
  obtain ⟨R, hR⟩ : ∃ R, Gl.read m W lx ly lw lh k = R := ⟨_, rfl⟩
  have HRS : Hid (∀ i, i < n → R.take (i + 1) = R.take i ++ [(lx + 6 * i * k, Gl.ranked (Gl.cells m W (lx + lw) (ly + lh) (lx + 6 * i * k) ly k))]) := Lib.hid (fun i hi => by rw [← hR]; exact Gl.read_succ m W lx ly lw lh k i (by rw [HN.out]; exact hi))
  have HRL : Hid (R.take n = R ∧ R.length = n) := Lib.hid (by
    have : R.length = n := by rw [← hR, ← HN.out]; simp [Gl.read]
    exact ⟨by rw [← this, List.take_length], this⟩)
  have HRD := Lib.hid hR
  clear hR
  go_loopw [10, 46] (fun v10 v46 wr => ∃ i : Nat, i ≤ n ∧ v46 = .int .i64 (i : Int) ∧ ReadR w w2.heap.size #[.int .i64 (W : Int), .int .i64 (H : Int), .slice (some ⟨b, off, none⟩) ln c] #[.int .i64 (lx : Int), .int .i64 (ly : Int), .int .i64 (lw : Int), .int .i64 (lh : Int)] lx ly lw lh ly k (R.take i) v10 wr) (fun _ v46 _ => n - (intOf v46).toNat)
  case atStart =>
    obtain ⟨r1, r2, r3, hxw⟩ := rows3 HX.out
    refine ⟨0, Nat.zero_le _, rfl, .slice none 0 0, [], row_on r1 ((Ext.refl _).alloc _), row_on r2 ((Ext.refl _).alloc _), row_on r3 ((Ext.refl _).alloc _), heap_alloc_new _ _, KOwn.nil _ _ _ _ _, ⟨rfl, fun i r hi => by simp at hi⟩, Own.nil _ _ _, .inl rfl, hxw.alloc _⟩
  case round =>
    obtain ⟨i, hi, rfl, vg, gs, h0, h1, h2, h9, hown, hgs, hownt, hap, hxr⟩ := hrel
    have hx' := HX.out
    have hsz9 : w.heap.size + 1 + 1 < w2.heap.size := lt_at (rows3 hx').2.2.1
    clear hx'
    have m0 := cell_at h0 (i := 0) rfl
    have m1 := cell_at h0 (i := 1) rfl
    have m2 := cell_at h0 (i := 2) rfl
    have l0 := cell_at h1 (i := 0) rfl
    have l1 := cell_at h1 (i := 1) rfl
    have l2 := cell_at h1 (i := 2) rfl
    have l3 := cell_at h1 (i := 3) rfl
    by_cases hlt : i < n
    · have HRi := Lib.hid (HRS.out i hlt)
      have hil : 6 * k * i ≤ 4096 + 448 := by
        have h1 := HMANY.out
        have h2 : 6 * k * i ≤ 6 * k * n := Nat.mul_le_mul_left _ (by omega)
        omega
      have e8 : 6 * i * k = 6 * k * i := by rw [Nat.mul_right_comm]
      obtain ⟨P, hP⟩ : ∃ P, 6 * i * k = P := ⟨_, rfl⟩
      have hPb : P ≤ 4544 := by omega
      obtain ⟨I6, hI6⟩ : ∃ I6, 6 * i = I6 := ⟨_, rfl⟩
      have hI6b : I6 ≤ 24576 := by omega
      have e1 : (6 : Int) * (i : Int) = (I6 : Int) := by omega
      have e2 : (I6 : Int) * (k : Int) = (P : Int) := by rw [← hP, ← hI6]; simp
      obtain ⟨X, hX⟩ : ∃ X, lx + P = X := ⟨_, rfl⟩
      have e3 : (lx : Int) + (P : Int) = (X : Int) := by omega
      have hXb : X ≤ 8640 := by omega
      rw [hP, hX] at HRi
      have HCE := Lib.hid (cells_any (.slice (some ⟨b, off, none⟩) ln c) m W H lx ly lw lh X ly k wr (HV.out.ext hxr) HLN.out.2 hW hW2 hH hH2 hbox.1 hbox.2.1 (by omega) (by omega) hk hk2)
      have HLC := Lib.hid (Gl.cells_len m W (lx + lw) (ly + lh) X ly k)
      generalize Gl.cells m W (lx + lw) (ly + lh) X ly k = cl at *
      obtain ⟨k5, hk5⟩ : ∃ k5, 5 * k = k5 := ⟨_, rfl⟩
      obtain ⟨k7, hk7⟩ : ∃ k7, 7 * k = k7 := ⟨_, rfl⟩
      have e5 : (5 : Int) * (k : Int) = (k5 : Int) := by omega
      have e7 : (7 : Int) * (k : Int) = (k7 : Int) := by omega
      have HK := Lib.hid (And.intro hk5 hk7)
      have HB := Lib.hid hbox
      have HSZ9 := Lib.hid hsz9
      have H0 := Lib.hid h0
      have H1 := Lib.hid h1
      have H2 := Lib.hid h2
      have H9 := Lib.hid h9
      have HG := Lib.hid hown
      have HGS := Lib.hid hgs
      have HT := Lib.hid hownt
      have HAP := Lib.hid hap
      have HXR := Lib.hid hxr
      clear e8 hil hP hI6 hX hk5 hk7 hk6 hbox hsz9 h0 h1 h2 h9 hown hgs hownt hap hxr
      go_wp2_with fail
      refine HCE.out.mono ?_
      rintro e w3 ⟨r, rfl, hr, hx3⟩
      have HMA := Lib.hid (match_any r cl w3 hr HLC.out)
      have HX3 := Lib.hid hx3
      clear hr hx3 m0 m1 m2 l0 l1 l2 l3
      go_wp2_with fail
      refine HMA.out.mono ?_
      rintro e w4 ⟨g, cg, rfl, hcg, hg3, hg4, hkg, hx4⟩
      obtain ⟨hd, tl, hrk⟩ : ∃ hd tl, Gl.ranked cl = hd :: tl := by
        have := Gl.ranked_len cl
        cases hq : Gl.ranked cl with
        | nil => rw [hq] at this; cases this
        | cons a l => exact ⟨a, l, rfl⟩
      have htl : (hd :: tl).length = 62 := by rw [← hrk]; exact Gl.ranked_len cl
      rw [hrk] at hkg HRi
      obtain ⟨b3, o3, he3, _, hcl⟩ := hkg.at_ (i := 0) (x := hd) rfl
      simp only [Option.some.injEq, Addr.mk.injEq, and_true] at he3
      obtain ⟨rfl, rfl⟩ := he3
      obtain ⟨hc0, hc1⟩ := hd
      have k0 : w4.cell? ⟨g, 0, none⟩ = some (.int .u8 (hc0.toNat : Int)) := by have := hcl 0 (by omega); simp only [Nat.zero_mul, Nat.add_zero] at this; exact this
      have k1 : w4.cell? ⟨g, 1, none⟩ = some (.int .i64 hc1) := by have := hcl 1 (by omega); simp only [Nat.zero_mul, Nat.zero_add, Nat.add_zero] at this; exact this
      have hx34 := HX3.out.trans hx4
      have R9 := row_on H9.out hx34
      have R1 := row_on H1.out hx34
      have p9 := cell_at R9 (i := 5) rfl
      have p1 := cell_at R1 (i := 1) rfl
      have f9 := frz_at R9 (i := 5)
      have l9 := lt_at R9
      have hlow := HG.out.low
      obtain ⟨va, vc, hv⟩ := (HG.out.sl encG_len).form
      obtain ⟨vn, hvn⟩ : ∃ n, gs.length = n := ⟨_, rfl⟩
      have hgl : gs.length ≤ 4096 := by
        rw [HGS.out.1]
        exact Nat.le_trans (List.length_take_le ..) (by omega)
      rw [hvn] at hv
      have HVV := Lib.hid hv
      clear hv
      have hcells : ∀ (c : Nat) r, (encG (((X : Int), (ly : Int), (k5 : Int), (k7 : Int)), (hc0, hc1), g, cg - 1))[c]? = some r → ((w4.alloc (.cells #[.int .i64 (X : Int), .int .i64 (ly : Int), .int .i64 (k5 : Int), .int .i64 (k7 : Int), .int .u8 (hc0.toNat : Int), .int .i64 hc1, .slice (some ⟨g, 2, none⟩) 61 (cg - 1)] 54)).drew).cell? ⟨w4.heap.size, c, none⟩ = some r := fun c r hr =>
        cell_at (heap_alloc_new w4 _) (by simpa [encG, encI, encB] using hr)
      obtain ⟨og, hog⟩ : ∃ o, w4.heap[g]? = some o := ⟨_, Array.getElem?_eq_getElem hg4⟩
      have HOG := Lib.hid hog
      have hgx := hx34.size
      have hgx2 := hx4.size
      have HNV : Hid (vg.ownBlock ≠ some g) := Lib.hid (fun h => by have := HG.out.block h; have := HX3.out.size; omega)
      have HNT : Hid (u10.ownBlock ≠ some g) := Lib.hid (fun h => by have := HT.out.block h; have := HX3.out.size; omega)
      clear hog hgx hgx2
      obtain ⟨v', w5, hrun, hown5, hg5, hblk5⟩ := run_append_k_at (w := (w4.alloc (.cells #[.int .i64 (X : Int), .int .i64 (ly : Int), .int .i64 (k5 : Int), .int .i64 (k7 : Int), .int .u8 (hc0.toNat : Int), .int .i64 hc1, .slice (some ⟨g, 2, none⟩) 61 (cg - 1)] 54)).drew) 43 54 43 (.agg #[.int .i64 0, .int .i64 0, .int .i64 0, .int .i64 0, .int .u8 0, .int .i64 0, .slice none 0 0]) 72 Tryz.underlying43 info_glyph rfl (by decide) (by decide) encG_len encG_one (w2.heap.size + 1) _ gs ((HG.out.ext hx34).ext (((Ext.refl _).alloc _).drew)) w4.heap.size (((X : Int), (ly : Int), (k5 : Int), (k7 : Int)), (hc0, hc1), g, cg - 1) hcells (by omega) (by have := hx34.size; have := lt_at H9.out; simp; omega)
      obtain ⟨a5, c5, hv5⟩ := (hown5.sl encG_len).form
      rw [List.length_append, hvn] at hv5
      have hv5 : v' = .slice a5 (vn + 1) c5 := hv5
      subst hv5
      simp [go_sem] at hrun
      have hst := fun w => slice_tail (g := g) hcg w
      have HOW5 := Lib.hid hown5
      have HG5 := Lib.hid hg5
      have HBK5 := Lib.hid hblk5
      have HKG := Lib.hid hkg
      have HX34 := Lib.hid hx34
      have HLOW := Lib.hid hlow
      have HTL := Lib.hid htl
      have HGL := Lib.hid hgl
      have HVN := Lib.hid hvn
      clear hown5 hg5 hblk5 hkg hx34 hlow htl hgl hvn hcl hrk hcells R9 R1 hx4
      have HXD := Lib.hid (((Ext.refl w4).alloc (.cells #[.int .i64 (X : Int), .int .i64 (ly : Int), .int .i64 (k5 : Int), .int .i64 (k7 : Int), .int .u8 (hc0.toNat : Int), .int .i64 hc1, .slice (some ⟨g, 2, none⟩) 61 (cg - 1)] 54)).drew)
      have HR9 := Lib.hid (row_grown (row_on H9.out (HX34.out.trans HXD.out)) HG5.out HLOW.out (by omega))
      have d9 := cell_at HR9.out (i := 5) rfl
      have ff9 := frz_at HR9.out (i := 5)
      have ll9 := lt_at HR9.out
      have KX : ∀ w', w'.cell? ⟨g, 0, none⟩ = w4.cell? ⟨g, 0, none⟩ → w'.cell? ⟨g, 1, none⟩ = w4.cell? ⟨g, 1, none⟩ → w'.cell? ⟨w.heap.size + 1, 1, none⟩ = w4.cell? ⟨w.heap.size + 1, 1, none⟩ → (fun w' : World => w'.cell? ⟨g, 0, none⟩ = some (.int .u8 (hc0.toNat : Int)) ∧ w'.cell? ⟨g, 1, none⟩ = some (.int .i64 hc1) ∧ w'.cell? ⟨w.heap.size + 1, 1, none⟩ = some (.int .i64 (ly : Int))) w' := fun w' a1 a2 a3 => ⟨a1.trans k0, a2.trans k1, a3.trans p1⟩
      have hLB : w.heap.size + 1 < w4.heap.size := by have := HSZ9.out; have := lt_at H9.out; have := HX34.out.size; omega
      have KA := Lib.hid (KX w4.drew rfl rfl rfl)
      have KD := Lib.hid (KX w4 rfl rfl rfl)
      have KB := Lib.hid (KX ((w4.alloc (.cells #[.int .i64 (X : Int), .int .i64 (ly : Int), .int .i64 (k5 : Int), .int .i64 (k7 : Int), .int .u8 (hc0.toNat : Int), .int .i64 hc1, .slice (some ⟨g, 2, none⟩) 61 (cg - 1)] 54)).drew) (HXD.out.cell (p := ⟨g, 0, none⟩) hg4) (HXD.out.cell (p := ⟨g, 1, none⟩) hg4) (HXD.out.cell (p := ⟨w.heap.size + 1, 1, none⟩) hLB))
      have hcell5 : ∀ b i, b < w4.heap.size → vg.ownBlock ≠ some b → w5.cell? ⟨b, i, none⟩ = w4.cell? ⟨b, i, none⟩ := fun b i hb hne => by
        rw [← HXD.out.cell (p := ⟨b, i, none⟩) hb]
        exact World.cell?_of_block (a := ⟨b, i, none⟩) (HG5.out.block b (by have := HXD.out.size; omega) (fun h => hne h.symm))
      have hnl : vg.ownBlock ≠ some (w.heap.size + 1) := fun h => by have := HLOW.out _ h; have := HSZ9.out; omega
      have KC := Lib.hid (KX w5 (hcell5 g 0 hg4 HNV.out) (hcell5 g 1 hg4 HNV.out) (hcell5 (w.heap.size + 1) 1 hLB hnl))
      have g9' : w2.heap.size ≠ g := fun h => by have := lt_at H9.out; have := HX3.out.size; omega
      have KE := Lib.hid (KX (w5.setCell ⟨w2.heap.size, 5, none⟩ (.slice a5 (vn + 1) c5)) ((cell_far g9').trans (hcell5 g 0 hg4 HNV.out)) ((cell_far g9').trans (hcell5 g 1 hg4 HNV.out)) ((cell_far (by have := HSZ9.out; omega)).trans (hcell5 (w.heap.size + 1) 1 hLB hnl)))
      clear KX hcell5 hnl g9'
      have hkk := HK.out
      have hw5 : IntKind.i64.wrap (k5 : Int) = (k5 : Int) := IntWalk.i64_in _ (by omega)
      have hw7 : IntKind.i64.wrap (k7 : Int) = (k7 : Int) := IntWalk.i64_in _ (by omega)
      clear hkk
      go_wp2
      go_region
      all_goals
        have hxd := HXD.out
        have hg5 := HG5.out
        have hlow := HLOW.out
        have hx34 := HX34.out
        have hsz9 := HSZ9.out
        have hxA := hx34.trans hxd
        have S0 := far1 (i := 5) (u := .slice a5 (vn + 1) c5) (show w2.heap.size ≠ w.heap.size by omega) (row_grown (row_on H0.out hxA) hg5 hlow (by omega))
        have S1 := far1 (i := 5) (u := .slice a5 (vn + 1) c5) (show w2.heap.size ≠ w.heap.size + 1 by omega) (row_grown (row_on H1.out hxA) hg5 hlow (by omega))
        have S2 := far1 (i := 5) (u := .slice a5 (vn + 1) c5) (show w2.heap.size ≠ w.heap.size + 1 + 1 by omega) (row_grown (row_on H2.out hxA) hg5 hlow (by omega))
        have S9 := heap_set (i := 5) (u := .slice a5 (vn + 1) c5) HR9.out
        have g9 : w2.heap.size ≠ g := fun h => by have := lt_at H9.out; have := HX3.out.size; omega
        have SG0 : w5.heap[g]? = some og := by
          rw [hg5.block g (lt_at (row_on HOG.out hxd)) (fun h => HNV.out h.symm)]
          exact row_on HOG.out hxd
        have SG := far1 (i := 5) (u := .slice a5 (vn + 1) c5) g9 SG0
        have SOW := HOW5.out.setCell (a := ⟨w2.heap.size, 5, none⟩) (by show w2.heap.size < w2.heap.size + 1; omega) (.slice a5 (vn + 1) c5)
        have SOT := ((HT.out.ext hxA).kept hg5 (by
          rcases HAP.out with h | h
          · cases hh : u10.ownBlock with
            | none => exact .inl rfl
            | some j => rw [h]; exact .inr (by simp)
          · exact .inr fun e => h e.symm)).setCell (a := ⟨w2.heap.size, 5, none⟩) (by show w2.heap.size < w2.heap.size + 1; omega) (.slice a5 (vn + 1) c5)
        have SX := (((HXR.out.trans hxA).ofGrown hg5 (fun j hj => by have := hlow j hj; omega)).setCell (p := ⟨w2.heap.size, 5, none⟩) (by show w.heap.size ≤ w2.heap.size; omega) (.slice a5 (vn + 1) c5))
        have SGS : GsOf (w2.heap.size + 1) (w5.setCell ⟨w2.heap.size, 5, none⟩ (.slice a5 (vn + 1) c5)) (.slice a5 (vn + 1) c5) u10 ly k (List.take i R) gs := HGS.out.move (fun j o hj hjB h1 h2 => by
          have hjl := lt_at hj
          have hjx := hx34.size
          have h3 : w5.heap[j]? = some o := by
            rw [hg5.block j (by have := hxd.size; omega) (fun h => h1 h.symm)]
            exact row_on hj hxA
          refine ⟨?_, ?_, h2⟩
          · exact far1 (by omega) h3
          · rcases HBK5.out with h | h
            · rw [h]; exact h1
            · rw [h]
              intro h
              simp at h
              omega)
        have q0 : (w5.setCell ⟨w2.heap.size, 5, none⟩ (.slice a5 (vn + 1) c5)).cell? ⟨g, 0, none⟩ = some (.int .u8 (hc0.toNat : Int)) := KE.out.1
        have HS0 := Lib.hid S0
        have HS1 := Lib.hid S1
        have HS2 := Lib.hid S2
        have HS9 := Lib.hid S9
        have HSG := Lib.hid SG
        have HSOW := Lib.hid SOW
        have HSOT := Lib.hid SOT
        have HSX := Lib.hid SX
        have HSGS := Lib.hid SGS
        clear S0 S1 S2 S9 SG0 SG SOW SOT SX SGS hxd hg5 hlow hx34 hsz9 hxA g9 hw5 hw7 hst hrun d9 ff9 ll9 p9 p1 f9 l9 k0 k1
        have hb9 := lt_at HS9.out
        go_wp2_with (at_builtin; refine append_byte_at rfl _ _ rfl (w2.heap.size + 1) _ _ rfl (HSOT.out.ext ((Ext.refl _).alloc _)) _ hc0 rfl ?c1 ?c2 ?c3 ?_)
        case c1 => simp [go_sem, encB]
        case c2 =>
          have h1 := List.length_take_le i R
          rw [List.length_map]
          omega
        case c3 => simp; simp at hb9; omega
        intro v2 w7 hown7 hg7 hblk7
        have HW7 := Lib.hid hown7
        have HG7 := Lib.hid hg7
        have HB7 := Lib.hid hblk7
        clear hown7 hg7 hblk7 hb9 q0
        go_wp2
        go_roundw
        case rel =>
          obtain ⟨W6, hW6⟩ : ∃ W, (w5.setCell ⟨w2.heap.size, 5, none⟩ (.slice a5 (vn + 1) c5)) = W := ⟨_, rfl⟩
          have a0 := HS0.out
          have a1 := HS1.out
          have a2 := HS2.out
          have a9 := HS9.out
          have aG := HSG.out
          have aW := HSOW.out
          have aT := HSOT.out
          have aX := HSX.out
          have aS := HSGS.out
          have hg7 := HG7.out
          have hb7 := HB7.out
          have hz5 : w5.heap.size = W6.heap.size := by rw [← hW6]; simp
          rw [hz5] at hb7
          rw [hW6] at a0 a1 a2 a9 aG aW aT aX aS hg7
          have hxe : Ext W6 (W6.alloc (.cells #[.int .u8 (hc0.toNat : Int)] 5)) := (Ext.refl _).alloc _
          have hlt9 := HSZ9.out
          have hlowt := aT.low
          have hgk : ∀ (j : Nat) (o : Obj), W6.heap[j]? = some o → u10.ownBlock ≠ some j → w7.heap[j]? = some o := fun j o hj hne => by
            rw [hg7.block j (by have := lt_at hj; have := hxe.size; omega) (fun h => hne h.symm)]
            exact row_on hj hxe
          have hvn2 : ∀ j, j < W6.heap.size → u10.ownBlock ≠ some j → v2.ownBlock ≠ some j := fun j hj hne h => by
            rcases hb7 with h7 | h7
            · rw [h7] at h; exact hne h
            · rw [h7] at h; simp at h; omega
          have hBe : w2.heap.size + 1 ≤ g := by have := lt_at H9.out; have := HX3.out.size; omega
          have hvg : (Value.slice a5 (vn + 1) c5).ownBlock ≠ some g := fun h => by
            rcases HBK5.out with h5 | h5
            · rw [h5] at h; exact HNV.out h
            · rw [h5] at h; simp at h; omega
          have hvt : (Value.slice a5 (vn + 1) c5).ownBlock = none ∨ (Value.slice a5 (vn + 1) c5).ownBlock ≠ u10.ownBlock := by
            rcases HBK5.out with h5 | h5
            · rw [h5]; exact HAP.out
            · right
              rw [h5]
              intro h
              have h8 := (HT.out.block h.symm).2
              have h9 := HX34.out.size
              simp at h8
              omega
          refine ⟨i + 1, by omega, by go_num, .slice a5 (vn + 1) c5, gs ++ [(((X : Int), (ly : Int), (k5 : Int), (k7 : Int)), (hc0, hc1), g, cg - 1)], row_grown (row_on a0 hxe) hg7 hlowt (by omega), row_grown (row_on a1 hxe) hg7 hlowt (by omega), row_grown (row_on a2 hxe) hg7 hlowt (by omega), row_grown (row_on a9 hxe) hg7 hlowt (by omega), (aW.ext hxe).kept hg7 hvt, ?_, ?_, ?_, ?_⟩
          · rw [HRi.out]
            have h1 : GsOf (w2.heap.size + 1) w7 (.slice a5 (vn + 1) c5) v2 ly k (List.take i R) gs := aS.move (fun j o hj hjB h1 h2 => ⟨hgk j o hj h2, h1, hvn2 j (lt_at hj) h2⟩)
            have h2 := h1.snoc X (hc0, hc1) tl g (cg - 1) og (hgk g og aG HNT.out) hBe hvg (hvn2 g (lt_at aG) HNT.out) (fun w' hw' => by
              have h3 := HKG.out.drop 1 (cg - 1) (by rw [HTL.out]; omega)
              rw [HTL.out] at h3
              exact KSl.of_block h3 HOG.out hw')
            rw [HK.out.1, HK.out.2] at h2
            exact h2
          · have h1 := HW7.out
            rw [HRi.out]
            simpa using h1
          · rcases hb7 with h7 | h7
            · rw [h7]; exact hvt
            · right
              rw [h7]
              intro h
              have h8 := (aW.block h).2
              omega
          · exact (aX.alloc _).ofGrown hg7 (fun j hj => by have := hlowt j hj; omega)
        case measure => simp [intOf]; omega
    · have ein : i = n := by omega
      obtain ⟨va, vc, hv⟩ := (hown.sl encG_len).form
      obtain ⟨vn, hvn⟩ : ∃ n, gs.length = n := ⟨_, rfl⟩
      rw [hvn] at hv
      subst hv
      have hcv := fun w' (hx : Ext wr w') => run_convert_sl (hownt.sl.ext hx)
      have hcv := hcv wr (Ext.refl _)
      have hT : (List.map (fun r => (r.2.headD (0, 0)).1) (R.take i)) = Gl.textOf R := by rw [ein, HRL.out.1]; rfl
      rw [hT] at hcv
      have q0 := cell_at h9 (i := 0) rfl
      have q1 := cell_at h9 (i := 1) rfl
      have q2 := cell_at h9 (i := 2) rfl
      have q3 := cell_at h9 (i := 3) rfl
      have q4 := cell_at h9 (i := 4) rfl
      have q5 := cell_at h9 (i := 5) rfl
      have qf := frz_at h9 (i := 4)
      have ql := lt_at h9
      have z0 := cell_at h2 (i := 0) rfl
      have z1 := cell_at h2 (i := 1) rfl
      have z2 := cell_at h2 (i := 2) rfl
      have z3 := cell_at h2 (i := 3) rfl
      have z4 := cell_at h2 (i := 4) rfl
      have z5 := cell_at h2 (i := 5) rfl
      have y0 := frz_at h2 (i := 0)
      have y1 := frz_at h2 (i := 1)
      have y2 := frz_at h2 (i := 2)
      have y3 := frz_at h2 (i := 3)
      have y4 := frz_at h2 (i := 4)
      have y5 := frz_at h2 (i := 5)
      have zl := lt_at h2
      have hsz := hxr.size
      have hne9 : w2.heap.size ≠ w.heap.size + 1 + 1 := by omega
      have H2 := Lib.hid h2
      have H9 := Lib.hid h9
      have HG := Lib.hid hown
      have HGS := Lib.hid hgs
      have HXR := Lib.hid hxr
      have HS9 := Lib.hid hsz9
      have HEIN := Lib.hid ein
      obtain ⟨tx, htx⟩ : ∃ tx : ByteArray, (⟨(Gl.textOf R).toArray⟩ : ByteArray) = tx := ⟨_, rfl⟩
      have HTX := Lib.hid htx
      rw [htx] at hcv
      clear h0 h1 h2 h9 hown hgs hownt hap hxr m0 m1 m2 l0 l1 l2 l3 hT htx ein hsz9 hvn
      go_wp2
      refine bodyPost_ret (results_st Tryz.results21 rfl rfl (load_line (row6_set (far1 hne9 H2.out)))) rfl ?_
      rw [HRD.out]
      have hRR : R.take i = R := by rw [HEIN.out]; exact HRL.out.1
      have hgs := HGS.out
      have hs9 := HS9.out
      rw [hRR] at hgs
      have hxx := ((((((HXR.out.setCell (p := ⟨w2.heap.size, 4, none⟩) (by show w.heap.size ≤ w2.heap.size; omega) (.string tx)).setCell (p := ⟨w.heap.size + 1 + 1, 0, none⟩) (by show w.heap.size ≤ w.heap.size + 1 + 1; omega) (.int .i64 (lx : Int))).setCell (p := ⟨w.heap.size + 1 + 1, 1, none⟩) (by show w.heap.size ≤ w.heap.size + 1 + 1; omega) (.int .i64 (ly : Int))).setCell (p := ⟨w.heap.size + 1 + 1, 2, none⟩) (by show w.heap.size ≤ w.heap.size + 1 + 1; omega) (.int .i64 (lw : Int))).setCell (p := ⟨w.heap.size + 1 + 1, 3, none⟩) (by show w.heap.size ≤ w.heap.size + 1 + 1; omega) (.int .i64 (lh : Int))).setCell (p := ⟨w.heap.size + 1 + 1, 4, none⟩) (by show w.heap.size ≤ w.heap.size + 1 + 1; omega) (.string tx)).setCell (p := ⟨w.heap.size + 1 + 1, 5, none⟩) (by show w.heap.size ≤ w.heap.size + 1 + 1; omega) (.slice va vn vc)
      have hkk := ((((((HG.out.setCell (a := ⟨w2.heap.size, 4, none⟩) (by show w2.heap.size < w2.heap.size + 1; omega) (.string tx)).setCell (a := ⟨w.heap.size + 1 + 1, 0, none⟩) (by show w.heap.size + 1 + 1 < w2.heap.size + 1; omega) (.int .i64 (lx : Int))).setCell (a := ⟨w.heap.size + 1 + 1, 1, none⟩) (by show w.heap.size + 1 + 1 < w2.heap.size + 1; omega) (.int .i64 (ly : Int))).setCell (a := ⟨w.heap.size + 1 + 1, 2, none⟩) (by show w.heap.size + 1 + 1 < w2.heap.size + 1; omega) (.int .i64 (lw : Int))).setCell (a := ⟨w.heap.size + 1 + 1, 3, none⟩) (by show w.heap.size + 1 + 1 < w2.heap.size + 1; omega) (.int .i64 (lh : Int))).setCell (a := ⟨w.heap.size + 1 + 1, 4, none⟩) (by show w.heap.size + 1 + 1 < w2.heap.size + 1; omega) (.string tx)).setCell (a := ⟨w.heap.size + 1 + 1, 5, none⟩) (by show w.heap.size + 1 + 1 < w2.heap.size + 1; omega) (.slice va vn vc)
      refine ⟨.slice va vn vc, by rw [← HTX.out]; rfl, ⟨gs, hkk.sl encG_len, hgs.1, fun j r hj => ?_⟩, hxx⟩
      obtain ⟨g, cg, o, b1, b2, b3, _, _, b6⟩ := hgs.2 j r hj
      have e1 : w2.heap.size ≠ g := by omega
      have e2 : w.heap.size + 1 + 1 ≠ g := by omega
      exact ⟨g, cg, b1, b6 _ (far1 e2 (far1 e2 (far1 e2 (far1 e2 (far1 e2 (far1 e2 (far1 e1 b2)))))))⟩
end Go.Proofs.YtamkgbodifjlaaaGreatDoor
