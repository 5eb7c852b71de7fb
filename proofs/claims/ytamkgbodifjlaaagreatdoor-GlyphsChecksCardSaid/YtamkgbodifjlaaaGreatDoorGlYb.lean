/-
  Chapter 48, the program: the costs of glyphs are in range.
  No condition.
-/
import Derived.Test.YtamkgbodifjlaaaGreatDoorGlYa
import Derived.Laws.EntriesVeiled
import Derived.Test.YtamkgbodifjlaaaGreatDoorGlSa
import Derived.Test.YtamkgbodifjlaaaGreatDoorCdW5
import Derived.Test.YtamkgbodifjlaaaGreatDoorGlWA
import Derived.BigRegion

/-
  Chapter 48, the program: the costs of glyphs are in range.
  No condition.
-/
namespace Go.Proofs.YtamkgbodifjlaaaGreatDoor
open Go.RowKit Go.Sort

def Gl.posb (x : Int) : Bool := decide (0 ≤ x) && decide (x ≤ 35)
theorem posb_any (x : Int) (w : World) : Calls Tryz.prog 81 #[.int .i64 x] w fun e w' => e = .returned (.bool (Gl.posb x)) ∧ w = w' := by
  unfold Gl.posb
  generalize h1 : decide (0 ≤ x) = b1
  generalize h2 : decide (x ≤ 35) = b2
  cases b1 <;> cases b2
  all_goals
    go_enter Tryz.func81, Tryz.ntmps81
    go_wp2
    go_ret
    exact ⟨rfl, rfl⟩
set_option maxRecDepth 100000 in
theorem costly_any (x : Gl.Ch) (bf : Nat) (W : World) (hk : W.cell? ⟨bf, 0, none⟩ = some (.func (.func 81) #[] #[])) : Calls Tryz.prog 83 #[.agg (encC x).toArray, .pointer (some ⟨bf, 0, none⟩)] W fun e w' => e = .returned (.bool (!Gl.posb x.2)) ∧ Ext W w' := by
  obtain ⟨a, n⟩ := x
  show Calls Tryz.prog _ #[.agg #[.int .u8 (a.toNat : Int), .int .i64 n], .pointer (some ⟨bf, 0, none⟩)] W _
  dsimp only
  have hB := Lib.hid (posb_any n)
  have hlt := cell_lt hk
  have hk2 : (W.alloc (.cells #[.int .u8 (a.toNat : Int), .int .i64 n] 67)).cell? ⟨bf, 0, none⟩ = some (.func (.func 81) #[] #[]) := by rw [((Ext.refl W).alloc _).cell (p := ⟨bf, 0, none⟩) hlt]; exact hk
  go_enter Tryz.func83, Tryz.ntmps83
  go_wp2_with fail
  refine (hB.out _).mono ?_
  rintro e w1 ⟨rfl, rfl⟩
  go_wp2
  go_ret
  exact ⟨rfl, (Ext.refl _).alloc _⟩
set_option maxRecDepth 100000 in
/-- IndexFunc on any choices. -/
theorem idxC_any (v : Value) (xs : List Gl.Ch) (p : Gl.Ch → Bool) (F : Nat) (lb : Array Value) (eF : ∀ args w, (callFunc F args).run Tryz.prog w = .ok (.enter F args) w) (w : World) (hv : KSl 2 encC w v xs) (hn : xs.length ≤ 1000000) (hp : PredBelow Tryz.prog F lb (fun x => .agg (encC x).toArray) p w) :
    Calls Tryz.prog 91 #[v, .func (.func F) #[] lb] w fun e w' => e = .returned (.int .i64 (Lib.idxBy (fun _ y => p y) xs default)) ∧ Ext w w' := by
  rcases hv with ⟨rfl, a, c, rfl⟩ | ⟨b, off, cap, rfl, hb, hc⟩
  · rw [show Lib.idxBy (fun _ y => p y) ([] : List Gl.Ch) default = -1 from rfl]
    clear hp eF hn
    go_enter Tryz.func91, Tryz.ntmps91
    go_wp2
    refine wp_loop_rounds 1 ?_
    rw [rounds_succ]
    go_wp2
    go_ret
    exact ⟨rfl, Ext.refl _⟩
  · have h := AnyQ.slices_IndexFunc Tryz.findCh 2 Tryz.isAgg67 Tryz.sizeOf67 encC encC_len p F lb eF b off xs.length cap xs w hp (Nat.le_refl _) (by omega) hb (fun j hj i u hi => by
      have hx : xs[j]? = some xs[j] := List.getElem?_eq_getElem hj
      rw [bang_at hx] at hi
      have hi2 : i < 2 := (List.getElem?_eq_some_iff.1 hi).1
      rw [hc j _ hx i hi2]; exact hi)
    rw [List.take_length] at h
    exact h
set_option maxRecDepth 100000 in
/-- ContainsFunc on any choices, none of which is found. -/
theorem noneC_any (v : Value) (xs : List Gl.Ch) (p : Gl.Ch → Bool) (F : Nat) (lb : Array Value) (eF : ∀ args w, (callFunc F args).run Tryz.prog w = .ok (.enter F args) w) (w : World) (hv : KSl 2 encC w v xs) (hn : xs.length ≤ 1000000) (hp : PredBelow Tryz.prog F lb (fun x => .agg (encC x).toArray) p w) (hno : ∀ x ∈ xs, p x = false) :
    Calls Tryz.prog 82 #[v, .func (.func F) #[] lb] w fun e w' => e = .returned (.bool false) ∧ Ext w w' := by
  have hi := Lib.hid (idxC_any v xs p F lb eF w hv hn hp)
  have hm : Lib.idxBy (fun _ y => p y) xs default = -1 := by
    have h := Lib.idxBy_miss (fun _ y => p y) xs xs.length default (fun j hj => hno _ (by rw [bang_at (List.getElem?_eq_getElem hj)]; exact List.getElem_mem hj))
    rw [List.take_length] at h; exact h
  rw [hm] at hi
  clear hp hv hn hno hm
  go_enter Tryz.func82, Tryz.ntmps82
  go_wp2_with fail
  refine hi.out.mono ?_
  rintro e w1 ⟨rfl, hx1⟩
  go_wp2
  go_ret
  exact ⟨rfl, hx1⟩

/-- A glyph: its box, its best choice, the value of the others. -/
abbrev Gv := Gl.Bx × Gl.Ch × Value
def encV (x : Gv) : List Value := [encI x.1.1, encI x.1.2.1, encI x.1.2.2.1, encI x.1.2.2.2, encB x.2.1.1, encI x.2.1.2, x.2.2]
theorem encV_len (x : Gv) : (encV x).length = 7 := rfl
/-- A glyph whose costs are in range, with its other choices. -/
def InR (w : World) (x : Gv) (xs : List Gl.Ch) : Prop := KSl 2 encC w x.2.2 xs ∧ xs.length ≤ 100000 ∧ Gl.posb x.2.1.2 = true ∧ ∀ c ∈ xs, Gl.posb c.2 = true
theorem InR.ext {w w' : World} {x : Gv} {xs : List Gl.Ch} (h : InR w x xs) (hx : Ext w w') : InR w' x xs := ⟨h.1.ext hx, h.2⟩
set_option maxRecDepth 100000 in
set_option maxHeartbeats 1000000 in
theorem inRange_any (x : Gv) (xs : List Gl.Ch) (w : World) (h : InR w x xs) : Calls Tryz.prog 55 #[.agg (encV x).toArray] w fun e w' => e = .returned (.bool true) ∧ Ext w w' := by
  obtain ⟨⟨b0, b1, b2, b3⟩, ⟨a, n⟩, v⟩ := x
  obtain ⟨hv, hn, hp, hall⟩ := h
  dsimp only at hv hp
  show Calls Tryz.prog _ #[.agg #[.int .i64 b0, .int .i64 b1, .int .i64 b2, .int .i64 b3, .int .u8 (a.toNat : Int), .int .i64 n, v]] w _
  have HP := Lib.hid (posb_any n)
  rw [hp] at HP
  have HX2 : Hid (Ext w ((w.alloc (.cells #[.int .i64 b0, .int .i64 b1, .int .i64 b2, .int .i64 b3, .int .u8 (a.toNat : Int), .int .i64 n, v] 54)).alloc (.cells #[.func (.func 81) #[] #[]] 109))) := Lib.hid (((Ext.refl _).alloc _).alloc _)
  have hbf : ((w.alloc (.cells #[.int .i64 b0, .int .i64 b1, .int .i64 b2, .int .i64 b3, .int .u8 (a.toNat : Int), .int .i64 n, v] 54)).alloc (.cells #[.func (.func 81) #[] #[]] 109)).cell? ⟨w.heap.size + 1, 0, none⟩ = some (.func (.func 81) #[] #[]) := by
    have := heap_alloc_new (w.alloc (.cells #[.int .i64 b0, .int .i64 b1, .int .i64 b2, .int .i64 b3, .int .u8 (a.toNat : Int), .int .i64 n, v] 54)) (.cells #[.func (.func 81) #[] #[]] 109)
    rw [World.size_alloc] at this
    exact cell_at this rfl
  have HC := Lib.hid (noneC_any v xs (fun c => !Gl.posb c.2) 83 #[.pointer (some ⟨w.heap.size + 1, 0, none⟩)] (enters_of Tryz.func83 (by kernel_rfl) rfl) _ (hv.ext HX2.out) (by omega)
    (fun W c hx => (costly_any c (w.heap.size + 1) W (by rw [Ext.cell hx (p := ⟨w.heap.size + 1, 0, none⟩) (cell_lt hbf)]; exact hbf)).mono fun e w' ⟨he, hy⟩ => ⟨he, Ext.trans hx hy⟩) (fun c hc => by rw [hall c hc]; rfl))
  clear hbf hv hn hp hall
  go_enter Tryz.func55, Tryz.ntmps55
  go_wp2_with fail
  refine (HP.out _).mono ?_
  rintro e w1 ⟨rfl, rfl⟩
  go_wp2_with fail
  refine HC.out.mono ?_
  rintro e w2 ⟨rfl, hx2⟩
  go_wp2
  go_ret
  exact ⟨rfl, HX2.out.trans hx2⟩
set_option maxRecDepth 100000 in
theorem outR_any (x : Gv) (xs : List Gl.Ch) (w : World) (h : InR w x xs) : Calls Tryz.prog 54 #[.agg (encV x).toArray] w fun e w' => e = .returned (.bool false) ∧ Ext w w' := by
  have HX1 : Hid (Ext w (w.alloc (.cells (encV x).toArray 54))) := Lib.hid ((Ext.refl _).alloc _)
  have HI := Lib.hid (inRange_any x xs _ (h.ext HX1.out))
  obtain ⟨⟨b0, b1, b2, b3⟩, ⟨a, n⟩, v⟩ := x
  change Hid (Calls Tryz.prog _ #[.agg #[.int .i64 b0, .int .i64 b1, .int .i64 b2, .int .i64 b3, .int .u8 (a.toNat : Int), .int .i64 n, v]] (w.alloc (.cells #[.int .i64 b0, .int .i64 b1, .int .i64 b2, .int .i64 b3, .int .u8 (a.toNat : Int), .int .i64 n, v] 54)) _) at HI
  change Hid (Ext w (w.alloc (.cells #[.int .i64 b0, .int .i64 b1, .int .i64 b2, .int .i64 b3, .int .u8 (a.toNat : Int), .int .i64 n, v] 54))) at HX1
  show Calls Tryz.prog _ #[.agg #[.int .i64 b0, .int .i64 b1, .int .i64 b2, .int .i64 b3, .int .u8 (a.toNat : Int), .int .i64 n, v]] w _
  clear h
  go_enter Tryz.func54, Tryz.ntmps54
  go_wp2_with fail
  refine HI.out.mono ?_
  rintro e w2 ⟨rfl, hx2⟩
  go_wp2
  go_ret
  exact ⟨rfl, HX1.out.trans hx2⟩
end Go.Proofs.YtamkgbodifjlaaaGreatDoor

/-
  Chapter 48, the program: key, better.
  No condition.
-/
namespace Go.Proofs.YtamkgbodifjlaaaGreatDoor
open Go.RowKit Go.Sort

theorem bS_app (a b : List UInt8) : bS a ++ bS b = bS (a ++ b) := bytes_ext (by rw [ByteArray.data_append, Array.toList_append, bS_list, bS_list, bS_list])
theorem rep_zeros : ∀ n, Lib.repeatL [48] n = List.replicate n 48
  | 0 => rfl
  | n + 1 => by rw [Lib.repeatL, rep_zeros n, List.replicate_succ]; rfl
theorem zeros_any (n : Nat) (hn : n ≤ 1000000) (w : World) : Calls Tryz.prog 116 #[.string ⟨#[48]⟩, .int .i64 (n : Int)] w fun e w' => e = .returned (.string (bS (List.replicate n 48))) ∧ Ext w w' := by
  have h := Tryz.strings_Repeat ⟨#[48]⟩ n w (by omega) (by rw [show (⟨#[48]⟩ : ByteArray).size = 1 from rfl]; omega)
  refine h.mono ?_
  rintro e w' ⟨rfl, hx⟩
  exact ⟨by rw [← rep_zeros]; rfl, hx⟩
set_option maxRecDepth 100000 in
theorem key_any (check : Int) (t : List UInt8) (n : Nat) (hl : t.length ≤ n) (hn : n ≤ 10000) (w : World) :
    Calls Tryz.prog 90 #[.int .i64 check, .string (bS t), .int .i64 (n : Int)] w fun e w' => e = .returned (.tuple #[.string (bS (Gl.keyS check t n).1), .bool (Gl.keyS check t n).2]) ∧ Ext w w' := by
  by_cases h0 : check = 0
  · subst h0
    rw [show Gl.keyS 0 t n = ([], true) from rfl]
    go_enter Tryz.func90, Tryz.ntmps90
    go_wp2
    go_ret2
    exact ⟨rfl, Ext.refl _⟩
  · have hE : Gl.keyS check t n = ((Cd.compI check (t ++ List.replicate (n - t.length) 48)).1, (Cd.compI check (t ++ List.replicate (n - t.length) 48)).2 == 0) := by unfold Gl.keyS; rw [if_neg h0]
    rw [hE]
    have h0b : (check == 0) = false := by simpa using h0
    obtain ⟨m, hm⟩ : ∃ m, n - t.length = m := ⟨_, rfl⟩
    rw [hm]
    have hsz : (bS t).size = t.length := bS_size t
    obtain ⟨s, hs⟩ : ∃ s, bS t = s := ⟨_, rfl⟩
    rw [hs] at hsz ⊢
    have eM : (n : Int) - (s.size : Int) = (m : Int) := by rw [hsz]; omega
    have HZ := Lib.hid (zeros_any m (by omega))
    have HC := Lib.hid (compute_any check (bS (t ++ List.replicate m 48)))
    have hcs : (bS (t ++ List.replicate m 48)).size ≤ 9223372036854775807 := by rw [bS_size, List.length_append, List.length_replicate]; omega
    rw [bS_list] at HC
    generalize Cd.compI check (t ++ List.replicate m 48) = r at *
    have HS : Hid (s ++ bS (List.replicate m 48) = bS (t ++ List.replicate m 48)) := Lib.hid (by rw [← hs, bS_app])
    have HCS := Lib.hid hcs
    have wM : IntKind.i64.wrap (m : Int) = (m : Int) := IntWalk.i64_in _ (by omega)
    have hz1 : (bS (List.replicate m 48)).size ≤ 10000 := by rw [bS_size, List.length_replicate]; omega
    have hs1 : s.size ≤ 10000 := by omega
    generalize bS (List.replicate m 48) = z at *
    clear hE hs hm hl hn h0 hcs hsz
    go_enter Tryz.func90, Tryz.ntmps90
    go_wp2_with fail
    refine (HZ.out _).mono ?_
    rintro e w1 ⟨rfl, hx1⟩
    go_wp2_with fail
    rw [HS.out]
    refine (HC.out _ HCS.out).mono ?_
    rintro e w2 ⟨rfl, hx2⟩
    go_wp2
    go_ret2
    exact ⟨rfl, hx1.trans hx2⟩

def twoAtE (x y : Int) (v : Value) (w : World) : Prop := ∃ b c, v = .slice (some ⟨b, 0, none⟩) 2 c ∧ b < w.heap.size ∧ w.cell? ⟨b, 0, none⟩ = some (.int .i64 x) ∧ w.cell? ⟨b, 1, none⟩ = some (.int .i64 y)
theorem twoAtE_stable (x y : Int) : Rel.Stable (twoAtE x y) := by
  rintro v w w' ⟨b, c, h1, h2, h3, h4⟩ hx
  exact ⟨b, c, h1, Nat.lt_of_lt_of_le h2 hx.size, cell_keep hx h2 h3, cell_keep hx h2 h4⟩
/-- A partial text as a value. -/
def ptV (p : Gl.Pt) : Value := .agg #[.string (bS p.1), .int .i64 p.2]
theorem Gl.bet_or (p q : Gl.Pt) : Gl.bet p q = decide (Gl.or2 (Lib.compareInt p.2 q.2) (Lib.compareBytes p.1 q.1) < 0) := rfl
set_option maxRecDepth 100000 in
set_option maxHeartbeats 4000000 in
theorem better_any (p q : Gl.Pt) (W : World) : Calls Tryz.prog 59 #[ptV p, ptV q] W fun e w' => e = .returned (.bool (Gl.bet p q)) ∧ Ext W w' := by
  rw [Gl.bet_or]
  obtain ⟨a, n⟩ := p
  obtain ⟨b, m⟩ := q
  show Calls Tryz.prog _ #[.agg #[.string (bS a), .int .i64 n], .agg #[.string (bS b), .int .i64 m]] W _
  dsimp only
  have HI := cmpI n m
  have HB := fun w => Tryz.strings_Compare (bS a) (bS b) w
  rw [bS_list, bS_list] at HB
  have HO := or2_any (Lib.compareInt n m) (Lib.compareBytes a b)
  generalize Lib.compareInt n m = r1 at *
  generalize Lib.compareBytes a b = r2 at *
  generalize bS a = a at *
  generalize bS b = b at *
  go_enter Tryz.func59, Tryz.ntmps59
  go_wp2
  obtain ⟨W1, hW1⟩ : ∃ W1, W.alloc (.cells #[.string a, .int .i64 n] 96) = W1 := ⟨_, rfl⟩
  have n1 := heap_alloc_new W (.cells #[.string a, .int .i64 n] 96)
  have s1 := World.size_alloc W (.cells #[.string a, .int .i64 n] 96)
  have x1 : Ext W (W.alloc (.cells #[.string a, .int .i64 n] 96)) := (Ext.refl _).alloc _
  rw [hW1] at n1 s1 x1 ⊢
  obtain ⟨W2, hW2⟩ : ∃ W2, W1.alloc (.cells #[.string b, .int .i64 m] 96) = W2 := ⟨_, rfl⟩
  have n2 := heap_alloc_new W1 (.cells #[.string b, .int .i64 m] 96)
  have x2 : Ext W1 (W1.alloc (.cells #[.string b, .int .i64 m] 96)) := (Ext.refl _).alloc _
  rw [s1] at n2
  rw [hW2] at n2 x2 ⊢
  have HX2 : Hid (Ext W W2) := Lib.hid (x1.trans x2)
  obtain ⟨B1, hB1⟩ : ∃ B1, W.heap.size = B1 := ⟨_, rfl⟩
  rw [hB1] at n1 n2 ⊢
  have C0 : Hid (∀ w', Ext W2 w' → w'.cell? ⟨B1, 0, none⟩ = some (.string a)) := Lib.hid (fun w' h => cell_at (row_on n1 (x2.trans h)) rfl)
  have C1 : Hid (∀ w', Ext W2 w' → w'.cell? ⟨B1, 1, none⟩ = some (.int .i64 n)) := Lib.hid (fun w' h => cell_at (row_on n1 (x2.trans h)) rfl)
  have C2 : Hid (∀ w', Ext W2 w' → w'.cell? ⟨B1 + 1, 0, none⟩ = some (.string b)) := Lib.hid (fun w' h => cell_at (row_on n2 h) rfl)
  have C3 : Hid (∀ w', Ext W2 w' → w'.cell? ⟨B1 + 1, 1, none⟩ = some (.int .i64 m)) := Lib.hid (fun w' h => cell_at (row_on n2 h) rfl)
  clear hW1 hW2 n1 n2 s1 x1 x2 hB1
  refine wp_region_rel 13 1 rfl [5, 6, 7, 8, 9, 10, 11, 12, 13, 14, 15, 16, 17] [[], [0], [], [2], [1, 3], [], [5], [], [7], [6, 8], [4, 9], [10], [11]] (by kernel_rfl) (by kernel_rfl) ?_
  apply relPlan_eq'
  · intro V w' hx hf
    with_reducible refine relAt_ops ?_
    intro A ρ hA hρ hcst hfun
    have h2 : ρ (.tmp 2) = .pointer (some ⟨B1, 0, none⟩) := (congrFun hρ _).trans (evalMiss hA 2 rfl)
    simp [relUpon, go_sem, hcst, hfun, ↓IntWalk.iteOmega, Ext.refl, h2]
    rfl
  refine relPlan_by (eqv (.int .i64 n)) (eqv_stable _) ?_ ?_
  · intro V w' hx hf
    with_reducible refine relAt_ops ?_
    intro A ρ hA hρ hcst hfun
    obtain ⟨f5, _⟩ := hf
    have h5 : ρ (.tmp 5) = _ := (congrFun hρ _).trans ((evalHit hA 5 rfl).trans f5)
    have q := C1.out w' hx
    simp [relUpon, go_sem, hcst, hfun, ↓IntWalk.iteOmega, Ext.refl, h5, q]
    rfl
  apply relPlan_eq'
  · intro V w' hx hf
    with_reducible refine relAt_ops ?_
    intro A ρ hA hρ hcst hfun
    have h3 : ρ (.tmp 3) = .pointer (some ⟨B1 + 1, 0, none⟩) := (congrFun hρ _).trans (evalMiss hA 3 rfl)
    simp [relUpon, go_sem, hcst, hfun, ↓IntWalk.iteOmega, Ext.refl, h3]
    rfl
  refine relPlan_by (eqv (.int .i64 m)) (eqv_stable _) ?_ ?_
  · intro V w' hx hf
    with_reducible refine relAt_ops ?_
    intro A ρ hA hρ hcst hfun
    obtain ⟨f7, _⟩ := hf
    have h7 : ρ (.tmp 7) = _ := (congrFun hρ _).trans ((evalHit hA 7 rfl).trans f7)
    have q := C3.out w' hx
    simp [relUpon, go_sem, hcst, hfun, ↓IntWalk.iteOmega, Ext.refl, h7, q]
    rfl
  refine relPlan_by (eqv (.int .i64 r1)) (eqv_stable _) ?_ ?_
  · intro V w' hx hf
    with_reducible refine relAt_ops ?_
    intro A ρ hA hρ hcst hfun
    obtain ⟨f6, f8, _⟩ := hf
    have h6 : ρ (.tmp 6) = _ := (congrFun hρ _).trans ((evalHit hA 6 rfl).trans f6)
    have h8 : ρ (.tmp 8) = _ := (congrFun hρ _).trans ((evalHit hA 8 rfl).trans f8)
    simp [relUpon, go_sem, hcst, hfun, h6, h8]
    exact (HI w').mono fun e w'' ⟨he, hy⟩ => ⟨_, he, hy ▸ Ext.refl _, rfl⟩
  apply relPlan_eq'
  · intro V w' hx hf
    with_reducible refine relAt_ops ?_
    intro A ρ hA hρ hcst hfun
    have h2 : ρ (.tmp 2) = .pointer (some ⟨B1, 0, none⟩) := (congrFun hρ _).trans (evalMiss hA 2 rfl)
    simp [relUpon, go_sem, hcst, hfun, ↓IntWalk.iteOmega, Ext.refl, h2]
    rfl
  refine relPlan_by (eqv (.string a)) (eqv_stable _) ?_ ?_
  · intro V w' hx hf
    with_reducible refine relAt_ops ?_
    intro A ρ hA hρ hcst hfun
    obtain ⟨f10, _⟩ := hf
    have h10 : ρ (.tmp 10) = _ := (congrFun hρ _).trans ((evalHit hA 10 rfl).trans f10)
    have q := C0.out w' hx
    simp [relUpon, go_sem, hcst, hfun, ↓IntWalk.iteOmega, Ext.refl, h10, q]
    rfl
  apply relPlan_eq'
  · intro V w' hx hf
    with_reducible refine relAt_ops ?_
    intro A ρ hA hρ hcst hfun
    have h3 : ρ (.tmp 3) = .pointer (some ⟨B1 + 1, 0, none⟩) := (congrFun hρ _).trans (evalMiss hA 3 rfl)
    simp [relUpon, go_sem, hcst, hfun, ↓IntWalk.iteOmega, Ext.refl, h3]
    rfl
  refine relPlan_by (eqv (.string b)) (eqv_stable _) ?_ ?_
  · intro V w' hx hf
    with_reducible refine relAt_ops ?_
    intro A ρ hA hρ hcst hfun
    obtain ⟨f12, _⟩ := hf
    have h12 : ρ (.tmp 12) = _ := (congrFun hρ _).trans ((evalHit hA 12 rfl).trans f12)
    have q := C2.out w' hx
    simp [relUpon, go_sem, hcst, hfun, ↓IntWalk.iteOmega, Ext.refl, h12, q]
    rfl
  refine relPlan_by (eqv (.int .i64 r2)) (eqv_stable _) ?_ ?_
  · intro V w' hx hf
    with_reducible refine relAt_ops ?_
    intro A ρ hA hρ hcst hfun
    obtain ⟨f11, f13, _⟩ := hf
    have h11 : ρ (.tmp 11) = _ := (congrFun hρ _).trans ((evalHit hA 11 rfl).trans f11)
    have h13 : ρ (.tmp 13) = _ := (congrFun hρ _).trans ((evalHit hA 13 rfl).trans f13)
    simp [relUpon, go_sem, hcst, hfun, h11, h13]
    exact (HB w').mono fun e w'' ⟨he, hy⟩ => ⟨_, he, hy ▸ Ext.refl _, rfl⟩
  refine relPlan_by (twoAtE r1 r2) (twoAtE_stable _ _) ?_ ?_
  · intro V w' hx hf
    with_reducible refine relAt_ops ?_
    intro A ρ hA hρ hcst hfun
    obtain ⟨f9, f14, _⟩ := hf
    have h9 : ρ (.tmp 9) = _ := (congrFun hρ _).trans ((evalHit hA 9 rfl).trans f9)
    have h14 : ρ (.tmp 14) = _ := (congrFun hρ _).trans ((evalHit hA 14 rfl).trans f14)
    simp [relUpon, go_sem, hcst, hfun, ↓IntWalk.iteOmega, h9, h14]
    exact ⟨(Ext.refl _).alloc _, ⟨_, 2, rfl, by simp, by simp [go_sem], by simp [go_sem]⟩⟩
  refine relPlan_by (eqv (.int .i64 (Gl.or2 r1 r2))) (eqv_stable _) ?_ ?_
  · intro V w' hx hf
    with_reducible refine relAt_ops ?_
    intro A ρ hA hρ hcst hfun
    obtain ⟨f15, _⟩ := hf
    have h15 : ρ (.tmp 15) = V 15 := (congrFun hρ _).trans (evalHit hA 15 rfl)
    obtain ⟨b, c, e15, hb, u0, u1⟩ := f15
    have e15 : V 15 = _ := e15
    rw [e15] at h15
    simp [relUpon, go_sem, hcst, hfun, h15]
    exact (HO b c w' u0 u1).mono fun e w'' ⟨he, hy⟩ => ⟨_, he, hy ▸ Ext.refl _, rfl⟩
  apply relPlan_eq'
  · intro V w' hx hf
    with_reducible refine relAt_ops ?_
    intro A ρ hA hρ hcst hfun
    obtain ⟨f16, _⟩ := hf
    have h16 : ρ (.tmp 16) = _ := (congrFun hρ _).trans ((evalHit hA 16 rfl).trans f16)
    simp [relUpon, go_sem, hcst, hfun, ↓IntWalk.iteOmega, Ext.refl, h16]
    rfl
  intro V wT hxT hf
  obtain ⟨g5, g6, g7, g8, g9, g10, g11, g12, g13, g14, g15, g16, g17, _⟩ := hf
  refine wpAny_tail1 13 17 4 _ (by kernel_rfl) rfl rfl (.inr rfl) (by kernel_rfl) rfl rfl ?_
  have q17 : V 17 = _ := g17
  rw [q17]
  simp only [fillA, List.foldl_cons, List.foldl_nil, Act.put, List.setIfInBounds_toArray, List.set_cons_succ, List.set_cons_zero]
  go_wp2
  go_ret
  exact ⟨rfl, HX2.out.trans hxT⟩
end Go.Proofs.YtamkgbodifjlaaaGreatDoor

/-
  Chapter 48, the program: complete.
  No condition.
-/
namespace Go.Proofs.YtamkgbodifjlaaaGreatDoor
open Go.RowKit Go.Sort

set_option maxRecDepth 100000 in
/-- complete$1: the character is the one at an index of a string. -/
theorem isAt_any (x : Gl.Ch) (s : ByteArray) (i : Nat) (hi : i < s.size) (bs bi : Nat) (W : World) (h1 : W.cell? ⟨bs, 0, none⟩ = some (.string s)) (h2 : W.cell? ⟨bi, 0, none⟩ = some (.int .i64 (i : Int))) :
    Calls Tryz.prog 92 #[.agg (encC x).toArray, .pointer (some ⟨bs, 0, none⟩), .pointer (some ⟨bi, 0, none⟩)] W fun e w' => e = .returned (.bool (x.1 == s[i])) ∧ Ext W w' := by
  obtain ⟨a, n⟩ := x
  show Calls Tryz.prog _ #[.agg #[.int .u8 (a.toNat : Int), .int .i64 n], .pointer (some ⟨bs, 0, none⟩), .pointer (some ⟨bi, 0, none⟩)] W _
  dsimp only
  have hE : ((a.toNat : Int) == (s[i].toNat : Int)) = (a == s[i]) := by
    rw [Bool.eq_iff_iff, beq_iff_eq, beq_iff_eq]
    constructor
    · intro h; exact UInt8.toNat_inj.1 (by omega)
    · intro h; rw [h]
  have k1 : (W.alloc (.cells #[.int .u8 (a.toNat : Int), .int .i64 n] 67)).cell? ⟨bs, 0, none⟩ = some (.string s) := by rw [((Ext.refl W).alloc _).cell (p := ⟨bs, 0, none⟩) (cell_lt h1)]; exact h1
  have k2 : (W.alloc (.cells #[.int .u8 (a.toNat : Int), .int .i64 n] 67)).cell? ⟨bi, 0, none⟩ = some (.int .i64 (i : Int)) := by rw [((Ext.refl W).alloc _).cell (p := ⟨bi, 0, none⟩) (cell_lt h2)]; exact h2
  have hiI : (i : Int) < (s.size : Int) := by omega
  clear h1 h2
  obtain ⟨y, hy⟩ : ∃ y, (s[i].toNat : Int) = y := ⟨_, rfl⟩
  rw [hy] at hE
  generalize (a == s[i]) = r at *
  generalize (a.toNat : Int) = ca at *
  go_enter Tryz.func92, Tryz.ntmps92
  go_wp2
  go_region
  go_wp2
  go_ret
  exact ⟨rfl, ((Ext.refl _).alloc _).drew⟩
theorem idx_find (p : Gl.Ch → Bool) (l : List Gl.Ch) : (∃ at' c, l[at']? = some c ∧ Lib.idxBy (fun _ y => p y) l default = ((at' : Nat) : Int) ∧ l.find? p = some c) ∨ (Lib.idxBy (fun _ y => p y) l default = -1 ∧ l.find? p = none) := by
  rcases first_of p l with h | ⟨k, hk, hp, hb⟩
  · refine .inr ⟨?_, ?_⟩
    · have h2 := Lib.idxBy_miss (fun _ y => p y) l l.length default h
      rw [List.take_length] at h2; exact h2
    · rw [List.find?_eq_none]
      intro x hx
      obtain ⟨j, hj, rfl⟩ := List.getElem_of_mem hx
      have := h j hj
      rw [bang_at (List.getElem?_eq_getElem hj)] at this
      rw [this]; exact Bool.noConfusion
  · refine .inl ⟨k, l[k], List.getElem?_eq_getElem hk, ?_, ?_⟩
    · have h2 := Lib.idxBy_hit (fun _ y => p y) l l.length k default hk (Nat.le_refl _) hp hb
      rw [List.take_length] at h2; exact h2
    · rw [List.find?_eq_some_iff_getElem]
      rw [bang_at (List.getElem?_eq_getElem hk)] at hp
      refine ⟨hp, k, hk, rfl, fun j hj => ?_⟩
      have := hb j hj
      rw [bang_at (List.getElem?_eq_getElem (show j < l.length by omega))] at this
      rw [this]; rfl
/-- Lists of choices that lie in a slice. -/
abbrev Sv := Option Addr × Nat × Nat
def encS (x : Sv) : List Value := [.slice x.1 x.2.1 x.2.2]
theorem encS_len (x : Sv) : (encS x).length = 1 := rfl
theorem encS_one (x : Sv) : ∀ v ∈ encS x, v.oneCell' = true := by
  intro v hv
  simp only [encS, List.mem_cons, List.not_mem_nil, or_false] at hv
  subst hv; rfl
def Opts (w : World) (v : Value) (ls : List (List Gl.Ch)) : Prop :=
  ∃ vs : List Sv, KSl 1 encS w v vs ∧ vs.length = ls.length ∧ (∀ (i : Nat) x l, vs[i]? = some x → ls[i]? = some l → KSl 2 encC w (.slice x.1 x.2.1 x.2.2) l) ∧ ∃ a c, v = .slice a vs.length c ∧ vs.length ≤ c
theorem Opts.ext {w w' : World} {v : Value} {ls : List (List Gl.Ch)} (h : Opts w v ls) (hx : Ext w w') : Opts w' v ls := by
  obtain ⟨vs, h1, h2, h3, h4⟩ := h
  exact ⟨vs, h1.ext hx, h2, fun i x l hi hl => (h3 i x l hi hl).ext hx, h4⟩
theorem Opts.form {w : World} {v : Value} {ls : List (List Gl.Ch)} (h : Opts w v ls) : ∃ a c, v = .slice a ls.length c ∧ ls.length ≤ c := by
  obtain ⟨vs, _, h2, _, h4⟩ := h
  rw [← h2]; exact h4
/-- One of them. -/
theorem Opts.at_ {w : World} {a : Option Addr} {n c : Nat} {ls : List (List Gl.Ch)} (h : Opts w (.slice a n c) ls) {i : Nat} {l : List Gl.Ch} (hi : ls[i]? = some l) :
    ∃ b off, a = some ⟨b, off, none⟩ ∧ b < w.heap.size ∧ ∃ a' c', w.cell? ⟨b, off + i, none⟩ = some (.slice a' l.length c') ∧ KSl 2 encC w (.slice a' l.length c') l := by
  obtain ⟨vs, h1, h2, h3, _⟩ := h
  have hil : i < vs.length := by rw [h2]; exact (List.getElem?_eq_some_iff.1 hi).1
  have hx : vs[i]? = some vs[i] := List.getElem?_eq_getElem hil
  obtain ⟨b, off, e, hb, hc⟩ := h1.at_ hx
  have h4 := h3 i _ l hx hi
  obtain ⟨a', c', h5⟩ := h4.form
  have h6 := hc 0 (by omega)
  rw [Nat.mul_one, Nat.add_zero] at h6
  refine ⟨b, off, e, hb, a', c', ?_, by rw [← h5]; exact h4⟩
  rw [h6, ← h5]; rfl

theorem Gl.rest_cons (l : List Gl.Ch) (ls : List (List Gl.Ch)) (k : List UInt8) : Gl.rest (l :: ls) k = match l.find? (fun c => c.1 == k.headD 0) with
    | none => none
    | some c => match Gl.rest ls k.tail with
      | none => none
      | some n => some (c.2 + n) := rfl
def finV (p : Gl.Pt) (k : List UInt8) : Option Int → Value
  | none => .tuple #[ptV ([], 0), .bool false]
  | some m => .tuple #[ptV (p.1 ++ k, p.2 + m), .bool true]
theorem load_pt {w : World} {g : Nat} {t : TypeId} {x0 x1 : Value} (hg : w.heap[g]? = some (.cells #[x0, x1] t (0, 0))) : (loadVar 96 ⟨g, 0, none⟩).run Tryz.prog w = .ok (.agg #[x0, x1]) w := by
  rw [run_loadVar_row w g t _ #[x0, x1] (0, 0) _ hg Tryz.underlying96 rfl (by kernel_rfl)]
theorem row2_set {w : World} {b : Nat} {x0 x1 p0 p1 : Value} {t : TypeId} (h : w.heap[b]? = some (.cells #[x0, x1] t (0, 0))) : ((w.setCell ⟨b, 0, none⟩ p0).setCell ⟨b, 1, none⟩ p1).heap[b]? = some (.cells #[p0, p1] t (0, 0)) := heap_set (heap_set h)
set_option maxRecDepth 100000 in
set_option maxHeartbeats 4000000 in
theorem finish_any (p : Gl.Pt) (k : List UInt8) (ls : List (List Gl.Ch)) (v : Value) (w : World) (hv : Opts w v ls) (hk : ls.length ≤ k.length) (hk2 : k.length ≤ 100) (hp : p.1.length ≤ 1000) (hpc : 0 ≤ p.2 ∧ p.2 ≤ 100000) (hc : ∀ l ∈ ls, ∀ c ∈ l, 0 ≤ c.2 ∧ c.2 ≤ 35) (hn : ∀ l ∈ ls, l.length ≤ 200000) :
    Calls Tryz.prog 58 #[ptV p, .string (bS k), v] w fun e w' =>
      e = .returned (finV p k (Gl.rest ls k)) ∧ Ext w w' := by
  obtain ⟨a, c, rfl, _⟩ := hv.form
  obtain ⟨pt, pc⟩ := p
  show Calls Tryz.prog _ #[.agg #[.string (bS pt), .int .i64 pc], .string (bS k), .slice a ls.length c] w _
  obtain ⟨n, hnl⟩ : ∃ n, ls.length = n := ⟨_, rfl⟩
  have HV := Lib.hid hv
  rw [hnl] at HV hk ⊢
  have HCB := Lib.hid hc
  have HNB := Lib.hid hn
  have HLN := Lib.hid hnl
  have hks : (bS k).size = k.length := bS_size k
  have HKL := Lib.hid (bS_list k)
  obtain ⟨ks, hkse⟩ : ∃ ks, bS k = ks := ⟨_, rfl⟩
  obtain ⟨ps, hpse⟩ : ∃ ps, bS pt = ps := ⟨_, rfl⟩
  have hps : ps.size ≤ 1000 := by rw [← hpse, bS_size]; exact hp
  rw [hkse] at hks HKL ⊢
  rw [hpse]
  have HPS := Lib.hid hpse
  have HKS := Lib.hid hkse
  have hkb : ks.size ≤ 100 := by omega
  have hnk : n ≤ ks.size := by omega
  clear hv hc hn hnl hk hp hpse hkse hks hk2
  dsimp only at hpc
  go_enter Tryz.func58, Tryz.ntmps58
  go_wp2
  obtain ⟨b0, hb0⟩ : ∃ b0, w.heap.size = b0 := ⟨_, rfl⟩
  have r3 := rows3 (Ext.refl (((w.alloc (.cells #[.string ps, .int .i64 pc] 96)).alloc (.cells #[.string ks] 9)).alloc (.cells #[.string ⟨#[]⟩, .int .i64 0] 96)))
  rw [hb0] at r3 ⊢
  have HB := Lib.hid hb0
  have HR3 := Lib.hid r3
  obtain ⟨W3, hW3⟩ : ∃ W3, ((w.alloc (.cells #[.string ps, .int .i64 pc] 96)).alloc (.cells #[.string ks] 9)).alloc (.cells #[.string ⟨#[]⟩, .int .i64 0] 96) = W3 := ⟨_, rfl⟩
  rw [hW3] at HR3 ⊢
  clear hW3 r3 hb0
  go_loopw [13] (fun v13 wr => ∃ (i : Nat) (acc : Int), i ≤ n ∧ v13 = .int .i64 (i : Int) ∧ 0 ≤ acc ∧ acc ≤ 35 * i ∧ Hid (wr.heap[b0]? = some (.cells #[.string ps, .int .i64 (pc + acc)] 96 (0, 0))) ∧ Hid (wr.heap[b0 + 1]? = some (.cells #[.string ks] 9 (0, 0))) ∧
    Hid (wr.heap[b0 + 1 + 1]? = some (.cells #[.string ⟨#[]⟩, .int .i64 0] 96 (0, 0))) ∧ Hid (Gl.rest ls k = (Gl.rest (ls.drop i) (k.drop i)).map (acc + ·)) ∧ Hid (Ext w wr)) (fun v13 _ => n - (intOf v13).toNat)
  case atStart => exact ⟨0, 0, Nat.zero_le _, rfl, Int.le_refl _, by omega, Lib.hid (by rw [Int.add_zero]; exact HR3.out.1), Lib.hid HR3.out.2.1, Lib.hid HR3.out.2.2.1, Lib.hid (by rw [List.drop_zero, List.drop_zero]; cases Gl.rest ls k <;> simp), Lib.hid HR3.out.2.2.2⟩
  case round =>
    clear HR3
    obtain ⟨i, acc, hi, rfl, ha0, ha1, HP, HK, HZ, HRS, HX⟩ := hrel
    by_cases hlt : i < n
    · obtain ⟨l, hl⟩ : ∃ l, ls[i]? = some l := ⟨_, List.getElem?_eq_getElem (by rw [HLN.out]; exact hlt)⟩
      have hlm : l ∈ ls := List.mem_of_getElem? hl
      have hll := HNB.out l hlm
      have hcb := HCB.out l hlm
      obtain ⟨b, off, rfl, hb, a', c', hcell, hsl⟩ := (HV.out.ext HX.out).at_ hl
      have hik : i < ks.size := by omega
      have HDR : Hid (ls.drop i = l :: ls.drop (i + 1) ∧ (k.drop i).headD 0 = ks[i] ∧ (k.drop i).tail = k.drop (i + 1)) := Lib.hid (by
        refine ⟨?_, ?_, by rw [List.tail_drop]⟩
        · have h2 := (List.getElem?_eq_some_iff.1 hl).2
          rw [List.drop_eq_getElem_cons (by rw [HLN.out]; exact hlt), h2]
        · rw [← HKL.out, drop_cons ks i hik]; rfl)
      have hltI : (i : Int) < (n : Int) := by omega
      have HSL := Lib.hid hsl
      have HCB2 := Lib.hid hcb
      have p1 := cell_at HP.out (i := 1) rfl
      have HA : Hid (Ext wr (wr.alloc (.cells #[.int .i64 (i : Int)] 3))) := Lib.hid ((Ext.refl _).alloc _)
      have HN := Lib.hid (heap_alloc_new wr (.cells #[.int .i64 (i : Int)] 3))
      have HIX := Lib.hid (idxC_any (.slice a' l.length c') l (fun c => c.1 == ks[i]) 92 #[.pointer (some ⟨b0 + 1, 0, none⟩), .pointer (some ⟨wr.heap.size, 0, none⟩)] (enters_of Tryz.func92 (by kernel_rfl) rfl) _ (hsl.ext HA.out) (by omega)
        (fun W x hx => (isAt_any x ks i hik (b0 + 1) wr.heap.size W (cell_at (row_on (row_on HK.out HA.out) hx) rfl) (cell_at (row_on HN.out hx) rfl)).mono fun e w' ⟨he, hy⟩ => ⟨he, Ext.trans hx hy⟩))
      clear hsl hcb hl hlm
      rcases idx_find (fun c => c.1 == ks[i]) l with ⟨at', x, hat, hix, hfi⟩ | ⟨hix, hfi⟩
      · rw [hix] at HIX
        have hatl : at' < l.length := (List.getElem?_eq_some_iff.1 hat).1
        obtain ⟨b2, off2, rfl, hb2, hc2⟩ := HSL.out.at_ hat
        have hx2 := HCB2.out x (List.mem_of_getElem? hat)
        have HRS2 : Hid (Gl.rest ls k = (Gl.rest (ls.drop (i + 1)) (k.drop (i + 1))).map (acc + x.2 + ·)) := Lib.hid (by
          rw [HRS.out, HDR.out.1, Gl.rest_cons, HDR.out.2.1, HDR.out.2.2, hfi]
          dsimp only
          cases Gl.rest (ls.drop (i + 1)) (k.drop (i + 1)) with
          | none => rfl
          | some m => simp only [Option.map_some, Int.add_assoc])
        have HC2 : Hid (∀ w', Ext wr w' → w'.cell? ⟨b2, off2 + at' * 2 + 1, none⟩ = some (.int .i64 x.2)) := Lib.hid (fun w' h => by rw [h.cell (p := ⟨b2, off2 + at' * 2 + 1, none⟩) hb2]; exact hc2 1 (by omega))
        have hatI : (at' : Int) < (l.length : Int) := by omega
        clear hat hix hfi hb2 hc2 HSL HCB2 HDR HRS
        go_wp2_with fail
        refine HIX.out.mono ?_
        rintro e w2 ⟨rfl, hx3⟩
        have HX3 : Hid (Ext wr w2) := Lib.hid (HA.out.trans hx3)
        have HP2 := Lib.hid (row_on HP.out HX3.out)
        have q1 := cell_at HP2.out (i := 1) rfl
        have f1 := frz_at (i := 1) HP2.out
        have q2 := HC2.out w2 HX3.out
        have HK2 := Lib.hid (row_on HK.out HX3.out)
        have HZ2 := Lib.hid (row_on HZ.out HX3.out)
        have HXX := Lib.hid (HX.out.trans HX3.out)
        clear hx3 HIX HA HN HP HK HZ HC2 HX3 HX p1 hcell
        go_wp2
        go_region
        go_wp2
        go_roundw
        case rel =>
          refine ⟨i + 1, acc + x.2, by omega, by go_num, by omega, by omega, Lib.hid ?_, Lib.hid (far1 (by omega) HK2.out), Lib.hid (far1 (by omega) HZ2.out), HRS2, Lib.hid ((HXX.out.setCell (p := ⟨b0, 1, none⟩) (by rw [HB.out]; exact Nat.le_refl _) _).drew)⟩
          have h9 := heap_set (i := 1) (u := .int .i64 (pc + acc + x.2)) HP2.out
          rw [show pc + (acc + x.2) = pc + acc + x.2 by omega]
          exact h9
        case measure => simp [intOf]; omega
      · rw [hix] at HIX
        have HE : Hid (Gl.rest ls k = none) := Lib.hid (by
          rw [HRS.out, HDR.out.1, Gl.rest_cons, HDR.out.2.1, hfi]
          rfl)
        clear hix hfi HSL HCB2 HDR HRS
        go_wp2_with fail
        refine HIX.out.mono ?_
        rintro e w2 ⟨rfl, hx3⟩
        have HX3 : Hid (Ext wr w2) := Lib.hid (HA.out.trans hx3)
        have HZ2 := Lib.hid (row_on HZ.out HX3.out)
        have z0 := cell_at HZ2.out (i := 0) rfl
        have z1 := cell_at HZ2.out (i := 1) rfl
        have f0 := frz_at (i := 0) HZ2.out
        have f1 := frz_at (i := 1) HZ2.out
        have HXX := Lib.hid (HX.out.trans HX3.out)
        clear hx3 HIX HA HN HP HK HZ HX3 HX p1 hcell
        go_wp2
        refine bodyPost_ret (results_st Tryz.results58 rfl rfl (load_pt (row2_set HZ2.out))) rfl ?_
        refine ⟨by rw [HE.out]; rfl, (HXX.out.setCell (p := ⟨b0 + 1 + 1, 0, none⟩) (by show w.heap.size ≤ b0 + 1 + 1; have := HB.out; omega) _).setCell (p := ⟨b0 + 1 + 1, 1, none⟩) (by show w.heap.size ≤ b0 + 1 + 1; have := HB.out; omega) _⟩
    · obtain rfl : i = n := by omega
      have HE : Hid (Gl.rest ls k = some acc) := Lib.hid (by
        rw [HRS.out, List.drop_of_length_le (by rw [HLN.out]; exact Nat.le_refl _)]
        simp [Gl.rest])
      have p0 := cell_at HP.out (i := 0) rfl
      have p1 := cell_at HP.out (i := 1) rfl
      have f0 := frz_at (i := 0) HP.out
      have k0 := cell_at HK.out (i := 0) rfl
      have z0 := cell_at HZ.out (i := 0) rfl
      have z1 := cell_at HZ.out (i := 1) rfl
      have g0 := frz_at (i := 0) HZ.out
      have g1 := frz_at (i := 1) HZ.out
      clear hlt hi
      go_wp2
      refine bodyPost_ret (results_st Tryz.results58 rfl rfl (load_pt (row2_set (far1 (by omega) HZ.out)))) rfl ?_
      refine ⟨by rw [HE.out, ← HPS.out, ← HKS.out, bS_app]; rfl, ((HX.out.setCell (p := ⟨b0, 0, none⟩) (by show w.heap.size ≤ b0; have := HB.out; omega) _).setCell (p := ⟨b0 + 1 + 1, 0, none⟩) (by show w.heap.size ≤ b0 + 1 + 1; have := HB.out; omega) _).setCell (p := ⟨b0 + 1 + 1, 1, none⟩) (by show w.heap.size ≤ b0 + 1 + 1; have := HB.out; omega) _⟩
end Go.Proofs.YtamkgbodifjlaaaGreatDoor
