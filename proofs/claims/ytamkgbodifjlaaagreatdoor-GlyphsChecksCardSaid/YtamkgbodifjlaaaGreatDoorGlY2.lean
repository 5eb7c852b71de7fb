/-
  Chapter 48, the program: the closures of choices, and slices.CompactFunc on choices of the call's own.
  No condition.
-/
import Derived.Test.YtamkgbodifjlaaaGreatDoorGlY1
import Derived.Test.YtamkgbodifjlaaaGreatDoorRelA
import Derived.Lib.SliceRun
import Derived.Deep.Upon
namespace Go.Proofs.YtamkgbodifjlaaaGreatDoor
open Go.RowKit Go.Sort

/-- Choices that lie in a row of the call's own, and may be written. -/
def Row2 (w : World) (g : Nat) (xs : List Gl.Ch) : Prop := g < w.heap.size ∧ ∀ i x, xs[i]? = some x → (w.cell? ⟨g, i * 2, none⟩ = some (encB x.1) ∧ w.cell? ⟨g, i * 2 + 1, none⟩ = some (encI x.2)) ∧ w.frozen? ⟨g, i * 2, none⟩ = false ∧ w.frozen? ⟨g, i * 2 + 1, none⟩ = false
theorem Row2.of {w : World} {g : Nat} {xs : List Gl.Ch} (h : HoldsK encC 2 w g 0 xs.toArray) (hg : g < w.heap.size) : Row2 w g xs := by
  refine ⟨hg, fun i x hi => ?_⟩
  have hil : i < xs.length := (List.getElem?_eq_some_iff.1 hi).1
  have e1 : (xs.toArray)[i]! = x := by
    have := (List.getElem?_eq_some_iff.1 hi).2
    simp [hil, this]
  have h0 := h.cell (i := i) (c := 0) (by simpa using hil) (by omega)
  have h1 := h.cell (i := i) (c := 1) (by simpa using hil) (by omega)
  rw [e1] at h0 h1
  rw [Nat.zero_add] at h0 h1
  rw [Nat.add_zero] at h0
  exact ⟨⟨h0.1, h1.1⟩, h0.2, h1.2⟩
theorem Row2.ext {w w' : World} {g : Nat} {xs : List Gl.Ch} (h : Row2 w g xs) (hx : Ext w w') : Row2 w' g xs := by
  refine ⟨Nat.lt_of_lt_of_le h.1 hx.size, fun i x hi => ?_⟩
  rw [hx.cell (p := ⟨g, i * 2, none⟩) h.1, hx.cell (p := ⟨g, i * 2 + 1, none⟩) h.1, hx.frozen (p := ⟨g, i * 2, none⟩) h.1, hx.frozen (p := ⟨g, i * 2 + 1, none⟩) h.1]
  exact h.2 i x hi
theorem Row2.sub {w : World} {g : Nat} {xs ys : List Gl.Ch} (h : Row2 w g xs) (hs : ∀ (i : Nat) (x : Gl.Ch), ys[i]? = some x → xs[i]? = some x) : Row2 w g ys := ⟨h.1, fun i x hi => h.2 i x (hs i x hi)⟩
theorem Row2.left {w : World} {g : Nat} {xs ys : List Gl.Ch} (h : Row2 w g (xs ++ ys)) : Row2 w g xs := h.sub fun i x hi => by
  rw [List.getElem?_append_left (List.getElem?_eq_some_iff.1 hi).1]; exact hi
theorem Row2.sl {w : World} {g cap : Nat} {xs : List Gl.Ch} (h : Row2 w g xs) : KSl 2 encC w (.slice (some ⟨g, 0, none⟩) xs.length cap) xs := by
  refine .inr ⟨g, 0, cap, rfl, h.1, fun i x hi c hc => ?_⟩
  have h2 := (h.2 i x hi).1
  rw [Nat.zero_add]
  match c, hc with
  | 0, _ => rw [Nat.add_zero]; exact h2.1
  | 1, _ => exact h2.2
theorem Row2.set {w : World} {g k : Nat} {xs : List Gl.Ch} (h : Row2 w g xs) (y : Gl.Ch) (hk : k < xs.length) : Row2 ((w.setCell ⟨g, k * 2, none⟩ (encB y.1)).setCell ⟨g, k * 2 + 1, none⟩ (encI y.2)) g (xs.set k y) := by
  have e : (w.setCell ⟨g, k * 2, none⟩ (encB y.1)).setCell ⟨g, k * 2 + 1, none⟩ (encI y.2) = w.setCells g (k * 2) [encB y.1, encI y.2] := rfl
  rw [e]
  have hx := h.2 k xs[k] (List.getElem?_eq_getElem hk)
  have hin := World.cell?_setCells_in g [encB y.1, encI y.2] (k * 2) w (fun j hj => by
    match j, hj with
    | 0, _ => rw [Nat.add_zero, hx.1.1]; rfl
    | 1, _ => rw [hx.1.2]; rfl)
  refine ⟨by rw [size_setCells]; exact h.1, fun i x hi => ?_⟩
  rw [World.frozen?_setCells, World.frozen?_setCells]
  by_cases hik : i = k
  · subst hik
    rw [List.getElem?_set_self hk] at hi
    simp only [Option.some.injEq] at hi
    subst hi
    exact ⟨⟨by simpa using hin 0 (by simp), by simpa using hin 1 (by simp)⟩, hx.2⟩
  · rw [List.getElem?_set_ne (Ne.symm hik)] at hi
    rw [World.cell?_setCells_out g _ _ _ ⟨g, i * 2, none⟩ (fun _ _ => by simp only [List.length_cons, List.length_nil]; omega), World.cell?_setCells_out g _ _ _ ⟨g, i * 2 + 1, none⟩ (fun _ _ => by simp only [List.length_cons, List.length_nil]; omega)]
    exact h.2 i x hi
theorem Row2.past {w : World} {g k : Nat} {xs : List Gl.Ch} (h : Row2 w g xs) (vs : List Value) (hk : xs.length ≤ k) : Row2 (w.setCells g (k * 2) vs) g xs := by
  refine ⟨by rw [size_setCells]; exact h.1, fun i x hi => ?_⟩
  have hil : i < xs.length := (List.getElem?_eq_some_iff.1 hi).1
  rw [World.frozen?_setCells, World.frozen?_setCells, World.cell?_setCells_out g _ _ _ ⟨g, i * 2, none⟩ (fun _ _ => .inl (by show i * 2 < k * 2; omega)), World.cell?_setCells_out g _ _ _ ⟨g, i * 2 + 1, none⟩ (fun _ _ => .inl (by show i * 2 + 1 < k * 2; omega))]
  exact h.2 i x hi
theorem ext_setCells {a : World} {g : Nat} (hg : a.heap.size ≤ g) : ∀ (vs : List Value) (o : Nat) (w : World), Ext a w → Ext a (w.setCells g o vs)
  | [], _, _, h => h
  | v :: vs, o, w, h => ext_setCells hg vs (o + 1) _ (h.setCell (p := ⟨g, o, none⟩) hg v)
/-- clear of a slice of choices. -/
theorem run_clear2 (w : World) (g k n c : Nat) (ys : List Gl.Ch) (hR : Row2 w g ys) (hn : 0 < n) (hk : k + n ≤ ys.length) :
    ∃ vs, ∀ ty, (Builtin.clear_ #[35] ty #[.slice (some ⟨g, k * 2, none⟩) n c]).run Tryz.prog w = .ok (.tuple #[]) (w.setCells g (k * 2) vs) := by
  have ht := Tryz.underlying35
  have hv : (zeroValue 67).run Tryz.prog w = .ok (.agg #[.int .u8 0, .int .i64 0]) w := by kernel_rfl
  have hz : (Value.agg #[.int .u8 0, .int .i64 0]).cells = #[.int .u8 0, .int .i64 0] := rfl
  have hlen : (Builtin.zeroCells #[.int .u8 0, .int .i64 0] n).toList.length = n * 2 := by simp [Builtin.zeroCells]
  have hone : ∀ v ∈ (Builtin.zeroCells #[.int .u8 0, .int .i64 0] n).toList, v.oneCell' = true := by
    intro v hv
    simp only [Builtin.zeroCells, Array.toList_map, List.mem_map] at hv
    obtain ⟨i, _, rfl⟩ := hv
    have : i % 2 = 0 ∨ i % 2 = 1 := by omega
    show ((#[Value.int .u8 0, Value.int .i64 0] : Array Value)[i % 2]!).oneCell' = true
    rcases this with h | h <;> rw [h] <;> rfl
  have hcell : ∀ j, j < n * 2 → (w.cell? ⟨g, k * 2 + 0 + j, none⟩).isSome = true ∧ w.frozen? ⟨g, k * 2 + 0 + j, none⟩ = false := fun j hj => by
    have hq : k + j / 2 < ys.length := by omega
    have h := hR.2 (k + j / 2) _ (List.getElem?_eq_getElem hq)
    have : j % 2 = 0 ∨ j % 2 = 1 := by omega
    rcases this with h2 | h2
    · rw [show k * 2 + 0 + j = (k + j / 2) * 2 by omega]
      exact ⟨by rw [h.1.1]; rfl, h.2.1⟩
    · rw [show k * 2 + 0 + j = (k + j / 2) * 2 + 1 by omega]
      exact ⟨by rw [h.1.2]; rfl, h.2.2⟩
  have hst := run_storeCells_cells (P := Tryz.prog) g (k * 2) (Builtin.zeroCells #[.int .u8 0, .int .i64 0] n).toList 0 w (fun j hj => (hcell j (by rw [hlen] at hj; exact hj)).1) (fun j hj => (hcell j (by rw [hlen] at hj; exact hj)).2) hone
  refine ⟨(Builtin.zeroCells #[.int .u8 0, .int .i64 0] n).toList, fun ty => ?_⟩
  obtain ⟨m, rfl⟩ : ∃ m, n = m + 1 := ⟨n - 1, by omega⟩
  simp only [Nat.add_zero] at hst
  simp [Builtin.clear_, run_underlying ht, hv, hz, hst]

set_option maxRecDepth 100000 in
theorem belongs_any (c k : UInt8) (w : World) : Calls Tryz.prog 89 #[.int .u8 (c.toNat : Int), .int .u8 (k.toNat : Int)] w fun e w' => e = .returned (.bool (Gl.cls c k)) ∧ w = w' := by
  unfold Gl.cls
  have e1 : (k = 100) ↔ ((k.toNat : Int) = 100) := by
    constructor
    · rintro rfl; rfl
    · intro h; exact UInt8.toNat_inj.1 (by show k.toNat = 100; omega)
  have e2 : (k = 97) ↔ ((k.toNat : Int) = 97) := by
    constructor
    · rintro rfl; rfl
    · intro h; exact UInt8.toNat_inj.1 (by show k.toNat = 97; omega)
  have f1 : decide ((48 : Int) ≤ (c.toNat : Int)) = decide (48 ≤ c.toNat) := by congr 1; apply propext; omega
  have f2 : decide ((c.toNat : Int) ≤ 57) = decide (c.toNat ≤ 57) := by congr 1; apply propext; omega
  have f3 : decide ((65 : Int) ≤ (c.toNat : Int)) = decide (65 ≤ c.toNat) := by congr 1; apply propext; omega
  have f4 : decide ((c.toNat : Int) ≤ 90) = decide (c.toNat ≤ 90) := by congr 1; apply propext; omega
  generalize decide (48 ≤ c.toNat) = b1 at *
  generalize decide (c.toNat ≤ 57) = b2 at *
  generalize decide (65 ≤ c.toNat) = b3 at *
  generalize decide (c.toNat ≤ 90) = b4 at *
  generalize (c.toNat : Int) = ci at *
  by_cases h1 : k = 100
  · have g1 : ((k.toNat : Int) == 100) = true := by simpa using e1.1 h1
    rw [if_pos h1]
    generalize (k.toNat : Int) = ki at *
    clear e1 e2 h1
    cases b1 <;> cases b2
    all_goals
      go_enter Tryz.func89, Tryz.ntmps89
      go_wp2
      go_ret
      exact ⟨rfl, rfl⟩
  · have g1 : ((k.toNat : Int) == 100) = false := by simpa using fun h => h1 (e1.2 h)
    rw [if_neg h1]
    by_cases h2 : k = 97
    · have g2 : ((k.toNat : Int) == 97) = true := by simpa using e2.1 h2
      rw [if_pos h2]
      generalize (k.toNat : Int) = ki at *
      clear e1 e2 h1 h2
      cases b3 <;> cases b4
      all_goals
        go_enter Tryz.func89, Tryz.ntmps89
        go_wp2
        go_ret
        exact ⟨rfl, rfl⟩
    · have g2 : ((k.toNat : Int) == 97) = false := by simpa using fun h => h2 (e2.2 h)
      rw [if_neg h2]
      generalize (k.toNat : Int) = ki at *
      clear e1 e2 h1 h2
      go_enter Tryz.func89, Tryz.ntmps89
      go_wp2
      go_ret
      exact ⟨rfl, rfl⟩
set_option maxRecDepth 100000 in
/-- choices$2: the characters are the same. -/
theorem sameC (x y : Gl.Ch) (W : World) : Calls Tryz.prog 86 #[.agg (encC x).toArray, .agg (encC y).toArray] W fun e w' => e = .returned (.bool (decide (x.1 = y.1))) ∧ Ext W w' := by
  obtain ⟨a, n⟩ := x
  obtain ⟨b, m⟩ := y
  show Calls Tryz.prog _ #[.agg #[.int .u8 (a.toNat : Int), .int .i64 n], .agg #[.int .u8 (b.toNat : Int), .int .i64 m]] W _
  dsimp only
  have hE : ((a.toNat : Int) == (b.toNat : Int)) = decide (a = b) := by
    rw [Bool.eq_iff_iff, beq_iff_eq, decide_eq_true_eq]
    constructor
    · intro h; exact UInt8.toNat_inj.1 (by omega)
    · rintro rfl; rfl
  generalize decide (a = b) = r at *
  generalize (a.toNat : Int) = ca at *
  generalize (b.toNat : Int) = cb at *
  go_enter Tryz.func86, Tryz.ntmps86
  go_wp2
  go_ret
  exact ⟨rfl, ((Ext.refl _).alloc _).alloc _⟩
set_option maxRecDepth 100000 in
/-- choices$3: the character does not belong to the class. -/
theorem alienC (x : Gl.Ch) (k : UInt8) (bk : Nat) (W : World) (hk : W.cell? ⟨bk, 0, none⟩ = some (.int .u8 (k.toNat : Int))) : Calls Tryz.prog 88 #[.agg (encC x).toArray, .pointer (some ⟨bk, 0, none⟩)] W fun e w' => e = .returned (.bool (!Gl.cls x.1 k)) ∧ Ext W w' := by
  obtain ⟨a, n⟩ := x
  show Calls Tryz.prog _ #[.agg #[.int .u8 (a.toNat : Int), .int .i64 n], .pointer (some ⟨bk, 0, none⟩)] W _
  dsimp only
  have hB := Lib.hid (belongs_any a k)
  have hlt := cell_lt hk
  have hk2 : (W.alloc (.cells #[.int .u8 (a.toNat : Int), .int .i64 n] 67)).cell? ⟨bk, 0, none⟩ = some (.int .u8 (k.toNat : Int)) := by rw [((Ext.refl W).alloc _).cell (p := ⟨bk, 0, none⟩) hlt]; exact hk
  go_enter Tryz.func88, Tryz.ntmps88
  go_wp2_with fail
  refine (hB.out _).mono ?_
  rintro e w1 ⟨rfl, rfl⟩
  go_wp2
  go_ret
  exact ⟨rfl, (Ext.refl _).alloc _⟩

set_option maxRecDepth 100000 in
set_option maxHeartbeats 4000000 in
theorem compactF_any (g cap : Nat) (xs : List Gl.Ch) (w : World) (hR : Row2 w g xs) (hcap : xs.length ≤ cap) (hn : xs.length ≤ 1000000) :
    Calls Tryz.prog 85 #[.slice (some ⟨g, 0, none⟩) xs.length cap, .func (.func 86) #[] #[]] w fun e w' =>
      e = .returned (.slice (some ⟨g, 0, none⟩) (Gl.compact xs).length cap) ∧ (∀ a, Ext a w → a.heap.size ≤ g → Ext a w') ∧ Row2 w' g (Gl.compact xs) := by
  obtain ⟨n, hln⟩ : ∃ n, xs.length = n := ⟨_, rfl⟩
  have HSN : Hid (∀ (i : Nat) (x y : Gl.Ch), xs[i]? = some y → xs[i + 1]? = some x → Gl.compact (xs.take (i + 2)) = Gl.compact (xs.take (i + 1)) ++ if x.1 = y.1 then [] else [x]) := Lib.hid (fun i x y hy hx => by
    have e : xs.take (i + 2) = xs.take (i + 1) ++ [x] := by rw [List.take_add_one, hx]; rfl
    have hne : xs.take (i + 1) ≠ [] := by
      intro h
      have := congrArg List.length h
      have h2 := (List.getElem?_eq_some_iff.1 hy).1
      rw [List.length_take, List.length_nil] at this
      omega
    rw [e, Gl.compact_snoc _ _ hne]
    have : (xs.take (i + 1)).getLast hne = y := by
      have h3 : (xs.take (i + 1)).getLast? = some y := by
        rw [List.take_add_one, hy]; simp
      rw [List.getLast?_eq_some_getLast hne] at h3
      exact Option.some.inj h3
    rw [this])
  have HTK : Hid (xs.take n = xs) := Lib.hid (by rw [← hln, List.take_length])
  have HLE : Hid (∀ k, (Gl.compact (xs.take k)).length ≤ k) := Lib.hid (fun k => Nat.le_trans (Gl.compact_len _) (List.length_take_le ..))
  have HAT : Hid (∀ i, i < n → ∃ x, xs[i]? = some x) := Lib.hid (fun i hi => ⟨_, List.getElem?_eq_getElem (by rw [hln]; exact hi)⟩)
  rw [hln] at hcap hn ⊢
  have HLN := Lib.hid hln
  have HR := Lib.hid hR
  clear hR hln
  by_cases h2 : n < 2
  · have hnI : (n : Int) < 2 := by omega
    have HE : Hid (Gl.compact xs = xs) := Lib.hid (by
      have := HLN.out
      match xs, this with
      | [], _ => rfl
      | [x], _ => rfl
      | x :: y :: l, h => simp at h; omega)
    clear h2
    go_enter Tryz.func85, Tryz.ntmps85
    go_wp2
    go_ret
    exact ⟨by rw [HE.out, HLN.out]; rfl, fun a ha _ => ha, by rw [HE.out]; exact HR.out⟩
  · have hnI : ¬ (n : Int) < 2 := by omega
    go_enter Tryz.func85, Tryz.ntmps85
    go_wp2
    go_loopw [5] (fun v5 wr => ∃ k : Nat, 1 ≤ k ∧ k ≤ n ∧ v5 = .int .i64 (k : Int) ∧ Hid (Gl.compact (xs.take k) = xs.take k) ∧ Hid (Ext w wr)) (fun v5 _ => n - (intOf v5).toNat)
    case atStart =>
      refine ⟨1, Nat.le_refl _, by omega, rfl, Lib.hid ?_, Lib.hid (Ext.refl _)⟩
      obtain ⟨x, hx⟩ := HAT.out 0 (by omega)
      rw [List.take_add_one, hx]; rfl
    case round =>
      obtain ⟨k, hk1, hkn, rfl, HCK, HXR⟩ := hrel
      by_cases hlt : k < n
      · obtain ⟨j, hj⟩ : ∃ j, k = j + 1 := ⟨k - 1, by omega⟩
        have e1 : (k : Int) - 1 = (j : Int) := by omega
        have w1 : IntKind.i64.wrap (j : Int) = (j : Int) := IntWalk.i64_in _ (by omega)
        have hltI : (k : Int) < (n : Int) := by omega
        have hjl : j < n := by omega
        have hjlI : (j : Int) < (n : Int) := by omega
        obtain ⟨x, hx⟩ := HAT.out k hlt
        obtain ⟨y, hy⟩ := HAT.out j hjl
        have HS := Lib.hid (HSN.out j x y hy (by rw [← hj]; exact hx))
        have QX : Hid (∀ w', Ext wr w' → w'.cell? ⟨g, k * 2, none⟩ = some (encB x.1) ∧ w'.cell? ⟨g, k * 2 + 1, none⟩ = some (encI x.2)) := Lib.hid (fun w' h => ((HR.out.ext (HXR.out.trans h)).2 k x hx).1)
        have QY : Hid (∀ w', Ext wr w' → w'.cell? ⟨g, j * 2, none⟩ = some (encB y.1) ∧ w'.cell? ⟨g, j * 2 + 1, none⟩ = some (encI y.2)) := Lib.hid (fun w' h => ((HR.out.ext (HXR.out.trans h)).2 j y hy).1)
        have HEQ := Lib.hid (sameC x y)
        have HJ := Lib.hid hj
        have HNX := Lib.hid hx
        clear hx hy hj
        by_cases hxy : x.1 = y.1
        · rw [decide_eq_true hxy] at HEQ
          have HS2 : Hid (Gl.compact (xs.take (k + 1)) = xs.take k) := Lib.hid (by
            have h := HS.out
            rw [if_pos hxy, List.append_nil] at h
            rw [HJ.out, h, ← HJ.out, HCK.out])
          clear hxy HS HCK
          go_wp2
          refine wp_region_rel 10 1 rfl [18, 19, 20, 21, 22, 23, 24, 25, 26, 27] [[], [], [], [1, 2], [3], [], [], [6], [5, 7], [8]] (by kernel_rfl) (by kernel_rfl) ?_
          apply relPlan_eq'
          · intro V w' hx hf
            with_reducible refine relAt_ops ?_
            intro A ρ hA hρ hcst hfun
            have h1 : ρ (.tmp 1) = .func (.func 86) #[] #[] := (congrFun hρ _).trans (evalMiss hA 1 rfl)
            exact relUpon_move (hk := by rw [h1]; exact ⟨Ext.refl _, rfl⟩)
          apply relPlan_eq'
          · intro V w' hx hf
            with_reducible refine relAt_ops ?_
            intro A ρ hA hρ hcst hfun
            have h0 : ρ (.tmp 0) = .slice (some ⟨g, 0, none⟩) n cap := (congrFun hρ _).trans (evalMiss hA 0 rfl)
            exact relUpon_move (hk := by rw [h0]; exact ⟨Ext.refl _, rfl⟩)
          apply relPlan_eq'
          · intro V w' hx hf
            with_reducible refine relAt_ops ?_
            intro A ρ hA hρ hcst hfun
            have h5 : ρ (.tmp 5) = .int .i64 (k : Int) := (congrFun hρ _).trans (evalMiss hA 5 rfl)
            exact relUpon_move (hk := by rw [h5]; exact ⟨Ext.refl _, rfl⟩)
          apply relPlan_eq'
          · intro V w' hx hf
            with_reducible refine relAt_ops ?_
            intro A ρ hA hρ hcst hfun
            obtain ⟨f19, f20, _⟩ := hf
            have h19 : ρ (.tmp 19) = _ := (congrFun hρ _).trans ((evalHit hA 19 rfl).trans f19)
            have h20 : ρ (.tmp 20) = _ := (congrFun hρ _).trans ((evalHit hA 20 rfl).trans f20)
            simp [relUpon, go_sem, Ext.refl, h19, h20, hltI]
            rfl
          refine relPlan_by (eqv (.agg (encC x).toArray)) (eqv_stable _) ?_ ?_
          · intro V w' hx hf
            with_reducible refine relAt_ops ?_
            intro A ρ hA hρ hcst hfun
            obtain ⟨f21, _⟩ := hf
            have h21 : ρ (.tmp 21) = _ := (congrFun hρ _).trans ((evalHit hA 21 rfl).trans f21)
            have q0 := (QX.out w' hx).1
            have q1 := (QX.out w' hx).2
            simp [relUpon, go_sem, Ext.refl, h21, q0,q1]
            rfl
          apply relPlan_eq'
          · intro V w' hx hf
            with_reducible refine relAt_ops ?_
            intro A ρ hA hρ hcst hfun
            have h0 : ρ (.tmp 0) = .slice (some ⟨g, 0, none⟩) n cap := (congrFun hρ _).trans (evalMiss hA 0 rfl)
            exact relUpon_move (hk := by rw [h0]; exact ⟨Ext.refl _, rfl⟩)
          apply relPlan_eq'
          · intro V w' hx hf
            with_reducible refine relAt_ops ?_
            intro A ρ hA hρ hcst hfun
            have h5 : ρ (.tmp 5) = .int .i64 (k : Int) := (congrFun hρ _).trans (evalMiss hA 5 rfl)
            exact relUpon_move (hk := by rw [h5]; exact ⟨Ext.refl _, rfl⟩)
          apply relPlan_eq'
          · intro V w' hx hf
            with_reducible refine relAt_ops ?_
            intro A ρ hA hρ hcst hfun
            obtain ⟨f24, _⟩ := hf
            have h24 : ρ (.tmp 24) = _ := (congrFun hρ _).trans ((evalHit hA 24 rfl).trans f24)
            simp [relUpon, go_sem, hcst, Ext.refl, h24, e1, w1]
            rfl
          apply relPlan_eq'
          · intro V w' hx hf
            with_reducible refine relAt_ops ?_
            intro A ρ hA hρ hcst hfun
            obtain ⟨f23, f25, _⟩ := hf
            have h23 : ρ (.tmp 23) = _ := (congrFun hρ _).trans ((evalHit hA 23 rfl).trans f23)
            have h25 : ρ (.tmp 25) = _ := (congrFun hρ _).trans ((evalHit hA 25 rfl).trans f25)
            simp [relUpon, go_sem, Ext.refl, h23, h25, hjlI]
            rfl
          refine relPlan_by (eqv (.agg (encC y).toArray)) (eqv_stable _) ?_ ?_
          · intro V w' hx hf
            with_reducible refine relAt_ops ?_
            intro A ρ hA hρ hcst hfun
            obtain ⟨f26, _⟩ := hf
            have h26 : ρ (.tmp 26) = _ := (congrFun hρ _).trans ((evalHit hA 26 rfl).trans f26)
            have q0 := (QY.out w' hx).1
            have q1 := (QY.out w' hx).2
            simp [relUpon, go_sem, Ext.refl, h26, q0,q1]
            rfl
          intro V wT hxT hf
          obtain ⟨g18, g19, g20, g21, g22, g23, g24, g25, g26, g27, _⟩ := hf
          refine wpAny_last 10 28 _ (by kernel_rfl) rfl rfl (by kernel_rfl) rfl (fun v w' => v = .bool true ∧ Ext wT w') ?_ ?_
          · with_reducible refine relAt_ops ?_
            intro A ρ hA hρ hcst hfun
            have h18 : ρ (.tmp 18) = _ := (congrFun hρ _).trans ((evalHit hA 18 rfl).trans g18)
            have h22 : ρ (.tmp 22) = _ := (congrFun hρ _).trans ((evalHit hA 22 rfl).trans g22)
            have h27 : ρ (.tmp 27) = _ := (congrFun hρ _).trans ((evalHit hA 27 rfl).trans g27)
            simp [relUpon, go_sem, h18, h22, h27]
            exact (HEQ.out wT).mono fun e w'' ⟨he, hy⟩ => ⟨_, he, rfl, hy⟩
          rintro v wU ⟨rfl, hxU⟩
          have hxT := hxT.trans hxU
          simp only [fillA, List.foldl_cons, List.foldl_nil, Act.put, List.setIfInBounds_toArray, List.set_cons_succ, List.set_cons_zero]
          clear g18 g19 g20 g21 g22 g23 g24 g25 g26 g27
          have HXT : Hid (Ext w wU) := Lib.hid (HXR.out.trans hxT)
          have HRT : Hid (Row2 wU g xs) := Lib.hid (HR.out.ext HXT.out)
          clear QX QY HEQ hjl hjlI e1 w1 hxT HXR
          obtain ⟨K0, hK0⟩ : ∃ K0, k * 2 = K0 := ⟨_, rfl⟩
          obtain ⟨L2, hL2⟩ : ∃ L2, n - k = L2 := ⟨_, rfl⟩
          obtain ⟨C2, hC2⟩ : ∃ C2, cap - k = C2 := ⟨_, rfl⟩
          have hkc : ¬ cap = k := by omega
          have hkcap : (k : Int) ≤ (cap : Int) := by omega
          go_wp2
          have HKK := Lib.hid (And.intro hK0 hL2)
          have hLb : L2 ≤ 1000000 := by omega
          clear hK0 hL2 hC2
          go_loopw [5, 7] (fun v5 v7 wq => ∃ k2 kk : Nat, 1 ≤ k2 ∧ k2 ≤ L2 ∧ v7 = .int .i64 (k2 : Int) ∧ v5 = .int .i64 (kk : Int) ∧ kk + 1 ≤ k + k2 ∧ Hid ((Gl.compact (xs.take (k + k2))).length = kk) ∧ Hid (Row2 wq g (Gl.compact (xs.take (k + k2)) ++ xs.drop kk)) ∧ Hid (∀ a, Ext a w → a.heap.size ≤ g → Ext a wq)) (fun _ v7 _ => L2 - (intOf v7).toNat)
          case atStart =>
            refine ⟨1, k, Nat.le_refl _, by have := HKK.out.2; omega, rfl, rfl, by omega, Lib.hid ?_, Lib.hid ?_, Lib.hid (fun a ha _ => ha.trans HXT.out)⟩
            · rw [HS2.out, List.length_take, HLN.out]; omega
            · rw [HS2.out, List.take_append_drop]; exact HRT.out
          case round =>
            obtain ⟨k2, kk, h21, h2L, rfl, rfl, hkk, HLK, HRW, HXQ⟩ := hrel
            have hL2 := HKK.out.2
            have HYS : Hid (∀ i x, kk ≤ i → xs[i]? = some x → (Gl.compact (xs.take (k + k2)) ++ xs.drop kk)[i]? = some x) := Lib.hid (fun i x hi hx => by
              rw [List.getElem?_append_right (by rw [HLK.out]; exact hi), HLK.out, List.getElem?_drop, show kk + (i - kk) = i by omega]; exact hx)
            by_cases hlt : k2 < L2
            · obtain ⟨j2, hj2⟩ : ∃ j2, k2 = j2 + 1 := ⟨k2 - 1, by omega⟩
              have e1 : (k2 : Int) - 1 = (j2 : Int) := by omega
              have w1 : IntKind.i64.wrap (j2 : Int) = (j2 : Int) := IntWalk.i64_in _ (by omega)
              have hltI : (k2 : Int) < (L2 : Int) := by omega
              have hjl : j2 < L2 := by omega
              have hjlI : (j2 : Int) < (L2 : Int) := by omega
              obtain ⟨x, hx⟩ := HAT.out (k + k2) (by omega)
              obtain ⟨y, hy⟩ := HAT.out (k + j2) (by omega)
              have HS := Lib.hid (HSN.out (k + j2) x y hy (by rw [show k + j2 + 1 = k + k2 by omega]; exact hx))
              have eX : (k + k2) * 2 = K0 + k2 * 2 := by rw [← HKK.out.1, Nat.add_mul]
              have eY : (k + j2) * 2 = K0 + j2 * 2 := by rw [← HKK.out.1, Nat.add_mul]
              have QX : Hid (∀ w', Ext wr w' → w'.cell? ⟨g, K0 + k2 * 2, none⟩ = some (encB x.1) ∧ w'.cell? ⟨g, K0 + k2 * 2 + 1, none⟩ = some (encI x.2)) := Lib.hid (fun w' h => by
                have h4 := ((HRW.out.ext h).2 (k + k2) x (HYS.out _ _ (by omega) hx)).1
                rw [eX] at h4; exact h4)
              have QY : Hid (∀ w', Ext wr w' → w'.cell? ⟨g, K0 + j2 * 2, none⟩ = some (encB y.1) ∧ w'.cell? ⟨g, K0 + j2 * 2 + 1, none⟩ = some (encI y.2)) := Lib.hid (fun w' h => by
                have h4 := ((HRW.out.ext h).2 (k + j2) y (HYS.out _ _ (by omega) hy)).1
                rw [eY] at h4; exact h4)
              have HEQ := Lib.hid (sameC x y)
              have HJ := Lib.hid hj2
              have HNX := Lib.hid hx
              clear hx hy hj2 eX eY
              by_cases hxy : x.1 = y.1
              · rw [decide_eq_true hxy] at HEQ
                have HS3 : Hid (Gl.compact (xs.take (k + (k2 + 1))) = Gl.compact (xs.take (k + k2))) := Lib.hid (by
                  have h := HS.out
                  rw [if_pos hxy, List.append_nil] at h
                  rw [show k + (k2 + 1) = k + j2 + 2 by have := HJ.out; omega, h, show k + j2 + 1 = k + k2 by have := HJ.out; omega])
                clear hxy HS hL2
                go_wp2
                refine wp_region_rel 11 1 rfl [38, 39, 40, 41, 42, 43, 44, 45, 46, 47, 48] [[], [], [], [1, 2], [3], [], [], [6], [5, 7], [8], [0, 4, 9]] (by kernel_rfl) (by kernel_rfl) ?_
                apply relPlan_eq'
                · intro V w' hx hf
                  with_reducible refine relAt_ops ?_
                  intro A ρ hA hρ hcst hfun
                  have h1 : ρ (.tmp 1) = .func (.func 86) #[] #[] := (congrFun hρ _).trans (evalMiss hA 1 rfl)
                  exact relUpon_move (hk := by rw [h1]; exact ⟨Ext.refl _, rfl⟩)
                apply relPlan_eq'
                · intro V w' hx hf
                  with_reducible refine relAt_ops ?_
                  intro A ρ hA hρ hcst hfun
                  have h6 : ρ (.tmp 6) = .slice (some ⟨g, K0, none⟩) L2 C2 := (congrFun hρ _).trans (evalMiss hA 6 rfl)
                  exact relUpon_move (hk := by rw [h6]; exact ⟨Ext.refl _, rfl⟩)
                apply relPlan_eq'
                · intro V w' hx hf
                  with_reducible refine relAt_ops ?_
                  intro A ρ hA hρ hcst hfun
                  have h7 : ρ (.tmp 7) = .int .i64 (k2 : Int) := (congrFun hρ _).trans (evalMiss hA 7 rfl)
                  exact relUpon_move (hk := by rw [h7]; exact ⟨Ext.refl _, rfl⟩)
                apply relPlan_eq'
                · intro V w' hx hf
                  with_reducible refine relAt_ops ?_
                  intro A ρ hA hρ hcst hfun
                  obtain ⟨f39, f40, _⟩ := hf
                  have h39 : ρ (.tmp 39) = _ := (congrFun hρ _).trans ((evalHit hA 39 rfl).trans f39)
                  have h40 : ρ (.tmp 40) = _ := (congrFun hρ _).trans ((evalHit hA 40 rfl).trans f40)
                  simp [relUpon, go_sem, Ext.refl, h39, h40, hltI]
                  rfl
                refine relPlan_by (eqv (.agg (encC x).toArray)) (eqv_stable _) ?_ ?_
                · intro V w' hx hf
                  with_reducible refine relAt_ops ?_
                  intro A ρ hA hρ hcst hfun
                  obtain ⟨f41, _⟩ := hf
                  have h41 : ρ (.tmp 41) = _ := (congrFun hρ _).trans ((evalHit hA 41 rfl).trans f41)
                  have q0 := (QX.out w' hx).1
                  have q1 := (QX.out w' hx).2
                  simp [relUpon, go_sem, Ext.refl, h41, q0,q1]
                  rfl
                apply relPlan_eq'
                · intro V w' hx hf
                  with_reducible refine relAt_ops ?_
                  intro A ρ hA hρ hcst hfun
                  have h6 : ρ (.tmp 6) = .slice (some ⟨g, K0, none⟩) L2 C2 := (congrFun hρ _).trans (evalMiss hA 6 rfl)
                  exact relUpon_move (hk := by rw [h6]; exact ⟨Ext.refl _, rfl⟩)
                apply relPlan_eq'
                · intro V w' hx hf
                  with_reducible refine relAt_ops ?_
                  intro A ρ hA hρ hcst hfun
                  have h7 : ρ (.tmp 7) = .int .i64 (k2 : Int) := (congrFun hρ _).trans (evalMiss hA 7 rfl)
                  exact relUpon_move (hk := by rw [h7]; exact ⟨Ext.refl _, rfl⟩)
                apply relPlan_eq'
                · intro V w' hx hf
                  with_reducible refine relAt_ops ?_
                  intro A ρ hA hρ hcst hfun
                  obtain ⟨f44, _⟩ := hf
                  have h44 : ρ (.tmp 44) = _ := (congrFun hρ _).trans ((evalHit hA 44 rfl).trans f44)
                  simp [relUpon, go_sem, hcst, Ext.refl, h44, e1, w1]
                  rfl
                apply relPlan_eq'
                · intro V w' hx hf
                  with_reducible refine relAt_ops ?_
                  intro A ρ hA hρ hcst hfun
                  obtain ⟨f43, f45, _⟩ := hf
                  have h43 : ρ (.tmp 43) = _ := (congrFun hρ _).trans ((evalHit hA 43 rfl).trans f43)
                  have h45 : ρ (.tmp 45) = _ := (congrFun hρ _).trans ((evalHit hA 45 rfl).trans f45)
                  simp [relUpon, go_sem, Ext.refl, h43, h45, hjlI]
                  rfl
                refine relPlan_by (eqv (.agg (encC y).toArray)) (eqv_stable _) ?_ ?_
                · intro V w' hx hf
                  with_reducible refine relAt_ops ?_
                  intro A ρ hA hρ hcst hfun
                  obtain ⟨f46, _⟩ := hf
                  have h46 : ρ (.tmp 46) = _ := (congrFun hρ _).trans ((evalHit hA 46 rfl).trans f46)
                  have q0 := (QY.out w' hx).1
                  have q1 := (QY.out w' hx).2
                  simp [relUpon, go_sem, Ext.refl, h46, q0,q1]
                  rfl
                refine relPlan_by (eqv (.bool true)) (eqv_stable _) ?_ ?_
                · intro V w' hx hf
                  with_reducible refine relAt_ops ?_
                  intro A ρ hA hρ hcst hfun
                  obtain ⟨f38, f42, f47, _⟩ := hf
                  have h38 : ρ (.tmp 38) = _ := (congrFun hρ _).trans ((evalHit hA 38 rfl).trans f38)
                  have h42 : ρ (.tmp 42) = _ := (congrFun hρ _).trans ((evalHit hA 42 rfl).trans f42)
                  have h47 : ρ (.tmp 47) = _ := (congrFun hρ _).trans ((evalHit hA 47 rfl).trans f47)
                  simp [relUpon, go_sem, h38, h42, h47]
                  exact (HEQ.out w').mono fun e w'' ⟨he, hy⟩ => ⟨_, he, hy, rfl⟩
                intro V wT hxT hf
                obtain ⟨g38, g39, g40, g41, g42, g43, g44, g45, g46, g47, g48, _⟩ := hf
                refine wpAny_last 11 49 _ (by kernel_rfl) rfl rfl (by kernel_rfl) rfl (fun v w' => v = .bool (!true) ∧ wT = w') ?_ ?_
                · with_reducible refine relAt_ops ?_
                  intro A ρ hA hρ hcst hfun
                  have h48 : ρ (.tmp 48) = _ := (congrFun hρ _).trans ((evalHit hA 48 rfl).trans g48)
                  simp [relUpon, go_sem, h48]
                rintro v wU ⟨rfl, rfl⟩
                simp only [fillA, List.foldl_cons, List.foldl_nil, Act.put, List.setIfInBounds_toArray, List.set_cons_succ, List.set_cons_zero]
                clear g38 g39 g40 g41 g42 g43 g44 g45 g46 g47 g48
                clear QX QY HEQ hjl hjlI e1 w1
                go_wp2
                go_roundw
                case rel => exact ⟨k2 + 1, kk, by omega, by omega, by go_num, rfl, by omega, by rw [HS3.out]; exact HLK, by rw [HS3.out]; exact Lib.hid (HRW.out.ext hxT), Lib.hid (fun a ha hag => (HXQ.out a ha hag).trans hxT)⟩
                case measure => simp [intOf]; omega
              · rw [decide_eq_false hxy] at HEQ
                have HS3 : Hid (Gl.compact (xs.take (k + (k2 + 1))) = Gl.compact (xs.take (k + k2)) ++ [x]) := Lib.hid (by
                  have h := HS.out
                  rw [if_neg hxy] at h
                  rw [show k + (k2 + 1) = k + j2 + 2 by have := HJ.out; omega, h, show k + j2 + 1 = k + k2 by have := HJ.out; omega])
                clear hxy HS
                go_wp2
                refine wp_region_rel 11 1 rfl [38, 39, 40, 41, 42, 43, 44, 45, 46, 47, 48] [[], [], [], [1, 2], [3], [], [], [6], [5, 7], [8], [0, 4, 9]] (by kernel_rfl) (by kernel_rfl) ?_
                apply relPlan_eq'
                · intro V w' hx hf
                  with_reducible refine relAt_ops ?_
                  intro A ρ hA hρ hcst hfun
                  have h1 : ρ (.tmp 1) = .func (.func 86) #[] #[] := (congrFun hρ _).trans (evalMiss hA 1 rfl)
                  exact relUpon_move (hk := by rw [h1]; exact ⟨Ext.refl _, rfl⟩)
                apply relPlan_eq'
                · intro V w' hx hf
                  with_reducible refine relAt_ops ?_
                  intro A ρ hA hρ hcst hfun
                  have h6 : ρ (.tmp 6) = .slice (some ⟨g, K0, none⟩) L2 C2 := (congrFun hρ _).trans (evalMiss hA 6 rfl)
                  exact relUpon_move (hk := by rw [h6]; exact ⟨Ext.refl _, rfl⟩)
                apply relPlan_eq'
                · intro V w' hx hf
                  with_reducible refine relAt_ops ?_
                  intro A ρ hA hρ hcst hfun
                  have h7 : ρ (.tmp 7) = .int .i64 (k2 : Int) := (congrFun hρ _).trans (evalMiss hA 7 rfl)
                  exact relUpon_move (hk := by rw [h7]; exact ⟨Ext.refl _, rfl⟩)
                apply relPlan_eq'
                · intro V w' hx hf
                  with_reducible refine relAt_ops ?_
                  intro A ρ hA hρ hcst hfun
                  obtain ⟨f39, f40, _⟩ := hf
                  have h39 : ρ (.tmp 39) = _ := (congrFun hρ _).trans ((evalHit hA 39 rfl).trans f39)
                  have h40 : ρ (.tmp 40) = _ := (congrFun hρ _).trans ((evalHit hA 40 rfl).trans f40)
                  simp [relUpon, go_sem, Ext.refl, h39, h40, hltI]
                  rfl
                refine relPlan_by (eqv (.agg (encC x).toArray)) (eqv_stable _) ?_ ?_
                · intro V w' hx hf
                  with_reducible refine relAt_ops ?_
                  intro A ρ hA hρ hcst hfun
                  obtain ⟨f41, _⟩ := hf
                  have h41 : ρ (.tmp 41) = _ := (congrFun hρ _).trans ((evalHit hA 41 rfl).trans f41)
                  have q0 := (QX.out w' hx).1
                  have q1 := (QX.out w' hx).2
                  simp [relUpon, go_sem, Ext.refl, h41, q0,q1]
                  rfl
                apply relPlan_eq'
                · intro V w' hx hf
                  with_reducible refine relAt_ops ?_
                  intro A ρ hA hρ hcst hfun
                  have h6 : ρ (.tmp 6) = .slice (some ⟨g, K0, none⟩) L2 C2 := (congrFun hρ _).trans (evalMiss hA 6 rfl)
                  exact relUpon_move (hk := by rw [h6]; exact ⟨Ext.refl _, rfl⟩)
                apply relPlan_eq'
                · intro V w' hx hf
                  with_reducible refine relAt_ops ?_
                  intro A ρ hA hρ hcst hfun
                  have h7 : ρ (.tmp 7) = .int .i64 (k2 : Int) := (congrFun hρ _).trans (evalMiss hA 7 rfl)
                  exact relUpon_move (hk := by rw [h7]; exact ⟨Ext.refl _, rfl⟩)
                apply relPlan_eq'
                · intro V w' hx hf
                  with_reducible refine relAt_ops ?_
                  intro A ρ hA hρ hcst hfun
                  obtain ⟨f44, _⟩ := hf
                  have h44 : ρ (.tmp 44) = _ := (congrFun hρ _).trans ((evalHit hA 44 rfl).trans f44)
                  simp [relUpon, go_sem, hcst, Ext.refl, h44, e1, w1]
                  rfl
                apply relPlan_eq'
                · intro V w' hx hf
                  with_reducible refine relAt_ops ?_
                  intro A ρ hA hρ hcst hfun
                  obtain ⟨f43, f45, _⟩ := hf
                  have h43 : ρ (.tmp 43) = _ := (congrFun hρ _).trans ((evalHit hA 43 rfl).trans f43)
                  have h45 : ρ (.tmp 45) = _ := (congrFun hρ _).trans ((evalHit hA 45 rfl).trans f45)
                  simp [relUpon, go_sem, Ext.refl, h43, h45, hjlI]
                  rfl
                refine relPlan_by (eqv (.agg (encC y).toArray)) (eqv_stable _) ?_ ?_
                · intro V w' hx hf
                  with_reducible refine relAt_ops ?_
                  intro A ρ hA hρ hcst hfun
                  obtain ⟨f46, _⟩ := hf
                  have h46 : ρ (.tmp 46) = _ := (congrFun hρ _).trans ((evalHit hA 46 rfl).trans f46)
                  have q0 := (QY.out w' hx).1
                  have q1 := (QY.out w' hx).2
                  simp [relUpon, go_sem, Ext.refl, h46, q0,q1]
                  rfl
                refine relPlan_by (eqv (.bool false)) (eqv_stable _) ?_ ?_
                · intro V w' hx hf
                  with_reducible refine relAt_ops ?_
                  intro A ρ hA hρ hcst hfun
                  obtain ⟨f38, f42, f47, _⟩ := hf
                  have h38 : ρ (.tmp 38) = _ := (congrFun hρ _).trans ((evalHit hA 38 rfl).trans f38)
                  have h42 : ρ (.tmp 42) = _ := (congrFun hρ _).trans ((evalHit hA 42 rfl).trans f42)
                  have h47 : ρ (.tmp 47) = _ := (congrFun hρ _).trans ((evalHit hA 47 rfl).trans f47)
                  simp [relUpon, go_sem, h38, h42, h47]
                  exact (HEQ.out w').mono fun e w'' ⟨he, hy⟩ => ⟨_, he, hy, rfl⟩
                intro V wT hxT hf
                obtain ⟨g38, g39, g40, g41, g42, g43, g44, g45, g46, g47, g48, _⟩ := hf
                refine wpAny_last 11 49 _ (by kernel_rfl) rfl rfl (by kernel_rfl) rfl (fun v w' => v = .bool (!false) ∧ wT = w') ?_ ?_
                · with_reducible refine relAt_ops ?_
                  intro A ρ hA hρ hcst hfun
                  have h48 : ρ (.tmp 48) = _ := (congrFun hρ _).trans ((evalHit hA 48 rfl).trans g48)
                  simp [relUpon, go_sem, h48]
                rintro v wU ⟨rfl, rfl⟩
                simp only [fillA, List.foldl_cons, List.foldl_nil, Act.put, List.setIfInBounds_toArray, List.set_cons_succ, List.set_cons_zero]
                clear g38 g39 g40 g41 g42 g43 g44 g45 g46 g47 g48
                have HRT2 := Lib.hid (HRW.out.ext hxT)
                have HXT2 : Hid (∀ a, Ext a w → a.heap.size ≤ g → Ext a wT) := Lib.hid (fun a ha hag => (HXQ.out a ha hag).trans hxT)
                have x0 : wT.cell? ⟨g, K0 + k2 * 2, none⟩ = some (.int .u8 (x.1.toNat : Int)) := (QX.out wT hxT).1
                have x1 : wT.cell? ⟨g, K0 + k2 * 2 + 1, none⟩ = some (.int .i64 x.2) := (QX.out wT hxT).2
                obtain ⟨z, hz⟩ := HAT.out kk (by omega)
                have hz2 := HRT2.out.2 kk z (HYS.out _ _ (Nat.le_refl _) hz)
                have z0 : wT.cell? ⟨g, kk * 2, none⟩ = some (.int .u8 (z.1.toNat : Int)) := hz2.1.1
                have z1 : wT.cell? ⟨g, kk * 2 + 1, none⟩ = some (.int .i64 z.2) := hz2.1.2
                have f0 := hz2.2.1
                have f1 := hz2.2.2
                have hkn : kk < n := by omega
                have hknI : (kk : Int) < (n : Int) := by omega
                have HLN2 : Hid ((Gl.compact (xs.take (k + k2)) ++ xs.drop kk).length = n) := Lib.hid (by rw [List.length_append, HLK.out, List.length_drop, HLN.out]; omega)
                clear QX QY HEQ hjl hjlI e1 w1 hz hz2 hxT hL2
                go_wp2
                go_roundw
                case rel =>
                  have h5 := HRT2.out.set x (k := kk) (by rw [HLN2.out]; exact hkn)
                  have e5 : (Gl.compact (xs.take (k + k2)) ++ xs.drop kk).set kk x = Gl.compact (xs.take (k + (k2 + 1))) ++ xs.drop (kk + 1) := by
                    rw [HS3.out, List.set_append_right _ _ (by rw [HLK.out]; exact Nat.le_refl _), HLK.out, Nat.sub_self, List.append_assoc]
                    congr 1
                    have : xs.drop kk = xs[kk]'(by rw [HLN.out]; exact hkn) :: xs.drop (kk + 1) := List.drop_eq_getElem_cons _
                    rw [this]; rfl
                  rw [e5] at h5
                  exact ⟨k2 + 1, kk + 1, by omega, by omega, by go_num, by go_num, by omega, Lib.hid (by rw [HS3.out, List.length_append, HLK.out]; rfl), Lib.hid h5, Lib.hid (fun a ha hag => ((HXT2.out a ha hag).setCell (p := ⟨g, kk * 2, none⟩) hag _).setCell (p := ⟨g, kk * 2 + 1, none⟩) hag _)⟩
                case measure => simp [intOf]; omega
            · have e2L : k2 = L2 := by omega
              have eN : k + k2 = n := by omega
              have HLK2 : Hid ((Gl.compact xs).length = kk) := Lib.hid (by have h := HLK.out; rw [eN, HTK.out] at h; exact h)
              have hRW := HRW.out
              rw [eN, HTK.out] at hRW
              have hkn : kk < n := by omega
              have hkcap2 : (kk : Int) ≤ (cap : Int) := by omega
              have hkn2 : (kk : Int) ≤ (n : Int) := by omega
              have hkc2 : ¬ cap = kk := by omega
              obtain ⟨vs, hcl⟩ := run_clear2 wr g kk (n - kk) (cap - kk) _ hRW (by omega) (by rw [List.length_append, HLK2.out, List.length_drop, HLN.out]; omega)
              have HRE := Lib.hid (hRW.left.past vs (k := kk) (by rw [HLK2.out]; exact Nat.le_refl _))
              have HXE : Hid (∀ a, Ext a w → a.heap.size ≤ g → Ext a (wr.setCells g (kk * 2) vs)) := Lib.hid (fun a ha hag => ext_setCells hag _ _ _ (HXQ.out a ha hag))
              clear hRW e2L eN hL2 hkk
              go_wp2
              go_ret
              exact ⟨by rw [HLK2.out]; rfl, HXE.out, HRE.out⟩
        · rw [decide_eq_false hxy] at HEQ
          have HS2 : Hid (Gl.compact (xs.take (k + 1)) = xs.take (k + 1)) := Lib.hid (by
            have h := HS.out
            rw [if_neg hxy] at h
            rw [HJ.out, h, ← HJ.out, HCK.out, List.take_add_one, HNX.out]; rfl)
          clear hxy HS HCK
          go_wp2
          refine wp_region_rel 10 1 rfl [18, 19, 20, 21, 22, 23, 24, 25, 26, 27] [[], [], [], [1, 2], [3], [], [], [6], [5, 7], [8]] (by kernel_rfl) (by kernel_rfl) ?_
          apply relPlan_eq'
          · intro V w' hx hf
            with_reducible refine relAt_ops ?_
            intro A ρ hA hρ hcst hfun
            have h1 : ρ (.tmp 1) = .func (.func 86) #[] #[] := (congrFun hρ _).trans (evalMiss hA 1 rfl)
            exact relUpon_move (hk := by rw [h1]; exact ⟨Ext.refl _, rfl⟩)
          apply relPlan_eq'
          · intro V w' hx hf
            with_reducible refine relAt_ops ?_
            intro A ρ hA hρ hcst hfun
            have h0 : ρ (.tmp 0) = .slice (some ⟨g, 0, none⟩) n cap := (congrFun hρ _).trans (evalMiss hA 0 rfl)
            exact relUpon_move (hk := by rw [h0]; exact ⟨Ext.refl _, rfl⟩)
          apply relPlan_eq'
          · intro V w' hx hf
            with_reducible refine relAt_ops ?_
            intro A ρ hA hρ hcst hfun
            have h5 : ρ (.tmp 5) = .int .i64 (k : Int) := (congrFun hρ _).trans (evalMiss hA 5 rfl)
            exact relUpon_move (hk := by rw [h5]; exact ⟨Ext.refl _, rfl⟩)
          apply relPlan_eq'
          · intro V w' hx hf
            with_reducible refine relAt_ops ?_
            intro A ρ hA hρ hcst hfun
            obtain ⟨f19, f20, _⟩ := hf
            have h19 : ρ (.tmp 19) = _ := (congrFun hρ _).trans ((evalHit hA 19 rfl).trans f19)
            have h20 : ρ (.tmp 20) = _ := (congrFun hρ _).trans ((evalHit hA 20 rfl).trans f20)
            simp [relUpon, go_sem, Ext.refl, h19, h20, hltI]
            rfl
          refine relPlan_by (eqv (.agg (encC x).toArray)) (eqv_stable _) ?_ ?_
          · intro V w' hx hf
            with_reducible refine relAt_ops ?_
            intro A ρ hA hρ hcst hfun
            obtain ⟨f21, _⟩ := hf
            have h21 : ρ (.tmp 21) = _ := (congrFun hρ _).trans ((evalHit hA 21 rfl).trans f21)
            have q0 := (QX.out w' hx).1
            have q1 := (QX.out w' hx).2
            simp [relUpon, go_sem, Ext.refl, h21, q0,q1]
            rfl
          apply relPlan_eq'
          · intro V w' hx hf
            with_reducible refine relAt_ops ?_
            intro A ρ hA hρ hcst hfun
            have h0 : ρ (.tmp 0) = .slice (some ⟨g, 0, none⟩) n cap := (congrFun hρ _).trans (evalMiss hA 0 rfl)
            exact relUpon_move (hk := by rw [h0]; exact ⟨Ext.refl _, rfl⟩)
          apply relPlan_eq'
          · intro V w' hx hf
            with_reducible refine relAt_ops ?_
            intro A ρ hA hρ hcst hfun
            have h5 : ρ (.tmp 5) = .int .i64 (k : Int) := (congrFun hρ _).trans (evalMiss hA 5 rfl)
            exact relUpon_move (hk := by rw [h5]; exact ⟨Ext.refl _, rfl⟩)
          apply relPlan_eq'
          · intro V w' hx hf
            with_reducible refine relAt_ops ?_
            intro A ρ hA hρ hcst hfun
            obtain ⟨f24, _⟩ := hf
            have h24 : ρ (.tmp 24) = _ := (congrFun hρ _).trans ((evalHit hA 24 rfl).trans f24)
            simp [relUpon, go_sem, hcst, Ext.refl, h24, e1, w1]
            rfl
          apply relPlan_eq'
          · intro V w' hx hf
            with_reducible refine relAt_ops ?_
            intro A ρ hA hρ hcst hfun
            obtain ⟨f23, f25, _⟩ := hf
            have h23 : ρ (.tmp 23) = _ := (congrFun hρ _).trans ((evalHit hA 23 rfl).trans f23)
            have h25 : ρ (.tmp 25) = _ := (congrFun hρ _).trans ((evalHit hA 25 rfl).trans f25)
            simp [relUpon, go_sem, Ext.refl, h23, h25, hjlI]
            rfl
          refine relPlan_by (eqv (.agg (encC y).toArray)) (eqv_stable _) ?_ ?_
          · intro V w' hx hf
            with_reducible refine relAt_ops ?_
            intro A ρ hA hρ hcst hfun
            obtain ⟨f26, _⟩ := hf
            have h26 : ρ (.tmp 26) = _ := (congrFun hρ _).trans ((evalHit hA 26 rfl).trans f26)
            have q0 := (QY.out w' hx).1
            have q1 := (QY.out w' hx).2
            simp [relUpon, go_sem, Ext.refl, h26, q0,q1]
            rfl
          intro V wT hxT hf
          obtain ⟨g18, g19, g20, g21, g22, g23, g24, g25, g26, g27, _⟩ := hf
          refine wpAny_last 10 28 _ (by kernel_rfl) rfl rfl (by kernel_rfl) rfl (fun v w' => v = .bool false ∧ Ext wT w') ?_ ?_
          · with_reducible refine relAt_ops ?_
            intro A ρ hA hρ hcst hfun
            have h18 : ρ (.tmp 18) = _ := (congrFun hρ _).trans ((evalHit hA 18 rfl).trans g18)
            have h22 : ρ (.tmp 22) = _ := (congrFun hρ _).trans ((evalHit hA 22 rfl).trans g22)
            have h27 : ρ (.tmp 27) = _ := (congrFun hρ _).trans ((evalHit hA 27 rfl).trans g27)
            simp [relUpon, go_sem, h18, h22, h27]
            exact (HEQ.out wT).mono fun e w'' ⟨he, hy⟩ => ⟨_, he, rfl, hy⟩
          rintro v wU ⟨rfl, hxU⟩
          have hxT := hxT.trans hxU
          simp only [fillA, List.foldl_cons, List.foldl_nil, Act.put, List.setIfInBounds_toArray, List.set_cons_succ, List.set_cons_zero]
          clear g18 g19 g20 g21 g22 g23 g24 g25 g26 g27
          have HXT : Hid (Ext w wU) := Lib.hid (HXR.out.trans hxT)
          clear QX QY HEQ hjl hjlI e1 w1 hxT HXR
          go_wp2
          go_roundw
          case rel => exact ⟨k + 1, by omega, by omega, by go_num, HS2, HXT⟩
          case measure => simp [intOf]; omega
      · obtain rfl : k = n := by omega
        have HE : Hid (Gl.compact xs = xs) := Lib.hid (by
          have h := HCK.out
          rw [HTK.out] at h; exact h)
        clear hlt hkn HCK
        go_wp2
        go_ret
        exact ⟨by rw [HE.out, HLN.out]; rfl, fun a ha _ => ha.trans HXR.out, by rw [HE.out]; exact HR.out.ext HXR.out⟩
end Go.Proofs.YtamkgbodifjlaaaGreatDoor
