/-
  Chapter 48, the program: slices.DeleteFunc on choices of the call's own.
  No condition.
-/
import Derived.Test.YtamkgbodifjlaaaGreatDoorGlY2
import Derived.Lib.SlBy
import Derived.Test.YtamkgbodifjlaaaGreatDoorGlW7
import Derived.Deep.AppendSrc

/-
  Chapter 48, the program: slices.DeleteFunc on choices of the call's own.
  No condition.
-/
namespace Go.Proofs.YtamkgbodifjlaaaGreatDoor
open Go.RowKit Go.Sort

theorem first_of {α : Type} [Inhabited α] (p : α → Bool) (zs : List α) : (∀ j, j < zs.length → p zs[j]! = false) ∨ ∃ k, k < zs.length ∧ p zs[k]! = true ∧ ∀ j, j < k → p zs[j]! = false := by
  have : ∀ n, n ≤ zs.length → (∀ j, j < n → p zs[j]! = false) ∨ ∃ k, k < zs.length ∧ p zs[k]! = true ∧ ∀ j, j < k → p zs[j]! = false := by
    intro n
    induction n with
    | zero => exact fun _ => .inl fun j hj => absurd hj (Nat.not_lt_zero _)
    | succ n ih =>
      intro hn
      rcases ih (by omega) with h | h
      · cases hp : p zs[n]! with
        | true => exact .inr ⟨n, hn, hp, h⟩
        | false =>
          refine .inl fun j hj => ?_
          rcases Nat.lt_or_ge j n with h1 | h1
          · exact h j h1
          · obtain rfl : j = n := by omega
            exact hp
      · exact .inr h
  exact this _ (Nat.le_refl _)
theorem bang_at {α : Type} [Inhabited α] {zs : List α} {j : Nat} {x : α} (h : zs[j]? = some x) : zs[j]! = x := by
  rw [List.getElem!_eq_getElem?_getD, h]; rfl
theorem row2_cells {w : World} {g : Nat} {xs : List Gl.Ch} (h : Row2 w g xs) : ∀ j, j < xs.length → ∀ i v, (encC xs[j]!)[i]? = some v → w.cell? ⟨g, 0 + j * 2 + i, none⟩ = some v := by
  intro j hj i v hi
  have hx : xs[j]? = some xs[j] := List.getElem?_eq_getElem hj
  rw [bang_at hx] at hi
  have h2 := (h.2 j _ hx).1
  rw [Nat.zero_add]
  match i with
  | 0 => simp only [encC, List.getElem?_cons_zero, Option.some.injEq] at hi; subst hi; exact h2.1
  | 1 => simp only [encC, List.getElem?_cons_succ, List.getElem?_cons_zero, Option.some.injEq] at hi; subst hi; exact h2.2
  | i + 2 => simp [encC] at hi

set_option maxRecDepth 100000 in
set_option maxHeartbeats 4000000 in
theorem deleteF_any (g cap bk : Nat) (k : UInt8) (xs : List Gl.Ch) (w : World) (hR : Row2 w g xs) (hcap : xs.length ≤ cap) (hn : xs.length ≤ 1000000) (hk : w.cell? ⟨bk, 0, none⟩ = some (.int .u8 (k.toNat : Int))) (hbg : bk ≠ g) :
    Calls Tryz.prog 87 #[.slice (some ⟨g, 0, none⟩) xs.length cap, .func (.func 88) #[] #[.pointer (some ⟨bk, 0, none⟩)]] w fun e w' =>
      e = .returned (.slice (some ⟨g, 0, none⟩) (xs.filter fun c => Gl.cls c.1 k).length cap) ∧ (∀ a, Ext a w → a.heap.size ≤ g → Ext a w') ∧ Row2 w' g (xs.filter fun c => Gl.cls c.1 k) := by
  obtain ⟨n, hln⟩ : ∃ n, xs.length = n := ⟨_, rfl⟩
  have hbk := cell_lt hk
  have HKX : Hid (∀ w', Ext w w' → w'.cell? ⟨bk, 0, none⟩ = some (.int .u8 (k.toNat : Int))) := Lib.hid (fun w' h => by rw [h.cell (p := ⟨bk, 0, none⟩) hbk]; exact hk)
  have HIX := Lib.hid (AnyQ.slices_IndexFunc Tryz.findCh 2 Tryz.isAgg67 Tryz.sizeOf67 encC encC_len (fun c => !Gl.cls c.1 k) 88 #[.pointer (some ⟨bk, 0, none⟩)] (enters_of Tryz.func88 (by kernel_rfl) rfl) g 0 n cap xs w
    (fun W x hx => (alienC x k bk W (HKX.out W hx)).mono fun e w' ⟨he, hy⟩ => ⟨he, Ext.trans hx hy⟩) (by omega) (by omega) hR.1 (row2_cells hR))
  rw [List.take_of_length_le (by omega)] at HIX
  have HAL := Lib.hid (fun x W (h : W.cell? ⟨bk, 0, none⟩ = some (.int .u8 (k.toNat : Int))) => alienC x k bk W h)
  have HAT : Hid (∀ i, i < n → ∃ x, xs[i]? = some x) := Lib.hid (fun i hi => ⟨_, List.getElem?_eq_getElem (by rw [hln]; exact hi)⟩)
  have HLN := Lib.hid hln
  have HTK : Hid (xs.take n = xs) := Lib.hid (by rw [← hln, List.take_length])
  have HR := Lib.hid hR
  have HFO := first_of (fun c => !Gl.cls c.1 k) xs
  obtain ⟨f, hf⟩ : ∃ f : Gl.Ch → Bool, f = fun c => Gl.cls c.1 k := ⟨_, rfl⟩
  have HF : Hid (∀ c, f c = Gl.cls c.1 k) := Lib.hid (fun c => by rw [hf])
  rw [← hf]
  have HSN : Hid (∀ (i : Nat) (x : Gl.Ch), xs[i]? = some x → (xs.take (i + 1)).filter f = (xs.take i).filter f ++ if f x then [x] else []) := Lib.hid (fun i x hx => by
    rw [List.take_add_one, hx, Option.toList_some, List.filter_append]
    congr 1
    cases h : f x <;> simp [h])
  rw [hln] at hcap hn HFO ⊢
  clear hR hln hk hf
  rcases HFO with hall | ⟨i0, hi0, hp0, hbef⟩
  · have hm := Lib.idxBy_miss (fun _ y => !Gl.cls y.1 k) xs n default hall
    rw [HTK.out] at hm
    rw [hm] at HIX
    clear hm
    have HE : Hid (xs.filter f = xs) := Lib.hid (by
      rw [List.filter_eq_self]
      intro c hc
      obtain ⟨j, hj, rfl⟩ := List.getElem_of_mem hc
      have := hall j (by rw [← HLN.out]; exact hj)
      rw [bang_at (List.getElem?_eq_getElem hj)] at this
      rw [HF.out]
      simpa using this)
    clear hall
    go_enter Tryz.func87, Tryz.ntmps87
    go_wp2_with fail
    refine HIX.out.mono ?_
    rintro e w1 ⟨rfl, hx1⟩
    go_wp2
    go_ret
    exact ⟨by rw [HE.out, HLN.out]; rfl, fun a ha _ => ha.trans hx1, by rw [HE.out]; exact HR.out.ext hx1⟩
  · have hm := Lib.idxBy_hit (fun _ y => !Gl.cls y.1 k) xs n i0 default hi0 (by rw [HLN.out]; exact Nat.le_refl _) hp0 hbef
    rw [HTK.out] at hm
    rw [hm] at HIX
    clear hm
    have HP0 : Hid ((xs.take (i0 + 1)).filter f = xs.take i0) := Lib.hid (by
      obtain ⟨x, hx⟩ := HAT.out i0 hi0
      rw [HSN.out i0 x hx]
      rw [bang_at hx] at hp0
      rw [if_neg (by rw [HF.out]; simpa using hp0), List.append_nil, List.filter_eq_self]
      intro c hc
      obtain ⟨j, hj, rfl⟩ := List.getElem_of_mem hc
      have hji : j < i0 := by rw [List.length_take] at hj; omega
      have := hbef j hji
      have hjn : j < xs.length := by rw [HLN.out]; omega
      rw [bang_at (List.getElem?_eq_getElem hjn)] at this
      rw [HF.out, List.getElem_take]
      simpa using this)
    clear hp0 hbef
    go_enter Tryz.func87, Tryz.ntmps87
    go_wp2_with fail
    refine HIX.out.mono ?_
    rintro e w1 ⟨rfl, hx1⟩
    have HX1 : Hid (Ext w w1) := Lib.hid hx1
    have e0 : ((i0 : Int) == -1) = false := by simp
    go_wp2
    go_loopw [5, 6] (fun v5 v6 wq => ∃ j i : Nat, j ≤ n ∧ v6 = .int .i64 (j : Int) ∧ v5 = .int .i64 (i : Int) ∧ i + 1 ≤ j ∧ Hid (((xs.take j).filter f).length = i) ∧ Hid (Row2 wq g ((xs.take j).filter f ++ xs.drop i)) ∧ Hid (∀ a, Ext a w → a.heap.size ≤ g → Ext a wq) ∧ Hid (wq.cell? ⟨bk, 0, none⟩ = some (.int .u8 (k.toNat : Int)))) (fun _ v6 _ => n - (intOf v6).toNat)
    case atStart =>
      refine ⟨i0 + 1, i0, by omega, by go_num, rfl, Nat.le_refl _, Lib.hid ?_, Lib.hid ?_, Lib.hid (fun a ha _ => ha.trans hx1), Lib.hid (HKX.out _ hx1)⟩
      · rw [HP0.out, List.length_take, HLN.out]; omega
      · rw [HP0.out, List.take_append_drop]; exact HR.out.ext hx1
    case round =>
      clear hx1
      obtain ⟨j, i, hjn, rfl, rfl, hij, HLK, HRW, HXQ, HKQ⟩ := hrel
      have HYS : Hid (∀ t x, i ≤ t → xs[t]? = some x → ((xs.take j).filter f ++ xs.drop i)[t]? = some x) := Lib.hid (fun t x ht hx => by
        rw [List.getElem?_append_right (by rw [HLK.out]; exact ht), HLK.out, List.getElem?_drop, show i + (t - i) = t by omega]; exact hx)
      by_cases hlt : j < n
      · obtain ⟨x, hx⟩ := HAT.out j hlt
        have hq := (HRW.out.2 j x (HYS.out _ _ (by omega) hx)).1
        have q0 : wr.cell? ⟨g, j * 2, none⟩ = some (.int .u8 (x.1.toNat : Int)) := hq.1
        have q1 : wr.cell? ⟨g, j * 2 + 1, none⟩ = some (.int .i64 x.2) := hq.2
        have HS := Lib.hid (HSN.out j x hx)
        have HC := Lib.hid (HAL.out x)
        clear hx hq
        obtain ⟨xa, xn⟩ := x
        have HWA : Hid (Ext wr (wr.alloc (.cells #[.int .u8 (xa.toNat : Int), .int .i64 xn] 67))) := Lib.hid ((Ext.refl _).alloc _)
        have HC1 := Lib.hid (HC.out (wr.alloc (.cells #[.int .u8 (xa.toNat : Int), .int .i64 xn] 67)) (by rw [HWA.out.cell (p := ⟨bk, 0, none⟩) (cell_lt HKQ.out)]; exact HKQ.out))
        have HN := Lib.hid (heap_alloc_new wr (.cells #[.int .u8 (xa.toNat : Int), .int .i64 xn] 67))
        cases hcl : Gl.cls xa k with
        | false =>
          have HS3 : Hid ((xs.take (j + 1)).filter f = (xs.take j).filter f) := Lib.hid (by rw [HS.out, if_neg (by rw [HF.out]; simpa using hcl), List.append_nil])
          rw [hcl] at HC1
          clear hcl HS HC
          go_wp2_with fail
          refine HC1.out.mono ?_
          rintro e w2 ⟨rfl, hx2⟩
          have HX2 : Hid (Ext wr w2) := Lib.hid (HWA.out.trans hx2)
          clear q0 q1 hx2
          go_wp2
          go_roundw
          case rel => exact ⟨j + 1, i, by omega, by go_num, rfl, by omega, by rw [HS3.out]; exact HLK, by rw [HS3.out]; exact Lib.hid (HRW.out.ext HX2.out), Lib.hid (fun a ha hag => (HXQ.out a ha hag).trans HX2.out), Lib.hid (by rw [HX2.out.cell (p := ⟨bk, 0, none⟩) (cell_lt HKQ.out)]; exact HKQ.out)⟩
          case measure => simp [intOf]; omega
        | true =>
          have HS3 : Hid ((xs.take (j + 1)).filter f = (xs.take j).filter f ++ [(xa, xn)]) := Lib.hid (by rw [HS.out, if_pos (by rw [HF.out]; exact hcl)])
          rw [hcl] at HC1
          clear hcl HS HC
          go_wp2_with fail
          refine HC1.out.mono ?_
          rintro e w2 ⟨rfl, hx2⟩
          have HX2 : Hid (Ext wr w2) := Lib.hid (HWA.out.trans hx2)
          have HN2 := Lib.hid (row_on HN.out hx2)
          have n0 := cell_at HN2.out (i := 0) rfl
          have n1 := cell_at HN2.out (i := 1) rfl
          have HRT2 := Lib.hid (HRW.out.ext HX2.out)
          obtain ⟨z, hz⟩ := HAT.out i (by omega)
          have hz2 := HRT2.out.2 i z (HYS.out _ _ (Nat.le_refl _) hz)
          have z0 : w2.cell? ⟨g, i * 2, none⟩ = some (.int .u8 (z.1.toNat : Int)) := hz2.1.1
          have z1 : w2.cell? ⟨g, i * 2 + 1, none⟩ = some (.int .i64 z.2) := hz2.1.2
          have f0 := hz2.2.1
          have f1 := hz2.2.2
          have hin : i < n := by omega
          have hinI : (i : Int) < (n : Int) := by omega
          have HLN2 : Hid (((xs.take j).filter f ++ xs.drop i).length = n) := Lib.hid (by rw [List.length_append, HLK.out, List.length_drop, HLN.out]; omega)
          clear q0 q1 hx2 hz hz2
          go_wp2
          go_roundw
          case rel =>
            have h5 := HRT2.out.set (xa, xn) (k := i) (by rw [HLN2.out]; exact hin)
            have e5 : ((xs.take j).filter f ++ xs.drop i).set i (xa, xn) = (xs.take (j + 1)).filter f ++ xs.drop (i + 1) := by
              rw [HS3.out, List.set_append_right _ _ (by rw [HLK.out]; exact Nat.le_refl _), HLK.out, Nat.sub_self, List.append_assoc]
              congr 1
              have : xs.drop i = xs[i]'(by rw [HLN.out]; exact hin) :: xs.drop (i + 1) := List.drop_eq_getElem_cons _
              rw [this]; rfl
            rw [e5] at h5
            exact ⟨j + 1, i + 1, by omega, by go_num, by go_num, by omega, Lib.hid (by rw [HS3.out, List.length_append, HLK.out]; rfl), Lib.hid h5, Lib.hid (fun a ha hag => (((HXQ.out a ha hag).trans HX2.out).setCell (p := ⟨g, i * 2, none⟩) hag _).setCell (p := ⟨g, i * 2 + 1, none⟩) hag _),
              Lib.hid (by rw [World.cell?_of_block (a := ⟨bk, 0, none⟩) (far1 (Ne.symm hbg) (far1 (Ne.symm hbg) rfl)), HX2.out.cell (p := ⟨bk, 0, none⟩) (cell_lt HKQ.out)]; exact HKQ.out)⟩
          case measure => simp [intOf]; omega
      · have eN : j = n := by omega
        have HLK2 : Hid ((xs.filter f).length = i) := Lib.hid (by have h := HLK.out; rw [eN, HTK.out] at h; exact h)
        have hRW := HRW.out
        rw [eN, HTK.out] at hRW
        have hkn : i < n := by omega
        have hkcap2 : (i : Int) ≤ (cap : Int) := by omega
        have hkn2 : (i : Int) ≤ (n : Int) := by omega
        have hkc2 : ¬ cap = i := by omega
        obtain ⟨vs, hcl⟩ := run_clear2 wr g i (n - i) (cap - i) _ hRW (by omega) (by rw [List.length_append, HLK2.out, List.length_drop, HLN.out]; omega)
        have HRE := Lib.hid (hRW.left.past vs (k := i) (by rw [HLK2.out]; exact Nat.le_refl _))
        have HXE : Hid (∀ a, Ext a w → a.heap.size ≤ g → Ext a (wr.setCells g (i * 2) vs)) := Lib.hid (fun a ha hag => ext_setCells hag _ _ _ (HXQ.out a ha hag))
        clear hRW hij eN
        go_wp2
        go_ret
        exact ⟨by rw [HLK2.out]; rfl, HXE.out, HRE.out⟩
end Go.Proofs.YtamkgbodifjlaaaGreatDoor

/-
  Chapter 48, the program: choices.
  No condition.
-/
namespace Go.Proofs.YtamkgbodifjlaaaGreatDoor
open Go.RowKit Go.Sort

/-- Elements of any slice appended to a row of the call's own. -/
theorem run_append_onto {α : Type} {k : Nat} {enc : α → List Value} {w : World} (ST T ty : TypeId) (z : Value) (bytes : Nat)
    (hT : Tryz.prog.underlying ST = some (.slice T)) (hi : (Tryz.prog.info? T).map (fun i => (i.zero, i.size, i.bytes)) = some (some z, k, bytes)) (hz : z.cells.size = k) (hk0 : 0 < k) (hby : bytes ≤ 1000)
    (hk : ∀ x, (enc x).length = k) (h1 : ∀ x, ∀ u ∈ enc x, u.oneCell' = true)
    (B : Nat) (v : Value) (xs ys : List α) (hown : KOwn T k enc w B v xs) (h0 : xs ≠ []) (u : Value) (hy : KSl k enc w u ys) (hn : xs.length + ys.length ≤ 1000000000) (hB : B ≤ w.heap.size) :
    ∃ v' w', (Builtin.append_ #[ST, ST] ty #[v, u]).run Tryz.prog w = .ok v' w' ∧ KOwn T k enc w' B v' (xs ++ ys) ∧ w.grownBy w' v.ownBlock := by
  cases ys with
  | cons y ys =>
    obtain ⟨b, off, cap, rfl, _, _⟩ := hy.some_ (by simp)
    exact run_append_ks ST T ty z bytes hT hi hz hk0 hby hk h1 B v xs (y :: ys) hown b off cap hy hn hB
  | nil =>
    obtain ⟨i0, hi, hz0, hz1, hz2⟩ := info_parts hi
    obtain ⟨a, c, rfl⟩ := hy.form
    rcases hown.form with ⟨h2, _⟩ | ⟨g, cap, rfl, hg1, hg2⟩
    · exact absurd h2 h0
    have hcap : xs.length ≤ cap := by
      rcases hown.2 with ⟨h6, _⟩ | ⟨g', cap', cur, h6, _, _, h7, _⟩
      · simp at h6
      · injection h6 with _ _ h8
        omega
    have hs : Src Tryz.prog i0.size ST (.slice a 0 c) 0 [] w := by
      cases a with
      | none => exact Src.ofNil w hT c
      | some a => exact Src.ofSlice w hT a 0 c [] (by simp) (by simp) (by simp)
    have h5 := run_append_room_src w ST ST ty T i0 hT hi g 0 xs.length cap (.slice a 0 c) 0 [] hs (by omega) (by simp) (by simp)
    refine ⟨_, _, h5, ?_, World.grownBy.refl _ _⟩
    rw [List.append_nil, Nat.add_zero]
    exact hown
theorem wpList_append_run {P : Program} {w : World} {ops : Array Oper} {rest : List Oper} {o : Oper} {a : Act} {Q : Exit → Act → World → Prop} (hgd : o.guard = none) (s x : Operand) (ST : TypeId)
    (ho : o.op = .call { callee := .builtin .append, args := #[s, x], argTypes := #[ST, ST] }) (v u v' : Value) (w' : World) (hs : a.eval s = v) (hx : a.eval x = u)
    (hr : (Builtin.append_ #[ST, ST] o.type #[v, u]).run P w = .ok v' w') (h : wpList P ops Q rest (a.put o.dst v') w') : wpList P ops Q (o :: rest) a w := by
  refine wpList_plain hgd fun K hK => ?_
  unfold Oper.wp execOp
  simp only [ho, resolve, invoke, builtin, Sem.run_bind, Sem.run_pure, Result.andThen_ok, List.map_toArray, List.map_cons, List.map_nil, hs, hx, hr]
  exact hK _ _ h

set_option maxRecDepth 100000 in
set_option maxHeartbeats 4000000 in
theorem choices_any (b0 b1 b2 b3 : Int) (ch k : UInt8) (n : Int) (v : Value) (xs : List Gl.Ch) (w : World) (hv : KSl 2 encC w v xs) (hn : xs.length ≤ 100000) :
    Calls Tryz.prog 56 #[.agg #[.int .i64 b0, .int .i64 b1, .int .i64 b2, .int .i64 b3, .int .u8 (ch.toNat : Int), .int .i64 n, v], .int .u8 (k.toNat : Int)] w fun e w' =>
      ∃ g cap, e = .returned (.slice (some ⟨g, 0, none⟩) (Gl.chs ((ch, n) :: xs) k).length cap) ∧ w.heap.size ≤ g ∧ Row2 w' g (Gl.chs ((ch, n) :: xs) k) ∧ Ext w w' := by
  obtain ⟨W1, hW1⟩ : ∃ W1, w.alloc (.cells #[.int .i64 b0, .int .i64 b1, .int .i64 b2, .int .i64 b3, .int .u8 (ch.toNat : Int), .int .i64 n, v] 54) = W1 := ⟨_, rfl⟩
  obtain ⟨W2, hW2⟩ : ∃ W2, W1.alloc (.cells #[.int .u8 (k.toNat : Int)] 5) = W2 := ⟨_, rfl⟩
  obtain ⟨W3, hW3⟩ : ∃ W3, W2.alloc (.cells #[.int .u8 (ch.toNat : Int), .int .i64 n] 67) = W3 := ⟨_, rfl⟩
  have hs1 : W1.heap.size = w.heap.size + 1 := by rw [← hW1]; simp
  have hs2 : W2.heap.size = w.heap.size + 1 + 1 := by rw [← hW2, ← hs1]; simp
  have hX1 : Ext w W1 := by rw [← hW1]; exact (Ext.refl _).alloc _
  have hX2 : Ext W1 W2 := by rw [← hW2]; exact (Ext.refl _).alloc _
  have hX3 : Ext W2 W3 := by rw [← hW3]; exact (Ext.refl _).alloc _
  have hk2 : W2.cell? ⟨w.heap.size + 1, 0, none⟩ = some (.int .u8 (k.toNat : Int)) := by
    rw [← hs1, ← hW2]; exact cell_at (heap_alloc_new _ _) rfl
  have hown : KOwn 67 2 encC W3 (w.heap.size + 1 + 1) (.slice (some ⟨w.heap.size + 1 + 1, 0, none⟩) 1 1) [(ch, n)] := by
    rw [← hW3, ← hs2]
    exact World.ownsRow_lit W2 _ 1 (Nat.le_refl _) (by unfold maxLen; omega) rfl
  obtain ⟨v4, w4, hrun, hown4, hg4⟩ := run_append_onto (w := W3) 35 67 35 (.agg #[.int .u8 0, .int .i64 0]) 16 Tryz.underlying35 info_choice rfl (by decide) (by decide) encC_len encC_one (w.heap.size + 1 + 1) _ [(ch, n)] xs hown (by simp) v (hv.ext (hX1.trans (hX2.trans hX3))) (by simp; omega) (by rw [← hs2]; exact hX3.size)
  have HX4 : Hid (Ext w w4) := Lib.hid ((hX1.trans (hX2.trans hX3)).ofGrown hg4 (fun b hb => by have := hown.low b hb; omega))
  have hX24 : Ext W2 w4 := hX3.ofGrown hg4 (fun b hb => by have := hown.low b hb; omega)
  have hk4 : w4.cell? ⟨w.heap.size + 1, 0, none⟩ = some (.int .u8 (k.toNat : Int)) := by
    rw [hX24.cell (p := ⟨w.heap.size + 1, 0, none⟩) (cell_lt hk2)]; exact hk2
  have hlen4 : (ch, n) :: xs = [(ch, n)] ++ xs := rfl
  have hl1 : ([(ch, n)] ++ xs).length ≤ 1000000 := by simp; omega
  rcases hown4.form with ⟨h2, _⟩ | ⟨g, cap, rfl, hg1, hg2⟩
  · simp at h2
  have hcap : ([(ch, n)] ++ xs).length ≤ cap := by
    rcases hown4.2 with ⟨h6, _⟩ | ⟨g', cap', cur, h6, _, _, h7, _⟩
    · simp at h6
    · injection h6 with _ _ h8
      omega
  have HKC : Hid (∀ w', (∀ a, Ext a w4 → a.heap.size ≤ g → Ext a w') → w'.cell? ⟨w.heap.size + 1, 0, none⟩ = some (.int .u8 (k.toNat : Int))) := Lib.hid (fun w' h => by
    rw [(h W2 hX24 (by omega)).cell (p := ⟨w.heap.size + 1, 0, none⟩) (cell_lt hk2)]; exact hk2)
  have HSO := Lib.hid (sortC_any hown4 hl1)
  have HK4 := Lib.hid hk4
  obtain ⟨all, hall⟩ : ∃ all, [(ch, n)] ++ xs = all := ⟨_, rfl⟩
  rw [hlen4]
  rw [hall] at HSO hown4 hcap hl1 hrun ⊢
  have HRUN := Lib.hid hrun
  obtain ⟨bk, hbk⟩ : ∃ bk, w.heap.size + 1 = bk := ⟨_, rfl⟩
  have HBK := Lib.hid hbk
  rw [hbk] at HK4 hg1 HRUN HKC
  have hbg : bk ≠ g := by omega
  have hbsz : w.heap.size ≤ bk ∧ w.heap.size ≤ g := by omega
  have HSZ := Lib.hid hbsz
  have e3 : (((w.alloc (.cells #[.int .i64 b0, .int .i64 b1, .int .i64 b2, .int .i64 b3, .int .u8 (ch.toNat : Int), .int .i64 n, v] 54)).alloc (.cells #[.int .u8 (k.toNat : Int)] 5)).alloc (.cells #[.int .u8 (ch.toNat : Int), .int .i64 n] 67)) = W3 := by rw [hW1, hW2, hW3]
  have HE3 := Lib.hid e3
  clear hW1 hW2 hW3 hs1 hs2 hX1 hX2 hX3 hk2 hown hown4 hg4 hX24 hk4 hlen4 hv hn hall hg2 hrun e3 hg1 hbsz hbk
  go_enter Tryz.func56, Tryz.ntmps56
  go_wp2_with (at_builtin; refine wpList_append_run rfl _ _ 35 rfl _ _ _ _ rfl rfl (by rw [HE3.out]; rw [HBK.out]; exact HRUN.out) ?_)
  go_wp2_with fail
  refine HSO.out.mono ?_
  rintro e w5 ⟨rfl, hx5, hg5, hH5⟩
  have hR5 := Row2.of hH5 hg5
  have HX5 : Hid (Ext w w5) := Lib.hid (hx5 w HX4.out HSZ.out.2)
  have hk5 := HKC.out w5 hx5
  have HX5a := Lib.hid hx5
  have hsl : (Gl.srt all).length = all.length := Gl.srt_len all
  have HCF := Lib.hid (compactF_any g cap (Gl.srt all) w5 hR5 (by rw [hsl]; exact hcap) (by rw [hsl]; exact hl1))
  rw [hsl] at HCF
  have hcl : (Gl.compact (Gl.srt all)).length ≤ all.length := by have := Gl.compact_len (Gl.srt all); omega
  clear hx5 hg5 hH5 hR5 HSO hsl hk5
  go_wp2_with fail
  refine HCF.out.mono ?_
  rintro e w6 ⟨rfl, hx6, hR6⟩
  have hk6 := HKC.out w6 (fun a h1 h2 => hx6 a (HX5a.out a h1 h2) h2)
  have HX6 : Hid (Ext w w6) := Lib.hid (hx6 w HX5.out HSZ.out.2)
  have HDF := Lib.hid (deleteF_any g cap bk k (Gl.compact (Gl.srt all)) w6 hR6 (by omega) (by omega) hk6 hbg)
  clear hx6 hR6 hk6 HCF
  go_wp2_with fail
  rw [HBK.out]
  refine HDF.out.mono ?_
  rintro e w7 ⟨rfl, hx7, hR7⟩
  have HX7 : Hid (Ext w w7) := Lib.hid (hx7 w HX6.out HSZ.out.2)
  clear hx7 HDF
  go_wp2
  go_ret
  exact ⟨g, cap, rfl, HSZ.out.2, hR7, HX7.out⟩
end Go.Proofs.YtamkgbodifjlaaaGreatDoor
