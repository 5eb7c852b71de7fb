/-
  Chapter 48, the reference: Read.
  Condition: a valid bitmap, a line inside of it, a scale from 1 to 64.
-/
import Derived.Test.YtamkgbodifjlaaaGreatDoorGlX9
import Derived.Test.YtamkgbodifjlaaaGreatDoorGlXa
import Derived.Test.YtamkgbodifjlaaaGreatDoorGlWA
import Derived.Test.YtamkgbodifjlaaaGreatDoorRelF
import Derived.BigRegion
namespace Go.Proofs.YtamkgbodifjlaaaGreatDoor
set_option linter.unusedVariables false
open Go.RowKit

/-- The blocks of a walk over a line, the reference's. -/
def XRead (w : World) (b9 : Nat) (mb lb : Array Value) (lx ly lw lh : Int) (y k : Nat) (R : List (Nat × List Gl.Ch)) (wr : World) : Prop :=
  ∃ vg gs, wr.heap[w.heap.size]? = some (.cells mb 24 (0, 0)) ∧ wr.heap[w.heap.size + 1]? = some (.cells lb 26 (0, 0)) ∧
  wr.heap[w.heap.size + 1 + 1]? = some (.cells #[.int .i64 0, .int .i64 0, .int .i64 0, .int .i64 0, .string ⟨#[]⟩, .slice none 0 0] 45 (0, 0)) ∧
  wr.heap[b9]? = some (.cells #[.int .i64 lx, .int .i64 ly, .int .i64 lw, .int .i64 lh, .string (bS (Gl.textOf R)), vg] 45 (0, 0)) ∧
  KOwn 54 7 encG wr (b9 + 1) vg gs ∧ GsOf (b9 + 1) wr vg (.slice none 0 0) y k R gs ∧ Ext w wr
def encT1 (b : Bool) : List Value := [.bool b]
theorem encT1_len (x : Bool) : (encT1 x).length = 1 := rfl
theorem encT1_one (x : Bool) : ∀ u ∈ encT1 x, u.oneCell' = true := by
  intro u hu
  simp only [encT1, List.mem_singleton] at hu
  subst hu; rfl
theorem cellsT1 (xs : List Bool) : cellsK encT1 xs = xs.map encT := by
  induction xs with
  | nil => rfl
  | cons x xs ih => show encT1 x ++ cellsK encT1 xs = _; rw [ih]; rfl
theorem KOwn.ownT {T : TypeId} {w : World} {B : Nat} {v : Value} {xs : List Bool} (h : KOwn T 1 encT1 w B v xs) : Own T w B v (xs.map encT) := by
  unfold KOwn at h
  unfold Own
  rw [cellsT1] at h
  rw [List.length_map]
  exact h
theorem Gl.cells_at (m : List Bool) (W xr yb x y k : Nat) (i j : Nat) (hi : i < 5) (hj : j < 7) : (Gl.cells m W xr yb x y k).take (5 * j + i + 1) = (Gl.cells m W xr yb x y k).take (5 * j + i) ++ [Gl.cell m W xr yb (x + i * k) (y + j * k) k] := by
  have h : (Gl.cells m W xr yb x y k)[5 * j + i]? = some (Gl.cell m W xr yb (x + i * k) (y + j * k) k) := by
    unfold Gl.cells
    rw [List.getElem?_map, List.getElem?_range (by omega)]
    simp only [Option.map_some]
    rw [show (5 * j + i) % 5 = i by omega, show (5 * j + i) / 5 = j by omega]
  rw [List.take_add_one, h]
  rfl
theorem Gl.textOf_snoc (R : List (Nat × List Gl.Ch)) (x : Nat) (hd : Gl.Ch) (tl : List Gl.Ch) : Gl.textOf (R ++ [(x, hd :: tl)]) = Gl.textOf R ++ [hd.1] := by simp [Gl.textOf]
theorem slice_tail1 {g c : Nat} (hc : 62 ≤ c) (w : World) : (Instr.slice 35 (.slice (some ⟨g, 0, none⟩) 62 c) (some (.int .i64 1)) none none).run Tryz.prog w = .ok (.slice (some ⟨g, 2, none⟩) 61 (c - 1)) w := slice_tail hc w
/-- The blocks of a walk over the cells of one character, the reference's: its box, its bitmap. -/
def GridR (wa : World) (X ly k5 k7 : Nat) (cl : List Bool) (j : Nat) (wq : World) : Prop :=
  ∃ vd, wq.heap[wa.heap.size]? = some (.cells #[.int .i64 (X : Int), .int .i64 (ly : Int), .int .i64 (k5 : Int), .int .i64 (k7 : Int)] 26 (0, 0)) ∧ wq.heap[wa.heap.size + 1]? = some (.cells #[.int .i64 5, .int .i64 7, vd] 24 (0, 0)) ∧
  KOwn 4 1 encT1 wq (wa.heap.size + 2) vd (cl.take j) ∧ Ext wa wq
theorem info_bool1 : (Tryz.prog.info? 4).map (fun i => (i.zero, i.size, i.bytes)) = some (some (.bool false), 1, 1) := by kernel_rfl
theorem xmatch_at (v : Value) (m : List Bool) (w : World) (hv : SlK w v (m.map encT)) (hm : m.length = 35) : Calls Tryz.prog 17 #[.agg #[.int .i64 5, .int .i64 7, v]] w fun e w' =>
    ∃ g cg, e = .returned (.tuple #[.slice (some ⟨g, 0, none⟩) 62 cg, .int .i64 0]) ∧ 62 ≤ cg ∧ w.heap.size ≤ g ∧ g < w'.heap.size ∧ KSl 2 encC w' (.slice (some ⟨g, 0, none⟩) 62 cg) (Gl.ranked m) ∧ Ext w w' :=
  (xmatch_any v m w hv hm).mono fun e w' ⟨u, he, hk, hx⟩ => by
    rcases hk.form with ⟨h0, _⟩ | ⟨g, cg, hu, h1, h2⟩
    · have := Gl.ranked_len m; rw [h0] at this; cases this
    · have hc : 62 ≤ cg := by
        rcases hk.2 with ⟨_, h7⟩ | ⟨g', cap', cur, h6, _, _, h7, _⟩
        · rw [Gl.ranked_len] at h7; cases h7
        · rw [hu] at h6
          injection h6 with _ _ e3
          rw [Gl.ranked_len] at h7
          omega
      rw [Gl.ranked_len] at hu
      subst hu
      exact ⟨g, cg, he, hc, h1, h2, hk.sl encC_len, hx⟩
theorem bS_join (a b : List UInt8) : bS (a ++ b) = bS a ++ bS b := bytes_ext (by rw [ByteArray.data_append, Array.toList_append]; simp [bS])
theorem conv_two (cb : UInt8) (W : World) : (convert 38 9 (.slice (some ⟨W.heap.size, 0, none⟩) 1 1)).run Tryz.prog (W.alloc (.cells #[.int .u8 (cb.toNat : Int)] 5)).drew = .ok (.string ⟨#[cb]⟩) (W.alloc (.cells #[.int .u8 (cb.toNat : Int)] 5)).drew := by
  have h := run_convert_bytes_back (P := Tryz.prog) (W.alloc (.cells #[.int .u8 (cb.toNat : Int)] 5)).drew 38 9 5 ⟨W.heap.size, 0, none⟩ 1 [cb] Tryz.underlying38 Tryz.underlying5 Tryz.underlying9 (fun j hj => by
    have e : j = 0 := by simpa using hj
    subst e
    simp [go_sem, Addr.add])
  exact h
set_option maxRecDepth 100000 in
set_option maxHeartbeats 1000000 in
theorem xread_any (v : Value) (m : List Bool) (W H lx ly lw lh k : Nat) (w : World) (hv : SlK w v (m.map encT)) (hm : m.length = W * H) (hval : Gl.valid (W : Int) (H : Int) m.length = true) (hin : Gl.ins (W : Int) (H : Int) (lx : Int) (ly : Int) (lw : Int) (lh : Int) = true) (hk : 1 ≤ k) (hk2 : k ≤ 64) :
    Calls Tryz.prog 22 #[.agg #[.int .i64 (W : Int), .int .i64 (H : Int), v], .agg #[.int .i64 (lx : Int), .int .i64 (ly : Int), .int .i64 (lw : Int), .int .i64 (lh : Int)], .int .i64 (k : Int)] w
      (OwnsL lx ly lw lh ly k (Gl.read m W lx ly lw lh k) w) := by
  obtain ⟨W', H', e1, e2, hW, hW2, hH, hH2, _, hM4⟩ := Gl.valid_parts hval
  obtain rfl : W = W' := by omega
  obtain rfl : H = H' := by omega
  have hWH : 1 ≤ W * H := Nat.mul_pos hW hH
  have hbox : lx + lw ≤ W ∧ ly + lh ≤ H ∧ 1 ≤ lw ∧ 1 ≤ lh := by
    unfold Gl.ins at hin
    simp only [Bool.and_eq_true, decide_eq_true_eq] at hin
    omega
  have HV := Lib.hid hv
  obtain ⟨b, off, c, rfl, hc, hb, hpx⟩ := hv.px (by omega)
  have HCK := Lib.hid (fun W1 => xcheck_any (W : Int) (H : Int) (some ⟨b, off, none⟩) m.length c W1 (by unfold maxLen; omega))
  rw [hval, if_pos rfl] at HCK
  have HIN := Lib.hid (xinside_any (W : Int) (H : Int) (.slice (some ⟨b, off, none⟩) m.length c) (lx : Int) (ly : Int) (lw : Int) (lh : Int) (by omega) (by omega) (by omega) (by omega))
  rw [hin] at HIN
  have d1 : decide ((k : Int) < 1) = false := decide_eq_false (by omega)
  have d2 : decide ((64 : Int) < (k : Int)) = false := decide_eq_false (by omega)
  have HCELL := Lib.hid (fun x y w' (hw : Ext w w') (hx : x ≤ 100000) (hy : y ≤ 100000) => xcell_any b off c m.length m W H lx ly lw lh x y k w' (fun w'' hx' i hi => hpx w'' (hw.trans hx') i hi) hm hval hbox.1 hbox.2.1 hx hy hk hk2)
  obtain ⟨ln, hln⟩ : ∃ ln, m.length = ln := ⟨_, rfl⟩
  rw [hln] at HCK HIN hc HV HCELL ⊢
  have HLN := Lib.hid (And.intro hln hm)
  obtain ⟨k6, hk6⟩ : ∃ k6, 6 * k = k6 := ⟨_, rfl⟩
  have e6 : (6 : Int) * (k : Int) = (k6 : Int) := by omega
  obtain ⟨n, hn⟩ : ∃ n, Gl.many lw k = n := ⟨_, rfl⟩
  obtain ⟨A1, hA1⟩ : ∃ A, lw + k = A := ⟨_, rfl⟩
  obtain ⟨A2, hA2⟩ : ∃ A, A1 + k6 = A := ⟨_, rfl⟩
  obtain ⟨A3, hA3⟩ : ∃ A, A2 - 1 = A := ⟨_, rfl⟩
  have q1 : (lw : Int) + (k : Int) = (A1 : Int) := by omega
  have q2 : (A1 : Int) + (k6 : Int) = (A2 : Int) := by omega
  have q3 : (A2 : Int) - 1 = (A3 : Int) := by omega
  have q4 : (A3 : Int) / (k6 : Int) = (n : Int) := by
    rw [← hn]
    unfold Gl.many
    rw [hk6, hA1, hA2, hA3]
    rfl
  have hnb : n ≤ 4096 := by
    rw [← hn]
    unfold Gl.many
    rw [hk6]
    have : (lw + k + k6 - 1) / k6 < 4097 := (Nat.div_lt_iff_lt_mul (by omega)).2 (by omega)
    omega
  have HN := Lib.hid hn
  have hmany : 6 * k * n ≤ lw + 7 * k := by
    rw [← hn]
    unfold Gl.many
    have := Nat.div_mul_le_self (lw + k + 6 * k - 1) (6 * k)
    rw [Nat.mul_comm] at this
    omega
  have HMANY := Lib.hid hmany
  have hk6b : 1 ≤ k6 ∧ k6 ≤ 384 := by omega
  have hA1b : A1 ≤ 10000 := by omega
  have hA2b : A2 ≤ 10000 := by omega
  have hA3b : A3 ≤ 10000 := by omega
  clear hmany
  clear hpx hv hm hval hin hWH hln hM4 hn e1 e2 hA1 hA2 hA3
  go_enter Tryz.func22, Tryz.ntmps22
  go_wp2_with fail
  refine (HCK.out _).mono ?_
  rintro e w1 ⟨rfl, hx1⟩
  have hx1' := hx1.before
  obtain ⟨⟨c0, c1, c2⟩, c3, c4, c5, c6⟩ := keep34 hx1'
  go_wp2_with fail
  refine (HIN.out _).mono ?_
  rintro e w2 ⟨rfl, hx2⟩
  clear c0 c1 c2 c3 c4 c5 c6
  have hx := hx1.trans hx2
  obtain ⟨⟨c0, c1, c2⟩, c3, c4, c5, c6⟩ := keep34 hx.before
  clear hx1 hx1' hx2
  go_wp2
  have HX := Lib.hid hx
  obtain ⟨R, hR⟩ : ∃ R, Gl.read m W lx ly lw lh k = R := ⟨_, rfl⟩
  have HRS : Hid (∀ i, i < n → R.take (i + 1) = R.take i ++ [(lx + 6 * i * k, Gl.ranked (Gl.cells m W (lx + lw) (ly + lh) (lx + 6 * i * k) ly k))]) := Lib.hid (fun i hi => by rw [← hR]; exact Gl.read_succ m W lx ly lw lh k i (by rw [HN.out]; exact hi))
  have HRL : Hid (R.take n = R ∧ R.length = n) := Lib.hid (by
    have : R.length = n := by rw [← hR, ← HN.out]; simp [Gl.read]
    exact ⟨by rw [← this, List.take_length], this⟩)
  have HRD := Lib.hid hR
  clear hR
  go_loopw [9] (fun v9 wr => ∃ i : Nat, i ≤ n ∧ v9 = .int .i64 (i : Int) ∧ XRead w w2.heap.size #[.int .i64 (W : Int), .int .i64 (H : Int), .slice (some ⟨b, off, none⟩) ln c] #[.int .i64 (lx : Int), .int .i64 (ly : Int), .int .i64 (lw : Int), .int .i64 (lh : Int)] lx ly lw lh ly k (R.take i) wr) (fun v9 _ => n - (intOf v9).toNat)
  case atStart =>
    obtain ⟨r1, r2, r3, hxw⟩ := rows3 HX.out
    refine ⟨0, Nat.zero_le _, rfl, .slice none 0 0, [], row_on r1 ((Ext.refl _).alloc _), row_on r2 ((Ext.refl _).alloc _), row_on r3 ((Ext.refl _).alloc _), heap_alloc_new _ _, KOwn.nil _ _ _ _ _, ⟨rfl, fun i r hi => by simp at hi⟩, hxw.alloc _⟩
  case round =>
    obtain ⟨i, hi, rfl, vg, gs, h0, h1, h2, h9, hown, hgs, hxr⟩ := hrel
    have hx' := HX.out
    have hsz9 : w.heap.size + 1 + 1 < w2.heap.size := lt_at (rows3 hx').2.2.1
    clear hx'
    obtain ⟨b0, hb0⟩ : ∃ b0, w.heap.size = b0 := ⟨_, rfl⟩
    have HB0 := Lib.hid hb0
    clear hb0
    have l0 := cell_at h1 (i := 0) rfl
    have l1 := cell_at h1 (i := 1) rfl
    have l2 := cell_at h1 (i := 2) rfl
    have l3 := cell_at h1 (i := 3) rfl
    by_cases hlt : i < n
    · have hltI : (i : Int) < (n : Int) := by omega
      have HRi := Lib.hid (HRS.out i hlt)
      have hil : 6 * k * i ≤ 4096 + 448 := by
        have h1 := HMANY.out
        have h2 : 6 * k * i ≤ 6 * k * n := Nat.mul_le_mul_left _ (by omega)
        omega
      have e8 : 6 * i * k = 6 * k * i := by rw [Nat.mul_right_comm]
      obtain ⟨P, hP⟩ : ∃ P, 6 * i * k = P := ⟨_, rfl⟩
      have hPb : P ≤ 4544 := by omega
      obtain ⟨I6, hI6⟩ : ∃ I6, 6 * i = I6 := ⟨_, rfl⟩
      have hI6b : I6 ≤ 24576 := by omega
      have e1 : (6 : Int) * (i : Int) = (I6 : Int) := by omega
      have e2 : (I6 : Int) * (k : Int) = (P : Int) := by rw [← hP, ← hI6]; simp
      obtain ⟨X, hX⟩ : ∃ X, lx + P = X := ⟨_, rfl⟩
      have e3 : (lx : Int) + (P : Int) = (X : Int) := by omega
      have hXb : X ≤ 8640 := by omega
      rw [hP, hX] at HRi
      have HCA := Lib.hid (Gl.cells_at m W (lx + lw) (ly + lh) X ly k)
      have HLC := Lib.hid (Gl.cells_len m W (lx + lw) (ly + lh) X ly k)
      obtain ⟨cl, hcl⟩ : ∃ cl, Gl.cells m W (lx + lw) (ly + lh) X ly k = cl := ⟨_, rfl⟩
      rw [hcl] at HRi HCA HLC
      obtain ⟨k5, hk5⟩ : ∃ k5, 5 * k = k5 := ⟨_, rfl⟩
      obtain ⟨k7, hk7⟩ : ∃ k7, 7 * k = k7 := ⟨_, rfl⟩
      have e5 : (5 : Int) * (k : Int) = (k5 : Int) := by omega
      have e7 : (7 : Int) * (k : Int) = (k7 : Int) := by omega
      have hk5b : k5 ≤ 320 := by omega
      have hk7b : k7 ≤ 448 := by omega
      have HK := Lib.hid (And.intro hk5 hk7)
      have HSZ9 := Lib.hid hsz9
      have H0 := Lib.hid h0
      have H1 := Lib.hid h1
      have H2 := Lib.hid h2
      have H9 := Lib.hid h9
      have HG := Lib.hid hown
      have HGS := Lib.hid hgs
      have HXR := Lib.hid hxr
      have hLYb : ly ≤ 4096 := by omega
      clear e8 hil hP hI6 hX hk5 hk7 hk6 hbox hsz9 h0 h1 h2 h9 hown hgs hxr hcl
      go_wp2
      obtain ⟨wa, hwa⟩ : ∃ wa, wa = wr := ⟨_, rfl⟩
      subst hwa
      go_loopw [12] (fun v12 wq => ∃ y : Nat, y ≤ 7 ∧ v12 = .int .i64 (y : Int) ∧ GridR wa X ly k5 k7 cl (5 * y) wq) (fun v12 _ => 7 - (intOf v12).toNat)
      case atStart =>
        refine ⟨0, Nat.zero_le _, rfl, .slice none 0 0, row_on (heap_alloc_new wa _) ((Ext.refl _).alloc _), ?_, KOwn.nil _ _ _ _ _, (((Ext.refl wa).alloc _).alloc _)⟩
        have := heap_alloc_new (wa.alloc (.cells #[.int .i64 (X : Int), .int .i64 (ly : Int), .int .i64 (k5 : Int), .int .i64 (k7 : Int)] 26)) (.cells #[.int .i64 5, .int .i64 7, .slice none 0 0] 24)
        rw [World.size_alloc] at this
        exact this
      case round =>
        obtain ⟨y, hy, rfl, hgr⟩ := hrel
        by_cases hly : y < 7
        · have hlyI : (y : Int) < 7 := by omega
          have HGR := Lib.hid hgr
          clear hgr
          go_wp2
          obtain ⟨wb, hwb⟩ : ∃ wb, wb = wr := ⟨_, rfl⟩
          subst hwb
          go_loopw [13] (fun v13 wp => ∃ x : Nat, x ≤ 5 ∧ v13 = .int .i64 (x : Int) ∧ GridR wa X ly k5 k7 cl (5 * y + x) wp) (fun v13 _ => 5 - (intOf v13).toNat)
          case atStart => exact ⟨0, Nat.zero_le _, rfl, HGR.out⟩
          case round =>
            obtain ⟨x, hx, rfl, vd, hB, hM, hown, hxr⟩ := hrel
            by_cases hlx : x < 5
            · have hlxI : (x : Int) < 5 := by omega
              obtain ⟨xq, hxq⟩ : ∃ xq, x * k = xq := ⟨_, rfl⟩
              obtain ⟨yq, hyq⟩ : ∃ yq, y * k = yq := ⟨_, rfl⟩
              have hxq1 : xq ≤ 4 * 64 := by rw [← hxq]; exact Nat.mul_le_mul (by omega) hk2
              have hyq1 : yq ≤ 6 * 64 := by rw [← hyq]; exact Nat.mul_le_mul (by omega) hk2
              have ex : (x : Int) * (k : Int) = (xq : Int) := by rw [← hxq]; simp
              have ey : (y : Int) * (k : Int) = (yq : Int) := by rw [← hyq]; simp
              obtain ⟨Xx, hXx⟩ : ∃ Xx, X + xq = Xx := ⟨_, rfl⟩
              obtain ⟨Yy, hYy⟩ : ∃ Yy, ly + yq = Yy := ⟨_, rfl⟩
              have eX : (X : Int) + (xq : Int) = (Xx : Int) := by omega
              have eY : (ly : Int) + (yq : Int) = (Yy : Int) := by omega
              have wx : IntKind.i64.wrap (xq : Int) = (xq : Int) := IntWalk.i64_in _ (by omega)
              have wy : IntKind.i64.wrap (yq : Int) = (yq : Int) := IntWalk.i64_in _ (by omega)
              have wX : IntKind.i64.wrap (Xx : Int) = (Xx : Int) := IntWalk.i64_in _ (by omega)
              have wY : IntKind.i64.wrap (Yy : Int) = (Yy : Int) := IntWalk.i64_in _ (by omega)
              have hca := HCA.out x y hlx hly
              rw [hxq, hyq, hXx, hYy] at hca
              have HCL := Lib.hid (fun w' (hw : Ext wr w') => HCELL.out Xx Yy w' (HXR.out.trans (hxr.trans hw)) (by omega) (by omega))
              obtain ⟨bt, hbt⟩ : ∃ bt, Gl.cell m W (lx + lw) (ly + lh) Xx Yy k = bt := ⟨_, rfl⟩
              rw [hbt] at hca HCL
              have HCX := Lib.hid hca
              have R0 := Lib.hid (row_on H0.out hxr)
              have R1 := Lib.hid (row_on H1.out hxr)
              rw [HB0.out] at R0 R1 ⊢
              have hlc : (cl.take (5 * y + x)).length ≤ 35 := by rw [List.length_take, HLC.out]; omega
              obtain ⟨gb, hgb⟩ : ∃ gb, wa.heap.size = gb := ⟨_, rfl⟩
              obtain ⟨gm, hgm⟩ : ∃ gm, gb + 1 = gm := ⟨_, rfl⟩
              have hgm2 : gb + 2 = gm + 1 := by omega
              rw [hgb] at hB hM hown ⊢
              rw [hgm] at hM ⊢
              rw [hgm2] at hown
              have RB := Lib.hid hB
              have R2 := Lib.hid hM
              have HGB := Lib.hid hgb
              have HGM := Lib.hid hgm
              have hsz0 := lt_at hM
              clear hxq hyq hXx hYy hca hbt hgb hgm hB hM hgm2
              go_wp2
              refine wp_region_rel 19 3 rfl [73, 74, 75, 76, 77, 78, 79, 80, 81, 82, 83, 84, 85, 86, 87, 88, 89, 90, 91] [[], [0], [], [], [], [4], [], [], [6, 7], [5, 8], [], [10], [], [], [12, 13], [11, 14], [], [2, 3, 9, 15, 16], [17]] (by kernel_rfl) (by kernel_rfl) ?_
              apply relPlan_eq'
              · intro V w' hx hf
                with_reducible refine relAt_ops ?_
                intro A ρ hA hρ hcst hfun
                have h11 : ρ (.tmp 11) = .pointer (some ⟨gm, 0, none⟩) := (congrFun hρ _).trans (evalMiss hA 11 rfl)
                simp [relUpon, go_sem, Ext.refl, h11]
                rfl
              refine relPlan_by (eqv vd) (eqv_stable _) ?_ ?_
              · intro V w' hx hf
                with_reducible refine relAt_ops ?_
                intro A ρ hA hρ hcst hfun
                obtain ⟨f73, _⟩ := hf
                have h73 : ρ (.tmp 73) = _ := (congrFun hρ _).trans ((evalHit hA 73 rfl).trans f73)
                have HMw := row_on R2.out hx
                have q2 := cell_at HMw (i := 2) rfl
                simp [relUpon, go_sem, Ext.refl, h73, q2]
                try rfl
              refine relPlan_by (eqv (.agg #[.int .i64 (W : Int), .int .i64 (H : Int), .slice (some ⟨b, off, none⟩) ln c])) (eqv_stable _) ?_ ?_
              · intro V w' hx hf
                with_reducible refine relAt_ops ?_
                intro A ρ hA hρ hcst hfun
                have h3 : ρ (.tmp 3) = .pointer (some ⟨b0, 0, none⟩) := (congrFun hρ _).trans (evalMiss hA 3 rfl)
                have HMw := row_on R0.out hx
                have q0 := cell_at HMw (i := 0) rfl
                have q1 := cell_at HMw (i := 1) rfl
                have q2 := cell_at HMw (i := 2) rfl
                simp [relUpon, go_sem, Ext.refl, h3, q0,q1,q2]
                try rfl
              refine relPlan_by (eqv (.agg #[.int .i64 (lx : Int), .int .i64 (ly : Int), .int .i64 (lw : Int), .int .i64 (lh : Int)])) (eqv_stable _) ?_ ?_
              · intro V w' hx hf
                with_reducible refine relAt_ops ?_
                intro A ρ hA hρ hcst hfun
                have h4 : ρ (.tmp 4) = .pointer (some ⟨b0 + 1, 0, none⟩) := (congrFun hρ _).trans (evalMiss hA 4 rfl)
                have HMw := row_on R1.out hx
                have q0 := cell_at HMw (i := 0) rfl
                have q1 := cell_at HMw (i := 1) rfl
                have q2 := cell_at HMw (i := 2) rfl
                have q3 := cell_at HMw (i := 3) rfl
                simp [relUpon, go_sem, Ext.refl, h4, q0,q1,q2,q3]
                try rfl
              apply relPlan_eq'
              · intro V w' hx hf
                with_reducible refine relAt_ops ?_
                intro A ρ hA hρ hcst hfun
                have h10 : ρ (.tmp 10) = .pointer (some ⟨gb, 0, none⟩) := (congrFun hρ _).trans (evalMiss hA 10 rfl)
                simp [relUpon, go_sem, Ext.refl, h10]
                rfl
              refine relPlan_by (eqv (.int .i64 (X : Int))) (eqv_stable _) ?_ ?_
              · intro V w' hx hf
                with_reducible refine relAt_ops ?_
                intro A ρ hA hρ hcst hfun
                obtain ⟨f77, _⟩ := hf
                have h77 : ρ (.tmp 77) = _ := (congrFun hρ _).trans ((evalHit hA 77 rfl).trans f77)
                have HMw := row_on RB.out hx
                have q0 := cell_at HMw (i := 0) rfl
                simp [relUpon, go_sem, Ext.refl, h77, q0]
                try rfl
              apply relPlan_eq'
              · intro V w' hx hf
                with_reducible refine relAt_ops ?_
                intro A ρ hA hρ hcst hfun
                have h13 : ρ (.tmp 13) = .int .i64 (x : Int) := (congrFun hρ _).trans (evalMiss hA 13 rfl)
                exact relUpon_move (hk := by rw [h13]; exact ⟨Ext.refl _, rfl⟩)
              apply relPlan_eq'
              · intro V w' hx hf
                with_reducible refine relAt_ops ?_
                intro A ρ hA hρ hcst hfun
                have h2 : ρ (.tmp 2) = .int .i64 (k : Int) := (congrFun hρ _).trans (evalMiss hA 2 rfl)
                exact relUpon_move (hk := by rw [h2]; exact ⟨Ext.refl _, rfl⟩)
              apply relPlan_eq'
              · intro V w' hx hf
                with_reducible refine relAt_ops ?_
                intro A ρ hA hρ hcst hfun
                obtain ⟨f79, f80, _⟩ := hf
                have h79 : ρ (.tmp 79) = _ := (congrFun hρ _).trans ((evalHit hA 79 rfl).trans f79)
                have h80 : ρ (.tmp 80) = _ := (congrFun hρ _).trans ((evalHit hA 80 rfl).trans f80)
                simp [relUpon, go_sem, Ext.refl, h79, h80, ex, wx]
                rfl
              apply relPlan_eq'
              · intro V w' hx hf
                with_reducible refine relAt_ops ?_
                intro A ρ hA hρ hcst hfun
                obtain ⟨f78, f81, _⟩ := hf
                have h78 : ρ (.tmp 78) = _ := (congrFun hρ _).trans ((evalHit hA 78 rfl).trans f78)
                have h81 : ρ (.tmp 81) = _ := (congrFun hρ _).trans ((evalHit hA 81 rfl).trans f81)
                simp [relUpon, go_sem, Ext.refl, h78, h81, eX, wX]
                rfl
              apply relPlan_eq'
              · intro V w' hx hf
                with_reducible refine relAt_ops ?_
                intro A ρ hA hρ hcst hfun
                have h10 : ρ (.tmp 10) = .pointer (some ⟨gb, 0, none⟩) := (congrFun hρ _).trans (evalMiss hA 10 rfl)
                simp [relUpon, go_sem, Ext.refl, h10]
                rfl
              refine relPlan_by (eqv (.int .i64 (ly : Int))) (eqv_stable _) ?_ ?_
              · intro V w' hx hf
                with_reducible refine relAt_ops ?_
                intro A ρ hA hρ hcst hfun
                obtain ⟨f83, _⟩ := hf
                have h83 : ρ (.tmp 83) = _ := (congrFun hρ _).trans ((evalHit hA 83 rfl).trans f83)
                have HMw := row_on RB.out hx
                have q1 := cell_at HMw (i := 1) rfl
                simp [relUpon, go_sem, Ext.refl, h83, q1]
                try rfl
              apply relPlan_eq'
              · intro V w' hx hf
                with_reducible refine relAt_ops ?_
                intro A ρ hA hρ hcst hfun
                have h12 : ρ (.tmp 12) = .int .i64 (y : Int) := (congrFun hρ _).trans (evalMiss hA 12 rfl)
                exact relUpon_move (hk := by rw [h12]; exact ⟨Ext.refl _, rfl⟩)
              apply relPlan_eq'
              · intro V w' hx hf
                with_reducible refine relAt_ops ?_
                intro A ρ hA hρ hcst hfun
                have h2 : ρ (.tmp 2) = .int .i64 (k : Int) := (congrFun hρ _).trans (evalMiss hA 2 rfl)
                exact relUpon_move (hk := by rw [h2]; exact ⟨Ext.refl _, rfl⟩)
              apply relPlan_eq'
              · intro V w' hx hf
                with_reducible refine relAt_ops ?_
                intro A ρ hA hρ hcst hfun
                obtain ⟨f85, f86, _⟩ := hf
                have h85 : ρ (.tmp 85) = _ := (congrFun hρ _).trans ((evalHit hA 85 rfl).trans f85)
                have h86 : ρ (.tmp 86) = _ := (congrFun hρ _).trans ((evalHit hA 86 rfl).trans f86)
                simp [relUpon, go_sem, Ext.refl, h85, h86, ey, wy]
                rfl
              apply relPlan_eq'
              · intro V w' hx hf
                with_reducible refine relAt_ops ?_
                intro A ρ hA hρ hcst hfun
                obtain ⟨f84, f87, _⟩ := hf
                have h84 : ρ (.tmp 84) = _ := (congrFun hρ _).trans ((evalHit hA 84 rfl).trans f84)
                have h87 : ρ (.tmp 87) = _ := (congrFun hρ _).trans ((evalHit hA 87 rfl).trans f87)
                simp [relUpon, go_sem, Ext.refl, h84, h87, eY, wY]
                rfl
              apply relPlan_eq'
              · intro V w' hx hf
                with_reducible refine relAt_ops ?_
                intro A ρ hA hρ hcst hfun
                have h2 : ρ (.tmp 2) = .int .i64 (k : Int) := (congrFun hρ _).trans (evalMiss hA 2 rfl)
                exact relUpon_move (hk := by rw [h2]; exact ⟨Ext.refl _, rfl⟩)
              refine relPlan_by (eqv (.bool bt)) (eqv_stable _) ?_ ?_
              · intro V w' hx hf
                with_reducible refine relAt_ops ?_
                intro A ρ hA hρ hcst hfun
                obtain ⟨f75, f76, f82, f88, f89, _⟩ := hf
                have h75 : ρ (.tmp 75) = _ := (congrFun hρ _).trans ((evalHit hA 75 rfl).trans f75)
                have h76 : ρ (.tmp 76) = _ := (congrFun hρ _).trans ((evalHit hA 76 rfl).trans f76)
                have h82 : ρ (.tmp 82) = _ := (congrFun hρ _).trans ((evalHit hA 82 rfl).trans f82)
                have h88 : ρ (.tmp 88) = _ := (congrFun hρ _).trans ((evalHit hA 88 rfl).trans f88)
                have h89 : ρ (.tmp 89) = _ := (congrFun hρ _).trans ((evalHit hA 89 rfl).trans f89)
                simp [relUpon, go_sem, hfun, h75, h76, h82, h88, h89]
                exact (HCL.out w' hx).mono fun e w'' h => ⟨_, h.1, h.2, (rfl : (Value.bool bt) = .bool bt)⟩
              refine relPlan_by (oneAt encT1 bt) (fun _ _ _ h hx => h.ext hx) ?_ ?_
              · intro V w' hx hf
                with_reducible refine relAt_ops ?_
                intro A ρ hA hρ hcst hfun
                obtain ⟨f90, _⟩ := hf
                have h90 : ρ (.tmp 90) = _ := (congrFun hρ _).trans ((evalHit hA 90 rfl).trans f90)
                simp [relUpon, go_sem, h90]
                exact ⟨(Ext.refl _).alloc _, oneAt.new _ _ _ rfl⟩
              intro V wT hxT hf
              obtain ⟨g73, g74, g75, g76, g77, g78, g79, g80, g81, g82, g83, g84, g85, g86, g87, g88, g89, g90, g91, _⟩ := hf
              refine wpAny_tail (fuel := 2) 19 _ (by kernel_rfl) rfl rfl ?_
              obtain ⟨b1, e91, hb1, hc1⟩ := g91
              have hlow := hown.low
              refine wp_append_k (.tmp 74) (.tmp 91) 22 4 (.bool false) 1 rfl Tryz.underlying22 info_bool1 rfl (by decide) (by decide) encT1_len encT1_one (gm + 1) vd (cl.take (5 * y + x)) ((evalHit rfl 74 rfl).trans g74) (hown.ext hxT) b1 bt ((evalHit rfl 91 rfl).trans e91) hc1 (by omega) (by have := hxT.size; omega) ?_
              intro v' w5 hown5 hg5 hb5
              obtain ⟨a5, c5, hv5⟩ := (hown5.sl encT1_len).form
              obtain ⟨nv, hnv⟩ : ∃ nv, (cl.take (5 * y + x) ++ [bt]).length = nv := ⟨_, rfl⟩
              rw [hnv] at hv5
              subst hv5
              clear hnv
              have S2 := row_grown (row_on R2.out hxT) hg5 hlow (by omega)
              have SB := row_grown (row_on RB.out hxT) hg5 hlow (by have := HGM.out; omega)
              have SX := (hxr.trans hxT).ofGrown hg5 (fun j hj => by have := hlow j hj; have := HGM.out; have := HGB.out; omega)
              have kf := frz_at S2 (i := 2)
              have kc := cell_at S2 (i := 2) rfl
              have kl := lt_at S2
              have HS2 := Lib.hid S2
              have HSB := Lib.hid SB
              have HSX := Lib.hid SX
              have HO5 := Lib.hid hown5
              clear S2 SB SX hown5 hg5 hb5 hlow hown g73 g74 g75 g76 g77 g78 g79 g80 g81 g82 g83 g84 g85 g86 g87 g88 g89 g90 e91 hc1 hxr
              simp only [fillA, List.foldl_cons, List.foldl_nil, Act.put, List.setIfInBounds_toArray, List.set_cons_succ, List.set_cons_zero]
              refine wpAny_tail (fuel := 1) 20 _ (by kernel_rfl) rfl rfl ?_
              refine wp_of_relAt (K := fun u z => u = .pointer (some ⟨gm, 2, none⟩) ∧ z = w5) (by simp [relAt, relUpon, go_sem]) (fun u z ⟨hu, hz⟩ => ?_)
              subst hu hz
              simp only [Act.put]
              refine wpAny_tail (fuel := 0) 21 _ (by kernel_rfl) rfl rfl ?_
              refine wp_of_relAt (K := fun u q => q = z.setCell ⟨gm, 2, none⟩ (.slice a5 nv c5)) (by simp [relAt, relUpon, go_sem, kf, kc]) (fun u q hq => ?_)
              subst hq
              simp only [Act.put]
              refine ⟨by kernel_rfl, ?_⟩
              go_wp2
              go_roundw
              case rel =>
                refine ⟨x + 1, hlx, by go_num, (.slice a5 nv c5), ?_, ?_, ?_, HSX.out.setCell (p := ⟨gm, 2, none⟩) (by show wa.heap.size ≤ gm; have := HGB.out; have := HGM.out; omega) _⟩
                · rw [HGB.out]; exact far1 (by have := HGM.out; omega) HSB.out
                · rw [HGB.out, HGM.out]; exact heap_set HS2.out
                · rw [HGB.out, show gb + 2 = gm + 1 from by have := HGM.out; omega, ← Nat.add_assoc, HCX.out]
                  exact HO5.out.setCell (a := ⟨gm, 2, none⟩) (by show gm < gm + 1; omega) _
              case measure => simp [intOf]; omega
            · obtain rfl : x = 5 := by omega
              have HGR5 := Lib.hid (show GridR wa X ly k5 k7 cl (5 * (y + 1)) wr from ⟨vd, hB, hM, by rw [show 5 * (y + 1) = 5 * y + 5 by omega]; exact hown, hxr⟩)
              clear hB hM hown hxr hx hlx
              go_wp2
              go_roundw
              case rel => exact ⟨y + 1, by omega, by go_num, HGR5.out⟩
              case measure => simp [intOf]; omega
        · obtain rfl : y = 7 := by omega
          obtain ⟨vd, hB, hM, hown, hxa⟩ := hgr
          have hcl : cl.take (5 * 7) = cl := List.take_of_length_le (by rw [HLC.out]; omega)
          rw [hcl] at hown
          have HMA := Lib.hid (xmatch_at vd cl wr hown.ownT.slk HLC.out)
          obtain ⟨gb, hgb⟩ : ∃ gb, wa.heap.size = gb := ⟨_, rfl⟩
          have HGB := Lib.hid hgb
          rw [hgb] at hB hM ⊢
          have HB := Lib.hid hB
          have HXA := Lib.hid hxa
          have m0 := cell_at hM (i := 0) rfl
          have m1 := cell_at hM (i := 1) rfl
          have m2 := cell_at hM (i := 2) rfl
          clear hcl hB hM hown hxa hly hy hgb
          go_wp2_with fail
          refine HMA.out.mono ?_
          rintro e w4 ⟨g, cg, rfl, hcg, hg3, hg4, hkg, hx4⟩
          obtain ⟨hd, tl, hrk⟩ : ∃ hd tl, Gl.ranked cl = hd :: tl := by
            have := Gl.ranked_len cl
            cases hq : Gl.ranked cl with
            | nil => rw [hq] at this; cases this
            | cons a l => exact ⟨a, l, rfl⟩
          have htl : (hd :: tl).length = 62 := by rw [← hrk]; exact Gl.ranked_len cl
          rw [hrk] at hkg HRi
          obtain ⟨b3, o3, he3, _, hcl⟩ := hkg.at_ (i := 0) (x := hd) rfl
          simp only [Option.some.injEq, Addr.mk.injEq, and_true] at he3
          obtain ⟨rfl, rfl⟩ := he3
          obtain ⟨hc0, hc1⟩ := hd
          have k0 : w4.cell? ⟨g, 0, none⟩ = some (.int .u8 (hc0.toNat : Int)) := by have := hcl 0 (by omega); simp only [Nat.zero_mul, Nat.add_zero] at this; exact this
          have k1 : w4.cell? ⟨g, 1, none⟩ = some (.int .i64 hc1) := by have := hcl 1 (by omega); simp only [Nat.zero_mul, Nat.zero_add, Nat.add_zero] at this; exact this
          have hx34 := HXA.out.trans hx4
          have R9 := row_on H9.out hx34
          have RB4 := row_on HB.out hx4
          have p9 := cell_at R9 (i := 5) rfl
          have f9 := frz_at R9 (i := 5)
          have l9 := lt_at R9
          have pb0 := cell_at RB4 (i := 0) rfl
          have pb1 := cell_at RB4 (i := 1) rfl
          have pb2 := cell_at RB4 (i := 2) rfl
          have pb3 := cell_at RB4 (i := 3) rfl
          have hlow := HG.out.low
          obtain ⟨va, vc, hv⟩ := (HG.out.sl encG_len).form
          obtain ⟨vn, hvn⟩ : ∃ n, gs.length = n := ⟨_, rfl⟩
          have hgl : gs.length ≤ 4096 := by
            rw [HGS.out.1]
            exact Nat.le_trans (List.length_take_le ..) (by omega)
          rw [hvn] at hv
          have HVV := Lib.hid hv
          clear hv
          have hcells : ∀ (c : Nat) r, (encG (((X : Int), (ly : Int), (k5 : Int), (k7 : Int)), (hc0, hc1), g, cg - 1))[c]? = some r → ((w4.alloc (.cells #[.int .i64 (X : Int), .int .i64 (ly : Int), .int .i64 (k5 : Int), .int .i64 (k7 : Int), .int .u8 (hc0.toNat : Int), .int .i64 hc1, .slice (some ⟨g, 2, none⟩) 61 (cg - 1)] 54)).drew).cell? ⟨w4.heap.size, c, none⟩ = some r := fun c r hr =>
            cell_at (heap_alloc_new w4 _) (by simpa [encG, encI, encB] using hr)
          obtain ⟨og, hog⟩ : ∃ o, w4.heap[g]? = some o := ⟨_, Array.getElem?_eq_getElem hg4⟩
          have HOG := Lib.hid hog
          have hgx := hx34.size
          have hgx2 := hx4.size
          have HNV : Hid (vg.ownBlock ≠ some g) := Lib.hid (fun h => by have := HG.out.block h; have := HXA.out.size; omega)
          clear hog hgx hgx2
          obtain ⟨v', w5, hrun, hown5, hg5, hblk5⟩ := run_append_k_at (w := (w4.alloc (.cells #[.int .i64 (X : Int), .int .i64 (ly : Int), .int .i64 (k5 : Int), .int .i64 (k7 : Int), .int .u8 (hc0.toNat : Int), .int .i64 hc1, .slice (some ⟨g, 2, none⟩) 61 (cg - 1)] 54)).drew) 43 54 43 (.agg #[.int .i64 0, .int .i64 0, .int .i64 0, .int .i64 0, .int .u8 0, .int .i64 0, .slice none 0 0]) 72 Tryz.underlying43 info_glyph rfl (by decide) (by decide) encG_len encG_one (w2.heap.size + 1) _ gs ((HG.out.ext hx34).ext (((Ext.refl _).alloc _).drew)) w4.heap.size (((X : Int), (ly : Int), (k5 : Int), (k7 : Int)), (hc0, hc1), g, cg - 1) hcells (by omega) (by have := hx34.size; have := lt_at H9.out; simp; omega)
          obtain ⟨a5, c5, hv5⟩ := (hown5.sl encG_len).form
          rw [List.length_append, hvn] at hv5
          have hv5 : v' = .slice a5 (vn + 1) c5 := hv5
          subst hv5
          simp [go_sem] at hrun
          have hst := fun w => slice_tail (g := g) hcg w
          have HOW5 := Lib.hid hown5
          have HG5 := Lib.hid hg5
          have HBK5 := Lib.hid hblk5
          have HKG := Lib.hid hkg
          have HX34 := Lib.hid hx34
          have HLOW := Lib.hid hlow
          have HTL := Lib.hid htl
          have HX4 := Lib.hid hx4
          clear hown5 hg5 hblk5 hkg hx34 hlow htl hgl hvn hcl hrk hcells R9 RB4 hx4 m0 m1 m2
          have HXD := Lib.hid (((Ext.refl w4).alloc (.cells #[.int .i64 (X : Int), .int .i64 (ly : Int), .int .i64 (k5 : Int), .int .i64 (k7 : Int), .int .u8 (hc0.toNat : Int), .int .i64 hc1, .slice (some ⟨g, 2, none⟩) 61 (cg - 1)] 54)).drew)
          have HR9 := Lib.hid (row_grown (row_on H9.out (HX34.out.trans HXD.out)) HG5.out HLOW.out (by omega))
          have d9 := cell_at HR9.out (i := 5) rfl
          have ff9 := frz_at HR9.out (i := 5)
          have ll9 := lt_at HR9.out
          go_wp2
          go_region
          have hxd := HXD.out
          have hg5 := HG5.out
          have hlow := HLOW.out
          have hx34 := HX34.out
          have hsz9 := HSZ9.out
          have hxA := hx34.trans hxd
          have S0 := far1 (i := 5) (u := .slice a5 (vn + 1) c5) (show w2.heap.size ≠ w.heap.size by omega) (row_grown (row_on H0.out hxA) hg5 hlow (by omega))
          have S1 := far1 (i := 5) (u := .slice a5 (vn + 1) c5) (show w2.heap.size ≠ w.heap.size + 1 by omega) (row_grown (row_on H1.out hxA) hg5 hlow (by omega))
          have S2 := far1 (i := 5) (u := .slice a5 (vn + 1) c5) (show w2.heap.size ≠ w.heap.size + 1 + 1 by omega) (row_grown (row_on H2.out hxA) hg5 hlow (by omega))
          have S9 := heap_set (i := 5) (u := .slice a5 (vn + 1) c5) HR9.out
          have g9 : w2.heap.size ≠ g := fun h => by have := lt_at H9.out; have := HXA.out.size; omega
          have SG0 : w5.heap[g]? = some og := by
            rw [hg5.block g (lt_at (row_on HOG.out hxd)) (fun h => HNV.out h.symm)]
            exact row_on HOG.out hxd
          have SG := far1 (i := 5) (u := .slice a5 (vn + 1) c5) g9 SG0
          have SOW := HOW5.out.setCell (a := ⟨w2.heap.size, 5, none⟩) (by show w2.heap.size < w2.heap.size + 1; omega) (.slice a5 (vn + 1) c5)
          have SX := (((HXR.out.trans hxA).ofGrown hg5 (fun j hj => by have := hlow j hj; omega)).setCell (p := ⟨w2.heap.size, 5, none⟩) (by show w.heap.size ≤ w2.heap.size; omega) (.slice a5 (vn + 1) c5))
          have SGS : GsOf (w2.heap.size + 1) (w5.setCell ⟨w2.heap.size, 5, none⟩ (.slice a5 (vn + 1) c5)) (.slice a5 (vn + 1) c5) (.slice none 0 0) ly k (List.take i R) gs := HGS.out.move (fun j o hj hjB h1 h2 => by
            have hjl := lt_at hj
            have hjx := hx34.size
            have h3 : w5.heap[j]? = some o := by
              rw [hg5.block j (by have := hxd.size; omega) (fun h => h1 h.symm)]
              exact row_on hj hxA
            refine ⟨?_, ?_, h2⟩
            · exact far1 (by omega) h3
            · rcases HBK5.out with h | h
              · rw [h]; exact h1
              · rw [h]
                intro h
                simp at h
                omega)
          have hq0 : (w5.setCell ⟨w2.heap.size, 5, none⟩ (.slice a5 (vn + 1) c5)).cell? ⟨g, 0, none⟩ = some (.int .u8 (hc0.toNat : Int)) := by
            rw [← k0]
            exact World.cell?_of_block (a := ⟨g, 0, none⟩) (by rw [SG, HOG.out])
          obtain ⟨W6, hW6⟩ : ∃ W, (w5.setCell ⟨w2.heap.size, 5, none⟩ (.slice a5 (vn + 1) c5)) = W := ⟨_, rfl⟩
          rw [hW6] at S0 S1 S2 S9 SG SOW SX SGS hq0 ⊢
          have hvg : (Value.slice a5 (vn + 1) c5).ownBlock ≠ some g := fun h => by
            rcases HBK5.out with h5 | h5
            · rw [h5] at h; exact HNV.out h
            · rw [h5] at h; simp at h; omega
          obtain ⟨tx, htx⟩ : ∃ tx, bS (Gl.textOf (R.take i)) = tx := ⟨_, rfl⟩
          have HTX : Hid (bS (Gl.textOf (R.take (i + 1))) = tx ++ ⟨#[hc0]⟩) := Lib.hid (by rw [HRi.out, Gl.textOf_snoc, ← htx, bS_join]; rfl)
          have S9' : W6.heap[w2.heap.size]? = some (.cells #[.int .i64 (lx : Int), .int .i64 (ly : Int), .int .i64 (lw : Int), .int .i64 (lh : Int), .string tx, .slice a5 (vn + 1) c5] 45 (0, 0)) := by rw [S9, htx]; rfl
          have t4 := cell_at S9' (i := 4) rfl
          have htsz : tx.size ≤ 4096 := by
            have h1 : (bS (Gl.textOf (R.take i))).size = (Gl.textOf (R.take i)).length := by unfold bS; simp [ByteArray.size]
            rw [← htx, h1]
            unfold Gl.textOf
            rw [List.length_map]
            exact Nat.le_trans (List.length_take_le ..) (by omega)
          have tf := frz_at S9' (i := 4)
          have tlt := lt_at S9'
          have hcv := conv_two hc0 W6
          have HS0 := Lib.hid S0
          have HS1 := Lib.hid S1
          have HS2 := Lib.hid S2
          have HS9 := Lib.hid S9'
          have HSG := Lib.hid SG
          have HSOW := Lib.hid SOW
          have HSX := Lib.hid SX
          have HSGS := Lib.hid SGS
          have HVG := Lib.hid hvg
          clear S0 S1 S2 S9 S9' SG0 SG SOW SX SGS hxd hg5 hlow hx34 hsz9 hxA g9 hst hrun d9 ff9 ll9 p9 f9 l9 k0 k1 pb0 pb1 pb2 pb3 hvg htx hW6
          go_wp2
          go_region
          go_wp2
          go_roundw
          case rel =>
            obtain ⟨W7, hW7⟩ : ∃ W, W6.setCell ⟨w2.heap.size, 4, none⟩ (.string (tx ++ ⟨#[hc0]⟩)) = W := ⟨_, rfl⟩
            have hs9 := HSZ9.out
            have b0' := far1 (i := 4) (u := .string (tx ++ ⟨#[hc0]⟩)) (show w2.heap.size ≠ w.heap.size by omega) HS0.out
            have b1' := far1 (i := 4) (u := .string (tx ++ ⟨#[hc0]⟩)) (show w2.heap.size ≠ w.heap.size + 1 by omega) HS1.out
            have b2' := far1 (i := 4) (u := .string (tx ++ ⟨#[hc0]⟩)) (show w2.heap.size ≠ w.heap.size + 1 + 1 by omega) HS2.out
            have b9' := heap_set (i := 4) (u := .string (tx ++ ⟨#[hc0]⟩)) HS9.out
            have bw' := HSOW.out.setCell (a := ⟨w2.heap.size, 4, none⟩) (by show w2.heap.size < w2.heap.size + 1; omega) (.string (tx ++ ⟨#[hc0]⟩))
            have bx' := HSX.out.setCell (p := ⟨w2.heap.size, 4, none⟩) (by show w.heap.size ≤ w2.heap.size; omega) (.string (tx ++ ⟨#[hc0]⟩))
            have bg' : GsOf (w2.heap.size + 1) (W6.setCell ⟨w2.heap.size, 4, none⟩ (.string (tx ++ ⟨#[hc0]⟩))) (.slice a5 (vn + 1) c5) (.slice none 0 0) ly k (List.take i R) gs := HSGS.out.move (fun j o hj hjB h1 h2 => ⟨far1 (by omega) hj, h1, h2⟩)
            have hBe : w2.heap.size + 1 ≤ g := by have := lt_at H9.out; have := HXA.out.size; omega
            have bs' := far1 (i := 4) (u := .string (tx ++ ⟨#[hc0]⟩)) (show w2.heap.size ≠ g by omega) HSG.out
            rw [hW7] at b0' b1' b2' b9' bw' bx' bg' bs' ⊢
            have hal : Ext W7 ((W7.alloc (.cells #[.int .u8 (hc0.toNat : Int)] 5)).drew) := ((Ext.refl _).alloc _).drew
            refine ⟨i + 1, by omega, by go_num, .slice a5 (vn + 1) c5, gs ++ [(((X : Int), (ly : Int), (k5 : Int), (k7 : Int)), (hc0, hc1), g, cg - 1)], row_on b0' hal, row_on b1' hal, row_on b2' hal, ?_, bw'.ext hal, ?_, bx'.trans hal⟩
            · rw [HTX.out]
              exact row_on b9' hal
            · rw [HRi.out]
              have h1 : GsOf (w2.heap.size + 1) ((W7.alloc (.cells #[.int .u8 (hc0.toNat : Int)] 5)).drew) (.slice a5 (vn + 1) c5) (.slice none 0 0) ly k (List.take i R) gs := bg'.move (fun j o hj hjB h1 h2 => ⟨row_on hj hal, h1, h2⟩)
              have h2 := h1.snoc X (hc0, hc1) tl g (cg - 1) og (row_on bs' hal) hBe HVG.out (by simp [Value.ownBlock]) (fun w' hw' => by
                have h3 := HKG.out.drop 1 (cg - 1) (by rw [HTL.out]; omega)
                rw [HTL.out] at h3
                exact KSl.of_block h3 HOG.out hw')
              rw [HK.out.1, HK.out.2] at h2
              exact h2
          case measure => simp [intOf]; omega
    · have ein : i = n := by omega
      have hge : ¬ ((i : Int) < (n : Int)) := by omega
      obtain ⟨va, vc, hv⟩ := (hown.sl encG_len).form
      obtain ⟨vn, hvn⟩ : ∃ n, gs.length = n := ⟨_, rfl⟩
      rw [hvn] at hv
      subst hv
      have hRR : R.take i = R := by rw [ein]; exact HRL.out.1
      rw [hRR] at h9 hgs
      obtain ⟨tx, htx⟩ : ∃ tx, bS (Gl.textOf R) = tx := ⟨_, rfl⟩
      have HTX := Lib.hid htx
      rw [htx] at h9
      have q0' := cell_at h9 (i := 0) rfl
      have q1' := cell_at h9 (i := 1) rfl
      have q2' := cell_at h9 (i := 2) rfl
      have q3' := cell_at h9 (i := 3) rfl
      have q4' := cell_at h9 (i := 4) rfl
      have q5' := cell_at h9 (i := 5) rfl
      have z0 := cell_at h2 (i := 0) rfl
      have z1 := cell_at h2 (i := 1) rfl
      have z2 := cell_at h2 (i := 2) rfl
      have z3 := cell_at h2 (i := 3) rfl
      have z4 := cell_at h2 (i := 4) rfl
      have z5 := cell_at h2 (i := 5) rfl
      have y0 := frz_at h2 (i := 0)
      have y1 := frz_at h2 (i := 1)
      have y2 := frz_at h2 (i := 2)
      have y3 := frz_at h2 (i := 3)
      have y4 := frz_at h2 (i := 4)
      have y5 := frz_at h2 (i := 5)
      have zl := lt_at h2
      have H2 := Lib.hid h2
      have HG := Lib.hid hown
      have HGS := Lib.hid hgs
      have HXR := Lib.hid hxr
      have HS9 := Lib.hid hsz9
      clear h0 h1 h2 h9 hown hgs hxr htx ein hsz9 hvn hRR hlt
      go_wp2
      refine bodyPost_ret (results_st Tryz.results22 rfl rfl (load_line (row6_set H2.out))) rfl ?_
      rw [HRD.out]
      have hs9 := HS9.out
      have hgs := HGS.out
      have hxx := ((((((HXR.out.setCell (p := ⟨w.heap.size + 1 + 1, 0, none⟩) (by show w.heap.size ≤ w.heap.size + 1 + 1; omega) (.int .i64 (lx : Int))).setCell (p := ⟨w.heap.size + 1 + 1, 1, none⟩) (by show w.heap.size ≤ w.heap.size + 1 + 1; omega) (.int .i64 (ly : Int))).setCell (p := ⟨w.heap.size + 1 + 1, 2, none⟩) (by show w.heap.size ≤ w.heap.size + 1 + 1; omega) (.int .i64 (lw : Int))).setCell (p := ⟨w.heap.size + 1 + 1, 3, none⟩) (by show w.heap.size ≤ w.heap.size + 1 + 1; omega) (.int .i64 (lh : Int))).setCell (p := ⟨w.heap.size + 1 + 1, 4, none⟩) (by show w.heap.size ≤ w.heap.size + 1 + 1; omega) (.string tx)).setCell (p := ⟨w.heap.size + 1 + 1, 5, none⟩) (by show w.heap.size ≤ w.heap.size + 1 + 1; omega) (.slice va vn vc))
      have hkk := ((((((HG.out.setCell (a := ⟨w.heap.size + 1 + 1, 0, none⟩) (by show w.heap.size + 1 + 1 < w2.heap.size + 1; omega) (.int .i64 (lx : Int))).setCell (a := ⟨w.heap.size + 1 + 1, 1, none⟩) (by show w.heap.size + 1 + 1 < w2.heap.size + 1; omega) (.int .i64 (ly : Int))).setCell (a := ⟨w.heap.size + 1 + 1, 2, none⟩) (by show w.heap.size + 1 + 1 < w2.heap.size + 1; omega) (.int .i64 (lw : Int))).setCell (a := ⟨w.heap.size + 1 + 1, 3, none⟩) (by show w.heap.size + 1 + 1 < w2.heap.size + 1; omega) (.int .i64 (lh : Int))).setCell (a := ⟨w.heap.size + 1 + 1, 4, none⟩) (by show w.heap.size + 1 + 1 < w2.heap.size + 1; omega) (.string tx)).setCell (a := ⟨w.heap.size + 1 + 1, 5, none⟩) (by show w.heap.size + 1 + 1 < w2.heap.size + 1; omega) (.slice va vn vc))
      refine ⟨.slice va vn vc, by rw [HTX.out]; rfl, ⟨gs, hkk.sl encG_len, hgs.1, fun j r hj => ?_⟩, hxx⟩
      obtain ⟨g, cg, o, b1, b2, b3, _, _, b6⟩ := hgs.2 j r hj
      have e2 : w.heap.size + 1 + 1 ≠ g := by omega
      exact ⟨g, cg, b1, b6 _ (far1 e2 (far1 e2 (far1 e2 (far1 e2 (far1 e2 (far1 e2 b2))))))⟩
end Go.Proofs.YtamkgbodifjlaaaGreatDoor
