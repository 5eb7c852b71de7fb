/-
  Chapter 48, the reference: At, cell.
  Condition: a valid bitmap.
-/
import Derived.Test.YtamkgbodifjlaaaGreatDoorGlX4
import Derived.Test.YtamkgbodifjlaaaGreatDoorGlPb
import Derived.Test.YtamkgbodifjlaaaGreatDoorGlW7
namespace Go.Proofs.YtamkgbodifjlaaaGreatDoor
set_option linter.unusedVariables false
open Go.RowKit

set_option maxRecDepth 100000 in
set_option maxHeartbeats 600000 in
theorem xat_any (b off c ln : Nat) (m : List Bool) (W H x y : Nat) (w : World) (hpx : ∀ w', Ext w w' → ∀ i, i < ln → w'.cell? ⟨b, off + i, none⟩ = some (.bool (m.getD i false))) (hln : ln = W * H) (hval : Gl.valid (W : Int) (H : Int) ln = true) (hx : x < W) (hy : y < H) :
    Calls Tryz.prog 71 #[.agg #[.int .i64 (W : Int), .int .i64 (H : Int), .slice (some ⟨b, off, none⟩) ln c], .int .i64 (x : Int), .int .i64 (y : Int)] w
      fun e w' => e = .returned (.bool (m.getD (y * W + x) false)) ∧ Ext w w' := by
  obtain ⟨W', H', e1, e2, hW, hW2, hH, hH2, hWM, hM4⟩ := Gl.valid_parts hval
  clear hWM
  obtain rfl : W = W' := by omega
  obtain rfl : H = H' := by omega
  have HV := Lib.hid (fun W1 => xvalid_any (W : Int) (H : Int) (some ⟨b, off, none⟩) ln c W1 (by unfold maxLen; omega))
  rw [hval] at HV
  have hall : y * W + x < ln := by
    have : (y + 1) * W ≤ W * H := by rw [Nat.mul_comm W H]; exact Nat.mul_le_mul_right W hy
    rw [Nat.add_mul, Nat.one_mul] at this
    omega
  obtain ⟨Z, hZ⟩ : ∃ Z, y * W = Z := ⟨_, rfl⟩
  rw [hZ] at hall ⊢
  obtain ⟨I, hI⟩ : ∃ I, Z + x = I := ⟨_, rfl⟩
  rw [hI] at hall ⊢
  have hZb : Z ≤ 16777216 := by omega
  obtain ⟨xi, hxi⟩ : ∃ xi : Int, (x : Int) = xi := ⟨_, rfl⟩
  obtain ⟨yi, hyi⟩ : ∃ yi : Int, (y : Int) = yi := ⟨_, rfl⟩
  have eZ : yi * (W : Int) = (Z : Int) := by rw [← hZ, ← hyi]; simp
  have eI : (Z : Int) + xi = (I : Int) := by omega
  have t0 : decide (0 ≤ xi) = true := decide_eq_true (by omega)
  have t1 : decide (xi < (W : Int)) = true := decide_eq_true (by omega)
  have t2 : decide (0 ≤ yi) = true := decide_eq_true (by omega)
  have t3 : decide (yi < (H : Int)) = true := decide_eq_true (by omega)
  have hxb : 0 ≤ xi ∧ xi ≤ 4096 := by omega
  have hyb : 0 ≤ yi ∧ yi ≤ 4096 := by omega
  have HPX := Lib.hid hpx
  rw [hxi, hyi]
  clear hpx hln hval hZ hI e1 e2 hxi hyi hx hy
  go_enter Tryz.func71, Tryz.ntmps71
  go_wp2_with fail
  refine (HV.out _).mono ?_
  rintro e w1 ⟨rfl, hx1⟩
  have HR := Lib.hid (row_new rfl hx1)
  have m0 := cell_at HR.out (i := 0) rfl
  have m1 := cell_at HR.out (i := 1) rfl
  have m2 := cell_at HR.out (i := 2) rfl
  have hp := HPX.out w1 hx1.before I hall
  have HX := Lib.hid hx1.before
  have hallI : (I : Int) < (ln : Int) := by omega
  clear hx1 HR HV HPX
  obtain ⟨bt, hbt⟩ : ∃ bt, m.getD I false = bt := ⟨_, rfl⟩
  rw [hbt] at hp
  have HB := Lib.hid hbt
  clear hbt
  go_wp2
  go_ret
  exact ⟨by rw [HB.out]; rfl, HX.out⟩
set_option maxRecDepth 100000 in
set_option maxHeartbeats 2000000 in
theorem xcell_any (b off c M : Nat) (m : List Bool) (W H lx ly lw lh x y k : Nat) (w : World) (hpx : ∀ w', Ext w w' → ∀ i, i < M → w'.cell? ⟨b, off + i, none⟩ = some (.bool (m.getD i false))) (hM : M = W * H) (hval : Gl.valid (W : Int) (H : Int) M = true) (hl : lx + lw ≤ W) (hh : ly + lh ≤ H) (hx : x ≤ 100000) (hy : y ≤ 100000) (hk : 1 ≤ k) (hk2 : k ≤ 64) :
    Calls Tryz.prog 49 #[.agg #[.int .i64 (W : Int), .int .i64 (H : Int), .slice (some ⟨b, off, none⟩) M c], .agg #[.int .i64 (lx : Int), .int .i64 (ly : Int), .int .i64 (lw : Int), .int .i64 (lh : Int)], .int .i64 (x : Int), .int .i64 (y : Int), .int .i64 (k : Int)] w
      fun e w' => e = .returned (.bool (Gl.cell m W (lx + lw) (ly + lh) x y k)) ∧ Ext w w' := by
  obtain ⟨W', H', e1, e2, hW, hW2, hH, hH2, hWM, hM4⟩ := Gl.valid_parts hval
  clear hWM
  obtain rfl : W = W' := by omega
  obtain rfl : H = H' := by omega
  have HAT := Lib.hid (fun a d (ha : a < W) (hd : d < H) w' (hw : Ext w w') => xat_any b off c M m W H a d w' (fun w'' hx' i hi => hpx w'' (hw.trans hx') i hi) hM hval ha hd)
  obtain ⟨X, hX⟩ : ∃ X, lx + lw = X := ⟨_, rfl⟩
  obtain ⟨Y, hY⟩ : ∃ Y, ly + lh = Y := ⟨_, rfl⟩
  have eX : (lx : Int) + (lw : Int) = (X : Int) := by omega
  have eY : (ly : Int) + (lh : Int) = (Y : Int) := by omega
  rw [hX] at hl ⊢
  rw [hY] at hh ⊢
  clear hpx hM hval e1 e2 hM4 hX hY
  go_enter Tryz.func49, Tryz.ntmps49
  go_wp2
  go_loopw [11, 12] (fun v11 v12 wr => ∃ j : Nat, j ≤ k ∧ v12 = .int .i64 (j : Int) ∧ v11 = .int .i64 (Gl.cellN m W X Y x y k j : Int) ∧ wr.heap[w.heap.size]? = some (.cells #[.int .i64 (W : Int), .int .i64 (H : Int), .slice (some ⟨b, off, none⟩) M c] 24 (0, 0)) ∧ wr.heap[w.heap.size + 1]? = some (.cells #[.int .i64 (lx : Int), .int .i64 (ly : Int), .int .i64 (lw : Int), .int .i64 (lh : Int)] 26 (0, 0)) ∧ Ext w wr) (fun _ v12 _ => k - (intOf v12).toNat)
  case atStart =>
    refine ⟨0, Nat.zero_le _, rfl, rfl, row_on (heap_alloc_new w _) ((Ext.refl _).alloc _), ?_, ((Ext.refl w).alloc _).alloc _⟩
    have := heap_alloc_new (w.alloc (.cells #[.int .i64 (W : Int), .int .i64 (H : Int), .slice (some ⟨b, off, none⟩) M c] 24)) (.cells #[.int .i64 (lx : Int), .int .i64 (ly : Int), .int .i64 (lw : Int), .int .i64 (lh : Int)] 26)
    rw [World.size_alloc] at this
    exact this
  case round =>
    obtain ⟨j, hj, rfl, rfl, h0, h1, hxr⟩ := hrel
    by_cases hlt : j < k
    · have hltI : (j : Int) < (k : Int) := by omega
      obtain ⟨V, hV⟩ : ∃ V, y + j = V := ⟨_, rfl⟩
      have eV : (y : Int) + (j : Int) = (V : Int) := by omega
      have hVb : V ≤ 200000 := by omega
      have HN1 := Lib.hid (show Gl.cellN m W X Y x y k (j + 1) = Gl.cellN m W X Y x y k j + Gl.cellRow m W X Y x V k by rw [← hV]; rfl)
      have hNb := Gl.cellN_le m W X Y x y k j
      have hNb2 : j * k ≤ 64 * 64 := Nat.mul_le_mul (by omega) (by omega)
      obtain ⟨N, hN⟩ : ∃ N, Gl.cellN m W X Y x y k j = N := ⟨_, rfl⟩
      rw [hN] at HN1 hNb ⊢
      have hNb3 : N ≤ 4096 := by omega
      have H0 := Lib.hid h0
      have H1 := Lib.hid h1
      have HXR := Lib.hid hxr
      clear hN hNb hNb2 hV h0 h1 hxr
      go_wp2
      obtain ⟨wa, hwa⟩ : ∃ wa, wa = wr := ⟨_, rfl⟩
      subst hwa
      go_loopw [11, 13] (fun v11 v13 wq => ∃ t : Nat, t ≤ k ∧ v13 = .int .i64 (t : Int) ∧ v11 = .int .i64 ((N + Gl.rowN m W X Y x V t : Nat) : Int) ∧ Ext wa wq) (fun _ v13 _ => k - (intOf v13).toNat)
      case atStart => exact ⟨0, Nat.zero_le _, rfl, rfl, Ext.refl _⟩
      case round =>
        obtain ⟨t, ht, rfl, rfl, hxq⟩ := hrel
        have R0 := Lib.hid (row_on H0.out hxq)
        have R1 := Lib.hid (row_on H1.out hxq)
        have m0 := cell_at R0.out (i := 0) rfl
        have m1 := cell_at R0.out (i := 1) rfl
        have m2 := cell_at R0.out (i := 2) rfl
        have l0 := cell_at R1.out (i := 0) rfl
        have l1 := cell_at R1.out (i := 1) rfl
        have l2 := cell_at R1.out (i := 2) rfl
        have l3 := cell_at R1.out (i := 3) rfl
        by_cases hlu : t < k
        · have hluI : (t : Int) < (k : Int) := by omega
          have hS := Gl.rowN_succ m W X Y x V t
          have hRb := Gl.rowN_le m W X Y x V t
          obtain ⟨U, hU⟩ : ∃ U, x + t = U := ⟨_, rfl⟩
          have eU : (x : Int) + (t : Int) = (U : Int) := by omega
          have hUb : U ≤ 200000 := by omega
          rw [hU] at hS
          obtain ⟨D, hD⟩ : ∃ D, N + Gl.rowN m W X Y x V t = D := ⟨_, rfl⟩
          have hDb : D ≤ 5000 := by omega
          rw [hD]
          by_cases hUX : U < X
          · by_cases hVY : V < Y
            · have d1 : decide (U < X) = true := decide_eq_true (by omega)
              have d2 : decide (V < Y) = true := decide_eq_true (by omega)
              have HC := Lib.hid (HAT.out U V (by omega) (by omega) wr (HXR.out.trans hxq))
              have HXQ := Lib.hid hxq
              rw [decide_eq_true hUX, decide_eq_true hVY, Bool.true_and, Bool.true_and] at hS
              obtain ⟨px, hpx⟩ : ∃ px, m.getD (V * W + U) false = px := ⟨_, rfl⟩
              rw [hpx] at HC hS
              have HS2 : Hid (N + Gl.rowN m W X Y x V (t + 1) = D + if px = true then 1 else 0) := Lib.hid (by rw [hS, ← hD, Nat.add_assoc])
              clear hS hD hRb hU hpx hxq hUX hVY
              go_wp2_with fail
              refine HC.out.mono ?_
              rintro e w2 ⟨rfl, hx2⟩
              have HX2 := Lib.hid (HXQ.out.trans hx2)
              clear hx2 m0 m1 m2 l0 l1 l2 l3
              cases px
              · go_wp2
                go_roundw
                case rel => exact ⟨t + 1, by omega, by go_num, by rw [HS2.out]; simp, HX2.out⟩
                case measure => simp [intOf]; omega
              · go_wp2
                go_roundw
                case rel => exact ⟨t + 1, by omega, by go_num, by rw [HS2.out]; simp, HX2.out⟩
                case measure => simp [intOf]; omega
            · have d1 : decide (U < X) = true := decide_eq_true (by omega)
              have d2 : decide (V < Y) = false := decide_eq_false (by omega)
              rw [decide_eq_false hVY, Bool.and_false, Bool.false_and] at hS
              have HS2 : Hid (N + Gl.rowN m W X Y x V (t + 1) = D) := Lib.hid (by rw [hS, ← hD]; simp)
              have HXQ := Lib.hid hxq
              clear hS hD hRb hU hxq hUX hVY
              go_wp2
              go_roundw
              case rel => exact ⟨t + 1, by omega, by go_num, by rw [HS2.out], HXQ.out⟩
              case measure => simp [intOf]; omega
          · have d1 : decide (U < X) = false := decide_eq_false (by omega)
            rw [decide_eq_false hUX, Bool.false_and, Bool.false_and] at hS
            have HS2 : Hid (N + Gl.rowN m W X Y x V (t + 1) = D) := Lib.hid (by rw [hS, ← hD]; simp)
            have HXQ := Lib.hid hxq
            clear hS hD hRb hU hxq hUX
            go_wp2
            go_roundw
            case rel => exact ⟨t + 1, by omega, by go_num, by rw [HS2.out], HXQ.out⟩
            case measure => simp [intOf]; omega
        · obtain rfl : t = k := by omega
          have HE : Hid (Gl.cellN m W X Y x y t (j + 1) = N + Gl.rowN m W X Y x V t) := Lib.hid (by rw [HN1.out]; rfl)
          obtain ⟨D, hD⟩ : ∃ D, N + Gl.rowN m W X Y x V t = D := ⟨_, rfl⟩
          rw [hD] at HE ⊢
          have HX2 := Lib.hid (HXR.out.trans hxq)
          clear hD hlu hxq HN1
          go_wp2
          go_roundw
          case rel => exact ⟨j + 1, by omega, by go_num, by rw [HE.out], R0.out, R1.out, HX2.out⟩
          case measure => simp [intOf]; omega
    · obtain rfl : j = k := by omega
      have hNb := Gl.cellN_le m W X Y x y j j
      have hkk : j * j ≤ 4096 := Nat.mul_le_mul hk2 hk2
      obtain ⟨K, hK⟩ : ∃ K, j * j = K := ⟨_, rfl⟩
      have eK : (j : Int) * (j : Int) = (K : Int) := by rw [← hK]; simp
      have HC : Hid (Gl.cell m W X Y x y j = decide (K < 2 * Gl.cellN m W X Y x y j j)) := Lib.hid (by unfold Gl.cell; rw [hK])
      rw [hK] at hNb hkk
      generalize Gl.cellN m W X Y x y j j = N at *
      have e2 : (2 : Int) * (N : Int) = ((2 * N : Nat) : Int) := by omega
      obtain ⟨N2, hN2⟩ : ∃ N2, 2 * N = N2 := ⟨_, rfl⟩
      rw [hN2] at e2 HC
      have HX2 := Lib.hid hxr
      have hd : decide ((K : Int) < (N2 : Int)) = decide (K < N2) := by
        by_cases h : K < N2
        · rw [decide_eq_true h, decide_eq_true (by omega)]
        · rw [decide_eq_false h, decide_eq_false (by omega)]
      have hN2b : N2 ≤ 10000 := by omega
      obtain ⟨bt, hbt⟩ : ∃ bt, decide (K < N2) = bt := ⟨_, rfl⟩
      rw [hbt] at HC
      clear hN2 h0 h1 hxr hlt hj hd
      go_wp2
      go_ret
      exact ⟨by rw [HC.out]; rfl, HX2.out⟩
end Go.Proofs.YtamkgbodifjlaaaGreatDoor
