/-
  Chapter 48, the reference: Width and Draw of a text of the font.
  Condition: at most 20 characters, a scale up to 5.
-/
import Derived.Test.YtamkgbodifjlaaaGreatDoorGlX2
import Derived.Test.YtamkgbodifjlaaaGreatDoorGlPb
import Derived.BigRegion
namespace Go.Proofs.YtamkgbodifjlaaaGreatDoor
set_option linter.unusedVariables false
open Go.RowKit

set_option maxRecDepth 100000 in
set_option maxHeartbeats 2000000 in
theorem xwidth_any (s : ByteArray) (k : Nat) (hs : ∀ c ∈ s.data.toList, Gl.known c = true) (h0 : 0 < s.size) (h20 : s.size ≤ 20) (hk : 1 ≤ k) (hk5 : k ≤ 5) (w : World) :
    Calls Tryz.prog 50 #[.string s, .int .i64 (k : Int)] w fun e w' => e = .returned (.tuple #[.int .i64 (Gl.wid s.data.toList k : Int), .int .i64 0]) ∧ w = w' := by
  have he : s.toList.isEmpty = false := by
    rw [Lib.toList_data, List.isEmpty_eq_false_iff]
    intro h
    have := len_data s
    rw [h] at this
    simp at this
    omega
  have HR := Lib.hid (fun j (hj : j < s.size) w => (show Calls Tryz.prog 61 #[.int .u8 ((s[j].toNat : Nat) : Int)] w fun e w' => e = .returned (.string (bS (Gl.txt s[j]))) ∧ w = w' by
    have h := xrows_any s[j] w
    rw [show Gl.rowS s[j] = Gl.txt s[j] by unfold Gl.rowS; rw [hs _ (mem_at s j hj)]; rfl] at h
    exact h))
  have HE : Hid (∀ c, (bS (Gl.txt c)).toList.isEmpty = false) := Lib.hid (fun c => by
    rw [Lib.toList_data, bS_list, List.isEmpty_eq_false_iff]
    intro h
    have := Gl.txt_len c
    rw [h] at this
    cases this)
  have hw : Gl.wid s.data.toList k = (6 * s.size - 1) * k := by unfold Gl.wid; rw [len_data]
  obtain ⟨U, hU⟩ : ∃ U, 6 * s.size - 1 = U := ⟨_, rfl⟩
  have hUb : U ≤ 119 := by omega
  have hP : U * k ≤ 119 * 5 := Nat.mul_le_mul hUb hk5
  rw [hw, hU]
  obtain ⟨P, hPP⟩ : ∃ P, U * k = P := ⟨_, rfl⟩
  rw [hPP] at hP ⊢
  have e1 : (6 : Int) * (s.size : Int) - 1 = (U : Int) := by omega
  have e2 : (U : Int) * (k : Int) = (P : Int) := by rw [← hPP]; simp
  have d1 : decide ((k : Int) < 1) = false := decide_eq_false (by omega)
  have d2 : decide ((64 : Int) < (k : Int)) = false := decide_eq_false (by omega)
  have d3 : decide ((4096 : Int) < (P : Int)) = false := decide_eq_false (by omega)
  clear hs hw hPP hU
  go_enter Tryz.func50, Tryz.ntmps50
  go_wp2
  go_loop [6] (fun v6 => ∃ j : Nat, j ≤ s.size ∧ v6 = .int .i64 (j : Int)) (fun v6 => s.size - (intOf v6).toNat)
  case atStart => exact ⟨0, Nat.zero_le _, rfl⟩
  case round =>
    obtain ⟨j, hj, rfl⟩ := hrel
    by_cases hlt : j < s.size
    · have HRj := Lib.hid (HR.out j hlt)
      have hej := HE.out s[j]
      generalize bS (Gl.txt s[j]) = X at *
      go_wp2_with fail
      refine (HRj.out _).mono ?_
      rintro e w1 ⟨rfl, rfl⟩
      go_wp2
      go_round
      case rel => exact ⟨j + 1, by omega, by go_num⟩
      case measure => simp [intOf]; omega
    · obtain rfl : j = s.size := by omega
      clear hj hlt
      go_wp2
      go_ret2
      exact ⟨rfl, rfl⟩

/-- What Draw hands back. -/
def OwnsD (l : List UInt8) (k : Nat) (w : World) (e : Ending) (w' : World) : Prop :=
  ∃ b, e = .returned (.tuple #[.agg #[.int .i64 (Gl.wid l k : Int), .int .i64 ((7 * k : Nat) : Int), .slice (some ⟨b, 0, none⟩) (Gl.wid l k * (7 * k)) (Gl.wid l k * (7 * k))], .int .i64 0]) ∧ w.heap.size ≤ b ∧ w'.rowIs b 4 (Gl.wid l k * (7 * k)) (fun p => .bool ((Gl.drawn l k).getD p false)) ∧ Ext w w'
/-- The blocks of a walk over a text that is drawn. -/
def DrawR (w : World) (W H N : Nat) (f : Nat → Value) (wr : World) : Prop :=
  wr.heap[w.heap.size]? = some (.cells #[.int .i64 0, .int .i64 0, .slice none 0 0] 24 (0, 0)) ∧ wr.rowIs (w.heap.size + 1) 4 N f ∧
  wr.heap[w.heap.size + 1 + 1]? = some (.cells #[.int .i64 (W : Int), .int .i64 (H : Int), .slice (some ⟨w.heap.size + 1, 0, none⟩) N N] 24 (0, 0)) ∧ Ext w wr ∧ w.heap.size + 1 + 1 < wr.heap.size
theorem DrawR.ext {w wr wq : World} {W H N : Nat} {f : Nat → Value} (h : DrawR w W H N f wr) (hx : Ext wr wq) : DrawR w W H N f wq :=
  ⟨row_on h.1 hx, Ext.rowX h.2.1 hx, row_on h.2.2.1 hx, h.2.2.2.1.trans hx, Nat.lt_of_lt_of_le h.2.2.2.2 hx.size⟩
theorem DrawR.congr {w wr : World} {W H N : Nat} {f g : Nat → Value} (h : DrawR w W H N f wr) (hf : ∀ p, p < N → f p = g p) : DrawR w W H N g wr :=
  ⟨h.1, h.2.1.congr hf, h.2.2⟩
theorem DrawR.put {w wr : World} {W H N : Nat} {f : Nat → Value} (h : DrawR w W H N f wr) (p0 : Nat) (u : Value) : DrawR w W H N (fun p => if p = p0 then u else f p) (wr.setCell ⟨w.heap.size + 1, p0, none⟩ u).drew := by
  refine ⟨far1 (by omega) h.1, h.2.1.set p0 u, far1 (by omega) h.2.2.1, (h.2.2.2.1.setCell (p := ⟨w.heap.size + 1, p0, none⟩) (Nat.le_succ _) u).drew, ?_⟩
  have := h.2.2.2.2
  show _ < (wr.setCell _ u).heap.size
  simpa using this
set_option maxRecDepth 100000 in
set_option maxHeartbeats 4000000 in
theorem xdraw_any (s : ByteArray) (k : Nat) (hs : ∀ c ∈ s.data.toList, Gl.known c = true) (h0 : 0 < s.size) (h20 : s.size ≤ 20) (hk : 1 ≤ k) (hk5 : k ≤ 5) (w : World) :
    Calls Tryz.prog 25 #[.string s, .int .i64 (k : Int)] w (OwnsD s.data.toList k w) := by
  have HWD := Lib.hid (xwidth_any s k hs h0 h20 hk hk5)
  have HG := Lib.hid (fun j (hj : j < s.size) => xglyph_any s[j] (hs _ (mem_at s j hj)))
  have hw : Gl.wid s.data.toList k = (6 * s.size - 1) * k := by unfold Gl.wid; rw [len_data]
  have hWb : Gl.wid s.data.toList k ≤ 119 * 5 := by rw [hw]; exact Nat.mul_le_mul (by omega) hk5
  have hW0 : 1 ≤ Gl.wid s.data.toList k := by rw [hw]; exact Nat.mul_pos (by omega) hk
  have hNb : Gl.wid s.data.toList k * (7 * k) ≤ 595 * 35 := Nat.mul_le_mul hWb (by omega)
  have HWI := Lib.hid (fun i (hi : i < s.size) => show 6 * i * k + 5 * k ≤ Gl.wid s.data.toList k by rw [hw, ← Nat.add_mul]; exact Nat.mul_le_mul_right k (by omega))
  have HST := Lib.hid (Gl.dn_step s.data.toList k)
  have HRW := Lib.hid (Gl.dn_row s.data.toList k)
  have HCH := Lib.hid (Gl.dn_char s.data.toList k)
  have HPX := Lib.hid (fun i (hi : i < s.size) x y (hx : x < 5 * k) (hy : y < 7 * k) => show Gl.px s.data.toList k (6 * i * k + x) y = Gl.bitAt (Gl.code s[i]) (y / k * 5 + x / k) by
    have hk0 : 0 < k := hk
    have a1 : x / k < 5 := (Nat.div_lt_iff_lt_mul hk0).2 hx
    have a2 : y / k < 7 := (Nat.div_lt_iff_lt_mul hk0).2 hy
    have h := Gl.px_cell s.data.toList k i (y / k * 5 + x / k) (x % k) (y % k) (by omega) (Nat.mod_lt _ hk0) (Nat.mod_lt _ hk0)
    have b1 : (y / k * 5 + x / k) % 5 = x / k := by generalize x / k = q1 at *; generalize y / k = q2 at *; omega
    have b2 : (y / k * 5 + x / k) / 5 = y / k := by generalize x / k = q1 at *; generalize y / k = q2 at *; omega
    have b3 : x / k * k + x % k = x := by rw [Nat.mul_comm]; exact Nat.div_add_mod x k
    have b4 : y / k * k + y % k = y := by rw [Nat.mul_comm]; exact Nat.div_add_mod y k
    rw [b1, b2, Nat.add_assoc, b3, b4] at h
    rw [h]
    have : s.data.toList.getD i 32 = s[i] := by
      rw [List.getD_eq_getElem?_getD, List.getElem?_eq_getElem (by rw [len_data]; exact hi)]; rfl
    rw [this])
  have HEND : Hid (∀ p, p < Gl.wid s.data.toList k * (7 * k) → Gl.dn s.data.toList k s.size 0 0 p = (Gl.drawn s.data.toList k).getD p false) := Lib.hid (fun p hp => by
    have hpW : p % Gl.wid s.data.toList k < Gl.wid s.data.toList k := Nat.mod_lt _ (by omega)
    have hle : Gl.wid s.data.toList k ≤ 6 * k * s.size := by
      rw [hw, Nat.mul_right_comm]
      exact Nat.mul_le_mul_right k (by omega)
    have h1 : p % Gl.wid s.data.toList k / (6 * k) < s.data.toList.length := by
      rw [len_data]
      exact (Nat.div_lt_iff_lt_mul (by omega)).2 (by rw [Nat.mul_comm]; omega)
    have := Gl.dn_end s.data.toList k p h1
    rw [len_data] at this
    rw [this]
    unfold Gl.drawn
    rw [List.getD_eq_getElem?_getD, List.getElem?_map, List.getElem?_range hp]
    rfl)
  have HDIV : Hid (∀ p, p < Gl.wid s.data.toList k * (7 * k) → p / Gl.wid s.data.toList k < 7 * k) := Lib.hid (fun p hp => (Nat.div_lt_iff_lt_mul (by omega)).2 (by rw [Nat.mul_comm]; exact hp))
  have hS0 := Gl.dn_start s.data.toList k
  have HS0 := Lib.hid hS0
  unfold OwnsD
  generalize Gl.dn s.data.toList k = D at *
  generalize (Gl.drawn s.data.toList k) = DR at *
  generalize Gl.px s.data.toList k = PX at *
  generalize Gl.wid s.data.toList k = W at *
  obtain ⟨N, hN⟩ : ∃ N, W * (7 * k) = N := ⟨_, rfl⟩
  rw [hN] at hNb HEND HDIV ⊢
  have HN := Lib.hid hN
  have e1 : (7 : Int) * (k : Int) = ((7 * k : Nat) : Int) := by omega
  obtain ⟨W7, hW7⟩ : ∃ W7, W * 7 = W7 := ⟨_, rfl⟩
  have e2 : (W : Int) * 7 = (W7 : Int) := by omega
  have e3 : (W7 : Int) * (k : Int) = (N : Int) := by rw [← hN, ← hW7, ← Nat.mul_assoc]; simp
  obtain ⟨K7, hK7⟩ : ∃ K7, 7 * k = K7 := ⟨_, rfl⟩
  rw [hK7] at e1 HCH HDIV HPX HN ⊢
  have HK7 := Lib.hid hK7
  have hK7b : K7 ≤ 35 := by omega
  have hmk : ∀ w, (Instr.makeSlice 22 (.int .i64 (N : Int)) (.int .i64 (N : Int))).run Tryz.prog w = .ok (.slice (some ⟨w.heap.size, 0, none⟩) N N) (w.alloc (.cells (madeCells #[.bool false] N) 4)) := fun w => run_make_row' (P := Tryz.prog) 22 4 (.bool false) 1 Tryz.underlying22 (by kernel_rfl) rfl .i64 .i64 N (by omega) (by omega) w
  clear hs hw hN hW7 hK7 hS0
  go_enter Tryz.func25, Tryz.ntmps25
  go_wp2_with fail
  refine (HWD.out _).mono ?_
  rintro e w1 ⟨rfl, rfl⟩
  go_wp2
  go_loopw [9] (fun v9 wr => ∃ i : Nat, i ≤ s.size ∧ v9 = .int .i64 (i : Int) ∧ DrawR w W K7 N (fun p => .bool (D i 0 0 p)) wr) (fun v9 _ => s.size - (intOf v9).toNat)
  case atStart =>
    have hrow := World.rowIs_made (w.alloc (.cells #[.int .i64 0, .int .i64 0, .slice none 0 0] 24)) (.bool false) N 4
    rw [World.size_alloc] at hrow
    have hout := heap_alloc_new ((w.alloc (.cells #[.int .i64 0, .int .i64 0, .slice none 0 0] 24)).alloc (.cells (madeCells #[.bool false] N) 4)) (.cells #[.int .i64 (W : Int), .int .i64 (K7 : Int), .slice (some ⟨w.heap.size + 1, 0, none⟩) N N] 24)
    rw [World.size_alloc, World.size_alloc] at hout
    exact ⟨0, Nat.zero_le _, rfl, row_on (heap_alloc_new w _) (((Ext.refl _).alloc _).alloc _), (Ext.rowX hrow ((Ext.refl _).alloc _)).congr (fun p _ => by rw [HS0.out]), hout, (((Ext.refl w).alloc _).alloc _).alloc _, by simp⟩
  case round =>
    obtain ⟨i, hi, rfl, HD⟩ := hrel
    by_cases hlt : i < s.size
    · have HGi := Lib.hid (HG.out i hlt)
      have HPXi := Lib.hid (HPX.out i hlt)
      have hwi := HWI.out i hlt
      have hws := HD.2.2.2.2
      have HDD := Lib.hid HD
      clear HD
      go_wp2_with fail
      refine (HGi.out _).mono ?_
      rintro e w3 ⟨vg, rfl, howng, hx3⟩
      obtain ⟨gg, cg, rfl, hg1, hg2, hcg⟩ := howng.pix
      have hgl : gg < (w3.alloc (.cells #[.int .i64 5, .int .i64 7, .slice (some ⟨gg, 0, none⟩) 35 cg] 24)).heap.size := by simp; omega
      have HC0 := Lib.hid (hcg _ ((Ext.refl w3).alloc (.cells #[.int .i64 5, .int .i64 7, .slice (some ⟨gg, 0, none⟩) 35 cg] 24)))
      have HD0 := Lib.hid (HDD.out.ext (hx3.alloc (.cells #[.int .i64 5, .int .i64 7, .slice (some ⟨gg, 0, none⟩) 35 cg] 24)))
      have HB0 := Lib.hid (heap_alloc_new w3 (.cells #[.int .i64 5, .int .i64 7, .slice (some ⟨gg, 0, none⟩) 35 cg] 24))
      have hsz3 := hx3.size
      obtain ⟨bg, hbg⟩ : ∃ bg, w3.heap.size = bg := ⟨_, rfl⟩
      clear hcg howng hx3 HDD HGi
      go_wp2
      generalize w3.alloc (.cells #[.int .i64 5, .int .i64 7, .slice (some ⟨gg, 0, none⟩) 35 cg] 24) = Wg at HC0 HD0 HB0 hgl ⊢
      rw [hbg] at HB0 hg2 hsz3
      clear hbg
      go_loopw [12] (fun v12 wq => ∃ y : Nat, y ≤ K7 ∧ v12 = .int .i64 (y : Int) ∧ DrawR w W K7 N (fun p => .bool (D i y 0 p)) wq ∧ wq.heap[bg]? = some (.cells #[.int .i64 5, .int .i64 7, .slice (some ⟨gg, 0, none⟩) 35 cg] 24 (0, 0)) ∧ wq.heap[gg]? = Wg.heap[gg]?) (fun v12 _ => K7 - (intOf v12).toNat)
      case atStart => exact ⟨0, Nat.zero_le _, rfl, HD0.out, HB0.out, rfl⟩
      case round =>
        obtain ⟨y, hy, rfl, HDy, hby, hgy⟩ := hrel
        by_cases hly : y < K7
        · have HDD := Lib.hid HDy
          have HBB := Lib.hid hby
          have HGG := Lib.hid hgy
          clear HDy hby hgy
          go_wp2
          go_loopw [13] (fun v13 wq => ∃ x : Nat, x ≤ 5 * k ∧ v13 = .int .i64 (x : Int) ∧ DrawR w W K7 N (fun p => .bool (D i y x p)) wq ∧ wq.heap[bg]? = some (.cells #[.int .i64 5, .int .i64 7, .slice (some ⟨gg, 0, none⟩) 35 cg] 24 (0, 0)) ∧ wq.heap[gg]? = Wg.heap[gg]?) (fun v13 _ => 5 * k - (intOf v13).toNat)
          case atStart => exact ⟨0, Nat.zero_le _, rfl, HDD.out, HBB.out, HGG.out⟩
          case round =>
            obtain ⟨x, hx, rfl, HDx, hbx, hgx⟩ := hrel
            by_cases hlx : x < 5 * k
            · have hout := cell_at HDx.2.2.1 (i := 2) rfl
              have hgs := cell_at hbx (i := 2) rfl
              obtain ⟨q1, hq1⟩ : ∃ q, x / k = q := ⟨_, rfl⟩
              obtain ⟨q2, hq2⟩ : ∃ q, y / k = q := ⟨_, rfl⟩
              have hq1b : q1 < 5 := by rw [← hq1]; exact (Nat.div_lt_iff_lt_mul hk).2 hlx
              have hq2b : q2 < 7 := by rw [← hq2]; exact (Nat.div_lt_iff_lt_mul hk).2 (by have := HK7.out; omega)
              have hpx := HPXi.out x y hlx hly
              rw [hq1, hq2] at hpx
              have hJ : q2 * 5 + q1 < 35 := by omega
              have hcell : wr.cell? ⟨gg, q2 * 5 + q1, none⟩ = some (.bool (PX (6 * i * k + x) y)) := by
                rw [hpx, ← HC0.out _ hJ]
                exact World.cell?_of_block (w := Wg) (a := ⟨gg, q2 * 5 + q1, none⟩) hgx
              have HS1 := Lib.hid (fun p => HST.out i y x p hlx (show 6 * i * k + x < W by omega))
              obtain ⟨IK, hIK⟩ : ∃ IK, 6 * i * k = IK := ⟨_, rfl⟩
              obtain ⟨Z, hZ⟩ : ∃ Z, y * W = Z := ⟨_, rfl⟩
              rw [hIK] at hwi hcell HS1
              rw [hZ] at HS1
              have hIX : Z + IK + x < N := by
                have h1 : (y + 1) * W ≤ W * K7 := by rw [Nat.mul_comm W K7]; exact Nat.mul_le_mul_right W hly
                rw [Nat.add_mul, Nat.one_mul, hZ, HN.out] at h1
                omega
              have eZ : (y : Int) * (W : Int) = (Z : Int) := by rw [← hZ]; simp
              obtain ⟨I6, hI6⟩ : ∃ I6, 6 * i = I6 := ⟨_, rfl⟩
              have e6 : (6 : Int) * (i : Int) = (I6 : Int) := by omega
              have e7 : (I6 : Int) * (k : Int) = (IK : Int) := by rw [← hIK, ← hI6]; simp
              obtain ⟨A1, hA1⟩ : ∃ A1, Z + IK = A1 := ⟨_, rfl⟩
              have e8 : (Z : Int) + (IK : Int) = (A1 : Int) := by omega
              obtain ⟨IX, hIXe⟩ : ∃ IX, A1 + x = IX := ⟨_, rfl⟩
              have e9 : (A1 : Int) + (x : Int) = (IX : Int) := by omega
              obtain ⟨K5, hK5⟩ : ∃ K5, 5 * k = K5 := ⟨_, rfl⟩
              have e5 : (5 : Int) * (k : Int) = (K5 : Int) := by omega
              have d1 : (x : Int) / (k : Int) = (q1 : Int) := by rw [← hq1]; rfl
              have d2 : (y : Int) / (k : Int) = (q2 : Int) := by rw [← hq2]; rfl
              obtain ⟨R5, hR5⟩ : ∃ R5, q2 * 5 = R5 := ⟨_, rfl⟩
              have e10 : (q2 : Int) * 5 = (R5 : Int) := by omega
              obtain ⟨J, hJJ⟩ : ∃ J, R5 + q1 = J := ⟨_, rfl⟩
              have e11 : (R5 : Int) + (q1 : Int) = (J : Int) := by omega
              rw [hR5, hJJ] at hcell hJ
              rw [hA1, hIXe] at hIX
              have hZb : Z ≤ 100000 := by omega
              have hI6b : I6 ≤ 1000 := by omega
              have hIKb : IK ≤ 1000 := by omega
              have hA1b : A1 ≤ 100000 := by omega
              have hIXb : IX ≤ 100000 := by omega
              have hKne : ¬ (k : Int) = 0 := by omega
              have hK5b : x < K5 := by omega
              have HIXX : Hid (Z + (IK + x) = IX) := Lib.hid (by omega)
              have HK5 := Lib.hid hK5
              have hrc := HDx.2.1.cell hIX
              have hrf := HDx.2.1.frozen IX
              rw [hIK] at hpx
              have HDXX := Lib.hid HDx
              have HBX := Lib.hid hbx
              have HGX := Lib.hid hgx
              generalize PX (IK + x) y = bt at *
              clear hq1 hq2 hpx hIK hZ hI6 hA1 hIXe hK5 hR5 hJJ HDx hbx hgx hlx
              go_wp2
              go_region
              go_wp2
              go_roundw
              case rel =>
                refine ⟨x + 1, by have := HK5.out; omega, by go_num, (HDXX.out.put IX (.bool bt)).congr (fun p _ => ?_), far1 (by omega) HBX.out, ?_⟩
                · rw [HS1.out p, HIXX.out]
                  by_cases h : p = IX
                  · rw [if_pos h, if_pos h]
                  · rw [if_neg h, if_neg h]
                · rw [← HGX.out]
                  exact far1 (by omega) rfl
              case measure => have := HK5.out; simp [intOf]; omega
            · obtain rfl : x = 5 * k := by omega
              have HDXX := Lib.hid (HDx.congr (fun p _ => by rw [HRW.out i y p]))
              have HBX := Lib.hid hbx
              have HGX := Lib.hid hgx
              obtain ⟨K5, hK5⟩ : ∃ K5, 5 * k = K5 := ⟨_, rfl⟩
              have e5 : (5 : Int) * (k : Int) = (K5 : Int) := by omega
              rw [hK5] at hx ⊢
              clear HDx hbx hgx hlx hK5
              go_wp2
              go_roundw
              case rel => exact ⟨y + 1, by omega, by go_num, HDXX.out, HBX.out, HGX.out⟩
              case measure => simp [intOf]; omega
        · obtain rfl : y = K7 := by omega
          have HDYY := Lib.hid (HDy.congr (fun p hp => by rw [HCH.out i p (HDIV.out p hp)]))
          clear HDy hby hgy hly hy
          go_wp2
          go_roundw
          case rel => exact ⟨i + 1, by omega, by go_num, HDYY.out⟩
          case measure => simp [intOf]; omega
    · obtain rfl : i = s.size := by omega
      obtain ⟨hr0, hrow, hr2, hxr, hlw⟩ := HD
      have c0 := cell_at hr2 (i := 0) rfl
      have c1 := cell_at hr2 (i := 1) rfl
      have c2 := cell_at hr2 (i := 2) rfl
      have d0 := cell_at hr0 (i := 0) rfl
      have d1 := cell_at hr0 (i := 1) rfl
      have d2 := cell_at hr0 (i := 2) rfl
      have f0 := frz_at hr0 (i := 0)
      have f1 := frz_at hr0 (i := 1)
      have f2 := frz_at hr0 (i := 2)
      have l1 := lt_at hr0
      have Q0 := Lib.hid hr0
      have Q3 := Lib.hid (hrow.congr (fun p hp => by rw [HEND.out p hp]))
      have Q4 := Lib.hid hxr
      clear hr0 hrow hr2 hxr
      go_wp2
      refine bodyPost_ret (results_mat Tryz.results25 rfl (row3_set Q0) rfl) rfl ?_
      have hne : w.heap.size ≠ w.heap.size + 1 := by omega
      exact ⟨w.heap.size + 1, rfl, Nat.le_succ _, Q3.out.of_block (far1 hne (far1 hne (far1 hne rfl))), ((Q4.out.setCell (Nat.le_refl _) _).setCell (Nat.le_refl _) _).setCell (Nat.le_refl _) _⟩
end Go.Proofs.YtamkgbodifjlaaaGreatDoor
