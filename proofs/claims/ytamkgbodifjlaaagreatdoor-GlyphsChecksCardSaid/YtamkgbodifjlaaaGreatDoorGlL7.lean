/-
  Chapter 48, the law GlyphsRobust.
  No condition.
-/
import Derived.Test.YtamkgbodifjlaaaGreatDoorGlL1
import Derived.Test.YtamkgbodifjlaaaGreatDoorGlXa
import Derived.Test.YtamkgbodifjlaaaGreatDoorGlZa
import Derived.Test.YtamkgbodifjlaaaGreatDoorGlL2
import Derived.Test.YtamkgbodifjlaaaGreatDoorInts2
import Derived.BigQuiet
import Derived.BigRegion
namespace Go.Proofs.YtamkgbodifjlaaaGreatDoor
set_option linter.unusedVariables false
open Go.RowKit Go.ChangeShapes Go.WideShapes

def encW (n : Int) : Value := .int .u16 n
theorem words_sl {w : World} {a : Option Addr} {len cap : Nat} {zs : List Int}
    (h : (a = none ∧ len = 0 ∧ cap = 0 ∧ zs = []) ∨ ∃ x, a = some x ∧ len ≤ cap ∧ cap ≤ maxLen ∧ zs.length = cap ∧ (∀ i, i < zs.length → w.cell? (x.add i) = some (.int .u16 (zs.getD i 0))) ∧ ∀ n ∈ zs, (Lit.int .u16 n).wf = true) :
    ∃ us : List Nat, us.length = len ∧ Sl w (.slice a len cap) (us.map fun u : Nat => encW (u : Int)) ∧ ∀ u ∈ us, u ≤ 65535 := by
  rcases h with ⟨rfl, rfl, rfl, rfl⟩ | ⟨x, rfl, hlc, hcm, hz, hc, hwf⟩
  · exact ⟨[], rfl, .inl ⟨rfl, none, 0, rfl⟩, fun u h => by cases h⟩
  · have hb : ∀ n ∈ zs, 0 ≤ n ∧ n ≤ 65535 := fun n hn => bounds_u16 (hwf n hn)
    refine ⟨(zs.take len).map Int.toNat, by rw [List.length_map, List.length_take]; omega, ?_, fun u hu => ?_⟩
    · by_cases h0 : len = 0
      · subst h0
        exact .inl ⟨by simp, some x, cap, rfl⟩
      · have hl : (((zs.take len).map Int.toNat).map fun u : Nat => encW (u : Int)).length = len := by rw [List.length_map, List.length_map, List.length_take]; omega
        obtain ⟨b, off, path⟩ := x
        have hp : path = none := by
          have := hc 0 (by omega)
          cases path with
          | none => rfl
          | some q => exact absurd this (by unfold Addr.add World.cell?; split <;> simp)
        subst hp
        refine .inr ⟨b, off, cap, by rw [hl], ?_, fun i hi => ?_⟩
        · have := hc 0 (by omega)
          rw [add_off] at this
          rcases Nat.lt_or_ge b w.heap.size with h | h
          · exact h
          · simp [World.cell?, Array.getElem?_eq_none h] at this
        · rw [hl] at hi
          have h1 := hc i (by omega)
          rw [add_off] at h1
          have h2 : zs[i]? = some (zs.getD i 0) := by rw [List.getD_eq_getElem?_getD, List.getElem?_eq_getElem (show i < zs.length by omega)]; rfl
          have h3 := hb _ (List.mem_of_getElem? h2)
          rw [h1, List.getElem?_map, List.getElem?_map, List.getElem?_take, if_pos hi, h2]
          simp only [Option.map_some, encW]
          rw [show ((zs.getD i 0).toNat : Int) = zs.getD i 0 by omega]
    · obtain ⟨n, hn, rfl⟩ := List.mem_map.1 hu
      have := hb n (List.mem_of_mem_take hn)
      omega
theorem Gl.textOf_pix {l : List UInt8} (hc : ∀ c ∈ l, c ∈ Gl.chars) (f : Nat → Nat) : Gl.textOf ((List.range l.length).map fun i => (f i, Gl.ranked (Gl.pix (l.getD i 32)))) = l := by
  have hhd : ∀ i, i < l.length → (Gl.ranked (Gl.pix (l.getD i 32))).headD (0, 0) = (l.getD i 32, 0) := fun i hi => by
    obtain ⟨r, hr⟩ := Gl.ranked_pix (l.getD i 32) (hc _ (Gl.getD_mem hi))
    rw [hr]; rfl
  unfold Gl.textOf
  rw [List.map_map]
  refine List.ext_getElem? fun i => ?_
  rw [List.getElem?_map]
  by_cases hi : i < l.length
  · rw [List.getElem?_range hi, List.getElem?_eq_getElem hi, Option.map_some]
    simp only [Function.comp]
    rw [hhd i hi, List.getD_eq_getElem?_getD, List.getElem?_eq_getElem hi]
    rfl
  · rw [List.getElem?_eq_none (by simp; simpa using hi), List.getElem?_eq_none (by omega)]; rfl
theorem slk_row {w : World} {b n : Nat} {m : List Bool} (hn : m.length = n) (h : w.rowIs b 4 n (fun p => .bool (m.getD p false))) : SlK w (.slice (some ⟨b, 0, none⟩) n n) (m.map encT) := by
  refine (SlK.row h).congr ?_
  refine List.ext_getElem? fun i => ?_
  rw [List.getElem?_map, List.getElem?_map]
  by_cases hi : i < n
  · rw [List.getElem?_range hi, List.getElem?_eq_getElem (show i < m.length by omega), Option.map_some, Option.map_some, List.getD_eq_getElem?_getD, List.getElem?_eq_getElem (show i < m.length by omega)]
    rfl
  · rw [List.getElem?_eq_none (by simp; omega), List.getElem?_eq_none (by omega)]; rfl
/-- The blocks of a walk over a bitmap with noise. -/
def NoiseR (s : List UInt8) (k W H N b bm B : Nat) (vu : Value) (w wr : World) : Prop :=
  ∃ (m : List Bool) (us : List Nat), Gl.Noisy s k m us ∧ wr.heap[bm]? = some (.cells #[.int .i64 (W : Int), .int .i64 (H : Int), .slice (some ⟨b, 0, none⟩) N N] 24 (0, 0)) ∧ wr.rowIs b 4 N (fun p => .bool (m.getD p false)) ∧
    KOwn 3 1 encI1 wr B vu (us.map fun u : Nat => (u : Int)) ∧ Ext w wr
set_option maxRecDepth 100000 in
set_option maxHeartbeats 8000000 in
theorem law_robust (s : ByteArray) (k0 : Int) (a : Option Addr) (len cap : Nat) (zs : List Nat) (w : World) (hs : s.size ≤ maxLen) (hk0 : 0 ≤ k0) (hk1 : k0 ≤ 255) (hz : Sl w (.slice a len cap) (zs.map fun u : Nat => encW (u : Int))) (hzl : zs.length = len) (hzb : ∀ u ∈ zs, u ≤ 65535) (hlen : len ≤ maxLen) :
    Calls Tryz.prog 7 #[.string s, .int .u8 k0, .slice a len cap] w fun e w' => e = .returned (.bool true) ∧ Ext w w' := by
  obtain ⟨m, rfl⟩ : ∃ m : Nat, k0 = m := ⟨k0.toNat, by omega⟩
  obtain ⟨k4, hk4⟩ : ∃ k4, m % 4 = k4 := ⟨_, rfl⟩
  have ek4 : (m : Int) % 4 = (k4 : Int) := by omega
  obtain ⟨k, hk⟩ : ∃ k, 2 + k4 = k := ⟨_, rfl⟩
  have ek : 2 + (k4 : Int) = (k : Int) := by omega
  have hk2 : 2 ≤ k ∧ k ≤ 5 := by omega
  have HDR := Lib.hid (fun w' => drawable_any s w' hs)
  have HEX := Lib.hid example_any
  have hsz9 : s.size ≤ 9223372036854775807 := by unfold maxLen at hs; omega
  have hlen9 : len ≤ 9223372036854775807 := by unfold maxLen at hlen; omega
  have hk4b : k4 ≤ 3 := by omega
  clear hk hk4 hlen
  cases hd : Gl.drawable s.data.toList with
  | false =>
    rw [hd] at HDR
    clear hd hs hz hzl hzb
    go_enter Tryz.func7, Tryz.ntmps7
    go_wp2_with fail
    refine (HDR.out _).mono ?_
    rintro e w1 ⟨rfl, hx1⟩
    go_wp2_with fail
    refine (HEX.out _).mono ?_
    rintro e w2 ⟨rfl, hx2⟩
    go_wp2
    go_ret
    exact ⟨rfl, hx1.trans hx2⟩
  | true =>
    rw [hd] at HDR
    by_cases hbig : 2000 < len
    · have hb : decide ((2000 : Int) < (len : Int)) = true := decide_eq_true (by omega)
      clear hd hs hz hzl hzb
      go_enter Tryz.func7, Tryz.ntmps7
      go_wp2_with fail
      refine (HDR.out _).mono ?_
      rintro e w1 ⟨rfl, hx1⟩
      go_wp2_with fail
      refine (HEX.out _).mono ?_
      rintro e w2 ⟨rfl, hx2⟩
      go_wp2
      go_ret
      exact ⟨rfl, hx1.trans hx2⟩
    have hb : decide ((2000 : Int) < (len : Int)) = false := decide_eq_false (by omega)
    obtain ⟨hl0, hl20, _, _, hall, _⟩ := Gl.drawable_parts hd
    rw [len_data] at hl0 hl20
    have hkn : ∀ c ∈ s.data.toList, Gl.known c = true := fun c hc => by rw [Gl.known_mem]; exact decide_eq_true (hall c hc)
    have HD := Lib.hid (fun w' => draw_any s k hkn hl0 hl20 (by omega) hk2.2 w')
    have hwd : Gl.wid s.data.toList k = (6 * s.size - 1) * k := by unfold Gl.wid; rw [len_data]
    have hW1 : 1 ≤ Gl.wid s.data.toList k := by rw [hwd]; exact Nat.mul_pos (by omega) (by omega)
    have hW2 : Gl.wid s.data.toList k ≤ 119 * 5 := by rw [hwd]; exact Nat.mul_le_mul (by omega) hk2.2
    have HTX : Hid (∀ (m : List Bool) us, Gl.Noisy s.data.toList k m us → m.length = Gl.wid s.data.toList k * (7 * k) ∧ Gl.textOf (Gl.read m (Gl.wid s.data.toList k) 0 0 (Gl.wid s.data.toList k) (7 * k) k) = s.data.toList) := Lib.hid (fun m us h => ⟨h.len, by rw [Gl.read_noisy h (by omega) (by rw [len_data]; exact hl0)]; exact Gl.textOf_pix hall _⟩)
    have HST := Lib.hid (Gl.Noisy.start s.data.toList k (by omega))
    have HUL := Lib.hid (fun (m : List Bool) us (h : Gl.Noisy s.data.toList k m us) => h.ulen)
    have HSP := Lib.hid (fun (m : List Bool) us (h : Gl.Noisy s.data.toList k m us) p hp hc => h.step (show 0 < k by omega) (p := p) hp hc)
    have hval : Gl.valid (Gl.wid s.data.toList k : Int) ((7 * k : Nat) : Int) (Gl.wid s.data.toList k * (7 * k)) = true := by
      unfold Gl.valid Gl.poss
      have e2 : Gl.wid s.data.toList k * (7 * k) ≤ 595 * 35 := Nat.mul_le_mul hW2 (by omega)
      have e : ((Gl.wid s.data.toList k * (7 * k) : Nat) : Int) = (Gl.wid s.data.toList k : Int) * ((7 * k : Nat) : Int) := by simp
      simp only [Bool.and_eq_true, decide_eq_true_eq]
      rw [← e]
      omega
    have hins : Gl.ins (Gl.wid s.data.toList k : Int) ((7 * k : Nat) : Int) ((0 : Nat) : Int) ((0 : Nat) : Int) (Gl.wid s.data.toList k : Int) ((7 * k : Nat) : Int) = true := by
      unfold Gl.ins
      simp only [Bool.and_eq_true, decide_eq_true_eq]
      omega
    have HRE := Lib.hid (fun v (m : List Bool) w' (hm : m.length = Gl.wid s.data.toList k * (7 * k)) (h : SlK w' v (m.map encT)) => read_any v m (Gl.wid s.data.toList k) (7 * k) 0 0 (Gl.wid s.data.toList k) (7 * k) k w' h hm (by rw [hm]; exact hval) hins (by omega) (by omega))
    simp only [len_data] at HSP HST HUL
    obtain ⟨q, hq⟩ : ∃ q, 6 * s.size - 1 = q := ⟨_, rfl⟩
    obtain ⟨wd, hwd6⟩ : ∃ wd, 6 * s.size = wd := ⟨_, rfl⟩
    rw [hq] at hwd
    rw [hwd6] at HSP HST HUL
    have hWdiv : Gl.wid s.data.toList k / k = q := by rw [hwd]; exact Nat.mul_div_cancel _ (by omega)
    obtain ⟨W0, hW0⟩ : ∃ W0, Gl.wid s.data.toList k = W0 := ⟨_, rfl⟩
    obtain ⟨H0, hH0⟩ : ∃ H0, 7 * k = H0 := ⟨_, rfl⟩
    rw [hW0] at HD HTX HSP HRE hW1 hW2 hwd hWdiv
    rw [hH0] at HD HTX HSP HRE
    have hN1 : 1 ≤ W0 * H0 := Nat.mul_pos hW1 (by omega)
    have hN2 : W0 * H0 ≤ 595 * 35 := Nat.mul_le_mul hW2 (by omega)
    obtain ⟨N, hN⟩ : ∃ N, W0 * H0 = N := ⟨_, rfl⟩
    rw [hN] at HD HTX HSP HRE hN1 hN2
    have e1 : (W0 : Int) / (k : Int) = (q : Int) := by rw [← hWdiv]; rfl
    have e2 : (q : Int) + 1 = (wd : Int) := by omega
    obtain ⟨U, hU⟩ : ∃ U, wd * 7 = U := ⟨_, rfl⟩
    have e3 : (wd : Int) * 7 = (U : Int) := by omega
    rw [hU] at HST HUL
    have hUb : U ≤ 840 := by omega
    have hU1 : 1 ≤ U := by omega
    have hwdb : wd ≤ 120 ∧ 1 ≤ wd := by omega
    have hqb : q ≤ 120 := by omega
    have hkk : k * k ≤ 25 := Nat.mul_le_mul hk2.2 hk2.2
    obtain ⟨K2, hK2⟩ : ∃ K2, k * k = K2 := ⟨_, rfl⟩
    have eK : (k : Int) * (k : Int) = (K2 : Int) := by rw [← hK2]; simp
    rw [hK2] at HSP hkk
    have HK2 := Lib.hid (show ∀ m us, Gl.Noisy s.data.toList k m us → ∀ c, 2 * us.getD c 0 < K2 from fun m us h c => by rw [← hK2]; exact h.half c)
    have HZ := Lib.hid hz
    have HZL := Lib.hid hzl
    have HZB := Lib.hid hzb
    have HBS : Hid (bS s.data.toList = s) := Lib.hid (mk_toList s)
    have HCB : Hid (∀ p, p < N → p / W0 / k * wd + p % W0 / k < U) := Lib.hid (fun p hp => by
      have g1 : p / W0 < 7 * k := (Nat.div_lt_iff_lt_mul (by omega)).2 (by rw [Nat.mul_comm, hH0, hN]; exact hp)
      have g2 : p % W0 < q * k := by rw [← hwd]; exact Nat.mod_lt _ (by omega)
      have g3 : p / W0 / k < 7 := (Nat.div_lt_iff_lt_mul (by omega)).2 g1
      have g4 : p % W0 / k < q := (Nat.div_lt_iff_lt_mul (by omega)).2 g2
      have : p / W0 / k * wd ≤ 6 * wd := Nat.mul_le_mul_right _ (by omega)
      omega)
    clear hd hs hall hkn hwd hW0 hH0 hval hins hq hwd6 hWdiv hN hU hK2 hz hzl hzb hbig hl0 hl20
    go_enter Tryz.func7, Tryz.ntmps7
    go_wp2_with fail
    refine (HDR.out _).mono ?_
    rintro e w0 ⟨rfl, hx0⟩
    go_wp2_with fail
    refine (HD.out _).mono ?_
    rintro e w1 ⟨b, rfl, hbw, hrow, hx1⟩
    have hbl : b < w1.heap.size := by
      obtain ⟨c, h1, _⟩ := hrow
      exact lt_at h1
    have HM1 := Lib.hid (heap_alloc_new w1 (.cells #[.int .i64 (W0 : Int), .int .i64 (H0 : Int), .slice (some ⟨b, 0, none⟩) N N] 24))
    have HR1 := Lib.hid (Ext.rowX hrow ((Ext.refl w1).alloc (.cells #[.int .i64 (W0 : Int), .int .i64 (H0 : Int), .slice (some ⟨b, 0, none⟩) N N] 24)))
    have HX1 := Lib.hid (hx0.trans hx1)
    have hbw0 : w.heap.size ≤ b := Nat.le_trans hx0.size hbw
    obtain ⟨bm, hbm⟩ : ∃ bm, w1.heap.size = bm := ⟨_, rfl⟩
    rw [hbm] at HM1 hbl
    have HBM := Lib.hid hbm
    have m0 := cell_at HM1.out (i := 0) rfl
    clear hx0 hx1 hrow HD HDR hbw
    go_wp2
    go_loopw [11, 12] (fun v11 v12 wr => ∃ i : Nat, i ≤ U ∧ v12 = .int .i64 (i : Int) ∧ KOwn 3 1 encI1 wr (bm + 1) v11 ((List.replicate i 0).map fun u : Nat => (u : Int)) ∧ Ext (w1.alloc (.cells #[.int .i64 (W0 : Int), .int .i64 (H0 : Int), .slice (some ⟨b, 0, none⟩) N N] 24)) wr) (fun _ v12 _ => U - (intOf v12).toNat)
    case atStart => exact ⟨0, Nat.zero_le _, rfl, KOwn.nil _ _ _ _ _, Ext.refl _⟩
    case round =>
      obtain ⟨i, hi, rfl, hown, hxr⟩ := hrel
      by_cases hlt : i < U
      · have hltI : (i : Int) < (U : Int) := by omega
        have hln : ((List.replicate i 0).map fun u : Nat => (u : Int)).length = i := by simp
        have hszr := hxr.size
        rw [World.size_alloc, HBM.out] at hszr
        have HS : Hid ((List.replicate (i + 1) 0).map (fun u : Nat => (u : Int)) = (List.replicate i 0).map (fun u : Nat => (u : Int)) ++ [(0 : Int)]) := Lib.hid (by rw [List.replicate_succ', List.map_append]; rfl)
        generalize (List.replicate i 0).map (fun u : Nat => (u : Int)) = got at *
        go_wp2_with (at_builtin; refine append_k rfl _ _ 57 3 (.int .i64 0) 8 rfl Tryz.underlying57 info_int1 rfl (by decide) (by decide) encI1_len encI1_one (bm + 1) _ got rfl (hown.ext ((Ext.refl _).alloc _)) _ (0 : Int) rfl ?c1 ?c2 ?c3 ?_)
        case c1 =>
          intro j r hj
          match j with
          | 0 => simp only [encI1, List.getElem?_cons_zero, Option.some.injEq] at hj; subst hj; simp [go_sem, encI]
          | j + 1 => simp [encI1] at hj
        case c2 => omega
        case c3 => (try simp); omega
        intro v' w5 hown5 hg5
        have hx5 := (hxr.alloc _).ofGrown hg5 (fun j hj => by have := hown.low j hj; rw [World.size_alloc, HBM.out]; exact this)
        clear hown hg5 hxr hszr
        go_wp2
        go_roundw
        case rel => exact ⟨i + 1, by omega, by go_num, by rw [HS.out]; exact hown5, hx5⟩
        case measure => simp [intOf]; omega
      · obtain rfl : i = U := by omega
        have hlU : ((List.replicate i 0).map fun u : Nat => (u : Int)).length = i := by simp
        rcases hown.form with ⟨h0, _⟩ | ⟨g, cg, rfl, hg1, hg2⟩
        · rw [h0] at hlU; simp at hlU; omega
        rw [hlU] at hown ⊢
        have HOWN := Lib.hid hown
        have hxw : Ext w wr := (HX1.out.alloc _).trans hxr
        have HXW := Lib.hid hxw
        have HMr := Lib.hid (row_on HM1.out hxr)
        have HRr := Lib.hid (Ext.rowX HR1.out hxr)
        have hgm : bm ≠ g := by omega
        have hgb : b ≠ g := by omega
        clear hown hxr hxw hlU hi hlt m0 HM1 HR1
        go_wp2
        go_loopw [13] (fun v13 wq => ∃ j : Nat, j ≤ len ∧ v13 = .int .i64 (j : Int) ∧ NoiseR s.data.toList k W0 H0 N b bm (bm + 1) (.slice (some ⟨g, 0, none⟩) i cg) w wq) (fun v13 _ => len - (intOf v13).toNat)
        case atStart => exact ⟨0, Nat.zero_le _, rfl, _, _, HST.out, HMr.out, HRr.out, HOWN.out, HXW.out⟩
        case round =>
          obtain ⟨j, hj, rfl, mm, us, hN, hM, hR, hown, hxr⟩ := hrel
          have m0 := cell_at hM (i := 0) rfl
          have m1 := cell_at hM (i := 1) rfl
          have m2 := cell_at hM (i := 2) rfl
          by_cases hlt : j < len
          · have hltI : (j : Int) < (len : Int) := by omega
            obtain ⟨z, hzi⟩ : ∃ z, zs[j]? = some z := ⟨_, List.getElem?_eq_getElem (by rw [HZL.out]; exact hlt)⟩
            have hzb := HZB.out z (List.mem_of_getElem? hzi)
            obtain ⟨bz, oz, rfl, _, hz1⟩ := (HZ.out.ext hxr).at_ (k := j) (by rw [List.length_map, HZL.out]; exact hlt)
            have z1 : wr.cell? ⟨bz, oz + j, none⟩ = some (.int .u16 (z : Int)) := by
              rw [List.getElem_map, (List.getElem?_eq_some_iff.1 hzi).2] at hz1
              exact hz1
            obtain ⟨p, hp⟩ : ∃ p, z % N = p := ⟨_, rfl⟩
            have ez : (z : Int) % (N : Int) = (p : Int) := by rw [← hp]; rfl
            have hpN : p < N := by rw [← hp]; exact Nat.mod_lt _ (by omega)
            have hcb := HCB.out p hpN
            have hsp := HSP.out mm us hN p hpN
            obtain ⟨a1, ha1⟩ : ∃ a1, p / W0 = a1 := ⟨_, rfl⟩
            obtain ⟨a4, ha4⟩ : ∃ a4, p % W0 = a4 := ⟨_, rfl⟩
            rw [ha1, ha4] at hcb hsp
            obtain ⟨a2, ha2⟩ : ∃ a2, a1 / k = a2 := ⟨_, rfl⟩
            obtain ⟨a5, ha5⟩ : ∃ a5, a4 / k = a5 := ⟨_, rfl⟩
            rw [ha2, ha5] at hcb hsp
            obtain ⟨a3, ha3⟩ : ∃ a3, a2 * wd = a3 := ⟨_, rfl⟩
            rw [ha3] at hcb hsp
            obtain ⟨cc, hcc⟩ : ∃ cc, a3 + a5 = cc := ⟨_, rfl⟩
            rw [hcc] at hcb hsp
            have f1 : (p : Int) / (W0 : Int) = (a1 : Int) := by rw [← ha1]; rfl
            have f2 : (a1 : Int) / (k : Int) = (a2 : Int) := by rw [← ha2]; rfl
            have f3 : (a2 : Int) * (wd : Int) = (a3 : Int) := by rw [← ha3]; simp
            have f4 : (p : Int) % (W0 : Int) = (a4 : Int) := by rw [← ha4]; rfl
            have f5 : (a4 : Int) / (k : Int) = (a5 : Int) := by rw [← ha5]; rfl
            have f6 : (a3 : Int) + (a5 : Int) = (cc : Int) := by omega
            have hub := hN.half cc
            have hul := HUL.out mm us hN
            obtain ⟨u, hu⟩ : ∃ u, us[cc]? = some u := ⟨_, List.getElem?_eq_getElem (by rw [hul]; exact hcb)⟩
            have hud : us.getD cc 0 = u := by rw [List.getD_eq_getElem?_getD, hu]; rfl
            rw [hud] at hub hsp
            have huI : (us.map fun u : Nat => (u : Int))[cc]? = some (u : Int) := by rw [List.getElem?_map, hu]; rfl
            obtain ⟨b3, o3, he3, _, hcl⟩ := (hown.sl encI1_len).at_ huI
            simp only [Option.some.injEq, Addr.mk.injEq, and_true] at he3
            obtain ⟨rfl, rfl⟩ := he3
            have k0 : wr.cell? ⟨g, cc, none⟩ = some (.int .i64 (u : Int)) := by have := hcl 0 (by omega); rw [Nat.zero_add, Nat.mul_one, Nat.add_zero] at this; exact this
            have kf : wr.frozen? ⟨g, cc, none⟩ = false := by
              have hh := hown
              unfold KOwn at hh
              rw [List.length_map, hul] at hh
              exact World.ownsRow.frozenAt hh cc
            have kl := lt_at hM
            obtain ⟨u1, hu1⟩ : ∃ u1, u + 1 = u1 := ⟨_, rfl⟩
            obtain ⟨u2, hu2⟩ : ∃ u2, 2 * u1 = u2 := ⟨_, rfl⟩
            have g1 : (u : Int) + 1 = (u1 : Int) := by omega
            have g2 : (2 : Int) * (u1 : Int) = (u2 : Int) := by omega
            rw [hu1, hu2] at hsp
            have hccI : (cc : Int) < (i : Int) := by omega
            have hub2 : u ≤ 100 := by have := HK2.out mm us hN cc; rw [hud] at this; omega
            have ha3b : a3 ≤ 1000 := by omega
            have ha5b : a5 ≤ 1000 := by omega
            have hpb : p ≤ 20825 := by omega
            have ha1b : a1 ≤ 20825 := by rw [← ha1]; exact Nat.le_trans (Nat.div_le_self _ _) hpb
            have ha2b : a2 ≤ 20825 := by rw [← ha2]; exact Nat.le_trans (Nat.div_le_self _ _) ha1b
            have ha4b : a4 ≤ 20825 := by rw [← ha4]; exact Nat.le_trans (Nat.mod_le _ _) hpb
            have rc := hR.cell hpN
            have rf := hR.frozen p
            have HN := Lib.hid hN
            have HM := Lib.hid hM
            have HR := Lib.hid hR
            have HO := Lib.hid hown
            have HX := Lib.hid hxr
            have HHU := Lib.hid huI
            have HSP1 := Lib.hid hsp
            have HU1 := Lib.hid hu1
            have hpNI : (p : Int) < (N : Int) := by omega
            obtain ⟨bt, hbt⟩ : ∃ bt, mm.getD p false = bt := ⟨_, rfl⟩
            rw [hbt] at rc
            have HBT := Lib.hid hbt
            clear hN hM hR hown hxr hz1 hzi hp ha1 ha2 ha3 ha4 ha5 hcc hsp hcl huI hud hu1 hu2 hub hu hbt
            go_wp2
            go_quiet (fail)
            go_wp2
            go_quiet (fail)
            by_cases hcond : u2 < K2
            · have d : decide ((u2 : Int) < (K2 : Int)) = true := decide_eq_true (by omega)
              go_wp2
              go_region
              go_wp2
              go_roundw
              case rel =>
                have hsp := HSP1.out hcond
                rw [HBT.out] at hsp
                generalize hWd : wr.drewN _ = Wd
                have hxd : Ext wr Wd := by rw [← hWd]; exact (Ext.refl _).drewN _
                have hln := HN.out.len
                obtain ⟨s1, _⟩ := KOwn.stored encI1_len (HO.out.ext hxd) HHU.out (show 0 < 1 by omega) (.int .i64 (u1 : Int)) (y := (u1 : Int)) rfl
                rw [Nat.mul_one, Nat.add_zero] at s1
                refine ⟨j + 1, hlt, by go_num, _, _, hsp, far1 (by omega) (far1 (by omega) (row_on HM.out hxd)), ?_, ?_, (((HX.out.trans hxd).setCell (p := ⟨g, cc, none⟩) (by show w.heap.size ≤ g; omega) _).setCell (p := ⟨b, p, none⟩) hbw0 _).drew⟩
                · refine (((Ext.rowX HR.out hxd).of_block (far1 (show g ≠ b by omega) rfl)).set p (.bool !bt)).congr fun q hq => ?_
                  rw [Gl.set_at _ _ _ _ _ (by rw [(HTX.out mm us HN.out).1]; exact hpN)]
                  split <;> rfl
                · rw [List.map_set]
                  exact (KOwn.setCell (a := ⟨b, p, none⟩) s1 (by show b < bm + 1; omega) _).ext (Ext.refl _).drew
              case measure => simp [intOf]; omega
            · have d : decide ((u2 : Int) < (K2 : Int)) = false := decide_eq_false (by omega)
              go_wp2
              go_roundw
              case rel => exact ⟨j + 1, hlt, by go_num, mm, us, HN.out, HM.out, HR.out, HO.out, HX.out.drewN _⟩
              case measure => simp [intOf]; omega
          · obtain rfl : j = len := by omega
            obtain ⟨hml1, hml2⟩ := HTX.out mm us hN
            have HRD : Hid (Calls Tryz.prog 21 #[.agg #[.int .i64 (W0 : Int), .int .i64 (H0 : Int), .slice (some ⟨b, 0, none⟩) N N], .agg #[.int .i64 0, .int .i64 0, .int .i64 (W0 : Int), .int .i64 (H0 : Int)], .int .i64 (k : Int)] wr fun e w' => ∃ a n c, e = .returned (.tuple #[.agg #[.int .i64 0, .int .i64 0, .int .i64 (W0 : Int), .int .i64 (H0 : Int), .string s, .slice a n c], .int .i64 0]) ∧ Ext wr w') := Lib.hid ((HRE.out (.slice (some ⟨b, 0, none⟩) N N) mm wr hml1 (slk_row hml1 hR)).mono fun e w' ⟨vg, he, ⟨gs, hk, _⟩, hx⟩ => by
              obtain ⟨a, c, rfl⟩ := hk.form
              rw [hml2, HBS.out] at he
              exact ⟨a, _, c, he, hx⟩)
            have HX := Lib.hid hxr
            clear hN hM hR hown hxr hlt hj hml1 hml2
            go_wp2_with fail
            refine HRD.out.mono ?_
            rintro e w3 ⟨a3, n3, c3, rfl, hx3⟩
            have HX3 := Lib.hid (HX.out.trans hx3)
            clear hx3 m0 m1 m2
            go_wp2_with fail
            refine (HEX.out _).mono ?_
            rintro e w4 ⟨rfl, hx4⟩
            have HX4 := Lib.hid ((HX3.out.alloc _).trans hx4)
            clear hx4
            go_wp2
            go_ret
            exact ⟨rfl, HX4.out⟩
theorem law_robust' (s : ByteArray) (k0 : Int) (a : Option Addr) (len cap : Nat) (zs : List Int) (w : World) (hs : s.size ≤ maxLen) (hk0 : 0 ≤ k0) (hk1 : k0 ≤ 255)
    (hz : (a = none ∧ len = 0 ∧ cap = 0 ∧ zs = []) ∨ ∃ x, a = some x ∧ len ≤ cap ∧ cap ≤ maxLen ∧ zs.length = cap ∧ (∀ i, i < zs.length → w.cell? (x.add i) = some (.int .u16 (zs.getD i 0))) ∧ ∀ n ∈ zs, (Lit.int .u16 n).wf = true) :
    Calls Tryz.prog 7 #[.string s, .int .u8 k0, .slice a len cap] w fun e w' => e = .returned (.bool true) ∧ Ext w w' := by
  obtain ⟨us, h1, h2, h3⟩ := words_sl hz
  have hlen : len ≤ maxLen := by
    rcases hz with ⟨_, h, _⟩ | ⟨_, _, h, h', _⟩
    · rw [h]; exact Nat.zero_le _
    · omega
  exact law_robust s k0 a len cap us w hs hk0 hk1 h2 h1 h3 hlen
end Go.Proofs.YtamkgbodifjlaaaGreatDoor
