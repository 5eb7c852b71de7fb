/-
  Chapter 48, the program: slices.Index at a row of bools; Lines.
  No condition.
-/
import Derived.Test.YtamkgbodifjlaaaGreatDoorGlW7
import Derived.Test.YtamkgbodifjlaaaGreatDoorGlPa
import Derived.BigRegion
namespace Go.Proofs.YtamkgbodifjlaaaGreatDoor
set_option linter.unusedVariables false
open Go.RowKit

set_option maxRecDepth 100000 in
set_option maxHeartbeats 1000000 in
theorem index_none (v : Value) (r : List Bool) (w : World) (hv : SlK w v (r.map encT)) (h : ∀ i, i < r.length → r.getD i false = false) (hr : r.length ≤ 1000000) :
    Calls Tryz.prog 32 #[v, .bool true] w fun e w' => e = .returned (.int .i64 (-1)) ∧ w = w' := by
  have HH := Lib.hid h
  have HV := Lib.hid (fun h0 => hv.px h0)
  obtain ⟨_, a, c, rfl, _⟩ := hv
  rw [List.length_map] at HV ⊢
  clear h
  go_enter Tryz.func32, Tryz.ntmps32
  go_wp2
  go_loop [8] (fun v8 => ∃ k : Nat, k ≤ r.length ∧ v8 = .int .i64 (k : Int)) (fun v8 => r.length - (intOf v8).toNat)
  case atStart => exact ⟨0, Nat.zero_le _, rfl⟩
  case round =>
    obtain ⟨k, hk, rfl⟩ := hrel
    by_cases hlt : k < r.length
    · obtain ⟨b, off, c2, he, _, _, hpx⟩ := HV.out (by omega)
      injection he with he1 he2 he3
      subst he1 he3
      have hp := hpx w (Ext.refl w) k hlt
      rw [HH.out k hlt] at hp
      clear hpx
      go_wp2
      go_round
      case rel => exact ⟨k + 1, by omega, by go_num⟩
      case measure => simp [intOf]; omega
    · obtain rfl : k = r.length := by omega
      clear hk hlt
      go_wp2
      go_ret
      exact ⟨rfl, rfl⟩
set_option maxRecDepth 100000 in
set_option maxHeartbeats 1000000 in
theorem index_at (v : Value) (r : List Bool) (f : Nat) (w : World) (hv : SlK w v (r.map encT)) (h : ∀ i, i < f → r.getD i false = false) (hf : r.getD f false = true) (hfl : f < r.length) (hr : r.length ≤ 1000000) :
    Calls Tryz.prog 32 #[v, .bool true] w fun e w' => e = .returned (.int .i64 (f : Int)) ∧ w = w' := by
  have HH := Lib.hid h
  have HF := Lib.hid hf
  obtain ⟨b, off, c, rfl, _, _, hpx⟩ := hv.px (by omega)
  have HPX := Lib.hid (hpx w (Ext.refl w))
  clear h hf hpx hv
  go_enter Tryz.func32, Tryz.ntmps32
  go_wp2
  go_loop [8] (fun v8 => ∃ k : Nat, k ≤ f ∧ v8 = .int .i64 (k : Int)) (fun v8 => r.length - (intOf v8).toNat)
  case atStart => exact ⟨0, Nat.zero_le _, rfl⟩
  case round =>
    obtain ⟨k, hk, rfl⟩ := hrel
    have hp := HPX.out k (by omega)
    by_cases hlt : k < f
    · rw [HH.out k hlt] at hp
      have hlt2 : k < r.length := by omega
      go_wp2
      go_round
      case rel => exact ⟨k + 1, by omega, by go_num⟩
      case measure => simp [intOf]; omega
    · obtain rfl : k = f := by omega
      rw [HF.out] at hp
      clear hk hlt
      go_wp2
      go_ret
      exact ⟨rfl, rfl⟩

/-- A box's four cells. -/
def encX (b : Gl.Bx) : List Value := [encI b.1, encI b.2.1, encI b.2.2.1, encI b.2.2.2]
theorem encX_len (b : Gl.Bx) : (encX b).length = 4 := rfl
theorem encX_one (b : Gl.Bx) : ∀ v ∈ encX b, v.oneCell' = true := by
  intro v hv
  simp only [encX, List.mem_cons, List.not_mem_nil, or_false] at hv
  rcases hv with rfl | rfl | rfl | rfl <;> rfl
theorem info_box : (Tryz.prog.info? 26).map (fun i => (i.zero, i.size, i.bytes)) = some (some (.agg #[.int .i64 0, .int .i64 0, .int .i64 0, .int .i64 0]), 4, 32) := by kernel_rfl
theorem rowAt_cut (m : List Bool) (W y : Nat) : ((m.map encT).drop (y * W)).take ((y + 1) * W - y * W) = (Gl.rowAt m W y).map encT := by
  have : (y + 1) * W - y * W = W := by rw [Nat.add_mul, Nat.one_mul, Nat.add_sub_cancel_left]
  rw [this]
  unfold Gl.rowAt
  rw [List.map_take, List.map_drop]
/-- What Lines hands back when the bitmap is valid. -/
def OwnsX (xs : List Gl.Bx) (w : World) (e : Ending) (w' : World) : Prop := ∃ v, e = .returned (.tuple #[v, .int .i64 0]) ∧ KOwn 26 4 encX w' w.heap.size v xs ∧ Ext w w'
set_option maxRecDepth 100000 in
set_option maxHeartbeats 4000000 in
theorem lines_any (v : Value) (m : List Bool) (W H : Nat) (w : World) (hv : SlK w v (m.map encT)) (hm : m.length = W * H) (hval : Gl.valid (W : Int) (H : Int) m.length = true) :
    Calls Tryz.prog 12 #[.agg #[.int .i64 (W : Int), .int .i64 (H : Int), v]] w (OwnsX (Gl.lines m W H) w) := by
  obtain ⟨W', H', e1, e2, hW, hW2, hH, hH2, _, hM4⟩ := Gl.valid_parts hval
  obtain rfl : W = W' := by omega
  obtain rfl : H = H' := by omega
  have hWH : 1 ≤ W * H := Nat.mul_pos hW hH
  have HSL := Lib.hid (fun w' (hx : Ext w w') y (hy : y < H) => slice_bools (hv.ext hx) (y * W) ((y + 1) * W) (Nat.mul_le_mul_right W (by omega)) (by
    rw [List.length_map, hm, Nat.mul_comm W H]; exact Nat.mul_le_mul_right W hy))
  obtain ⟨b, off, c, rfl, hc, hb, hpx⟩ := hv.px (by omega)
  have HCK := Lib.hid (fun W1 => check_any (W : Int) (H : Int) (some ⟨b, off, none⟩) m.length c W1 (by unfold maxLen; omega))
  rw [hval, if_pos rfl] at HCK
  have HLEN := Lib.hid (fun y (hy : y < H) => Gl.rowAt_len m W y H hm hy)
  have HOK := Lib.hid (Gl.linesN_ok m W H hm)
  obtain ⟨ln, hln⟩ : ∃ ln, m.length = ln := ⟨_, rfl⟩
  have HMM := Lib.hid hm
  have hlnb : ln ≤ 4194304 := by omega
  rw [hln] at HSL HCK hc ⊢
  have HLL := Lib.hid hln
  clear hpx hv hm hval e1 e2 hM4 hln hWH
  go_enter Tryz.func12, Tryz.ntmps12
  go_wp2_with fail
  refine (HCK.out _).mono ?_
  rintro e w1 ⟨rfl, hx1⟩
  have HM1 := Lib.hid (row_new rfl hx1)
  have m1 := cell_at HM1.out (i := 1) rfl
  have HX1 := Lib.hid hx1.before
  have hsz1 := HX1.out.size
  clear hx1
  go_wp2
  go_loopw [4, 5, 17] (fun v4 v5 v17 wr => ∃ y : Nat, y ≤ H ∧ v17 = .int .i64 (y : Int) ∧ v5 = .bool (Gl.linesN m W y).2 ∧ KOwn 26 4 encX wr w1.heap.size v4 (Gl.linesN m W y).1 ∧ Ext w1 wr) (fun _ _ v17 _ => H - (intOf v17).toNat)
  case atStart => exact ⟨0, Nat.zero_le _, rfl, rfl, KOwn.nil _ _ _ _ _, Ext.refl _⟩
  case round =>
    obtain ⟨y, hy, rfl, rfl, hown, hxr⟩ := hrel
    by_cases hlt : y < H
    · have HR := Lib.hid (row_on HM1.out hxr)
      have m0 := cell_at HR.out (i := 0) rfl
      have m2 := cell_at HR.out (i := 2) rfl
      obtain ⟨vs, hslc, hvs⟩ := HSL.out wr (HX1.out.trans hxr) y hlt
      rw [rowAt_cut] at hvs
      obtain ⟨Z, hZ⟩ : ∃ Z, y * W = Z := ⟨_, rfl⟩
      obtain ⟨Z2, hZ2⟩ : ∃ Z, (y + 1) * W = Z := ⟨_, rfl⟩
      have hZb : Z ≤ 16777216 := by rw [← hZ]; exact Nat.mul_le_mul (show y ≤ 4096 by omega) hW2
      have hZb2 : Z2 ≤ 16777216 := by rw [← hZ2]; exact Nat.mul_le_mul (show y + 1 ≤ 4096 by omega) hW2
      have eZ : (y : Int) * (W : Int) = (Z : Int) := by rw [← hZ]; simp
      have eZ2 : ((y : Int) + 1) * (W : Int) = (Z2 : Int) := by rw [← hZ2]; simp
      rw [hZ, hZ2] at hslc
      have hrl := HLEN.out y hlt
      have HST : Hid (Gl.linesN m W (y + 1) = Gl.lstep (Gl.linesN m W y) y (Gl.ends (Gl.rowAt m W y))) := Lib.hid rfl
      have hok := HOK.out y (by omega)
      obtain ⟨r, hr⟩ : ∃ r, Gl.rowAt m W y = r := ⟨_, rfl⟩
      rw [hr] at hvs hrl HST
      clear hr hZ hZ2
      cases hends : Gl.ends r with
      | none =>
        have hno : ∀ i, i < r.length → r.getD i false = false := fun i hi => by
          cases hd : r.getD i false with
          | false => rfl
          | true =>
            obtain ⟨p, hp⟩ := Gl.endsN_ex hi hd
            unfold Gl.ends at hends
            rw [hp] at hends
            cases hends
        have HIX := Lib.hid (index_none vs r wr hvs hno (by omega))
        rw [hends] at HST
        have HS2 : Hid (Gl.linesN m W (y + 1) = ((Gl.linesN m W y).1, false)) := HST
        clear hno hvs hends hok HST
        go_wp2_with fail
        refine (HIX.out).mono ?_
        rintro e w2 ⟨rfl, rfl⟩
        go_wp2
        go_roundw
        case rel => exact ⟨y + 1, by omega, by go_num, by rw [HS2.out], by rw [HS2.out]; exact hown, hxr⟩
        case measure => simp [intOf]; omega
      | some p =>
        obtain ⟨f, l⟩ := p
        have hfl := Gl.endsN_lt hends
        obtain ⟨hdf, hdl, hall⟩ := Gl.endsN_all hends
        have hbef : ∀ i, i < f → r.getD i false = false := fun i hi => by
          cases hd : r.getD i false with
          | false => rfl
          | true => have := hall i (by omega) hd; omega
        have HAFT : Hid (∀ i, l < i → i < r.length → r.getD i false = false) := Lib.hid (fun i hi hi2 => by
          cases hd : r.getD i false with
          | false => rfl
          | true => have := hall i hi2 hd; omega)
        have HDL := Lib.hid hdl
        have HIX := Lib.hid (index_at vs r f wr hvs hbef hdf (by omega) (by omega))
        rw [hends] at HST
        obtain ⟨b2, off2, c2, rfl, _, _, hpr⟩ := hvs.px (by omega)
        have HPR := Lib.hid (hpr wr (Ext.refl wr))
        rw [hrl] at hslc HIX HPR hfl
        clear hpr hvs hends hall hbef hdf hdl
        generalize Gl.linesN m W y = st at hown hok HST ⊢
        obtain ⟨L, op⟩ := st
        dsimp only at hown hok ⊢
        go_wp2_with fail
        refine (HIX.out).mono ?_
        rintro e w2 ⟨rfl, rfl⟩
        go_wp2
        go_loop [9] (fun v9 => ∃ d : Nat, l + d < W ∧ v9 = .int .i64 ((l + d : Nat) : Int)) (fun v9 => (intOf v9).toNat)
        case atStart => exact ⟨W - 1 - l, by omega, by go_num⟩
        case round =>
          obtain ⟨d, hd, rfl⟩ := hrel
          have hp := HPR.out (l + d) hd
          by_cases h0 : d = 0
          · subst h0
            rw [Nat.add_zero, HDL.out] at hp
            rw [Nat.add_zero] at hd ⊢
            cases op
            · have HS2 : Hid (Gl.linesN m W (y + 1) = (L ++ [((f : Int), (y : Int), (l : Int) + 1 - f, 1)], true)) := HST
              have hLl : L.length ≤ 4096 := by omega
              clear HST
              have hszr := hxr.size
              go_wp2_with (at_builtin; refine append_k rfl _ _ 28 26 (.agg #[.int .i64 0, .int .i64 0, .int .i64 0, .int .i64 0]) 32 rfl Tryz.underlying28 info_box rfl (by decide) (by decide) encX_len encX_one w1.heap.size _ L rfl (hown.ext ((Ext.refl _).alloc _)) _ ((f : Int), (y : Int), (l : Int) + 1 - f, 1) rfl ?c1 ?c2 ?c3 ?_)
              case c1 =>
                intro k r hk
                match k with
                | 0 => simp only [encX, List.getElem?_cons_zero, Option.some.injEq] at hk; subst hk; simp [go_sem, encI]
                | 1 => simp only [encX, List.getElem?_cons_succ, List.getElem?_cons_zero, Option.some.injEq] at hk; subst hk; simp [go_sem, encI]
                | 2 => simp only [encX, List.getElem?_cons_succ, List.getElem?_cons_zero, Option.some.injEq] at hk; subst hk; simp [go_sem, encI]
                | 3 => simp only [encX, List.getElem?_cons_succ, List.getElem?_cons_zero, Option.some.injEq] at hk; subst hk; simp [go_sem, encI]
                | k + 4 => simp [encX] at hk
              case c2 => omega
              case c3 => (try simp); omega
              intro v' w5 hown5 hg5
              have hx5 := (hxr.alloc _).ofGrown hg5 hown.low
              clear hown hg5
              go_wp2
              go_roundw
              case rel => exact ⟨y + 1, by omega, by go_num, by rw [HS2.out], by rw [HS2.out]; exact hown5, hx5⟩
              case measure => simp [intOf]; omega
            · have hne := hok.1 rfl
              have hLl : L.length ≤ 4096 := by omega
              obtain ⟨I, bx, hIb⟩ : ∃ I bx, L = I ++ [bx] := ⟨L.dropLast, L.getLast hne, (List.dropLast_concat_getLast hne).symm⟩
              have hbx := hok.2.2 bx (by rw [hIb]; simp)
              have HS2 : Hid (Gl.linesN m W (y + 1) = (I ++ [Gl.upd bx f l], true)) := Lib.hid (by rw [HST.out, hIb]; simp [Gl.lstep])
              rcases hown.form with ⟨h0, _⟩ | ⟨g, cap, rfl, hg1, hg2⟩
              · exact absurd h0 hne
              have hlen : L.length = I.length + 1 := by rw [hIb]; simp
              have hsl := hown.sl encX_len
              obtain ⟨b3, o3, he3, _, hcl⟩ := hsl.at_ (i := I.length) (x := bx) (by rw [hIb]; simp)
              simp only [Option.some.injEq, Addr.mk.injEq, and_true] at he3
              obtain ⟨rfl, rfl⟩ := he3
              obtain ⟨n1, hn1⟩ : ∃ n1, I.length = n1 := ⟨_, rfl⟩
              rw [hn1] at hlen hcl
              rw [hlen]
              obtain ⟨b0, b1, bw, bh⟩ := bx
              have k0 : wr.cell? ⟨g, n1 * 4, none⟩ = some (.int .i64 b0) := by have := hcl 0 (by omega); rw [Nat.zero_add, Nat.add_zero] at this; exact this
              have k2 : wr.cell? ⟨g, n1 * 4 + 2, none⟩ = some (.int .i64 bw) := by have := hcl 2 (by omega); rw [Nat.zero_add] at this; exact this
              have k3 : wr.cell? ⟨g, n1 * 4 + 3, none⟩ = some (.int .i64 bh) := by have := hcl 3 (by omega); rw [Nat.zero_add] at this; exact this
              dsimp only at hbx
              have hn1b : n1 ≤ 4096 := by omega
              obtain ⟨R, hR⟩ : ∃ R : Int, max (b0 + bw) ((l : Int) + 1) = R := ⟨_, rfl⟩
              obtain ⟨mn, hmn⟩ : ∃ mn : Int, min b0 (f : Int) = mn := ⟨_, rfl⟩
              have hRb : 0 ≤ R ∧ R ≤ 4096 := by omega
              have hmb : 0 ≤ mn ∧ mn ≤ 4096 := by omega
              have hbw : 0 ≤ bw ∧ bw ≤ 4096 := by omega
              have hb0 : 0 ≤ b0 ∧ b0 ≤ 4096 := by omega
              have hbh : 0 ≤ bh ∧ bh ≤ 4096 := by omega
              have HU : Hid (Gl.upd (b0, b1, bw, bh) f l = (mn, b1, R - mn, bh + 1)) := Lib.hid (by unfold Gl.upd; rw [← hR, ← hmn])
              have hf := fun j => by
                have hh := hown
                unfold KOwn at hh
                rw [hlen] at hh
                exact World.ownsRow.frozenAt hh j
              have f0 := hf (n1 * 4)
              have f2 := hf (n1 * 4 + 2)
              have f3 := hf (n1 * 4 + 3)
              rw [hIb, show (I ++ [((b0, b1, bw, bh) : Gl.Bx)]).length = n1 + 1 by rw [← hIb]; exact hlen] at hown
              have HO := Lib.hid hown
              have HX := Lib.hid (hxr.drew)
              clear hcl hsl HST hok hf hbx hown hlen hIb hxr
              go_wp2
              go_region
              go_wp2
              go_roundw
              case rel =>
                have hset : ∀ x z : Gl.Bx, (I ++ [x]).set n1 z = I ++ [z] := fun x z => by subst hn1; simp
                have hget : ∀ x : Gl.Bx, (I ++ [x])[n1]? = some x := fun x => by subst hn1; simp
                obtain ⟨s1, _⟩ := KOwn.stored encX_len HO.out (hget _) (show 0 < 4 by omega) (.int .i64 mn) (y := (mn, b1, bw, bh)) rfl
                rw [hset, Nat.add_zero] at s1
                obtain ⟨s2, _⟩ := KOwn.stored encX_len s1 (hget _) (show 2 < 4 by omega) (.int .i64 (R - mn)) (y := (mn, b1, R - mn, bh)) rfl
                rw [hset] at s2
                obtain ⟨s3, _⟩ := KOwn.stored encX_len s2 (hget _) (show 3 < 4 by omega) (.int .i64 (bh + 1)) (y := (mn, b1, R - mn, bh + 1)) rfl
                rw [hset] at s3
                refine ⟨y + 1, by omega, by go_num, by rw [HS2.out], ?_, ((HX.out.setCell (p := ⟨g, n1 * 4, none⟩) hg1 _).setCell (p := ⟨g, n1 * 4 + 2, none⟩) hg1 _).setCell (p := ⟨g, n1 * 4 + 3, none⟩) hg1 _⟩
                rw [HS2.out, HU.out]
                exact s3
              case measure => simp [intOf]; omega
          · obtain ⟨d', rfl⟩ : ∃ d', d = d' + 1 := ⟨d - 1, by omega⟩
            rw [HAFT.out (l + (d' + 1)) (by omega) (by omega)] at hp
            have ed : ((l + (d' + 1) : Nat) : Int) - 1 = ((l + d' : Nat) : Int) := by omega
            obtain ⟨D, hD⟩ : ∃ D, l + (d' + 1) = D := ⟨_, rfl⟩
            rw [hD] at hp ed hd ⊢
            go_wp2
            go_round
            case rel => exact ⟨d', by omega, rfl⟩
            case measure => simp [intOf]; omega
    · obtain rfl : y = H := by omega
      have HX := Lib.hid (HX1.out.trans hxr)
      clear hy hlt hxr m1
      go_wp2
      go_ret2
      exact ⟨_, rfl, hown.mono hsz1, HX.out⟩
end Go.Proofs.YtamkgbodifjlaaaGreatDoor
