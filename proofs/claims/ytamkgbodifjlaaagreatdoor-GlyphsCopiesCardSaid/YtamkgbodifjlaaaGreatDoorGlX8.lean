/-
  Chapter 48, the reference: Lines.
  Condition: a valid bitmap.
-/
import Derived.Test.YtamkgbodifjlaaaGreatDoorGlX4
import Derived.Test.YtamkgbodifjlaaaGreatDoorGlWB
import Derived.BigRegion
namespace Go.Proofs.YtamkgbodifjlaaaGreatDoor
set_option linter.unusedVariables false
open Go.RowKit

set_option maxRecDepth 100000 in
set_option maxHeartbeats 4000000 in
theorem xlines_any (v : Value) (m : List Bool) (W H : Nat) (w : World) (hv : SlK w v (m.map encT)) (hm : m.length = W * H) (hval : Gl.valid (W : Int) (H : Int) m.length = true) :
    Calls Tryz.prog 13 #[.agg #[.int .i64 (W : Int), .int .i64 (H : Int), v]] w (OwnsX (Gl.lines m W H) w) := by
  obtain ⟨W', H', e1, e2, hW, hW2, hH, hH2, _, hM4⟩ := Gl.valid_parts hval
  obtain rfl : W = W' := by omega
  obtain rfl : H = H' := by omega
  have hWH : 1 ≤ W * H := Nat.mul_pos hW hH
  obtain ⟨b, off, c, rfl, hc, hb, hpx⟩ := hv.px (by omega)
  have HCK := Lib.hid (fun W1 => xcheck_any (W : Int) (H : Int) (some ⟨b, off, none⟩) m.length c W1 (by unfold maxLen; omega))
  rw [hval, if_pos rfl] at HCK
  have HDK := Lib.hid (fun y (hy : y < H) w' (hx : Ext w w') => xdark_any b off c m.length m W H y w' (fun w'' hx' i hi => hpx w'' (hx.trans hx') i hi) hm rfl (by have := hx.size; omega) hW2 hH2 hy)
  have HLEN := Lib.hid (fun y (hy : y < H) => Gl.rowAt_len m W y H hm hy)
  have HOK := Lib.hid (Gl.linesN_ok m W H hm)
  obtain ⟨ln, hln⟩ : ∃ ln, m.length = ln := ⟨_, rfl⟩
  have hlnb : ln ≤ 4194304 := by omega
  rw [hln] at HCK HDK hc ⊢
  clear hpx hv hm hval e1 e2 hM4 hln hWH
  go_enter Tryz.func13, Tryz.ntmps13
  go_wp2_with fail
  refine (HCK.out _).mono ?_
  rintro e w1 ⟨rfl, hx1⟩
  have HM1 := Lib.hid (row_new rfl hx1)
  have m1 := cell_at HM1.out (i := 1) rfl
  have HX1 := Lib.hid hx1.before
  have hsz1 := HX1.out.size
  clear hx1
  go_wp2
  go_loopw [4, 5, 6] (fun v4 v5 v6 wr => ∃ y : Nat, y ≤ H ∧ v6 = .int .i64 (y : Int) ∧ v5 = .bool (Gl.linesN m W y).2 ∧ KOwn 26 4 encX wr w1.heap.size v4 (Gl.linesN m W y).1 ∧ Ext w1 wr) (fun _ _ v6 _ => H - (intOf v6).toNat)
  case atStart => exact ⟨0, Nat.zero_le _, rfl, rfl, KOwn.nil _ _ _ _ _, Ext.refl _⟩
  case round =>
    obtain ⟨y, hy, rfl, rfl, hown, hxr⟩ := hrel
    have HR := Lib.hid (row_on HM1.out hxr)
    have m0 := cell_at HR.out (i := 0) rfl
    have m1' := cell_at HR.out (i := 1) rfl
    have m2 := cell_at HR.out (i := 2) rfl
    by_cases hlt : y < H
    · have HD := Lib.hid (HDK.out y hlt wr (HX1.out.trans hxr))
      have hrl := HLEN.out y hlt
      have HST : Hid (Gl.linesN m W (y + 1) = Gl.lstep (Gl.linesN m W y) y (Gl.ends (Gl.rowAt m W y))) := Lib.hid rfl
      have hok := HOK.out y (by omega)
      obtain ⟨r, hr⟩ : ∃ r, Gl.rowAt m W y = r := ⟨_, rfl⟩
      rw [hr] at hrl HST HD
      clear hr m1
      cases hends : Gl.ends r with
      | none =>
        rw [hends] at HST HD
        have HS2 : Hid (Gl.linesN m W (y + 1) = ((Gl.linesN m W y).1, false)) := HST
        have HD2 : Hid (Calls Tryz.prog 34 #[.agg #[.int .i64 (W : Int), .int .i64 (H : Int), .slice (some ⟨b, off, none⟩) ln c], .int .i64 (y : Int)] wr fun e w' => e = .returned (.tuple #[.int .i64 (-1), .int .i64 (-1)]) ∧ Ext wr w') := HD
        clear hends hok HST HD
        go_wp2_with fail
        refine (HD2.out).mono ?_
        rintro e w2 ⟨rfl, hx2⟩
        go_wp2
        go_roundw
        case rel => exact ⟨y + 1, by omega, by go_num, by rw [HS2.out], by rw [HS2.out]; exact hown.ext hx2, hxr.trans hx2⟩
        case measure => simp [intOf]; omega
      | some p =>
        obtain ⟨f, l⟩ := p
        have hfl := Gl.endsN_lt hends
        rw [hends] at HST HD
        rw [hrl] at hfl
        have HD2 : Hid (Calls Tryz.prog 34 #[.agg #[.int .i64 (W : Int), .int .i64 (H : Int), .slice (some ⟨b, off, none⟩) ln c], .int .i64 (y : Int)] wr fun e w' => e = .returned (.tuple #[.int .i64 (f : Int), .int .i64 (l : Int)]) ∧ Ext wr w') := HD
        clear hends HD
        generalize Gl.linesN m W y = st at hown hok HST ⊢
        obtain ⟨L, op⟩ := st
        dsimp only at hown hok ⊢
        go_wp2_with fail
        refine (HD2.out).mono ?_
        rintro e w2 ⟨rfl, hx2⟩
        have hown := hown.ext hx2
        have hxr := hxr.trans hx2
        clear m0 m1' m2
        cases op
        · have HS2 : Hid (Gl.linesN m W (y + 1) = (L ++ [((f : Int), (y : Int), (l : Int) + 1 - f, 1)], true)) := HST
          have hLl : L.length ≤ 4096 := by omega
          clear HST hok
          have hszr := hxr.size
          have ea : (l : Int) - (f : Int) + 1 = (l : Int) + 1 - f := by omega
          go_wp2_with (at_builtin; refine append_k rfl _ _ 28 26 (.agg #[.int .i64 0, .int .i64 0, .int .i64 0, .int .i64 0]) 32 rfl Tryz.underlying28 info_box rfl (by decide) (by decide) encX_len encX_one w1.heap.size _ L rfl (hown.ext ((Ext.refl _).alloc _)) _ ((f : Int), (y : Int), (l : Int) + 1 - f, 1) rfl ?c1 ?c2 ?c3 ?_)
          case c1 =>
            intro k r hk
            match k with
            | 0 => simp only [encX, List.getElem?_cons_zero, Option.some.injEq] at hk; subst hk; simp [go_sem, encI]
            | 1 => simp only [encX, List.getElem?_cons_succ, List.getElem?_cons_zero, Option.some.injEq] at hk; subst hk; simp [go_sem, encI]
            | 2 => simp only [encX, List.getElem?_cons_succ, List.getElem?_cons_zero, Option.some.injEq] at hk; subst hk; simp [go_sem, encI] <;> omega
            | 3 => simp only [encX, List.getElem?_cons_succ, List.getElem?_cons_zero, Option.some.injEq] at hk; subst hk; simp [go_sem, encI]
            | k + 4 => simp [encX] at hk
          case c2 => omega
          case c3 => (try simp); omega
          intro v' w5 hown5 hg5
          have hx5 := (hxr.alloc _).ofGrown hg5 hown.low
          clear hown hg5 ea
          go_wp2
          go_roundw
          case rel => exact ⟨y + 1, by omega, by go_num, by rw [HS2.out], by rw [HS2.out]; exact hown5, hx5⟩
          case measure => simp [intOf]; omega
        · have hne := hok.1 rfl
          have hLl : L.length ≤ 4096 := by omega
          obtain ⟨I, bx, hIb⟩ : ∃ I bx, L = I ++ [bx] := ⟨L.dropLast, L.getLast hne, (List.dropLast_concat_getLast hne).symm⟩
          have hbx := hok.2.2 bx (by rw [hIb]; simp)
          have HS2 : Hid (Gl.linesN m W (y + 1) = (I ++ [Gl.upd bx f l], true)) := Lib.hid (by rw [HST.out, hIb]; simp [Gl.lstep])
          rcases hown.form with ⟨h0, _⟩ | ⟨g, cap, rfl, hg1, hg2⟩
          · exact absurd h0 hne
          have hlen : L.length = I.length + 1 := by rw [hIb]; simp
          have hsl := hown.sl encX_len
          obtain ⟨b3, o3, he3, _, hcl⟩ := hsl.at_ (i := I.length) (x := bx) (by rw [hIb]; simp)
          simp only [Option.some.injEq, Addr.mk.injEq, and_true] at he3
          obtain ⟨rfl, rfl⟩ := he3
          obtain ⟨n1, hn1⟩ : ∃ n1, I.length = n1 := ⟨_, rfl⟩
          rw [hn1] at hlen hcl
          rw [hlen]
          obtain ⟨b0, b1, bw, bh⟩ := bx
          have k0 : w2.cell? ⟨g, n1 * 4, none⟩ = some (.int .i64 b0) := by have := hcl 0 (by omega); rw [Nat.zero_add, Nat.add_zero] at this; exact this
          have k1 : w2.cell? ⟨g, n1 * 4 + 1, none⟩ = some (.int .i64 b1) := by have := hcl 1 (by omega); rw [Nat.zero_add] at this; exact this
          have k2 : w2.cell? ⟨g, n1 * 4 + 2, none⟩ = some (.int .i64 bw) := by have := hcl 2 (by omega); rw [Nat.zero_add] at this; exact this
          have k3 : w2.cell? ⟨g, n1 * 4 + 3, none⟩ = some (.int .i64 bh) := by have := hcl 3 (by omega); rw [Nat.zero_add] at this; exact this
          dsimp only at hbx
          have hn1b : n1 ≤ 4096 := by omega
          obtain ⟨R, hR⟩ : ∃ R : Int, max (b0 + bw - 1) (l : Int) = R := ⟨_, rfl⟩
          obtain ⟨mn, hmn⟩ : ∃ mn : Int, min b0 (f : Int) = mn := ⟨_, rfl⟩
          have hRb : -1 ≤ R ∧ R ≤ 4096 := by omega
          have hmb : 0 ≤ mn ∧ mn ≤ 4096 := by omega
          have hbw : 0 ≤ bw ∧ bw ≤ 4096 := by omega
          have hb0 : 0 ≤ b0 ∧ b0 ≤ 4096 := by omega
          have hb1 : 0 ≤ b1 ∧ b1 ≤ 4096 := by omega
          have hbh : 0 ≤ bh ∧ bh ≤ 4096 := by omega
          have HU : Hid (Gl.upd (b0, b1, bw, bh) f l = (mn, b1, R - mn + 1, bh + 1)) := Lib.hid (by
            unfold Gl.upd
            dsimp only
            rw [← hR, ← hmn]
            congr 3
            omega)
          have hf := fun j => by
            have hh := hown
            unfold KOwn at hh
            rw [hlen] at hh
            exact World.ownsRow.frozenAt hh j
          have f0 := hf (n1 * 4)
          have f1 := hf (n1 * 4 + 1)
          have f2 := hf (n1 * 4 + 2)
          have f3 := hf (n1 * 4 + 3)
          rw [hIb, show (I ++ [((b0, b1, bw, bh) : Gl.Bx)]).length = n1 + 1 by rw [← hIb]; exact hlen] at hown
          have HO := Lib.hid hown
          have HX := Lib.hid hxr
          have en : ((n1 + 1 : Nat) : Int) - 1 = (n1 : Int) := by omega
          clear hcl hsl HST hok hf hbx hown hlen hIb hxr
          go_wp2
          go_region
          go_wp2
          go_region
          go_wp2
          go_roundw
          case rel =>
            have hset : ∀ x z : Gl.Bx, (I ++ [x]).set n1 z = I ++ [z] := fun x z => by subst hn1; simp
            have hget : ∀ x : Gl.Bx, (I ++ [x])[n1]? = some x := fun x => by subst hn1; simp
            obtain ⟨s1, _⟩ := KOwn.stored encX_len HO.out (hget _) (show 0 < 4 by omega) (.int .i64 mn) (y := (mn, b1, bw, bh)) rfl
            rw [hset, Nat.add_zero] at s1
            obtain ⟨s4, _⟩ := KOwn.stored encX_len s1 (hget _) (show 1 < 4 by omega) (.int .i64 b1) (y := (mn, b1, bw, bh)) rfl
            rw [hset] at s4
            obtain ⟨s2, _⟩ := KOwn.stored encX_len s4 (hget _) (show 2 < 4 by omega) (.int .i64 (R - mn + 1)) (y := (mn, b1, R - mn + 1, bh)) rfl
            rw [hset] at s2
            obtain ⟨s3, _⟩ := KOwn.stored encX_len s2 (hget _) (show 3 < 4 by omega) (.int .i64 (bh + 1)) (y := (mn, b1, R - mn + 1, bh + 1)) rfl
            rw [hset] at s3
            refine ⟨y + 1, by omega, by go_num, by rw [HS2.out], ?_, ((((HX.out.drew.drew).setCell (p := ⟨g, n1 * 4, none⟩) hg1 _).setCell (p := ⟨g, n1 * 4 + 1, none⟩) hg1 _).setCell (p := ⟨g, n1 * 4 + 2, none⟩) hg1 _).setCell (p := ⟨g, n1 * 4 + 3, none⟩) hg1 _⟩
            rw [HS2.out, HU.out]
            exact s3
          case measure => simp [intOf]; omega
    · obtain rfl : y = H := by omega
      have HX := Lib.hid (HX1.out.trans hxr)
      clear hy hlt hxr m1 m0 m2
      go_wp2
      go_ret2
      exact ⟨_, rfl, hown.mono hsz1, HX.out⟩
end Go.Proofs.YtamkgbodifjlaaaGreatDoor
