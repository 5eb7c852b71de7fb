/-
  Chapter 48: the error ways of Lines, Match, Read.
  No condition.
-/
import Derived.Test.YtamkgbodifjlaaaGreatDoorGlW1
import Derived.Test.YtamkgbodifjlaaaGreatDoorRow3
import Derived.Test.YtamkgbodifjlaaaGreatDoorGlWz
import Derived.Test.YtamkgbodifjlaaaGreatDoorGlXa

/-
  Chapter 48: the error ways of Lines, Match, Read.
  No condition.
-/
namespace Go.Proofs.YtamkgbodifjlaaaGreatDoor
open Go.RowKit

set_option maxHeartbeats 4000000 in
theorem lines_bad (W H : Int) (a : Option Addr) (n c : Nat) (w : World) (hn : n ≤ maxLen) (hv : Gl.valid W H n = false) : Calls Tryz.prog 12 #[.agg #[.int .i64 W, .int .i64 H, .slice a n c]] w fun e w' => e = .returned (.tuple #[.slice none 0 0, .int .i64 1]) ∧ Ext w w' := by
  have hc := fun W1 => check_any W H a n c W1 hn
  rw [hv, if_neg (by simp)] at hc
  clear hv
  go_enter Tryz.func12, Tryz.ntmps12
  go_wp2_with fail
  refine (hc _).mono ?_
  rintro e w1 ⟨rfl, hx1⟩
  go_wp2
  go_ret2
  exact ⟨rfl, (by repeat (first | exact Ext.refl _ | assumption | refine Ext.alloc ?_ _ | refine Ext.drew ?_ | refine Ext.trans ?_ (by assumption)))⟩
set_option maxHeartbeats 4000000 in
theorem xlines_bad (W H : Int) (a : Option Addr) (n c : Nat) (w : World) (hn : n ≤ maxLen) (hv : Gl.valid W H n = false) : Calls Tryz.prog 13 #[.agg #[.int .i64 W, .int .i64 H, .slice a n c]] w fun e w' => e = .returned (.tuple #[.slice none 0 0, .int .i64 1]) ∧ Ext w w' := by
  have hc := fun W1 => xcheck_any W H a n c W1 hn
  rw [hv, if_neg (by simp)] at hc
  clear hv
  go_enter Tryz.func13, Tryz.ntmps13
  go_wp2_with fail
  refine (hc _).mono ?_
  rintro e w1 ⟨rfl, hx1⟩
  go_wp2
  go_ret2
  exact ⟨rfl, (by repeat (first | exact Ext.refl _ | assumption | refine Ext.alloc ?_ _ | refine Ext.drew ?_ | refine Ext.trans ?_ (by assumption)))⟩
set_option maxHeartbeats 4000000 in
theorem match_bad (W H : Int) (a : Option Addr) (n c : Nat) (w : World) (hn : n ≤ maxLen) (hv : Gl.valid W H n = false) : Calls Tryz.prog 16 #[.agg #[.int .i64 W, .int .i64 H, .slice a n c]] w fun e w' => e = .returned (.tuple #[.slice none 0 0, .int .i64 1]) ∧ Ext w w' := by
  have hc := fun W1 => check_any W H a n c W1 hn
  rw [hv, if_neg (by simp)] at hc
  clear hv
  go_enter Tryz.func16, Tryz.ntmps16
  go_wp2_with fail
  refine (hc _).mono ?_
  rintro e w1 ⟨rfl, hx1⟩
  go_wp2
  go_ret2
  exact ⟨rfl, (by repeat (first | exact Ext.refl _ | assumption | refine Ext.alloc ?_ _ | refine Ext.drew ?_ | refine Ext.trans ?_ (by assumption)))⟩
set_option maxHeartbeats 4000000 in
theorem xmatch_bad (W H : Int) (a : Option Addr) (n c : Nat) (w : World) (hn : n ≤ maxLen) (hv : Gl.valid W H n = false) : Calls Tryz.prog 17 #[.agg #[.int .i64 W, .int .i64 H, .slice a n c]] w fun e w' => e = .returned (.tuple #[.slice none 0 0, .int .i64 1]) ∧ Ext w w' := by
  have hc := fun W1 => xcheck_any W H a n c W1 hn
  rw [hv, if_neg (by simp)] at hc
  clear hv
  go_enter Tryz.func17, Tryz.ntmps17
  go_wp2_with fail
  refine (hc _).mono ?_
  rintro e w1 ⟨rfl, hx1⟩
  go_wp2
  go_ret2
  exact ⟨rfl, (by repeat (first | exact Ext.refl _ | assumption | refine Ext.alloc ?_ _ | refine Ext.drew ?_ | refine Ext.trans ?_ (by assumption)))⟩
set_option maxHeartbeats 4000000 in
theorem match_size (W H : Int) (a : Option Addr) (n c : Nat) (w : World) (hn : n ≤ maxLen) (hv : Gl.valid W H n = true) (hs : ¬ (W = 5 ∧ H = 7)) : Calls Tryz.prog 16 #[.agg #[.int .i64 W, .int .i64 H, .slice a n c]] w fun e w' => e = .returned (.tuple #[.slice none 0 0, .int .i64 23]) ∧ Ext w w' := by
  have hc := fun W1 => check_any W H a n c W1 hn
  rw [hv, if_pos rfl] at hc
  clear hv
  by_cases h5 : W = 5
  · have d7 : (H != 7) = true := by simp; intro h7; exact hs ⟨h5, h7⟩
    subst h5
    clear hs
    go_enter Tryz.func16, Tryz.ntmps16
    go_wp2_with fail
    refine (hc _).mono ?_
    rintro e w1 ⟨rfl, hx1⟩
    have HR := row_new rfl hx1
    have m0 := cell_at HR (i := 0) rfl
    have m1 := cell_at HR (i := 1) rfl
    have hX := hx1.before
    clear HR hx1
    go_wp2
    go_ret2
    exact ⟨rfl, hX⟩
  · have d5 : (W != 5) = true := by simp; exact h5
    clear hs h5
    go_enter Tryz.func16, Tryz.ntmps16
    go_wp2_with fail
    refine (hc _).mono ?_
    rintro e w1 ⟨rfl, hx1⟩
    have HR := row_new rfl hx1
    have m0 := cell_at HR (i := 0) rfl
    have m1 := cell_at HR (i := 1) rfl
    have hX := hx1.before
    clear HR hx1
    go_wp2
    go_ret2
    exact ⟨rfl, hX⟩
set_option maxHeartbeats 4000000 in
theorem xmatch_size (W H : Int) (a : Option Addr) (n c : Nat) (w : World) (hn : n ≤ maxLen) (hv : Gl.valid W H n = true) (hs : ¬ (W = 5 ∧ H = 7)) : Calls Tryz.prog 17 #[.agg #[.int .i64 W, .int .i64 H, .slice a n c]] w fun e w' => e = .returned (.tuple #[.slice none 0 0, .int .i64 23]) ∧ Ext w w' := by
  have hc := fun W1 => xcheck_any W H a n c W1 hn
  rw [hv, if_pos rfl] at hc
  clear hv
  by_cases h5 : W = 5
  · have d7 : (H != 7) = true := by simp; intro h7; exact hs ⟨h5, h7⟩
    subst h5
    clear hs
    go_enter Tryz.func17, Tryz.ntmps17
    go_wp2_with fail
    refine (hc _).mono ?_
    rintro e w1 ⟨rfl, hx1⟩
    have HR := row_new rfl hx1
    have m0 := cell_at HR (i := 0) rfl
    have m1 := cell_at HR (i := 1) rfl
    have hX := hx1.before
    clear HR hx1
    go_wp2
    go_ret2
    exact ⟨rfl, hX⟩
  · have d5 : (W != 5) = true := by simp; exact h5
    clear hs h5
    go_enter Tryz.func17, Tryz.ntmps17
    go_wp2_with fail
    refine (hc _).mono ?_
    rintro e w1 ⟨rfl, hx1⟩
    have HR := row_new rfl hx1
    have m0 := cell_at HR (i := 0) rfl
    have m1 := cell_at HR (i := 1) rfl
    have hX := hx1.before
    clear HR hx1
    go_wp2
    go_ret2
    exact ⟨rfl, hX⟩
end Go.Proofs.YtamkgbodifjlaaaGreatDoor

/-
  Chapter 48: the error ways of Confusable; the reference's Confusable.
  No condition.
-/
namespace Go.Proofs.YtamkgbodifjlaaaGreatDoor
open Go.RowKit

set_option maxHeartbeats 4000000 in
theorem confus_no (c : UInt8) (hk : Gl.known c = false) (d : Int) (w : World) :
    Calls Tryz.prog 18 #[.int .u8 (c.toNat : Int), .int .i64 d] w fun e w' => e = .returned (.tuple #[.slice none 0 0, .int .i64 6]) ∧ Ext w w' := by
  have HG := Lib.hid (fglyph_no c hk)
  clear hk
  go_enter Tryz.func18, Tryz.ntmps18
  go_wp2_with fail
  refine (HG.out _).mono ?_
  rintro e w1 ⟨rfl, hx1⟩
  have HX := Lib.hid (hx1.alloc (.cells #[.int .i64 0, .int .i64 0, .slice none 0 0] 24))
  clear hx1
  go_wp2
  go_ret2
  exact ⟨rfl, HX.out⟩
set_option maxHeartbeats 4000000 in
theorem xconfus_no (c : UInt8) (hk : Gl.known c = false) (d : Int) (w : World) :
    Calls Tryz.prog 19 #[.int .u8 (c.toNat : Int), .int .i64 d] w fun e w' => e = .returned (.tuple #[.slice none 0 0, .int .i64 6]) ∧ Ext w w' := by
  have HG := Lib.hid (xglyph_no c hk)
  clear hk
  go_enter Tryz.func19, Tryz.ntmps19
  go_wp2_with fail
  refine (HG.out _).mono ?_
  rintro e w1 ⟨rfl, hx1⟩
  have HX := Lib.hid (hx1.alloc (.cells #[.int .i64 0, .int .i64 0, .slice none 0 0] 24))
  clear hx1
  go_wp2
  go_ret2
  exact ⟨rfl, HX.out⟩
set_option maxHeartbeats 4000000 in
theorem confus_neg (c : UInt8) (hk : Gl.known c = true) (d : Int) (hd : d < 0) (w : World) :
    Calls Tryz.prog 18 #[.int .u8 (c.toNat : Int), .int .i64 d] w fun e w' => e = .returned (.tuple #[.slice none 0 0, .int .i64 3]) ∧ Ext w w' := by
  have HG := Lib.hid (fglyph_any c hk)
  have dd : decide (d < 0) = true := decide_eq_true hd
  clear hk hd
  go_enter Tryz.func18, Tryz.ntmps18
  go_wp2_with fail
  refine (HG.out _).mono ?_
  rintro e w1 ⟨vg, rfl, howng, hx1⟩
  obtain ⟨gg, cg, rfl, _, _, _⟩ := howng.pix
  have HX := Lib.hid (hx1.alloc (.cells #[.int .i64 5, .int .i64 7, .slice (some ⟨gg, 0, none⟩) 35 cg] 24))
  clear howng hx1
  go_wp2
  go_ret2
  exact ⟨rfl, HX.out⟩
set_option maxHeartbeats 4000000 in
theorem xconfus_neg (c : UInt8) (hk : Gl.known c = true) (d : Int) (hd : d < 0) (w : World) :
    Calls Tryz.prog 19 #[.int .u8 (c.toNat : Int), .int .i64 d] w fun e w' => e = .returned (.tuple #[.slice none 0 0, .int .i64 3]) ∧ Ext w w' := by
  have HG := Lib.hid (xglyph_any c hk)
  have dd : decide (d < 0) = true := decide_eq_true hd
  clear hk hd
  go_enter Tryz.func19, Tryz.ntmps19
  go_wp2_with fail
  refine (HG.out _).mono ?_
  rintro e w1 ⟨vg, rfl, howng, hx1⟩
  obtain ⟨gg, cg, rfl, _, _, _⟩ := howng.pix
  have HX := Lib.hid (hx1.alloc (.cells #[.int .i64 5, .int .i64 7, .slice (some ⟨gg, 0, none⟩) 35 cg] 24))
  clear howng hx1
  go_wp2
  go_ret2
  exact ⟨rfl, HX.out⟩
set_option maxRecDepth 100000 in
set_option maxHeartbeats 4000000 in
theorem xconfus_any (c : UInt8) (hk : Gl.known c = true) (d : Int) (hd : 0 ≤ d) (w : World) :
    Calls Tryz.prog 19 #[.int .u8 (c.toNat : Int), .int .i64 d] w fun e w' => ∃ v, e = .returned (.tuple #[v, .int .i64 0]) ∧ Own 5 w' w.heap.size v ((Gl.near c d).map encB) ∧ Ext w w' := by
  have HCH := Lib.hid xchars_any
  have HG := Lib.hid (xglyph_any c hk)
  have HD := Lib.hid (fun o (ho : Gl.known o = true) => xdist_any c o hk ho)
  have HKN : Hid (∀ c ∈ Gl.chars, Gl.known c = true) := Lib.hid (fun c hc => by rw [Gl.known_mem]; exact decide_eq_true hc)
  have HN := Lib.hid (Gl.near_succ c d)
  have HALL : Hid ((Gl.chars.take 62).filter (Gl.nearP c d) = Gl.near c d) := Lib.hid (by rw [List.take_of_length_le (by rw [Gl.chars_len]; exact Nat.le_refl _)]; rfl)
  have dd : decide (d < 0) = false := decide_eq_false (by omega)
  clear hd
  go_enter Tryz.func19, Tryz.ntmps19
  go_wp2_with fail
  refine (HG.out _).mono ?_
  rintro e w1 ⟨vg, rfl, howng, hx1⟩
  obtain ⟨gg, cg, rfl, _, _, _⟩ := howng.pix
  have HX1 := Lib.hid (hx1.alloc (.cells #[.int .i64 5, .int .i64 7, .slice (some ⟨gg, 0, none⟩) 35 cg] 24))
  clear howng hx1
  go_wp2_with fail
  refine (HCH.out _).mono ?_
  rintro e w2 ⟨vc, rfl, hownc, hx2⟩
  obtain ⟨gc, cc, rfl, hgc1, hgc2, hcc⟩ := hownc.bytesAt (by decide)
  rw [Gl.chars_len]
  have HCC := Lib.hid hcc
  have HX2 := Lib.hid (HX1.out.trans hx2)
  have hsz2 := HX2.out.size
  clear hx2 hcc hownc
  go_wp2
  go_loopw [9, 10] (fun v9 v10 wr => ∃ i : Nat, i ≤ 62 ∧ v10 = .int .i64 (i : Int) ∧ Own 5 wr w2.heap.size v9 (((Gl.chars.take i).filter (Gl.nearP c d)).map encB) ∧ Ext w2 wr) (fun _ v10 _ => 62 - (intOf v10).toNat)
  case atStart => exact ⟨0, Nat.zero_le _, rfl, Own.nil _ _ _, Ext.refl _⟩
  case round =>
    obtain ⟨i, hi, rfl, hown, hxr⟩ := hrel
    by_cases hlt : i < 62
    · obtain ⟨o, ho⟩ : ∃ o, Gl.chars[i]? = some o := ⟨_, List.getElem?_eq_getElem (by rw [Gl.chars_len]; exact hlt)⟩
      have hcell := HCC.out wr hxr i o ho
      have HDo := Lib.hid (HD.out o (HKN.out o (List.mem_of_getElem? ho)))
      have hN := HN.out i o ho
      have hgl : ((Gl.chars.take i).filter (Gl.nearP c d)).length ≤ 62 := Nat.le_trans (List.length_filter_le _ _) (by rw [List.length_take]; omega)
      generalize (Gl.chars.take i).filter (Gl.nearP c d) = got at *
      have HC3 := Lib.hid (fun w' (h : Ext wr w') => HCC.out w' (hxr.trans h) i o ho)
      clear ho
      by_cases hoc : o = c
      · have hb : Gl.nearP c d o = false := by unfold Gl.nearP; simp [hoc]
        rw [hb, if_neg (by simp), List.append_nil] at hN
        have HN' := Lib.hid hN
        have be : (((o.toNat : Nat) : Int) != ((c.toNat : Nat) : Int)) = false := by rw [hoc]; simp
        clear hN hb hoc
        go_wp2_with fail
        refine (HDo.out _).mono ?_
        rintro e w3 ⟨rfl, hx3⟩
        have hown3 := hown.ext hx3
        have hx23 := hxr.trans hx3
        have hc3 := HC3.out w3 hx3
        clear hown hx3 hxr hcell
        go_wp2
        go_roundw
        case rel => exact ⟨i + 1, by omega, by go_num, by rw [HN'.out]; exact hown3, hx23⟩
        case measure => simp [intOf]; omega
      · have be : (((o.toNat : Nat) : Int) != ((c.toNat : Nat) : Int)) = true := by rw [bne, beq_eq_false_iff_ne.2 (fun h => hoc (UInt8.toNat_inj.1 (by omega)))]; rfl
        by_cases hle : (Gl.dist c o : Int) ≤ d
        · have hb : Gl.nearP c d o = true := by unfold Gl.nearP; simp [hoc, hle]
          rw [hb, if_pos rfl] at hN
          have HN' := Lib.hid hN
          have dl : decide ((Gl.dist c o : Int) ≤ d) = true := decide_eq_true hle
          clear hN hb hoc hle
          go_wp2_with fail
          refine (HDo.out _).mono ?_
          rintro e w3 ⟨rfl, hx3⟩
          have hown3 := hown.ext hx3
          have hx23 := hxr.trans hx3
          have hsz3 := hx23.size
          have hc3 := HC3.out w3 hx3
          clear hcell
          generalize (Gl.dist c o : Int) = dn at *
          go_wp2_with (at_builtin; refine append_byte rfl _ _ rfl w2.heap.size _ got rfl (hown3.alloc _) _ o rfl ?c1 ?c2 ?c3 ?_)
          case c1 => simp [go_sem, encB]
          case c2 => omega
          case c3 => (try simp); omega
          intro v' w5 hown5 hg5
          have hx5 := (hx23.alloc _).ofGrown hg5 hown3.low
          clear hown hown3 hg5 hx3 hx23 hxr
          go_wp2
          go_roundw
          case rel => exact ⟨i + 1, by omega, by go_num, by rw [HN'.out, List.map_append]; exact hown5, hx5⟩
          case measure => simp [intOf]; omega
        · have hb : Gl.nearP c d o = false := by unfold Gl.nearP; simp [hle]
          rw [hb, if_neg (by simp), List.append_nil] at hN
          have HN' := Lib.hid hN
          have dl : decide ((Gl.dist c o : Int) ≤ d) = false := decide_eq_false hle
          clear hN hb hoc hle
          go_wp2_with fail
          refine (HDo.out _).mono ?_
          rintro e w3 ⟨rfl, hx3⟩
          have hown3 := hown.ext hx3
          have hx23 := hxr.trans hx3
          have hc3 := HC3.out w3 hx3
          generalize (Gl.dist c o : Int) = dn at *
          clear hown hx3 hxr hcell
          go_wp2
          go_roundw
          case rel => exact ⟨i + 1, by omega, by go_num, by rw [HN'.out]; exact hown3, hx23⟩
          case measure => simp [intOf]; omega
    · obtain rfl : i = 62 := by omega
      rw [HALL.out] at hown
      have HX := Lib.hid (HX2.out.trans hxr)
      clear hi hlt hxr
      go_wp2
      go_ret2
      exact ⟨_, rfl, hown.mono hsz2, HX.out⟩
end Go.Proofs.YtamkgbodifjlaaaGreatDoor
