/-
  Chapter 12: the examples of the chapter hold: 'exampleHolds' returns true in every world.
  No condition.
-/
import Derived.Test.YthjlnpcaclfopaaGreatTwEx
namespace Go.Proofs.YthjlnpcaclfopaaGreat
open Go.RowKit

theorem sl_lit (W : World) (t : TypeId) (xs : List Value) : Sl (W.alloc (.cells xs.toArray t)) (.slice (some ⟨W.heap.size, 0, none⟩) xs.length xs.length) xs := by
  refine .inr ⟨W.heap.size, 0, _, rfl, by simp, fun i hi => ?_⟩
  rw [Nat.zero_add, World.cell?_alloc_mark]
  simp

def exA : List Int := [1, 1, 1, 1, 2, 1, 1, 1, 1, 2, 1, 2, 2, 1, 2, 1, 1]
def exB : List Int := [1, 3, 1, 1, 3, 1, 3, 1, 1, 1, 3, 1, 1, 1, 1, 3, 1, 1, 3, 1, 1, 3, 1, 1, 3, 1, 3, 1, 1]
def exC : List Int := (Tw.enc 6 [65, 49, 66] 2 true).1
theorem ex1 : Tw.enc 7 [49, 48] 2 false = (exA, 0) := by decide +kernel
theorem ex2 : Tw.enc 5 [65] 3 false = (exB, 0) := by decide +kernel
theorem ex3 : Tw.enc 6 [65, 49, 66] 2 true = (exC, 0) := by decide +kernel
theorem ex4 : Tw.enc 6 [65, 49, 46, 66] 2 false = (exC, 0) := by decide +kernel
theorem ex3l : exC.length ≤ 1000 := by decide +kernel
theorem ex5 : Tw.dec 5 exB false = ([65], 0) := by decide +kernel
theorem ex6 : Tw.dec 6 exC true = ([65, 49, 66], 0) := by decide +kernel
theorem ex7 : Tw.full [97, 44, 66] = ([43, 65, 47, 76, 66], 0) := by decide +kernel
theorem ex8 : Tw.plain [43, 65, 47, 76, 66] = ([97, 44, 66], 0) := by decide +kernel
theorem ex9 : Tw.plain [36, 49] = ([], 9) := by decide +kernel

theorem encode_at (kind : Int) (s : ByteArray) (r : Int) (check : Bool) (addon : ByteArray) (l : List Int) (x : Int) (hs : s.size ≤ 1000) (h : Tw.enc kind s.data.toList r check = (l, x)) (w : World) :
    Calls Tryz.prog 7 #[.int .i64 kind, .string s, .agg #[.int .i64 r, .bool check, .string addon]] w (EncR (l, x) w) := h ▸ encode_any kind s r check addon w (by omega)
theorem decode_at (kind : Int) (v : Value) (ws : List Int) (check : Bool) (l : List UInt8) (x : Int) (h : Tw.dec kind ws check = (l, x)) (hl : ws.length ≤ 1000) (w : World) (hv : Sl w v (ws.map encI)) :
    Calls Tryz.prog 11 #[.int .i64 kind, v, .bool check] w (DecR (l, x) w) := h ▸ decode_any kind v ws check w hv (by omega)
theorem full_at (s : ByteArray) (l : List UInt8) (x : Int) (hs : s.size ≤ 1000) (h : Tw.full s.data.toList = (l, x)) (w : World) : Calls Tryz.prog 14 #[.string s] w (DecR (l, x) w) := h ▸ full_any s w (by omega)
theorem plain_at (s : ByteArray) (l : List UInt8) (x : Int) (hs : s.size ≤ 1000) (h : Tw.plain s.data.toList = (l, x)) (w : World) : Calls Tryz.prog 16 #[.string s] w (DecR (l, x) w) := h ▸ plain_any s w (by omega)
theorem same_true (u v : Value) (xs ys : List Int) (h : xs = ys) (hx : xs.length ≤ 1000) (w : World) (hu : Sl w u (xs.map encI)) (hv : Sl w v (ys.map encI)) :
    Calls Tryz.prog 10 #[u, v] w fun e w' => e = .returned (.bool true) ∧ Ext w w' := by
  subst h
  have := same_any u v xs xs w hu hv (by omega) (by omega)
  rw [decide_eq_true rfl] at this; exact this

set_option maxRecDepth 100000 in
set_option maxHeartbeats 4000000 in
theorem example_any (w : World) : Calls Tryz.prog 6 #[] w fun e w' => e = .returned (.bool true) ∧ Ext w w' := by
  have H1 := Lib.hid (encode_at 7 ⟨#[49, 48]⟩ 2 false ⟨#[]⟩ exA 0 (by decide) ex1)
  have H2 := Lib.hid (encode_at 5 ⟨#[65]⟩ 3 false ⟨#[]⟩ exB 0 (by decide) ex2)
  have H3 := Lib.hid (encode_at 6 ⟨#[65, 49, 66]⟩ 2 true ⟨#[]⟩ exC 0 (by decide) ex3)
  have H4 := Lib.hid (encode_at 6 ⟨#[65, 49, 46, 66]⟩ 2 false ⟨#[]⟩ exC 0 (by decide) ex4)
  have H5 := Lib.hid (fun w v hv => decode_at 5 v exB false [65] 0 ex5 (by decide) w hv)
  have H6 := Lib.hid (fun w v hv => decode_at 6 v exC true [65, 49, 66] 0 ex6 ex3l w hv)
  have H7 := Lib.hid (full_at ⟨#[97, 44, 66]⟩ [43, 65, 47, 76, 66] 0 (by decide) ex7)
  have H8 := Lib.hid (plain_at ⟨#[43, 65, 47, 76, 66]⟩ [97, 44, 66] 0 (by decide) ex8)
  have H9 := Lib.hid (plain_at ⟨#[36, 49]⟩ [] 9 (by decide) ex9)
  go_enter Tryz.func6, Tryz.ntmps6
  go_wp2_with fail
  refine (H1.out _).mono ?_
  rintro e w1 ⟨v1, rfl, s1, x1⟩
  go_wp2_with fail
  refine (H2.out _).mono ?_
  rintro e w2 ⟨v2, rfl, s2, x2⟩
  go_wp2_with fail
  refine (H3.out _).mono ?_
  rintro e w3 ⟨v3, rfl, s3, x3⟩
  go_wp2_with fail
  refine (H4.out _).mono ?_
  rintro e w4 ⟨v4, rfl, s4, x4⟩
  go_wp2_with fail
  refine (same_true v3 v4 exC exC rfl ex3l _ (s3.ext x4) s4).mono ?_
  rintro e w5 ⟨rfl, x5⟩
  have y5 := (((x1.trans x2).trans x3).trans x4).trans x5
  replace s1 := (((s1.ext x2).ext x3).ext x4).ext x5
  replace s2 := ((s2.ext x3).ext x4).ext x5
  replace s3 := (s3.ext x4).ext x5
  clear x1 x2 x3 x4 x5 s4 H1 H2 H3 H4
  go_wp2_with fail
  refine (same_true v1 _ exA exA rfl (by decide) _ (s1.ext ((Ext.refl _).alloc _)) (sl_lit w5 3 (exA.map encI))).mono ?_
  rintro e w6 ⟨rfl, x6⟩
  have y6 := (y5.alloc _).trans x6
  have z6 := ((Ext.refl w5).alloc _).trans x6
  replace s2 := s2.ext z6
  replace s3 := s3.ext z6
  clear z6 x6 y5 s1
  go_wp2_with fail
  refine (same_true v2 _ exB exB rfl (by decide) _ (s2.ext ((Ext.refl _).alloc _)) (sl_lit w6 3 (exB.map encI))).mono ?_
  rintro e w7 ⟨rfl, x7⟩
  have y7 := (y6.alloc _).trans x7
  have z7 := ((Ext.refl w6).alloc _).trans x7
  replace s2 := s2.ext z7
  replace s3 := s3.ext z7
  clear z7 x7 y6
  go_wp2_with fail
  refine (H5.out _ v2 s2).mono ?_
  rintro e w8 ⟨rfl, x8⟩
  go_wp2_with fail
  refine (H6.out _ v3 (s3.ext x8)).mono ?_
  rintro e w9 ⟨rfl, x9⟩
  go_wp2_with fail
  refine (H7.out _).mono ?_
  rintro e w10 ⟨rfl, x10⟩
  go_wp2_with fail
  refine (H8.out _).mono ?_
  rintro e w11 ⟨rfl, x11⟩
  go_wp2_with fail
  refine (H9.out _).mono ?_
  rintro e w12 ⟨rfl, x12⟩
  have y12 := ((((y7.trans x8).trans x9).trans x10).trans x11).trans x12
  clear x8 x9 x10 x11 x12 s2 s3 y7
  unfold strV
  go_wp2
  go_ret
  exact ⟨rfl, y12⟩
end Go.Proofs.YthjlnpcaclfopaaGreat
