/-
  Chapter 12: the reference's Pattern, walked; the law TwowidthPatterns.
  No condition.
-/
import Derived.Test.YtlocohcbfpeddaaTwR3
namespace Go.Proofs.Ytlocohcbfpeddaa
open Go.RowKit

set_option maxRecDepth 100000 in
set_option maxHeartbeats 4000000 in
theorem rpat_6 (c : UInt8) (w : World) : Calls Try.prog 18 #[.int .i64 6, .int .u8 (c.toNat : Int)] w (PatR (Tw.patB 1 c) w) := by
  have HE := seven_eq ⟨c.toNat, c.toNat_lt⟩
  simp only [ofNat_toNat] at HE
  rw [HE]
  have HP : Hid (∀ w, Calls Try.prog 28 #[.string ⟨#[48, 49, 50, 51, 52, 53, 54, 55, 56, 57, 45, 36, 58, 47, 46, 43, 65, 66, 67, 68]⟩, .int .u8 (c.toNat : Int)] w fun e w' => e = .returned (.int .i64 (Lib.indexByte Tw.cCb c)) ∧ w = w') := Lib.hid (fun w => place_lit Tw.cCb c (by decide) w)
  by_cases h : 0 ≤ Lib.indexByte Tw.cCb c
  · rw [if_pos h]
    obtain ⟨a, ha⟩ := Int.eq_ofNat_of_zero_le h
    have hal := index_lt _ _ _ ha
    rw [show Tw.cCb.length = 20 from rfl] at hal
    rw [ha] at HP ⊢
    rw [Int.toNat_natCast]
    have hcl : (cutB sevens a 7).length = 7 := by
      unfold cutB; rw [List.length_map, List.length_take, List.length_drop, show sevens.length = 140 from rfl]; omega
    have HC := Lib.hid (fun w => cut_7 ⟨sevens.toArray⟩ a w (by rw [show (⟨sevens.toArray⟩ : ByteArray).size = 140 from rfl]; omega) (by omega))
    rw [show (⟨sevens.toArray⟩ : ByteArray).data.toList = sevens from rfl] at HC
    generalize cutB sevens a 7 = bits at *
    have d1 : decide (0 ≤ (a : Int)) = true := by simp
    clear h ha HE
    go_enter Try.func18, Try.ntmps18
    go_wp2_with fail
    refine (HP.out _).mono ?_
    rintro e w1 ⟨rfl, rfl⟩
    go_wp2_with fail
    refine (HC.out _).mono ?_
    rintro e w1 ⟨v, rfl, hown, hx1⟩
    have hsl := hown.sl
    obtain ⟨a1, c1, rfl⟩ := hsl.form
    rw [List.length_map, hcl] at hsl ⊢
    clear hown
    go_wp2
    go_ret2
    exact ⟨_, rfl, hsl, hx1⟩
  · rw [if_neg h]
    generalize Lib.indexByte Tw.cCb c = y at *
    have d1 : decide (0 ≤ y) = false := by simp; omega
    clear h HE
    go_enter Try.func18, Try.ntmps18
    go_wp2_with fail
    refine (HP.out _).mono ?_
    rintro e w1 ⟨rfl, rfl⟩
    go_wp2
    go_ret2
    exact ⟨.slice none 0 0, rfl, sl_nil _, Ext.refl _⟩

set_option maxRecDepth 100000 in
set_option maxHeartbeats 4000000 in
theorem rpat_7 (c : UInt8) (w : World) : Calls Try.prog 18 #[.int .i64 7, .int .u8 (c.toNat : Int)] w (PatR (Tw.patB 2 c) w) := by
  have HE := five_eq ⟨c.toNat, c.toNat_lt⟩
  simp only [ofNat_toNat] at HE
  rw [HE]
  have HP : Hid (∀ w, Calls Try.prog 28 #[.string ⟨#[49, 50, 51, 52, 53, 54, 55, 56, 57, 48]⟩, .int .u8 (c.toNat : Int)] w fun e w' => e = .returned (.int .i64 (Lib.indexByte onesFirst c)) ∧ w = w') := Lib.hid (fun w => place_lit onesFirst c (by decide) w)
  by_cases h : 0 ≤ Lib.indexByte onesFirst c
  · rw [if_pos h]
    obtain ⟨a, ha⟩ := Int.eq_ofNat_of_zero_le h
    have hal := index_lt _ _ _ ha
    rw [show onesFirst.length = 10 from rfl] at hal
    rw [ha] at HP ⊢
    rw [Int.toNat_natCast]
    have hcl : (cutB fives a 5).length = 5 := by
      unfold cutB; rw [List.length_map, List.length_take, List.length_drop, show fives.length = 50 from rfl]; omega
    have HC := Lib.hid (fun w => cut_5 ⟨fives.toArray⟩ a w (by rw [show (⟨fives.toArray⟩ : ByteArray).size = 50 from rfl]; omega) (by omega))
    rw [show (⟨fives.toArray⟩ : ByteArray).data.toList = fives from rfl] at HC
    generalize cutB fives a 5 = bits at *
    have d1 : decide (0 ≤ (a : Int)) = true := by simp
    clear h ha HE
    go_enter Try.func18, Try.ntmps18
    go_wp2_with fail
    refine (HP.out _).mono ?_
    rintro e w1 ⟨rfl, rfl⟩
    go_wp2_with fail
    refine (HC.out _).mono ?_
    rintro e w1 ⟨v, rfl, hown, hx1⟩
    have hsl := hown.sl
    obtain ⟨a1, c1, rfl⟩ := hsl.form
    rw [List.length_map, hcl] at hsl ⊢
    clear hown
    go_wp2
    go_ret2
    exact ⟨_, rfl, hsl, hx1⟩
  · rw [if_neg h]
    generalize Lib.indexByte onesFirst c = y at *
    have d1 : decide (0 ≤ y) = false := by simp; omega
    clear h HE
    go_enter Try.func18, Try.ntmps18
    go_wp2_with fail
    refine (HP.out _).mono ?_
    rintro e w1 ⟨rfl, rfl⟩
    go_wp2
    go_ret2
    exact ⟨.slice none 0 0, rfl, sl_nil _, Ext.refl _⟩

set_option maxRecDepth 100000 in
set_option maxHeartbeats 4000000 in
theorem rpat_5 (c : UInt8) (w : World) : Calls Try.prog 18 #[.int .i64 5, .int .u8 (c.toNat : Int)] w (PatR (Tw.patB 0 c) w) := by
  have HE := nine_eq ⟨c.toNat, c.toNat_lt⟩
  simp only [ofNat_toNat] at HE
  rw [HE]
  have HN := Lib.hid (fun w => nine_any c w)
  have hl := nineF_len c
  by_cases h : nineF c = []
  · rw [if_pos h]
    rw [h] at HN
    clear h HE hl
    go_enter Try.func18, Try.ntmps18
    go_wp2_with fail
    refine (HN.out _).mono ?_
    rintro e w1 ⟨v, rfl, hsl, hx1⟩
    obtain ⟨a1, c1, rfl⟩ := hsl.form
    simp only [List.map_nil, List.length_nil]
    clear hsl
    go_wp2
    go_ret2
    exact ⟨.slice none 0 0, rfl, sl_nil _, hx1⟩
  · rw [if_neg h]
    have hp : 0 < (nineF c).length := List.length_pos_iff.2 h
    have d1 : (((nineF c).length : Int) == 0) = false := by rw [beq_eq_false_iff_ne]; omega
    generalize nineF c = bits at *
    clear h HE
    go_enter Try.func18, Try.ntmps18
    go_wp2_with fail
    refine (HN.out _).mono ?_
    rintro e w1 ⟨v, rfl, hsl, hx1⟩
    obtain ⟨a1, c1, rfl⟩ := hsl.form
    rw [List.length_map] at hsl ⊢
    go_wp2
    go_ret2
    exact ⟨_, rfl, hsl, hx1⟩

set_option maxHeartbeats 1000000 in
theorem rpat_any (kind : Int) (c : UInt8) (w : World) : Calls Try.prog 18 #[.int .i64 kind, .int .u8 (c.toNat : Int)] w (PatR (Tw.ptn kind c) w) := by
  unfold Tw.ptn
  split
  · rename_i h; subst h; exact rpat_5 c w
  split
  · rename_i h; subst h; exact rpat_6 c w
  split
  · rename_i h; subst h; exact rpat_7 c w
  rename_i h5 h6 h7
  have d5 : (kind == 5) = false := beq_eq_false_iff_ne.2 h5
  have d6 : (kind == 6) = false := beq_eq_false_iff_ne.2 h6
  have d7 : (kind == 7) = false := beq_eq_false_iff_ne.2 h7
  clear h5 h6 h7
  go_enter Try.func18, Try.ntmps18
  go_wp2
  go_ret2
  exact ⟨.slice none 0 0, rfl, sl_nil _, Ext.refl _⟩

theorem ptn_len (kind : Int) (c : UInt8) : (Tw.ptn kind c).1.length ≤ 9 := by
  unfold Tw.ptn Tw.patB Tw.bits
  repeat' split
  all_goals first | (simp; done) | (rw [List.length_map]; exact patK_len _ _)

set_option maxRecDepth 100000 in
set_option maxHeartbeats 4000000 in
theorem law_patterns (kind : Int) (c : UInt8) (w : World) :
    Calls Try.prog 8 #[.int .i64 kind, .int .u8 (c.toNat : Int)] w fun e w' => e = .returned (.bool true) ∧ Ext w w' := by
  have H1 := Lib.hid (fun w => ptn_any kind c w)
  have H2 := Lib.hid (fun w => rpat_any kind c w)
  have hl := ptn_len kind c
  generalize Tw.ptn kind c = r at *
  obtain ⟨bs, x⟩ := r
  simp only at hl
  have HS : Hid (∀ w u v, Sl w u (bs.map encT) → Sl w v (bs.map encT) → Calls Try.prog 19 #[u, v] w fun e w' => e = .returned (.bool true) ∧ Ext w w') := Lib.hid (fun w u v h1 h2 => by
    have := sameBits_any u v bs bs w h1 h2 (by omega) (by omega)
    rw [decide_eq_true rfl] at this; exact this)
  have b1 : (x == x) = true := beq_self_eq_true _
  go_enter Try.func8, Try.ntmps8
  go_wp2_with fail
  refine (H1.out _).mono ?_
  rintro e w1 ⟨v1, rfl, s1, x1⟩
  go_wp2_with fail
  refine (H2.out _).mono ?_
  rintro e w2 ⟨v2, rfl, s2, x2⟩
  simp only at s1 s2
  have S1 := Lib.hid (s1.ext x2)
  have S2 := Lib.hid s2
  clear s1 s2
  go_wp2_with fail
  refine (HS.out _ _ _ S1.out S2.out).mono ?_
  rintro e w3 ⟨rfl, x3⟩
  go_wp2_with fail
  refine (example_any _).mono ?_
  rintro e w4 ⟨rfl, x4⟩
  go_wp2
  go_ret
  exact ⟨rfl, ((x1.trans x2).trans x3).trans x4⟩
theorem law_patterns' (kind a : Int) (w : World) (ha : 0 ≤ a ∧ a ≤ 255) :
    Calls Try.prog 8 #[.int .i64 kind, .int .u8 a] w fun e w' => e = .returned (.bool true) ∧ Ext w w' := by
  have e1 : ((UInt8.ofNat a.toNat).toNat : Int) = a := by simp; omega
  have := law_patterns kind (UInt8.ofNat a.toNat) w
  rw [e1] at this; exact this
end Go.Proofs.Ytlocohcbfpeddaa
