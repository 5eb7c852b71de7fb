/-
  Chapter 12: the reference's Pattern, walked; the law TwowidthPatterns.
  No condition.
-/
import Derived.Test.YthjlnpcaclfopaaGreatTwR3
namespace Go.Proofs.YthjlnpcaclfopaaGreat
open Go.RowKit

def PatO (r : List Bool × Int) (w : World) (e : Ending) (w' : World) : Prop := ∃ v, e = .returned (.tuple #[v, .int .i64 r.2]) ∧ SlN w' w.heap.size v (r.1.map encT) ∧ Ext w w'

set_option maxRecDepth 100000 in
set_option maxHeartbeats 4000000 in
theorem rpat_6 (c : UInt8) (w : World) : Calls Tryz.prog 21 #[.int .i64 6, .int .u8 (c.toNat : Int)] w (PatO (Tw.patB 1 c) w) := by
  have HE := seven_eq ⟨c.toNat, c.toNat_lt⟩
  simp only [ofNat_toNat] at HE
  rw [HE]
  have HP : Hid (∀ w, Calls Tryz.prog 40 #[.string ⟨#[48, 49, 50, 51, 52, 53, 54, 55, 56, 57, 45, 36, 58, 47, 46, 43, 65, 66, 67, 68]⟩, .int .u8 (c.toNat : Int)] w fun e w' => e = .returned (.int .i64 (Lib.indexByte Tw.cCb c)) ∧ w = w') := Lib.hid (fun w => place_lit Tw.cCb c (by decide) w)
  by_cases h : 0 ≤ Lib.indexByte Tw.cCb c
  · rw [if_pos h]
    obtain ⟨a, ha⟩ := Int.eq_ofNat_of_zero_le h
    have hal := index_lt _ _ _ ha
    rw [show Tw.cCb.length = 20 from rfl] at hal
    rw [ha] at HP ⊢
    rw [Int.toNat_natCast]
    have hcl : (cutB sevens a 7).length = 7 := by
      unfold cutB; rw [List.length_map, List.length_take, List.length_drop, show sevens.length = 140 from rfl]; omega
    have HC := Lib.hid (fun w => cut_7 ⟨sevens.toArray⟩ a w (by rw [show (⟨sevens.toArray⟩ : ByteArray).size = 140 from rfl]; omega) (by omega))
    rw [show (⟨sevens.toArray⟩ : ByteArray).data.toList = sevens from rfl] at HC
    generalize cutB sevens a 7 = bits at *
    have d1 : decide (0 ≤ (a : Int)) = true := by simp
    clear h ha HE
    go_enter Tryz.func21, Tryz.ntmps21
    go_wp2_with fail
    refine (HP.out _).mono ?_
    rintro e w1 ⟨rfl, rfl⟩
    go_wp2_with fail
    refine (HC.out _).mono ?_
    rintro e w1 ⟨v, rfl, hown, hx1⟩
    have hsl := SlN.ofOwn hown
    obtain ⟨a1, c1, rfl⟩ := hsl.1.form
    rw [List.length_map, hcl] at hsl ⊢
    clear hown
    go_wp2
    go_ret2
    exact ⟨_, rfl, hsl, hx1⟩
  · rw [if_neg h]
    generalize Lib.indexByte Tw.cCb c = y at *
    have d1 : decide (0 ≤ y) = false := by simp; omega
    clear h HE
    go_enter Tryz.func21, Tryz.ntmps21
    go_wp2_with fail
    refine (HP.out _).mono ?_
    rintro e w1 ⟨rfl, rfl⟩
    go_wp2
    go_ret2
    exact ⟨.slice none 0 0, rfl, SlN.nil _ _, Ext.refl _⟩

set_option maxRecDepth 100000 in
set_option maxHeartbeats 4000000 in
theorem rpat_7 (c : UInt8) (w : World) : Calls Tryz.prog 21 #[.int .i64 7, .int .u8 (c.toNat : Int)] w (PatO (Tw.patB 2 c) w) := by
  have HE := five_eq ⟨c.toNat, c.toNat_lt⟩
  simp only [ofNat_toNat] at HE
  rw [HE]
  have HP : Hid (∀ w, Calls Tryz.prog 40 #[.string ⟨#[49, 50, 51, 52, 53, 54, 55, 56, 57, 48]⟩, .int .u8 (c.toNat : Int)] w fun e w' => e = .returned (.int .i64 (Lib.indexByte onesFirst c)) ∧ w = w') := Lib.hid (fun w => place_lit onesFirst c (by decide) w)
  by_cases h : 0 ≤ Lib.indexByte onesFirst c
  · rw [if_pos h]
    obtain ⟨a, ha⟩ := Int.eq_ofNat_of_zero_le h
    have hal := index_lt _ _ _ ha
    rw [show onesFirst.length = 10 from rfl] at hal
    rw [ha] at HP ⊢
    rw [Int.toNat_natCast]
    have hcl : (cutB fives a 5).length = 5 := by
      unfold cutB; rw [List.length_map, List.length_take, List.length_drop, show fives.length = 50 from rfl]; omega
    have HC := Lib.hid (fun w => cut_5 ⟨fives.toArray⟩ a w (by rw [show (⟨fives.toArray⟩ : ByteArray).size = 50 from rfl]; omega) (by omega))
    rw [show (⟨fives.toArray⟩ : ByteArray).data.toList = fives from rfl] at HC
    generalize cutB fives a 5 = bits at *
    have d1 : decide (0 ≤ (a : Int)) = true := by simp
    clear h ha HE
    go_enter Tryz.func21, Tryz.ntmps21
    go_wp2_with fail
    refine (HP.out _).mono ?_
    rintro e w1 ⟨rfl, rfl⟩
    go_wp2_with fail
    refine (HC.out _).mono ?_
    rintro e w1 ⟨v, rfl, hown, hx1⟩
    have hsl := SlN.ofOwn hown
    obtain ⟨a1, c1, rfl⟩ := hsl.1.form
    rw [List.length_map, hcl] at hsl ⊢
    clear hown
    go_wp2
    go_ret2
    exact ⟨_, rfl, hsl, hx1⟩
  · rw [if_neg h]
    generalize Lib.indexByte onesFirst c = y at *
    have d1 : decide (0 ≤ y) = false := by simp; omega
    clear h HE
    go_enter Tryz.func21, Tryz.ntmps21
    go_wp2_with fail
    refine (HP.out _).mono ?_
    rintro e w1 ⟨rfl, rfl⟩
    go_wp2
    go_ret2
    exact ⟨.slice none 0 0, rfl, SlN.nil _ _, Ext.refl _⟩

set_option maxRecDepth 100000 in
set_option maxHeartbeats 4000000 in
theorem rpat_5 (c : UInt8) (w : World) : Calls Tryz.prog 21 #[.int .i64 5, .int .u8 (c.toNat : Int)] w (PatO (Tw.patB 0 c) w) := by
  have HE := nine_eq ⟨c.toNat, c.toNat_lt⟩
  simp only [ofNat_toNat] at HE
  rw [HE]
  have HN := Lib.hid (fun w => nine_any c w)
  have hl := nineF_len c
  by_cases h : nineF c = []
  · rw [if_pos h]
    rw [h] at HN
    clear h HE hl
    go_enter Tryz.func21, Tryz.ntmps21
    go_wp2_with fail
    refine (HN.out _).mono ?_
    rintro e w1 ⟨v, rfl, hsl, hx1⟩
    obtain ⟨a1, c1, rfl⟩ := hsl.1.form
    simp only [List.map_nil, List.length_nil]
    clear hsl
    go_wp2
    go_ret2
    exact ⟨.slice none 0 0, rfl, SlN.nil _ _, hx1⟩
  · rw [if_neg h]
    have hp : 0 < (nineF c).length := List.length_pos_iff.2 h
    have d1 : (((nineF c).length : Int) == 0) = false := by rw [beq_eq_false_iff_ne]; omega
    generalize nineF c = bits at *
    clear h HE
    go_enter Tryz.func21, Tryz.ntmps21
    go_wp2_with fail
    refine (HN.out _).mono ?_
    rintro e w1 ⟨v, rfl, hsl, hx1⟩
    obtain ⟨a1, c1, rfl⟩ := hsl.1.form
    rw [List.length_map] at hsl ⊢
    go_wp2
    go_ret2
    exact ⟨_, rfl, hsl, hx1⟩

set_option maxHeartbeats 1000000 in
theorem rpato_any (kind : Int) (c : UInt8) (w : World) : Calls Tryz.prog 21 #[.int .i64 kind, .int .u8 (c.toNat : Int)] w (PatO (Tw.ptn kind c) w) := by
  unfold Tw.ptn
  split
  · rename_i h; subst h; exact rpat_5 c w
  split
  · rename_i h; subst h; exact rpat_6 c w
  split
  · rename_i h; subst h; exact rpat_7 c w
  rename_i h5 h6 h7
  have d5 : (kind == 5) = false := beq_eq_false_iff_ne.2 h5
  have d6 : (kind == 6) = false := beq_eq_false_iff_ne.2 h6
  have d7 : (kind == 7) = false := beq_eq_false_iff_ne.2 h7
  clear h5 h6 h7
  go_enter Tryz.func21, Tryz.ntmps21
  go_wp2
  go_ret2
  exact ⟨.slice none 0 0, rfl, SlN.nil _ _, Ext.refl _⟩

theorem rpat_any (kind : Int) (c : UInt8) (w : World) : Calls Tryz.prog 21 #[.int .i64 kind, .int .u8 (c.toNat : Int)] w (PatR (Tw.ptn kind c) w) :=
  (rpato_any kind c w).mono (by rintro e w1 ⟨v, h1, h2, h3⟩; exact ⟨v, h1, h2.1, h3⟩)

theorem ptn_len (kind : Int) (c : UInt8) : (Tw.ptn kind c).1.length ≤ 9 := by
  unfold Tw.ptn Tw.patB Tw.bits
  repeat' split
  all_goals first | (simp; done) | (rw [List.length_map]; exact patK_len _ _)

end Go.Proofs.YthjlnpcaclfopaaGreat
