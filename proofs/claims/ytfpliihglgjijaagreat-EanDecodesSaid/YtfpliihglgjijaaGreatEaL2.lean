/-
  Chapter 11: EanDigits, EanEncodes, EanTexts, walked.
  Condition: strings within the reach.
-/
import Derived.Test.YtfpliihglgjijaaGreatEaL1
import Derived.Test.YtfpliihglgjijaaGreatEaXo
namespace Go.Proofs.YtfpliihglgjijaaGreat
set_option linter.unusedVariables false
open Go.RowKit

theorem equal_any (v u : Value) (l m : List Bool) (w : World) (hv : SlK w v (l.map encT)) (hu : SlK w u (m.map encT)) (hl : l.length ≤ 1000000) (hm : m.length ≤ 1000000) :
    Calls Tryz.prog 13 #[v, u] w fun e w' => e = .returned (.bool (decide (l = m))) ∧ Ext w w' := by
  have H := Lib.hid (xEqual_any v u l m w hv hu hl hm)
  obtain ⟨_, a, c, rfl, _⟩ := hv
  obtain ⟨_, b, d, rfl, _⟩ := hu
  rw [List.length_map, List.length_map] at H ⊢
  go_enter Tryz.func13, Tryz.ntmps13
  go_wp2_with fail
  refine H.out.mono ?_
  rintro e w1 ⟨rfl, hx⟩
  go_wp2
  go_ret
  exact ⟨rfl, hx⟩
theorem equal_same (v u : Value) (l : List Bool) (w : World) (hv : SlK w v (l.map encT)) (hu : SlK w u (l.map encT)) (hl : l.length ≤ 1000000) :
    Calls Tryz.prog 13 #[v, u] w fun e w' => e = .returned (.bool true) ∧ Ext w w' :=
  (equal_any v u l l w hv hu hl hl).mono fun _ _ ⟨h1, h2⟩ => ⟨by rw [h1, decide_eq_true rfl], h2⟩

theorem dgts_len (d t : Int) : (Ea.dgts d t).1.length ≤ 1000000 := by
  unfold Ea.dgts
  split
  · simp
  · rename_i h
    obtain ⟨dn, rfl⟩ := Int.eq_ofNat_of_zero_le (show 0 ≤ d by omega)
    obtain ⟨tn, rfl⟩ := Int.eq_ofNat_of_zero_le (show 0 ≤ t by omega)
    have := modl_len7 ⟨tn, by omega⟩ ⟨dn, by omega⟩
    simp only [Int.toNat_natCast]
    dsimp only at this
    omega
set_option maxRecDepth 100000 in
set_option maxHeartbeats 1000000 in
theorem law_digits (d t : Int) (w : World) :
    Calls Tryz.prog 10 #[.int .i64 d, .int .i64 t] w fun e w' => e = .returned (.bool true) ∧ Ext w w' := by
  have H1 := Lib.hid (fun w => eDigits_any d t w)
  have H2 := Lib.hid (fun w => xDigits_any d t w)
  have HL := Lib.hid (dgts_len d t)
  generalize Ea.dgts d t = res at *
  obtain ⟨m, er⟩ := res
  have HX := Lib.hid examples_any
  go_enter Tryz.func10, Tryz.ntmps10
  go_wp2_with fail
  refine (H1.out _).mono ?_
  rintro e w1 ⟨v1, rfl, hv1, hx1⟩
  dsimp only at hv1 ⊢
  go_wp2_with fail
  refine (H2.out _).mono ?_
  rintro e w2 ⟨v2, rfl, hv2, hx2⟩
  dsimp only at hv2 ⊢
  have HQ := Lib.hid (equal_same v1 v2 m w2 (hv1.ext hx2) hv2 HL.out)
  go_wp2_with fail
  refine HQ.out.mono ?_
  rintro e w3 ⟨rfl, hx3⟩
  go_wp2_with fail
  refine (HX.out _).mono ?_
  rintro e w4 ⟨rfl, hx4⟩
  go_wp2
  go_ret
  exact ⟨rfl, hx1.trans (hx2.trans (hx3.trans hx4))⟩

theorem enc_len (k : Int) (l a : List UInt8) : (Ea.enc k l a).1.length ≤ 1000000 := by
  unfold Ea.enc
  split
  · simp
  split
  · simp
  split
  · simp
  rename_i h1 h2 h3
  have hf : Ea.full k l = 0 := by omega
  have hs := sym_len hf
  have hlq : Ea.lq k ≤ 11 := by unfold Ea.lq; (repeat' split) <;> omega
  have hrq : Ea.rq k ≤ 9 := by unfold Ea.rq; (repeat' split) <;> omega
  split
  · simp [Ea.lgt]; omega
  · rename_i h4
    have hw := Ea.addn_len (a := a) (by simpa using h2) (by omega)
    have hw2 : Ea.wAdd a.length ≤ 47 := by unfold Ea.wAdd; (repeat' split) <;> omega
    simp [Ea.lgt]; omega
set_option maxRecDepth 100000 in
set_option maxHeartbeats 1000000 in
theorem law_encodes (k : Int) (s a : ByteArray) (hs : s.size ≤ 9223372036854775807) (ha : a.size ≤ 9223372036854775807) (w : World) :
    Calls Tryz.prog 3 #[.int .i64 k, .string s, .string a] w fun e w' => e = .returned (.bool true) ∧ Ext w w' := by
  have H1 := Lib.hid (fun w => eEncode_any k s a hs ha w)
  have H2 := Lib.hid (fun w => xEncode_any k s a hs ha w)
  have HL := Lib.hid (enc_len k s.data.toList a.data.toList)
  generalize Ea.enc k s.data.toList a.data.toList = res at *
  obtain ⟨m, er⟩ := res
  have HX := Lib.hid examples_any
  go_enter Tryz.func3, Tryz.ntmps3
  go_wp2_with fail
  refine (H1.out _).mono ?_
  rintro e w1 ⟨v1, rfl, hv1, hx1⟩
  dsimp only at hv1 ⊢
  go_wp2_with fail
  refine (H2.out _).mono ?_
  rintro e w2 ⟨v2, rfl, hv2, hx2⟩
  dsimp only at hv2 ⊢
  have HQ := Lib.hid (equal_same v1 v2 m w2 (hv1.ext hx2) hv2 HL.out)
  go_wp2_with fail
  refine HQ.out.mono ?_
  rintro e w3 ⟨rfl, hx3⟩
  go_wp2_with fail
  refine (HX.out _).mono ?_
  rintro e w4 ⟨rfl, hx4⟩
  go_wp2
  go_ret
  exact ⟨rfl, hx1.trans (hx2.trans (hx3.trans hx4))⟩

set_option maxRecDepth 100000 in
set_option maxHeartbeats 1000000 in
theorem law_texts (k : Int) (s : ByteArray) (hs : s.size ≤ 9223372036854775807) (w : World) :
    Calls Tryz.prog 5 #[.int .i64 k, .string s] w fun e w' => e = .returned (.bool true) ∧ Ext w w' := by
  have H1 := Lib.hid (fun w => eComplete_any k s hs w)
  have H2 := Lib.hid (fun w => xComplete_any k s hs w)
  have H3 := Lib.hid (fun w => eCompress_any s hs w)
  have H4 := Lib.hid (fun w => xCompress_any s hs w)
  have H5 := Lib.hid (fun w => eExpand_any s hs w)
  have H6 := Lib.hid (fun w => xExpand_any s hs w)
  unfold strE at H1 H2 H3 H4 H5 H6
  generalize Ea.bS (Ea.comp k s.data.toList).1 = A at *
  generalize (Ea.comp k s.data.toList).2 = ae at *
  generalize Ea.bS (Ea.cprs s.data.toList).1 = B at *
  generalize (Ea.cprs s.data.toList).2 = be at *
  generalize Ea.bS (Ea.expd s.data.toList).1 = C at *
  generalize (Ea.expd s.data.toList).2 = ce at *
  have HX := Lib.hid examples_any
  go_enter Tryz.func5, Tryz.ntmps5
  go_wp2_with fail
  refine (H1.out _).mono ?_
  rintro e w1 ⟨rfl, hx1⟩
  go_wp2_with fail
  refine (H2.out _).mono ?_
  rintro e w2 ⟨rfl, hx2⟩
  go_wp2_with fail
  refine (H3.out _).mono ?_
  rintro e w3 ⟨rfl, hx3⟩
  go_wp2_with fail
  refine (H4.out _).mono ?_
  rintro e w4 ⟨rfl, hx4⟩
  go_wp2_with fail
  refine (H5.out _).mono ?_
  rintro e w5 ⟨rfl, hx5⟩
  go_wp2_with fail
  refine (H6.out _).mono ?_
  rintro e w6 ⟨rfl, hx6⟩
  go_wp2_with fail
  refine (HX.out _).mono ?_
  rintro e w7 ⟨rfl, hx7⟩
  go_wp2
  go_ret
  exact ⟨rfl, hx1.trans (hx2.trans (hx3.trans (hx4.trans (hx5.trans (hx6.trans hx7)))))⟩
end Go.Proofs.YtfpliihglgjijaaGreat
