/-
  Chapter 11: EanRoundTrip, walked.
  Condition: strings within the reach, two bytes.
-/
import Derived.Test.YtfpliihglgjijaaGreatEaL1
import Derived.Test.YtfpliihglgjijaaGreatEaX4
import Derived.Test.YtfpliihglgjijaaGreatAppZ
namespace Go.Proofs.YtfpliihglgjijaaGreat
set_option linter.unusedVariables false
open Go.RowKit

theorem enc_err (k : Int) (l a : List UInt8) (h : (Ea.enc k l a).2 ≠ 0) : (Ea.enc k l a).1 = [] := by
  unfold Ea.enc at h ⊢
  split
  · rfl
  split
  · rfl
  split
  · rfl
  rename_i h1 h2 h3
  rw [if_neg h1, if_neg h2, if_neg h3] at h
  split at h <;> exact absurd rfl h
theorem enc_len2 (k : Int) (l a : List UInt8) (h : (Ea.enc k l a).2 = 0) : 0 < (Ea.enc k l a).1.length ∧ (Ea.enc k l a).1.length ≤ 1000 := by
  obtain ⟨h1, h2, h3, h4⟩ := Ea.enc_body h
  have hb := Ea.body_len h1 h2 h3
  have hq : 7 ≤ Ea.lq k ∧ Ea.lq k ≤ 11 := by unfold Ea.lq; split <;> (try split) <;> omega
  have hr : Ea.rq k ≤ 9 := by unfold Ea.rq; split <;> omega
  have hw : Ea.wOf k ≤ 95 := by unfold Ea.wOf; (repeat' split) <;> omega
  have ha : Ea.wAdd a.length ≤ 47 := by unfold Ea.wAdd; (repeat' split) <;> omega
  rw [h4]
  simp only [Ea.lgt, List.length_append, List.length_replicate, hb]
  (repeat' split) <;> omega
theorem lgt_enc (n : Nat) : (Ea.lgt n).map encT = List.replicate n (.bool false) := by unfold Ea.lgt encT; simp
/-- Row and margins in one slice. -/
theorem wide_eq (L R : Nat) (m : List Bool) : (Ea.lgt L).map encT ++ m.map encT ++ List.replicate R (.bool false) = (Ea.lgt L ++ m ++ Ea.lgt R).map encT := by
  rw [List.map_append, List.map_append, lgt_enc R]
set_option maxRecDepth 100000 in
set_option maxHeartbeats 2000000 in
theorem law_round_err (k : Int) (s a : ByteArray) (l r : Int) (hs : s.size ≤ 9223372036854775807) (ha : a.size ≤ 9223372036854775807) (h0 : (Ea.enc k s.data.toList a.data.toList).2 ≠ 0) (w : World) :
    Calls Tryz.prog 6 #[.int .i64 k, .string s, .string a, .int .u8 l, .int .u8 r] w fun e w' => e = .returned (.bool true) ∧ Ext w w' := by
  have HX := Lib.hid examples_any
  have HE := Lib.hid (eEncode_any k s a hs ha w)
  obtain ⟨⟨m, er⟩, he⟩ : ∃ x, Ea.enc k s.data.toList a.data.toList = x := ⟨_, rfl⟩
  have hm := enc_err k s.data.toList a.data.toList h0
  rw [he] at HE hm h0
  dsimp only at hm h0
  subst hm
  have hb : (er != 0) = true := bne_iff_ne.2 h0
  clear he h0
  go_enter Tryz.func6, Tryz.ntmps6
  go_wp2_with fail
  refine HE.out.mono ?_
  rintro e w1 ⟨v1, rfl, hv1, hx1⟩
  obtain ⟨_, a1, c1, rfl, _⟩ := hv1
  go_wp2_with fail
  refine (HX.out _).mono ?_
  rintro e w2 ⟨rfl, hx2⟩
  go_wp2
  go_ret
  exact ⟨rfl, hx1.trans hx2⟩

set_option maxRecDepth 100000 in
set_option maxHeartbeats 2000000 in
theorem law_round_ok (k : Int) (s a : ByteArray) (L R : Nat) (hL : L < 256) (hR : R < 256) (hs : s.size ≤ 9223372036854775807) (ha : a.size ≤ 9223372036854775807) (h0 : (Ea.enc k s.data.toList a.data.toList).2 = 0) (w : World) :
    Calls Tryz.prog 6 #[.int .i64 k, .string s, .string a, .int .u8 (L : Int), .int .u8 (R : Int)] w fun e w' => e = .returned (.bool true) ∧ Ext w w' := by
  have HX := Lib.hid examples_any
  have HE := Lib.hid (eEncode_any k s a hs ha w)
  have HZ := Lib.hid (Ea.dec_enc h0 L R (by omega) (by omega))
  have HF := Lib.hid (Ea.enc_body h0).1
  have hlen := enc_len2 k s.data.toList a.data.toList h0
  obtain ⟨⟨m, er⟩, he⟩ : ∃ x, Ea.enc k s.data.toList a.data.toList = x := ⟨_, rfl⟩
  rw [he] at HE HZ hlen h0
  dsimp only at HZ hlen h0
  subst h0
  obtain ⟨hm0, hm1⟩ := hlen
  have hmk := run_make_row' (P := Tryz.prog) 23 4 (.bool false) 1 Tryz.underlying23 (by kernel_rfl) rfl .i64 .i64 L (by omega) (by omega)
  clear he
  go_enter Tryz.func6, Tryz.ntmps6
  go_wp2_with fail
  refine HE.out.mono ?_
  rintro e w1 ⟨v1, rfl, hv1, hx1⟩
  dsimp only at hv1 ⊢
  obtain ⟨hsl1, a1, c1, rfl, _⟩ := hv1
  rw [List.length_map] at hsl1 ⊢
  have hownL : Own 4 (w1.alloc (.cells (madeCells #[.bool false] L) 4)) w.heap.size (.slice (some ⟨w1.heap.size, 0, none⟩) L L) ((Ea.lgt L).map encT) :=
    (own_row (World.rowIs_made w1 (.bool false) L 4) hx1.size (by unfold maxLen; omega)).congr (by unfold Ea.lgt encT; apply List.ext_getElem <;> simp)
  rcases hsl1 with ⟨hn0, _⟩ | ⟨b1, o1, c2, heq, hb1, hc1⟩
  · have hn1 := congrArg List.length hn0
    rw [List.length_map] at hn1
    exact absurd hn1 (Nat.ne_of_gt hm0)
  rw [List.length_map] at heq
  injection heq with e1 _ e3
  subst e1 e3
  go_wp2_with (at_builtin; refine wpList_append_vals rfl _ _ 23 4 (.bool false) 1 rfl Tryz.underlying23 (by kernel_rfl) rfl (by decide) w.heap.size _ _ rfl hownL b1 o1 m.length _ (m.map encT) rfl (by simp) ?c1 (enc_one m) ?c2 ?c3 ?_)
  case c1 =>
    intro j u hj
    have hj2 : (m.map encT)[j]? = some u := by
      rw [List.getElem?_map]
      rcases hj with ⟨h1, rfl⟩ | ⟨h1, rfl⟩ <;> rw [h1] <;> rfl
    exact (hc1 j (List.getElem?_eq_some_iff.1 hj2).1).trans hj2
  case c2 => first | omega | (simp [Ea.lgt]; omega)
  case c3 => exact Nat.le_trans hx1.size (Nat.le_succ _)
  intro v3 w3 hown3 hg3
  have hx3 := (hx1.alloc _).ofGrown hg3 hownL.low
  have hl3 : ((Ea.lgt L).map encT ++ m.map encT).length = L + m.length := by simp [Ea.lgt]
  obtain ⟨v4, w4, hr4, hown4, hg4⟩ := run_append_zeros (w := w3) 23 3 23 4 .i64 (.bool false) 1 Tryz.underlying23 Tryz.underlying3 (by kernel_rfl) rfl rfl (by decide) w.heap.size v3 _ hown3 (by rw [hl3]; omega) R (by rw [hl3]; omega) hx3.size
  have hx4 := hx3.ofGrown hg4 hown3.low
  have hsk := hown4.slk
  rw [wide_eq] at hsk
  have HD := Lib.hid (decode_any v4 _ w4 hsk (by simp [Ea.lgt]; omega))
  rw [HZ.out] at HD
  clear hsk hown4 hg4 hx3 hg3 hown3 hownL hc1 hb1 hmk
  go_wp2_with (at_builtin; refine Lib.wpList_append_run _ rfl _ _ 23 3 rfl v3 (.int .i64 (R : Int)) rfl rfl v4 w4 hr4 ?_)
  clear hr4
  go_wp2_with fail
  obtain ⟨K, hK⟩ : ∃ K, Ea.outK k s.data.toList = K := ⟨_, rfl⟩
  obtain ⟨T, hT⟩ : ∃ T, Ea.bS (Ea.outT k s.data.toList) = T := ⟨_, rfl⟩
  obtain ⟨A, hA⟩ : ∃ A, Ea.bS a.data.toList = A := ⟨_, rfl⟩
  unfold gotV linV at HD
  dsimp only at HD
  rw [hK, hT, hA] at HD
  refine HD.out.mono ?_
  rintro e w5 ⟨rfl, hx5⟩
  have hAa : A.toList = a.toList := by rw [Lib.toList_data, Lib.toList_data, ← hA, Ea.bS_list]
  by_cases hk : k = 1
  · subst hk
    have hl13 : s.size = 13 := by
      obtain ⟨_, _, h3, _⟩ := Ea.full_ok HF.out
      rw [← len_data, h3]; rfl
    have hb13 : ((s.size : Int) == 13) = true := by rw [hl13]; rfl
    have h0s : 0 < s.size := by omega
    have hg0 : s.data.toList.getD 0 0 = s[0] := by
      rw [List.getD_eq_getElem?_getD, List.getElem?_eq_getElem (by rw [len_data]; exact h0s)]; rfl
    by_cases h48 : s[0] = 48
    · have hbit : ((s[0].toNat : Int) == 48) = true := by rw [h48]; rfl
      have hK3 : K = 3 := by rw [← hK]; unfold Ea.outK; rw [if_pos ⟨rfl, by rw [hg0]; exact h48⟩]
      have hTd : T.toList = s.toList.drop 1 := by rw [Lib.toList_data, Lib.toList_data, ← hT, Ea.bS_list]; unfold Ea.outT; rw [if_pos ⟨rfl, by rw [hg0]; exact h48⟩]
      have hEx : (s.extract 1 13).toList = s.toList.drop 1 := by
        rw [Lib.toList_data, Lib.toList_data, ByteArray.data_extract, Array.toList_extract]
        have h5 : s.data.toList.length = 13 := by rw [len_data]; exact hl13
        simp only [List.extract_eq_take_drop]
        exact List.take_of_length_le (by rw [List.length_drop]; omega)
      have hn := fun w' => lin_eq w' K 3 T A (s.extract 1 13) a
      rw [hK3, hTd, hEx, hAa] at hn
      subst hK3
      simp only [BEq.rfl, Bool.and_self] at hn
      clear hK hT hA hg0 hTd hAa hEx
      go_wp2_with fail
      refine (HX.out _).mono ?_
      rintro e w6 ⟨rfl, hx6⟩
      go_wp2
      go_ret
      exact ⟨rfl, (hx4.trans hx5).trans ((((Ext.refl w5).alloc _).alloc _).trans hx6)⟩
    · have hbit : ((s[0].toNat : Int) == 48) = false := by
        rw [beq_eq_false_iff_ne]
        intro h
        exact h48 (UInt8.toNat_inj.1 (by show s[0].toNat = 48; omega))
      have hKk : K = 1 := by rw [← hK]; unfold Ea.outK; rw [if_neg (fun h => h48 (by rw [← hg0]; exact h.2))]
      have hTs : T.toList = s.toList := by rw [Lib.toList_data, Lib.toList_data, ← hT, Ea.bS_list]; unfold Ea.outT; rw [if_neg (fun h => h48 (by rw [← hg0]; exact h.2))]
      have hn := fun w' => lin_eq w' K 1 T A s a
      rw [hKk, hTs, hAa] at hn
      subst hKk
      simp only [BEq.rfl, Bool.and_self] at hn
      clear hK hT hA hTs hAa hg0
      go_wp2_with fail
      refine (HX.out _).mono ?_
      rintro e w6 ⟨rfl, hx6⟩
      go_wp2
      go_ret
      exact ⟨rfl, (hx4.trans hx5).trans ((((Ext.refl w5).alloc _).alloc _).trans hx6)⟩
  · have hkb : (k == 1) = false := beq_eq_false_iff_ne.2 hk
    have hKk : K = k := by rw [← hK]; unfold Ea.outK; rw [if_neg (fun h => hk h.1)]
    have hTs : T.toList = s.toList := by rw [Lib.toList_data, Lib.toList_data, ← hT, Ea.bS_list]; unfold Ea.outT; rw [if_neg (fun h => hk h.1)]
    have hn := fun w' => lin_eq w' K k T A s a
    rw [hKk, hTs, hAa] at hn
    subst hKk
    simp only [BEq.rfl, Bool.and_self] at hn
    clear hK hT hA hTs hAa
    go_wp2_with fail
    refine (HX.out _).mono ?_
    rintro e w6 ⟨rfl, hx6⟩
    go_wp2
    go_ret
    exact ⟨rfl, (hx4.trans hx5).trans ((((Ext.refl w5).alloc _).alloc _).trans hx6)⟩

theorem law_round (k : Int) (s a : ByteArray) (l r : Int) (hl : 0 ≤ l ∧ l ≤ 255) (hr : 0 ≤ r ∧ r ≤ 255) (hs : s.size ≤ 9223372036854775807) (ha : a.size ≤ 9223372036854775807) (w : World) :
    Calls Tryz.prog 6 #[.int .i64 k, .string s, .string a, .int .u8 l, .int .u8 r] w fun e w' => e = .returned (.bool true) ∧ Ext w w' := by
  by_cases h0 : (Ea.enc k s.data.toList a.data.toList).2 = 0
  · obtain ⟨L, rfl⟩ := Int.eq_ofNat_of_zero_le hl.1
    obtain ⟨R, rfl⟩ := Int.eq_ofNat_of_zero_le hr.1
    exact law_round_ok k s a L R (by omega) (by omega) hs ha h0 w
  · exact law_round_err k s a l r hs ha h0 w
end Go.Proofs.YtfpliihglgjijaaGreat
