/-
  The law CheckdigitDetects, walked.
  Condition: the string is within the reach.
-/
import Derived.Test.YtciogogpoiijcaaCdL3
namespace Go.Proofs.Ytciogogpoiijcaa
open Go.RowKit

theorem swp_cut (s : ByteArray) (i : Nat) : (s.extract 0 i ++ s.extract (i + 1) (i + 2) ++ s.extract i (i + 1) ++ s.extract (i + 2) s.size).data.toList = Cd.swp s.data.toList i := by
  simp only [ByteArray.data_append, Array.toList_append, cut_mid, Cd.swp]
  rw [show i + 2 - (i + 1) = 1 by omega, show i + 1 - i = 1 by omega, Nat.sub_zero, List.drop_zero, List.take_of_length_le (i := s.size - (i + 2)) (by rw [len_drop]; exact Nat.le_refl _)]

/-- What 'exchanged' returns. -/
def RetSwp (w : World) (s : ByteArray) (i : Nat) (e : Ending) (w' : World) : Prop := ∃ r : ByteArray, e = .returned (.string r) ∧ r.data.toList = Cd.swp s.data.toList i ∧ Ext w w'
def swpB (s : ByteArray) (i : Nat) : ByteArray := ⟨(Cd.swp s.data.toList i).toArray⟩
set_option maxHeartbeats 400000 in
theorem exchanged_any (s : ByteArray) (i : Nat) (w : World) (hs : s.size ≤ 4096) (hi : i + 1 < s.size) :
    Calls Try.prog 27 #[.string s, .int .i64 (i : Int)] w fun e w' => e = .returned (.string (swpB s i)) ∧ Ext w w' := by
  have HC := Lib.hid (show s.extract 0 i ++ s.extract (i + 1) (i + 2) ++ s.extract i (i + 1) ++ s.extract (i + 2) s.size = swpB s i from bytes_ext (swp_cut s i))
  go_enter Try.func27, Try.ntmps27
  go_wp2
  refine wp_region_quiet (C := fun w' => ∃ x : Ahead w, w' = x.at') (by kernel_rfl) (by kernel_rfl) (Ahead.drawn _) ?_
  try dsimp only
  repeat (first | go_big_quiet_step (fail) | quiet_step (fail))
  refine wpQuiet_nil ?_
  intro _ hx0
  obtain ⟨x0, hx0⟩ := hx0
  subst hx0
  obtain ⟨w3, hx3⟩ := x0
  try dsimp only
  go_wp2
  go_ret
  exact ⟨ret_string HC.out, hx3⟩

/-- May a system overlook the exchange? a at most b. -/
def hidLe (k : Int) (a b : Int) : Bool := (k == 7) || ((k == 2) && (a == 48) && (b == 57)) || ((k == 1) && (b - a == 5))
def hid2 (k : Int) (a b : Int) : Bool := if b < a then hidLe k b a else hidLe k a b
set_option maxHeartbeats 400000 in
theorem hidden_le (k : Int) (a b : Int) (w : World) (ha : 0 ≤ a) (hb : b ≤ 255) (h : a ≤ b) :
    Calls Try.prog 26 #[.int .i64 k, .int .u8 a, .int .u8 b] w fun e w' => e = .returned (.bool (hidLe k a b)) ∧ w = w' := by
  by_cases h7 : k = 7
  · subst h7
    go_enter Try.func26, Try.ntmps26
    go_wp2
    go_ret
    exact ⟨rfl, rfl⟩
  · have b7 : (k == 7) = false := by rw [beq_eq_false_iff_ne]; exact h7
    clear h7
    by_cases h2 : k = 2
    · subst h2
      cases h48 : (a == 48)
      · go_enter Try.func26, Try.ntmps26
        go_wp2
        go_ret
        exact ⟨ret_bool (by simp [hidLe, h48]), rfl⟩
      · cases h57 : (b == 57)
        · go_enter Try.func26, Try.ntmps26
          go_wp2
          go_ret
          exact ⟨ret_bool (by simp [hidLe, h48, h57]), rfl⟩
        · go_enter Try.func26, Try.ntmps26
          go_wp2
          go_ret
          exact ⟨ret_bool (by simp [hidLe, h48, h57]), rfl⟩
    · have b2 : (k == 2) = false := by rw [beq_eq_false_iff_ne]; exact h2
      clear h2
      by_cases h1 : k = 1
      · subst h1
        go_enter Try.func26, Try.ntmps26
        go_wp2
        go_ret
        exact ⟨ret_bool (by simp [hidLe]), rfl⟩
      · have b1 : (k == 1) = false := by rw [beq_eq_false_iff_ne]; exact h1
        clear h1
        go_enter Try.func26, Try.ntmps26
        go_wp2
        go_ret
        exact ⟨ret_bool (by simp [hidLe, b7, b2, b1]), rfl⟩
set_option maxHeartbeats 400000 in
theorem hidden_any (k : Int) (a b : Int) (w : World) (ha : 0 ≤ a ∧ a ≤ 255) (hb : 0 ≤ b ∧ b ≤ 255) :
    Calls Try.prog 26 #[.int .i64 k, .int .u8 a, .int .u8 b] w fun e w' => e = .returned (.bool (hid2 k a b)) ∧ w = w' := by
  by_cases h : b < a
  · have HH := Lib.hid (hidden_le k b a w hb.1 ha.2 (by omega))
    rw [hid2, if_pos h]
    go_enter Try.func26, Try.ntmps26
    go_wp2_with fail
    refine HH.out.mono ?_
    rintro e w1 ⟨rfl, rfl⟩
    go_wp2
    go_ret
    exact ⟨rfl, rfl⟩
  · rw [hid2, if_neg h]
    exact hidden_le k a b w ha.1 hb.2 (by omega)

theorem split_at (l : List UInt8) (i : Nat) (h : i + 1 < l.length) : l = l.take i ++ l.getD i 0 :: l.getD (i + 1) 0 :: l.drop (i + 2) := by
  have h0 : i < l.length := by omega
  have e := (List.take_append_drop i l).symm
  rw [List.drop_eq_getElem_cons h0, List.drop_eq_getElem_cons h] at e
  rw [List.getD_eq_getElem?_getD, List.getElem?_eq_getElem h0, List.getD_eq_getElem?_getD, List.getElem?_eq_getElem h]
  exact e
theorem sub1_eq (l : List UInt8) (i : Nat) (c : UInt8) (h : i + 1 < l.length) : Cd.sub1 l i c = l.take i ++ c :: l.getD (i + 1) 0 :: l.drop (i + 2) := by
  unfold Cd.sub1
  rw [List.append_assoc, List.singleton_append, List.drop_eq_getElem_cons h, List.getD_eq_getElem?_getD, List.getElem?_eq_getElem h]
  rfl
theorem swp_eq (l : List UInt8) (i : Nat) (h : i + 1 < l.length) : Cd.swp l i = l.take i ++ l.getD (i + 1) 0 :: l.getD i 0 :: l.drop (i + 2) := by
  have h0 : i < l.length := by omega
  have e0 : (l.drop i).take 1 = [l[i]] := by rw [List.drop_eq_getElem_cons h0]; rfl
  have e1 : (l.drop (i + 1)).take 1 = [l[i + 1]] := by rw [List.drop_eq_getElem_cons h]; rfl
  unfold Cd.swp
  rw [e0, e1, List.getD_eq_getElem?_getD, List.getElem?_eq_getElem h, List.getD_eq_getElem?_getD, List.getElem?_eq_getElem h0]
  simp only [Option.getD_some, List.append_assoc]
  rfl
/-- A changed character is detected. -/
theorem no_sub (n : Nat) (l : List UInt8) (i : Nat) (c : UInt8) (h1 : 1 ≤ n) (h8 : n ≤ 8) (hi : i + 1 < l.length) (hv : Cd.ver n l = 0) (hne : Cd.sub1 l i c ≠ l) : Cd.ver n (Cd.sub1 l i c) ≠ 0 := by
  intro hz
  have e := split_at l i hi
  rw [sub1_eq l i c hi] at hz hne
  rw [e] at hv
  have := Cd.detects_sub n _ _ c _ h1 h8 (by simp) hz hv
  apply hne
  rw [this]; exact e.symm
/-- An exchange is detected. -/
theorem no_swp (n : Nat) (l : List UInt8) (i : Nat) (h1 : 1 ≤ n) (h8 : n ≤ 8) (hi : i + 1 < l.length) (hv : Cd.ver n l = 0) (hne : l.getD i 0 ≠ l.getD (i + 1) 0) (hh : hid2 (n : Int) ((l.getD i 0).toNat : Int) ((l.getD (i + 1) 0).toNat : Int) = false) : Cd.ver n (Cd.swp l i) ≠ 0 := by
  intro hz
  have e := split_at l i hi
  rw [swp_eq l i hi] at hz
  rw [e] at hv
  have h7 : n ≠ 7 := by
    rintro rfl
    unfold hid2 hidLe at hh
    split at hh <;> simp at hh
  generalize l.getD i 0 = x at *
  generalize l.getD (i + 1) 0 = y at *
  rcases Cd.detects_swp n _ _ x y h1 h8 h7 hv hz with h | ⟨rfl, h⟩ | ⟨rfl, h⟩
  · exact hne h
  · unfold Cd.dg at h
    unfold hid2 hidLe at hh
    split at hh
    · rcases h with h | h
      · omega
      · have e1 : (y.toNat : Int) = 48 := by omega
        have e2 : (x.toNat : Int) = 57 := by omega
        rw [e1, e2] at hh
        simp at hh
    · rcases h with h | h
      · have e1 : (x.toNat : Int) = 48 := by omega
        have e2 : (y.toNat : Int) = 57 := by omega
        rw [e1, e2] at hh
        simp at hh
      · omega
  · unfold Cd.dg at h
    unfold hid2 hidLe at hh
    split at hh
    · have e1 : (x.toNat : Int) - (y.toNat : Int) = 5 := by omega
      rw [e1] at hh
      simp at hh
    · have e1 : (y.toNat : Int) - (x.toNat : Int) = 5 := by omega
      rw [e1] at hh
      simp at hh

theorem sub1_cut (t : ByteArray) (i : Nat) (cb : UInt8) : (t.extract 0 i ++ (⟨#[cb]⟩ : ByteArray) ++ t.extract (i + 1) t.size).data.toList = Cd.sub1 t.data.toList i cb := by
  simp only [ByteArray.data_append, Array.toList_append, cut_front, cut_back, Cd.sub1]
theorem sub1_len (l : List UInt8) (i : Nat) (c : UInt8) (h : i < l.length) : (Cd.sub1 l i c).length = l.length := by
  simp only [Cd.sub1, List.length_append, List.length_take, List.length_drop, List.length_singleton]; omega
theorem swp_len (l : List UInt8) (i : Nat) (h : i + 1 < l.length) : (Cd.swp l i).length = l.length := by
  rw [swp_eq l i h]
  simp only [List.length_append, List.length_take, List.length_cons, List.length_drop]; omega

set_option maxRecDepth 100000 in
set_option maxHeartbeats 2000000 in
theorem law_detects (k : Int) (s : ByteArray) (at' : Int) (cb : UInt8) (w : World) (hs : s.size ≤ 9223372036854775807) (ha0 : 0 ≤ at') (ha1 : at' ≤ 65535) :
    Calls Try.prog 9 #[.int .i64 k, .string s, .int .u16 at', .int .u8 (cb.toNat : Int)] w fun e w' => e = .returned (.bool true) ∧ Ext w w' := by
  by_cases hl : 300 < s.size
  · go_enter Try.func9, Try.ntmps9
    go_wp2_with fail
    refine (examples_any _).mono ?_
    rintro e w1 ⟨rfl, hx1⟩
    go_wp2
    go_ret
    exact ⟨rfl, hx1⟩
  · have HA := Lib.hid (fun w => append_any k s w hs)
    by_cases h0 : (Cd.app k s.data.toList).2 = 0
    · obtain ⟨n, hk, hn1, hn8, hne, hd, hf, hll, happ⟩ := Cd.app_ok k s.data.toList h0
      subst hk
      rw [h0, happ] at HA
      have hv0 := Cd.ver_app n s.data.toList hn1 hn8 hd hf hll
      obtain ⟨t, ht⟩ : ∃ t : ByteArray, t = ⟨(s.data.toList ++ Cd.cmp n s.data.toList).toArray⟩ := ⟨_, rfl⟩
      rw [← ht] at HA
      have htl : t.data.toList = s.data.toList ++ Cd.cmp n s.data.toList := by rw [ht]
      have hts : t.size = s.size + Cd.size n := by rw [size_of_toList htl, List.length_append, Cd.cmp_size n _ hn1 hn8, len_data]
      have hz := Cd.size_bd n
      have hpos : 0 < s.size := by rw [← len_data]; exact List.length_pos_iff.2 hne
      have hll' : s.size + Cd.size n ≤ 4096 := by rw [← len_data s]; exact hll
      have hts1 : 2 ≤ t.size := by omega
      have hts2 : t.size ≤ 4096 := by omega
      rw [← htl] at hv0
      have HT0 := Lib.hid hv0
      clear ht htl hts happ hv0 h0 hne hd hf hll hll' hpos hz
      have hiN : at' % ((t.size : Int) - 1) = ((at'.toNat % (t.size - 1) : Nat) : Int) := by
        obtain ⟨a, rfl⟩ := Int.eq_ofNat_of_zero_le ha0
        rw [Int.toNat_natCast, Int.natCast_emod]
        congr 1; omega
      have hilt : at'.toNat % (t.size - 1) < t.size - 1 := Nat.mod_lt _ (by omega)
      obtain ⟨i, hi⟩ : ∃ i, i = at'.toNat % (t.size - 1) := ⟨_, rfl⟩
      rw [← hi] at hiN hilt
      clear hi
      have hi1 : i + 1 < t.size := by omega
      go_enter Try.func9, Try.ntmps9
      go_wp2_with fail
      refine (HA.out _).mono ?_
      rintro e w1 ⟨rfl, hx1⟩
      go_wp2
      rw [hiN]
      clear hiN hilt
      have hcv := conv_one cb w1
      have hwr := wrap_of ((i : Int) + 1) (by omega) (by omega)
      have hn0 : (0 : Int) ≤ (i : Int) + 1 := by omega
      have hn2 : (i : Int) ≤ (t.size : Int) := by omega
      have hn4 : (i : Int) + 1 ≤ (t.size : Int) := by omega
      have hn3 : ((i : Int) + 1).toNat = i + 1 := by omega
      go_region
      have hx2 := (hx1.alloc (.cells #[.int .u8 (cb.toNat : Int)] 5)).drew
      clear hcv hwr hn0 hn2 hn3 hn4 hx1
      generalize (w1.alloc (.cells #[.int .u8 (cb.toNat : Int)] 5)).drew = w2 at *
      have hul := sub1_cut t i cb
      generalize t.extract 0 i ++ (⟨#[cb]⟩ : ByteArray) ++ t.extract (i + 1) t.size = u at *
      have hus : u.size ≤ 9223372036854775807 := by rw [size_of_toList hul, sub1_len _ _ _ (by rw [len_data]; omega), len_data]; omega
      have HVU := Lib.hid (fun w => verify_any (n : Int) u w hus)
      rw [Cd.verI_nat n _ hn1 hn8, hul] at HVU
      have hNo := no_sub n t.data.toList i cb hn1 hn8 (by rw [len_data]; exact hi1) HT0.out
      have HUL := Lib.hid hul
      have HNo := Lib.hid hNo
      clear hul hNo
      have hi0 : i < t.size := by omega
      obtain ⟨j, hj⟩ : ∃ j, j = i + 1 := ⟨_, rfl⟩
      have hjl : j < t.size := by omega
      have hij : (i : Int) + 1 = (j : Int) := by omega
      have HJ := Lib.hid hj
      clear hj
      have HH := Lib.hid (fun w => hidden_any (n : Int) ((t[i]).toNat : Int) ((t[j]).toNat : Int) w (by have := (t[i]).toNat_lt; omega) (by have := (t[j]).toNat_lt; omega))
      have HE := Lib.hid (fun w => exchanged_any t i w hts2 hi1)
      have HVS := Lib.hid (fun w => verify_any (n : Int) (swpB t i) w (by rw [size_of_toList (show (swpB t i).data.toList = Cd.swp t.data.toList i from rfl), swp_len _ _ (by rw [len_data]; exact hi1), len_data]; omega))
      rw [Cd.verI_nat n _ hn1 hn8, show (swpB t i).data.toList = Cd.swp t.data.toList i from rfl] at HVS
      have HNS : Hid (t[i] ≠ t[j] → hid2 (n : Int) ((t[i]).toNat : Int) ((t[j]).toNat : Int) = false → Cd.ver n (Cd.swp t.data.toList i) ≠ 0) := fun h1 h2 => by
        have g1 := getDat t i (by omega)
        have g2 : t.data.toList.getD (i + 1) 0 = t[j] := by rw [← HJ.out]; exact getDat t j hjl
        exact no_swp n t.data.toList i hn1 hn8 (by rw [len_data]; exact hi1) HT0.out (by rw [g1, g2]; exact h1) (by rw [g1, g2]; exact h2)
      by_cases hut : Cd.sub1 t.data.toList i cb = t.data.toList
      · have hq : (!u.toList == t.toList) = false := by rw [Lib.toList_data, Lib.toList_data, HUL.out, hut]; simp
        clear hut HNo HUL HVU
        cases hxy : (((t[i]).toNat : Int) != ((t[j]).toNat : Int))
        · clear HNS
          go_wp2
          refine wp_region_quiet (C := fun w' => ∃ x : Ahead w2, w' = x.at') (by kernel_rfl) (by kernel_rfl) (Ahead.drawn _) ?_
          try dsimp only
          repeat (first | go_big_quiet_step (fail) | quiet_step (fail))
          refine wpQuiet_nil ?_
          intro _ hx0
          obtain ⟨x0, hx0⟩ := hx0
          subst hx0
          obtain ⟨w8, hx8⟩ := x0
          try dsimp only
          go_wp2_with fail
          refine (examples_any _).mono ?_
          rintro e w9 ⟨rfl, hx9⟩
          go_wp2
          go_ret
          exact ⟨rfl, (hx2.trans hx8).trans hx9⟩
        · cases hhd : hid2 (n : Int) ((t[i]).toNat : Int) ((t[j]).toNat : Int)
          · rw [hhd] at HH
            have hvz : (Cd.ver n (Cd.swp t.data.toList i) == 0) = false := by
              rw [beq_eq_false_iff_ne]
              exact HNS.out (fun e => by rw [e, bne_self_eq_false] at hxy; cases hxy) hhd
            generalize Cd.ver n (Cd.swp t.data.toList i) = zz at *
            clear hhd HNS
            go_wp2
            refine wp_region_quiet (C := fun w' => ∃ x : Ahead w2, w' = x.at') (by kernel_rfl) (by kernel_rfl) (Ahead.drawn _) ?_
            try dsimp only
            repeat (first | go_big_quiet_step ((first | (go_at_call 26; exact ahead_of ((HH.out _).mono fun _ _ h => ⟨h.1, h.2 ▸ Ext.refl _⟩)) | (go_at_call 27; exact ahead_of (HE.out _)) | (go_at_call 13; exact ahead_of (HVS.out _)))) | quiet_step ((first | (go_at_call 26; exact ahead_of ((HH.out _).mono fun _ _ h => ⟨h.1, h.2 ▸ Ext.refl _⟩)) | (go_at_call 27; exact ahead_of (HE.out _)) | (go_at_call 13; exact ahead_of (HVS.out _)))))
            refine wpQuiet_nil ?_
            intro _ hx0
            obtain ⟨x0, hx0⟩ := hx0
            subst hx0
            obtain ⟨w8, hx8⟩ := x0
            try dsimp only
            go_wp2_with fail
            refine (examples_any _).mono ?_
            rintro e w9 ⟨rfl, hx9⟩
            go_wp2
            go_ret
            exact ⟨rfl, (hx2.trans hx8).trans hx9⟩
          · rw [hhd] at HH
            clear hhd HNS
            go_wp2
            refine wp_region_quiet (C := fun w' => ∃ x : Ahead w2, w' = x.at') (by kernel_rfl) (by kernel_rfl) (Ahead.drawn _) ?_
            try dsimp only
            repeat (first | go_big_quiet_step ((first | (go_at_call 26; exact ahead_of ((HH.out _).mono fun _ _ h => ⟨h.1, h.2 ▸ Ext.refl _⟩)) | (go_at_call 27; exact ahead_of (HE.out _)) | (go_at_call 13; exact ahead_of (HVS.out _)))) | quiet_step ((first | (go_at_call 26; exact ahead_of ((HH.out _).mono fun _ _ h => ⟨h.1, h.2 ▸ Ext.refl _⟩)) | (go_at_call 27; exact ahead_of (HE.out _)) | (go_at_call 13; exact ahead_of (HVS.out _)))))
            refine wpQuiet_nil ?_
            intro _ hx0
            obtain ⟨x0, hx0⟩ := hx0
            subst hx0
            obtain ⟨w8, hx8⟩ := x0
            try dsimp only
            go_wp2_with fail
            refine (examples_any _).mono ?_
            rintro e w9 ⟨rfl, hx9⟩
            go_wp2
            go_ret
            exact ⟨rfl, (hx2.trans hx8).trans hx9⟩
      · have hq : (!u.toList == t.toList) = true := by rw [Lib.toList_data, Lib.toList_data, HUL.out]; simpa using hut
        have hvu : (Cd.ver n (Cd.sub1 t.data.toList i cb) == 0) = false := by rw [beq_eq_false_iff_ne]; exact HNo.out hut
        generalize Cd.ver n (Cd.sub1 t.data.toList i cb) = yy at *
        clear hut HNo HUL
        go_wp2_with fail
        refine (HVU.out _).mono ?_
        rintro e w3 ⟨rfl, hx3⟩
        have hx4 := hx2.trans hx3
        clear hx2 hx3
        cases hxy : (((t[i]).toNat : Int) != ((t[j]).toNat : Int))
        · clear HNS
          go_wp2
          refine wp_region_quiet (C := fun w' => ∃ x : Ahead w3, w' = x.at') (by kernel_rfl) (by kernel_rfl) (Ahead.drawn _) ?_
          try dsimp only
          repeat (first | go_big_quiet_step (fail) | quiet_step (fail))
          refine wpQuiet_nil ?_
          intro _ hx0
          obtain ⟨x0, hx0⟩ := hx0
          subst hx0
          obtain ⟨w8, hx8⟩ := x0
          try dsimp only
          go_wp2_with fail
          refine (examples_any _).mono ?_
          rintro e w9 ⟨rfl, hx9⟩
          go_wp2
          go_ret
          exact ⟨rfl, (hx4.trans hx8).trans hx9⟩
        · cases hhd : hid2 (n : Int) ((t[i]).toNat : Int) ((t[j]).toNat : Int)
          · rw [hhd] at HH
            have hvz : (Cd.ver n (Cd.swp t.data.toList i) == 0) = false := by
              rw [beq_eq_false_iff_ne]
              exact HNS.out (fun e => by rw [e, bne_self_eq_false] at hxy; cases hxy) hhd
            generalize Cd.ver n (Cd.swp t.data.toList i) = zz at *
            clear hhd HNS
            go_wp2
            refine wp_region_quiet (C := fun w' => ∃ x : Ahead w3, w' = x.at') (by kernel_rfl) (by kernel_rfl) (Ahead.drawn _) ?_
            try dsimp only
            repeat (first | go_big_quiet_step ((first | (go_at_call 26; exact ahead_of ((HH.out _).mono fun _ _ h => ⟨h.1, h.2 ▸ Ext.refl _⟩)) | (go_at_call 27; exact ahead_of (HE.out _)) | (go_at_call 13; exact ahead_of (HVS.out _)))) | quiet_step ((first | (go_at_call 26; exact ahead_of ((HH.out _).mono fun _ _ h => ⟨h.1, h.2 ▸ Ext.refl _⟩)) | (go_at_call 27; exact ahead_of (HE.out _)) | (go_at_call 13; exact ahead_of (HVS.out _)))))
            refine wpQuiet_nil ?_
            intro _ hx0
            obtain ⟨x0, hx0⟩ := hx0
            subst hx0
            obtain ⟨w8, hx8⟩ := x0
            try dsimp only
            go_wp2_with fail
            refine (examples_any _).mono ?_
            rintro e w9 ⟨rfl, hx9⟩
            go_wp2
            go_ret
            exact ⟨rfl, (hx4.trans hx8).trans hx9⟩
          · rw [hhd] at HH
            clear hhd HNS
            go_wp2
            refine wp_region_quiet (C := fun w' => ∃ x : Ahead w3, w' = x.at') (by kernel_rfl) (by kernel_rfl) (Ahead.drawn _) ?_
            try dsimp only
            repeat (first | go_big_quiet_step ((first | (go_at_call 26; exact ahead_of ((HH.out _).mono fun _ _ h => ⟨h.1, h.2 ▸ Ext.refl _⟩)) | (go_at_call 27; exact ahead_of (HE.out _)) | (go_at_call 13; exact ahead_of (HVS.out _)))) | quiet_step ((first | (go_at_call 26; exact ahead_of ((HH.out _).mono fun _ _ h => ⟨h.1, h.2 ▸ Ext.refl _⟩)) | (go_at_call 27; exact ahead_of (HE.out _)) | (go_at_call 13; exact ahead_of (HVS.out _)))))
            refine wpQuiet_nil ?_
            intro _ hx0
            obtain ⟨x0, hx0⟩ := hx0
            subst hx0
            obtain ⟨w8, hx8⟩ := x0
            try dsimp only
            go_wp2_with fail
            refine (examples_any _).mono ?_
            rintro e w9 ⟨rfl, hx9⟩
            go_wp2
            go_ret
            exact ⟨rfl, (hx4.trans hx8).trans hx9⟩
    · have hb : ((Cd.app k s.data.toList).2 != 0) = true := by rw [bne_iff_ne]; exact h0
      generalize (Cd.app k s.data.toList).2 = x at *
      generalize (Cd.app k s.data.toList).1 = y at *
      clear h0
      go_enter Try.func9, Try.ntmps9
      go_wp2_with fail
      refine (HA.out _).mono ?_
      rintro e w1 ⟨rfl, hx1⟩
      go_wp2_with fail
      refine (examples_any _).mono ?_
      rintro e w2 ⟨rfl, hx2⟩
      go_wp2
      go_ret
      exact ⟨rfl, hx1.trans hx2⟩

theorem law_detects' (k : Int) (s : ByteArray) (at' c : Int) (w : World) (hs : s.size ≤ 9223372036854775807) (ha : 0 ≤ at' ∧ at' ≤ 65535) (h : 0 ≤ c ∧ c ≤ 255) :
    Calls Try.prog 9 #[.int .i64 k, .string s, .int .u16 at', .int .u8 c] w fun e w' => e = .returned (.bool true) ∧ Ext w w' := by
  obtain ⟨b, rfl⟩ := byte_of c h.1 h.2
  exact law_detects k s at' b w hs ha.1 ha.2
end Go.Proofs.Ytciogogpoiijcaa
