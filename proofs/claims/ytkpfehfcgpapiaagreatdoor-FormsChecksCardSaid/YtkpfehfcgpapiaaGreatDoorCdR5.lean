/-
  Verify and Weighted of the reference, walked: they return what the program's return.
  Conditions: strings within the reach; the weights are readable.
-/
import Derived.Test.YtkpfehfcgpapiaaGreatDoorCdRa
namespace Go.Proofs.YtkpfehfcgpapiaaGreatDoor
open Go.RowKit

theorem rverify_bad (k : Int) (s : ByteArray) (w : World) (h : k < 1 ∨ 8 < k) :
    Calls Tryz.prog 94 #[.int .i64 k, .string s] w fun e w' => e = .returned (.int .i64 1) ∧ Ext w w' := by
  have H := Lib.hid (rsize_any k w)
  rw [if_pos h, if_pos h] at H
  clear h
  go_enter Tryz.func94, Tryz.ntmps94
  go_wp2_with fail
  refine H.out.mono ?_
  rintro e w1 ⟨rfl, rfl⟩
  go_wp2
  go_ret
  exact ⟨rfl, Ext.refl _⟩

/-- What the reference asks of character i. -/
def okAt (k m : Nat) (l : List UInt8) (i : Nat) : Prop := (i < m → Cd.datB k ((l.getD i 0).toNat : Int) = true) ∧ Cd.chkB k ((l.getD i 0).toNat : Int) = true
theorem dat_chk (k : Nat) (c : Int) (h : Cd.datB k c = true) : Cd.chkB k c = true := by
  unfold Cd.datB at h; unfold Cd.chkB
  split
  · simp_all
  · split <;> simp_all
theorem mem_take_iff (l : List UInt8) (m : Nat) (c : UInt8) : c ∈ l.take m → ∃ i, i < m ∧ i < l.length ∧ l.getD i 0 = c := by
  intro h
  obtain ⟨i, hi, e⟩ := List.mem_iff_getElem.1 h
  rw [List.length_take] at hi
  refine ⟨i, by omega, by omega, ?_⟩
  rw [List.getElem_take] at e
  rw [List.getD_eq_getElem?_getD, List.getElem?_eq_getElem (by omega)]; exact e
theorem mem_drop_iff (l : List UInt8) (m : Nat) (c : UInt8) : c ∈ l.drop m → ∃ i, m ≤ i ∧ i < l.length ∧ l.getD i 0 = c := by
  intro h
  obtain ⟨i, hi, e⟩ := List.mem_iff_getElem.1 h
  rw [List.length_drop] at hi
  refine ⟨m + i, by omega, by omega, ?_⟩
  rw [List.getElem_drop] at e
  rw [List.getD_eq_getElem?_getD, List.getElem?_eq_getElem (by omega)]; exact e
theorem getD_mem_take (l : List UInt8) (m i : Nat) (h : i < m) (hi : i < l.length) : l.getD i 0 ∈ l.take m := by
  rw [List.getD_eq_getElem?_getD, List.getElem?_eq_getElem hi, Option.getD_some]
  exact List.mem_iff_getElem.2 ⟨i, by rw [List.length_take]; omega, by rw [List.getElem_take]⟩
theorem getD_mem_drop (l : List UInt8) (m i : Nat) (h : m ≤ i) (hi : i < l.length) : l.getD i 0 ∈ l.drop m := by
  rw [List.getD_eq_getElem?_getD, List.getElem?_eq_getElem hi, Option.getD_some]
  exact List.mem_iff_getElem.2 ⟨i - m, by rw [List.length_drop]; omega, by rw [List.getElem_drop]; congr 1; omega⟩
theorem ok_all (k m : Nat) (l : List UInt8) (h : ∀ i, i < l.length → okAt k m l i) : (l.take m).all (fun c => Cd.datB k c.toNat) = true ∧ (l.drop m).all (fun c => Cd.chkB k c.toNat) = true := by
  constructor
  · rw [List.all_eq_true]
    intro c hc
    obtain ⟨i, h1, h2, rfl⟩ := mem_take_iff l m c hc
    exact (h i h2).1 h1
  · rw [List.all_eq_true]
    intro c hc
    obtain ⟨i, h1, h2, rfl⟩ := mem_drop_iff l m c hc
    exact (h i h2).2
theorem ok_not (k m : Nat) (l : List UInt8) (i : Nat) (hi : i < l.length) (h : ¬ okAt k m l i) : (l.take m).all (fun c => Cd.datB k c.toNat) = false ∨ (l.drop m).all (fun c => Cd.chkB k c.toNat) = false := by
  by_cases him : i < m
  · left
    rw [List.all_eq_false]
    refine ⟨_, getD_mem_take l m i him hi, fun hd => h ⟨fun _ => hd, dat_chk _ _ hd⟩⟩
  · right
    rw [List.all_eq_false]
    refine ⟨_, getD_mem_drop l m i (by omega) hi, fun hd => h ⟨fun h' => absurd h' him, hd⟩⟩

set_option maxRecDepth 100000 in
set_option maxHeartbeats 1000000 in
theorem rverify_sys (k : Nat) (s : ByteArray) (w : World) (hk1 : 1 ≤ k) (hk8 : k ≤ 8) (hs : s.size ≤ 9223372036854775807) :
    Calls Tryz.prog 94 #[.int .i64 (k : Int), .string s] w fun e w' => e = .returned (.int .i64 (Cd.ver k s.data.toList)) ∧ Ext w w' := by
  have HSZ := Lib.hid (rsize_sys k w hk1 hk8)
  obtain ⟨hz1, hz2⟩ := Cd.size_bd k
  by_cases hl : 4096 < s.size
  · have HV : Hid (Cd.ver k s.data.toList = 4) := by show _ = _; unfold Cd.ver; rw [len_data, if_pos hl]
    go_enter Tryz.func94, Tryz.ntmps94
    go_wp2_with fail
    refine HSZ.out.mono ?_
    rintro e w1 ⟨rfl, rfl⟩
    go_wp2
    go_ret
    exact ⟨ret_int HV.out.symm, Ext.refl _⟩
  · have hl' : s.size ≤ 4096 := by omega
    have HC := Lib.hid (rfits_any k s.size w hk1 hk8 (by omega))
    cases hf : Cd.fits k s.size
    · have HV : Hid (Cd.ver k s.data.toList = 7) := by show _ = _; unfold Cd.ver; rw [len_data, if_neg hl, if_pos hf]
      rw [hf] at HC
      clear hl hf
      go_enter Tryz.func94, Tryz.ntmps94
      go_wp2_with fail
      refine HSZ.out.mono ?_
      rintro e w1 ⟨rfl, rfl⟩
      go_wp2_with fail
      refine HC.out.mono ?_
      rintro e w1 ⟨rfl, rfl⟩
      go_wp2
      go_ret
      exact ⟨ret_int HV.out.symm, Ext.refl _⟩
    · have hlt0 := Cd.fits_lt k s.size hf
      have h9 : Hid (k = 3 → s.size = 10) := by rintro rfl; exact Cd.fits_isbn _ hf
      have HV : Hid (Cd.ver k s.data.toList = if (s.data.toList.take (s.size - Cd.size k)).all (fun c => Cd.datB k c.toNat) = false then 6 else if (s.data.toList.drop (s.size - Cd.size k)).all (fun c => Cd.chkB k c.toNat) = false then 6 else if Cd.cmp k (s.data.toList.take (s.size - Cd.size k)) = s.data.toList.drop (s.size - Cd.size k) then 0 else 8) := by
        show _ = _; unfold Cd.ver; rw [len_data, if_neg hl, if_neg (by rw [hf]; exact Bool.noConfusion)]
      rw [hf] at HC
      clear hl hf
      go_enter Tryz.func94, Tryz.ntmps94
      go_wp2_with fail
      refine HSZ.out.mono ?_
      rintro e w1 ⟨rfl, rfl⟩
      go_wp2_with fail
      refine HC.out.mono ?_
      rintro e w1 ⟨rfl, rfl⟩
      go_wp2
      go_loop [7] (fun i => ∃ j : Nat, j ≤ s.size ∧ i = .int .i64 (j : Int) ∧ Hid (∀ i, i < j → okAt k (s.size - Cd.size k) s.data.toList i)) (fun i => s.size - (intOf i).toNat)
      case atStart => exact ⟨0, Nat.zero_le _, rfl, fun i hi => by omega⟩
      case round =>
        obtain ⟨j, hj, rfl, ha⟩ := hrel
        by_cases hlt : j < s.size
        · have HD := Lib.hid (rdata_any k s[j] w hk8)
          have HK := Lib.hid (rcheck_any k s[j] w hk8)
          have hg := getDat s j hlt
          have HNo := Lib.hid (ok_not k (s.size - Cd.size k) s.data.toList j (by rw [len_data]; exact hlt))
          have HYes : Hid (okAt k (s.size - Cd.size k) s.data.toList j → ∀ i, i < j + 1 → okAt k (s.size - Cd.size k) s.data.toList i) := fun h i hi => by
            by_cases e : i = j
            · subst e; exact h
            · exact ha.out i (by omega)
          have HOK : Hid (okAt k (s.size - Cd.size k) s.data.toList j ↔ ((j < s.size - Cd.size k → Cd.datB k (s[j].toNat : Int) = true) ∧ Cd.chkB k (s[j].toNat : Int) = true)) := by
            show _ ↔ _; unfold okAt; rw [hg]
          have HSix : Hid (¬ okAt k (s.size - Cd.size k) s.data.toList j → Cd.ver k s.data.toList = 6) := fun h => by
            rw [HV.out]
            rcases HNo.out h with h | h
            · rw [if_pos h]
            · by_cases h1 : (s.data.toList.take (s.size - Cd.size k)).all (fun c => Cd.datB k c.toNat) = false
              · rw [if_pos h1]
              · rw [if_neg h1, if_pos h]
          clear hg HNo
          by_cases hm : j < s.size - Cd.size k
          · have hmi : (j : Int) < (s.size : Int) - (Cd.size k : Int) := by omega
            cases hd : Cd.datB k (s[j].toNat : Int)
            · rw [hd] at HD
              have HX := Lib.hid (HSix.out (fun h => by have := (HOK.out.1 h).1 hm; rw [hd] at this; cases this))
              clear hd
              go_wp2_with fail
              refine HD.out.mono ?_
              rintro e w1 ⟨rfl, rfl⟩
              go_wp2
              go_ret
              exact ⟨ret_int HX.out.symm, Ext.refl _⟩
            · rw [hd] at HD
              have hch := dat_chk _ _ hd
              rw [hch] at HK
              have HX := Lib.hid (HYes.out (HOK.out.2 ⟨fun _ => hd, hch⟩))
              clear hd hch
              go_wp2_with fail
              refine HD.out.mono ?_
              rintro e w1 ⟨rfl, rfl⟩
              go_wp2_with fail
              refine HK.out.mono ?_
              rintro e w1 ⟨rfl, rfl⟩
              go_wp2
              go_round
              case rel => exact ⟨j + 1, by omega, by go_num, HX⟩
              case measure => simp [intOf]; omega
          · have hmi : ¬ (j : Int) < (s.size : Int) - (Cd.size k : Int) := by omega
            cases hc : Cd.chkB k (s[j].toNat : Int)
            · rw [hc] at HK
              have HX := Lib.hid (HSix.out (fun h => by have := (HOK.out.1 h).2; rw [hc] at this; cases this))
              clear hc hm
              go_wp2_with fail
              refine HK.out.mono ?_
              rintro e w1 ⟨rfl, rfl⟩
              go_wp2
              go_ret
              exact ⟨ret_int HX.out.symm, Ext.refl _⟩
            · rw [hc] at HK
              have HX := Lib.hid (HYes.out (HOK.out.2 ⟨fun h => absurd h hm, hc⟩))
              clear hc hm
              go_wp2_with fail
              refine HK.out.mono ?_
              rintro e w1 ⟨rfl, rfl⟩
              go_wp2
              go_round
              case rel => exact ⟨j + 1, by omega, by go_num, HX⟩
              case measure => simp [intOf]; omega
        · obtain rfl : j = s.size := by omega
          obtain ⟨h1, h2⟩ := ok_all k (s.size - Cd.size k) s.data.toList (by rw [len_data]; exact ha.out)
          have HV2 := Lib.hid (HV.out.trans ((if_neg (by rw [h1]; exact Bool.noConfusion)).trans (if_neg (by rw [h2]; exact Bool.noConfusion))))
          have hD := cut_front s (s.size - Cd.size k)
          have hE := cut_back s (s.size - Cd.size k)
          have hDs : (s.extract 0 (s.size - Cd.size k)).size = s.size - Cd.size k := by rw [size_of_toList hD, len_take _ _ (by omega)]
          have HCP := Lib.hid (fun w => rcomputed_any k (s.extract 0 (s.size - Cd.size k)) w hk1 hk8 (by omega) (by rw [hD]; exact List.all_eq_true.1 h1) (fun e => by have h1 := h9.out e; subst e; have h2 : Cd.size 3 = 1 := rfl; omega))
          rw [hD] at HCP
          rw [← hE] at HV2
          clear hj hlt h1 h2 hD hE hDs HV
          by_cases hq : Cd.cmp k (s.data.toList.take (s.size - Cd.size k)) = (s.extract (s.size - Cd.size k) s.size).data.toList
          · have hq' : (!Cd.cmp k (s.data.toList.take (s.size - Cd.size k)) == (s.extract (s.size - Cd.size k) s.size).toList) = false := by rw [Lib.toList_data, hq]; simp
            rw [if_pos hq] at HV2
            clear hq
            go_wp2
            refine wp_region_quiet (C := fun w' => ∃ x : Ahead w, w' = x.at') (by kernel_rfl) (by kernel_rfl) (Ahead.drawn _) ?_
            try dsimp only
            repeat (first | go_big_quiet_step ((exact ahead_of ((HCP.out _).mono fun _ _ h => ⟨h.1, h.2 ▸ Ext.refl _⟩))) | quiet_step ((exact ahead_of ((HCP.out _).mono fun _ _ h => ⟨h.1, h.2 ▸ Ext.refl _⟩))))
            refine wpQuiet_nil ?_
            intro _ hx0
            obtain ⟨x0, hx0⟩ := hx0
            subst hx0
            obtain ⟨w3, hx3⟩ := x0
            try dsimp only
            go_wp2
            go_ret
            exact ⟨ret_int HV2.out.symm, hx3⟩
          · have hq' : (!Cd.cmp k (s.data.toList.take (s.size - Cd.size k)) == (s.extract (s.size - Cd.size k) s.size).toList) = true := by rw [Lib.toList_data]; simpa using hq
            rw [if_neg hq] at HV2
            clear hq
            go_wp2
            refine wp_region_quiet (C := fun w' => ∃ x : Ahead w, w' = x.at') (by kernel_rfl) (by kernel_rfl) (Ahead.drawn _) ?_
            try dsimp only
            repeat (first | go_big_quiet_step ((exact ahead_of ((HCP.out _).mono fun _ _ h => ⟨h.1, h.2 ▸ Ext.refl _⟩))) | quiet_step ((exact ahead_of ((HCP.out _).mono fun _ _ h => ⟨h.1, h.2 ▸ Ext.refl _⟩))))
            refine wpQuiet_nil ?_
            intro _ hx0
            obtain ⟨x0, hx0⟩ := hx0
            subst hx0
            obtain ⟨w3, hx3⟩ := x0
            try dsimp only
            go_wp2
            go_ret
            exact ⟨ret_int HV2.out.symm, hx3⟩

theorem rverify_any (k : Int) (s : ByteArray) (w : World) (hs : s.size ≤ 9223372036854775807) :
    Calls Tryz.prog 94 #[.int .i64 k, .string s] w fun e w' => e = .returned (.int .i64 (Cd.verI k s.data.toList)) ∧ Ext w w' := by
  by_cases h : k < 1 ∨ 8 < k
  · rw [Cd.verI, if_pos h]; exact rverify_bad k s w h
  · rw [Cd.verI, if_neg h]
    obtain ⟨n, rfl⟩ := Int.eq_ofNat_of_zero_le (show 0 ≤ k by omega)
    exact rverify_sys n s w (by omega) (by omega) hs
end Go.Proofs.YtkpfehfcgpapiaaGreatDoor
