/-
  Chapter 12: the reference's Decode, walked; the law TwowidthDecodes.
  Condition: the widths are readable.
-/
import Derived.Test.YthjlnpcaclfopaaGreatTwD6
import Derived.Test.YthjlnpcaclfopaaGreatTwE2
import Derived.Test.YthjlnpcaclfopaaGreatTwL1
namespace Go.Proofs.YthjlnpcaclfopaaGreat
open Go.RowKit

/-- What the reference's reading of the elements returns. -/
theorem rread_5 (ws : List Int) (check : Bool) (hl : ws.length ≤ 1000000) (hcnt : Tw.countsK 0 ws.length check = true) (hw0 : (Tw.wide ws).2 = 0) (w : World) (v : Value) (B : Nat) (hv : Own 4 w B v ((Tw.wide ws).1.map encT)) :
    Calls Tryz.prog 27 #[.int .i64 5, v] w (DecR (Tw.readK 0 (Tw.elems (Tw.wide ws).1)) w) := by
  have hbl := wide_len ws hw0
  simp [Tw.countsK, Tw.counts] at hcnt
  have hb1 : check.toNat ≤ 1 := by cases check <;> decide
  exact rchars_5 v _ w B ((ws.length + 1) / 10) hv (by omega) (by omega) (by omega)
theorem rread_6 (ws : List Int) (check : Bool) (hl : ws.length ≤ 1000000) (hcnt : Tw.countsK 1 ws.length check = true) (hw0 : (Tw.wide ws).2 = 0) (w : World) (v : Value) (B : Nat) (hv : Own 4 w B v ((Tw.wide ws).1.map encT)) :
    Calls Tryz.prog 27 #[.int .i64 6, v] w (DecR (Tw.readK 1 (Tw.elems (Tw.wide ws).1)) w) := by
  have hbl := wide_len ws hw0
  simp [Tw.countsK, Tw.counts] at hcnt
  have hb1 : check.toNat ≤ 1 := by cases check <;> decide
  exact rchars_6 v _ w B ((ws.length + 1) / 8) hv (by omega) (by omega) (by omega)
theorem rread_7 (ws : List Int) (check : Bool) (hl : ws.length ≤ 1000000) (hcnt : Tw.countsK 2 ws.length check = true) (hw0 : (Tw.wide ws).2 = 0) (w : World) (v : Value) (B : Nat) (hv : Own 4 w B v ((Tw.wide ws).1.map encT)) :
    Calls Tryz.prog 26 #[v] w (DecR (Tw.readK 2 (Tw.elems (Tw.wide ws).1)) w) := by
  have hbl := wide_len ws hw0
  simp [Tw.countsK, Tw.countsItf] at hcnt
  exact rpairs_any v _ w B ((ws.length - 7) / 10) hv (by omega) (by omega) (by omega)

set_option maxRecDepth 100000 in
set_option maxHeartbeats 2000000 in
theorem rdec_5 (v : Value) (ws : List Int) (check : Bool) (w : World) (hv : Sl w v (ws.map encI)) (hl : ws.length ≤ 1000000) :
    Calls Tryz.prog 12 #[.int .i64 5, v, .bool check] w (DecR (Tw.decK 0 ws check) w) := by
  have HT := Lib.hid (Tw.decK.eq_1 0 ws check)
  generalize Tw.decK 0 ws check = res at *
  obtain ⟨a, c, rfl⟩ := hv.form
  rw [List.length_map] at hv ⊢
  have HV := Lib.hid hv
  have HP := Lib.hid (fun w => poss_5 ws.length check w hl)
  have HW := Lib.hid (fun w' hx => rwide_any _ ws w' (HV.out.ext hx) hl)
  clear hv
  cases hcnt : Tw.countsK 0 ws.length check
  · rw [hcnt] at HP HT
    rw [if_pos rfl] at HT
    clear hcnt
    go_enter Tryz.func12, Tryz.ntmps12
    go_wp2_with fail
    refine (HP.out _).mono ?_
    rintro e w1 ⟨rfl, rfl⟩
    go_wp2
    go_ret2
    exact ⟨by rw [HT.out]; rfl, Ext.refl _⟩
  have HRR := Lib.hid (rread_5 ws check hl hcnt)
  have HCN := Lib.hid hcnt
  rw [hcnt] at HP HT
  rw [if_neg Bool.noConfusion] at HT
  clear hcnt
  by_cases hw : (Tw.wide ws).2 ≠ 0
  · rw [if_pos hw] at HT
    have dw : ((Tw.wide ws).2 != 0) = true := bne_iff_ne.2 hw
    clear HRR hw
    generalize Tw.wide ws = W at *
    obtain ⟨W1, W2⟩ := W
    dsimp only at dw HT
    go_enter Tryz.func12, Tryz.ntmps12
    go_wp2_with fail
    refine (HP.out _).mono ?_
    rintro e w1 ⟨rfl, rfl⟩
    go_wp2_with fail
    refine (HW.out _ (Ext.refl _)).mono ?_
    rintro e w2 ⟨wv, rfl, how, hx2⟩
    clear how
    go_wp2
    go_ret2
    exact ⟨by rw [HT.out]; rfl, hx2⟩
  rw [if_neg hw] at HT
  have hw0 : (Tw.wide ws).2 = 0 := Decidable.of_not_not hw
  have HR := Lib.hid (HRR.out hw0)
  have hbl := wide_len ws hw0
  rw [show Tw.wide ws = ((Tw.wide ws).1, 0) from Prod.ext rfl hw0] at HW
  clear HRR hw hw0
  generalize (Tw.wide ws).1 = bits at *
  by_cases hr : (Tw.readK 0 (Tw.elems bits)).2 ≠ 0
  · rw [if_pos hr] at HT
    have dr : ((Tw.readK 0 (Tw.elems bits)).2 != 0) = true := bne_iff_ne.2 hr
    generalize Tw.readK 0 (Tw.elems bits) = R at *
    obtain ⟨R1, R2⟩ := R
    dsimp only at dr HT
    clear hr hbl
    go_enter Tryz.func12, Tryz.ntmps12
    go_wp2_with fail
    refine (HP.out _).mono ?_
    rintro e w1 ⟨rfl, rfl⟩
    go_wp2_with fail
    refine (HW.out _ (Ext.refl _)).mono ?_
    rintro e w2 ⟨wv, rfl, how, hx2⟩
    have HRC := Lib.hid (HR.out w2 wv _ how)
    clear how HR
    go_wp2_with fail
    refine HRC.out.mono ?_
    rintro e w3 ⟨rfl, hx3⟩
    go_wp2
    go_ret2
    exact ⟨by rw [HT.out]; rfl, hx2.trans hx3⟩
  rw [if_neg hr] at HT
  have hr0 : (Tw.readK 0 (Tw.elems bits)).2 = 0 := Decidable.of_not_not hr
  have hcn := HCN.out
  have hb1 : check.toNat ≤ 1 := by cases check <;> decide
  simp [Tw.countsK, Tw.counts] at hcn
  obtain ⟨M, hch, hMl, hPT, htx⟩ := parts_0 bits ((ws.length + 1) / 10) check (by omega) (by omega) (by omega) hr0
  obtain ⟨C, hC, hCs⟩ := ofList (42 :: (M ++ [42]))
  obtain ⟨MB, hMB, hMBs⟩ := ofList M
  have hCz : C.size = MB.size + 2 := by rw [hCs, hMBs]; simp
  have hMb : 1 ≤ MB.size ∧ MB.size ≤ 2000 := by rw [hMBs, hMl]; omega
  have hc3 : 3 ≤ C.size := by omega
  have hc4 : C.size ≤ 2002 := by omega
  have hsc : ((C.size : Int) - 1).toNat = C.size - 1 := by omega
  have hS : C.extract 1 (C.size - 1) = MB := bytes_ext (by rw [cut_mid, hC, hMB, cut_inner 42 42 M _ (by omega), List.take_of_length_le (by omega)])
  have hRK : Tw.readK 0 (Tw.elems bits) = (C.data.toList, 0) := Prod.ext (by rw [hch, hC]) hr0
  rw [hRK, hC] at HT
  rw [hRK] at HR
  replace hPT : Parts 0 (42 :: (M ++ [42])) check MB.data.toList := by rw [hMB]; exact hPT
  replace HR := Lib.hid (fun w' v' B how => decR_at (HR.out w' v' B how))
  obtain ⟨hMb1, hMb2⟩ := hMb
  cases check
  · rw [if_neg (by intro h; exact absurd h.1 Bool.noConfusion), hPT.plain rfl] at HT
    clear hPT htx hch hMl hC hCs hMBs hMB hCz hcn hb1 hr hr0 hRK hbl
    go_enter Tryz.func12, Tryz.ntmps12
    go_wp2_with fail
    refine (HP.out _).mono ?_
    rintro e w1 ⟨rfl, rfl⟩
    go_wp2_with fail
    refine (HW.out _ (Ext.refl _)).mono ?_
    rintro e w2 ⟨wv, rfl, how, hx2⟩
    have HRC := Lib.hid (HR.out w2 wv _ how)
    clear how HR
    go_wp2_with fail
    refine HRC.out.mono ?_
    rintro e w3 ⟨rfl, hx3⟩
    go_wp2
    go_ret2
    exact ⟨by rw [HT.out]; exact ret_pair' rfl rfl, hx2.trans hx3⟩
  · obtain ⟨hz2, _⟩ := hPT.size rfl
    rw [len_data] at hz2
    have hsn : ((MB.size : Int) - 1).toNat = MB.size - 1 := by omega
    obtain ⟨TB, hTB, hTBs⟩ := ofList (Tw.textK 0 (42 :: (M ++ [42])) true)
    have hT : MB.extract 0 (MB.size - 1) = TB := bytes_ext (by rw [cut_front, hTB, htx, hMB, hMBs])
    have hTs : TB.size ≤ 1000000 := by rw [← hT, ByteArray.size_extract]; omega
    have hsm := hPT.same rfl
    rw [← hTB] at HT hsm
    obtain ⟨DB, hDB, hDBs⟩ := ofList (Tw.chkK 0 TB.data.toList)
    have HK := Lib.hid (fun w => ckB hDB (checked_5 TB w hTs))
    rw [← hDB] at hsm
    clear hPT htx hch hMl hC hCs hMBs hMB hCz hcn hb1 hr hr0 hRK hbl hTB hTBs hDB hDBs
    by_cases heq : DB.data.toList = MB.data.toList
    · rw [if_neg (by intro h; exact h.2 (hsm.2 heq))] at HT
      obtain rfl : DB = MB := bytes_ext heq
      clear hsm heq
      go_enter Tryz.func12, Tryz.ntmps12
      go_wp2_with fail
      refine (HP.out _).mono ?_
      rintro e w1 ⟨rfl, rfl⟩
      go_wp2_with fail
      refine (HW.out _ (Ext.refl _)).mono ?_
      rintro e w2 ⟨wv, rfl, how, hx2⟩
      have HRC := Lib.hid (HR.out w2 wv _ how)
      clear how HR
      go_wp2_with fail
      refine HRC.out.mono ?_
      rintro e w3 ⟨rfl, hx3⟩
      go_wp2_with fail
      refine (HK.out _).mono ?_
      rintro e w4 ⟨rfl, hx4⟩
      go_wp2
      go_ret2
      exact ⟨by rw [HT.out]; exact ret_pair' rfl rfl, (by first | exact (hx2.trans hx3).trans hx4 | exact ((hx2.trans hx3).drewN _).trans hx4)⟩
    · rw [if_pos ⟨rfl, fun h => heq (hsm.1 h)⟩] at HT
      have hne := ne_bytes heq
      clear hsm heq
      go_enter Tryz.func12, Tryz.ntmps12
      go_wp2_with fail
      refine (HP.out _).mono ?_
      rintro e w1 ⟨rfl, rfl⟩
      go_wp2_with fail
      refine (HW.out _ (Ext.refl _)).mono ?_
      rintro e w2 ⟨wv, rfl, how, hx2⟩
      have HRC := Lib.hid (HR.out w2 wv _ how)
      clear how HR
      go_wp2_with fail
      refine HRC.out.mono ?_
      rintro e w3 ⟨rfl, hx3⟩
      go_wp2_with fail
      refine (HK.out _).mono ?_
      rintro e w4 ⟨rfl, hx4⟩
      go_wp2
      go_ret2
      exact ⟨by rw [HT.out]; rfl, (by first | exact (hx2.trans hx3).trans hx4 | exact ((hx2.trans hx3).drewN _).trans hx4)⟩
set_option maxRecDepth 100000 in
set_option maxHeartbeats 2000000 in
theorem rdec_6 (v : Value) (ws : List Int) (check : Bool) (w : World) (hv : Sl w v (ws.map encI)) (hl : ws.length ≤ 1000000) :
    Calls Tryz.prog 12 #[.int .i64 6, v, .bool check] w (DecR (Tw.decK 1 ws check) w) := by
  have HT := Lib.hid (Tw.decK.eq_1 1 ws check)
  generalize Tw.decK 1 ws check = res at *
  obtain ⟨a, c, rfl⟩ := hv.form
  rw [List.length_map] at hv ⊢
  have HV := Lib.hid hv
  have HP := Lib.hid (fun w => poss_6 ws.length check w hl)
  have HW := Lib.hid (fun w' hx => rwide_any _ ws w' (HV.out.ext hx) hl)
  clear hv
  cases hcnt : Tw.countsK 1 ws.length check
  · rw [hcnt] at HP HT
    rw [if_pos rfl] at HT
    clear hcnt
    go_enter Tryz.func12, Tryz.ntmps12
    go_wp2_with fail
    refine (HP.out _).mono ?_
    rintro e w1 ⟨rfl, rfl⟩
    go_wp2
    go_ret2
    exact ⟨by rw [HT.out]; rfl, Ext.refl _⟩
  have HRR := Lib.hid (rread_6 ws check hl hcnt)
  have HCN := Lib.hid hcnt
  rw [hcnt] at HP HT
  rw [if_neg Bool.noConfusion] at HT
  clear hcnt
  by_cases hw : (Tw.wide ws).2 ≠ 0
  · rw [if_pos hw] at HT
    have dw : ((Tw.wide ws).2 != 0) = true := bne_iff_ne.2 hw
    clear HRR hw
    generalize Tw.wide ws = W at *
    obtain ⟨W1, W2⟩ := W
    dsimp only at dw HT
    go_enter Tryz.func12, Tryz.ntmps12
    go_wp2_with fail
    refine (HP.out _).mono ?_
    rintro e w1 ⟨rfl, rfl⟩
    go_wp2_with fail
    refine (HW.out _ (Ext.refl _)).mono ?_
    rintro e w2 ⟨wv, rfl, how, hx2⟩
    clear how
    go_wp2
    go_ret2
    exact ⟨by rw [HT.out]; rfl, hx2⟩
  rw [if_neg hw] at HT
  have hw0 : (Tw.wide ws).2 = 0 := Decidable.of_not_not hw
  have HR := Lib.hid (HRR.out hw0)
  have hbl := wide_len ws hw0
  rw [show Tw.wide ws = ((Tw.wide ws).1, 0) from Prod.ext rfl hw0] at HW
  clear HRR hw hw0
  generalize (Tw.wide ws).1 = bits at *
  by_cases hr : (Tw.readK 1 (Tw.elems bits)).2 ≠ 0
  · rw [if_pos hr] at HT
    have dr : ((Tw.readK 1 (Tw.elems bits)).2 != 0) = true := bne_iff_ne.2 hr
    generalize Tw.readK 1 (Tw.elems bits) = R at *
    obtain ⟨R1, R2⟩ := R
    dsimp only at dr HT
    clear hr hbl
    go_enter Tryz.func12, Tryz.ntmps12
    go_wp2_with fail
    refine (HP.out _).mono ?_
    rintro e w1 ⟨rfl, rfl⟩
    go_wp2_with fail
    refine (HW.out _ (Ext.refl _)).mono ?_
    rintro e w2 ⟨wv, rfl, how, hx2⟩
    have HRC := Lib.hid (HR.out w2 wv _ how)
    clear how HR
    go_wp2_with fail
    refine HRC.out.mono ?_
    rintro e w3 ⟨rfl, hx3⟩
    go_wp2
    go_ret2
    exact ⟨by rw [HT.out]; rfl, hx2.trans hx3⟩
  rw [if_neg hr] at HT
  have hr0 : (Tw.readK 1 (Tw.elems bits)).2 = 0 := Decidable.of_not_not hr
  have hcn := HCN.out
  have hb1 : check.toNat ≤ 1 := by cases check <;> decide
  simp [Tw.countsK, Tw.counts] at hcn
  obtain ⟨hMl, hPT, hva⟩ := parts_1 bits ((ws.length + 1) / 8) check (by omega) (by omega) (by omega) hr0
  obtain ⟨C, hC, hCs⟩ := ofList (Tw.readK 1 (Tw.elems bits)).1
  obtain ⟨MB, rfl⟩ : ∃ MB : ByteArray, MB = C := ⟨_, rfl⟩
  have hMB := hC
  have hMb : 1 ≤ MB.size ∧ MB.size ≤ 2000 := by rw [hCs, hMl]; omega
  have hRK : Tw.readK 1 (Tw.elems bits) = (MB.data.toList, 0) := Prod.ext (by rw [hC]) hr0
  rw [hRK] at HT HR
  rw [← hC] at hPT hva
  replace HR := Lib.hid (fun w' v' B how => decR_at (HR.out w' v' B how))
  obtain ⟨hMb1, hMb2⟩ := hMb
  cases check
  · rw [if_neg (by intro h; exact absurd h.1 Bool.noConfusion), hPT.plain rfl] at HT
    clear hPT hva hMl hC hCs hMB hcn hb1 hr hr0 hRK hbl
    go_enter Tryz.func12, Tryz.ntmps12
    go_wp2_with fail
    refine (HP.out _).mono ?_
    rintro e w1 ⟨rfl, rfl⟩
    go_wp2_with fail
    refine (HW.out _ (Ext.refl _)).mono ?_
    rintro e w2 ⟨wv, rfl, how, hx2⟩
    have HRC := Lib.hid (HR.out w2 wv _ how)
    clear how HR
    go_wp2_with fail
    refine HRC.out.mono ?_
    rintro e w3 ⟨rfl, hx3⟩
    go_wp2
    go_ret2
    exact ⟨by rw [HT.out]; exact ret_pair' rfl rfl, hx2.trans hx3⟩
  · obtain ⟨hz2, _⟩ := hPT.size rfl
    rw [len_data] at hz2
    have hsn : ((MB.size : Int) - 1).toNat = MB.size - 1 := by omega
    have hsn2 : ((MB.size : Int) - 2).toNat = MB.size - 2 := by omega
    obtain ⟨TB, hTB, hTBs⟩ := ofList (Tw.textK 1 MB.data.toList true)
    have hT : MB.extract 0 (MB.size - 2) ++ MB.extract (MB.size - 1) MB.size = TB := bytes_ext (by
      rw [app2, cut_front, cut_back, hTB]
      show _ = MB.data.toList.take (MB.data.toList.length - 2) ++ MB.data.toList.drop (MB.data.toList.length - 1)
      rw [len_data])
    have hTs : TB.size ≤ 1000000 ∧ 1 ≤ TB.size := by rw [← hT]; simp [ByteArray.size_extract]; omega
    have hsm := hPT.same rfl
    have hv2 := hva rfl
    rw [← hTB] at HT hsm hv2
    obtain ⟨DB, hDB, hDBs⟩ := ofList (Tw.chkK 1 TB.data.toList)
    have HK := Lib.hid (fun w => ckB hDB (checked_6 TB w hTs.1 hTs.2 (Lib.hid hv2)))
    clear hv2 hva
    rw [← hDB] at hsm
    clear hPT hMl hC hCs hMB hcn hb1 hr hr0 hRK hbl hTB hTBs hDB hDBs
    by_cases heq : DB.data.toList = MB.data.toList
    · rw [if_neg (by intro h; exact h.2 (hsm.2 heq))] at HT
      obtain rfl : DB = MB := bytes_ext heq
      clear hsm heq
      go_enter Tryz.func12, Tryz.ntmps12
      go_wp2_with fail
      refine (HP.out _).mono ?_
      rintro e w1 ⟨rfl, rfl⟩
      go_wp2_with fail
      refine (HW.out _ (Ext.refl _)).mono ?_
      rintro e w2 ⟨wv, rfl, how, hx2⟩
      have HRC := Lib.hid (HR.out w2 wv _ how)
      clear how HR
      go_wp2_with fail
      refine HRC.out.mono ?_
      rintro e w3 ⟨rfl, hx3⟩
      go_wp2
      go_region
      first | rw [hT] | skip
      go_wp2_with fail
      refine (HK.out _).mono ?_
      rintro e w4 ⟨rfl, hx4⟩
      go_wp2
      go_ret2
      exact ⟨by rw [HT.out]; exact ret_pair' rfl rfl, (by first | exact (hx2.trans hx3).trans hx4 | exact ((hx2.trans hx3).drewN _).trans hx4)⟩
    · rw [if_pos ⟨rfl, fun h => heq (hsm.1 h)⟩] at HT
      have hne := ne_bytes heq
      clear hsm heq
      go_enter Tryz.func12, Tryz.ntmps12
      go_wp2_with fail
      refine (HP.out _).mono ?_
      rintro e w1 ⟨rfl, rfl⟩
      go_wp2_with fail
      refine (HW.out _ (Ext.refl _)).mono ?_
      rintro e w2 ⟨wv, rfl, how, hx2⟩
      have HRC := Lib.hid (HR.out w2 wv _ how)
      clear how HR
      go_wp2_with fail
      refine HRC.out.mono ?_
      rintro e w3 ⟨rfl, hx3⟩
      go_wp2
      go_region
      first | rw [hT] | skip
      go_wp2_with fail
      refine (HK.out _).mono ?_
      rintro e w4 ⟨rfl, hx4⟩
      go_wp2
      go_ret2
      exact ⟨by rw [HT.out]; rfl, (by first | exact (hx2.trans hx3).trans hx4 | exact ((hx2.trans hx3).drewN _).trans hx4)⟩
set_option maxRecDepth 100000 in
set_option maxHeartbeats 2000000 in
theorem rdec_7 (v : Value) (ws : List Int) (check : Bool) (w : World) (hv : Sl w v (ws.map encI)) (hl : ws.length ≤ 1000000) :
    Calls Tryz.prog 12 #[.int .i64 7, v, .bool check] w (DecR (Tw.decK 2 ws check) w) := by
  have HT := Lib.hid (Tw.decK.eq_1 2 ws check)
  generalize Tw.decK 2 ws check = res at *
  obtain ⟨a, c, rfl⟩ := hv.form
  rw [List.length_map] at hv ⊢
  have HV := Lib.hid hv
  have HP := Lib.hid (fun w => poss_7 ws.length check w hl)
  have HW := Lib.hid (fun w' hx => rwide_any _ ws w' (HV.out.ext hx) hl)
  clear hv
  cases hcnt : Tw.countsK 2 ws.length check
  · rw [hcnt] at HP HT
    rw [if_pos rfl] at HT
    clear hcnt
    go_enter Tryz.func12, Tryz.ntmps12
    go_wp2_with fail
    refine (HP.out _).mono ?_
    rintro e w1 ⟨rfl, rfl⟩
    go_wp2
    go_ret2
    exact ⟨by rw [HT.out]; rfl, Ext.refl _⟩
  have HRR := Lib.hid (rread_7 ws check hl hcnt)
  have HCN := Lib.hid hcnt
  rw [hcnt] at HP HT
  rw [if_neg Bool.noConfusion] at HT
  clear hcnt
  by_cases hw : (Tw.wide ws).2 ≠ 0
  · rw [if_pos hw] at HT
    have dw : ((Tw.wide ws).2 != 0) = true := bne_iff_ne.2 hw
    clear HRR hw
    generalize Tw.wide ws = W at *
    obtain ⟨W1, W2⟩ := W
    dsimp only at dw HT
    go_enter Tryz.func12, Tryz.ntmps12
    go_wp2_with fail
    refine (HP.out _).mono ?_
    rintro e w1 ⟨rfl, rfl⟩
    go_wp2_with fail
    refine (HW.out _ (Ext.refl _)).mono ?_
    rintro e w2 ⟨wv, rfl, how, hx2⟩
    clear how
    go_wp2
    go_ret2
    exact ⟨by rw [HT.out]; rfl, hx2⟩
  rw [if_neg hw] at HT
  have hw0 : (Tw.wide ws).2 = 0 := Decidable.of_not_not hw
  have HR := Lib.hid (HRR.out hw0)
  have hbl := wide_len ws hw0
  rw [show Tw.wide ws = ((Tw.wide ws).1, 0) from Prod.ext rfl hw0] at HW
  clear HRR hw hw0
  generalize (Tw.wide ws).1 = bits at *
  by_cases hr : (Tw.readK 2 (Tw.elems bits)).2 ≠ 0
  · rw [if_pos hr] at HT
    have dr : ((Tw.readK 2 (Tw.elems bits)).2 != 0) = true := bne_iff_ne.2 hr
    generalize Tw.readK 2 (Tw.elems bits) = R at *
    obtain ⟨R1, R2⟩ := R
    dsimp only at dr HT
    clear hr hbl
    go_enter Tryz.func12, Tryz.ntmps12
    go_wp2_with fail
    refine (HP.out _).mono ?_
    rintro e w1 ⟨rfl, rfl⟩
    go_wp2_with fail
    refine (HW.out _ (Ext.refl _)).mono ?_
    rintro e w2 ⟨wv, rfl, how, hx2⟩
    have HRC := Lib.hid (HR.out w2 wv _ how)
    clear how HR
    go_wp2_with fail
    refine HRC.out.mono ?_
    rintro e w3 ⟨rfl, hx3⟩
    go_wp2
    go_ret2
    exact ⟨by rw [HT.out]; rfl, hx2.trans hx3⟩
  rw [if_neg hr] at HT
  have hr0 : (Tw.readK 2 (Tw.elems bits)).2 = 0 := Decidable.of_not_not hr
  have hcn := HCN.out
  have hb1 : check.toNat ≤ 1 := by cases check <;> decide
  simp [Tw.countsK, Tw.countsItf] at hcn
  obtain ⟨hMl, hPT⟩ := parts_2 bits ((ws.length - 7) / 10) check (by omega) (by omega) (by omega) hr0
  obtain ⟨C, hC, hCs⟩ := ofList (Tw.readK 2 (Tw.elems bits)).1
  obtain ⟨MB, rfl⟩ : ∃ MB : ByteArray, MB = C := ⟨_, rfl⟩
  have hMB := hC
  have hMb : 1 ≤ MB.size ∧ MB.size ≤ 2000 := by rw [hCs, hMl]; omega
  have hRK : Tw.readK 2 (Tw.elems bits) = (MB.data.toList, 0) := Prod.ext (by rw [hC]) hr0
  rw [hRK] at HT HR
  rw [← hC] at hPT
  replace HR := Lib.hid (fun w' v' B how => decR_at (HR.out w' v' B how))
  obtain ⟨hMb1, hMb2⟩ := hMb
  cases check
  · rw [if_neg (by intro h; exact absurd h.1 Bool.noConfusion), hPT.plain rfl] at HT
    clear hPT hMl hC hCs hMB hcn hb1 hr hr0 hRK hbl
    go_enter Tryz.func12, Tryz.ntmps12
    go_wp2_with fail
    refine (HP.out _).mono ?_
    rintro e w1 ⟨rfl, rfl⟩
    go_wp2_with fail
    refine (HW.out _ (Ext.refl _)).mono ?_
    rintro e w2 ⟨wv, rfl, how, hx2⟩
    have HRC := Lib.hid (HR.out w2 wv _ how)
    clear how HR
    go_wp2_with fail
    refine HRC.out.mono ?_
    rintro e w3 ⟨rfl, hx3⟩
    go_wp2
    go_ret2
    exact ⟨by rw [HT.out]; exact ret_pair' rfl rfl, hx2.trans hx3⟩
  · obtain ⟨hz2, _⟩ := hPT.size rfl
    rw [len_data] at hz2
    have hsn : ((MB.size : Int) - 1).toNat = MB.size - 1 := by omega
    obtain ⟨TB, hTB, hTBs⟩ := ofList (Tw.textK 2 MB.data.toList true)
    have hT : MB.extract 0 (MB.size - 1) = TB := bytes_ext (by
      rw [cut_front, hTB]
      show _ = MB.data.toList.take (MB.data.toList.length - 1)
      rw [len_data])
    have hTs : TB.size ≤ 1000000 := by rw [← hT, ByteArray.size_extract]; omega
    have hsm := hPT.same rfl
    rw [← hTB] at HT hsm
    obtain ⟨DB, hDB, hDBs⟩ := ofList (Tw.chkK 2 TB.data.toList)
    have HK := Lib.hid (fun w => ckB hDB (checked_7 TB w hTs))
    rw [← hDB] at hsm
    clear hPT hMl hC hCs hMB hcn hb1 hr hr0 hRK hbl hTB hTBs hDB hDBs
    by_cases heq : DB.data.toList = MB.data.toList
    · rw [if_neg (by intro h; exact h.2 (hsm.2 heq))] at HT
      obtain rfl : DB = MB := bytes_ext heq
      clear hsm heq
      go_enter Tryz.func12, Tryz.ntmps12
      go_wp2_with fail
      refine (HP.out _).mono ?_
      rintro e w1 ⟨rfl, rfl⟩
      go_wp2_with fail
      refine (HW.out _ (Ext.refl _)).mono ?_
      rintro e w2 ⟨wv, rfl, how, hx2⟩
      have HRC := Lib.hid (HR.out w2 wv _ how)
      clear how HR
      go_wp2_with fail
      refine HRC.out.mono ?_
      rintro e w3 ⟨rfl, hx3⟩
      go_wp2_with fail
      refine (HK.out _).mono ?_
      rintro e w4 ⟨rfl, hx4⟩
      go_wp2
      go_ret2
      exact ⟨by rw [HT.out]; exact ret_pair' rfl rfl, (by first | exact (hx2.trans hx3).trans hx4 | exact ((hx2.trans hx3).drewN _).trans hx4)⟩
    · rw [if_pos ⟨rfl, fun h => heq (hsm.1 h)⟩] at HT
      have hne := ne_bytes heq
      clear hsm heq
      go_enter Tryz.func12, Tryz.ntmps12
      go_wp2_with fail
      refine (HP.out _).mono ?_
      rintro e w1 ⟨rfl, rfl⟩
      go_wp2_with fail
      refine (HW.out _ (Ext.refl _)).mono ?_
      rintro e w2 ⟨wv, rfl, how, hx2⟩
      have HRC := Lib.hid (HR.out w2 wv _ how)
      clear how HR
      go_wp2_with fail
      refine HRC.out.mono ?_
      rintro e w3 ⟨rfl, hx3⟩
      go_wp2_with fail
      refine (HK.out _).mono ?_
      rintro e w4 ⟨rfl, hx4⟩
      go_wp2
      go_ret2
      exact ⟨by rw [HT.out]; rfl, (by first | exact (hx2.trans hx3).trans hx4 | exact ((hx2.trans hx3).drewN _).trans hx4)⟩

set_option maxHeartbeats 1000000 in
theorem rdecode_any (kind : Int) (v : Value) (ws : List Int) (check : Bool) (w : World) (hv : Sl w v (ws.map encI)) (hl : ws.length ≤ 1000000) :
    Calls Tryz.prog 12 #[.int .i64 kind, v, .bool check] w (DecR (Tw.dec kind ws check) w) := by
  unfold Tw.dec
  split
  · rename_i h; subst h; exact rdec_5 v ws check w hv hl
  split
  · rename_i h; subst h; exact rdec_6 v ws check w hv hl
  split
  · rename_i h; subst h; exact rdec_7 v ws check w hv hl
  rename_i h5 h6 h7
  have d5 : (kind != 5) = true := bne_iff_ne.2 h5
  have d6 : (kind != 6) = true := bne_iff_ne.2 h6
  have d7 : (kind != 7) = true := bne_iff_ne.2 h7
  clear h5 h6 h7
  go_enter Tryz.func12, Tryz.ntmps12
  go_wp2
  go_ret2
  exact ⟨rfl, Ext.refl _⟩

set_option maxRecDepth 100000 in
set_option maxHeartbeats 2000000 in
theorem law_decodes (kind : Int) (v : Value) (ws : List Int) (check : Bool) (w : World) (hv : Sl w v (ws.map encI)) :
    Calls Tryz.prog 4 #[.int .i64 kind, v, .bool check] w fun e w' => e = .returned (.bool true) ∧ Ext w w' := by
  obtain ⟨a, c, rfl⟩ := hv.form
  rw [List.length_map] at hv ⊢
  by_cases hl : 400 < ws.length
  · go_enter Tryz.func4, Tryz.ntmps4
    go_wp2_with fail
    refine (example_any _).mono ?_
    rintro e w3 ⟨rfl, hx3⟩
    go_wp2
    go_ret
    exact ⟨rfl, hx3⟩
  · have H1 := Lib.hid (decode_any kind _ ws check w hv (by omega))
    have H2 := Lib.hid (fun w' hx => rdecode_any kind _ ws check w' (hv.ext hx) (by omega))
    generalize Tw.dec kind ws check = r at *
    obtain ⟨r1, x⟩ := r
    obtain ⟨D, rfl⟩ : ∃ D : ByteArray, r1 = D.data.toList := ⟨⟨r1.toArray⟩, by simp⟩
    replace H1 := Lib.hid (decR_at H1.out)
    replace H2 := Lib.hid (fun w' hx => decR_at (H2.out w' hx))
    have bx : (x == x) = true := beq_self_eq_true _
    clear hv
    go_enter Tryz.func4, Tryz.ntmps4
    go_wp2_with fail
    refine H1.out.mono ?_
    rintro e w1 ⟨rfl, hx1⟩
    go_wp2_with fail
    refine (H2.out _ hx1).mono ?_
    rintro e w2 ⟨rfl, hx2⟩
    go_wp2_with fail
    refine (example_any _).mono ?_
    rintro e w3 ⟨rfl, hx3⟩
    go_wp2
    go_ret
    exact ⟨rfl, (hx1.trans hx2).trans hx3⟩
end Go.Proofs.YthjlnpcaclfopaaGreat
