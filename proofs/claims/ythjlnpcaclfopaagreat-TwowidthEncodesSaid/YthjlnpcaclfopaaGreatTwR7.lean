/-
  Chapter 12: the reference's Checked, walked.
  Condition: a Codabar text holds Codabar's characters.
-/
import Derived.Test.YthjlnpcaclfopaaGreatTwR6
import Derived.Test.YthjlnpcaclfopaaGreatCdR4
namespace Go.Proofs.YthjlnpcaclfopaaGreat
open Go.RowKit

/-- A text with its check character. -/
def Tw.cbc (l : List UInt8) : List UInt8 := l.take (l.length - 1) ++ [Tw.dCb.getD ((16 - Tw.sumCb l % 16) % 16).toNat 0] ++ l.drop (l.length - 1)
def Tw.chkK (k : Nat) (l : List UInt8) : List UInt8 := match k with
  | 0 => (Cd.app 7 l).1
  | 1 => Tw.cbc l
  | _ => (Cd.app 1 l).1
theorem app_is (k : Int) (l : List UInt8) (hl : l.length ≤ 1001) (h : (Cd.compI k l).2 = 0) : Cd.app k l = (l ++ (Cd.compI k l).1, 0) := by
  have := rcompI_len k l
  unfold Cd.app
  rw [if_pos h, if_neg (by omega)]
theorem comp_chk0 (l : List UInt8) (hl : l.length ≤ 1000) (h0 : 1 ≤ l.length) (h : (Tw.comp39 l true).2 = 0) : (Tw.comp39 l true).1 = 42 :: (Cd.app 7 l).1 ++ [42] := by
  have he := comp39_err l true h0 hl
  rw [h] at he
  have ho : Tw.only l Cd.syms = true := by
    cases hh : Tw.only l Cd.syms
    · rw [hh] at he; simp at he
    · rfl
  have hz := comp7_ok l h0 (by omega) ho
  unfold Tw.comp39
  rw [ho, if_neg Bool.noConfusion, if_neg Bool.noConfusion, if_pos hz, app_is 7 l (by omega) hz]
  simp
theorem comp_chk1 (l : List UInt8) (h : (Tw.compCb l true).2 = 0) : (Tw.compCb l true).1 = Tw.cbc l := by
  have he := compCb_err l true
  rw [h] at he
  unfold Tw.compCb
  split
  · rename_i g; rw [if_pos g] at he; simp at he
  · rename_i g; rw [if_neg g] at he
    split
    · rename_i g; rw [if_pos g] at he; simp at he
    · rename_i g; rw [if_neg g] at he
      split
      · rename_i g; rw [if_pos g] at he; simp at he
      · rename_i g; rw [if_neg g] at he
        split
        · rename_i g; rw [if_pos g] at he; simp at he
        · rw [if_neg Bool.noConfusion]; rfl
theorem comp_chk2 (l : List UInt8) (hl : l.length ≤ 1000) (h0 : 1 ≤ l.length) (h : (Tw.compItf l true).2 = 0) : (Tw.compItf l true).1 = (Cd.app 1 l).1 := by
  have he := compItf_err l true h0 hl
  rw [h] at he
  have ho : Tw.only l Tw.cItf = true := by
    cases hh : Tw.only l Tw.cItf
    · rw [hh] at he; simp at he
    · rfl
  have hz := comp1_ok l h0 (by omega) ho
  unfold Tw.compItf at h ⊢
  rw [ho, if_neg (show ¬ (true = false) from Bool.noConfusion), if_neg (show ¬ (true = false) from Bool.noConfusion), if_pos hz] at h ⊢
  rw [app_is 1 l (by omega) hz]
  split
  · rfl
  · rename_i g; rw [if_neg g] at h; simp at h
theorem cb_cut : ∀ v : Nat, v < 16 → ((⟨#[48, 49, 50, 51, 52, 53, 54, 55, 56, 57, 45, 36, 58, 47, 46, 43, 65, 66, 67, 68]⟩ : ByteArray).extract v (v + 1)).data.toList = [Tw.dCb.getD v 0] := by
  intro v hv
  rw [cut_mid]
  have : ∀ v : Fin 16, (([48, 49, 50, 51, 52, 53, 54, 55, 56, 57, 45, 36, 58, 47, 46, 43, 65, 66, 67, 68] : List UInt8).drop v.val).take (v.val + 1 - v.val) = [Tw.dCb.getD v.val 0] := by decide
  exact this ⟨v, hv⟩
theorem ret_strV {a : ByteArray} {l : List UInt8} (h1 : a.data.toList = l) : Ending.returned (.string a) = .returned (strV l) := by
  rw [← h1]; unfold strV; rw [mk_toList]

set_option maxHeartbeats 1000000 in
theorem checked_5 (s : ByteArray) (w : World) (hs : s.size ≤ 1000000) :
    Calls Tryz.prog 19 #[.int .i64 5, .string s] w fun e w' => e = .returned (strV (Tw.chkK 0 s.data.toList)) ∧ Ext w w' := by
  have HA := Lib.hid (fun w => rappend_any 7 s w (by omega))
  show Calls Tryz.prog 19 #[.int .i64 5, .string s] w fun e w' => e = .returned (strV (Cd.app 7 s.data.toList).1) ∧ Ext w w'
  unfold strV
  generalize Cd.app 7 s.data.toList = r at *
  obtain ⟨r1, r2⟩ := r
  dsimp only at HA ⊢
  go_enter Tryz.func19, Tryz.ntmps19
  go_wp2_with fail
  refine (HA.out _).mono ?_
  rintro e w1 ⟨rfl, rfl⟩
  go_wp2
  go_ret
  exact ⟨rfl, Ext.refl _⟩
set_option maxHeartbeats 1000000 in
theorem checked_7 (s : ByteArray) (w : World) (hs : s.size ≤ 1000000) :
    Calls Tryz.prog 19 #[.int .i64 7, .string s] w fun e w' => e = .returned (strV (Tw.chkK 2 s.data.toList)) ∧ Ext w w' := by
  have HA := Lib.hid (fun w => rappend_any 1 s w (by omega))
  show Calls Tryz.prog 19 #[.int .i64 7, .string s] w fun e w' => e = .returned (strV (Cd.app 1 s.data.toList).1) ∧ Ext w w'
  unfold strV
  generalize Cd.app 1 s.data.toList = r at *
  obtain ⟨r1, r2⟩ := r
  dsimp only at HA ⊢
  go_enter Tryz.func19, Tryz.ntmps19
  go_wp2_with fail
  refine (HA.out _).mono ?_
  rintro e w1 ⟨rfl, rfl⟩
  go_wp2
  go_ret
  exact ⟨rfl, Ext.refl _⟩

set_option maxRecDepth 100000 in
set_option maxHeartbeats 2000000 in
theorem checked_6 (s : ByteArray) (w : World) (hs : s.size ≤ 1000000) (h1 : 1 ≤ s.size) (HVV : Hid (∀ c ∈ s.data.toList, 0 ≤ Lib.indexByte Tw.cCb c)) :
    Calls Tryz.prog 19 #[.int .i64 6, .string s] w fun e w' => e = .returned (strV (Tw.chkK 1 s.data.toList)) ∧ Ext w w' := by
  have HT : Hid (Tw.chkK 1 s.data.toList = _) := Lib.hid (Tw.cbc.eq_1 s.data.toList)
  rw [len_data] at HT
  generalize Tw.chkK 1 s.data.toList = res at *
  go_enter Tryz.func19, Tryz.ntmps19
  go_wp2
  go_loop [10, 9] (fun i x => ∃ j : Nat, j ≤ s.size ∧ i = .int .i64 (j : Int) ∧ x = .int .i64 (Tw.sumCb (s.data.toList.take j))) (fun i _ => s.size - (intOf i).toNat)
  case atStart => exact ⟨0, Nat.zero_le _, rfl, rfl⟩
  case round =>
    obtain ⟨j, hj, rfl, rfl⟩ := hrel
    have hb := sumCb_bd (s.data.toList.take j) (fun c hc => HVV.out c (List.mem_of_mem_take hc))
    rw [len_take s j hj] at hb
    obtain ⟨hb1, hb2⟩ := hb
    by_cases hlt : j < s.size
    · have HI : Hid (∀ w, Calls Tryz.prog 40 #[.string ⟨#[48, 49, 50, 51, 52, 53, 54, 55, 56, 57, 45, 36, 58, 47, 46, 43, 65, 66, 67, 68]⟩, .int .u8 (s[j].toNat : Int)] w fun e w' => e = .returned (.int .i64 (Lib.indexByte Tw.cCb s[j])) ∧ w = w') := Lib.hid (fun w => place_lit Tw.cCb s[j] (by decide) w)
      have HSN := Lib.hid (sumCb_snoc (s.data.toList.take j) s[j])
      rw [← take_snoc s j hlt] at HSN
      have hi0 := HVV.out s[j] (mem_at s j hlt)
      have hi1 : Lib.indexByte Tw.cCb s[j] < 20 := by
        obtain ⟨n, hn⟩ := Int.eq_ofNat_of_zero_le hi0
        have := index_lt _ _ _ hn
        have h4 : Tw.cCb.length = 20 := rfl
        omega
      generalize Lib.indexByte Tw.cCb s[j] = x at *
      generalize Tw.sumCb (s.data.toList.take j) = g at *
      go_wp2_with fail
      refine (HI.out _).mono ?_
      rintro e w1 ⟨rfl, rfl⟩
      go_wp2
      go_round
      case rel => exact ⟨j + 1, by omega, by go_num, by rw [HSN.out]⟩
      case measure => simp [intOf]; omega
    · obtain rfl : j = s.size := by omega
      rw [take_all] at hb1 hb2 ⊢
      clear hj hlt
      generalize Tw.sumCb s.data.toList = g at *
      obtain ⟨v, hv, hv16⟩ : ∃ v : Nat, (16 - g % 16) % 16 = (v : Int) ∧ v < 16 := ⟨((16 - g % 16) % 16).toNat, by omega, by omega⟩
      rw [hv, Int.toNat_natCast] at HT
      have HDC := Lib.hid (cb_cut v hv16)
      obtain ⟨u, hu⟩ : ∃ u : Nat, v + 1 = u := ⟨_, rfl⟩
      rw [hu] at HDC
      have hv1 : (v : Int) + 1 = (u : Int) := by omega
      have hu1 : v ≤ u := by omega
      have hu2 : u ≤ 16 := by omega
      have hsn : ((s.size : Int) - 1).toNat = s.size - 1 := by omega
      clear hu
      go_wp2
      go_region
      go_wp2
      go_ret
      refine ⟨?_, ?_⟩
      · rw [HT.out]
        refine ret_strV ?_
        rw [app3, cut_front, HDC.out, cut_back]
      · exact (Ext.refl _).drewN _
end Go.Proofs.YthjlnpcaclfopaaGreat
