/-
  Chapter 14: the reference's index, all and Format, walked.
  Condition: at most a thousand million elements.
-/
import Derived.Test.YtkembhpmfigbcaaDoorGsR6
import Derived.Test.YtkembhpmfigbcaaDoorGsWA
namespace Go.Proofs.YtkembhpmfigbcaaDoor
set_option linter.unusedVariables false
open Go.RowKit

theorem upto_cons (c b : UInt8) (l : List UInt8) : Gs.upto c (b :: l) = if b = c then [] else b :: Gs.upto c l := rfl

set_option maxRecDepth 100000 in
set_option maxHeartbeats 2000000 in
theorem rindex_any (s : ByteArray) (c : UInt8) (k0 : Nat) (h0 : k0 ≤ s.size) (hs : s.size ≤ 1000000) (w : World) :
    Calls Tryd.prog 36 #[.string s, .int .u8 (c.toNat : Int), .int .i64 (k0 : Int)] w fun e w' => e = .returned (.int .i64 ((k0 + (Gs.upto c (s.data.toList.drop k0)).length : Nat) : Int)) ∧ w = w' := by
  obtain ⟨res, hres⟩ : ∃ res : Nat, k0 + (Gs.upto c (s.data.toList.drop k0)).length = res := ⟨_, rfl⟩
  rw [hres]
  have HR := Lib.hid hres
  clear hres
  go_enter Tryd.func36, Tryd.ntmps36
  go_wp2
  go_loop [2] (fun i => ∃ k : Nat, k ≤ s.size ∧ i = .int .i64 (k : Int) ∧ Hid (k + (Gs.upto c (s.data.toList.drop k)).length = res)) (fun i => s.size - (intOf i).toNat)
  case atStart => exact ⟨k0, h0, rfl, HR⟩
  case round =>
    obtain ⟨k, hk, rfl, hg⟩ := hrel
    by_cases hlt : k < s.size
    · have HDC := Lib.hid (drop_cons s k hlt)
      have hg2 := hg.out
      rw [HDC.out, upto_cons] at hg2
      have HG := Lib.hid hg2
      clear hg2 hg HDC
      by_cases hv : s[k] = c
      · have HX : Hid (k = res) := Lib.hid (by have := HG.out; rw [if_pos hv] at this; simpa using this)
        have hb : ((s[k].toNat : Int) != (c.toNat : Int)) = false := by rw [hv]; simp
        have hb2 : (s[k].toNat != c.toNat) = false := by rw [hv]; simp
        clear HG hv
        go_wp2
        go_ret
        exact ⟨ret_int (by rw [HX.out]), rfl⟩
      · have hne : ¬ s[k].toNat = c.toNat := fun h => hv (UInt8.toNat_inj.1 h)
        have HX : Hid (k + 1 + (Gs.upto c (s.data.toList.drop (k + 1))).length = res) := Lib.hid (by have := HG.out; rw [if_neg hv, List.length_cons] at this; omega)
        have hb : ((s[k].toNat : Int) != (c.toNat : Int)) = true := by simp; omega
        have hb2 : (s[k].toNat != c.toNat) = true := by simp; exact hne
        clear HG hv hne
        go_wp2
        go_round
        case rel => exact ⟨k + 1, by omega, by go_num, HX⟩
        case measure => simp [intOf]; omega
    · obtain rfl : k = s.size := by omega
      have HX : Hid (s.size = res) := Lib.hid (by have := hg.out; rw [drop_all] at this; simpa [Gs.upto] using this)
      clear hk hlt hg
      go_wp2
      go_ret
      exact ⟨ret_int (by rw [← HX.out]), rfl⟩

set_option maxRecDepth 100000 in
set_option maxHeartbeats 2000000 in
theorem rall_any (v : Value) (xs : List Gs.El) (w : World) (hl : ESl w v xs) (hn : xs.length ≤ 1000000000000) (hs : ∀ x ∈ xs, x.1.length ≤ maxLen ∧ x.2.length ≤ maxLen) :
    Calls Tryd.prog 41 #[v] w fun e w' => e = .returned (.int .i64 (Gs.verAll xs)) ∧ Ext w w' := by
  obtain ⟨a, c, rfl⟩ := hl.form
  have HV := Lib.hid (fun (w' : World) (ai d : ByteArray) (h1 : ai.size ≤ maxLen) (h2 : d.size ≤ maxLen) => rVerify_any ai d h1 h2 w')
  have HL := Lib.hid hl
  have HS := Lib.hid hs
  have HR := Lib.hid (Gs.verAll.eq_1 xs)
  generalize Gs.verAll xs = res at *
  clear hl hs
  by_cases h0 : xs = []
  · subst h0
    rw [if_pos rfl] at HR
    clear HV HL HS
    go_enter Tryd.func41, Tryd.ntmps41
    go_wp2
    go_ret
    exact ⟨ret_int HR.out.symm, Ext.refl _⟩
  · rw [if_neg h0] at HR
    obtain ⟨N, hN⟩ : ∃ N, xs.length = N := ⟨_, rfl⟩
    have hN0 : 0 < N := by rw [← hN]; exact List.length_pos_iff.2 h0
    have hN1 : ((N : Int) == 0) = false := by rw [beq_eq_false_iff_ne]; omega
    have HN := Lib.hid hN
    rw [hN] at hn HL ⊢
    clear h0 hN
    go_enter Tryd.func41, Tryd.ntmps41
    go_wp2
    go_loopw [3] (fun t wr => ∃ k : Nat, k ≤ N ∧ t = .int .i64 (k : Int) ∧ Hid (res = Gs.verL (xs.drop k)) ∧ Ext w wr) (fun t _ => N - (intOf t).toNat)
    case atStart => exact ⟨0, Nat.zero_le _, rfl, HR, Ext.refl w⟩
    case round =>
      obtain ⟨k, hk, rfl, hv, hx⟩ := hrel
      by_cases hlt : k < N
      · obtain ⟨x, hxk⟩ : ∃ x, xs[k]? = some x := ⟨_, List.getElem?_eq_getElem (by rw [HN.out]; exact hlt)⟩
        obtain ⟨bb, off, ha, hb, q0, q1⟩ := HL.out.at_ hxk
        subst ha
        have d0 := (hx.cell (p := ⟨bb, off + k * 2, none⟩) hb).trans q0
        have d1 := (hx.cell (p := ⟨bb, off + k * 2 + 1, none⟩) hb).trans q1
        have hdr : xs.drop k = x :: xs.drop (k + 1) := by
          obtain ⟨h1, h2⟩ := List.getElem?_eq_some_iff.1 hxk
          rw [List.drop_eq_getElem_cons h1, h2]
        have HV1 := Lib.hid (hv.out.trans (by rw [hdr, Gs.verL]))
        obtain ⟨s1, s2⟩ := HS.out x (List.mem_of_getElem? hxk)
        obtain ⟨xa, xd⟩ := x
        unfold encS at d0 d1
        dsimp only at d0 d1 s1 s2 HV1
        have HB : Hid ((⟨xa.toArray⟩ : ByteArray).data.toList = xa ∧ (⟨xd.toArray⟩ : ByteArray).data.toList = xd ∧ (⟨xa.toArray⟩ : ByteArray).size ≤ maxLen ∧ (⟨xd.toArray⟩ : ByteArray).size ≤ maxLen) := Lib.hid (by simp [ByteArray.size]; exact ⟨s1, s2⟩)
        generalize (⟨xa.toArray⟩ : ByteArray) = A at *
        generalize (⟨xd.toArray⟩ : ByteArray) = D at *
        clear hxk q0 q1 hdr s1 s2 hv
        go_wp2_with fail
        obtain ⟨b1, b2, b3, b4⟩ := HB.out
        have H1 := Lib.hid (HV.out wr A D b3 b4)
        rw [b1, b2] at H1
        clear b1 b2 b3 b4
        by_cases hz : Gs.ver xa xd = 0
        · rw [if_pos hz] at HV1
          rw [hz] at H1
          clear hz
          refine H1.out.mono ?_
          rintro e w1 ⟨rfl, hx1⟩
          clear d0 d1
          go_wp2
          go_roundw
          case rel => exact ⟨k + 1, by omega, by go_num, HV1, hx.trans hx1⟩
          case measure => simp [intOf]; omega
        · rw [if_neg hz] at HV1
          obtain ⟨z, hzz⟩ : ∃ z, Gs.ver xa xd = z := ⟨_, rfl⟩
          rw [hzz] at H1 HV1 hz
          have hz1 : (z == 0) = false := by simpa using hz
          clear hzz
          refine H1.out.mono ?_
          rintro e w1 ⟨rfl, hx1⟩
          clear d0 d1
          go_wp2
          go_ret
          exact ⟨ret_int HV1.out.symm, hx.trans hx1⟩
      · obtain rfl : k = N := by omega
        have HV1 : Hid (res = 0) := Lib.hid (by rw [hv.out, ← HN.out, List.drop_length]; rfl)
        clear hk hlt hv
        go_wp2
        go_ret
        exact ⟨ret_int HV1.out.symm, hx⟩

theorem flat_take_le (xs : List Gs.El) (k : Nat) : ((xs.take k).flatMap Gs.fmtE).length ≤ (xs.flatMap Gs.fmtE).length := by
  have : xs.flatMap Gs.fmtE = (xs.take k).flatMap Gs.fmtE ++ (xs.drop k).flatMap Gs.fmtE := by rw [← List.flatMap_append, List.take_append_drop]
  rw [this, List.length_append]; omega

set_option maxRecDepth 100000 in
set_option maxHeartbeats 4000000 in
theorem rformat_any (v : Value) (xs : List Gs.El) (w : World) (hl : ESl w v xs) (hn : xs.length ≤ 1000000000) (hs : ∀ x ∈ xs, x.1.length ≤ maxLen ∧ x.2.length ≤ maxLen) :
    Calls Tryd.prog 18 #[v] w (StrR (Gs.format xs) w) := by
  have HVA := Lib.hid (rall_any v xs w hl (by omega) hs)
  have HL := Lib.hid hl
  obtain ⟨a, c, rfl⟩ := hl.form
  have HR := Lib.hid (Gs.format.eq_1 xs)
  have HVM : Hid (Gs.verAll xs = 0 → ∀ x ∈ xs, Gs.ver x.1 x.2 = 0) := Lib.hid (fun h => verL_mem (verAll_zero h))
  generalize Gs.format xs = res at *
  obtain ⟨N, hN⟩ : ∃ N, xs.length = N := ⟨_, rfl⟩
  have HN := Lib.hid hN
  rw [hN] at hn HL HVA ⊢
  clear hl hs hN
  by_cases hz : Gs.verAll xs = 0
  · have HVM := Lib.hid (HVM.out hz)
    rw [hz] at HVA
    rw [hz, if_neg (by simp)] at HR
    clear hz
    go_enter Tryd.func18, Tryd.ntmps18
    go_wp2_with fail
    refine HVA.out.mono ?_
    rintro e V ⟨rfl, hxw⟩
    clear HVA
    go_wp2
    go_loopw [6, 5] (fun t u wr => ∃ (k : Nat) (S : ByteArray), k ≤ N ∧ t = .int .i64 (k : Int) ∧ u = .string S ∧ S.size ≤ 4096 ∧ Hid (S.data.toList = (xs.take k).flatMap Gs.fmtE) ∧ Ext w wr) (fun t _ _ => N - (intOf t).toNat)
    case atStart => exact ⟨0, ⟨#[]⟩, Nat.zero_le _, rfl, rfl, by decide, Lib.hid rfl, hxw⟩
    case round =>
      obtain ⟨k, S, hk, rfl, rfl, hS4, hst, hx⟩ := hrel
      by_cases hlt : k < N
      · obtain ⟨x, hxk⟩ : ∃ x, xs[k]? = some x := ⟨_, List.getElem?_eq_getElem (by rw [HN.out]; exact hlt)⟩
        obtain ⟨bb, off, ha, hb', q0, q1⟩ := HL.out.at_ hxk
        subst ha
        have d0 := (hx.cell (p := ⟨bb, off + k * 2, none⟩) hb').trans q0
        have d1 := (hx.cell (p := ⟨bb, off + k * 2 + 1, none⟩) hb').trans q1
        have HTS : Hid ((xs.take (k + 1)).flatMap Gs.fmtE = (xs.take k).flatMap Gs.fmtE ++ Gs.fmtE x) := Lib.hid (by rw [take_snocL hxk, List.flatMap_append]; simp)
        have hvs := ver_sizes (HVM.out x (List.mem_of_getElem? hxk))
        obtain ⟨xa, xd⟩ := x
        unfold encS at d0 d1
        dsimp only at d0 d1 hvs
        have HB : Hid ((⟨xa.toArray⟩ : ByteArray).data.toList = xa ∧ (⟨xd.toArray⟩ : ByteArray).data.toList = xd) := Lib.hid ⟨rfl, rfl⟩
        generalize (⟨xa.toArray⟩ : ByteArray) = A at *
        generalize (⟨xd.toArray⟩ : ByteArray) = D at *
        have hAs : A.size ≤ 4 := by rw [← len_data, HB.out.1]; exact hvs.1
        have hDs : D.size ≤ 90 := by rw [← len_data, HB.out.2]; exact hvs.2
        have HNS : Hid ((S ++ ⟨#[40]⟩ ++ A ++ ⟨#[41]⟩ ++ D).data.toList = (xs.take (k + 1)).flatMap Gs.fmtE) := Lib.hid (by
          rw [HTS.out, ← hst.out, ← HB.out.1, ← HB.out.2]
          simp [Gs.fmtE, ByteArray.data_append])
        have HFT := Lib.hid (flat_take_le xs (k + 1))
        clear hxk q0 q1 hvs hst HTS
        go_wp2
        go_quiet (fail)
        obtain ⟨R, hR⟩ : ∃ R : ByteArray, R = S ++ ⟨#[40]⟩ ++ A ++ ⟨#[41]⟩ ++ D := ⟨_, rfl⟩
        rw [← hR] at HNS ⊢
        have hRs : R.size ≤ 5000 := by rw [hR]; simp only [ByteArray.size_append]; have h1 : (⟨#[40]⟩ : ByteArray).size = 1 := rfl; have h2 : (⟨#[41]⟩ : ByteArray).size = 1 := rfl; omega
        clear hR
        by_cases hlg : 4096 < R.size
        · have HR4 : Hid (res = ([], 4)) := Lib.hid (by
            rw [HR.out, if_pos]
            have h1 := HFT.out
            rw [← HNS.out, len_data] at h1
            omega)
          go_wp2
          go_ret2
          rw [HR4.out]
          exact ⟨rfl, hx.drewN _⟩
        · have hlg' : R.size ≤ 4096 := by omega
          clear hlg
          go_wp2
          go_roundw
          case rel => exact ⟨k + 1, R, by omega, by go_num, rfl, hlg', HNS, hx.drewN _⟩
          case measure => simp [intOf]; omega
      · obtain rfl : k = N := by omega
        have HST : Hid (S.data.toList = xs.flatMap Gs.fmtE) := Lib.hid (by rw [hst.out, List.take_of_length_le (by rw [HN.out]; exact Nat.le_refl _)])
        rw [← HST.out, len_data, if_neg (by omega)] at HR
        clear hk hlt hst
        go_wp2
        go_ret2
        rw [HR.out]
        exact ⟨by rw [encS_of]; rfl, hx⟩
  · rw [if_pos hz] at HR
    obtain ⟨z, hzz⟩ : ∃ z, Gs.verAll xs = z := ⟨_, rfl⟩
    rw [hzz] at HVA HR hz
    have hz1 : (z == 0) = false := by simpa using hz
    clear hzz HVM
    go_enter Tryd.func18, Tryd.ntmps18
    go_wp2_with fail
    refine HVA.out.mono ?_
    rintro e V ⟨rfl, hxw⟩
    go_wp2
    go_ret2
    exact ⟨by rw [HR.out]; rfl, hxw⟩
end Go.Proofs.YtkembhpmfigbcaaDoor
