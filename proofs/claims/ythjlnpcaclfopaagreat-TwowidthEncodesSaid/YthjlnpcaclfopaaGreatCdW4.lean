/-
  'all', 'complete', Verify, Compute, Append and Size of checkdigit, walked.
  Conditions: strings within the reach.
-/
import Derived.Test.YthjlnpcaclfopaaGreatCdW3
namespace Go.Proofs.YthjlnpcaclfopaaGreat
open Go.RowKit

theorem all_take_succ (s : ByteArray) (p : UInt8 → Bool) (k : Nat) (h : k < s.size) : (s.data.toList.take (k + 1)).all p = ((s.data.toList.take k).all p && p s[k]) := by
  rw [take_snoc s k h]; simp
theorem all_false_at (s : ByteArray) (p : UInt8 → Bool) (k : Nat) (h : k < s.size) (hp : p s[k] = false) : s.data.toList.all p = false := by
  rw [List.all_eq_false]
  exact ⟨s[k], mem_at s k h, by simp [hp]⟩

set_option maxHeartbeats 400000 in
theorem all_meth (nm : String) (T : Nat) (p : Int → Bool) (hm : ∀ c : Int, Meth T nm #[.int .u8 c] (.bool (p c))) (s : ByteArray) (w : World) (hs : s.size ≤ 9223372036854775807) :
    Calls Tryz.prog 74 #[.string s, .func (.method nm) #[.iface T (.agg #[])] #[]] w fun e w' => e = .returned (.bool (s.data.toList.all fun c => p c.toNat)) ∧ Ext w w' := by
  have HM := Lib.hid hm
  clear hm
  go_enter Tryz.func74, Tryz.ntmps74
  go_wp2
  go_loopw [8] (fun i wr => ∃ k : Nat, k ≤ s.size ∧ i = .int .i64 k ∧ Hid ((s.data.toList.take k).all (fun c => p c.toNat) = true) ∧ Ext w wr) (fun i _ => s.size - (intOf i).toNat)
  case atStart => exact ⟨0, Nat.zero_le _, rfl, rfl, Ext.refl _⟩
  case round =>
    obtain ⟨k, hk, rfl, ha, hx⟩ := hrel
    by_cases hlt : k < s.size
    · obtain ⟨f, h1, h2, h3⟩ := HM.out (s[k].toNat : Int)
      have HA := Lib.hid (all_take_succ s (fun c => p c.toNat) k hlt)
      have HF := Lib.hid (all_false_at s (fun c => p c.toNat) k hlt)
      have H3 := Lib.hid h3
      clear h3
      cases hp : p (s[k].toNat : Int)
      · rw [hp] at H3
        have HP := Lib.hid hp
        clear hp
        go_wp2_with fail
        refine (H3.out _).mono ?_
        rintro e w1 ⟨rfl, hx1⟩
        go_wp2
        go_ret
        exact ⟨ret_bool (HF.out HP.out).symm, hx.trans hx1⟩
      · rw [hp] at H3
        have HP := Lib.hid hp
        clear hp
        go_wp2_with fail
        refine (H3.out _).mono ?_
        rintro e w1 ⟨rfl, hx1⟩
        go_wp2
        go_roundw
        case rel => exact ⟨k + 1, by omega, by go_num, by show _ = _; rw [HA.out, ha.out]; simpa using HP.out, hx.trans hx1⟩
        case measure => simp [intOf]; omega
    · obtain rfl : k = s.size := by omega
      rw [take_all] at ha
      clear hk hlt
      go_wp2
      go_ret
      exact ⟨ret_bool ha.out.symm, hx⟩

set_option maxHeartbeats 400000 in
theorem complete_any (k : Nat) (T : Nat) (hy : SysAt k T) (n : Nat) (w : World) (_hn : n ≤ 1000000) :
    Calls Tryz.prog 75 #[.iface T (.agg #[]), .int .i64 n] w fun e w' => e = .returned (.bool (Cd.fits k n)) ∧ Ext w w' := by
  obtain ⟨f1, h1, h2, h3⟩ := hy.size
  obtain ⟨f2, g1, g2, g3⟩ := hy.length
  have H3 := Lib.hid h3
  have G3 := Lib.hid g3
  clear h3 g3 hy
  by_cases hk : k = 3
  · subst hk
    simp only [if_true] at G3
    rw [show Cd.size 3 = 1 from rfl] at H3
    go_enter Tryz.func75, Tryz.ntmps75
    go_wp2_with fail
    refine (G3.out _).mono ?_
    rintro e w1 ⟨rfl, hx1⟩
    go_wp2_with fail
    refine (G3.out _).mono ?_
    rintro e w2 ⟨rfl, hx2⟩
    go_wp2_with fail
    refine (H3.out _).mono ?_
    rintro e w3 ⟨rfl, hx3⟩
    go_wp2
    go_ret
    exact ⟨ret_bool (by rw [Bool.eq_iff_iff]; simp [Cd.fits]; omega), (hx1.trans hx2).trans hx3⟩
  · simp only [hk, if_false] at G3
    have hsz : Cd.size k ≤ 2 := by unfold Cd.size; split <;> omega
    have HK := Lib.hid hk
    clear hk
    go_enter Tryz.func75, Tryz.ntmps75
    go_wp2_with fail
    refine (G3.out _).mono ?_
    rintro e w1 ⟨rfl, hx1⟩
    go_wp2_with fail
    refine (H3.out _).mono ?_
    rintro e w3 ⟨rfl, hx3⟩
    go_wp2
    go_ret
    exact ⟨ret_bool (by simp [Cd.fits, HK.out]), hx1.trans hx3⟩

theorem compute_bad (k : Int) (s : ByteArray) (w : World) (h : k < 1 ∨ 8 < k) :
    Calls Tryz.prog 55 #[.int .i64 k, .string s] w fun e w' => e = .returned (.tuple #[.string ⟨#[]⟩, .int .i64 1]) ∧ Ext w w' := by
  have H := Lib.hid (find_none k w h)
  clear h
  go_enter Tryz.func55, Tryz.ntmps55
  go_wp2_with fail
  refine H.out.mono ?_
  rintro e w1 ⟨rfl, hx1⟩
  go_wp2
  go_ret2
  exact ⟨rfl, hx1⟩

theorem ret_pair {a b : ByteArray} {x y : Int} (h1 : a = b) (h2 : x = y) : Ending.returned (.tuple #[.string a, .int .i64 x]) = .returned (.tuple #[.string b, .int .i64 y]) := by rw [h1, h2]
theorem empty_iff (s : ByteArray) : s.data.toList = [] ↔ s.size = 0 := by
  rw [← len_data]; exact ⟨fun h => by rw [h]; rfl, fun h => List.eq_nil_of_length_eq_zero h⟩

set_option maxRecDepth 100000 in
set_option maxHeartbeats 1000000 in
theorem compute_sys (k : Nat) (T : Nat) (hy : SysAt k T) (s : ByteArray) (w : World) (hs : s.size ≤ 9223372036854775807) :
    Calls Tryz.prog 55 #[.int .i64 k, .string s] w fun e w' => e = .returned (.tuple #[.string ⟨(Cd.comp k s.data.toList).1.toArray⟩, .int .i64 (Cd.comp k s.data.toList).2]) ∧ Ext w w' := by
  have HF := Lib.hid (hy.found w)
  by_cases h0 : s.size = 0
  · have HV : Hid (Cd.comp k s.data.toList = ([], 5)) := by show _ = _; unfold Cd.comp; rw [if_pos ((empty_iff s).2 h0)]
    have h1 : s.toList = [] := by rw [Lib.toList_data]; exact (empty_iff s).2 h0
    have h2 : s.toList.isEmpty = true := by rw [h1]; rfl
    clear hy h0
    go_enter Tryz.func55, Tryz.ntmps55
    go_wp2_with fail
    refine HF.out.mono ?_
    rintro e w1 ⟨rfl, hx1⟩
    go_wp2
    go_ret2
    exact ⟨by rw [HV.out]; rfl, hx1⟩
  · have hne : s.data.toList ≠ [] := fun h => h0 ((empty_iff s).1 h)
    have h2 : s.toList.isEmpty = false := by rw [Lib.toList_data]; simpa using hne
    have h1 : ¬ s.toList = [] := by rw [Lib.toList_data]; exact hne
    by_cases hl : 4096 < s.size
    · have HV : Hid (Cd.comp k s.data.toList = ([], 4)) := by show _ = _; unfold Cd.comp; rw [if_neg hne, len_data, if_pos hl]
      clear hy hne h0
      go_enter Tryz.func55, Tryz.ntmps55
      go_wp2_with fail
      refine HF.out.mono ?_
      rintro e w1 ⟨rfl, hx1⟩
      go_wp2
      go_ret2
      exact ⟨by rw [HV.out]; rfl, hx1⟩
    · have HV : Hid (Cd.comp k s.data.toList = if s.data.toList.all (fun c => Cd.datB k c.toNat) = false then ([], 6) else if Cd.fits k (s.size + Cd.size k) = false then ([], 7) else (Cd.cmp k s.data.toList, 0)) := by
        show _ = _; unfold Cd.comp; rw [if_neg hne, len_data, if_neg hl]
      have HAD := Lib.hid (fun w => all_meth "barscan/checkdigit.data" T (Cd.datB k) hy.data s w hs)
      obtain ⟨hz1, hz2⟩ := Cd.size_bd k
      have hl' : s.size ≤ 4096 := by omega
      cases hda : s.data.toList.all (fun c => Cd.datB k c.toNat)
      · rw [hda] at HAD HV
        simp only [if_true] at HV
        clear hy hne h0 hl hda
        go_enter Tryz.func55, Tryz.ntmps55
        go_wp2_with fail
        refine HF.out.mono ?_
        rintro e w1 ⟨rfl, hx1⟩
        go_wp2_with fail
        refine (HAD.out _).mono ?_
        rintro e w2 ⟨rfl, hx2⟩
        go_wp2
        go_ret2
        exact ⟨by rw [HV.out]; rfl, hx1.trans hx2⟩
      · rw [hda] at HAD HV
        simp only [Bool.true_eq_false, if_false] at HV
        have HC := Lib.hid (fun w => complete_any k T hy (s.size + Cd.size k) w (by omega))
        obtain ⟨f1, g1, g2, g3⟩ := hy.size
        have HS := Lib.hid g3
        have hda' := List.all_eq_true.1 hda
        cases hf : Cd.fits k (s.size + Cd.size k)
        · rw [hf] at HC HV
          simp only [if_true] at HV
          clear g3 hy hne h0 hl hda hda' hf
          go_enter Tryz.func55, Tryz.ntmps55
          go_wp2_with fail
          refine HF.out.mono ?_
          rintro e w1 ⟨rfl, hx1⟩
          go_wp2_with fail
          refine (HAD.out _).mono ?_
          rintro e w2 ⟨rfl, hx2⟩
          go_wp2_with fail
          refine (HS.out _).mono ?_
          rintro e w3 ⟨rfl, hx3⟩
          go_wp2_with fail
          refine (HC.out _).mono ?_
          rintro e w4 ⟨rfl, hx4⟩
          go_wp2
          go_ret2
          exact ⟨by rw [HV.out]; rfl, ((hx1.trans hx2).trans hx3).trans hx4⟩
        · rw [hf] at HC HV
          simp only [Bool.true_eq_false, if_false] at HV
          obtain ⟨f2, k1, k2, k3⟩ := hy.compute s hl' hda' (fun e => by subst e; have := Cd.fits_isbn _ hf; have h2 : Cd.size 3 = 1 := rfl; omega)
          have HG := Lib.hid k3
          clear g3 k3 hy hne h0 hl hda hda' hf
          go_enter Tryz.func55, Tryz.ntmps55
          go_wp2_with fail
          refine HF.out.mono ?_
          rintro e w1 ⟨rfl, hx1⟩
          go_wp2_with fail
          refine (HAD.out _).mono ?_
          rintro e w2 ⟨rfl, hx2⟩
          go_wp2_with fail
          refine (HS.out _).mono ?_
          rintro e w3 ⟨rfl, hx3⟩
          go_wp2_with fail
          refine (HC.out _).mono ?_
          rintro e w4 ⟨rfl, hx4⟩
          go_wp2_with fail
          refine (HG.out _).mono ?_
          rintro e w5 ⟨rfl, hx5⟩
          go_wp2
          go_ret2
          exact ⟨by rw [HV.out]; rfl, (((hx1.trans hx2).trans hx3).trans hx4).trans hx5⟩

theorem compute_any (k : Int) (s : ByteArray) (w : World) (hs : s.size ≤ 9223372036854775807) :
    Calls Tryz.prog 55 #[.int .i64 k, .string s] w fun e w' => e = .returned (.tuple #[.string ⟨(Cd.compI k s.data.toList).1.toArray⟩, .int .i64 (Cd.compI k s.data.toList).2]) ∧ Ext w w' := by
  by_cases h : k < 1 ∨ 8 < k
  · rw [Cd.compI, if_pos h]; exact compute_bad k s w h
  · rw [Cd.compI, if_neg h]
    obtain ⟨n, rfl⟩ := Int.eq_ofNat_of_zero_le (show 0 ≤ k by omega)
    obtain ⟨T, hT⟩ := sys_of n (by omega) (by omega)
    exact compute_sys n T hT s w hs
end Go.Proofs.YthjlnpcaclfopaaGreat
