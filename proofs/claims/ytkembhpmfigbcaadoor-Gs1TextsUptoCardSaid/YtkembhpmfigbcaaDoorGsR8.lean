/-
  Chapter 14: the reference's Parse, walked.
  No condition.
-/
import Derived.Test.YtkembhpmfigbcaaDoorGsR7
import Derived.Test.YtkembhpmfigbcaaDoorGsW9
namespace Go.Proofs.YtkembhpmfigbcaaDoor
set_option linter.unusedVariables false
open Go.RowKit

set_option maxRecDepth 100000 in
set_option maxHeartbeats 8000000 in
theorem rparse_any (s : ByteArray) (hs : s.size ≤ maxLen) (w : World) :
    Calls Tryd.prog 16 #[.string s] w (ElsR (Gs.parse s.data.toList) w) := by
  have hmx : s.size ≤ 9223372036854775807 := hs
  have HP := Lib.hid (Gs.parse.eq_1 s.data.toList)
  rw [len_data] at HP
  generalize Gs.parse s.data.toList = res at *
  clear hs
  by_cases h1 : 4096 < s.size
  · rw [if_pos h1] at HP
    have h1' : (4096 : Int) < (s.size : Int) := by omega
    go_enter Tryd.func16, Tryd.ntmps16
    go_wp2_with fail
    go_ret2
    rw [HP.out]
    exact ElsR.err _ (Ext.refl _)
  rw [if_neg h1] at HP
  have hs1 : s.size ≤ 4096 := by omega
  have hs2 : (s.size : Int) ≤ 4096 := by omega
  clear h1 hmx
  by_cases h2 : s.size = 0
  · have hnil := list_nil_of h2
    rw [if_pos hnil] at HP
    have hs0 : s = ⟨#[]⟩ := bytes_ext hnil
    clear hnil h2
    subst hs0
    go_enter Tryd.func16, Tryd.ntmps16
    go_wp2_with fail
    go_ret2
    rw [HP.out]
    exact ElsR.err _ (Ext.refl _)
  have h2' : 0 < s.size := by omega
  have HT1 := toList_no h2'
  have HT2 := isEmpty_no h2'
  rw [if_neg (by rw [← Lib.toList_data]; exact HT1)] at HP
  clear h2
  obtain ⟨res1, res2⟩ := res
  have HIX := Lib.hid (fun (c : UInt8) (k : Nat) (hk : k ≤ s.size) (w : World) => rindex_any s c k hk (by omega) w)
  go_enter Tryd.func16, Tryd.ntmps16
  go_wp2
  go_loopw [5, 4] (fun t v wr => ∃ (k : Nat) (acc : List Gs.El) (n : Nat), t = .int .i64 (k : Int) ∧ k ≤ s.size ∧ acc.length ≤ k ∧ EOwn wr w.heap.size v acc ∧ Hid (s.size - k ≤ n ∧ (res1, res2) = Gs.parseF n (s.data.toList.drop k) acc) ∧ Ext w wr) (fun t _ _ => s.size - (intOf t).toNat)
  case atStart => exact ⟨0, [], s.size, rfl, Nat.zero_le _, by simp, EOwn.nil _ _, Lib.hid ⟨by omega, HP.out⟩, Ext.refl w⟩
  case round =>
    clear HP HT1 HT2
    obtain ⟨k, acc, n, rfl, hk, hak, hown, hpf, hx⟩ := hrel
    obtain ⟨ao, co, rfl⟩ := hown.sl.form
    by_cases hlt : k < s.size
    · have hdr := drop_cons s k hlt
      have hrl : (s.data.toList.drop (k + 1)).length = s.size - (k + 1) := len_drop s (k + 1)
      obtain ⟨c, hc⟩ : ∃ c, s[k] = c := ⟨_, rfl⟩
      rw [hc] at hdr
      have HST := Lib.hid (parse_step (n := n) (b := c) (r := s.data.toList.drop (k + 1)) (acc := acc) (by rw [List.length_cons, hrl]; have := hpf.out.1; omega))
      have HP1 : Hid ((res1, res2) = Gs.parseF n (c :: s.data.toList.drop (k + 1)) acc) := Lib.hid (by rw [← hdr]; exact hpf.out.2)
      have HNN : Hid (s.size - k ≤ n) := Lib.hid hpf.out.1
      have HI1 := Lib.hid (HIX.out 41 k hk)
      rw [hdr] at HI1
      have HC := Lib.hid hc
      clear hpf hdr hc
      by_cases hc40 : c = 40
      · obtain ⟨ST2, ST3, ST4⟩ := HST.out.2
        have HT2 := Lib.hid (ST2 hc40)
        have HT3 := Lib.hid (ST3 hc40)
        have HT4 := Lib.hid (ST4 hc40)
        subst hc40
        rw [upto_cons, if_neg (by decide), List.length_cons] at HI1
        have hul := upto_len 41 (s.data.toList.drop (k + 1))
        rw [hrl] at hul
        have hb40 : ((s[k].toNat : Int) != 40) = false := by rw [HC.out]; rfl
        clear HST ST2 ST3 ST4
        obtain ⟨E, hE⟩ : ∃ E, k + ((Gs.upto 41 (s.data.toList.drop (k + 1))).length + 1) = E := ⟨_, rfl⟩
        rw [hE] at HI1
        by_cases hf : (Gs.upto 41 (s.data.toList.drop (k + 1))).length = (s.data.toList.drop (k + 1)).length
        · have HR : Hid ((res1, res2) = ([], 9)) := Lib.hid (HP1.out.trans (HT2.out hf))
          have hr := HR.out
          simp only [Prod.mk.injEq] at hr
          obtain ⟨rfl, rfl⟩ := hr
          have hEs : ((E : Int) == (s.size : Int)) = true := by rw [beq_iff_eq]; omega
          have hEs2 : (E == s.size) = true := by rw [beq_iff_eq]; omega
          clear hf hE HT2 HT3 HT4 hul hrl HP1 HR
          go_wp2_with fail
          refine (HI1.out _).mono ?_
          rintro e w' ⟨rfl, rfl⟩
          go_wp2
          go_ret2
          exact ElsR.err _ hx
        · have hT3 := HT3.out hf
          have hT4 := HT4.out hf
          have hEl : E < s.size := by omega
          have hEk : k + 1 ≤ E := by omega
          have hEs : ((E : Int) == (s.size : Int)) = false := by rw [beq_eq_false_iff_ne]; omega
          have hEs2 : (E == s.size) = false := by rw [beq_eq_false_iff_ne]; omega
          have HA : Hid ((s.extract (k + 1) E).data.toList = Gs.upto 41 (s.data.toList.drop (k + 1))) := Lib.hid (by
            rw [cut_mid]
            have e1 : E - (k + 1) = (Gs.upto 41 (s.data.toList.drop (k + 1))).length := by omega
            rw [e1]
            rcases (upto_cut 41 (s.data.toList.drop (k + 1))).2 with e | ⟨r2, e⟩
            · rw [e] at hf; exact absurd rfl hf
            · generalize Gs.upto 41 (s.data.toList.drop (k + 1)) = u at *
              rw [e, List.take_left])
          have HDE : Hid (s.data.toList.drop E = 41 :: (s.data.toList.drop (k + 1)).drop ((Gs.upto 41 (s.data.toList.drop (k + 1))).length + 1)) := Lib.hid (by
            have e1 : E = (k + 1) + (Gs.upto 41 (s.data.toList.drop (k + 1))).length := by omega
            rw [e1, ← List.drop_drop]
            rcases (upto_cut 41 (s.data.toList.drop (k + 1))).2 with e | ⟨r2, e⟩
            · rw [e] at hf; exact absurd rfl hf
            · generalize Gs.upto 41 (s.data.toList.drop (k + 1)) = u at *
              rw [e, List.drop_left, ← List.drop_drop, List.drop_left]; rfl)
          have HD1 : Hid (s.data.toList.drop (E + 1) = (s.data.toList.drop (k + 1)).drop ((Gs.upto 41 (s.data.toList.drop (k + 1))).length + 1)) := Lib.hid (by
            rw [List.drop_drop]; congr 1; omega)
          have HI2 := Lib.hid (HIX.out 40 E (by omega))
          rw [HDE.out, upto_cons, if_neg (by decide), List.length_cons, ← HD1.out] at HI2
          rw [← HD1.out] at hT3 hT4
          have hu2 := upto_len 40 (s.data.toList.drop (E + 1))
          rw [len_drop] at hu2
          generalize Gs.upto 41 (s.data.toList.drop (k + 1)) = a at *
          obtain ⟨d, hd⟩ : ∃ d, Gs.upto 40 (s.data.toList.drop (E + 1)) = d := ⟨_, rfl⟩
          have hcut := (upto_cut 40 (s.data.toList.drop (E + 1))).2
          rw [hd] at hT3 hT4 HI2 hu2 hcut
          obtain ⟨X, hX⟩ : ∃ X, E + (d.length + 1) = X := ⟨_, rfl⟩
          rw [hX] at HI2
          have HDD : Hid ((s.extract (E + 1) X).data.toList = d) := Lib.hid (by
            rw [cut_mid]
            have e1 : X - (E + 1) = d.length := by omega
            rw [e1]
            rcases hcut with e | ⟨r2, e⟩
            · rw [← e, List.take_length]
            · conv => lhs; rw [e]
              rw [List.take_left])
          have HDX : Hid ((s.data.toList.drop (E + 1)).drop d.length = s.data.toList.drop X) := Lib.hid (by rw [List.drop_drop]; congr 1; omega)
          rw [HDX.out] at hT4
          have HT3' := Lib.hid hT3
          have HT4' := Lib.hid hT4
          have hXs : X ≤ s.size := by omega
          have hEX : E + 1 ≤ X := by omega
          obtain ⟨k1, hk1⟩ : ∃ k1, k + 1 = k1 := ⟨_, rfl⟩
          obtain ⟨E1, hE1⟩ : ∃ E1, E + 1 = E1 := ⟨_, rfl⟩
          have hk1i : (k : Int) + 1 = (k1 : Int) := by omega
          have hE1i : (E : Int) + 1 = (E1 : Int) := by omega
          rw [hk1] at HA hEk
          rw [hE1] at HDD hEX
          obtain ⟨A, hA⟩ : ∃ A, s.extract k1 E = A := ⟨_, rfl⟩
          obtain ⟨D, hDx⟩ : ∃ D, s.extract E1 X = D := ⟨_, rfl⟩
          rw [hA] at HA
          rw [hDx] at HDD
          have hAs : A.size ≤ 4096 := by rw [← hA, ByteArray.size_extract]; omega
          have hDs : D.size ≤ 4096 := by rw [← hDx, ByteArray.size_extract]; omega
          have HV1 := Lib.hid (fun w => rVerify_any A D (by unfold maxLen; omega) (by unfold maxLen; omega) w)
          rw [HA.out, HDD.out] at HV1
          have HEA : Hid (encS a = .string A) := Lib.hid (by rw [← HA.out, encS_of])
          have HED : Hid (encS d = .string D) := Lib.hid (by rw [← HDD.out, encS_of])
          have HSM : Hid (acc.length + 1 ≤ X ∧ s.size - X ≤ n - 1 ∧ k < X) := Lib.hid (by have := HNN.out; omega)
          have hac : acc.length ≤ 4096 := by omega
          have g1 : (0 : Int) ≤ (k1 : Int) := by omega
          have g2 : (k1 : Int) ≤ (E : Int) := by omega
          have g3 : (E : Int) ≤ (s.size : Int) := by omega
          have g4 : (0 : Int) ≤ (E1 : Int) := by omega
          have g5 : (E1 : Int) ≤ (X : Int) := by omega
          have g6 : (X : Int) ≤ (s.size : Int) := by omega
          clear hf hE HT2 HT3 HT4 hul hrl hT3 hT4 hu2 hcut hd hX hk1 hE1 HDE HD1 HDX
          by_cases hver : Gs.ver a d = 0
          · have HP2 : Hid ((res1, res2) = Gs.parseF (n - 1) (s.data.toList.drop X) (acc ++ [(a, d)])) := Lib.hid (HP1.out.trans (HT4'.out hver))
            rw [hver] at HV1
            clear HT3' HT4' hver HP1
            go_wp2_with fail
            refine (HI1.out _).mono ?_
            rintro e w' ⟨rfl, rfl⟩
            go_wp2_with fail
            refine (HI2.out _).mono ?_
            rintro e w' ⟨rfl, rfl⟩
            go_wp2
            go_region
            go_wp2_with fail
            refine (HV1.out _).mono ?_
            rintro e w4 ⟨rfl, hx4⟩
            have hxa : Ext w w4 := ((hx.alloc _).drew).trans hx4
            have hb3 : wr.heap.size < w4.heap.size := by have := hx4.size; simp at this; omega
            have cA : w4.cell? ⟨wr.heap.size, 0, none⟩ = some (.string A) := by
              rw [hx4.cell (p := ⟨wr.heap.size, 0, none⟩) (by simp)]
              show (wr.alloc _).cell? _ = _
              unfold World.cell?; rw [heap_alloc_new]; rfl
            have cD : w4.cell? ⟨wr.heap.size, 1, none⟩ = some (.string D) := by
              rw [hx4.cell (p := ⟨wr.heap.size, 1, none⟩) (by simp)]
              show (wr.alloc _).cell? _ = _
              unfold World.cell?; rw [heap_alloc_new]; rfl
            have hown4 := (hown.ext (((Ext.refl wr).alloc _).drew)).ext hx4
            have hsz4 := hxa.size
            clear hx4 hown hx
            go_wp2_with (at_builtin; go_loud (refine append_el rfl _ _ rfl w.heap.size _ _ rfl (hown4.ext ((Ext.refl w4).alloc _)) _ (a, d) rfl ?_ ?_ (by omega) ?_ ?_))
            · exact HEA.out.symm
            · exact HED.out.symm
            · simp; omega
            intro v5 w5 hown5 hg5
            have hx5 : Ext w w5 := (hxa.alloc _).ofGrown hg5 hown4.low
            clear cA cD hg5 hown4
            go_wp2
            go_roundw
            case rel => exact ⟨X, acc ++ [(a, d)], n - 1, rfl, hXs, by have := HSM.out; rw [List.length_append]; simp; omega, hown5, Lib.hid ⟨HSM.out.2.1, HP2.out⟩, hx5⟩
            case measure => have h9 := HSM.out; simp [intOf]; omega
          · have HR : Hid ((res1, res2) = ([], Gs.ver a d)) := Lib.hid (HP1.out.trans (HT3'.out hver))
            obtain ⟨z1, hz1⟩ : ∃ z1, Gs.ver a d = z1 := ⟨_, rfl⟩
            rw [hz1] at HV1 HR hver
            have hz2 : (z1 == 0) = false := by simpa using hver
            clear HT3' HT4' hver HP1 hz1
            go_wp2_with fail
            refine (HI1.out _).mono ?_
            rintro e w' ⟨rfl, rfl⟩
            go_wp2_with fail
            refine (HI2.out _).mono ?_
            rintro e w' ⟨rfl, rfl⟩
            go_wp2
            go_region
            go_wp2_with fail
            refine (HV1.out _).mono ?_
            rintro e w4 ⟨rfl, hx4⟩
            go_wp2
            go_ret2
            have hr := HR.out
            simp only [Prod.mk.injEq] at hr
            obtain ⟨rfl, rfl⟩ := hr
            exact ElsR.err _ (((hx.alloc _).drew).trans hx4)
      · have HR : Hid ((res1, res2) = ([], 9)) := Lib.hid (HP1.out.trans (HST.out.1 hc40))
        have hr := HR.out
        simp only [Prod.mk.injEq] at hr
        obtain ⟨rfl, rfl⟩ := hr
        have hb40 : ((s[k].toNat : Int) != 40) = true := by
          rw [HC.out]; simp
          intro e; exact hc40 (UInt8.toNat_inj.1 (by show c.toNat = 40; omega))
        obtain ⟨E, hE⟩ : ∃ E, k + (Gs.upto 41 (c :: s.data.toList.drop (k + 1))).length = E := ⟨_, rfl⟩
        rw [hE] at HI1
        clear HST HP1 HR hE hrl hc40
        go_wp2_with fail
        refine (HI1.out _).mono ?_
        rintro e w' ⟨rfl, rfl⟩
        go_wp2
        go_ret2
        exact ElsR.err _ hx
    · obtain rfl : k = s.size := by omega
      have HR : Hid ((res1, res2) = (acc, 0)) := Lib.hid (by rw [hpf.out.2, drop_all, parseF_nil])
      have hr := HR.out
      simp only [Prod.mk.injEq] at hr
      obtain ⟨rfl, rfl⟩ := hr
      clear hk hlt hpf HR
      go_wp2
      go_ret2
      exact ⟨_, rfl, hown.sl, hx⟩
end Go.Proofs.YtkembhpmfigbcaaDoor

