/-
  Chapter 14: the reference's Chars, walked.
  Condition: at most a thousand million elements.
-/
import Derived.Test.YteojfkffmbcedaaGreatDoorGsR7
import Derived.Test.YteojfkffmbcedaaGreatDoorGsWB
namespace Go.Proofs.YteojfkffmbcedaaGreatDoor
set_option linter.unusedVariables false
open Go.RowKit Go.WideMaps Go.Maps

theorem fixF_at {l : List UInt8} {r : Gs.Rule} (h : Gs.find l = some r) : Gs.fixF l = (if Gs.isFix r then r.2.2.1 else 0, r.2.2.1, 0) := by
  unfold Gs.fixF; rw [h]

set_option maxRecDepth 100000 in
set_option maxHeartbeats 8000000 in
theorem rchars_any (v : Value) (xs : List Gs.El) (w : World) (hl : ESl w v xs) (hn : xs.length ≤ 1000000000) (hs : ∀ x ∈ xs, x.1.length ≤ maxLen ∧ x.2.length ≤ maxLen) :
    Calls Tryz.prog 5 #[v] w (IntsR (Gs.chars xs) w) := by
  have HVA := Lib.hid (rall_any v xs w hl (by omega) hs)
  have HL := Lib.hid hl
  obtain ⟨a, c, rfl⟩ := hl.form
  have HR := Lib.hid (Gs.chars.eq_1 xs)
  have HVM : Hid (Gs.verAll xs = 0 → ∀ x ∈ xs, Gs.ver x.1 x.2 = 0) := Lib.hid (fun h => verL_mem (verAll_zero h))
  generalize Gs.chars xs = res at *
  obtain ⟨N, hN⟩ : ∃ N, xs.length = N := ⟨_, rfl⟩
  have HN := Lib.hid hN
  rw [hN] at hn HL HVA ⊢
  clear hl hs hN
  by_cases hz : Gs.verAll xs = 0
  · have HVM := Lib.hid (HVM.out hz)
    rw [hz] at HVA
    rw [hz, if_neg (by simp)] at HR
    clear hz
    go_enter Tryz.func5, Tryz.ntmps5
    go_wp2_with fail
    refine HVA.out.mono ?_
    rintro e V ⟨rfl, hxw⟩
    clear HVA
    have HFX := Lib.hid (fun (w' : World) (s : ByteArray) (h : s.size ≤ maxLen) => rFixed_any s h w')
    go_wp2
    go_loopw [6, 5] (fun t v wr => ∃ (k : Nat) (acc : List Int), k ≤ N ∧ t = .int .i64 (k : Int) ∧ acc.length ≤ 4096 ∧ Own 3 wr V.heap.size v (acc.map encI) ∧ Hid (256 :: Gs.chG xs = acc ++ Gs.chG (xs.drop k)) ∧ Ext V wr) (fun t _ _ => N - (intOf t).toNat)
    case atStart => exact ⟨0, [256], Nat.zero_le _, rfl, by simp, Own.one _ V _ _ (Nat.le_refl _), Lib.hid rfl, (by repeat (first | exact Ext.refl _ | assumption | refine Ext.alloc ?_ _ | refine Ext.drew ?_ | refine Ext.trans ?_ (by assumption)))⟩
    case round =>
      obtain ⟨k, acc, hk, rfl, hal, hown, hch, hx⟩ := hrel
      obtain ⟨ao, co, rfl⟩ := hown.sl.form
      rw [List.length_map] at hown ⊢
      by_cases hlt : k < N
      · obtain ⟨x, hxk⟩ : ∃ x, xs[k]? = some x := ⟨_, List.getElem?_eq_getElem (by rw [HN.out]; exact hlt)⟩
        obtain ⟨bb, off, ha, hb', q0, q1⟩ := HL.out.at_ hxk
        subst ha
        have hxx := hxw.trans hx
        have d0 := (hxx.cell (p := ⟨bb, off + k * 2, none⟩) hb').trans q0
        have d1 := (hxx.cell (p := ⟨bb, off + k * 2 + 1, none⟩) hb').trans q1
        have HQ0 := Lib.hid (fun (w' : World) (h : Ext V w') => ((hxw.trans h).cell (p := ⟨bb, off + k * 2, none⟩) hb').trans q0)
        have hv0 := HVM.out x (List.mem_of_getElem? hxk)
        have hvs := ver_sizes hv0
        have hdr : xs.drop k = x :: xs.drop (k + 1) := by
          obtain ⟨h1, h2⟩ := List.getElem?_eq_some_iff.1 hxk
          rw [List.drop_eq_getElem_cons h1, h2]
        have HDE : Hid ((xs.drop (k + 1)).isEmpty = decide (k + 1 = N)) := Lib.hid (by
          rw [Bool.eq_iff_iff, List.isEmpty_iff, List.drop_eq_nil_iff, HN.out, decide_eq_true_eq]; omega)
        obtain ⟨xa, xd⟩ := x
        have HCH := hch.out
        rw [hdr, Gs.chG] at HCH
        unfold encS at d0 d1 HQ0
        dsimp only at d0 d1 hvs hv0 HCH HQ0
        obtain ⟨r, hr1, _⟩ := ver_find hv0
        have hfx : Gs.fixed xa = Gs.isFix r := by unfold Gs.fixed; rw [hr1]
        rw [hfx, HDE.out, ← List.append_assoc, ← List.append_assoc] at HCH
        have HC2 := Lib.hid HCH
        have HB : Hid ((⟨xa.toArray⟩ : ByteArray).data.toList = xa ∧ (⟨xd.toArray⟩ : ByteArray).data.toList = xd) := Lib.hid ⟨rfl, rfl⟩
        generalize (⟨xa.toArray⟩ : ByteArray) = A at *
        generalize (⟨xd.toArray⟩ : ByteArray) = D at *
        have hAs : A.size ≤ 4 := by rw [← len_data, HB.out.1]; exact hvs.1
        have hDs : D.size ≤ 90 := by rw [← len_data, HB.out.2]; exact hvs.2
        obtain ⟨P, hP⟩ : ∃ P : ByteArray, P = A ++ D := ⟨_, rfl⟩
        have HPL : Hid (P.data.toList = xa ++ xd) := Lib.hid (by rw [hP, ← HB.out.1, ← HB.out.2]; simp [ByteArray.data_append])
        have hPs : P.size ≤ 94 := by rw [hP, ByteArray.size_append]; omega
        have HRS := Lib.hid hr1
        have HOK := Lib.hid (find_ok hr1)
        have HF1 := Lib.hid (fun w' => HFX.out w' A (by unfold maxLen; omega))
        rw [HB.out.1, fixF_at hr1] at HF1
        dsimp only at HF1
        clear hxk q0 q1 hdr hvs hv0 HCH hfx hr1 hch HDE
        go_wp2
        go_quiet (fail)
        rw [← hP]
        obtain ⟨M, hM⟩ : ∃ M, M = P.size := ⟨_, rfl⟩
        have HM := Lib.hid hM
        have hMs : M ≤ 94 := by omega
        clear d0 d1 hxx hP hAs hDs
        go_wp2
        go_loopw [8, 5] (fun t v wq => ∃ (j : Nat), j ≤ P.size ∧ t = .int .i64 (j : Int) ∧ Own 3 wq V.heap.size v ((acc ++ Gs.ints ((xa ++ xd).take j)).map encI) ∧ Ext V wq) (fun t _ _ => P.size - (intOf t).toNat)
        case atStart => exact ⟨0, Nat.zero_le _, rfl, by simpa [Gs.ints] using hown.ext (by repeat (first | exact Ext.refl _ | assumption | refine Ext.alloc ?_ _ | refine Ext.drew ?_ | refine Ext.drewN ?_ _ | refine Ext.setCell ?_ (Nat.le_refl _) _ | refine Ext.trans ?_ (by assumption))), (by repeat (first | exact Ext.refl _ | assumption | refine Ext.alloc ?_ _ | refine Ext.drew ?_ | refine Ext.drewN ?_ _ | refine Ext.setCell ?_ (Nat.le_refl _) _ | refine Ext.trans ?_ (by assumption)))⟩
        case round =>
          clear hown hx
          obtain ⟨j, hj, rfl, hown, hxq⟩ := hrel
          obtain ⟨aq, cq, rfl⟩ := hown.sl.form
          rw [List.length_map] at hown ⊢
          have hal2 : (acc ++ Gs.ints ((xa ++ xd).take j)).length ≤ 4096 + 94 := by
            rw [List.length_append, ints_len]
            have h7 := List.length_take_le j (xa ++ xd)
            omega
          by_cases hjl : j < P.size
          · have HTK : Hid ((acc ++ Gs.ints ((xa ++ xd).take (j + 1))) = (acc ++ Gs.ints ((xa ++ xd).take j)) ++ [(P[j].toNat : Int)]) := Lib.hid (by
              rw [← HPL.out, take_snoc P j hjl, ints_app, List.append_assoc]; rfl)
            generalize acc ++ Gs.ints ((xa ++ xd).take j) = got at *
            have hp1 : (P[j].toNat : Int) ≤ 255 := by have := UInt8.toNat_lt P[j]; omega
            go_wp2_with (at_builtin; go_loud (refine append_int_at rfl _ _ rfl V.heap.size _ got rfl (hown.ext ((Ext.refl wr).alloc _)) _ (P[j].toNat : Int) rfl ?_ (by omega) ?_ ?_))
            · simp [go_sem, encI]
            · have := hxq.size; simp; omega
            intro v5 w5 hown5 hg5 hat5
            have hx5 : Ext V w5 := (hxq.alloc _).ofGrown hg5 hown.low
            clear hown hg5 hat5 hxq
            go_wp2
            go_roundw
            case rel => exact ⟨j + 1, by omega, by go_num, by rw [HTK.out, List.map_append]; exact hown5, hx5⟩
            case measure => simp [intOf]; omega
          · obtain rfl : j = P.size := by omega
            have HTK : Hid (acc ++ Gs.ints ((xa ++ xd).take P.size) = acc ++ Gs.ints (xa ++ xd)) := Lib.hid (by
              rw [List.take_of_length_le (by rw [← HPL.out, len_data]; exact Nat.le_refl _)])
            rw [HTK.out] at hown hal2 ⊢
            obtain ⟨got, hgot⟩ : ∃ got, acc ++ Gs.ints (xa ++ xd) = got := ⟨_, rfl⟩
            rw [hgot] at hown hal2 HC2 ⊢
            have cA := HQ0.out wr hxq
            obtain ⟨ra, rb, rc, rd⟩ := r
            have hrc : 1 ≤ rc := by have h5 := HOK.out; unfold Gs.RuleOk at h5; dsimp only at h5; omega
            clear hgot hj hjl HTK HQ0
            by_cases hf : Gs.isFix (ra, rb, rc, rd) = true
            · rw [hf] at HC2 HF1
              simp only [if_true, Bool.true_or, List.append_nil] at HC2 HF1
              have hrz : (rc == 0) = false := by rw [beq_eq_false_iff_ne]; omega
              clear hf
              go_wp2_with fail
              refine (HF1.out _).mono ?_
              rintro e w4 ⟨rfl, hx4⟩
              have hown4 := hown.ext hx4
              have hx34 := hxq.trans hx4
              clear hown hx4 cA
              by_cases hlg : 4096 < got.length
              · have HR4 : Hid (res = ([], 4)) := Lib.hid (by
                  rw [HR.out, if_pos]
                  rw [HC2.out, List.length_append]
                  omega)
                go_wp2
                go_ret2
                rw [HR4.out]
                exact IntsR.err _ (hxw.trans hx34)
              · have hlg' : got.length ≤ 4096 := by omega
                clear hlg
                go_wp2
                go_roundw
                case rel => exact ⟨k + 1, got, by omega, by go_num, hlg', hown4, Lib.hid (by first | exact HC2.out | (rw [hlast]; exact HC2.out)), hx34⟩
                case measure => simp [intOf]; omega
            · replace hf : Gs.isFix (ra, rb, rc, rd) = false := by simpa using hf
              rw [hf] at HC2 HF1
              simp only [Bool.false_or, if_neg (show ¬ (false = true) by decide)] at HC2 HF1
              clear hf
              by_cases hlast : k + 1 = N
              · have hkn : ¬ ((k : Int) < (N : Int) - 1) := by omega
                have hkn2 : (N : Int) - 1 ≤ (k : Int) := by omega
                simp only [hlast, decide_true, if_true, List.append_nil] at HC2
                go_wp2_with fail
                refine (HF1.out _).mono ?_
                rintro e w4 ⟨rfl, hx4⟩
                have hown4 := hown.ext hx4
                have hx34 := hxq.trans hx4
                clear hown hx4 cA
                by_cases hlg : 4096 < got.length
                · have HR4 : Hid (res = ([], 4)) := Lib.hid (by
                    rw [HR.out, if_pos]
                    rw [HC2.out, List.length_append]
                    omega)
                  go_wp2
                  go_ret2
                  rw [HR4.out]
                  exact IntsR.err _ (hxw.trans hx34)
                · have hlg' : got.length ≤ 4096 := by omega
                  clear hlg
                  go_wp2
                  go_roundw
                  case rel => exact ⟨k + 1, got, by omega, by go_num, hlg', hown4, Lib.hid (by first | exact HC2.out | (rw [hlast]; exact HC2.out)), hx34⟩
                  case measure => simp [intOf]; omega
              · have hkn : (k : Int) < (N : Int) - 1 := by omega
                simp only [hlast, decide_false, if_neg (show ¬ (false = true) by decide)] at HC2
                go_wp2_with fail
                refine (HF1.out _).mono ?_
                rintro e w4 ⟨rfl, hx4⟩
                have hown4 := hown.ext hx4
                have hx34 := hxq.trans hx4
                clear hown hx4 cA
                go_wp2_with (at_builtin; go_loud (refine append_int_at rfl _ _ rfl V.heap.size _ got rfl (hown4.ext ((Ext.refl w4).alloc _)) _ 256 rfl ?_ (by omega) ?_ ?_))
                · simp [go_sem, encI]
                · have := hx34.size; simp; omega
                intro v5 w5 hown5' hg5 _
                have hx5 : Ext V w5 := (hx34.alloc _).ofGrown hg5 hown4.low
                obtain ⟨got2, hgot2⟩ : ∃ got2, got ++ [256] = got2 := ⟨_, rfl⟩
                have hown5 : Own 3 w5 V.heap.size v5 (got2.map encI) := by rw [← hgot2, List.map_append]; exact hown5'
                have hal3 : got2.length ≤ 4096 + 95 := by rw [← hgot2, List.length_append]; simp; omega
                rw [hgot2] at HC2
                obtain ⟨a5, c5, rfl⟩ := hown5.sl.form
                rw [List.length_map] at hown5 ⊢
                clear hown4 hown5' hg5 hgot2
                by_cases hlg : 4096 < got2.length
                · have HR4 : Hid (res = ([], 4)) := Lib.hid (by
                    rw [HR.out, if_pos]
                    rw [HC2.out, List.length_append]
                    omega)
                  go_wp2
                  go_ret2
                  rw [HR4.out]
                  exact IntsR.err _ (hxw.trans hx5)
                · have hlg' : got2.length ≤ 4096 := by omega
                  clear hlg
                  go_wp2
                  go_roundw
                  case rel => exact ⟨k + 1, got2, by omega, by go_num, hlg', hown5, Lib.hid (by first | exact HC2.out | (rw [hlast]; exact HC2.out)), hx5⟩
                  case measure => simp [intOf]; omega
      · obtain rfl : k = N := by omega
        have HCH : Hid (256 :: Gs.chG xs = acc) := Lib.hid (by rw [hch.out, List.drop_of_length_le (by rw [HN.out]; exact Nat.le_refl _)]; simp [Gs.chG])
        rw [HCH.out, if_neg (by omega)] at HR
        clear hk hlt hch
        go_wp2
        go_ret2
        rw [HR.out]
        exact ⟨_, rfl, hown.slk, hxw.trans hx⟩
  · rw [if_pos hz] at HR
    obtain ⟨z, hzz⟩ : ∃ z, Gs.verAll xs = z := ⟨_, rfl⟩
    rw [hzz] at HVA HR hz
    have hz1 : (z == 0) = false := by simpa using hz
    clear hzz HVM
    go_enter Tryz.func5, Tryz.ntmps5
    go_wp2_with fail
    refine HVA.out.mono ?_
    rintro e V ⟨rfl, hxw⟩
    go_wp2
    go_ret2
    rw [HR.out]
    exact IntsR.err _ hxw
end Go.Proofs.YteojfkffmbcedaaGreatDoor

