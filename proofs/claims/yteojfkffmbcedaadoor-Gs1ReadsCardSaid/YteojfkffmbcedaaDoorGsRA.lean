/-
  Chapter 14: the reference's FromChars, walked.
  No condition.
-/
import Derived.Test.YteojfkffmbcedaaDoorGsR9
import Derived.Test.YteojfkffmbcedaaDoorGsWE
namespace Go.Proofs.YteojfkffmbcedaaDoor
set_option linter.unusedVariables false
open Go.RowKit

theorem slice_ints2 {w : World} {v : Value} {xs : List Value} (hs : SlK w v xs) (l h : Nat) (hl : l ≤ h) (hh : h ≤ xs.length) :
    ∃ v', (∀ w', (Instr.slice 22 v (some (.int .i64 (l : Int))) (some (.int .i64 (h : Int))) none).run Tryd.prog w' = .ok v' w') ∧ SlK w v' ((xs.drop l).take (h - l)) := by
  obtain ⟨hsl, a, c, rfl, hc⟩ := hs
  refine ⟨_, fun w' => ?_, sliced_sl hsl hc hl hh⟩
  have e : Tryd.prog.elem 22 = 3 := by kernel_rfl
  have ht : Tryd.prog.underlying 22 = some (.slice (Tryd.prog.elem 22)) := by rw [e]; exact Tryd.underlying22
  rw [run_slice_lh w' 22 a xs.length c ht .i64 .i64 (l : Int) (h : Int) (by omega) (by omega) (by omega), e, sizeOf_int]
  rfl
theorem run_take (l : List Int) : l.take (Gs.run l).length = Gs.run l := by
  rcases (run_cut l).2 with e | ⟨r, e⟩
  · rw [e, List.take_length]
  · generalize Gs.run l = u at *
    rw [e, List.take_left]
theorem fixF_is {l : List UInt8} {r : Gs.Rule} (h : Gs.find l = some r) : Gs.fixF l = (if Gs.isFix r then r.2.2.1 else 0, r.2.2.1, 0) := by
  unfold Gs.fixF; rw [h]

set_option maxRecDepth 100000 in
set_option maxHeartbeats 16000000 in
theorem rfrom_any (v : Value) (cs : List Int) (w : World) (hv : SlK w v (cs.map encI)) (hn : cs.length ≤ 9223372036854775807) :
    Calls Tryd.prog 5 #[v] w (ElsR (Gs.frChars cs) w) := by
  have HV := Lib.hid hv
  obtain ⟨hsl, av, cv, rfl, hcv⟩ := hv
  rw [List.length_map] at hcv hsl HV ⊢
  have HR0 := Lib.hid (Gs.frChars.eq_1 cs)
  generalize Gs.frChars cs = res at *
  obtain ⟨N, hN⟩ : ∃ N, cs.length = N := ⟨_, rfl⟩
  have HN := Lib.hid hN
  have HSL := Lib.hid hsl
  rw [hN] at hn hcv HR0 HV HSL ⊢
  clear hsl hN
  by_cases h1 : 4096 < N
  · rw [if_pos h1] at HR0
    go_enter Tryd.func5, Tryd.ntmps5
    go_wp2
    go_ret2
    rw [HR0.out]
    exact ElsR.err _ (Ext.refl _)
  rw [if_neg h1] at HR0
  have hn1 : N ≤ 4096 := by omega
  clear h1 hn
  obtain ⟨res1, res2⟩ := res
  go_enter Tryd.func5, Tryd.ntmps5
  go_wp2
  go_loop [4] (fun t => ∃ k : Nat, k ≤ N ∧ t = .int .i64 (k : Int) ∧ Hid ((cs.take k).all Gs.okCh = true)) (fun t => N - (intOf t).toNat)
  case atStart => exact ⟨0, Nat.zero_le _, rfl, Lib.hid rfl⟩
  case round =>
    obtain ⟨k, hk, rfl, hall⟩ := hrel
    by_cases hlt : k < N
    · obtain ⟨c, hck⟩ : ∃ c, cs[k]? = some c := ⟨_, List.getElem?_eq_getElem (by rw [HN.out]; exact hlt)⟩
      obtain ⟨bb, off, ha, hb, hcell⟩ := HSL.out.at_ (k := k) (by rw [List.length_map, HN.out]; exact hlt)
      subst ha
      have e1 : (cs.map encI)[k]'(by rw [List.length_map, HN.out]; exact hlt) = .int .i64 c := by
        rw [List.getElem_map]
        obtain ⟨h2, h3⟩ := List.getElem?_eq_some_iff.1 hck
        rw [h3]; rfl
      rw [e1] at hcell
      have HTK : Hid (cs.take (k + 1) = cs.take k ++ [c]) := Lib.hid (take_snocL hck)
      by_cases hc : Gs.okCh c = true
      · have HO : Hid ((cs.take (k + 1)).all Gs.okCh = true) := Lib.hid (by rw [HTK.out, List.all_append, hall.out]; simp [hc])
        rw [okCh_dec] at hc
        clear hck e1 hall HTK
        by_cases h256 : c = 256
        · subst h256
          clear hc
          go_wp2
          go_round
          case rel => exact ⟨k + 1, by omega, by go_num, HO⟩
          case measure => simp [intOf]; omega
        · have hc0 : 0 ≤ c := by omega
          have hc1 : c ≤ 127 := by omega
          have hc2 : (c != 256) = true := by simpa using h256
          clear hc
          go_wp2
          go_round
          case rel => exact ⟨k + 1, by omega, by go_num, HO⟩
          case measure => simp [intOf]; omega
      · have HF : Hid ((res1, res2) = ([], 6)) := Lib.hid (by
          rw [HR0.out, if_pos]
          rw [List.all_eq_false]; exact ⟨c, List.mem_of_getElem? hck, hc⟩)
        rw [okCh_dec] at hc
        have h256 : (c != 256) = true := by simp; omega
        have hr := HF.out
        simp only [Prod.mk.injEq] at hr
        obtain ⟨rfl, rfl⟩ := hr
        clear hck e1 hall HTK HF HR0
        by_cases hc0 : c < 0
        · clear hc
          go_wp2
          go_ret2
          exact ElsR.err _ (Ext.refl _)
        · have hc0' : 0 ≤ c := by omega
          have hc1 : 127 < c := by omega
          clear hc hc0
          go_wp2
          go_ret2
          exact ElsR.err _ (Ext.refl _)
    · obtain rfl : k = N := by omega
      have HA : Hid (cs.all Gs.okCh = true) := Lib.hid (by rw [← hall.out, List.take_of_length_le (by rw [HN.out]; exact Nat.le_refl _)])
      rw [if_neg (by rw [HA.out]; exact Bool.noConfusion)] at HR0
      clear hk hlt hall
      by_cases h0 : k = 0
      · subst h0
        have hnil : cs = [] := List.eq_nil_of_length_eq_zero HN.out
        rw [hnil, if_pos (by simp)] at HR0
        have hr := HR0.out
        simp only [Prod.mk.injEq] at hr
        obtain ⟨rfl, rfl⟩ := hr
        go_wp2
        go_ret2
        exact ElsR.err _ (Ext.refl _)
      · obtain ⟨c, cr, hcs⟩ : ∃ c cr, cs = c :: cr := by
          cases cs with
          | nil => exact absurd HN.out.symm h0
          | cons c cr => exact ⟨c, cr, rfl⟩
        obtain ⟨bb, off, ha, hb, hcell⟩ := HSL.out.at_ (k := 0) (by rw [List.length_map, HN.out]; omega)
        subst ha
        have e1 : (cs.map encI)[0]'(by rw [List.length_map, HN.out]; omega) = .int .i64 c := by
          rw [List.getElem_map]; simp [hcs, encI]
        rw [e1, Nat.add_zero] at hcell
        have hk0 : ((k : Int) == 0) = false := by rw [beq_eq_false_iff_ne]; omega
        have hk1 : 0 < k := by omega
        have e2 : cs.headD 0 = c := by rw [hcs]; rfl
        rw [e2] at HR0
        clear e1 e2 hcs
        by_cases h256 : c = 256
        · subst h256
          rw [if_neg (by simp)] at HR0
          by_cases hkk : k = 1
          · rw [if_pos hkk] at HR0
            have hr := HR0.out
            simp only [Prod.mk.injEq] at hr
            obtain ⟨rfl, rfl⟩ := hr
            have hk2 : ((k : Int) == 1) = true := by rw [hkk]; rfl
            clear hkk
            go_wp2
            go_ret2
            exact ElsR.err _ (Ext.refl _)
          · rw [if_neg hkk] at HR0
            have hk2 : ((k : Int) == 1) = false := by rw [beq_eq_false_iff_ne]; omega
            have hkN : 1 ≤ k := by omega
            clear hkk h0
            go_wp2
            clear hcell
            go_loopw [6, 5] (fun t v wr => ∃ (p : Nat) (acc : List Gs.El) (n : Nat), t = .int .i64 (p : Int) ∧ p ≤ k ∧ acc.length ≤ p ∧ EOwn wr w.heap.size v acc ∧ Hid (k - p ≤ n ∧ (res1, res2) = Gs.fromF n (cs.drop p) acc) ∧ Ext w wr) (fun t _ _ => k - (intOf t).toNat)
            case atStart => exact ⟨1, [], k, rfl, hkN, by simp, EOwn.nil _ _, Lib.hid ⟨by omega, HR0.out⟩, Ext.refl w⟩
            case round =>
              clear HR0
              obtain ⟨p, acc, n, rfl, hp, hap, hown, hpf, hx⟩ := hrel
              obtain ⟨ao, co, rfl⟩ := hown.sl.form
              by_cases hlt : p < k
              · have hrl : (cs.drop p).length = k - p := by rw [List.length_drop, HN.out]
                have hne : cs.drop p ≠ [] := by intro e; have := congrArg List.length e; rw [hrl] at this; simp at this; omega
                have hokd : (cs.drop p).all Gs.okCh = true := List.all_eq_true.2 fun b hb => List.all_eq_true.1 HA.out b (List.mem_of_mem_drop hb)
                have HORN := Lib.hid (okCh_run hokd)
                obtain ⟨p1, p2⟩ := hpf.out
                obtain ⟨n', rfl⟩ : ∃ n', n = n' + 1 := ⟨n - 1, by omega⟩
                rw [Gs.fromF, if_neg hne] at p2
                have HP2 := Lib.hid p2
                have HP1 := Lib.hid p1
                have HN1 := Lib.hid (Gs.next.eq_1 (cs.drop p))
                have HNS := Lib.hid (fun (h : (Gs.run (cs.drop p)).length ≠ 0) (ai : List UInt8) (r : Gs.Rule) (hp : Gs.pre (Gs.text (Gs.run (cs.drop p))) = some (ai, r)) => next_some h hp)
                have hrn := run_len (cs.drop p)
                have HRT := Lib.hid (run_take (cs.drop p))
                rw [hrl] at hrn HNS
                obtain ⟨m, hm⟩ : ∃ m, (Gs.run (cs.drop p)).length = m := ⟨_, rfl⟩
                rw [hm] at hrn HN1 HNS HRT
                obtain ⟨E, hE⟩ : ∃ E, p + m = E := ⟨_, rfl⟩
                have HIN : Hid (p + (Gs.run (cs.drop p)).length = E) := Lib.hid (by rw [hm]; exact hE)
                have HM := Lib.hid hm
                have HE := Lib.hid hE
                have hEk : E ≤ k := by omega
                have hpE : p ≤ E := by omega
                have HCL : Hid (∀ j, j < k → ∃ z, cs[j]? = some z ∧ wr.cell? ⟨bb, off + j, none⟩ = some (.int .i64 z)) := Lib.hid (fun j hj => by
                  obtain ⟨z, hz⟩ : ∃ z, cs[j]? = some z := ⟨_, List.getElem?_eq_getElem (by rw [HN.out]; exact hj)⟩
                  obtain ⟨b1, o1, e1, hb1, hc1⟩ := HSL.out.at_ (k := j) (by rw [List.length_map, HN.out]; exact hj)
                  injection e1 with e1
                  injection e1 with e1 e2
                  subst e1 e2
                  refine ⟨z, hz, ?_⟩
                  rw [hx.cell (p := ⟨bb, off + j, none⟩) hb, hc1, List.getElem_map]
                  obtain ⟨h2, h3⟩ := List.getElem?_eq_some_iff.1 hz
                  rw [h3]; rfl)
                clear p1 p2 hpf hokd hne hm hE
                obtain ⟨wo, hwo⟩ : ∃ wo : World, wo = wr := ⟨_, rfl⟩
                clear hwo
                go_wp2
                go_loop [7] (fun t => ∃ j : Nat, p ≤ j ∧ j ≤ k ∧ t = .int .i64 (j : Int) ∧ Hid (j + (Gs.run (cs.drop j)).length = E)) (fun t => k - (intOf t).toNat)
                case atStart => exact ⟨p, Nat.le_refl _, hp, rfl, HIN⟩
                case round =>
                  obtain ⟨j, hpj, hjk, rfl, hin⟩ := hrel
                  have EXIT : (j < k → ∃ z, cs[j]? = some z ∧ z = 256) → j = E := by
                    intro h
                    rcases Nat.lt_or_ge j k with hh | hh
                    · obtain ⟨z, hz, rfl⟩ := h hh
                      have hd : cs.drop j = 256 :: cs.drop (j + 1) := by
                        obtain ⟨h1, h2⟩ := List.getElem?_eq_some_iff.1 hz
                        rw [List.drop_eq_getElem_cons h1, h2]
                      have := hin.out
                      rw [hd] at this
                      simpa [Gs.run] using this
                    · have := hin.out
                      rw [List.drop_of_length_le (by rw [HN.out]; exact hh)] at this
                      simpa [Gs.run] using this
                  have HEXIT := Lib.hid EXIT
                  clear EXIT
                  by_cases hjlt : j < k
                  · obtain ⟨z, hz, hzc⟩ := HCL.out j hjlt
                    by_cases hz256 : z = 256
                    · subst hz256
                      have hjE : j = E := HEXIT.out (fun _ => ⟨256, hz, rfl⟩)
                      have hjk2 : j < k := hjlt
                      subst hjE
                      clear hz HEXIT hin
                      by_cases hm0 : m = 0
                      · have HR : Hid ((res1, res2) = ([], 9)) := Lib.hid (by rw [HP2.out, HN1.out, if_pos hm0]; rfl)
                        have hb1 : ((j : Int) == (p : Int)) = true := by rw [beq_iff_eq]; have := HE.out; omega
                        have hb2 : (j == p) = true := by rw [beq_iff_eq]; have := HE.out; omega
                        clear hm0
                        go_wp2
                        go_ret2
                        have hr := HR.out
                        simp only [Prod.mk.injEq] at hr
                        obtain ⟨rfl, rfl⟩ := hr
                        exact ElsR.err _ hx
                      · have hb1 : ((j : Int) == (p : Int)) = false := by rw [beq_eq_false_iff_ne]; have := HE.out; omega
                        have hb2 : (j == p) = false := by rw [beq_eq_false_iff_ne]; have := HE.out; omega
                        obtain ⟨vs, hslc, hss⟩ := slice_ints2 (by have := HV.out; rw [← HN.out] at this; exact this) p j (by omega) (by rw [List.length_map, HN.out]; omega)
                        have hjp : j - p = m := by have := HE.out; omega
                        rw [hjp, ← List.map_drop, ← List.map_take, HRT.out] at hss
                        rw [HN.out] at hslc
                        have HTX := Lib.hid (fun w' hx => rtext_any vs (Gs.run (cs.drop p)) w' (hss.1.ext hx) (by rw [HM.out]; omega) HORN.out)
                        have HS0 := Lib.hid (HNS.out hm0)
                        have HN2 : Hid (Gs.pre (Gs.text (Gs.run (cs.drop p))) = none → Gs.next (cs.drop p) = (([], []), 0, 29)) := Lib.hid (fun h => by rw [HN1.out, if_neg hm0, h])
                        have htl : (Gs.text (Gs.run (cs.drop p))).length = m := by rw [text_len, HM.out]
                        generalize Gs.text (Gs.run (cs.drop p)) = tx at *
                        obtain ⟨TX, hTX⟩ : ∃ TX : ByteArray, TX.data.toList = tx := ⟨⟨tx.toArray⟩, rfl⟩
                        have HTE : Hid (encS tx = .string TX) := Lib.hid (by rw [← hTX, encS_of])
                        have hTs : TX.size = m := by rw [← len_data, hTX, htl]
                        have HTS := Lib.hid hTs
                        have hm4 : m ≤ 4096 := by omega
                        have HFS := Lib.hid (fun w => rfirst_any TX (by omega) w)
                        rw [hTX] at HFS
                        have HTL := Lib.hid hTX
                        obtain ⟨as1, cc1, rfl⟩ := hss.1.form
                        rw [List.length_map, HM.out] at hslc HTX
                        clear hss hjp htl hTX hTs HN1 HNS HIN HORN hm0
                        cases hpre : Gs.pre tx with
                        | none =>
                          have HR : Hid ((res1, res2) = ([], 29)) := Lib.hid (by rw [HP2.out, HN2.out hpre]; rfl)
                          rw [hpre] at HFS
                          clear hpre HN2
                          go_wp2_with fail
                          refine (HTX.out _ hx).mono ?_
                          rintro e w2 ⟨rfl, hx2⟩
                          rw [HTE.out]
                          go_wp2_with fail
                          refine (HFS.out _).mono ?_
                          rintro e w3 ⟨rfl, hx3⟩
                          rw [show encS (preF none) = .string ⟨#[]⟩ from rfl]
                          go_wp2
                          go_ret2
                          have hr := HR.out
                          simp only [Prod.mk.injEq] at hr
                          obtain ⟨rfl, rfl⟩ := hr
                          exact ElsR.err _ (hx.trans (hx2.trans hx3))
                        | some q =>
                          obtain ⟨ai, r⟩ := q
                          have HS6a := HS0.out ai r hpre
                          obtain ⟨al, rok, al4⟩ := pre_len hpre
                          have hfind := (pre_inv hpre).1
                          have hal2 := (ai_ok hfind).1
                          rw [hpre] at HFS
                          obtain ⟨ra, rb, rc, rd⟩ := r
                          obtain ⟨k0', k3', l1, lh, h9, _⟩ := rok
                          dsimp only at l1 lh h9 HS6a
                          obtain ⟨H, rfl⟩ : ∃ H : Nat, rc = (H : Int) := ⟨rc.toNat, by omega⟩
                          rw [Int.toNat_natCast] at HS6a
                          obtain ⟨AI, hAI⟩ : ∃ AI : ByteArray, AI.data.toList = ai := ⟨⟨ai.toArray⟩, rfl⟩
                          have HAI : Hid (encS (preF (some (ai, (ra, rb, (H : Int), rd)))) = .string AI) := Lib.hid (by show encS ai = _; rw [← hAI, encS_of])
                          have hAL : ai.length = AI.size := by rw [← hAI, len_data]
                          have HFX := Lib.hid (fun w => rFixed_any AI (by unfold maxLen; omega) w)
                          rw [hAI, fixF_is hfind] at HFX
                          rw [hAL] at al al4 hal2 HS6a
                          try rw [HM.out] at HS6a
                          have hAj : AI.size ≤ m := by have := HTS.out; have h7 : tx.length = TX.size := by rw [← HTL.out, len_data]
                                                       omega
                          have T1 := toList_no (show 0 < AI.size by omega)
                          have T2 := isEmpty_no (show 0 < AI.size by omega)
                          obtain ⟨DB, hDB⟩ : ∃ DB, TX.extract AI.size TX.size = DB := ⟨_, rfl⟩
                          have hDBs : DB.size = m - AI.size := by rw [← hDB, ByteArray.size_extract]; have := HTS.out; omega
                          have hDBl : DB.data.toList = tx.drop AI.size := by rw [← hDB, cut_back, HTL.out]
                          have hAT : AI.size ≤ TX.size := by have := HTS.out; omega
                          have HHE := Lib.hid hAI
                          obtain ⟨S1, S2, S3, S4, S5, S6⟩ := HS6a
                          clear hpre HN2 HS0 hfind hAL hAI al k0' k3'
                          cases hf : Gs.isFix (ra, rb, (H : Int), rd)
                          · rw [hf] at HFX
                            have HV1 := Lib.hid (fun w => rVerify_any AI DB (by unfold maxLen; omega) (by unfold maxLen; omega) w)
                            rw [HHE.out, hDBl] at HV1
                            have HS4 := Lib.hid (S4 hf)
                            have HS5 := Lib.hid (S5 hf)
                            have HS6 := Lib.hid (S6 hf)
                            have HDE : Hid (encS (tx.drop AI.size) = .string DB) := Lib.hid (by rw [← hDBl, encS_of])
                            generalize tx.drop AI.size = d at *
                            obtain ⟨D, hDD⟩ : ∃ D, DB = D := ⟨_, rfl⟩
                            subst hDD
                            obtain ⟨K1, hK1⟩ : ∃ K1, p + AI.size = K1 := ⟨_, rfl⟩
                            obtain ⟨K2, hK2⟩ : ∃ K2, K1 + DB.size = K2 := ⟨_, rfl⟩
                            have i1 : (p : Int) + (AI.size : Int) = (K1 : Int) := by omega
                            have i2 : (K1 : Int) + (DB.size : Int) = (K2 : Int) := by omega
                            have HK2 : Hid (K2 = j) := Lib.hid (by have := HE.out; omega)
                            have HDBS := Lib.hid hDBs
                            have hDB4 : DB.size ≤ 4096 := by omega
                            simp only [Bool.false_eq_true, if_false] at HFX
                            clear S1 S2 S3 S4 S5 S6 hf hK1 hK2 hDBl hDBs
                            by_cases hver : Gs.ver ai d = 0
                            · rw [hver] at HV1
                              have HS5 := Lib.hid (HS5.out hver)
                              have HS6 := Lib.hid (HS6.out hver)
                              clear HS4 hver
                              go_wp2_with fail
                              refine (HTX.out _ hx).mono ?_
                              rintro e w2 ⟨rfl, hx2⟩
                              rw [HTE.out]
                              go_wp2_with fail
                              refine (HFS.out _).mono ?_
                              rintro e w3 ⟨rfl, hx3⟩
                              rw [HAI.out]
                              go_wp2_with fail
                              refine (HFX.out _).mono ?_
                              rintro e w4 ⟨rfl, hx4⟩
                              dsimp only
                              have hx4w : Ext wr w4 := (hx2.trans hx3).trans hx4
                              clear hx2 hx3 hx4
                              go_wp2_with fail
                              refine (HV1.out _).mono ?_
                              rintro e w5 ⟨rfl, hx5⟩
                              have hxa : Ext w w5 := ((hx.trans hx4w).alloc _).trans hx5
                              have cA : w5.cell? ⟨w4.heap.size, 0, none⟩ = some (.string AI) := by rw [hx5.cell (p := ⟨w4.heap.size, 0, none⟩) (by simp)]; unfold World.cell?; rw [heap_alloc_new]; rfl
                              have cD : w5.cell? ⟨w4.heap.size, 1, none⟩ = some (.string DB) := by rw [hx5.cell (p := ⟨w4.heap.size, 1, none⟩) (by simp)]; unfold World.cell?; rw [heap_alloc_new]; rfl
                              have hown5 := ((hown.ext hx4w).ext ((Ext.refl w4).alloc _)).ext hx5
                              have hsz5 := hxa.size
                              clear hx5 hown hx4w
                              go_wp2_with (at_builtin; go_loud (refine append_el rfl _ _ rfl w.heap.size _ _ rfl (hown5.ext ((Ext.refl w5).alloc _)) _ (ai, d) rfl ?_ ?_ (by omega) ?_ ?_))
                              · exact HAI.out.symm
                              · exact HDE.out.symm
                              · simp; omega
                              intro v6 w6 hown6 hg6
                              have hx6 : Ext w w6 := (hxa.alloc _).ofGrown hg6 hown5.low
                              clear cA cD hg6 hown5
                              have hkk2 : ((K2 : Int) : Int) = (K2 : Int) := rfl
                              clear hkk2
                              by_cases hlast : K2 + 1 = k
                              · have HR : Hid ((res1, res2) = ([], 9)) := Lib.hid (by rw [HP2.out, HS5.out (by have := HE.out; have := HK2.out; omega)]; rfl)
                                have hji : (K2 : Int) + 1 = (k : Int) := by omega
                                have hK2k : K2 < k := by have := HK2.out; omega
                                go_wp2
                                go_ret2
                                have hr := HR.out
                                simp only [Prod.mk.injEq] at hr
                                obtain ⟨rfl, rfl⟩ := hr
                                exact ElsR.err _ hx6
                              · obtain ⟨K3, hK3⟩ : ∃ K3, K2 + 1 = K3 := ⟨_, rfl⟩
                                have hK3i : (K2 : Int) + 1 = (K3 : Int) := by omega
                                have hK2k : K2 < k := by have := HK2.out; omega
                                have HP3 : Hid ((res1, res2) = Gs.fromF n' (cs.drop K3) (acc ++ [(ai, d)])) := Lib.hid (by
                                  rw [HP2.out, HS6.out (by have := HE.out; have := HK2.out; omega), if_neg (by simp)]
                                  dsimp only
                                  rw [List.drop_drop]
                                  congr 2
                                  have := HE.out; have := HK2.out; omega)
                                have hK3k : K3 ≤ k := by omega
                                have hK3n : ((K3 : Int) == (k : Int)) = false := by rw [beq_eq_false_iff_ne]; omega
                                have hK3n2 : (K3 == k) = false := by rw [beq_eq_false_iff_ne]; omega
                                have HK3 := Lib.hid hK3
                                clear hK3 hlast
                                go_wp2
                                go_roundw
                                case rel => exact ⟨K3, acc ++ [(ai, d)], n', rfl, hK3k, by have := HK3.out; have := HK2.out; have := HE.out; rw [List.length_append]; simp; omega, hown6, Lib.hid ⟨by have := HK3.out; have := HK2.out; have := HE.out; have := HP1.out; omega, HP3.out⟩, hx6⟩
                                case measure => have := HK3.out; have := HK2.out; have := HE.out; simp [intOf]; omega
                            · have HR : Hid ((res1, res2) = ([], Gs.ver ai d)) := Lib.hid (by rw [HP2.out, HS4.out hver, if_pos hver])
                              obtain ⟨z1, hz1⟩ : ∃ z1, Gs.ver ai d = z1 := ⟨_, rfl⟩
                              rw [hz1] at HV1 HR hver
                              have hz2 : (z1 == 0) = false := by simpa using hver
                              clear hver hz1 HS4 HS5 HS6
                              go_wp2_with fail
                              refine (HTX.out _ hx).mono ?_
                              rintro e w2 ⟨rfl, hx2⟩
                              rw [HTE.out]
                              go_wp2_with fail
                              refine (HFS.out _).mono ?_
                              rintro e w3 ⟨rfl, hx3⟩
                              rw [HAI.out]
                              go_wp2_with fail
                              refine (HFX.out _).mono ?_
                              rintro e w4 ⟨rfl, hx4⟩
                              dsimp only
                              have hx4w : Ext wr w4 := (hx2.trans hx3).trans hx4
                              clear hx2 hx3 hx4
                              go_wp2_with fail
                              refine (HV1.out _).mono ?_
                              rintro e w5 ⟨rfl, hx5⟩
                              have hxa : Ext w w5 := ((hx.trans hx4w).alloc _).trans hx5
                              go_wp2
                              go_ret2
                              have hr := HR.out
                              simp only [Prod.mk.injEq] at hr
                              obtain ⟨rfl, rfl⟩ := hr
                              exact ElsR.err _ hxa
                          · rw [hf] at HFX
                            simp only [if_true] at HFX
                            have hH0 : 0 < H := by omega
                            have hH1 : ((H : Int) == 0) = false := by rw [beq_eq_false_iff_ne]; omega
                            have HS1 := Lib.hid (S1 hf)
                            by_cases hlt2 : m < AI.size + H
                            · have HR : Hid ((res1, res2) = ([], 10)) := Lib.hid (by rw [HP2.out, HS1.out hlt2]; rfl)
                              have hdl : DB.size < H := by omega
                              clear S1 S2 S3 S4 S5 S6 hf hDBl hDBs hlt2 HS1
                              go_wp2_with fail
                              refine (HTX.out _ hx).mono ?_
                              rintro e w2 ⟨rfl, hx2⟩
                              rw [HTE.out]
                              go_wp2_with fail
                              refine (HFS.out _).mono ?_
                              rintro e w3 ⟨rfl, hx3⟩
                              rw [HAI.out]
                              go_wp2_with fail
                              refine (HFX.out _).mono ?_
                              rintro e w4 ⟨rfl, hx4⟩
                              dsimp only
                              have hx4w : Ext wr w4 := (hx2.trans hx3).trans hx4
                              clear hx2 hx3 hx4
                              go_wp2
                              go_ret2
                              have hr := HR.out
                              simp only [Prod.mk.injEq] at hr
                              obtain ⟨rfl, rfl⟩ := hr
                              exact ElsR.err _ (hx.trans hx4w)
                            · have hdl : H ≤ DB.size := by omega
                              obtain ⟨D, hD⟩ : ∃ D, DB.extract 0 H = D := ⟨_, rfl⟩
                              have hDl : D.data.toList = (tx.drop AI.size).take H := by rw [← hD, cut_front, hDBl]
                              have hDs : D.size = H := by rw [← hD, ByteArray.size_extract]; omega
                              have HV1 := Lib.hid (fun w => rVerify_any AI D (by unfold maxLen; omega) (by unfold maxLen; omega) w)
                              rw [HHE.out, hDl] at HV1
                              have HS2 := Lib.hid (S2 hf hlt2)
                              have HS3 := Lib.hid (S3 hf hlt2)
                              have HDE : Hid (encS ((tx.drop AI.size).take H) = .string D) := Lib.hid (by rw [← hDl, encS_of])
                              generalize (tx.drop AI.size).take H = d at *
                              obtain ⟨K1, hK1⟩ : ∃ K1, p + AI.size = K1 := ⟨_, rfl⟩
                              obtain ⟨K2, hK2⟩ : ∃ K2, K1 + D.size = K2 := ⟨_, rfl⟩
                              have i1 : (p : Int) + (AI.size : Int) = (K1 : Int) := by omega
                              have i2 : (K1 : Int) + (D.size : Int) = (K2 : Int) := by omega
                              have HK2 : Hid (K2 = p + (AI.size + H) ∧ K2 ≤ k) := Lib.hid (by have := HE.out; omega)
                              have hD4 : D.size ≤ 4096 := by omega
                              clear S1 S2 S3 S4 S5 S6 hf hK1 hK2 hDl hDs hDBl hDBs hlt2 HS1
                              by_cases hver : Gs.ver ai d = 0
                              · rw [hver] at HV1
                                have HP3 : Hid ((res1, res2) = Gs.fromF n' (cs.drop K2) (acc ++ [(ai, d)])) := Lib.hid (by
                                  rw [HP2.out, HS3.out hver, if_neg (by simp)]
                                  dsimp only
                                  rw [List.drop_drop, HK2.out.1])
                                clear HS2 HS3 hver
                                go_wp2_with fail
                                refine (HTX.out _ hx).mono ?_
                                rintro e w2 ⟨rfl, hx2⟩
                                rw [HTE.out]
                                go_wp2_with fail
                                refine (HFS.out _).mono ?_
                                rintro e w3 ⟨rfl, hx3⟩
                                rw [HAI.out]
                                go_wp2_with fail
                                refine (HFX.out _).mono ?_
                                rintro e w4 ⟨rfl, hx4⟩
                                dsimp only
                                have hx4w : Ext wr w4 := (hx2.trans hx3).trans hx4
                                clear hx2 hx3 hx4
                                go_wp2_with fail
                                refine (HV1.out _).mono ?_
                                rintro e w5 ⟨rfl, hx5⟩
                                have hxa : Ext w w5 := ((hx.trans hx4w).alloc _).trans hx5
                                have cA : w5.cell? ⟨w4.heap.size, 0, none⟩ = some (.string AI) := by rw [hx5.cell (p := ⟨w4.heap.size, 0, none⟩) (by simp)]; unfold World.cell?; rw [heap_alloc_new]; rfl
                                have cD : w5.cell? ⟨w4.heap.size, 1, none⟩ = some (.string D) := by rw [hx5.cell (p := ⟨w4.heap.size, 1, none⟩) (by simp)]; unfold World.cell?; rw [heap_alloc_new]; rfl
                                have hown5 := ((hown.ext hx4w).ext ((Ext.refl w4).alloc _)).ext hx5
                                have hsz5 := hxa.size
                                clear hx5 hown hx4w
                                go_wp2_with (at_builtin; go_loud (refine append_el rfl _ _ rfl w.heap.size _ _ rfl (hown5.ext ((Ext.refl w5).alloc _)) _ (ai, d) rfl ?_ ?_ (by omega) ?_ ?_))
                                · exact HAI.out.symm
                                · exact HDE.out.symm
                                · simp; omega
                                intro v6 w6 hown6 hg6
                                have hx6 : Ext w w6 := (hxa.alloc _).ofGrown hg6 hown5.low
                                clear cA cD hg6 hown5
                                go_wp2
                                go_roundw
                                case rel => exact ⟨K2, acc ++ [(ai, d)], n', rfl, HK2.out.2, by have := HK2.out; rw [List.length_append]; simp; omega, hown6, Lib.hid ⟨by have := HK2.out; have := HP1.out; omega, HP3.out⟩, hx6⟩
                                case measure => have := HK2.out; simp [intOf]; omega
                              · have HR : Hid ((res1, res2) = ([], Gs.ver ai d)) := Lib.hid (by rw [HP2.out, HS2.out hver, if_pos hver])
                                obtain ⟨z1, hz1⟩ : ∃ z1, Gs.ver ai d = z1 := ⟨_, rfl⟩
                                rw [hz1] at HV1 HR hver
                                have hz2 : (z1 == 0) = false := by simpa using hver
                                clear hver hz1 HS2 HS3
                                go_wp2_with fail
                                refine (HTX.out _ hx).mono ?_
                                rintro e w2 ⟨rfl, hx2⟩
                                rw [HTE.out]
                                go_wp2_with fail
                                refine (HFS.out _).mono ?_
                                rintro e w3 ⟨rfl, hx3⟩
                                rw [HAI.out]
                                go_wp2_with fail
                                refine (HFX.out _).mono ?_
                                rintro e w4 ⟨rfl, hx4⟩
                                dsimp only
                                have hx4w : Ext wr w4 := (hx2.trans hx3).trans hx4
                                clear hx2 hx3 hx4
                                go_wp2_with fail
                                refine (HV1.out _).mono ?_
                                rintro e w5 ⟨rfl, hx5⟩
                                have hxa : Ext w w5 := ((hx.trans hx4w).alloc _).trans hx5
                                go_wp2
                                go_ret2
                                have hr := HR.out
                                simp only [Prod.mk.injEq] at hr
                                obtain ⟨rfl, rfl⟩ := hr
                                exact ElsR.err _ hxa
                    · have hzb : (z != 256) = true := by simpa using hz256
                      have HNX : Hid (j + 1 + (Gs.run (cs.drop (j + 1))).length = E) := Lib.hid (by
                        have hd : cs.drop j = z :: cs.drop (j + 1) := by
                          obtain ⟨h1, h2⟩ := List.getElem?_eq_some_iff.1 hz
                          rw [List.drop_eq_getElem_cons h1, h2]
                        have := hin.out
                        rw [hd] at this
                        simp only [Gs.run, if_neg hz256, List.length_cons] at this
                        omega)
                      clear hz hin HEXIT hz256
                      go_wp2
                      go_round
                      case rel => exact ⟨j + 1, by omega, by omega, by go_num, HNX⟩
                      case measure => simp [intOf]; omega
                  · have hjE : j = E := HEXIT.out (fun h => absurd h hjlt)
                    have hjk2 : k ≤ j := by omega
                    clear HEXIT hin hjlt
                    subst hjE
                    by_cases hm0 : m = 0
                    · exfalso
                      have := HE.out
                      omega
                    · have hb1 : ((j : Int) == (p : Int)) = false := by rw [beq_eq_false_iff_ne]; have := HE.out; omega
                      have hb2 : (j == p) = false := by rw [beq_eq_false_iff_ne]; have := HE.out; omega
                      obtain ⟨vs, hslc, hss⟩ := slice_ints2 (by have := HV.out; rw [← HN.out] at this; exact this) p j (by omega) (by rw [List.length_map, HN.out]; omega)
                      have hjp : j - p = m := by have := HE.out; omega
                      rw [hjp, ← List.map_drop, ← List.map_take, HRT.out] at hss
                      rw [HN.out] at hslc
                      have HTX := Lib.hid (fun w' hx => rtext_any vs (Gs.run (cs.drop p)) w' (hss.1.ext hx) (by rw [HM.out]; omega) HORN.out)
                      have HS0 := Lib.hid (HNS.out hm0)
                      have HN2 : Hid (Gs.pre (Gs.text (Gs.run (cs.drop p))) = none → Gs.next (cs.drop p) = (([], []), 0, 29)) := Lib.hid (fun h => by rw [HN1.out, if_neg hm0, h])
                      have htl : (Gs.text (Gs.run (cs.drop p))).length = m := by rw [text_len, HM.out]
                      generalize Gs.text (Gs.run (cs.drop p)) = tx at *
                      obtain ⟨TX, hTX⟩ : ∃ TX : ByteArray, TX.data.toList = tx := ⟨⟨tx.toArray⟩, rfl⟩
                      have HTE : Hid (encS tx = .string TX) := Lib.hid (by rw [← hTX, encS_of])
                      have hTs : TX.size = m := by rw [← len_data, hTX, htl]
                      have HTS := Lib.hid hTs
                      have hm4 : m ≤ 4096 := by omega
                      have HFS := Lib.hid (fun w => rfirst_any TX (by omega) w)
                      rw [hTX] at HFS
                      have HTL := Lib.hid hTX
                      obtain ⟨as1, cc1, rfl⟩ := hss.1.form
                      rw [List.length_map, HM.out] at hslc HTX
                      clear hss hjp htl hTX hTs HN1 HNS HIN HORN hm0
                      cases hpre : Gs.pre tx with
                      | none =>
                        have HR : Hid ((res1, res2) = ([], 29)) := Lib.hid (by rw [HP2.out, HN2.out hpre]; rfl)
                        rw [hpre] at HFS
                        clear hpre HN2
                        go_wp2_with fail
                        refine (HTX.out _ hx).mono ?_
                        rintro e w2 ⟨rfl, hx2⟩
                        rw [HTE.out]
                        go_wp2_with fail
                        refine (HFS.out _).mono ?_
                        rintro e w3 ⟨rfl, hx3⟩
                        rw [show encS (preF none) = .string ⟨#[]⟩ from rfl]
                        go_wp2
                        go_ret2
                        have hr := HR.out
                        simp only [Prod.mk.injEq] at hr
                        obtain ⟨rfl, rfl⟩ := hr
                        exact ElsR.err _ (hx.trans (hx2.trans hx3))
                      | some q =>
                        obtain ⟨ai, r⟩ := q
                        have HS6a := HS0.out ai r hpre
                        obtain ⟨al, rok, al4⟩ := pre_len hpre
                        have hfind := (pre_inv hpre).1
                        have hal2 := (ai_ok hfind).1
                        rw [hpre] at HFS
                        obtain ⟨ra, rb, rc, rd⟩ := r
                        obtain ⟨k0', k3', l1, lh, h9, _⟩ := rok
                        dsimp only at l1 lh h9 HS6a
                        obtain ⟨H, rfl⟩ : ∃ H : Nat, rc = (H : Int) := ⟨rc.toNat, by omega⟩
                        rw [Int.toNat_natCast] at HS6a
                        obtain ⟨AI, hAI⟩ : ∃ AI : ByteArray, AI.data.toList = ai := ⟨⟨ai.toArray⟩, rfl⟩
                        have HAI : Hid (encS (preF (some (ai, (ra, rb, (H : Int), rd)))) = .string AI) := Lib.hid (by show encS ai = _; rw [← hAI, encS_of])
                        have hAL : ai.length = AI.size := by rw [← hAI, len_data]
                        have HFX := Lib.hid (fun w => rFixed_any AI (by unfold maxLen; omega) w)
                        rw [hAI, fixF_is hfind] at HFX
                        rw [hAL] at al al4 hal2 HS6a
                        try rw [HM.out] at HS6a
                        have hAj : AI.size ≤ m := by have := HTS.out; have h7 : tx.length = TX.size := by rw [← HTL.out, len_data]
                                                     omega
                        have T1 := toList_no (show 0 < AI.size by omega)
                        have T2 := isEmpty_no (show 0 < AI.size by omega)
                        obtain ⟨DB, hDB⟩ : ∃ DB, TX.extract AI.size TX.size = DB := ⟨_, rfl⟩
                        have hDBs : DB.size = m - AI.size := by rw [← hDB, ByteArray.size_extract]; have := HTS.out; omega
                        have hDBl : DB.data.toList = tx.drop AI.size := by rw [← hDB, cut_back, HTL.out]
                        have hAT : AI.size ≤ TX.size := by have := HTS.out; omega
                        have HHE := Lib.hid hAI
                        obtain ⟨S1, S2, S3, S4, S5, S6⟩ := HS6a
                        clear hpre HN2 HS0 hfind hAL hAI al k0' k3'
                        cases hf : Gs.isFix (ra, rb, (H : Int), rd)
                        · rw [hf] at HFX
                          have HV1 := Lib.hid (fun w => rVerify_any AI DB (by unfold maxLen; omega) (by unfold maxLen; omega) w)
                          rw [HHE.out, hDBl] at HV1
                          have HS4 := Lib.hid (S4 hf)
                          have HS5 := Lib.hid (S5 hf)
                          have HS6 := Lib.hid (S6 hf)
                          have HDE : Hid (encS (tx.drop AI.size) = .string DB) := Lib.hid (by rw [← hDBl, encS_of])
                          generalize tx.drop AI.size = d at *
                          obtain ⟨D, hDD⟩ : ∃ D, DB = D := ⟨_, rfl⟩
                          subst hDD
                          obtain ⟨K1, hK1⟩ : ∃ K1, p + AI.size = K1 := ⟨_, rfl⟩
                          obtain ⟨K2, hK2⟩ : ∃ K2, K1 + DB.size = K2 := ⟨_, rfl⟩
                          have i1 : (p : Int) + (AI.size : Int) = (K1 : Int) := by omega
                          have i2 : (K1 : Int) + (DB.size : Int) = (K2 : Int) := by omega
                          have HK2 : Hid (K2 = j) := Lib.hid (by have := HE.out; omega)
                          have HDBS := Lib.hid hDBs
                          have hDB4 : DB.size ≤ 4096 := by omega
                          simp only [Bool.false_eq_true, if_false] at HFX
                          clear S1 S2 S3 S4 S5 S6 hf hK1 hK2 hDBl hDBs
                          by_cases hver : Gs.ver ai d = 0
                          · rw [hver] at HV1
                            have HS5 := Lib.hid (HS5.out hver)
                            have HS6 := Lib.hid (HS6.out hver)
                            clear HS4 hver
                            go_wp2_with fail
                            refine (HTX.out _ hx).mono ?_
                            rintro e w2 ⟨rfl, hx2⟩
                            rw [HTE.out]
                            go_wp2_with fail
                            refine (HFS.out _).mono ?_
                            rintro e w3 ⟨rfl, hx3⟩
                            rw [HAI.out]
                            go_wp2_with fail
                            refine (HFX.out _).mono ?_
                            rintro e w4 ⟨rfl, hx4⟩
                            dsimp only
                            have hx4w : Ext wr w4 := (hx2.trans hx3).trans hx4
                            clear hx2 hx3 hx4
                            go_wp2_with fail
                            refine (HV1.out _).mono ?_
                            rintro e w5 ⟨rfl, hx5⟩
                            have hxa : Ext w w5 := ((hx.trans hx4w).alloc _).trans hx5
                            have cA : w5.cell? ⟨w4.heap.size, 0, none⟩ = some (.string AI) := by rw [hx5.cell (p := ⟨w4.heap.size, 0, none⟩) (by simp)]; unfold World.cell?; rw [heap_alloc_new]; rfl
                            have cD : w5.cell? ⟨w4.heap.size, 1, none⟩ = some (.string DB) := by rw [hx5.cell (p := ⟨w4.heap.size, 1, none⟩) (by simp)]; unfold World.cell?; rw [heap_alloc_new]; rfl
                            have hown5 := ((hown.ext hx4w).ext ((Ext.refl w4).alloc _)).ext hx5
                            have hsz5 := hxa.size
                            clear hx5 hown hx4w
                            go_wp2_with (at_builtin; go_loud (refine append_el rfl _ _ rfl w.heap.size _ _ rfl (hown5.ext ((Ext.refl w5).alloc _)) _ (ai, d) rfl ?_ ?_ (by omega) ?_ ?_))
                            · exact HAI.out.symm
                            · exact HDE.out.symm
                            · simp; omega
                            intro v6 w6 hown6 hg6
                            have hx6 : Ext w w6 := (hxa.alloc _).ofGrown hg6 hown5.low
                            clear cA cD hg6 hown5
                            have HP3 : Hid ((res1, res2) = Gs.fromF n' (cs.drop K2) (acc ++ [(ai, d)])) := Lib.hid (by
                              rw [HP2.out, HS6.out (by have := HE.out; have := HK2.out; omega), if_neg (by simp)]
                              dsimp only
                              rw [List.drop_drop]
                              congr 2
                              have := HE.out; have := HK2.out; omega)
                            have hK2k : ¬ K2 < k := by have := HK2.out; omega
                            have hK2k2 : k ≤ K2 := by omega
                            have hK2k3 : K2 ≤ k := by have := HK2.out; omega
                            go_wp2
                            go_roundw
                            case rel => exact ⟨K2, acc ++ [(ai, d)], n', rfl, hK2k3, by have := HK2.out; have := HE.out; rw [List.length_append]; simp; omega, hown6, Lib.hid ⟨by have := HK2.out; have := HE.out; have := HP1.out; omega, HP3.out⟩, hx6⟩
                            case measure => have := HK2.out; have := HE.out; simp [intOf]; omega
                          · have HR : Hid ((res1, res2) = ([], Gs.ver ai d)) := Lib.hid (by rw [HP2.out, HS4.out hver, if_pos hver])
                            obtain ⟨z1, hz1⟩ : ∃ z1, Gs.ver ai d = z1 := ⟨_, rfl⟩
                            rw [hz1] at HV1 HR hver
                            have hz2 : (z1 == 0) = false := by simpa using hver
                            clear hver hz1 HS4 HS5 HS6
                            go_wp2_with fail
                            refine (HTX.out _ hx).mono ?_
                            rintro e w2 ⟨rfl, hx2⟩
                            rw [HTE.out]
                            go_wp2_with fail
                            refine (HFS.out _).mono ?_
                            rintro e w3 ⟨rfl, hx3⟩
                            rw [HAI.out]
                            go_wp2_with fail
                            refine (HFX.out _).mono ?_
                            rintro e w4 ⟨rfl, hx4⟩
                            dsimp only
                            have hx4w : Ext wr w4 := (hx2.trans hx3).trans hx4
                            clear hx2 hx3 hx4
                            go_wp2_with fail
                            refine (HV1.out _).mono ?_
                            rintro e w5 ⟨rfl, hx5⟩
                            have hxa : Ext w w5 := ((hx.trans hx4w).alloc _).trans hx5
                            go_wp2
                            go_ret2
                            have hr := HR.out
                            simp only [Prod.mk.injEq] at hr
                            obtain ⟨rfl, rfl⟩ := hr
                            exact ElsR.err _ hxa
                        · rw [hf] at HFX
                          simp only [if_true] at HFX
                          have hH0 : 0 < H := by omega
                          have hH1 : ((H : Int) == 0) = false := by rw [beq_eq_false_iff_ne]; omega
                          have HS1 := Lib.hid (S1 hf)
                          by_cases hlt2 : m < AI.size + H
                          · have HR : Hid ((res1, res2) = ([], 10)) := Lib.hid (by rw [HP2.out, HS1.out hlt2]; rfl)
                            have hdl : DB.size < H := by omega
                            clear S1 S2 S3 S4 S5 S6 hf hDBl hDBs hlt2 HS1
                            go_wp2_with fail
                            refine (HTX.out _ hx).mono ?_
                            rintro e w2 ⟨rfl, hx2⟩
                            rw [HTE.out]
                            go_wp2_with fail
                            refine (HFS.out _).mono ?_
                            rintro e w3 ⟨rfl, hx3⟩
                            rw [HAI.out]
                            go_wp2_with fail
                            refine (HFX.out _).mono ?_
                            rintro e w4 ⟨rfl, hx4⟩
                            dsimp only
                            have hx4w : Ext wr w4 := (hx2.trans hx3).trans hx4
                            clear hx2 hx3 hx4
                            go_wp2
                            go_ret2
                            have hr := HR.out
                            simp only [Prod.mk.injEq] at hr
                            obtain ⟨rfl, rfl⟩ := hr
                            exact ElsR.err _ (hx.trans hx4w)
                          · have hdl : H ≤ DB.size := by omega
                            obtain ⟨D, hD⟩ : ∃ D, DB.extract 0 H = D := ⟨_, rfl⟩
                            have hDl : D.data.toList = (tx.drop AI.size).take H := by rw [← hD, cut_front, hDBl]
                            have hDs : D.size = H := by rw [← hD, ByteArray.size_extract]; omega
                            have HV1 := Lib.hid (fun w => rVerify_any AI D (by unfold maxLen; omega) (by unfold maxLen; omega) w)
                            rw [HHE.out, hDl] at HV1
                            have HS2 := Lib.hid (S2 hf hlt2)
                            have HS3 := Lib.hid (S3 hf hlt2)
                            have HDE : Hid (encS ((tx.drop AI.size).take H) = .string D) := Lib.hid (by rw [← hDl, encS_of])
                            generalize (tx.drop AI.size).take H = d at *
                            obtain ⟨K1, hK1⟩ : ∃ K1, p + AI.size = K1 := ⟨_, rfl⟩
                            obtain ⟨K2, hK2⟩ : ∃ K2, K1 + D.size = K2 := ⟨_, rfl⟩
                            have i1 : (p : Int) + (AI.size : Int) = (K1 : Int) := by omega
                            have i2 : (K1 : Int) + (D.size : Int) = (K2 : Int) := by omega
                            have HK2 : Hid (K2 = p + (AI.size + H) ∧ K2 ≤ k) := Lib.hid (by have := HE.out; omega)
                            have hD4 : D.size ≤ 4096 := by omega
                            clear S1 S2 S3 S4 S5 S6 hf hK1 hK2 hDl hDs hDBl hDBs hlt2 HS1
                            by_cases hver : Gs.ver ai d = 0
                            · rw [hver] at HV1
                              have HP3 : Hid ((res1, res2) = Gs.fromF n' (cs.drop K2) (acc ++ [(ai, d)])) := Lib.hid (by
                                rw [HP2.out, HS3.out hver, if_neg (by simp)]
                                dsimp only
                                rw [List.drop_drop, HK2.out.1])
                              clear HS2 HS3 hver
                              go_wp2_with fail
                              refine (HTX.out _ hx).mono ?_
                              rintro e w2 ⟨rfl, hx2⟩
                              rw [HTE.out]
                              go_wp2_with fail
                              refine (HFS.out _).mono ?_
                              rintro e w3 ⟨rfl, hx3⟩
                              rw [HAI.out]
                              go_wp2_with fail
                              refine (HFX.out _).mono ?_
                              rintro e w4 ⟨rfl, hx4⟩
                              dsimp only
                              have hx4w : Ext wr w4 := (hx2.trans hx3).trans hx4
                              clear hx2 hx3 hx4
                              go_wp2_with fail
                              refine (HV1.out _).mono ?_
                              rintro e w5 ⟨rfl, hx5⟩
                              have hxa : Ext w w5 := ((hx.trans hx4w).alloc _).trans hx5
                              have cA : w5.cell? ⟨w4.heap.size, 0, none⟩ = some (.string AI) := by rw [hx5.cell (p := ⟨w4.heap.size, 0, none⟩) (by simp)]; unfold World.cell?; rw [heap_alloc_new]; rfl
                              have cD : w5.cell? ⟨w4.heap.size, 1, none⟩ = some (.string D) := by rw [hx5.cell (p := ⟨w4.heap.size, 1, none⟩) (by simp)]; unfold World.cell?; rw [heap_alloc_new]; rfl
                              have hown5 := ((hown.ext hx4w).ext ((Ext.refl w4).alloc _)).ext hx5
                              have hsz5 := hxa.size
                              clear hx5 hown hx4w
                              go_wp2_with (at_builtin; go_loud (refine append_el rfl _ _ rfl w.heap.size _ _ rfl (hown5.ext ((Ext.refl w5).alloc _)) _ (ai, d) rfl ?_ ?_ (by omega) ?_ ?_))
                              · exact HAI.out.symm
                              · exact HDE.out.symm
                              · simp; omega
                              intro v6 w6 hown6 hg6
                              have hx6 : Ext w w6 := (hxa.alloc _).ofGrown hg6 hown5.low
                              clear cA cD hg6 hown5
                              go_wp2
                              go_roundw
                              case rel => exact ⟨K2, acc ++ [(ai, d)], n', rfl, HK2.out.2, by have := HK2.out; rw [List.length_append]; simp; omega, hown6, Lib.hid ⟨by have := HK2.out; have := HP1.out; omega, HP3.out⟩, hx6⟩
                              case measure => have := HK2.out; simp [intOf]; omega
                            · have HR : Hid ((res1, res2) = ([], Gs.ver ai d)) := Lib.hid (by rw [HP2.out, HS2.out hver, if_pos hver])
                              obtain ⟨z1, hz1⟩ : ∃ z1, Gs.ver ai d = z1 := ⟨_, rfl⟩
                              rw [hz1] at HV1 HR hver
                              have hz2 : (z1 == 0) = false := by simpa using hver
                              clear hver hz1 HS2 HS3
                              go_wp2_with fail
                              refine (HTX.out _ hx).mono ?_
                              rintro e w2 ⟨rfl, hx2⟩
                              rw [HTE.out]
                              go_wp2_with fail
                              refine (HFS.out _).mono ?_
                              rintro e w3 ⟨rfl, hx3⟩
                              rw [HAI.out]
                              go_wp2_with fail
                              refine (HFX.out _).mono ?_
                              rintro e w4 ⟨rfl, hx4⟩
                              dsimp only
                              have hx4w : Ext wr w4 := (hx2.trans hx3).trans hx4
                              clear hx2 hx3 hx4
                              go_wp2_with fail
                              refine (HV1.out _).mono ?_
                              rintro e w5 ⟨rfl, hx5⟩
                              have hxa : Ext w w5 := ((hx.trans hx4w).alloc _).trans hx5
                              go_wp2
                              go_ret2
                              have hr := HR.out
                              simp only [Prod.mk.injEq] at hr
                              obtain ⟨rfl, rfl⟩ := hr
                              exact ElsR.err _ hxa
              · obtain rfl : p = k := by omega
                have HR : Hid ((res1, res2) = (acc, 0)) := Lib.hid (by rw [hpf.out.2, List.drop_of_length_le (by rw [HN.out]; exact Nat.le_refl _), fromF_nil])
                have hr := HR.out
                simp only [Prod.mk.injEq] at hr
                obtain ⟨rfl, rfl⟩ := hr
                clear hp hlt hpf HR
                go_wp2
                go_ret2
                exact ⟨_, rfl, hown.sl, hx⟩
        · rw [if_pos h256] at HR0
          have hr := HR0.out
          simp only [Prod.mk.injEq] at hr
          obtain ⟨rfl, rfl⟩ := hr
          have h2 : (c != 256) = true := by simpa using h256
          go_wp2
          go_ret2
          exact ElsR.err _ (Ext.refl _)
end Go.Proofs.YteojfkffmbcedaaDoor
