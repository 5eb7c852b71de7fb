/-
  Chapter 14: next, walked.
  Condition: the map is the table of application identifiers; at most 4096 characters, each 31C1 or from 0 to 127.
-/
import Derived.Test.YteojfkffmbcedaaGreatDoorGsWC
import Derived.Test.YteojfkffmbcedaaGreatDoorGsW7
namespace Go.Proofs.YteojfkffmbcedaaGreatDoor
set_option linter.unusedVariables false
open Go.RowKit Go.WideMaps Go.Maps

theorem next_some {c : List Int} {ai : List UInt8} {r : Gs.Rule} (h0 : (Gs.run c).length ≠ 0) (hp : Gs.pre (Gs.text (Gs.run c)) = some (ai, r)) :
    (Gs.isFix r = true → (Gs.run c).length < ai.length + r.2.2.1.toNat → Gs.next c = (([], []), 0, 10)) ∧
    (Gs.isFix r = true → ¬ (Gs.run c).length < ai.length + r.2.2.1.toNat → Gs.ver ai (((Gs.text (Gs.run c)).drop ai.length).take r.2.2.1.toNat) ≠ 0 → Gs.next c = (([], []), 0, Gs.ver ai (((Gs.text (Gs.run c)).drop ai.length).take r.2.2.1.toNat))) ∧
    (Gs.isFix r = true → ¬ (Gs.run c).length < ai.length + r.2.2.1.toNat → Gs.ver ai (((Gs.text (Gs.run c)).drop ai.length).take r.2.2.1.toNat) = 0 → Gs.next c = ((ai, ((Gs.text (Gs.run c)).drop ai.length).take r.2.2.1.toNat), ai.length + r.2.2.1.toNat, 0)) ∧
    (Gs.isFix r = false → Gs.ver ai ((Gs.text (Gs.run c)).drop ai.length) ≠ 0 → Gs.next c = (([], []), 0, Gs.ver ai ((Gs.text (Gs.run c)).drop ai.length))) ∧
    (Gs.isFix r = false → Gs.ver ai ((Gs.text (Gs.run c)).drop ai.length) = 0 → (Gs.run c).length + 1 = c.length → Gs.next c = (([], []), 0, 9)) ∧
    (Gs.isFix r = false → Gs.ver ai ((Gs.text (Gs.run c)).drop ai.length) = 0 → (Gs.run c).length + 1 ≠ c.length → Gs.next c = ((ai, (Gs.text (Gs.run c)).drop ai.length), min ((Gs.run c).length + 1) c.length, 0)) := by
  unfold Gs.next
  rw [if_neg h0, hp]
  dsimp only
  refine ⟨fun h1 h2 => ?_, fun h1 h2 h3 => ?_, fun h1 h2 h3 => ?_, fun h1 h2 => ?_, fun h1 h2 h3 => ?_, fun h1 h2 h3 => ?_⟩
  · rw [if_pos h1, if_pos h2]
  · rw [if_pos h1, if_neg h2, if_pos h3]
  · rw [if_pos h1, if_neg h2, if_neg (by simpa using h3)]
  · rw [if_neg (by rw [h1]; simp), if_pos h2]
  · rw [if_neg (by rw [h1]; simp), if_neg (by simpa using h2), if_pos h3]
  · rw [if_neg (by rw [h1]; simp), if_neg (by simpa using h2), if_neg h3]
theorem pre_len {l a : List UInt8} {r : Gs.Rule} (h : Gs.pre l = some (a, r)) : a.length ≤ l.length ∧ Gs.RuleOk r ∧ a.length ≤ 4 := by
  have h1 := pre_inv h
  exact ⟨h1.2.2, find_ok h1.1, (ai_ok h1.1).2.1⟩

set_option maxRecDepth 100000 in
set_option maxHeartbeats 8000000 in
theorem next_any (v : Value) (cs : List Int) (b : Nat) (w : World) (hd : Dir w b) (hv : SlK w v (cs.map encI)) (hn : cs.length ≤ 4096) (hok : cs.all Gs.okCh = true) (h0 : cs ≠ []) :
    Calls Tryz.prog 31 #[.map (some b), v] w (NextR (Gs.next cs) w) := by
  obtain ⟨hsl, av, cv, rfl, hcv⟩ := hv
  rw [List.length_map] at hsl hcv ⊢
  have HIX := Lib.hid (index_run hsl (by omega))
  have HN := Lib.hid (Eq.refl cs.length)
  have HOK := Lib.hid (okCh_run hok)
  have hrl := run_len cs
  have HDV := Lib.hid (fun (w' : World) (hx : Ext w w') (ai d : ByteArray) (h1 : ai.size ≤ maxLen) (h2 : d.size ≤ maxLen) => verR_walk ai d b w' (Dir.ext hd hx) h1 h2)
  have HPX := Lib.hid (fun (w' : World) (hx : Ext w w') (s : ByteArray) (h1 : s.size ≤ 1000000) => prefix_any s b w' (Dir.ext hd hx) h1)
  have HSL := Lib.hid hsl
  have HNX := Lib.hid (Gs.next.eq_1 cs)
  obtain ⟨b0, o0, hav, hbv, hq9⟩ := hsl.at_ (k := 0) (by rw [List.length_map]; exact List.length_pos_iff.2 h0)
  clear hq9
  subst hav
  have HCC : Hid (∀ w', Ext w w' → ∀ j, j < (Gs.run cs).length → w'.cell? ⟨b0, o0 + j, none⟩ = some (.int .i64 ((Gs.run cs).getD j 0))) := Lib.hid (fun w' hx j hj => by
    obtain ⟨b1, o1, e1, _, hc⟩ := hsl.at_ (k := j) (by rw [List.length_map]; omega)
    injection e1 with e1
    injection e1 with e1 e2
    subst e1 e2
    rw [hx.cell (p := ⟨b0, o0 + j, none⟩) hbv, hc, List.getElem_map, List.getD_eq_getElem?_getD, run_at hj, List.getElem?_eq_getElem (by omega)]; rfl)
  obtain ⟨N, hN⟩ : ∃ N, cs.length = N := ⟨_, rfl⟩
  obtain ⟨m, hm⟩ : ∃ m, (Gs.run cs).length = m := ⟨_, rfl⟩
  obtain ⟨b9, hb9⟩ : ∃ b9, b9 = w.heap.size + 1 := ⟨_, rfl⟩
  have HNS := Lib.hid (fun (h : (Gs.run cs).length ≠ 0) (ai : List UInt8) (r : Gs.Rule) (hp : Gs.pre (Gs.text (Gs.run cs)) = some (ai, r)) => next_some h hp)
  generalize hres : Gs.next cs = res at *
  have hN0 : 0 < N := by rw [← hN]; exact List.length_pos_iff.2 h0
  rw [hm] at hrl HIX HCC HNX
  rw [hN] at hrl hn hcv HIX HSL ⊢
  clear HN hd hsl hok h0 hres
  have HM := Lib.hid hm
  have HN := Lib.hid hN
  clear hm hN
  have E0 : ∀ (A : World), ElAt (A.alloc (.cells #[.string ⟨#[]⟩, .string ⟨#[]⟩] 35)) A.heap.size ([], []) := fun A => heap_alloc_new _ _
  have HE0 := Lib.hid (E0 w)
  clear E0
  by_cases hm0 : m = 0
  · rw [if_pos hm0] at HNX
    subst hm0
    rw [if_neg (by omega)] at HIX
    have HQ := Lib.hid (HE0.out.puts ([], []))
    go_enter Tryz.func31, Tryz.ntmps31
    go_wp2_with fail
    refine (HIX.out _ ((Ext.refl w).alloc _)).mono ?_
    rintro e w1 ⟨rfl, rfl⟩
    go_wp2
    refine bodyPost_ret_by (v := .tuple #[.agg #[.string ⟨#[]⟩, .string ⟨#[]⟩], .int .i64 0, .int .i64 9]) (by simp [results, Tryz.results31, go_sem]) rfl ⟨by rw [HNX.out]; rfl, (by repeat (first | exact Ext.refl _ | assumption | refine Ext.alloc ?_ _ | refine Ext.drew ?_ | refine Ext.drewN ?_ _ | refine Ext.setCell ?_ (Nat.le_refl _) _ | refine Ext.trans ?_ (by assumption)))⟩
  · rw [if_neg hm0] at HNX
    have HNS := Lib.hid (HNS.out (by rw [HM.out]; exact hm0))
    have hm1 : ((m : Int) == 0) = false := by rw [beq_eq_false_iff_ne]; omega
    have hm2 : (0 : Int) ≤ (m : Int) := by omega
    have hml : m ≤ 4096 := by omega
    have hmk := run_make_row' (P := Tryz.prog) 36 5 (.int .u8 0) 1 Tryz.underlying36 (by kernel_rfl) rfl .i64 .i64 m (by omega) (by omega)
    by_cases hmf : m = N
    · rw [if_pos hmf] at HIX
      clear hm0
      subst hmf
      go_enter Tryz.func31, Tryz.ntmps31
      go_wp2_with fail
      refine (HIX.out _ ((Ext.refl w).alloc _)).mono ?_
      rintro e w1 ⟨rfl, rfl⟩
      go_wp2
      clear hmk
      go_loopw [26] (fun i wr => ∃ j : Nat, j ≤ m ∧ i = .int .i64 (j : Int) ∧ wr.rowIs (w.heap.size + 1) 5 m (fun k => if k < j then encB (Gs.byte ((Gs.run cs).getD k 0)) else .int .u8 0) ∧ Ext (w.alloc (.cells #[.string ⟨#[]⟩, .string ⟨#[]⟩] 35)) wr) (fun i _ => m - (intOf i).toNat)
      case atStart =>
        exact ⟨0, Nat.zero_le _, rfl, by simpa using (World.rowIs_made (w.alloc (.cells #[.string ⟨#[]⟩, .string ⟨#[]⟩] 35)) (.int .u8 0) m 5).congr (fun i _ => by simp), (by repeat (first | exact Ext.refl _ | assumption | refine Ext.alloc ?_ _ | refine Ext.drew ?_ | refine Ext.trans ?_ (by assumption)))⟩
      case round =>
        obtain ⟨j, hj, rfl, hrow, hxr⟩ := hrel
        by_cases hlt : j < m
        · have hcj := hrow.cell hlt
          have hfj := hrow.frozen j
          have hxw : Ext w wr := ((Ext.refl w).alloc _).trans hxr
          have hbj := HCC.out wr hxw j hlt
          obtain ⟨cj0, cj1⟩ := HOK.out ((Gs.run cs).getD j 0) (by
            have hj' : j < (Gs.run cs).length := by rw [HM.out]; exact hlt
            rw [List.getD_eq_getElem?_getD, List.getElem?_eq_getElem hj']; exact List.getElem_mem _)
          have HBN := Lib.hid (byte_nat cj0 cj1)
          obtain ⟨cj, hcjj⟩ : ∃ cj, (Gs.run cs).getD j 0 = cj := ⟨_, rfl⟩
          have HR1 := Lib.hid ((hrow.set j (.int .u8 cj)).congr (g := fun k => if k < j + 1 then encB (Gs.byte ((Gs.run cs).getD k 0)) else .int .u8 0) (fun k hk => by
            by_cases h1 : k = j
            · subst h1; rw [if_pos rfl, if_pos (show k < k + 1 by omega)]; unfold encB; rw [HBN.out, hcjj]
            · rw [if_neg h1]
              by_cases h2 : k < j
              · rw [if_pos h2, if_pos (show k < j + 1 by omega)]
              · rw [if_neg h2, if_neg (show ¬ k < j + 1 by omega)]))
          have HX1 := Lib.hid (hxr.setCell (p := ⟨w.heap.size + 1, j, none⟩) (by simp) (.int .u8 cj))
          rw [hcjj] at hbj cj0 cj1
          clear hrow hcjj HBN
          go_wp2
          go_roundw
          case rel => exact ⟨j + 1, by omega, by go_num, HR1.out, HX1.out⟩
          case measure => simp [intOf]; omega
        · obtain rfl : j = m := by omega
          have hxw : Ext w wr := ((Ext.refl w).alloc _).trans hxr
          have hst : SlK wr (.slice (some ⟨w.heap.size + 1, 0, none⟩) j j) ((Gs.text (Gs.run cs)).map encB) := by
            refine ⟨(Sl.row hrow).congr ?_, _, _, by rw [List.length_map, text_len, HM.out], by rw [List.length_map, text_len, HM.out]; exact Nat.le_refl _⟩
            apply List.ext_getElem?
            intro i
            by_cases hi : i < j
            · have hi' : i < (Gs.run cs).length := by rw [HM.out]; exact hi
              simp [Gs.text, hi, hi', List.getD_eq_getElem?_getD]
            · have hi' : (Gs.run cs).length ≤ i := by rw [HM.out]; omega
              simp [Gs.text, hi, hi']
          have hcv := run_convert_sl hst.1
          have HEL := Lib.hid (HE0.out.ext hxr)
          have HST := Lib.hid hst
          have htl : (Gs.text (Gs.run cs)).length = j := by rw [text_len, HM.out]
          generalize Gs.text (Gs.run cs) = tx at *
          obtain ⟨TX, hTX⟩ : ∃ TX : ByteArray, TX = ⟨tx.toArray⟩ := ⟨_, rfl⟩
          have HTX : Hid (TX.data.toList = tx) := Lib.hid (by rw [hTX])
          rw [← hTX] at hcv
          have hTs : TX.size = j := by rw [← len_data, HTX.out, htl]
          have HP1 := Lib.hid (HPX.out wr hxw TX (by omega))
          rw [HTX.out] at HP1
          have HTL := Lib.hid (And.intro htl hTs)
          clear hTX hst hj hlt htl hTs hrow HPX HIX HSL HCC HOK
          cases hp : Gs.pre tx with
          | none =>
            rw [hp] at HP1
            have HR : Hid (res = (([], []), 0, 29)) := Lib.hid (by rw [HNX.out, hp])
            clear hp HNX HNS
            go_wp2_with fail
            refine HP1.out.mono ?_
            rintro e w3 ⟨rfl, hx3⟩
            dsimp only [preV, ruleV]
            have hel := HEL.out.ext hx3
            obtain ⟨g0, g1⟩ := hel.cells
            have f0 := hel.free 0
            have f1 := hel.free 1
            have HQ := Lib.hid ((hel.put ([], [])).ext ((Ext.refl _).alloc (.cells #[.int .i64 0, .int .i64 0, .int .i64 0, .int .u8 0] 38))).cells
            have hxa := hxw.trans hx3
            have hsz : w.heap.size < w3.heap.size := by have := hxr.size; have := hx3.size; simp at *; omega
            clear hel hx3
            go_wp2
            obtain ⟨p0, p1⟩ := HQ.out
            refine bodyPost_ret_by (v := .tuple #[.agg #[.string ⟨#[]⟩, .string ⟨#[]⟩], .int .i64 0, .int .i64 29]) (by unfold encS at p0 p1; simp [results, Tryz.results31, go_sem, p0, p1]) rfl ⟨by rw [HR.out]; rfl, (by repeat (first | exact Ext.refl _ | assumption | refine Ext.alloc ?_ _ | refine Ext.drew ?_ | refine Ext.drewN ?_ _ | refine Ext.setCell ?_ (Nat.le_refl _) _ | refine Ext.trans ?_ (by assumption)))⟩
          | some q =>
            obtain ⟨ai, r⟩ := q
            rw [hp] at HP1
            obtain ⟨al, rok, al4⟩ := pre_len hp
            have HS6 := Lib.hid (HNS.out ai r hp)
            obtain ⟨ra, rb, rc, rd⟩ := r
            obtain ⟨k0, k3, l1, lh, h9, _⟩ := rok
            dsimp only at k0 k3 l1 lh h9 HS6
            obtain ⟨H, rfl⟩ : ∃ H : Nat, rc = (H : Int) := ⟨rc.toNat, by omega⟩
            rw [Int.toNat_natCast] at HS6
            obtain ⟨AI, hAI⟩ : ∃ AI : ByteArray, AI.data.toList = ai := ⟨⟨ai.toArray⟩, rfl⟩
            have HAI : Hid (encS ai = .string AI) := Lib.hid (by rw [← hAI, encS_of])
            have hAL : ai.length = AI.size := by rw [← hAI, len_data]
            rw [hAL] at al al4 HS6
            have HAE := Lib.hid hAI
            have hAj : AI.size ≤ j := by have := HTL.out.1; omega
            have HX := Lib.hid (fun w => fixed_any (ra, rb, (H : Int), rd) w)
            rw [HM.out] at HS6
            clear hAI hAL al hp HNX HNS k0 k3
            cases hf : Gs.isFix (ra, rb, (H : Int), rd)
            · have e0 : ((ra, rb, (H : Int), rd).2.1 == (ra, rb, (H : Int), rd).2.2.1) = false := hf
              rw [e0] at HX
              clear e0
              obtain ⟨vd, hsl, hsd⟩ := slice_bytes HST.out AI.size j hAj (by rw [List.length_map]; have := HTL.out.1; omega)
              rw [← List.map_drop, ← List.map_take, List.take_of_length_le (by rw [List.length_drop]; have := HTL.out.1; omega)] at hsd
              obtain ⟨D, hD⟩ : ∃ D : ByteArray, D.data.toList = tx.drop AI.size := ⟨⟨(tx.drop AI.size).toArray⟩, rfl⟩
              have HD : Hid (encS (tx.drop AI.size) = .string D) := Lib.hid (by rw [← hD, encS_of])
              have hDs : D.size ≤ 4096 := by rw [← len_data, hD, List.length_drop]; have := HTL.out.1; omega
              have HCV : Hid (∀ w', Ext wr w' → (convert 36 9 vd).run Tryz.prog w' = .ok (.string D) w') := Lib.hid (fun w' hx => by
                have := run_convert_sl (hsd.1.ext hx)
                rw [this, ← hD, mk_toList])
              have HV1 := Lib.hid (fun w' hx => HDV.out w' hx AI D (by unfold maxLen; omega) (by unfold maxLen; omega))
              rw [HAE.out, hD] at HV1
              obtain ⟨_, _, _, S4, S5, S6⟩ := HS6.out
              have HS4 := Lib.hid (S4 hf)
              have HS5 := Lib.hid (S5 hf)
              have HS6' := Lib.hid (S6 hf)
              generalize tx.drop AI.size = d at *
              clear HS6 hf S4 S5 S6 hsd hD
              by_cases hver : Gs.ver ai d = 0
              · rw [hver] at HV1
                have HS5 := Lib.hid (HS5.out hver)
                have HS6 := Lib.hid (HS6'.out hver)
                clear hver HS4 HS6'
                have HR : Hid (res = ((ai, d), j, 0)) := Lib.hid (by rw [HS6.out (by rw [HN.out]; omega), HN.out, Nat.min_eq_right (by omega)])
                have hmin : min ((j : Int) + 1) (j : Int) = (j : Int) := by omega
                go_wp2_with fail
                refine HP1.out.mono ?_
                rintro e w3 ⟨rfl, hx3⟩
                simp only [preV, ruleV, HAI.out]
                go_wp2_with fail
                refine (HX.out _).mono ?_
                rintro e w4 ⟨rfl, hx4⟩
                have hx34 : Ext wr w4 := (hx3.alloc _).trans hx4
                have hel4 := HEL.out.ext hx34
                obtain ⟨g0, g1⟩ := hel4.cells
                have f0 := hel4.free 0
                have f1 := hel4.free 1
                have c2 : w4.cell? ⟨w3.heap.size, 2, none⟩ = some (.int .i64 (H : Int)) := by rw [hx4.cell (p := ⟨w3.heap.size, 2, none⟩) (by simp)]; unfold World.cell?; rw [heap_alloc_new]; rfl
                have hxa : Ext w w4 := hxw.trans hx34
                clear hx3 hx4
                have hcv2 := HCV.out w4 hx34
                go_wp2_with fail
                refine (HV1.out _ ((hxa.setCell (Nat.le_refl _) _).setCell (Nat.le_refl _) _)).mono ?_
                rintro e w5 ⟨rfl, hx5⟩
                have hel5 := (hel4.put (ai, d)).ext (by simp only [HAI.out, HD.out]; exact hx5)
                obtain ⟨i0, i1⟩ := hel5.cells
                simp only [HAI.out, HD.out] at i0 i1
                have f0 := hel5.free 0
                have f1 := hel5.free 1
                have hxb : Ext w w5 := ((hxa.setCell (Nat.le_refl _) _).setCell (Nat.le_refl _) _).trans hx5
                have HQ := Lib.hid (hel5.puts (ai, d))
                clear hx5 hel5 hel4 g0 g1
                go_wp2
                obtain ⟨p0, p1⟩ := HQ.out
                refine bodyPost_ret_by (v := .tuple #[.agg #[.string AI, .string D], .int .i64 (j : Int), .int .i64 0]) (by simp only [HAI.out, HD.out] at p0 p1; simp [results, Tryz.results31, go_sem, p0, p1]) rfl ⟨by rw [HR.out]; simp only [HAI.out, HD.out], (by repeat (first | exact Ext.refl _ | assumption | refine Ext.alloc ?_ _ | refine Ext.drew ?_ | refine Ext.drewN ?_ _ | refine Ext.setCell ?_ (Nat.le_refl _) _ | refine Ext.trans ?_ (by assumption)))⟩
              · have HR : Hid (res = (([], []), 0, Gs.ver ai d)) := Lib.hid (HS4.out hver)
                obtain ⟨z1, hz1⟩ : ∃ z1, Gs.ver ai d = z1 := ⟨_, rfl⟩
                rw [hz1] at HV1 HR hver
                have hz2 : (z1 == 0) = false := by simpa using hver
                clear hver HS4 HS5 HS6' hz1
                go_wp2_with fail
                refine HP1.out.mono ?_
                rintro e w3 ⟨rfl, hx3⟩
                simp only [preV, ruleV, HAI.out]
                go_wp2_with fail
                refine (HX.out _).mono ?_
                rintro e w4 ⟨rfl, hx4⟩
                have hx34 : Ext wr w4 := (hx3.alloc _).trans hx4
                have hel4 := HEL.out.ext hx34
                obtain ⟨g0, g1⟩ := hel4.cells
                have f0 := hel4.free 0
                have f1 := hel4.free 1
                have c2 : w4.cell? ⟨w3.heap.size, 2, none⟩ = some (.int .i64 (H : Int)) := by rw [hx4.cell (p := ⟨w3.heap.size, 2, none⟩) (by simp)]; unfold World.cell?; rw [heap_alloc_new]; rfl
                have hxa : Ext w w4 := hxw.trans hx34
                clear hx3 hx4
                have hcv2 := HCV.out w4 hx34
                go_wp2_with fail
                refine (HV1.out _ ((hxa.setCell (Nat.le_refl _) _).setCell (Nat.le_refl _) _)).mono ?_
                rintro e w5 ⟨rfl, hx5⟩
                have hel5 := (hel4.put (ai, d)).ext (by simp only [HAI.out, HD.out]; exact hx5)
                obtain ⟨i0, i1⟩ := hel5.cells
                simp only [HAI.out, HD.out] at i0 i1
                have f0 := hel5.free 0
                have f1 := hel5.free 1
                have hxb : Ext w w5 := ((hxa.setCell (Nat.le_refl _) _).setCell (Nat.le_refl _) _).trans hx5
                have HQ := Lib.hid (hel5.puts ([], []))
                clear hx5 hel5 hel4 g0 g1
                go_wp2
                obtain ⟨p0, p1⟩ := HQ.out
                refine bodyPost_ret_by (v := .tuple #[.agg #[.string ⟨#[]⟩, .string ⟨#[]⟩], .int .i64 0, .int .i64 z1]) (by unfold encS at p0 p1; simp [results, Tryz.results31, go_sem, p0, p1]) rfl ⟨by rw [HR.out]; rfl, (by repeat (first | exact Ext.refl _ | assumption | refine Ext.alloc ?_ _ | refine Ext.drew ?_ | refine Ext.drewN ?_ _ | refine Ext.setCell ?_ (Nat.le_refl _) _ | refine Ext.trans ?_ (by assumption)))⟩
            · have e0 : ((ra, rb, (H : Int), rd).2.1 == (ra, rb, (H : Int), rd).2.2.1) = true := hf
              rw [e0] at HX
              clear e0
              obtain ⟨Q, hQ⟩ : ∃ Q, Q = AI.size + H := ⟨_, rfl⟩
              have hQi : (AI.size : Int) + (H : Int) = (Q : Int) := by omega
              by_cases hlt : j < Q
              · have HR : Hid (res = (([], []), 0, 10)) := Lib.hid (HS6.out.1 hf (by omega))
                have HQ2 := Lib.hid hQ
                clear HS6 hf hQ
                go_wp2_with fail
                refine HP1.out.mono ?_
                rintro e w3 ⟨rfl, hx3⟩
                simp only [preV, ruleV, HAI.out]
                go_wp2_with fail
                refine (HX.out _).mono ?_
                rintro e w4 ⟨rfl, hx4⟩
                have hx34 : Ext wr w4 := (hx3.alloc _).trans hx4
                have hel4 := HEL.out.ext hx34
                obtain ⟨g0, g1⟩ := hel4.cells
                have f0 := hel4.free 0
                have f1 := hel4.free 1
                have c2 : w4.cell? ⟨w3.heap.size, 2, none⟩ = some (.int .i64 (H : Int)) := by rw [hx4.cell (p := ⟨w3.heap.size, 2, none⟩) (by simp)]; unfold World.cell?; rw [heap_alloc_new]; rfl
                have hxa : Ext w w4 := hxw.trans hx34
                clear hx3 hx4
                go_wp2
                obtain ⟨p0, p1⟩ := (hel4.puts ([], []))
                refine bodyPost_ret_by (v := .tuple #[.agg #[.string ⟨#[]⟩, .string ⟨#[]⟩], .int .i64 0, .int .i64 10]) (by simp [results, Tryz.results31, go_sem, encS] at p0 p1 ⊢; simp [p0, p1]) rfl ⟨by rw [HR.out]; rfl, (by repeat (first | exact Ext.refl _ | assumption | refine Ext.alloc ?_ _ | refine Ext.drew ?_ | refine Ext.drewN ?_ _ | refine Ext.setCell ?_ (Nat.le_refl _) _ | refine Ext.trans ?_ (by assumption)))⟩
              · obtain ⟨vd, hsl, hsd⟩ := slice_bytes HST.out AI.size Q (by omega) (by rw [List.length_map]; have := HTL.out.1; omega)
                have hQA : Q - AI.size = H := by omega
                rw [hQA, ← List.map_drop, ← List.map_take] at hsd
                obtain ⟨D, hD⟩ : ∃ D : ByteArray, D.data.toList = (tx.drop AI.size).take H := ⟨⟨((tx.drop AI.size).take H).toArray⟩, rfl⟩
                have HD : Hid (encS ((tx.drop AI.size).take H) = .string D) := Lib.hid (by rw [← hD, encS_of])
                have hDs : D.size ≤ 4096 := by rw [← len_data, hD, List.length_take]; omega
                have HCV : Hid (∀ w', Ext wr w' → (convert 36 9 vd).run Tryz.prog w' = .ok (.string D) w') := Lib.hid (fun w' hx => by
                  have := run_convert_sl (hsd.1.ext hx)
                  rw [this, ← hD, mk_toList])
                have HV1 := Lib.hid (fun w' hx => HDV.out w' hx AI D (by unfold maxLen; omega) (by unfold maxLen; omega))
                rw [HAE.out, hD] at HV1
                obtain ⟨_, S2, S3, _⟩ := HS6.out
                have hjQ : Q ≤ j := by omega
                have HS2 := Lib.hid (S2 hf (by omega))
                have HS3 := Lib.hid (S3 hf (by omega))
                have HQ2 := Lib.hid hQ
                generalize (tx.drop AI.size).take H = d at *
                clear HS6 hf hQ S2 S3 hsd hQA hD hlt
                by_cases hver : Gs.ver ai d = 0
                · have HR : Hid (res = ((ai, d), Q, 0)) := Lib.hid (by rw [HS3.out hver, HQ2.out])
                  rw [hver] at HV1
                  clear hver HS2 HS3
                  go_wp2_with fail
                  refine HP1.out.mono ?_
                  rintro e w3 ⟨rfl, hx3⟩
                  simp only [preV, ruleV, HAI.out]
                  go_wp2_with fail
                  refine (HX.out _).mono ?_
                  rintro e w4 ⟨rfl, hx4⟩
                  have hx34 : Ext wr w4 := (hx3.alloc _).trans hx4
                  have hel4 := HEL.out.ext hx34
                  obtain ⟨g0, g1⟩ := hel4.cells
                  have f0 := hel4.free 0
                  have f1 := hel4.free 1
                  have c2 : w4.cell? ⟨w3.heap.size, 2, none⟩ = some (.int .i64 (H : Int)) := by rw [hx4.cell (p := ⟨w3.heap.size, 2, none⟩) (by simp)]; unfold World.cell?; rw [heap_alloc_new]; rfl
                  have hxa : Ext w w4 := hxw.trans hx34
                  clear hx3 hx4
                  have hcv2 := HCV.out w4 hx34
                  go_wp2_with fail
                  refine (HV1.out _ ((hxa.setCell (Nat.le_refl _) _).setCell (Nat.le_refl _) _)).mono ?_
                  rintro e w5 ⟨rfl, hx5⟩
                  have hel5 := (hel4.put (ai, d)).ext (by simp only [HAI.out, HD.out]; exact hx5)
                  obtain ⟨i0, i1⟩ := hel5.cells
                  simp only [HAI.out, HD.out] at i0 i1
                  have f0 := hel5.free 0
                  have f1 := hel5.free 1
                  have hxb : Ext w w5 := ((hxa.setCell (Nat.le_refl _) _).setCell (Nat.le_refl _) _).trans hx5
                  have HQ := Lib.hid (hel5.puts (ai, d))
                  clear hx5 hel5 hel4 g0 g1
                  go_wp2
                  obtain ⟨p0, p1⟩ := HQ.out
                  refine bodyPost_ret_by (v := .tuple #[.agg #[.string AI, .string D], .int .i64 (Q : Int), .int .i64 0]) (by simp only [HAI.out, HD.out] at p0 p1; simp [results, Tryz.results31, go_sem, p0, p1]) rfl ⟨by rw [HR.out]; simp only [HAI.out, HD.out], (by repeat (first | exact Ext.refl _ | assumption | refine Ext.alloc ?_ _ | refine Ext.drew ?_ | refine Ext.drewN ?_ _ | refine Ext.setCell ?_ (Nat.le_refl _) _ | refine Ext.trans ?_ (by assumption)))⟩
                · have HR : Hid (res = (([], []), 0, Gs.ver ai d)) := Lib.hid (HS2.out hver)
                  obtain ⟨z1, hz1⟩ : ∃ z1, Gs.ver ai d = z1 := ⟨_, rfl⟩
                  rw [hz1] at HV1 HR hver
                  have hz2 : (z1 == 0) = false := by simpa using hver
                  clear hver HS2 HS3 hz1
                  go_wp2_with fail
                  refine HP1.out.mono ?_
                  rintro e w3 ⟨rfl, hx3⟩
                  simp only [preV, ruleV, HAI.out]
                  go_wp2_with fail
                  refine (HX.out _).mono ?_
                  rintro e w4 ⟨rfl, hx4⟩
                  have hx34 : Ext wr w4 := (hx3.alloc _).trans hx4
                  have hel4 := HEL.out.ext hx34
                  obtain ⟨g0, g1⟩ := hel4.cells
                  have f0 := hel4.free 0
                  have f1 := hel4.free 1
                  have c2 : w4.cell? ⟨w3.heap.size, 2, none⟩ = some (.int .i64 (H : Int)) := by rw [hx4.cell (p := ⟨w3.heap.size, 2, none⟩) (by simp)]; unfold World.cell?; rw [heap_alloc_new]; rfl
                  have hxa : Ext w w4 := hxw.trans hx34
                  clear hx3 hx4
                  have hcv2 := HCV.out w4 hx34
                  go_wp2_with fail
                  refine (HV1.out _ ((hxa.setCell (Nat.le_refl _) _).setCell (Nat.le_refl _) _)).mono ?_
                  rintro e w5 ⟨rfl, hx5⟩
                  have hel5 := (hel4.put (ai, d)).ext (by simp only [HAI.out, HD.out]; exact hx5)
                  obtain ⟨i0, i1⟩ := hel5.cells
                  simp only [HAI.out, HD.out] at i0 i1
                  have f0 := hel5.free 0
                  have f1 := hel5.free 1
                  have hxb : Ext w w5 := ((hxa.setCell (Nat.le_refl _) _).setCell (Nat.le_refl _) _).trans hx5
                  have HQ := Lib.hid (hel5.puts ([], []))
                  clear hx5 hel5 hel4 g0 g1
                  go_wp2
                  obtain ⟨p0, p1⟩ := HQ.out
                  refine bodyPost_ret_by (v := .tuple #[.agg #[.string ⟨#[]⟩, .string ⟨#[]⟩], .int .i64 0, .int .i64 z1]) (by unfold encS at p0 p1; simp [results, Tryz.results31, go_sem, p0, p1]) rfl ⟨by rw [HR.out]; rfl, (by repeat (first | exact Ext.refl _ | assumption | refine Ext.alloc ?_ _ | refine Ext.drew ?_ | refine Ext.drewN ?_ _ | refine Ext.setCell ?_ (Nat.le_refl _) _ | refine Ext.trans ?_ (by assumption)))⟩
    · rw [if_neg hmf] at HIX
      have hmN : m + 1 ≤ N := by omega
      clear hm0 hmf
      go_enter Tryz.func31, Tryz.ntmps31
      go_wp2_with fail
      refine (HIX.out _ ((Ext.refl w).alloc _)).mono ?_
      rintro e w1 ⟨rfl, rfl⟩
      go_wp2
      clear hmk
      go_loopw [26] (fun i wr => ∃ j : Nat, j ≤ m ∧ i = .int .i64 (j : Int) ∧ wr.rowIs (w.heap.size + 1) 5 m (fun k => if k < j then encB (Gs.byte ((Gs.run cs).getD k 0)) else .int .u8 0) ∧ Ext (w.alloc (.cells #[.string ⟨#[]⟩, .string ⟨#[]⟩] 35)) wr) (fun i _ => m - (intOf i).toNat)
      case atStart =>
        exact ⟨0, Nat.zero_le _, rfl, by simpa using (World.rowIs_made (w.alloc (.cells #[.string ⟨#[]⟩, .string ⟨#[]⟩] 35)) (.int .u8 0) m 5).congr (fun i _ => by simp), (by repeat (first | exact Ext.refl _ | assumption | refine Ext.alloc ?_ _ | refine Ext.drew ?_ | refine Ext.trans ?_ (by assumption)))⟩
      case round =>
        obtain ⟨j, hj, rfl, hrow, hxr⟩ := hrel
        by_cases hlt : j < m
        · have hcj := hrow.cell hlt
          have hfj := hrow.frozen j
          have hxw : Ext w wr := ((Ext.refl w).alloc _).trans hxr
          have hbj := HCC.out wr hxw j hlt
          obtain ⟨cj0, cj1⟩ := HOK.out ((Gs.run cs).getD j 0) (by
            have hj' : j < (Gs.run cs).length := by rw [HM.out]; exact hlt
            rw [List.getD_eq_getElem?_getD, List.getElem?_eq_getElem hj']; exact List.getElem_mem _)
          have HBN := Lib.hid (byte_nat cj0 cj1)
          obtain ⟨cj, hcjj⟩ : ∃ cj, (Gs.run cs).getD j 0 = cj := ⟨_, rfl⟩
          have HR1 := Lib.hid ((hrow.set j (.int .u8 cj)).congr (g := fun k => if k < j + 1 then encB (Gs.byte ((Gs.run cs).getD k 0)) else .int .u8 0) (fun k hk => by
            by_cases h1 : k = j
            · subst h1; rw [if_pos rfl, if_pos (show k < k + 1 by omega)]; unfold encB; rw [HBN.out, hcjj]
            · rw [if_neg h1]
              by_cases h2 : k < j
              · rw [if_pos h2, if_pos (show k < j + 1 by omega)]
              · rw [if_neg h2, if_neg (show ¬ k < j + 1 by omega)]))
          have HX1 := Lib.hid (hxr.setCell (p := ⟨w.heap.size + 1, j, none⟩) (by simp) (.int .u8 cj))
          rw [hcjj] at hbj cj0 cj1
          clear hrow hcjj HBN
          go_wp2
          go_roundw
          case rel => exact ⟨j + 1, by omega, by go_num, HR1.out, HX1.out⟩
          case measure => simp [intOf]; omega
        · obtain rfl : j = m := by omega
          have hxw : Ext w wr := ((Ext.refl w).alloc _).trans hxr
          have hst : SlK wr (.slice (some ⟨w.heap.size + 1, 0, none⟩) j j) ((Gs.text (Gs.run cs)).map encB) := by
            refine ⟨(Sl.row hrow).congr ?_, _, _, by rw [List.length_map, text_len, HM.out], by rw [List.length_map, text_len, HM.out]; exact Nat.le_refl _⟩
            apply List.ext_getElem?
            intro i
            by_cases hi : i < j
            · have hi' : i < (Gs.run cs).length := by rw [HM.out]; exact hi
              simp [Gs.text, hi, hi', List.getD_eq_getElem?_getD]
            · have hi' : (Gs.run cs).length ≤ i := by rw [HM.out]; omega
              simp [Gs.text, hi, hi']
          have hcv := run_convert_sl hst.1
          have HEL := Lib.hid (HE0.out.ext hxr)
          have HST := Lib.hid hst
          have htl : (Gs.text (Gs.run cs)).length = j := by rw [text_len, HM.out]
          generalize Gs.text (Gs.run cs) = tx at *
          obtain ⟨TX, hTX⟩ : ∃ TX : ByteArray, TX = ⟨tx.toArray⟩ := ⟨_, rfl⟩
          have HTX : Hid (TX.data.toList = tx) := Lib.hid (by rw [hTX])
          rw [← hTX] at hcv
          have hTs : TX.size = j := by rw [← len_data, HTX.out, htl]
          have HP1 := Lib.hid (HPX.out wr hxw TX (by omega))
          rw [HTX.out] at HP1
          have HTL := Lib.hid (And.intro htl hTs)
          clear hTX hst hj hlt htl hTs hrow HPX HIX HSL HCC HOK
          cases hp : Gs.pre tx with
          | none =>
            rw [hp] at HP1
            have HR : Hid (res = (([], []), 0, 29)) := Lib.hid (by rw [HNX.out, hp])
            clear hp HNX HNS
            go_wp2_with fail
            refine HP1.out.mono ?_
            rintro e w3 ⟨rfl, hx3⟩
            dsimp only [preV, ruleV]
            have hel := HEL.out.ext hx3
            obtain ⟨g0, g1⟩ := hel.cells
            have f0 := hel.free 0
            have f1 := hel.free 1
            have HQ := Lib.hid ((hel.put ([], [])).ext ((Ext.refl _).alloc (.cells #[.int .i64 0, .int .i64 0, .int .i64 0, .int .u8 0] 38))).cells
            have hxa := hxw.trans hx3
            have hsz : w.heap.size < w3.heap.size := by have := hxr.size; have := hx3.size; simp at *; omega
            clear hel hx3
            go_wp2
            obtain ⟨p0, p1⟩ := HQ.out
            refine bodyPost_ret_by (v := .tuple #[.agg #[.string ⟨#[]⟩, .string ⟨#[]⟩], .int .i64 0, .int .i64 29]) (by unfold encS at p0 p1; simp [results, Tryz.results31, go_sem, p0, p1]) rfl ⟨by rw [HR.out]; rfl, (by repeat (first | exact Ext.refl _ | assumption | refine Ext.alloc ?_ _ | refine Ext.drew ?_ | refine Ext.drewN ?_ _ | refine Ext.setCell ?_ (Nat.le_refl _) _ | refine Ext.trans ?_ (by assumption)))⟩
          | some q =>
            obtain ⟨ai, r⟩ := q
            rw [hp] at HP1
            obtain ⟨al, rok, al4⟩ := pre_len hp
            have HS6 := Lib.hid (HNS.out ai r hp)
            obtain ⟨ra, rb, rc, rd⟩ := r
            obtain ⟨k0, k3, l1, lh, h9, _⟩ := rok
            dsimp only at k0 k3 l1 lh h9 HS6
            obtain ⟨H, rfl⟩ : ∃ H : Nat, rc = (H : Int) := ⟨rc.toNat, by omega⟩
            rw [Int.toNat_natCast] at HS6
            obtain ⟨AI, hAI⟩ : ∃ AI : ByteArray, AI.data.toList = ai := ⟨⟨ai.toArray⟩, rfl⟩
            have HAI : Hid (encS ai = .string AI) := Lib.hid (by rw [← hAI, encS_of])
            have hAL : ai.length = AI.size := by rw [← hAI, len_data]
            rw [hAL] at al al4 HS6
            have HAE := Lib.hid hAI
            have hAj : AI.size ≤ j := by have := HTL.out.1; omega
            have HX := Lib.hid (fun w => fixed_any (ra, rb, (H : Int), rd) w)
            rw [HM.out] at HS6
            clear hAI hAL al hp HNX HNS k0 k3
            cases hf : Gs.isFix (ra, rb, (H : Int), rd)
            · have e0 : ((ra, rb, (H : Int), rd).2.1 == (ra, rb, (H : Int), rd).2.2.1) = false := hf
              rw [e0] at HX
              clear e0
              obtain ⟨vd, hsl, hsd⟩ := slice_bytes HST.out AI.size j hAj (by rw [List.length_map]; have := HTL.out.1; omega)
              rw [← List.map_drop, ← List.map_take, List.take_of_length_le (by rw [List.length_drop]; have := HTL.out.1; omega)] at hsd
              obtain ⟨D, hD⟩ : ∃ D : ByteArray, D.data.toList = tx.drop AI.size := ⟨⟨(tx.drop AI.size).toArray⟩, rfl⟩
              have HD : Hid (encS (tx.drop AI.size) = .string D) := Lib.hid (by rw [← hD, encS_of])
              have hDs : D.size ≤ 4096 := by rw [← len_data, hD, List.length_drop]; have := HTL.out.1; omega
              have HCV : Hid (∀ w', Ext wr w' → (convert 36 9 vd).run Tryz.prog w' = .ok (.string D) w') := Lib.hid (fun w' hx => by
                have := run_convert_sl (hsd.1.ext hx)
                rw [this, ← hD, mk_toList])
              have HV1 := Lib.hid (fun w' hx => HDV.out w' hx AI D (by unfold maxLen; omega) (by unfold maxLen; omega))
              rw [HAE.out, hD] at HV1
              obtain ⟨_, _, _, S4, S5, S6⟩ := HS6.out
              have HS4 := Lib.hid (S4 hf)
              have HS5 := Lib.hid (S5 hf)
              have HS6' := Lib.hid (S6 hf)
              generalize tx.drop AI.size = d at *
              clear HS6 hf S4 S5 S6 hsd hD
              by_cases hver : Gs.ver ai d = 0
              · rw [hver] at HV1
                have HS5 := Lib.hid (HS5.out hver)
                have HS6 := Lib.hid (HS6'.out hver)
                clear hver HS4 HS6'
                by_cases hlast : j + 1 = N
                · have HR : Hid (res = (([], []), 0, 9)) := Lib.hid (HS5.out (by rw [HN.out]; exact hlast))
                  have hji : (j : Int) + 1 = (N : Int) := by omega
                  clear HS5 HS6 hlast hmN
                  go_wp2_with fail
                  refine HP1.out.mono ?_
                  rintro e w3 ⟨rfl, hx3⟩
                  simp only [preV, ruleV, HAI.out]
                  go_wp2_with fail
                  refine (HX.out _).mono ?_
                  rintro e w4 ⟨rfl, hx4⟩
                  have hx34 : Ext wr w4 := (hx3.alloc _).trans hx4
                  have hel4 := HEL.out.ext hx34
                  obtain ⟨g0, g1⟩ := hel4.cells
                  have f0 := hel4.free 0
                  have f1 := hel4.free 1
                  have c2 : w4.cell? ⟨w3.heap.size, 2, none⟩ = some (.int .i64 (H : Int)) := by rw [hx4.cell (p := ⟨w3.heap.size, 2, none⟩) (by simp)]; unfold World.cell?; rw [heap_alloc_new]; rfl
                  have hxa : Ext w w4 := hxw.trans hx34
                  clear hx3 hx4
                  have hcv2 := HCV.out w4 hx34
                  go_wp2_with fail
                  refine (HV1.out _ ((hxa.setCell (Nat.le_refl _) _).setCell (Nat.le_refl _) _)).mono ?_
                  rintro e w5 ⟨rfl, hx5⟩
                  have hel5 := (hel4.put (ai, d)).ext (by simp only [HAI.out, HD.out]; exact hx5)
                  obtain ⟨i0, i1⟩ := hel5.cells
                  simp only [HAI.out, HD.out] at i0 i1
                  have f0 := hel5.free 0
                  have f1 := hel5.free 1
                  have hxb : Ext w w5 := ((hxa.setCell (Nat.le_refl _) _).setCell (Nat.le_refl _) _).trans hx5
                  have HQ := Lib.hid (hel5.puts ([], []))
                  clear hx5 hel5 hel4 g0 g1
                  go_wp2
                  obtain ⟨p0, p1⟩ := HQ.out
                  refine bodyPost_ret_by (v := .tuple #[.agg #[.string ⟨#[]⟩, .string ⟨#[]⟩], .int .i64 0, .int .i64 9]) (by unfold encS at p0 p1; simp [results, Tryz.results31, go_sem, p0, p1]) rfl ⟨by rw [HR.out]; rfl, (by repeat (first | exact Ext.refl _ | assumption | refine Ext.alloc ?_ _ | refine Ext.drew ?_ | refine Ext.drewN ?_ _ | refine Ext.setCell ?_ (Nat.le_refl _) _ | refine Ext.trans ?_ (by assumption)))⟩
                · have HR : Hid (res = ((ai, d), j + 1, 0)) := Lib.hid (by rw [HS6.out (by rw [HN.out]; exact hlast), HN.out, Nat.min_eq_left (by omega)])
                  obtain ⟨Q, hQ⟩ : ∃ Q, Q = j + 1 := ⟨_, rfl⟩
                  rw [← hQ] at HR
                  have hji : (j : Int) + 1 = (Q : Int) := by omega
                  have hQN : Q < N := by omega
                  have hQN2 : ((Q : Int) == (N : Int)) = false := by rw [beq_eq_false_iff_ne]; omega
                  have hjQ : j < Q := by omega
                  have hmin : min (Q : Int) (N : Int) = (Q : Int) := by omega
                  clear HS5 HS6 hlast hmN hQ
                  go_wp2_with fail
                  refine HP1.out.mono ?_
                  rintro e w3 ⟨rfl, hx3⟩
                  simp only [preV, ruleV, HAI.out]
                  go_wp2_with fail
                  refine (HX.out _).mono ?_
                  rintro e w4 ⟨rfl, hx4⟩
                  have hx34 : Ext wr w4 := (hx3.alloc _).trans hx4
                  have hel4 := HEL.out.ext hx34
                  obtain ⟨g0, g1⟩ := hel4.cells
                  have f0 := hel4.free 0
                  have f1 := hel4.free 1
                  have c2 : w4.cell? ⟨w3.heap.size, 2, none⟩ = some (.int .i64 (H : Int)) := by rw [hx4.cell (p := ⟨w3.heap.size, 2, none⟩) (by simp)]; unfold World.cell?; rw [heap_alloc_new]; rfl
                  have hxa : Ext w w4 := hxw.trans hx34
                  clear hx3 hx4
                  have hcv2 := HCV.out w4 hx34
                  go_wp2_with fail
                  refine (HV1.out _ ((hxa.setCell (Nat.le_refl _) _).setCell (Nat.le_refl _) _)).mono ?_
                  rintro e w5 ⟨rfl, hx5⟩
                  have hel5 := (hel4.put (ai, d)).ext (by simp only [HAI.out, HD.out]; exact hx5)
                  obtain ⟨i0, i1⟩ := hel5.cells
                  simp only [HAI.out, HD.out] at i0 i1
                  have f0 := hel5.free 0
                  have f1 := hel5.free 1
                  have hxb : Ext w w5 := ((hxa.setCell (Nat.le_refl _) _).setCell (Nat.le_refl _) _).trans hx5
                  have HQ := Lib.hid (hel5.puts (ai, d))
                  clear hx5 hel5 hel4 g0 g1
                  go_wp2
                  obtain ⟨p0, p1⟩ := HQ.out
                  refine bodyPost_ret_by (v := .tuple #[.agg #[.string AI, .string D], .int .i64 (Q : Int), .int .i64 0]) (by simp only [HAI.out, HD.out] at p0 p1; simp [results, Tryz.results31, go_sem, p0, p1]) rfl ⟨by rw [HR.out]; simp only [HAI.out, HD.out], (by repeat (first | exact Ext.refl _ | assumption | refine Ext.alloc ?_ _ | refine Ext.drew ?_ | refine Ext.drewN ?_ _ | refine Ext.setCell ?_ (Nat.le_refl _) _ | refine Ext.trans ?_ (by assumption)))⟩
              · have HR : Hid (res = (([], []), 0, Gs.ver ai d)) := Lib.hid (HS4.out hver)
                obtain ⟨z1, hz1⟩ : ∃ z1, Gs.ver ai d = z1 := ⟨_, rfl⟩
                rw [hz1] at HV1 HR hver
                have hz2 : (z1 == 0) = false := by simpa using hver
                clear hver HS4 HS5 HS6' hz1
                go_wp2_with fail
                refine HP1.out.mono ?_
                rintro e w3 ⟨rfl, hx3⟩
                simp only [preV, ruleV, HAI.out]
                go_wp2_with fail
                refine (HX.out _).mono ?_
                rintro e w4 ⟨rfl, hx4⟩
                have hx34 : Ext wr w4 := (hx3.alloc _).trans hx4
                have hel4 := HEL.out.ext hx34
                obtain ⟨g0, g1⟩ := hel4.cells
                have f0 := hel4.free 0
                have f1 := hel4.free 1
                have c2 : w4.cell? ⟨w3.heap.size, 2, none⟩ = some (.int .i64 (H : Int)) := by rw [hx4.cell (p := ⟨w3.heap.size, 2, none⟩) (by simp)]; unfold World.cell?; rw [heap_alloc_new]; rfl
                have hxa : Ext w w4 := hxw.trans hx34
                clear hx3 hx4
                have hcv2 := HCV.out w4 hx34
                go_wp2_with fail
                refine (HV1.out _ ((hxa.setCell (Nat.le_refl _) _).setCell (Nat.le_refl _) _)).mono ?_
                rintro e w5 ⟨rfl, hx5⟩
                have hel5 := (hel4.put (ai, d)).ext (by simp only [HAI.out, HD.out]; exact hx5)
                obtain ⟨i0, i1⟩ := hel5.cells
                simp only [HAI.out, HD.out] at i0 i1
                have f0 := hel5.free 0
                have f1 := hel5.free 1
                have hxb : Ext w w5 := ((hxa.setCell (Nat.le_refl _) _).setCell (Nat.le_refl _) _).trans hx5
                have HQ := Lib.hid (hel5.puts ([], []))
                clear hx5 hel5 hel4 g0 g1
                go_wp2
                obtain ⟨p0, p1⟩ := HQ.out
                refine bodyPost_ret_by (v := .tuple #[.agg #[.string ⟨#[]⟩, .string ⟨#[]⟩], .int .i64 0, .int .i64 z1]) (by unfold encS at p0 p1; simp [results, Tryz.results31, go_sem, p0, p1]) rfl ⟨by rw [HR.out]; rfl, (by repeat (first | exact Ext.refl _ | assumption | refine Ext.alloc ?_ _ | refine Ext.drew ?_ | refine Ext.drewN ?_ _ | refine Ext.setCell ?_ (Nat.le_refl _) _ | refine Ext.trans ?_ (by assumption)))⟩
            · have e0 : ((ra, rb, (H : Int), rd).2.1 == (ra, rb, (H : Int), rd).2.2.1) = true := hf
              rw [e0] at HX
              clear e0
              obtain ⟨Q, hQ⟩ : ∃ Q, Q = AI.size + H := ⟨_, rfl⟩
              have hQi : (AI.size : Int) + (H : Int) = (Q : Int) := by omega
              by_cases hlt : j < Q
              · have HR : Hid (res = (([], []), 0, 10)) := Lib.hid (HS6.out.1 hf (by omega))
                have HQ2 := Lib.hid hQ
                clear HS6 hf hQ
                go_wp2_with fail
                refine HP1.out.mono ?_
                rintro e w3 ⟨rfl, hx3⟩
                simp only [preV, ruleV, HAI.out]
                go_wp2_with fail
                refine (HX.out _).mono ?_
                rintro e w4 ⟨rfl, hx4⟩
                have hx34 : Ext wr w4 := (hx3.alloc _).trans hx4
                have hel4 := HEL.out.ext hx34
                obtain ⟨g0, g1⟩ := hel4.cells
                have f0 := hel4.free 0
                have f1 := hel4.free 1
                have c2 : w4.cell? ⟨w3.heap.size, 2, none⟩ = some (.int .i64 (H : Int)) := by rw [hx4.cell (p := ⟨w3.heap.size, 2, none⟩) (by simp)]; unfold World.cell?; rw [heap_alloc_new]; rfl
                have hxa : Ext w w4 := hxw.trans hx34
                clear hx3 hx4
                go_wp2
                obtain ⟨p0, p1⟩ := (hel4.puts ([], []))
                refine bodyPost_ret_by (v := .tuple #[.agg #[.string ⟨#[]⟩, .string ⟨#[]⟩], .int .i64 0, .int .i64 10]) (by simp [results, Tryz.results31, go_sem, encS] at p0 p1 ⊢; simp [p0, p1]) rfl ⟨by rw [HR.out]; rfl, (by repeat (first | exact Ext.refl _ | assumption | refine Ext.alloc ?_ _ | refine Ext.drew ?_ | refine Ext.drewN ?_ _ | refine Ext.setCell ?_ (Nat.le_refl _) _ | refine Ext.trans ?_ (by assumption)))⟩
              · obtain ⟨vd, hsl, hsd⟩ := slice_bytes HST.out AI.size Q (by omega) (by rw [List.length_map]; have := HTL.out.1; omega)
                have hQA : Q - AI.size = H := by omega
                rw [hQA, ← List.map_drop, ← List.map_take] at hsd
                obtain ⟨D, hD⟩ : ∃ D : ByteArray, D.data.toList = (tx.drop AI.size).take H := ⟨⟨((tx.drop AI.size).take H).toArray⟩, rfl⟩
                have HD : Hid (encS ((tx.drop AI.size).take H) = .string D) := Lib.hid (by rw [← hD, encS_of])
                have hDs : D.size ≤ 4096 := by rw [← len_data, hD, List.length_take]; omega
                have HCV : Hid (∀ w', Ext wr w' → (convert 36 9 vd).run Tryz.prog w' = .ok (.string D) w') := Lib.hid (fun w' hx => by
                  have := run_convert_sl (hsd.1.ext hx)
                  rw [this, ← hD, mk_toList])
                have HV1 := Lib.hid (fun w' hx => HDV.out w' hx AI D (by unfold maxLen; omega) (by unfold maxLen; omega))
                rw [HAE.out, hD] at HV1
                obtain ⟨_, S2, S3, _⟩ := HS6.out
                have hjQ : Q ≤ j := by omega
                have HS2 := Lib.hid (S2 hf (by omega))
                have HS3 := Lib.hid (S3 hf (by omega))
                have HQ2 := Lib.hid hQ
                generalize (tx.drop AI.size).take H = d at *
                clear HS6 hf hQ S2 S3 hsd hQA hD hlt
                by_cases hver : Gs.ver ai d = 0
                · have HR : Hid (res = ((ai, d), Q, 0)) := Lib.hid (by rw [HS3.out hver, HQ2.out])
                  rw [hver] at HV1
                  clear hver HS2 HS3
                  go_wp2_with fail
                  refine HP1.out.mono ?_
                  rintro e w3 ⟨rfl, hx3⟩
                  simp only [preV, ruleV, HAI.out]
                  go_wp2_with fail
                  refine (HX.out _).mono ?_
                  rintro e w4 ⟨rfl, hx4⟩
                  have hx34 : Ext wr w4 := (hx3.alloc _).trans hx4
                  have hel4 := HEL.out.ext hx34
                  obtain ⟨g0, g1⟩ := hel4.cells
                  have f0 := hel4.free 0
                  have f1 := hel4.free 1
                  have c2 : w4.cell? ⟨w3.heap.size, 2, none⟩ = some (.int .i64 (H : Int)) := by rw [hx4.cell (p := ⟨w3.heap.size, 2, none⟩) (by simp)]; unfold World.cell?; rw [heap_alloc_new]; rfl
                  have hxa : Ext w w4 := hxw.trans hx34
                  clear hx3 hx4
                  have hcv2 := HCV.out w4 hx34
                  go_wp2_with fail
                  refine (HV1.out _ ((hxa.setCell (Nat.le_refl _) _).setCell (Nat.le_refl _) _)).mono ?_
                  rintro e w5 ⟨rfl, hx5⟩
                  have hel5 := (hel4.put (ai, d)).ext (by simp only [HAI.out, HD.out]; exact hx5)
                  obtain ⟨i0, i1⟩ := hel5.cells
                  simp only [HAI.out, HD.out] at i0 i1
                  have f0 := hel5.free 0
                  have f1 := hel5.free 1
                  have hxb : Ext w w5 := ((hxa.setCell (Nat.le_refl _) _).setCell (Nat.le_refl _) _).trans hx5
                  have HQ := Lib.hid (hel5.puts (ai, d))
                  clear hx5 hel5 hel4 g0 g1
                  go_wp2
                  obtain ⟨p0, p1⟩ := HQ.out
                  refine bodyPost_ret_by (v := .tuple #[.agg #[.string AI, .string D], .int .i64 (Q : Int), .int .i64 0]) (by simp only [HAI.out, HD.out] at p0 p1; simp [results, Tryz.results31, go_sem, p0, p1]) rfl ⟨by rw [HR.out]; simp only [HAI.out, HD.out], (by repeat (first | exact Ext.refl _ | assumption | refine Ext.alloc ?_ _ | refine Ext.drew ?_ | refine Ext.drewN ?_ _ | refine Ext.setCell ?_ (Nat.le_refl _) _ | refine Ext.trans ?_ (by assumption)))⟩
                · have HR : Hid (res = (([], []), 0, Gs.ver ai d)) := Lib.hid (HS2.out hver)
                  obtain ⟨z1, hz1⟩ : ∃ z1, Gs.ver ai d = z1 := ⟨_, rfl⟩
                  rw [hz1] at HV1 HR hver
                  have hz2 : (z1 == 0) = false := by simpa using hver
                  clear hver HS2 HS3 hz1
                  go_wp2_with fail
                  refine HP1.out.mono ?_
                  rintro e w3 ⟨rfl, hx3⟩
                  simp only [preV, ruleV, HAI.out]
                  go_wp2_with fail
                  refine (HX.out _).mono ?_
                  rintro e w4 ⟨rfl, hx4⟩
                  have hx34 : Ext wr w4 := (hx3.alloc _).trans hx4
                  have hel4 := HEL.out.ext hx34
                  obtain ⟨g0, g1⟩ := hel4.cells
                  have f0 := hel4.free 0
                  have f1 := hel4.free 1
                  have c2 : w4.cell? ⟨w3.heap.size, 2, none⟩ = some (.int .i64 (H : Int)) := by rw [hx4.cell (p := ⟨w3.heap.size, 2, none⟩) (by simp)]; unfold World.cell?; rw [heap_alloc_new]; rfl
                  have hxa : Ext w w4 := hxw.trans hx34
                  clear hx3 hx4
                  have hcv2 := HCV.out w4 hx34
                  go_wp2_with fail
                  refine (HV1.out _ ((hxa.setCell (Nat.le_refl _) _).setCell (Nat.le_refl _) _)).mono ?_
                  rintro e w5 ⟨rfl, hx5⟩
                  have hel5 := (hel4.put (ai, d)).ext (by simp only [HAI.out, HD.out]; exact hx5)
                  obtain ⟨i0, i1⟩ := hel5.cells
                  simp only [HAI.out, HD.out] at i0 i1
                  have f0 := hel5.free 0
                  have f1 := hel5.free 1
                  have hxb : Ext w w5 := ((hxa.setCell (Nat.le_refl _) _).setCell (Nat.le_refl _) _).trans hx5
                  have HQ := Lib.hid (hel5.puts ([], []))
                  clear hx5 hel5 hel4 g0 g1
                  go_wp2
                  obtain ⟨p0, p1⟩ := HQ.out
                  refine bodyPost_ret_by (v := .tuple #[.agg #[.string ⟨#[]⟩, .string ⟨#[]⟩], .int .i64 0, .int .i64 z1]) (by unfold encS at p0 p1; simp [results, Tryz.results31, go_sem, p0, p1]) rfl ⟨by rw [HR.out]; rfl, (by repeat (first | exact Ext.refl _ | assumption | refine Ext.alloc ?_ _ | refine Ext.drew ?_ | refine Ext.drewN ?_ _ | refine Ext.setCell ?_ (Nat.le_refl _) _ | refine Ext.trans ?_ (by assumption)))⟩
end Go.Proofs.YteojfkffmbcedaaGreatDoor
