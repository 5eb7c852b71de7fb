/-
  Chapter 14: Parse, walked.
  Condition: the table of white space reads as it is laid.
-/
import Derived.Test.YteojfkffmbcedaaGreatDoorGsW8
namespace Go.Proofs.YteojfkffmbcedaaGreatDoor
set_option linter.unusedVariables false
open Go.RowKit Go.WideMaps Go.Maps

theorem list_nil_of {s : ByteArray} (h : s.size = 0) : s.data.toList = [] := List.eq_nil_of_length_eq_zero (by rw [len_data]; exact h)
theorem toList_no {s : ByteArray} (h : 0 < s.size) : ¬ s.toList = [] := by
  rw [Lib.toList_data]; intro e; have := congrArg List.length e; rw [len_data, List.length_nil] at this; omega
theorem isEmpty_no {s : ByteArray} (h : 0 < s.size) : s.toList.isEmpty = false := by
  rw [List.isEmpty_eq_false_iff]; exact toList_no h

set_option maxRecDepth 100000 in
set_option maxHeartbeats 4000000 in
theorem parse_any (s : ByteArray) (hs : s.size ≤ maxLen) (w : World) (ht : Spaces w) :
    Calls Tryz.prog 15 #[.string s] w (ElsR (Gs.parse s.data.toList) w) := by
  have hmx : s.size ≤ 9223372036854775807 := hs
  have HI := Lib.hid (identifiers_any w ht)
  have HP := Lib.hid (Gs.parse.eq_1 s.data.toList)
  rw [len_data] at HP
  generalize Gs.parse s.data.toList = res at *
  clear ht hs
  by_cases h1 : 4096 < s.size
  · rw [if_pos h1] at HP
    have h1' : (4096 : Int) < (s.size : Int) := by omega
    go_enter Tryz.func15, Tryz.ntmps15
    go_wp2_with fail
    go_ret2
    rw [HP.out]
    exact ElsR.err _ (Ext.refl _)
  rw [if_neg h1] at HP
  have hs1 : s.size ≤ 4096 := by omega
  have hs2 : (s.size : Int) ≤ 4096 := by omega
  clear h1 hmx
  by_cases h2 : s.size = 0
  · have hnil := list_nil_of h2
    rw [if_pos hnil] at HP
    have hs0 : s = ⟨#[]⟩ := bytes_ext hnil
    clear hnil h2
    subst hs0
    go_enter Tryz.func15, Tryz.ntmps15
    go_wp2_with fail
    go_ret2
    rw [HP.out]
    exact ElsR.err _ (Ext.refl _)
  have h2' : 0 < s.size := by omega
  have HT1 := toList_no h2'
  have HT2 := isEmpty_no h2'
  rw [if_neg (by rw [← Lib.toList_data]; exact HT1)] at HP
  clear h2
  obtain ⟨res1, res2⟩ := res
  go_enter Tryz.func15, Tryz.ntmps15
  go_wp2_with fail
  refine HI.out.mono ?_
  rintro e W ⟨b, rfl, hd, hb, hxW⟩
  have HV := Lib.hid (fun (w' : World) (hx : Ext W w') (ai d : ByteArray) (h1 : ai.size ≤ maxLen) (h2 : d.size ≤ maxLen) => verR_walk ai d b w' (Dir.ext hd hx) h1 h2)
  clear HI hd hb HT1 HT2
  go_wp2
  go_loopw [0, 5] (fun t v wr => ∃ (S : ByteArray) (acc : List Gs.El) (n : Nat), t = .string S ∧ S.size + acc.length ≤ 4096 ∧ EOwn wr W.heap.size v acc ∧ Hid (S.size ≤ n ∧ (res1, res2) = Gs.parseF n S.data.toList acc) ∧ Ext W wr) (fun t _ _ => match t with | .string S => S.size | _ => 0)
  case atStart => exact ⟨s, [], s.size, rfl, by simpa using hs1, EOwn.nil _ _, Lib.hid ⟨Nat.le_refl _, HP.out⟩, Ext.refl W⟩
  case round =>
    clear HP hs1 hs2 h2'
    obtain ⟨S, acc, n, rfl, hsz, hown, hpf, hx⟩ := hrel
    by_cases h0 : S.size = 0
    · have hnil := list_nil_of h0
      have HR : Hid ((res1, res2) = (acc, 0)) := Lib.hid (by rw [hpf.out.2, hnil, parseF_nil])
      have hs0 : S = ⟨#[]⟩ := bytes_ext hnil
      clear hnil h0 hpf
      subst hs0
      obtain ⟨ao, co, rfl⟩ := hown.sl.form
      go_wp2
      go_ret2
      have hr := HR.out
      simp only [Prod.mk.injEq] at hr
      obtain ⟨rfl, rfl⟩ := hr
      exact ⟨_, rfl, hown.sl, hxW.trans hx⟩
    · have h0' : 0 < S.size := by omega
      have T1 := toList_no h0'
      have T2 := isEmpty_no h0'
      obtain ⟨c, r, hcr⟩ : ∃ c r, S.data.toList = c :: r := by
        cases hS : S.data.toList with
        | nil => have := congrArg List.length hS; rw [len_data, List.length_nil] at this; omega
        | cons c r => exact ⟨c, r, rfl⟩
      have hrl : r.length + 1 = S.size := by rw [← len_data, hcr]; rfl
      have HST := Lib.hid (parse_step (n := n) (b := c) (r := r) (acc := acc) (by rw [List.length_cons]; have := hpf.out.1; omega))
      have HP1 : Hid ((res1, res2) = Gs.parseF n (c :: r) acc) := Lib.hid (by rw [← hcr]; exact hpf.out.2)
      have HN : Hid (r.length + 1 ≤ n) := Lib.hid (by have := hpf.out.1; omega)
      have HCP := Lib.hid (fun w => Tryz.strings_CutPrefix S ⟨#[40]⟩ w)
      rw [hcr] at HCP
      clear hpf h0
      obtain ⟨ao, co, rfl⟩ := hown.sl.form
      by_cases hc40 : c = 40
      · have e1 : Lib.hasPrefix (c :: r) (⟨#[40]⟩ : ByteArray).data.toList = true := by rw [hc40]; simp [Lib.hasPrefix]
        have e2 : Lib.trimPrefix (c :: r) (⟨#[40]⟩ : ByteArray).data.toList = r := by unfold Lib.trimPrefix; rw [e1]; rfl
        rw [e1, e2] at HCP
        obtain ⟨R, hR⟩ : ∃ R : ByteArray, R = ⟨r.toArray⟩ := ⟨_, rfl⟩
        have hRl : R.data.toList = r := by rw [hR]
        rw [← hR] at HCP
        have hRs : R.size = r.length := by rw [← len_data, hRl]
        have HCT := Lib.hid (fun w => cut_any R 41 (by omega) w)
        have HCB := Lib.hid (cutB.eq_1 R 41)
        rw [hRl, hRs] at HCB
        obtain ⟨ST2, ST3, ST4⟩ := HST.out.2
        have HT3 := Lib.hid (ST3 hc40)
        have HT4 := Lib.hid (ST4 hc40)
        have HT2 := Lib.hid (ST2 hc40)
        have hul := upto_len 41 r
        clear HST ST2 ST3 ST4 e1 e2 hR hcr hc40
        by_cases hf : (Gs.upto 41 r).length = r.length
        · have HR : Hid ((res1, res2) = ([], 9)) := Lib.hid (HP1.out.trans (HT2.out hf))
          rw [if_pos hf] at HCB
          rw [HCB.out] at HCT
          clear HT2 HT3 HT4 hf HCB HP1 hul hRs hRl hrl
          go_wp2_with fail
          refine (HCP.out _).mono ?_
          rintro e w1 ⟨rfl, rfl⟩
          go_wp2_with fail
          refine (HCT.out _).mono ?_
          rintro e w2 ⟨rfl, hx2⟩
          dsimp only
          go_wp2
          go_ret2
          have hr := HR.out
          simp only [Prod.mk.injEq] at hr
          obtain ⟨rfl, rfl⟩ := hr
          exact ElsR.err _ (hxW.trans (hx.trans hx2))
        · rw [if_neg hf] at HCB
          obtain ⟨m, hm⟩ : ∃ m, (Gs.upto 41 r).length = m := ⟨_, rfl⟩
          have hml : m < r.length := by omega
          rw [hm] at HCB
          rw [HCB.out] at HCT
          have HA : Hid ((R.extract 0 m).data.toList = Gs.upto 41 r) := Lib.hid (by
            rw [cut_front, hRl]
            rcases (upto_cut 41 r).2 with e | ⟨r2, e⟩
            · rw [e] at hf; exact absurd rfl hf
            · conv => lhs; rw [e]
              rw [← hm, List.take_left])
          have HY : Hid ((R.extract (m + 1) r.length).data.toList = r.drop ((Gs.upto 41 r).length + 1)) := Lib.hid (by rw [← hRs, cut_back, hRl, hm])
          have HAS : Hid ((R.extract 0 m).size = m) := Lib.hid (by rw [ByteArray.size_extract]; omega)
          have hYs : (R.extract (m + 1) r.length).size = r.length - (m + 1) := by rw [ByteArray.size_extract]; omega
          have HT3' := Lib.hid (HT3.out hf)
          have HT4' := Lib.hid (HT4.out hf)
          generalize r.drop ((Gs.upto 41 r).length + 1) = y at *
          generalize Gs.upto 41 r = a at *
          obtain ⟨A, hA⟩ : ∃ A, R.extract 0 m = A := ⟨_, rfl⟩
          obtain ⟨Y, hY⟩ : ∃ Y, R.extract (m + 1) r.length = Y := ⟨_, rfl⟩
          rw [hA] at HA HAS HCT
          rw [hY] at HY hYs HCT
          have hyl : y.length = Y.size := by rw [← HY.out, len_data]
          have HIX := Lib.hid (fun w => Tryz.strings_IndexByte Y 40 w)
          rw [show ((40 : Int).toNat.toUInt8 : UInt8) = 40 from rfl, HY.out, index_upto] at HIX
          have hu2 := upto_len 40 y
          obtain ⟨k, hk⟩ : ∃ k, (Gs.upto 40 y).length = k := ⟨_, rfl⟩
          rw [hk, hyl] at hu2 HIX
          have HD : Hid ((Y.extract 0 k).data.toList = Gs.upto 40 y) := Lib.hid (by
            rw [cut_front, HY.out]
            rcases (upto_cut 40 y).2 with e | ⟨r2, e⟩
            · rw [← hk, e, List.take_length]
            · conv => lhs; rw [e]
              rw [← hk, List.take_left])
          have HZ : Hid ((Y.extract k Y.size).data.toList = y.drop (Gs.upto 40 y).length) := Lib.hid (by rw [cut_back, HY.out, hk])
          have HDS : Hid ((Y.extract 0 k).size = k) := Lib.hid (by rw [ByteArray.size_extract]; omega)
          have HZS : Hid ((Y.extract k Y.size).size = Y.size - k) := Lib.hid (by rw [ByteArray.size_extract]; omega)
          generalize y.drop (Gs.upto 40 y).length = z at *
          generalize Gs.upto 40 y = d at *
          obtain ⟨D, hD⟩ : ∃ D, Y.extract 0 k = D := ⟨_, rfl⟩
          obtain ⟨Z, hZ⟩ : ∃ Z, Y.extract k Y.size = Z := ⟨_, rfl⟩
          have HV1 := Lib.hid (fun w' hx => HV.out w' hx A D (by rw [HAS.out]; unfold maxLen; omega) (by rw [← hD, HDS.out]; unfold maxLen; omega))
          rw [HA.out, ← hD, HD.out] at HV1
          rw [hD] at HV1 HD HDS
          rw [hZ] at HZ HZS
          have HKD := Lib.hid hD
          have HKZ := Lib.hid hZ
          have hkY : (k : Int) ≤ (Y.size : Int) := by omega
          have HSM : Hid (Z.size + acc.length + 1 ≤ 4096 ∧ Z.size ≤ n - 1 ∧ Z.size < S.size) := Lib.hid (by have := HZS.out; have := HN.out; omega)
          have hac : acc.length ≤ 4096 := by omega
          clear hA hY hD hZ hm hk hf HT2 HT3 HT4 HCB hul hRs hRl hrl hYs hyl
          by_cases hver : Gs.ver a d = 0
          · have HP2 : Hid ((res1, res2) = Gs.parseF (n - 1) Z.data.toList (acc ++ [(a, d)])) := Lib.hid (by rw [HZ.out]; exact HP1.out.trans (HT4'.out hver))
            rw [hver] at HV1
            clear HT3' HT4' hver HP1
            have hEA : encS a = .string A := by rw [← HA.out, encS_of]
            have hED : encS d = .string D := by rw [← HD.out, encS_of]
            have HEA := Lib.hid hEA
            have HED := Lib.hid hED
            clear hEA hED
            by_cases hkf : k = Y.size
            · rw [if_pos hkf] at HIX
              subst hkf
              have hDY : D = Y := by rw [← HKD.out]; exact bytes_ext (by rw [cut_front, take_all])
              subst hDY
              go_wp2_with fail
              refine (HCP.out _).mono ?_
              rintro e w1 ⟨rfl, rfl⟩
              go_wp2_with fail
              refine (HCT.out _).mono ?_
              rintro e w2 ⟨rfl, hx2⟩
              dsimp only
              go_wp2_with fail
              refine (HIX.out _).mono ?_
              rintro e w3 ⟨rfl, rfl⟩
              have hxk : Ext W w3 := hx.trans hx2
              have hown2 := hown.ext hx2
              go_wp2_with fail
              refine (HV1.out _ (hxk.alloc _)).mono ?_
              rintro e w4 ⟨rfl, hx4⟩
              have hxa : Ext W w4 := (hxk.alloc _).trans hx4
              have hb3 : w3.heap.size < w4.heap.size := by have := hx4.size; simp at this; omega
              have cA : w4.cell? ⟨w3.heap.size, 0, none⟩ = some (.string A) := by rw [hx4.cell (p := ⟨w3.heap.size, 0, none⟩) (by simp)]; unfold World.cell?; rw [heap_alloc_new]; rfl
              have cD : w4.cell? ⟨w3.heap.size, 1, none⟩ = some (.string D) := by rw [hx4.cell (p := ⟨w3.heap.size, 1, none⟩) (by simp)]; unfold World.cell?; rw [heap_alloc_new]; rfl
              have hown4 := (hown2.ext ((Ext.refl w3).alloc _)).ext hx4
              have hsz4 := hxa.size
              clear hx2 hx4 hown hown2 hx hxk
              go_wp2_with (at_builtin; go_loud (refine append_el rfl _ _ rfl W.heap.size _ _ rfl (hown4.ext ((Ext.refl w4).alloc _)) _ (a, d) rfl ?_ ?_ (by omega) ?_ ?_))
              · exact HEA.out.symm
              · exact HED.out.symm
              · simp; omega
              intro v5 w5 hown5 hg5
              have hx5 : Ext W w5 := (hxa.alloc _).ofGrown hg5 hown4.low
              clear cA cD hg5 hown4
              go_wp2
              try rw [HKZ.out]
              go_roundw
              case rel => exact ⟨Z, acc ++ [(a, d)], n - 1, by first | rfl | (rw [show Z = ByteArray.empty from bytes_ext (list_nil_of (by have := HZS.out; omega))]), by have := HSM.out; rw [List.length_append]; simp; omega, hown5, Lib.hid ⟨HSM.out.2.1, HP2.out⟩, hx5⟩
              case measure => have := HSM.out; first | omega | (rw [HKZ.out]; omega) | (simp; omega)
            · rw [if_neg hkf] at HIX
              have hk0 : (0 : Int) ≤ (k : Int) := by omega
              clear hkf
              go_wp2_with fail
              refine (HCP.out _).mono ?_
              rintro e w1 ⟨rfl, rfl⟩
              go_wp2_with fail
              refine (HCT.out _).mono ?_
              rintro e w2 ⟨rfl, hx2⟩
              dsimp only
              go_wp2_with fail
              refine (HIX.out _).mono ?_
              rintro e w3 ⟨rfl, rfl⟩
              have hxk : Ext W w3 := hx.trans hx2
              have hown2 := hown.ext hx2
              go_wp2_with fail
              rw [HKD.out]
              refine (HV1.out _ (hxk.alloc _)).mono ?_
              rintro e w4 ⟨rfl, hx4⟩
              have hxa : Ext W w4 := (hxk.alloc _).trans hx4
              have hb3 : w3.heap.size < w4.heap.size := by have := hx4.size; simp at this; omega
              have cA : w4.cell? ⟨w3.heap.size, 0, none⟩ = some (.string A) := by rw [hx4.cell (p := ⟨w3.heap.size, 0, none⟩) (by simp)]; unfold World.cell?; rw [heap_alloc_new]; rfl
              have cD : w4.cell? ⟨w3.heap.size, 1, none⟩ = some (.string D) := by rw [hx4.cell (p := ⟨w3.heap.size, 1, none⟩) (by simp)]; unfold World.cell?; rw [heap_alloc_new]; rfl
              have hown4 := (hown2.ext ((Ext.refl w3).alloc _)).ext hx4
              have hsz4 := hxa.size
              clear hx2 hx4 hown hown2 hx hxk
              go_wp2_with (at_builtin; go_loud (refine append_el rfl _ _ rfl W.heap.size _ _ rfl (hown4.ext ((Ext.refl w4).alloc _)) _ (a, d) rfl ?_ ?_ (by omega) ?_ ?_))
              · exact HEA.out.symm
              · exact HED.out.symm
              · simp; omega
              intro v5 w5 hown5 hg5
              have hx5 : Ext W w5 := (hxa.alloc _).ofGrown hg5 hown4.low
              clear cA cD hg5 hown4
              go_wp2
              try rw [HKZ.out]
              go_roundw
              case rel => exact ⟨Z, acc ++ [(a, d)], n - 1, by first | rfl | (rw [show Z = ByteArray.empty from bytes_ext (list_nil_of (by have := HZS.out; omega))]), by have := HSM.out; rw [List.length_append]; simp; omega, hown5, Lib.hid ⟨HSM.out.2.1, HP2.out⟩, hx5⟩
              case measure => have := HSM.out; first | omega | (rw [HKZ.out]; omega) | (simp; omega)
          · have HR : Hid ((res1, res2) = ([], Gs.ver a d)) := Lib.hid (HP1.out.trans (HT3'.out hver))
            obtain ⟨z1, hz1⟩ : ∃ z1, Gs.ver a d = z1 := ⟨_, rfl⟩
            rw [hz1] at HV1 HR hver
            have hz2 : (z1 == 0) = false := by simpa using hver
            clear HT3' HT4' hver HP1 hz1
            by_cases hkf : k = Y.size
            · rw [if_pos hkf] at HIX
              subst hkf
              have hDY : D = Y := by rw [← HKD.out]; exact bytes_ext (by rw [cut_front, take_all])
              subst hDY
              go_wp2_with fail
              refine (HCP.out _).mono ?_
              rintro e w1 ⟨rfl, rfl⟩
              go_wp2_with fail
              refine (HCT.out _).mono ?_
              rintro e w2 ⟨rfl, hx2⟩
              dsimp only
              go_wp2_with fail
              refine (HIX.out _).mono ?_
              rintro e w3 ⟨rfl, rfl⟩
              have hxk : Ext W w3 := hx.trans hx2
              have hown2 := hown.ext hx2
              go_wp2_with fail
              refine (HV1.out _ (hxk.alloc _)).mono ?_
              rintro e w4 ⟨rfl, hx4⟩
              go_wp2
              go_ret2
              have hr := HR.out
              simp only [Prod.mk.injEq] at hr
              obtain ⟨rfl, rfl⟩ := hr
              exact ElsR.err _ (hxW.trans ((hxk.alloc _).trans hx4))
            · rw [if_neg hkf] at HIX
              have hk0 : (0 : Int) ≤ (k : Int) := by omega
              clear hkf
              go_wp2_with fail
              refine (HCP.out _).mono ?_
              rintro e w1 ⟨rfl, rfl⟩
              go_wp2_with fail
              refine (HCT.out _).mono ?_
              rintro e w2 ⟨rfl, hx2⟩
              dsimp only
              go_wp2_with fail
              refine (HIX.out _).mono ?_
              rintro e w3 ⟨rfl, rfl⟩
              have hxk : Ext W w3 := hx.trans hx2
              have hown2 := hown.ext hx2
              go_wp2_with fail
              rw [HKD.out]
              refine (HV1.out _ (hxk.alloc _)).mono ?_
              rintro e w4 ⟨rfl, hx4⟩
              go_wp2
              go_ret2
              have hr := HR.out
              simp only [Prod.mk.injEq] at hr
              obtain ⟨rfl, rfl⟩ := hr
              exact ElsR.err _ (hxW.trans ((hxk.alloc _).trans hx4))
      · have HR : Hid ((res1, res2) = ([], 9)) := Lib.hid (HP1.out.trans (HST.out.1 hc40))
        have e1 : Lib.hasPrefix (c :: r) (⟨#[40]⟩ : ByteArray).data.toList = false := by
          unfold Lib.hasPrefix
          simp [List.isPrefixOf]
          intro e; exact hc40 e.symm
        have e2 : Lib.trimPrefix (c :: r) (⟨#[40]⟩ : ByteArray).data.toList = c :: r := by unfold Lib.trimPrefix; rw [e1]; rfl
        rw [e1, e2, ← hcr, mk_toList] at HCP
        have HCT := Lib.hid (fun w => cut_any S 41 (by omega) w)
        generalize cutB S 41 = cb at *
        obtain ⟨x1, x2, x3⟩ := cb
        clear HST HP1 HN e1 e2 hcr hc40 hrl
        go_wp2_with fail
        refine (HCP.out _).mono ?_
        rintro e w1 ⟨rfl, rfl⟩
        go_wp2_with fail
        refine (HCT.out _).mono ?_
        rintro e w2 ⟨rfl, hx2⟩
        dsimp only
        go_wp2
        go_ret2
        have hr := HR.out
        simp only [Prod.mk.injEq] at hr
        obtain ⟨rfl, rfl⟩ := hr
        exact ElsR.err _ (hxW.trans (hx.trans hx2))
end Go.Proofs.YteojfkffmbcedaaGreatDoor
