/-
  Chapter 14: FromChars, walked.
  Condition: the table of white space reads as it is laid.
-/
import Derived.Test.YteojfkffmbcedaaGreatDoorGsWD
namespace Go.Proofs.YteojfkffmbcedaaGreatDoor
set_option linter.unusedVariables false
open Go.RowKit Go.WideMaps Go.Maps

theorem next_pos {c : List Int} {x : Gs.El} {k : Nat} (hc : c.all Gs.okCh = true) (h : Gs.next c = (x, k, 0)) : 0 < k ∧ k ≤ c.length := ⟨(next_inv hc h).2.1, (next_inv hc h).2.2.1⟩
theorem okCh_dec (c : Int) : Gs.okCh c = true ↔ (c = 256 ∨ (0 ≤ c ∧ c ≤ 127)) := by unfold Gs.okCh; simp

set_option maxRecDepth 100000 in
set_option maxHeartbeats 8000000 in
theorem from_any (v : Value) (cs : List Int) (w : World) (hv : SlK w v (cs.map encI)) (hn : cs.length ≤ 9223372036854775807) (ht : Spaces w) :
    Calls Tryz.prog 17 #[v] w (ElsR (Gs.frChars cs) w) := by
  have HV := Lib.hid hv
  obtain ⟨hsl, av, cv, rfl, hcv⟩ := hv
  rw [List.length_map] at hcv hsl HV ⊢
  have HI := Lib.hid (identifiers_any w ht)
  have HR := Lib.hid (Gs.frChars.eq_1 cs)
  generalize Gs.frChars cs = res at *
  obtain ⟨N, hN⟩ : ∃ N, cs.length = N := ⟨_, rfl⟩
  have HN := Lib.hid hN
  have HSL := Lib.hid hsl
  rw [hN] at hn hcv HR HV HSL ⊢
  clear ht hsl hN
  by_cases h1 : 4096 < N
  · rw [if_pos h1] at HR
    go_enter Tryz.func17, Tryz.ntmps17
    go_wp2
    go_ret2
    rw [HR.out]
    exact ElsR.err _ (Ext.refl _)
  rw [if_neg h1] at HR
  have hn1 : N ≤ 4096 := by omega
  clear h1 hn
  obtain ⟨res1, res2⟩ := res
  go_enter Tryz.func17, Tryz.ntmps17
  go_wp2
  go_loop [17] (fun t => ∃ k : Nat, k ≤ N ∧ t = .int .i64 (k : Int) ∧ Hid ((cs.take k).all Gs.okCh = true)) (fun t => N - (intOf t).toNat)
  case atStart => exact ⟨0, Nat.zero_le _, rfl, Lib.hid rfl⟩
  case round =>
    obtain ⟨k, hk, rfl, hall⟩ := hrel
    by_cases hlt : k < N
    · obtain ⟨c, hck⟩ : ∃ c, cs[k]? = some c := ⟨_, List.getElem?_eq_getElem (by rw [HN.out]; exact hlt)⟩
      obtain ⟨bb, off, ha, hb, hcell⟩ := HSL.out.at_ (k := k) (by rw [List.length_map, HN.out]; exact hlt)
      subst ha
      have e1 : (cs.map encI)[k]'(by rw [List.length_map, HN.out]; exact hlt) = .int .i64 c := by
        rw [List.getElem_map]
        obtain ⟨h2, h3⟩ := List.getElem?_eq_some_iff.1 hck
        rw [h3]; rfl
      rw [e1] at hcell
      have HTK : Hid (cs.take (k + 1) = cs.take k ++ [c]) := Lib.hid (take_snocL hck)
      by_cases hc : Gs.okCh c = true
      · have HO : Hid ((cs.take (k + 1)).all Gs.okCh = true) := Lib.hid (by rw [HTK.out, List.all_append, hall.out]; simp [hc])
        rw [okCh_dec] at hc
        clear hck e1 hall HTK
        by_cases h256 : c = 256
        · subst h256
          clear hc
          go_wp2
          go_round
          case rel => exact ⟨k + 1, by omega, by go_num, HO⟩
          case measure => simp [intOf]; omega
        · have hc0 : 0 ≤ c := by omega
          have hc1 : c ≤ 127 := by omega
          have hc2 : (c != 256) = true := by simpa using h256
          clear hc
          go_wp2
          go_round
          case rel => exact ⟨k + 1, by omega, by go_num, HO⟩
          case measure => simp [intOf]; omega
      · have HF : Hid ((res1, res2) = ([], 6)) := Lib.hid (by
          rw [HR.out, if_pos]
          rw [List.all_eq_false]; exact ⟨c, List.mem_of_getElem? hck, hc⟩)
        rw [okCh_dec] at hc
        have h256 : (c != 256) = true := by simp; omega
        have hr := HF.out
        simp only [Prod.mk.injEq] at hr
        obtain ⟨rfl, rfl⟩ := hr
        clear hck e1 hall HTK HF HR
        by_cases hc0 : c < 0
        · clear hc
          go_wp2
          go_ret2
          exact ElsR.err _ (Ext.refl _)
        · have hc0' : 0 ≤ c := by omega
          have hc1 : 127 < c := by omega
          clear hc hc0
          go_wp2
          go_ret2
          exact ElsR.err _ (Ext.refl _)
    · obtain rfl : k = N := by omega
      have HA : Hid (cs.all Gs.okCh = true) := Lib.hid (by rw [← hall.out, List.take_of_length_le (by rw [HN.out]; exact Nat.le_refl _)])
      rw [if_neg (by rw [HA.out]; exact Bool.noConfusion)] at HR
      clear hk hlt hall
      by_cases h0 : k = 0
      · subst h0
        have hnil : cs = [] := List.eq_nil_of_length_eq_zero HN.out
        rw [hnil, if_pos (by simp)] at HR
        have hr := HR.out
        simp only [Prod.mk.injEq] at hr
        obtain ⟨rfl, rfl⟩ := hr
        go_wp2
        go_ret2
        exact ElsR.err _ (Ext.refl _)
      · obtain ⟨c, cr, hcs⟩ : ∃ c cr, cs = c :: cr := by
          cases cs with
          | nil => exact absurd HN.out.symm h0
          | cons c cr => exact ⟨c, cr, rfl⟩
        obtain ⟨bb, off, ha, hb, hcell⟩ := HSL.out.at_ (k := 0) (by rw [List.length_map, HN.out]; omega)
        subst ha
        have e1 : (cs.map encI)[0]'(by rw [List.length_map, HN.out]; omega) = .int .i64 c := by
          rw [List.getElem_map]; simp [hcs, encI]
        rw [e1, Nat.add_zero] at hcell
        have hk0 : ((k : Int) == 0) = false := by rw [beq_eq_false_iff_ne]; omega
        have hk1 : 0 < k := by omega
        have e2 : cs.headD 0 = c := by rw [hcs]; rfl
        have e3 : cs.drop 1 = cr := by rw [hcs]; rfl
        rw [e2, e3] at HR
        have HCR : Hid (cr.all Gs.okCh = true ∧ cr.length + 1 = k) := Lib.hid ⟨by have := HA.out; rw [hcs, List.all_cons, Bool.and_eq_true] at this; exact this.2, by have := HN.out; rw [hcs] at this; exact this⟩
        by_cases h256 : c = 256
        · subst h256
          rw [if_neg (by simp)] at HR
          have hv1 := slice_ints (by have := HV.out; rw [← HN.out] at this; exact this) 1 (by rw [List.length_map, HN.out]; omega)
          obtain ⟨v1, hs1, hsl1⟩ := hv1
          rw [← List.map_drop, e3] at hsl1
          clear e1 e2 e3 hcs HA
          have hsl1' := hsl1
          obtain ⟨_, a1, c1, rfl, _⟩ := hsl1'
          rw [List.length_map] at hs1 hsl1
          rw [HN.out] at hs1
          obtain ⟨M, hM⟩ : ∃ M, cr.length = M := ⟨_, rfl⟩
          rw [hM] at hs1 hsl1 HCR
          have HS1 : Hid (∀ w', (Instr.slice 23 (.slice (some ⟨bb, off, none⟩) k cv) (some (.int .i64 1)) none none).run Tryz.prog w' = .ok (.slice a1 M c1) w') := Lib.hid hs1
          have hs2 := HS1.out
          clear hs1
          by_cases hM0 : M = 0
          · have hkk : k = 1 := by have := HCR.out.2; omega
            rw [if_pos hkk] at HR
            have hr := HR.out
            simp only [Prod.mk.injEq] at hr
            obtain ⟨rfl, rfl⟩ := hr
            subst hM0
            clear hkk hcv hn1
            go_wp2
            go_ret2
            exact ElsR.err _ (Ext.refl _)
          · have hkk : ¬ k = 1 := by have := HCR.out.2; omega
            rw [if_neg hkk] at HR
            have hM1 : ((M : Int) == 0) = false := by rw [beq_eq_false_iff_ne]; omega
            have hM2 : M ≤ 4096 := by have := HCR.out.2; omega
            have HSL1 := Lib.hid hsl1
            have HMM := Lib.hid hM
            clear hkk hsl1 hM hcv
            go_wp2_with fail
            refine HI.out.mono ?_
            rintro e W ⟨b, rfl, hd, hbb, hxW⟩
            have HNX := Lib.hid (fun (w' : World) (hx : Ext W w') (v : Value) (l : List Int) (h1 : SlK w' v (l.map encI)) (h2 : l.length ≤ 4096) (h3 : l.all Gs.okCh = true) (h4 : l ≠ []) => next_any v l b w' (Dir.ext hd hx) h1 h2 h3 h4)
            have HSL2 := Lib.hid (HSL1.out.ext hxW)
            clear hd hs2 HI hbb hcell
            go_wp2
            go_loopw [6, 8] (fun r v wr => ∃ (l : List Int) (acc : List Gs.El) (n : Nat), SlK W r (l.map encI) ∧ l.length + acc.length ≤ 4096 ∧ EOwn wr W.heap.size v acc ∧ Hid (l.all Gs.okCh = true ∧ l.length ≤ n ∧ (res1, res2) = Gs.fromF n l acc) ∧ Ext W wr) (fun r _ _ => match r with | .slice _ n _ => n | _ => 0)
            case atStart => exact ⟨cr, [], k, HSL2.out, by have := HMM.out; simp; omega, EOwn.nil _ _, Lib.hid ⟨HCR.out.1, by have := HCR.out.2; have := HMM.out; omega, HR.out⟩, Ext.refl W⟩
            case round =>
              obtain ⟨l, acc, n, hsl, hsz, hown, hpf, hx⟩ := hrel
              have HK := Lib.hid hsl
              have HK2 := Lib.hid (hsl.ext hx)
              obtain ⟨_, ar, cc, rfl, hcap⟩ := hsl
              obtain ⟨ao, co, rfl⟩ := hown.sl.form
              rw [List.length_map] at hcap HK HK2 ⊢
              clear HR HSL1 HSL2 HMM
              by_cases h00 : l = []
              · subst h00
                have HF : Hid ((res1, res2) = (acc, 0)) := Lib.hid (by rw [hpf.out.2.2, fromF_nil])
                have hr := HF.out
                simp only [Prod.mk.injEq] at hr
                obtain ⟨rfl, rfl⟩ := hr
                clear hpf HF
                go_wp2
                go_ret2
                exact ⟨_, rfl, hown.sl, hxW.trans hx⟩
              · have hL0 : 0 < l.length := List.length_pos_iff.2 h00
                obtain ⟨p1, p2, p3⟩ := hpf.out
                have H1 := Lib.hid (HNX.out wr hx _ l HK2.out (by omega) p1 h00)
                obtain ⟨n', rfl⟩ : ∃ n', n = n' + 1 := ⟨n - 1, by omega⟩
                rw [Gs.fromF, if_neg h00] at p3
                have HP3 := Lib.hid p3
                have HP1 := Lib.hid p1
                have HPN := Lib.hid p2
                have HNP := Lib.hid (fun x k h => next_pos (c := l) (x := x) (k := k) p1 h)
                clear p1 p2 p3 hpf
                have HNE := Lib.hid (Eq.refl (Gs.next l))
                obtain ⟨nx, hnx⟩ : ∃ nx, Gs.next l = nx := ⟨_, rfl⟩
                rw [hnx] at H1 HP3 HNP
                clear HNE
                obtain ⟨⟨xa, xd⟩, q, z⟩ := nx
                dsimp only at HP3
                by_cases hz : z = 0
                · subst hz
                  rw [if_neg (by simp)] at HP3
                  obtain ⟨q0, q1⟩ := HNP.out _ _ rfl
                  obtain ⟨v2, hs2, hsl2⟩ := slice_ints HK.out q (by rw [List.length_map]; exact q1)
                  rw [← List.map_drop] at hsl2
                  have HSL2 := Lib.hid hsl2
                  obtain ⟨_, a2, c2, rfl, _⟩ := hsl2
                  rw [List.length_map] at hs2 HSL2
                  have HLD : Hid ((l.drop q).length = l.length - q) := Lib.hid (List.length_drop)
                  have HOK : Hid ((l.drop q).all Gs.okCh = true) := Lib.hid (List.all_eq_true.2 fun b hb => List.all_eq_true.1 HP1.out b (List.mem_of_mem_drop hb))
                  obtain ⟨l2, hl2⟩ : ∃ l2, l.drop q = l2 := ⟨_, rfl⟩
                  rw [hl2] at hs2 HSL2 HLD HOK HP3
                  have HQ := Lib.hid (And.intro q0 q1)
                  have hq2 : (0 : Int) ≤ (q : Int) := by omega
                  clear HNP hnx q0 q1 hl2 HNX
                  go_wp2_with fail
                  refine H1.out.mono ?_
                  rintro e w3 ⟨rfl, hx3⟩
                  simp only [encS]
                  have hownA := hown.ext hx3
                  have hx3W := hx.trans hx3
                  clear hx3 hown hx H1
                  go_wp2_with (at_builtin; go_loud (refine append_el rfl _ _ rfl W.heap.size _ _ rfl ((hownA.ext ((Ext.refl w3).alloc _)).ext ((Ext.refl _).alloc _)) _ (xa, xd) rfl ?_ ?_ (by omega) ?_ ?_))
                  · rfl
                  · rfl
                  · have := hx3W.size; simp; omega
                  intro v5 w5 hown5 hg5
                  have hx5 : Ext W w5 := ((hx3W.alloc _).alloc _).ofGrown hg5 hownA.low
                  clear hg5 hownA
                  go_wp2
                  go_roundw
                  case rel => exact ⟨l2, acc ++ [(xa, xd)], n', HSL2.out, by have := HLD.out; have := HQ.out; rw [List.length_append]; simp; omega, hown5, Lib.hid ⟨HOK.out, by have := HLD.out; have := HQ.out; have := HPN.out; omega, HP3.out⟩, hx5⟩
                  case measure => have h8 := HLD.out; have h9 := HQ.out; show l2.length < l.length; omega
                · rw [if_pos hz] at HP3
                  have hr := HP3.out
                  simp only [Prod.mk.injEq] at hr
                  obtain ⟨rfl, rfl⟩ := hr
                  have hz1 : (res2 == 0) = false := by simpa using hz
                  clear hz HP3 HNP hnx
                  go_wp2_with fail
                  refine H1.out.mono ?_
                  rintro e w3 ⟨rfl, hx3⟩
                  simp only [encS]
                  go_wp2
                  go_ret2
                  exact ElsR.err _ (hxW.trans ((hx.trans hx3).alloc _))
        · rw [if_pos h256] at HR
          have hr := HR.out
          simp only [Prod.mk.injEq] at hr
          obtain ⟨rfl, rfl⟩ := hr
          have h2 : (c != 256) = true := by simpa using h256
          clear e1 e2 e3 hcs HR HA
          go_wp2
          go_ret2
          exact ElsR.err _ (Ext.refl _)
end Go.Proofs.YteojfkffmbcedaaGreatDoor
