/-
  Chapter 11: trim and EanCanonical, walked.
  Condition: a row within the reach.
-/
import Derived.Test.YtfpliihglgjijaaGreatEaL2
import Derived.Test.YtfpliihglgjijaaGreatSlK
import Derived.Test.YtfpliihglgjijaaGreatSl
import Derived.Deep.Grids

/-
  Chapter 11: trim and EanCanonical, walked.
  Condition: a row within the reach.
-/
namespace Go.Proofs.YtfpliihglgjijaaGreat
set_option linter.unusedVariables false
open Go.RowKit

set_option maxRecDepth 100000 in
set_option maxHeartbeats 1000000 in
theorem decode_long (v : Value) (m : List Bool) (w : World) (hv : SlK w v (m.map encT)) (hm : m.length ≤ 9223372036854775807) (hl : 65536 < m.length) :
    Calls Tryz.prog 15 #[v] w fun e w' => e = .returned (gotV (Ea.dec m)) ∧ Ext w w' := by
  have HX : Hid (Ea.dec m = ((0, [], []), 4)) := Lib.hid (by unfold Ea.dec; rw [if_pos hl])
  obtain ⟨_, a, c, rfl, _⟩ := hv
  rw [List.length_map]
  rw [HX.out]
  go_enter Tryz.func15, Tryz.ntmps15
  go_wp2
  refine bodyPost_ret (results_lin Tryz.results15 rfl (heap_alloc_new _ _) rfl) rfl ?_
  exact ⟨rfl, (by repeat (first | exact Ext.refl _ | assumption | refine Ext.alloc ?_ _ | refine Ext.drew ?_ | refine Ext.drewN ?_ _ | refine Ext.setCell ?_ (Nat.le_refl _) _ | refine Ext.trans ?_ (by assumption)))⟩
theorem decode_all (v : Value) (m : List Bool) (w : World) (hv : SlK w v (m.map encT)) (hm : m.length ≤ 9223372036854775807) :
    Calls Tryz.prog 15 #[v] w fun e w' => e = .returned (gotV (Ea.dec m)) ∧ Ext w w' := by
  by_cases hl : 65536 < m.length
  · exact decode_long v m w hv hm hl
  · exact decode_any v m w hv (by omega)

theorem trl_at (m : List Bool) (j : Nat) (hj : j ≤ m.length) (h0 : 0 < j) (h1 : m[j - 1]? = some true) (h2 : ∀ t, j ≤ t → t < m.length → m[t]? = some false) : Ea.trl m = m.length - j := by
  have e : m = m.take (j - 1) ++ [true] ++ Ea.lgt (m.length - j) := by
    apply List.ext_getElem?
    intro t
    rcases Nat.lt_trichotomy t (j - 1) with h | h | h
    · rw [List.append_assoc, List.getElem?_append_left (by rw [List.length_take]; omega), List.getElem?_take, if_pos h]
    · subst h
      rw [h1, List.append_assoc, List.getElem?_append_right (by rw [List.length_take]; omega), List.length_take, Nat.min_eq_left (by omega), Nat.sub_self]; rfl
    · rw [List.getElem?_append_right (by simp; omega)]
      have hl : (m.take (j - 1) ++ [true]).length = j := by simp; omega
      rw [hl]
      by_cases ht : t < m.length
      · rw [h2 t (by omega) ht]
        unfold Ea.lgt
        rw [List.getElem?_replicate, if_pos (by omega)]
      · rw [List.getElem?_eq_none (by omega)]
        unfold Ea.lgt
        rw [List.getElem?_replicate, if_neg (by omega)]
  have := Ea.trl_lgt (m.length - j) (m.take (j - 1))
  rw [← e] at this
  exact this

set_option maxRecDepth 100000 in
set_option maxHeartbeats 1000000 in
theorem trim_any (v : Value) (m : List Bool) (w : World) (hv : SlK w v (m.map encT)) (hm : m.length ≤ 1000000) :
    Calls Tryz.prog 23 #[v] w fun e w' => ∃ v', e = .returned v' ∧ SlK w' v' ((Ea.trim m).map encT) ∧ w = w' := by
  have HS := Lib.hid hv
  obtain ⟨hsl, a, c, rfl, _⟩ := hv
  rw [List.length_map] at hsl HS ⊢
  have HV := Lib.hid hsl
  clear hsl
  go_enter Tryz.func23, Tryz.ntmps23
  go_wp2
  go_loop [3] (fun i => ∃ k : Nat, k ≤ m.length ∧ i = .int .i64 (k : Int) ∧ Hid (Ea.ldg (m.drop k) + k = Ea.ldg m)) (fun i => m.length - (intOf i).toNat)
  case atStart => exact ⟨0, Nat.zero_le _, rfl, Lib.hid rfl⟩
  case round =>
    obtain ⟨k, hk, rfl, hl⟩ := hrel
    by_cases hlt : k < m.length
    · obtain ⟨bb0, off0, ha0, hbl0, hc00⟩ := HV.out.at_ (k := k) (by rw [List.length_map]; exact hlt)
      subst ha0
      rw [List.getElem_map] at hc00
      unfold encT at hc00
      obtain ⟨b, hb⟩ : ∃ b, m[k] = b := ⟨_, rfl⟩
      rw [hb] at hc00
      have hl2 := hl.out
      rw [List.drop_eq_getElem_cons hlt, hb] at hl2
      have HL2 := Lib.hid hl2
      have HB := Lib.hid hb
      have hkd : decide ((k : Int) < (m.length : Int)) = true := decide_eq_true (by omega)
      clear hl2 hl hb
      cases b with
      | true =>
        have HL : Hid (Ea.ldg m = k) := Lib.hid (by have := HL2.out; simp only [Ea.ldg, if_true] at this; omega)
        clear HL2
        go_wp2
        go_loop [4] (fun i => ∃ j : Nat, k ≤ j ∧ j ≤ m.length ∧ i = .int .i64 (j : Int) ∧ Hid (∀ t, j ≤ t → t < m.length → m[t]? = some false)) (fun i => (intOf i).toNat)
        case atStart => exact ⟨m.length, hk, Nat.le_refl _, rfl, Lib.hid (fun t h1 h2 => by omega)⟩
        case round =>
          obtain ⟨j, hkj, hj, rfl, hr⟩ := hrel
          have hgt : k < j := by
            rcases Nat.lt_or_ge k j with h | h
            · exact h
            · have := hr.out k (by omega) hlt
              rw [List.getElem?_eq_getElem hlt, HB.out] at this
              cases this
          obtain ⟨q, hq⟩ : ∃ q, j - 1 = q := ⟨_, rfl⟩
          have hqi : (j : Int) - 1 = (q : Int) := by omega
          have hqm : q < m.length := by omega
          have HQ : Hid (q + 1 = j) := Lib.hid (by omega)
          obtain ⟨bb, off, ha, hbl, hc0⟩ := HV.out.at_ (k := q) (by rw [List.length_map]; exact hqm)
          simp only [Option.some.injEq, Addr.mk.injEq, and_true] at ha
          obtain ⟨rfl, rfl⟩ := ha
          rw [List.getElem_map] at hc0
          unfold encT at hc0
          obtain ⟨b, hb⟩ : ∃ b, m[q] = b := ⟨_, rfl⟩
          rw [hb] at hc0
          have HB2 := Lib.hid hb
          have hkd2 : decide ((k : Int) < (j : Int)) = true := decide_eq_true (by omega)
          clear hb hq
          cases b with
          | true =>
            have HT : Hid (Ea.trl m = m.length - j) := Lib.hid (trl_at m j hj (by omega) (by
              rw [show j - 1 = q by have := HQ.out; omega, List.getElem?_eq_getElem hqm, HB2.out]) hr.out)
            obtain ⟨v', hv1, hv2⟩ := slice_bools HS.out k j hkj (by rw [List.length_map]; exact hj)
            have HR : Hid (SlK w v' ((Ea.trim m).map encT)) := Lib.hid (by
              unfold Ea.trim
              rw [HL.out, HT.out, show m.length - (m.length - j) - k = j - k by omega, List.map_take, List.map_drop]
              exact hv2)
            clear hv2
            go_wp2
            go_ret
            exact ⟨v', rfl, HR.out, rfl⟩
          | false =>
            have HR2 : Hid (∀ t, q ≤ t → t < m.length → m[t]? = some false) := Lib.hid (fun t h1 h2 => by
              rcases Nat.lt_or_ge t j with h | h
              · have : t = q := by have := HQ.out; omega
                subst this
                rw [List.getElem?_eq_getElem hqm, HB2.out]
              · exact hr.out t h h2)
            have hkq : k ≤ q := by have := HQ.out; omega
            clear hr
            go_wp2
            go_round
            case rel => exact ⟨q, hkq, by omega, by first | rfl | (congr 1), HR2⟩
            case measure => have := HQ.out; simp [intOf]; omega
      | false =>
        have HL : Hid (Ea.ldg (m.drop (k + 1)) + (k + 1) = Ea.ldg m) := Lib.hid (by have := HL2.out; simp only [Ea.ldg, Bool.false_eq_true, if_false] at this; omega)
        clear HL2
        go_wp2
        go_round
        case rel => exact ⟨k + 1, by omega, by go_num, HL⟩
        case measure => simp [intOf]; omega
    · obtain rfl : k = m.length := by omega
      have HL : Hid (Ea.ldg m = m.length) := Lib.hid (by have := hl.out; rw [List.drop_length] at this; simp only [Ea.ldg] at this; omega)
      obtain ⟨v', hv1, hv2⟩ := slice_bools HS.out m.length m.length (Nat.le_refl _) (by rw [List.length_map]; exact Nat.le_refl _)
      have HR : Hid (SlK w v' ((Ea.trim m).map encT)) := Lib.hid (by
        have e : Ea.trim m = [] := by unfold Ea.trim; rw [HL.out, show m.length - Ea.trl m - m.length = 0 by omega]; rfl
        rw [Nat.sub_self] at hv2
        rw [e]
        exact hv2)
      have hkd : decide ((m.length : Int) < (m.length : Int)) = false := decide_eq_false (by omega)
      clear hv2 hk hlt hl
      go_wp2
      go_loop [4] (fun i => i = .int .i64 (m.length : Int)) (fun i => (intOf i).toNat)
      case atStart => rfl
      case round =>
        obtain rfl := hrel
        go_wp2
        go_ret
        exact ⟨v', rfl, HR.out, rfl⟩
end Go.Proofs.YtfpliihglgjijaaGreat

/-
  Chapter 11: EanCanonical, walked.
  Condition: a row within the reach.
-/
namespace Go.Proofs.YtfpliihglgjijaaGreat
open Go.RowKit

theorem dec_short {m : List Bool} (h : (Ea.dec m).2 = 0) : m.length ≤ 65536 := by
  refine Decidable.byContradiction fun h2 => ?_
  unfold Ea.dec at h
  rw [if_pos (by omega)] at h
  cases h
theorem trim_len (m : List Bool) : (Ea.trim m).length ≤ m.length := by
  unfold Ea.trim
  rw [List.length_take, List.length_drop]; omega

set_option maxRecDepth 100000 in
set_option maxHeartbeats 2000000 in
theorem law_canonical (v : Value) (m : List Bool) (w : World) (hv : SlK w v (m.map encT)) (hm : m.length ≤ 9223372036854775807) :
    Calls Tryz.prog 9 #[v] w fun e w' => e = .returned (.bool true) ∧ Ext w w' := by
  have HX := Lib.hid examples_any
  have HD := Lib.hid (decode_all v m w hv hm)
  have HV := Lib.hid hv
  obtain ⟨_, a, c, rfl, _⟩ := hv
  rw [List.length_map] at HD HV ⊢
  obtain ⟨⟨⟨k, t, al⟩, er⟩, hd⟩ : ∃ r, Ea.dec m = r := ⟨_, rfl⟩
  by_cases h0 : er = 0
  · subst h0
    have hz : (Ea.dec m).2 = 0 := by rw [hd]
    have hms := dec_short hz
    obtain ⟨c1, c2⟩ := Ea.canonical hz
    rw [hd] at c1 c2 HD
    dsimp only at c1 c2
    obtain ⟨T, hT⟩ : ∃ T, Ea.bS t = T := ⟨_, rfl⟩
    have hTl : T.data.toList = t := by rw [← hT, Ea.bS_list]
    obtain ⟨AL, hAL⟩ : ∃ AL, Ea.bS al = AL := ⟨_, rfl⟩
    have hALz : AL.size = al.length := by rw [← hAL, size_of_toList (Ea.bS_list _)]
    unfold gotV linV at HD
    dsimp only at HD
    rw [hT, hAL] at HD
    by_cases hal : al = []
    · obtain ⟨p1, p2⟩ := c2 hal
      have hb : AL.toList.isEmpty = true := by rw [Lib.toList_data, ← hAL, Ea.bS_list, hal]; rfl
      have hf : Ea.full k t = 0 := by
        refine Decidable.byContradiction fun h => ?_
        unfold Ea.enc at p1
        rw [if_pos h] at p1
        exact h p1
      obtain ⟨_, _, h3, _⟩ := Ea.full_ok hf
      have h13 : Ea.size k ≤ 13 := by unfold Ea.size; (repeat' split) <;> omega
      have hTz : T.size ≤ 13 := by rw [← len_data, hTl]; omega
      have HE := Lib.hid (fun w => eEncode_any k T ⟨#[]⟩ (by omega) (by decide) w)
      rw [hTl, show (⟨#[]⟩ : ByteArray).data.toList = [] from rfl] at HE
      have hel := enc_len k t []
      obtain ⟨⟨s, es⟩, hs⟩ : ∃ r, Ea.enc k t [] = r := ⟨_, rfl⟩
      rw [hs] at HE p1 p2 hel
      dsimp only at p1 p2 hel
      subst p1
      have HT1 := Lib.hid (fun w' (x : Ext w w') => trim_any _ m w' (HV.out.ext x) (by omega))
      have HT2 := Lib.hid (fun u w' (x : SlK w' u (s.map encT)) => trim_any u s w' x hel)
      have hql := trim_len m
      have hq6 : (Ea.trim m).length ≤ 1000000 := by omega
      have HQ := Lib.hid (fun u1 u2 w' (x : SlK w' u1 ((Ea.trim m).map encT)) (y : SlK w' u2 ((Ea.trim m).map encT)) => equal_same u1 u2 (Ea.trim m) w' x y hq6)
      have HP2 := Lib.hid p2
      clear hd hz c1 c2 hT hTl hAL hALz hal hf h3 h13 hs p2 hql hq6 hel
      go_enter Tryz.func9, Tryz.ntmps9
      go_wp2_with fail
      refine HD.out.mono ?_
      rintro e w1 ⟨rfl, hx1⟩
      go_wp2_with fail
      refine (HE.out _).mono ?_
      rintro e w2 ⟨v2, rfl, hv2, hx2⟩
      dsimp only at hv2 ⊢
      have hxw := hx1.trans (((Ext.refl w1).alloc _).trans hx2)
      go_wp2_with fail
      refine (HT1.out _ hxw).mono ?_
      rintro e w3 ⟨v3, rfl, hv3, rfl⟩
      go_wp2_with fail
      refine (HT2.out _ _ hv2).mono ?_
      rintro e w4 ⟨v4, rfl, hv4, rfl⟩
      rw [HP2.out] at hv4
      go_wp2_with fail
      refine (HQ.out _ _ _ hv3 hv4).mono ?_
      rintro e w5 ⟨rfl, hx5⟩
      go_wp2_with fail
      refine (HX.out _).mono ?_
      rintro e w6 ⟨rfl, hx6⟩
      go_wp2
      go_ret
      exact ⟨rfl, hxw.trans (hx5.trans hx6)⟩
    · have hl : al.length ≠ 0 := fun h => hal (List.eq_nil_of_length_eq_zero h)
      have hb : AL.toList.isEmpty = false := by rw [Lib.toList_data, ← hAL, Ea.bS_list, List.isEmpty_eq_false_iff]; exact hal
      have h25 : ((AL.size : Int) == 2) = true ∨ (((AL.size : Int) == 2) = false ∧ ((AL.size : Int) == 5) = true) := by
        rcases c1 with h | h | h
        · exact absurd h hl
        · exact .inl (by rw [hALz, h]; rfl)
        · exact .inr ⟨by rw [hALz, h]; rfl, by rw [hALz, h]; rfl⟩
      clear hd hz c1 c2 hT hTl hAL hALz hal hl
      rcases h25 with b2 | ⟨b2, b5⟩
      all_goals
        go_enter Tryz.func9, Tryz.ntmps9
        go_wp2_with fail
        refine HD.out.mono ?_
        rintro e w1 ⟨rfl, hx1⟩
        go_wp2_with fail
        refine (HX.out _).mono ?_
        rintro e w6 ⟨rfl, hx6⟩
        go_wp2
        go_ret
        exact ⟨rfl, hx1.trans (((Ext.refl w1).alloc _).trans hx6)⟩
  · have he := Ea.dec_err (s := m) (by rw [hd]; exact h0)
    rw [hd] at he HD
    dsimp only at he
    injection he with e1 e2
    injection e2 with e2 e3
    subst e1 e2 e3
    rw [show gotV ((0, [], []), er) = .tuple #[.agg #[.int .i64 0, .string ⟨#[]⟩, .string ⟨#[]⟩], .int .i64 er] from rfl] at HD
    have hb : (er != 0) = true := bne_iff_ne.2 h0
    have hn := fun w' => lin_eq w' 0 0 ⟨#[]⟩ ⟨#[]⟩ ⟨#[]⟩ ⟨#[]⟩
    clear hd h0
    go_enter Tryz.func9, Tryz.ntmps9
    go_wp2_with fail
    refine HD.out.mono ?_
    rintro e w1 ⟨rfl, hx1⟩
    go_wp2_with fail
    refine (HX.out _).mono ?_
    rintro e w6 ⟨rfl, hx6⟩
    go_wp2
    go_ret
    exact ⟨rfl, hx1.trans (((Ext.refl w1).alloc _).trans hx6)⟩
end Go.Proofs.YtfpliihglgjijaaGreat

/-
  A slice of bools that came in, as a slice that reads as a list.
  No condition.
-/
namespace Go.Proofs.YtfpliihglgjijaaGreat
open Go.RowKit Go.ChangeShapes Go.WideShapes

theorem bools_slk {w : World} {a : Option Addr} {len cap : Nat}
    (h : (a = none ∧ len = 0 ∧ cap = 0) ∨ ∃ x, a = some x ∧ len ≤ cap ∧ cap ≤ maxLen ∧ ∃ B : Nat → Bool, ∀ i, i < cap → w.cell? (x.add i) = some (.bool (B i))) :
    ∃ m : List Bool, SlK w (.slice a len cap) (m.map encT) ∧ m.length ≤ maxLen := by
  rcases h with ⟨rfl, rfl, rfl⟩ | ⟨x, rfl, hlc, hcm, B, hc⟩
  · exact ⟨[], ⟨.inl ⟨rfl, none, 0, rfl⟩, none, 0, rfl, Nat.le_refl _⟩, Nat.zero_le _⟩
  · have hl : (((List.range len).map B).map encT).length = len := by simp
    refine ⟨(List.range len).map B, ⟨?_, some x, cap, by rw [hl], by rw [hl]; exact hlc⟩, by simp; omega⟩
    by_cases h0 : len = 0
    · subst h0
      exact .inl ⟨rfl, some x, cap, rfl⟩
    · obtain ⟨b, off, path⟩ := x
      have hp : path = none := by
        have := hc 0 (by omega)
        cases path with
        | none => rfl
        | some q => exact absurd this (by unfold Addr.add World.cell?; split <;> simp)
      subst hp
      refine .inr ⟨b, off, cap, by rw [hl], ?_, fun i hi => ?_⟩
      · have := hc 0 (by omega)
        rw [add_off] at this
        rcases Nat.lt_or_ge b w.heap.size with h | h
        · exact h
        · simp [World.cell?, Array.getElem?_eq_none h] at this
      · rw [hl] at hi
        have := hc i (by omega)
        rw [add_off] at this
        rw [this, List.getElem?_map, List.getElem?_map, List.getElem?_range hi]
        rfl
end Go.Proofs.YtfpliihglgjijaaGreat
