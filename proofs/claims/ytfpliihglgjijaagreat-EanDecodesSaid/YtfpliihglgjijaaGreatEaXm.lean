/-
  Chapter 11, the reference: join and row.
  Condition: rows of at most a million modules.
-/
import Derived.Test.YtfpliihglgjijaaGreatEaX4
import Derived.Test.YtfpliihglgjijaaGreatRel

/-
  Chapter 11, the reference: join and row.
  Condition: rows of at most a million modules.
-/
namespace Go.Proofs.YtfpliihglgjijaaGreat
set_option linter.unusedVariables false
open Go.RowKit

theorem info_rowT : (Tryz.prog.info? 4).map (fun i => (i.zero, i.size, i.bytes)) = some (some (.bool false), 1, 1) := by kernel_rfl
/-- A slice of rows. -/
def RowsA (w : World) (v : Value) (ls : List (List Bool)) : Prop := ∃ us : List Value, Sl w v us ∧ us.length = ls.length ∧ ∀ i, i < ls.length → Own 4 w 0 (us.getD i undef) ((ls.getD i []).map encT)
theorem RowsA.ext {w w' : World} {v : Value} {ls : List (List Bool)} (h : RowsA w v ls) (hx : Ext w w') : RowsA w' v ls := by
  obtain ⟨us, h1, h2, h3⟩ := h
  exact ⟨us, h1.ext hx, h2, fun i hi => (h3 i hi).ext hx⟩
theorem rowsA_mk (w : World) (us : Array Value) (ls : List (List Bool)) (t : TypeId) (h : us.size = ls.length) (h0 : 0 < us.size) (hn : ∀ i, i < ls.length → Own 4 w 0 (us.getD i undef) ((ls.getD i []).map encT)) :
    RowsA (w.alloc (.cells us t)) (.slice (some ⟨w.heap.size, 0, none⟩) us.size us.size) ls := by
  refine ⟨us.toList, .inr ⟨w.heap.size, 0, us.size, by simp, by simp, fun i hi => ?_⟩, by simp [h], fun i hi => ?_⟩
  · rw [Array.length_toList] at hi
    rw [Nat.zero_add, new_cell us t w (Array.getElem?_eq_getElem hi)]
    simp [hi]
  · have := (hn i hi).alloc (.cells us t)
    rw [show us.toList.getD i undef = us.getD i undef by simp]
    exact this

set_option maxRecDepth 100000 in
set_option maxHeartbeats 2000000 in
theorem xjoin_any (v : Value) (ls : List (List Bool)) (w : World) (hv : RowsA w v ls) (hl : ls.length ≤ 100) (hf : ls.flatten.length ≤ 1000000) :
    Calls Tryz.prog 38 #[v] w (OwnsR ls.flatten w) := by
  obtain ⟨us, h1, h2, h3⟩ := hv
  obtain ⟨a, c, rfl⟩ := h1.form
  have HV := Lib.hid h1
  have HO := Lib.hid h3
  have HF := Lib.hid hf
  rw [h2]
  have HU := Lib.hid h2
  clear h1 h2 h3 hf
  go_enter Tryz.func38, Tryz.ntmps38
  go_wp2
  go_loopw [3, 4] (fun v3 v4 wr => ∃ k : Nat, k ≤ ls.length ∧ v4 = .int .i64 (k : Int) ∧ Own 4 wr w.heap.size v3 ((ls.take k).flatten.map encT) ∧ Ext w wr) (fun _ v4 _ => ls.length - (intOf v4).toNat)
  case atStart => exact ⟨0, Nat.zero_le _, rfl, Own.nil _ _ _, Ext.refl _⟩
  case round =>
    obtain ⟨k, hk, rfl, hown, hxr⟩ := hrel
    by_cases hlt : k < ls.length
    · obtain ⟨b, off, ha, hb, hc⟩ := HV.out.at_ (k := k) (by rw [HU.out]; exact hlt)
      subst ha
      have hcc := (hxr.cell (p := ⟨b, off + k, none⟩) hb).trans hc
      have hou := (HO.out k hlt).ext hxr
      obtain ⟨u, hu⟩ : ∃ u, us[k]'(by rw [HU.out]; exact hlt) = u := ⟨_, rfl⟩
      rw [show us.getD k undef = u by rw [← hu, List.getD_eq_getElem?_getD, List.getElem?_eq_getElem (by rw [HU.out]; exact hlt)]; rfl] at hou
      rw [hu] at hcc
      obtain ⟨l, hl2⟩ : ∃ l, ls.getD k [] = l := ⟨_, rfl⟩
      rw [hl2] at hou
      have HT : Hid ((ls.take (k + 1)).flatten = (ls.take k).flatten ++ l) := Lib.hid (by
        rw [List.take_succ_eq_append_getElem hlt, List.flatten_append, ← hl2, List.getD_eq_getElem?_getD, List.getElem?_eq_getElem hlt]; simp)
      have hgl : (ls.take k).flatten.length + l.length ≤ 1000000 := by
        rw [← List.length_append, ← HT.out]
        have h5 : ls.flatten = (ls.take (k + 1)).flatten ++ (ls.drop (k + 1)).flatten := by rw [← List.flatten_append, List.take_append_drop]
        have := HF.out
        rw [h5, List.length_append] at this; omega
      generalize (ls.take k).flatten = got at *
      clear hu hl2 hc
      go_wp2_with (at_builtin; refine wpList_append_src rfl _ _ 23 4 (.bool false) 1 rfl Tryz.underlying23 info_rowT rfl (by decide) w.heap.size _ _ rfl hown 0 u (l.map encT) rfl hou (enc_one l) ?c1 ?c2 ?_)
      case c1 => simp; omega
      case c2 => exact hxr.size
      intro v' w5 hown5 hg5
      have hx5 := hxr.ofGrown hg5 hown.low
      clear hown hg5 hou hcc hxr
      go_wp2
      go_roundw
      case rel => exact ⟨k + 1, by omega, by go_num, by rw [HT.out, List.map_append]; exact hown5, hx5⟩
      case measure => simp [intOf]; omega
    · obtain rfl : k = ls.length := by omega
      rw [List.take_length] at hown
      clear hk hlt
      go_wp2
      go_ret
      exact ⟨_, rfl, hown, hxr⟩

/-- A digit's byte. -/
theorem dig_num {c : UInt8} (h : 48 ≤ c.toNat ∧ c.toNat ≤ 57) : ((c.toNat : Int) - 48) = ((c.toNat - 48 : Nat) : Int) := by omega
theorem take_ne (s : ByteArray) (k : Nat) (h0 : ¬k = 0) (h : k < s.size) : ¬ s.data.toList.take k = [] := by
  intro e
  have h9 : min k s.size = 0 := by simpa [len_data] using congrArg List.length e
  omega
theorem drw_snoc (sep : List Bool) : ∀ (l : List UInt8) (us : List Nat) (c : UInt8) (t : Nat), us.length = l.length → Ea.drw sep (l ++ [c]) (us ++ [t]) = (if l = [] then [] else Ea.drw sep l us ++ sep) ++ Ea.modl t (c.toNat - 48)
  | [], [], c, t, _ => by simp [Ea.drw]
  | [], _ :: _, c, t, h => by simp at h
  | _ :: _, [], c, t, h => by simp at h
  | [d], [u], c, t, _ => by simp [Ea.drw]
  | [d], _ :: _ :: _, c, t, h => by simp at h
  | _ :: _ :: _, [_], c, t, h => by simp at h
  | d :: e :: l, u :: v :: us, c, t, h => by
    have ih := drw_snoc sep (e :: l) (v :: us) c t (by simpa using h)
    rw [if_neg (by simp)] at ih ⊢
    simp only [List.cons_append] at ih ⊢
    rw [Ea.drw, ih, Ea.drw]
    simp [List.append_assoc]

set_option maxRecDepth 100000 in
set_option maxHeartbeats 3000000 in
theorem xrow_any (s u b : ByteArray) (us : List Nat) (sep : List Bool) (hd : Ea.digs s.data.toList = true) (hu : u.data.toList = zS us) (hu3 : ∀ x ∈ us, x < 3) (hb : b.data.toList = Ea.mS sep) (hl : us.length = s.size) (hs : s.size ≤ 100) (hsep : sep.length ≤ 100) (w : World) :
    Calls Tryz.prog 69 #[.string s, .string u, .string b] w (OwnsR (Ea.drw sep s.data.toList us) w) := by
  have HD := Lib.hid hd
  have HU := Lib.hid hu
  have HU3 := Lib.hid hu3
  have HL := Lib.hid hl
  have husz : u.size = s.size := by rw [size_of_toList hu, zS_len, hl]
  have HUS := Lib.hid husz
  have HMB := Lib.hid (fun w => xmodules_any b sep hb (by omega) w)
  have HLEN : Hid (∀ k, k ≤ s.size → (Ea.drw sep (s.data.toList.take k) (us.take k)).length ≤ 107 * k) := Lib.hid (fun k hk => by
    rw [Ea.drw_len sep _ _ (Ea.digs_take hd k) (by rw [List.length_take, List.length_take, len_data]; omega) (fun x hx => hu3 x (List.mem_of_mem_take hx)), List.length_take, len_data, Nat.min_eq_left hk]
    have : sep.length * (k - 1) ≤ 100 * k := Nat.mul_le_mul hsep (by omega)
    omega)
  have hu100 : u.size ≤ 100 := by omega
  clear hd hu hu3 hb hl husz
  go_enter Tryz.func69, Tryz.ntmps69
  go_wp2
  go_loopw [7, 8] (fun v7 v8 wr => ∃ k : Nat, k ≤ s.size ∧ v8 = .int .i64 (k : Int) ∧ Own 4 wr w.heap.size v7 ((Ea.drw sep (s.data.toList.take k) (us.take k)).map encT) ∧ Ext w wr) (fun _ v8 _ => s.size - (intOf v8).toNat)
  case atStart => exact ⟨0, Nat.zero_le _, rfl, Own.nil _ _ _, Ext.refl _⟩
  case round =>
    obtain ⟨k, hk, rfl, hown, hxr⟩ := hrel
    by_cases hlt : k < s.size
    · have hku : k < u.size := by rw [HUS.out]; exact hlt
      have hks : k < us.length := by rw [HL.out]; exact hlt
      obtain ⟨tt, htt⟩ : ∃ tt, us[k] = tt := ⟨_, rfl⟩
      have ht3 : tt < 3 := HU3.out tt (by rw [← htt]; exact List.getElem_mem _)
      have hdk := (Ea.allDig HD.out) s[k] (mem_at s k hlt)
      have huk : u[k].toNat = 48 + tt := by
        have h1 : u.data.toList[k]? = some u[k] := List.getElem?_eq_getElem (by rw [len_data]; exact hku)
        rw [HU.out] at h1
        unfold zS at h1
        rw [List.getElem?_map, List.getElem?_eq_getElem hks, htt] at h1
        have h2 : Ea.chr tt = u[k] := by simpa using h1
        rw [← h2]; unfold Ea.chr; rw [Ea.chr_nat (by omega)]
      obtain ⟨dd, hdd⟩ : ∃ dd, s[k].toNat - 48 = dd := ⟨_, rfl⟩
      have hd10 : dd < 10 := by omega
      have hksd : (s[k].toNat : Int) = ((48 + dd : Nat) : Int) := by omega
      have hksu : (u[k].toNat : Int) = ((48 + tt : Nat) : Int) := by omega
      have HTB := Lib.hid (fun w => xtable_any dd tt hd10 ht3 w)
      have hw1 : IntKind.u8.wrap (dd : Int) = (dd : Int) := IntWalk.u8_in _ (by omega)
      have hw2 : IntKind.u8.wrap (tt : Int) = (tt : Int) := IntWalk.u8_in _ (by omega)
      have hw3 : IntKind.i64.wrap (dd : Int) = (dd : Int) := IntWalk.i64_in _ (by omega)
      have hw4 : IntKind.i64.wrap (tt : Int) = (tt : Int) := IntWalk.i64_in _ (by omega)
      have hw5 : (48 : Int) + (dd : Int) - 48 = (dd : Int) := by omega
      have hw6 : (48 : Int) + (tt : Int) - 48 = (tt : Int) := by omega
      have HDR : Hid (Ea.drw sep (s.data.toList.take (k + 1)) (us.take (k + 1)) = (if k = 0 then [] else Ea.drw sep (s.data.toList.take k) (us.take k) ++ sep) ++ Ea.modl tt dd) := Lib.hid (by
        rw [take_snoc s k hlt, List.take_succ_eq_append_getElem hks, htt, drw_snoc sep _ _ _ _ (by have := HL.out; rw [List.length_take, List.length_take, len_data]; omega), hdd]
        congr 1
        by_cases h0 : k = 0
        · rw [if_pos h0, if_pos (by rw [h0]; rfl)]
        · rw [if_neg h0, if_neg (take_ne s k h0 hlt)])
      have hlen := HLEN.out k hk
      have hm7 : (Ea.modl tt dd).length = 7 := modl_len7 ⟨tt, ht3⟩ ⟨dd, hd10⟩
      obtain ⟨got, hgot⟩ : ∃ got, Ea.drw sep (s.data.toList.take k) (us.take k) = got := ⟨_, rfl⟩
      have HG0 := Lib.hid hgot
      rw [hgot] at hown HDR hlen
      clear hgot
      clear htt hdk huk hdd
      by_cases h0 : k = 0
      · have b0 : decide (0 < (k : Int)) = false := decide_eq_false (by omega)
        have b1 : decide (0 < k) = false := decide_eq_false (by omega)
        have hk0 : k ≤ 0 := by omega
        rw [if_pos h0, List.nil_append] at HDR
        have HGOT : Hid (got = []) := Lib.hid (by rw [← HG0.out, h0]; rfl)
        clear h0
        go_wp2_with fail
        refine wp_region_rel 12 2 rfl [21, 22, 23, 24, 25, 26, 27, 28, 29, 30, 31, 32] [[], [], [], [1, 2], [3], [4], [], [], [6, 7], [8], [9], [5, 10]] (by kernel_rfl) (by kernel_rfl) ?_
        apply relPlan_eq'
        · intro V w' hx hf
          with_reducible refine relAt_ops ?_
          intro A ρ hA hρ hcst hfun
          have h7 : ρ (.tmp 7) = u7 := (congrFun hρ _).trans (evalMiss hA 7 rfl)
          exact relUpon_move (hk := by rw [h7]; exact ⟨Ext.refl _, rfl⟩)
        apply relPlan_eq'
        · intro V w' hx hf
          with_reducible refine relAt_ops ?_
          intro A ρ hA hρ hcst hfun
          have h0 : ρ (.tmp 0) = .string s := (congrFun hρ _).trans (evalMiss hA 0 rfl)
          exact relUpon_move (hk := by rw [h0]; exact ⟨Ext.refl _, rfl⟩)
        apply relPlan_eq'
        · intro V w' hx hf
          with_reducible refine relAt_ops ?_
          intro A ρ hA hρ hcst hfun
          have h8 : ρ (.tmp 8) = .int .i64 (k : Int) := (congrFun hρ _).trans (evalMiss hA 8 rfl)
          exact relUpon_move (hk := by rw [h8]; exact ⟨Ext.refl _, rfl⟩)
        apply relPlan_eq'
        · intro V w' hx hf
          with_reducible refine relAt_ops ?_
          intro A ρ hA hρ hcst hfun
          obtain ⟨f22, f23, _⟩ := hf
          have h22 : ρ (.tmp 22) = _ := (congrFun hρ _).trans ((evalHit hA 22 rfl).trans f22)
          have h23 : ρ (.tmp 23) = _ := (congrFun hρ _).trans ((evalHit hA 23 rfl).trans f23)
          simp [relUpon, go_sem, ↓IntWalk.iteOmega, Ext.refl, h22, h23, hksd]
          rfl
        apply relPlan_eq'
        · intro V w' hx hf
          with_reducible refine relAt_ops ?_
          intro A ρ hA hρ hcst hfun
          obtain ⟨f24, _⟩ := hf
          have h24 : ρ (.tmp 24) = _ := (congrFun hρ _).trans ((evalHit hA 24 rfl).trans f24)
          simp [relUpon, go_sem, hcst, Ext.refl, h24, hw1, hw5]
          rfl
        apply relPlan_eq'
        · intro V w' hx hf
          with_reducible refine relAt_ops ?_
          intro A ρ hA hρ hcst hfun
          obtain ⟨f25, _⟩ := hf
          have h25 : ρ (.tmp 25) = _ := (congrFun hρ _).trans ((evalHit hA 25 rfl).trans f25)
          simp [relUpon, go_sem, Ext.refl, h25, hw3]
          rfl
        apply relPlan_eq'
        · intro V w' hx hf
          with_reducible refine relAt_ops ?_
          intro A ρ hA hρ hcst hfun
          have h1 : ρ (.tmp 1) = .string u := (congrFun hρ _).trans (evalMiss hA 1 rfl)
          exact relUpon_move (hk := by rw [h1]; exact ⟨Ext.refl _, rfl⟩)
        apply relPlan_eq'
        · intro V w' hx hf
          with_reducible refine relAt_ops ?_
          intro A ρ hA hρ hcst hfun
          have h8 : ρ (.tmp 8) = .int .i64 (k : Int) := (congrFun hρ _).trans (evalMiss hA 8 rfl)
          exact relUpon_move (hk := by rw [h8]; exact ⟨Ext.refl _, rfl⟩)
        apply relPlan_eq'
        · intro V w' hx hf
          with_reducible refine relAt_ops ?_
          intro A ρ hA hρ hcst hfun
          obtain ⟨f27, f28, _⟩ := hf
          have h27 : ρ (.tmp 27) = _ := (congrFun hρ _).trans ((evalHit hA 27 rfl).trans f27)
          have h28 : ρ (.tmp 28) = _ := (congrFun hρ _).trans ((evalHit hA 28 rfl).trans f28)
          simp [relUpon, go_sem, ↓IntWalk.iteOmega, Ext.refl, h27, h28, hksu]
          rfl
        apply relPlan_eq'
        · intro V w' hx hf
          with_reducible refine relAt_ops ?_
          intro A ρ hA hρ hcst hfun
          obtain ⟨f29, _⟩ := hf
          have h29 : ρ (.tmp 29) = _ := (congrFun hρ _).trans ((evalHit hA 29 rfl).trans f29)
          simp [relUpon, go_sem, hcst, Ext.refl, h29, hw2, hw6]
          rfl
        apply relPlan_eq'
        · intro V w' hx hf
          with_reducible refine relAt_ops ?_
          intro A ρ hA hρ hcst hfun
          obtain ⟨f30, _⟩ := hf
          have h30 : ρ (.tmp 30) = _ := (congrFun hρ _).trans ((evalHit hA 30 rfl).trans f30)
          simp [relUpon, go_sem, Ext.refl, h30, hw4]
          rfl
        refine relPlan_by (fun v w => Own 4 w 0 v ((Ea.modl tt dd).map encT)) (fun _ _ _ h hx => h.ext hx) ?_ ?_
        · intro V w' hx hf
          with_reducible refine relAt_ops ?_
          intro A ρ hA hρ hcst hfun
          obtain ⟨f26, f31, _⟩ := hf
          have h26 : ρ (.tmp 26) = _ := (congrFun hρ _).trans ((evalHit hA 26 rfl).trans f26)
          have h31 : ρ (.tmp 31) = _ := (congrFun hρ _).trans ((evalHit hA 31 rfl).trans f31)
          simp [relUpon, go_sem, hfun, h26, h31]
          exact (HTB.out w').mono fun e w'' ⟨v, he, ho, hy⟩ => ⟨v, he, hy, ho.mono (Nat.zero_le _)⟩
        intro V wT hxT hf
        obtain ⟨g21, g22, g23, g24, g25, g26, g27, g28, g29, g30, g31, g32, _⟩ := hf
        refine wpAny_tail2 12 33 7 _ _ (by kernel_rfl) rfl rfl (by kernel_rfl) rfl rfl (.inr rfl) (by kernel_rfl) rfl rfl rfl (fun K hK => ?_)
        refine wp_append_src (.tmp 21) (.tmp 32) 23 4 (.bool false) 1 rfl Tryz.underlying23 info_rowT rfl (by decide) w.heap.size u7 (got.map encT) ((evalHit rfl 21 rfl).trans g21) (hown.ext hxT) 0 (V 32) ((Ea.modl tt dd).map encT) (evalHit rfl 32 rfl) g32 (enc_one _) (by rw [List.length_map, List.length_map, hm7]; omega) (by have := hxT.size; have := hxr.size; omega) ?_
        intro v' w5 hown5 hg5
        refine hK _ _ ?_
        simp only [fillA, List.foldl_cons, List.foldl_nil, Act.put, List.setIfInBounds_toArray, List.set_cons_succ, List.set_cons_zero]
        have hx5 := (hxr.trans hxT).ofGrown hg5 (fun k hk => hown.low k hk)
        clear g21 g22 g23 g24 g25 g26 g27 g28 g29 g30 g31 g32 hown hg5 hksd hksu hw1 hw2 hw3 hw4 hw5 hw6
        go_wp2
        go_roundw
        case rel => exact ⟨k + 1, by omega, by go_num, by rw [HDR.out]; rw [HGOT.out] at hown5; exact hown5, hx5⟩
        case measure => simp [intOf]; omega
      · have b0 : decide (0 < (k : Int)) = true := decide_eq_true (by omega)
        have b1 : decide (0 < k) = true := decide_eq_true (by omega)
        have hk0 : 0 < k := by omega
        rw [if_neg h0] at HDR
        clear h0
        have hgp : got.length ≤ 10700 := by omega
        go_wp2_with fail
        refine (HMB.out _).mono ?_
        rintro e w3 ⟨vm, rfl, hm3, hx3⟩
        go_wp2_with (at_builtin; refine wpList_append_src rfl _ _ 23 4 (.bool false) 1 rfl Tryz.underlying23 info_rowT rfl (by decide) w.heap.size u7 (got.map encT) rfl (hown.ext hx3) wr.heap.size vm (sep.map encT) rfl hm3 (enc_one sep) ?c1 ?c2 ?_)
        case c1 => rw [List.length_map, List.length_map]; omega
        case c2 => exact (hxr.trans hx3).size
        intro vs w4 hown4 hg4
        rw [← List.map_append] at hown4
        have hx4 := (hxr.trans hx3).ofGrown hg4 (fun k hk => hown.low k hk)
        clear hown hg4 hm3 hx3 hxr
        have hxr := hx4
        clear hx4
        have hlg : (got ++ sep).length ≤ 10800 := by rw [List.length_append]; omega
        go_wp2_with fail
        refine wp_region_rel 12 2 rfl [21, 22, 23, 24, 25, 26, 27, 28, 29, 30, 31, 32] [[], [], [], [1, 2], [3], [4], [], [], [6, 7], [8], [9], [5, 10]] (by kernel_rfl) (by kernel_rfl) ?_
        apply relPlan_eq'
        · intro V w' hx hf
          with_reducible refine relAt_ops ?_
          intro A ρ hA hρ hcst hfun
          have h7 : ρ (.tmp 7) = vs := (congrFun hρ _).trans (evalMiss hA 7 rfl)
          exact relUpon_move (hk := by rw [h7]; exact ⟨Ext.refl _, rfl⟩)
        apply relPlan_eq'
        · intro V w' hx hf
          with_reducible refine relAt_ops ?_
          intro A ρ hA hρ hcst hfun
          have h0 : ρ (.tmp 0) = .string s := (congrFun hρ _).trans (evalMiss hA 0 rfl)
          exact relUpon_move (hk := by rw [h0]; exact ⟨Ext.refl _, rfl⟩)
        apply relPlan_eq'
        · intro V w' hx hf
          with_reducible refine relAt_ops ?_
          intro A ρ hA hρ hcst hfun
          have h8 : ρ (.tmp 8) = .int .i64 (k : Int) := (congrFun hρ _).trans (evalMiss hA 8 rfl)
          exact relUpon_move (hk := by rw [h8]; exact ⟨Ext.refl _, rfl⟩)
        apply relPlan_eq'
        · intro V w' hx hf
          with_reducible refine relAt_ops ?_
          intro A ρ hA hρ hcst hfun
          obtain ⟨f22, f23, _⟩ := hf
          have h22 : ρ (.tmp 22) = _ := (congrFun hρ _).trans ((evalHit hA 22 rfl).trans f22)
          have h23 : ρ (.tmp 23) = _ := (congrFun hρ _).trans ((evalHit hA 23 rfl).trans f23)
          simp [relUpon, go_sem, ↓IntWalk.iteOmega, Ext.refl, h22, h23, hksd]
          rfl
        apply relPlan_eq'
        · intro V w' hx hf
          with_reducible refine relAt_ops ?_
          intro A ρ hA hρ hcst hfun
          obtain ⟨f24, _⟩ := hf
          have h24 : ρ (.tmp 24) = _ := (congrFun hρ _).trans ((evalHit hA 24 rfl).trans f24)
          simp [relUpon, go_sem, hcst, Ext.refl, h24, hw1, hw5]
          rfl
        apply relPlan_eq'
        · intro V w' hx hf
          with_reducible refine relAt_ops ?_
          intro A ρ hA hρ hcst hfun
          obtain ⟨f25, _⟩ := hf
          have h25 : ρ (.tmp 25) = _ := (congrFun hρ _).trans ((evalHit hA 25 rfl).trans f25)
          simp [relUpon, go_sem, Ext.refl, h25, hw3]
          rfl
        apply relPlan_eq'
        · intro V w' hx hf
          with_reducible refine relAt_ops ?_
          intro A ρ hA hρ hcst hfun
          have h1 : ρ (.tmp 1) = .string u := (congrFun hρ _).trans (evalMiss hA 1 rfl)
          exact relUpon_move (hk := by rw [h1]; exact ⟨Ext.refl _, rfl⟩)
        apply relPlan_eq'
        · intro V w' hx hf
          with_reducible refine relAt_ops ?_
          intro A ρ hA hρ hcst hfun
          have h8 : ρ (.tmp 8) = .int .i64 (k : Int) := (congrFun hρ _).trans (evalMiss hA 8 rfl)
          exact relUpon_move (hk := by rw [h8]; exact ⟨Ext.refl _, rfl⟩)
        apply relPlan_eq'
        · intro V w' hx hf
          with_reducible refine relAt_ops ?_
          intro A ρ hA hρ hcst hfun
          obtain ⟨f27, f28, _⟩ := hf
          have h27 : ρ (.tmp 27) = _ := (congrFun hρ _).trans ((evalHit hA 27 rfl).trans f27)
          have h28 : ρ (.tmp 28) = _ := (congrFun hρ _).trans ((evalHit hA 28 rfl).trans f28)
          simp [relUpon, go_sem, ↓IntWalk.iteOmega, Ext.refl, h27, h28, hksu]
          rfl
        apply relPlan_eq'
        · intro V w' hx hf
          with_reducible refine relAt_ops ?_
          intro A ρ hA hρ hcst hfun
          obtain ⟨f29, _⟩ := hf
          have h29 : ρ (.tmp 29) = _ := (congrFun hρ _).trans ((evalHit hA 29 rfl).trans f29)
          simp [relUpon, go_sem, hcst, Ext.refl, h29, hw2, hw6]
          rfl
        apply relPlan_eq'
        · intro V w' hx hf
          with_reducible refine relAt_ops ?_
          intro A ρ hA hρ hcst hfun
          obtain ⟨f30, _⟩ := hf
          have h30 : ρ (.tmp 30) = _ := (congrFun hρ _).trans ((evalHit hA 30 rfl).trans f30)
          simp [relUpon, go_sem, Ext.refl, h30, hw4]
          rfl
        refine relPlan_by (fun v w => Own 4 w 0 v ((Ea.modl tt dd).map encT)) (fun _ _ _ h hx => h.ext hx) ?_ ?_
        · intro V w' hx hf
          with_reducible refine relAt_ops ?_
          intro A ρ hA hρ hcst hfun
          obtain ⟨f26, f31, _⟩ := hf
          have h26 : ρ (.tmp 26) = _ := (congrFun hρ _).trans ((evalHit hA 26 rfl).trans f26)
          have h31 : ρ (.tmp 31) = _ := (congrFun hρ _).trans ((evalHit hA 31 rfl).trans f31)
          simp [relUpon, go_sem, hfun, h26, h31]
          exact (HTB.out w').mono fun e w'' ⟨v, he, ho, hy⟩ => ⟨v, he, hy, ho.mono (Nat.zero_le _)⟩
        intro V wT hxT hf
        obtain ⟨g21, g22, g23, g24, g25, g26, g27, g28, g29, g30, g31, g32, _⟩ := hf
        refine wpAny_tail2 12 33 7 _ _ (by kernel_rfl) rfl rfl (by kernel_rfl) rfl rfl (.inr rfl) (by kernel_rfl) rfl rfl rfl (fun K hK => ?_)
        refine wp_append_src (.tmp 21) (.tmp 32) 23 4 (.bool false) 1 rfl Tryz.underlying23 info_rowT rfl (by decide) w.heap.size vs ((got ++ sep).map encT) ((evalHit rfl 21 rfl).trans g21) (hown4.ext hxT) 0 (V 32) ((Ea.modl tt dd).map encT) (evalHit rfl 32 rfl) g32 (enc_one _) (by rw [List.length_map, List.length_map, hm7]; omega) (by have := hxT.size; have := hxr.size; omega) ?_
        intro v' w5 hown5 hg5
        refine hK _ _ ?_
        simp only [fillA, List.foldl_cons, List.foldl_nil, Act.put, List.setIfInBounds_toArray, List.set_cons_succ, List.set_cons_zero]
        have hx5 := (hxr.trans hxT).ofGrown hg5 (fun k hk => hown4.low k hk)
        clear g21 g22 g23 g24 g25 g26 g27 g28 g29 g30 g31 g32 hown4 hg5 hksd hksu hw1 hw2 hw3 hw4 hw5 hw6
        go_wp2
        go_roundw
        case rel => exact ⟨k + 1, by omega, by go_num, by rw [HDR.out, List.map_append]; exact hown5, hx5⟩
        case measure => simp [intOf]; omega
    · obtain rfl : k = s.size := by omega
      rw [take_all, show us.take s.size = us by rw [← HL.out, List.take_length]] at hown
      clear hk hlt
      go_wp2
      go_ret
      exact ⟨_, rfl, hown, hxr⟩
end Go.Proofs.YtfpliihglgjijaaGreat

/-
  Chapter 11, the reference: setsE, setsAddOn, symbol.
  Condition: complete texts.
-/
namespace Go.Proofs.YtfpliihglgjijaaGreat
open Go.RowKit

/-- A row of strings that the call made, its place x known. -/
def ArrAt (n x : Nat) (X : ByteArray) : Rel := fun v w => ∃ b, v = .slice (some ⟨b, 0, none⟩) n n ∧ b < w.heap.size ∧ w.cell? ⟨b, x, none⟩ = some (.string X)
theorem ArrAt.stable {n x : Nat} {X : ByteArray} : Rel.Stable (ArrAt n x X) := fun _ _ _ ⟨b, h1, h2, h3⟩ hx => ⟨b, h1, Nat.lt_of_lt_of_le h2 hx.size, (hx.cell (p := ⟨b, x, none⟩) h2).trans h3⟩
def PtrAt (x : Nat) (X : ByteArray) : Rel := fun v w => ∃ b, v = .pointer (some ⟨b, x, none⟩) ∧ b < w.heap.size ∧ w.cell? ⟨b, x, none⟩ = some (.string X)
theorem PtrAt.stable {x : Nat} {X : ByteArray} : Rel.Stable (PtrAt x X) := fun _ _ _ ⟨b, h1, h2, h3⟩ hx => ⟨b, h1, Nat.lt_of_lt_of_le h2 hx.size, (hx.cell (p := ⟨b, x, none⟩) h2).trans h3⟩
/-- What a byte of a digit gives. -/
theorem dig_facts {c : UInt8} {d : Nat} (h : c.toNat = 48 + d) (hd : d ≤ 9) :
    (c.toNat : Int) = ((48 + d : Nat) : Int) ∧ IntKind.u8.wrap (d : Int) = (d : Int) ∧ IntKind.i64.wrap (d : Int) = (d : Int) ∧ (48 : Int) + (d : Int) - 48 = (d : Int) :=
  ⟨by omega, IntWalk.u8_in _ (by omega), IntWalk.i64_in _ (by omega), by omega⟩
theorem dig_of {s : ByteArray} (hd : Ea.digs s.data.toList = true) (i : Nat) (h : i < s.size) : ∃ d, s[i].toNat = 48 + d ∧ d ≤ 9 ∧ Ea.dv s.data.toList i = d := by
  have h1 := Ea.digs_iff.1 hd s[i] (mem_at s i h)
  refine ⟨s[i].toNat - 48, by omega, by omega, ?_⟩
  unfold Ea.dv
  rw [List.getD_eq_getElem?_getD, List.getElem?_eq_getElem (by rw [len_data]; exact h)]; rfl

theorem setsE_flip : ∀ c : Fin 10, zS (Ea.setsE 1 c.1) = (zS (Ea.setsE 0 c.1)).map (fun x => 97 - x) := by decide
theorem setsE_bytes : ∀ c : Fin 10, (zS (Ea.setsE 0 c.1)).all (fun x => decide (48 ≤ x.toNat) && decide (x.toNat ≤ 49)) = true := by decide
theorem setsE_len : ∀ c : Fin 10, (zS (Ea.setsE 0 c.1)).length = 6 := by decide
set_option maxRecDepth 100000 in
set_option maxHeartbeats 2000000 in
theorem xsetsE_any (y c : Nat) (hy : y < 2) (hc : c < 10) (w : World) : Calls Tryz.prog 70 #[.int .i64 (y : Int), .int .i64 (c : Int)] w fun e w' => e = .returned (.string (Ea.bS (zS (Ea.setsE y c)))) ∧ Ext w w' := by
  have hcl := sE_cell c hc w
  have h' : y = 0 ∨ y = 1 := by omega
  rcases h' with rfl | rfl
  · go_enter Tryz.func70, Tryz.ntmps70
    go_wp2
    go_ret
    exact ⟨rfl, (by repeat (first | exact Ext.refl _ | assumption | refine Ext.alloc ?_ _ | refine Ext.drew ?_ | refine Ext.trans ?_ (by assumption)))⟩
  · rw [setsE_flip ⟨c, hc⟩]
    have H1 := Lib.hid (setsE_bytes ⟨c, hc⟩)
    have HL := Lib.hid (setsE_len ⟨c, hc⟩)
    dsimp only at H1 HL ⊢
    obtain ⟨S, hS⟩ : ∃ S, Ea.bS (zS (Ea.setsE 0 c)) = S := ⟨_, rfl⟩
    have HS : Hid (S.data.toList = zS (Ea.setsE 0 c)) := Lib.hid (by rw [← hS, Ea.bS_list])
    rw [hS] at hcl
    generalize zS (Ea.setsE 0 c) = l at *
    have hSz : S.size = 6 := by rw [size_of_toList HS.out, HL.out]
    have hS6 : S.size ≤ 6 := by omega
    rw [show ((1 : Nat) : Int) = 1 from rfl]
    have hxw := (Ext.refl w).alloc (.cells #[.string ⟨#[49, 49, 49, 48, 48, 48]⟩, .string ⟨#[49, 49, 48, 49, 48, 48]⟩, .string ⟨#[49, 49, 48, 48, 49, 48]⟩, .string ⟨#[49, 49, 48, 48, 48, 49]⟩, .string ⟨#[49, 48, 49, 49, 48, 48]⟩, .string ⟨#[49, 48, 48, 49, 49, 48]⟩, .string ⟨#[49, 48, 48, 48, 49, 49]⟩, .string ⟨#[49, 48, 49, 48, 49, 48]⟩, .string ⟨#[49, 48, 49, 48, 48, 49]⟩, .string ⟨#[49, 48, 48, 49, 48, 49]⟩] 9)
    have HXW := Lib.hid hxw
    clear hS hSz hxw
    go_enter Tryz.func70, Tryz.ntmps70
    go_wp2
    go_loopw [6, 7] (fun v6 v7 wr => ∃ k : Nat, k ≤ S.size ∧ v7 = .int .i64 (k : Int) ∧ Own 5 wr w.heap.size v6 (((S.data.toList.take k).map (fun x => 97 - x)).map encB) ∧ Ext w wr) (fun _ v7 _ => S.size - (intOf v7).toNat)
    case atStart => exact ⟨0, Nat.zero_le _, rfl, Own.nil _ _ _, HXW.out⟩
    case round =>
      obtain ⟨k, hk, rfl, hown, hxr⟩ := hrel
      by_cases hlt : k < S.size
      · have hb : 48 ≤ S[k].toNat ∧ S[k].toNat ≤ 49 := by
          have := H1.out
          rw [← HS.out, List.all_eq_true] at this
          have := this S[k] (mem_at S k hlt)
          simpa using this
        obtain ⟨hb1, hb2⟩ := hb
        have HT : Hid ((S.data.toList.take (k + 1)).map (fun x => 97 - x) = (S.data.toList.take k).map (fun x => 97 - x) ++ [97 - S[k]]) := Lib.hid (by rw [take_snoc S k hlt, List.map_append]; rfl)
        have hsub : ((97 - S[k] : UInt8).toNat : Int) = 97 - (S[k].toNat : Int) := by
          rw [UInt8.toNat_sub_of_le _ _ (by rw [UInt8.le_iff_toNat_le, show (97 : UInt8).toNat = 97 from rfl]; omega), show (97 : UInt8).toNat = 97 from rfl]; omega
        have hgl : ((S.data.toList.take k).map (fun x => 97 - x)).length ≤ k := by rw [List.length_map, List.length_take]; omega
        generalize (S.data.toList.take k).map (fun x => 97 - x) = got at *
        go_wp2_with (at_builtin; refine append_byte rfl _ _ rfl w.heap.size _ got rfl (hown.alloc _) _ (97 - S[k]) rfl ?c1 ?c2 ?c3 ?_)
        case c1 => simp [go_sem, encB, hsub]
        case c2 => omega
        case c3 => have := hxr.size; simp; omega
        intro v' w5 hown5 hg5
        have hx5 := (hxr.alloc _).ofGrown hg5 hown.low
        clear hown hg5 hsub
        go_wp2
        go_roundw
        case rel => exact ⟨k + 1, by omega, by go_num, by rw [HT.out, List.map_append]; exact hown5, hx5⟩
        case measure => simp [intOf]; omega
      · obtain rfl : k = S.size := by omega
        rw [take_all] at hown
        have hcv := run_convert_sl hown.sl
        have HG : Hid (Ending.returned (.string ⟨((S.data.toList.map (fun x => 97 - x))).toArray⟩) = .returned (.string (Ea.bS (l.map (fun x => 97 - x))))) := Lib.hid (by rw [HS.out]; rfl)
        clear hk hlt hown
        go_wp2
        go_ret
        exact ⟨HG.out, hxr⟩

set_option maxRecDepth 100000 in
set_option maxHeartbeats 2000000 in
theorem xsetsAdd_two (s : ByteArray) (h2 : s.size = 2) (hd : Ea.digs s.data.toList = true) (w : World) :
    Calls Tryz.prog 72 #[.string s] w fun e w' => e = .returned (.string (Ea.bS (zS (Ea.setsAdd s.data.toList)))) ∧ Ext w w' := by
  have b2 : ((s.size : Int) == 2) = true := by rw [h2]; rfl
  have hz0 : 0 < s.size := by omega
  have hz1 : 1 < s.size := by omega
  obtain ⟨d0, e0, l0, v0⟩ := dig_of hd 0 hz0
  obtain ⟨d1, e1, l1, v1⟩ := dig_of hd 1 hz1
  obtain ⟨hk0, hu0, hi0, hs0⟩ := dig_facts e0 l0
  obtain ⟨hk1, hu1, hi1, hs1⟩ := dig_facts e1 l1
  obtain ⟨x, hx⟩ : ∃ x, (10 * d0 + d1) % 4 = x := ⟨_, rfl⟩
  have hmA : IntKind.i64.wrap (10 * (d0 : Int)) = 10 * (d0 : Int) := IntWalk.i64_in _ (by omega)
  have hmB : IntKind.i64.wrap (10 * (d0 : Int) + (d1 : Int)) = 10 * (d0 : Int) + (d1 : Int) := IntWalk.i64_in _ (by omega)
  have hm : (10 * (d0 : Int) + (d1 : Int)).tmod 4 = (x : Int) := by rw [← hx, Int.tmod_eq_emod_of_nonneg (by omega)]; omega
  have hx4 : x < 4 := by omega
  have hxw : IntKind.i64.wrap (x : Int) = (x : Int) := IntWalk.i64_in _ (by omega)
  have HX : Hid (Ea.setsA2.getD x [] = Ea.setsAdd s.data.toList) := Lib.hid (by
    unfold Ea.setsAdd
    rw [if_pos (by rw [len_data]; exact h2), v0, v1, hx])
  obtain ⟨X, hX⟩ : ∃ X, Ea.bS (zS (Ea.setsA2.getD x [])) = X := ⟨_, rfl⟩
  have HCL := Lib.hid (fun w => a2_cell x hx4 w)
  rw [hX] at HCL
  rw [← HX.out, hX]
  clear hX HX hd e0 e1 v0 v1 hx h2
  go_enter Tryz.func72, Tryz.ntmps72
  go_wp2_with fail
  refine wp_region_rel 14 1 rfl [7, 8, 9, 10, 11, 12, 13, 14, 15, 16, 17, 18, 19, 20] [[], [], [1], [2], [3], [4], [], [6], [7], [8], [5, 9], [10], [0, 11], [12]] (by kernel_rfl) (by kernel_rfl) ?_
  refine relPlan_by (ArrAt 4 x X) (ArrAt.stable) ?_ ?_
  · intro V w' hx hf
    with_reducible refine relAt_ops ?_
    intro A ρ hA hρ hcst hfun
    simp [relUpon, go_sem, hcst]
    exact ⟨(Ext.refl w').alloc _, w'.heap.size, rfl, by simp, HCL.out w'⟩
  apply relPlan_eq'
  · intro V w' hx hf
    with_reducible refine relAt_ops ?_
    intro A ρ hA hρ hcst hfun
    have h0 : ρ (.tmp 0) = .string s := (congrFun hρ _).trans (evalMiss hA 0 rfl)
    exact relUpon_move (hk := by rw [h0]; exact ⟨Ext.refl _, rfl⟩)
  apply relPlan_eq'
  · intro V w' hx hf
    with_reducible refine relAt_ops ?_
    intro A ρ hA hρ hcst hfun
    obtain ⟨f8, _⟩ := hf
    have h8 : ρ (.tmp 8) = _ := (congrFun hρ _).trans ((evalHit hA 8 rfl).trans f8)
    simp [relUpon, go_sem, hcst, ↓IntWalk.iteOmega, Ext.refl, h8, hk0]
    rfl
  apply relPlan_eq'
  · intro V w' hx hf
    with_reducible refine relAt_ops ?_
    intro A ρ hA hρ hcst hfun
    obtain ⟨f9, _⟩ := hf
    have h9 : ρ (.tmp 9) = _ := (congrFun hρ _).trans ((evalHit hA 9 rfl).trans f9)
    simp [relUpon, go_sem, hcst, Ext.refl, h9, hu0, hs0]
    rfl
  apply relPlan_eq'
  · intro V w' hx hf
    with_reducible refine relAt_ops ?_
    intro A ρ hA hρ hcst hfun
    obtain ⟨f10, _⟩ := hf
    have h10 : ρ (.tmp 10) = _ := (congrFun hρ _).trans ((evalHit hA 10 rfl).trans f10)
    simp [relUpon, go_sem, Ext.refl, h10, hi0]
    rfl
  apply relPlan_eq'
  · intro V w' hx hf
    with_reducible refine relAt_ops ?_
    intro A ρ hA hρ hcst hfun
    obtain ⟨f11, _⟩ := hf
    have h11 : ρ (.tmp 11) = _ := (congrFun hρ _).trans ((evalHit hA 11 rfl).trans f11)
    simp [relUpon, go_sem, hcst, Ext.refl, h11, hmA]
    rfl
  apply relPlan_eq'
  · intro V w' hx hf
    with_reducible refine relAt_ops ?_
    intro A ρ hA hρ hcst hfun
    have h0 : ρ (.tmp 0) = .string s := (congrFun hρ _).trans (evalMiss hA 0 rfl)
    exact relUpon_move (hk := by rw [h0]; exact ⟨Ext.refl _, rfl⟩)
  apply relPlan_eq'
  · intro V w' hx hf
    with_reducible refine relAt_ops ?_
    intro A ρ hA hρ hcst hfun
    obtain ⟨f13, _⟩ := hf
    have h13 : ρ (.tmp 13) = _ := (congrFun hρ _).trans ((evalHit hA 13 rfl).trans f13)
    simp [relUpon, go_sem, hcst, ↓IntWalk.iteOmega, Ext.refl, h13, hk1]
    rfl
  apply relPlan_eq'
  · intro V w' hx hf
    with_reducible refine relAt_ops ?_
    intro A ρ hA hρ hcst hfun
    obtain ⟨f14, _⟩ := hf
    have h14 : ρ (.tmp 14) = _ := (congrFun hρ _).trans ((evalHit hA 14 rfl).trans f14)
    simp [relUpon, go_sem, hcst, Ext.refl, h14, hu1, hs1]
    rfl
  apply relPlan_eq'
  · intro V w' hx hf
    with_reducible refine relAt_ops ?_
    intro A ρ hA hρ hcst hfun
    obtain ⟨f15, _⟩ := hf
    have h15 : ρ (.tmp 15) = _ := (congrFun hρ _).trans ((evalHit hA 15 rfl).trans f15)
    simp [relUpon, go_sem, Ext.refl, h15, hi1]
    rfl
  apply relPlan_eq'
  · intro V w' hx hf
    with_reducible refine relAt_ops ?_
    intro A ρ hA hρ hcst hfun
    obtain ⟨f12, f16, _⟩ := hf
    have h12 : ρ (.tmp 12) = _ := (congrFun hρ _).trans ((evalHit hA 12 rfl).trans f12)
    have h16 : ρ (.tmp 16) = _ := (congrFun hρ _).trans ((evalHit hA 16 rfl).trans f16)
    simp [relUpon, go_sem, Ext.refl, h12, h16, hmB]
    rfl
  apply relPlan_eq'
  · intro V w' hx hf
    with_reducible refine relAt_ops ?_
    intro A ρ hA hρ hcst hfun
    obtain ⟨f17, _⟩ := hf
    have h17 : ρ (.tmp 17) = _ := (congrFun hρ _).trans ((evalHit hA 17 rfl).trans f17)
    simp [relUpon, go_sem, hcst, Ext.refl, h17, hm]
    rfl
  refine relPlan_by (PtrAt x X) (PtrAt.stable) ?_ ?_
  · intro V w' hx hf
    with_reducible refine relAt_ops ?_
    intro A ρ hA hρ hcst hfun
    obtain ⟨f7, f18, _⟩ := hf
    have h7 : ρ (.tmp 7) = V 7 := (congrFun hρ _).trans (evalHit hA 7 rfl)
    have h18 : ρ (.tmp 18) = _ := (congrFun hρ _).trans ((evalHit hA 18 rfl).trans f18)
    obtain ⟨b, e1, e2, e3⟩ := f7
    have h7 := h7.trans e1
    simp [relUpon, go_sem, ↓IntWalk.iteOmega, Ext.refl, h7, h18]
    exact ⟨b, rfl, e2, e3⟩
  refine relPlan_by (eqv (.string X)) (eqv_stable _) ?_ ?_
  · intro V w' hx hf
    with_reducible refine relAt_ops ?_
    intro A ρ hA hρ hcst hfun
    obtain ⟨f19, _⟩ := hf
    have h19 : ρ (.tmp 19) = V 19 := (congrFun hρ _).trans (evalHit hA 19 rfl)
    obtain ⟨b, e1, e2, e3⟩ := f19
    have h19 := h19.trans e1
    simp [relUpon, go_sem, Ext.refl, h19, e3]
    rfl
  intro V wT hxT hf
  obtain ⟨g7, g8, g9, g10, g11, g12, g13, g14, g15, g16, g17, g18, g19, g20, _⟩ := hf
  refine wpAny_tail1 14 20 2 _ (by kernel_rfl) rfl rfl (.inr rfl) (by kernel_rfl) rfl rfl ?_
  have g20' : V 20 = .string X := g20
  rw [g20']
  simp only [fillA, List.foldl_cons, List.foldl_nil, Act.put, List.setIfInBounds_toArray, List.set_cons_succ, List.set_cons_zero]
  go_wp2
  go_ret
  exact ⟨rfl, hxT⟩
end Go.Proofs.YtfpliihglgjijaaGreat

/-
  Chapter 11, the reference: setsAddOn of five digits.
  Condition: five digits.
-/
namespace Go.Proofs.YtfpliihglgjijaaGreat
open Go.RowKit

set_option maxRecDepth 100000 in
set_option maxHeartbeats 1000000 in
theorem xsetsAdd_five (s : ByteArray) (h2 : s.size = 5) (hd : Ea.digs s.data.toList = true) (w : World) :
    Calls Tryz.prog 72 #[.string s] w fun e w' => e = .returned (.string (Ea.bS (zS (Ea.setsAdd s.data.toList)))) ∧ Ext w w' := by
  have b2 : ((s.size : Int) == 2) = false := by rw [h2]; rfl
  have hz0 : 0 < s.size := by omega
  obtain ⟨d0, e0, l0, v0⟩ := dig_of hd 0 hz0
  obtain ⟨hk0, hu0, hi0, hs0⟩ := dig_facts e0 l0
  have hz1 : 1 < s.size := by omega
  obtain ⟨d1, e1, l1, v1⟩ := dig_of hd 1 hz1
  obtain ⟨hk1, hu1, hi1, hs1⟩ := dig_facts e1 l1
  have hz2 : 2 < s.size := by omega
  obtain ⟨d2, e2, l2, v2⟩ := dig_of hd 2 hz2
  obtain ⟨hk2, hu2, hi2, hs2⟩ := dig_facts e2 l2
  have hz3 : 3 < s.size := by omega
  obtain ⟨d3, e3, l3, v3⟩ := dig_of hd 3 hz3
  obtain ⟨hk3, hu3, hi3, hs3⟩ := dig_facts e3 l3
  have hz4 : 4 < s.size := by omega
  obtain ⟨d4, e4, l4, v4⟩ := dig_of hd 4 hz4
  obtain ⟨hk4, hu4, hi4, hs4⟩ := dig_facts e4 l4
  have hmA : IntKind.i64.wrap ((d0 : Int) + (d2 : Int)) = (d0 : Int) + (d2 : Int) := IntWalk.i64_in _ (by omega)
  have hmB : IntKind.i64.wrap ((d0 : Int) + (d2 : Int) + (d4 : Int)) = (d0 : Int) + (d2 : Int) + (d4 : Int) := IntWalk.i64_in _ (by omega)
  have hmC : IntKind.i64.wrap (3 * ((d0 : Int) + (d2 : Int) + (d4 : Int))) = 3 * ((d0 : Int) + (d2 : Int) + (d4 : Int)) := IntWalk.i64_in _ (by omega)
  have hmD : IntKind.i64.wrap ((d1 : Int) + (d3 : Int)) = (d1 : Int) + (d3 : Int) := IntWalk.i64_in _ (by omega)
  have hmE : IntKind.i64.wrap (9 * ((d1 : Int) + (d3 : Int))) = 9 * ((d1 : Int) + (d3 : Int)) := IntWalk.i64_in _ (by omega)
  have hmF : IntKind.i64.wrap (3 * ((d0 : Int) + (d2 : Int) + (d4 : Int)) + 9 * ((d1 : Int) + (d3 : Int))) = 3 * ((d0 : Int) + (d2 : Int) + (d4 : Int)) + 9 * ((d1 : Int) + (d3 : Int)) := IntWalk.i64_in _ (by omega)
  obtain ⟨x, hx⟩ : ∃ x, (3 * (d0 + d2 + d4) + 9 * (d1 + d3)) % 10 = x := ⟨_, rfl⟩
  have hm : (3 * ((d0 : Int) + (d2 : Int) + (d4 : Int)) + 9 * ((d1 : Int) + (d3 : Int))).tmod 10 = (x : Int) := by rw [← hx, Int.tmod_eq_emod_of_nonneg (by omega)]; omega
  have hx10 : x < 10 := by omega
  have HX : Hid (Ea.setsA5.getD x [] = Ea.setsAdd s.data.toList) := Lib.hid (by
    unfold Ea.setsAdd
    rw [if_neg (by rw [len_data]; omega), v0, v1, v2, v3, v4, hx])
  obtain ⟨X, hX⟩ : ∃ X, Ea.bS (zS (Ea.setsA5.getD x [])) = X := ⟨_, rfl⟩
  have HCL := Lib.hid (fun w => a5_cell x hx10 w)
  rw [hX] at HCL
  rw [← HX.out, hX]
  have HM := Lib.hid hm
  have HM2 : Hid ((3 * ((d0 : Int) + (d2 : Int) + (d4 : Int)) + 9 * ((d1 : Int) + (d3 : Int))) % 10 = (x : Int)) := Lib.hid (by rw [← hx]; omega)
  clear hX HX hd e0 e1 e2 e3 e4 v0 v1 v2 v3 v4 hx h2 hm
  go_enter Tryz.func72, Tryz.ntmps72
  go_wp2_with fail
  go_quiet (fail)
  have hm := HM.out
  have hm2 := HM2.out
  have hcl := HCL.out (w.drewN nq)
  rw [show (w.drewN nq).heap.size = w.heap.size from rfl] at hcl
  have HXT := Lib.hid (((Ext.refl w).drewN nq).alloc)
  clear hk0 hk1 hk2 hk3 hk4 hu0 hu1 hu2 hu3 hu4 hi0 hi1 hi2 hi3 hi4 hs0 hs1 hs2 hs3 hs4 hmA hmB hmC hmD hmE hmF
  go_wp2
  go_ret
  exact ⟨rfl, HXT.out _⟩
theorem xsetsAdd_any (s : ByteArray) (h : s.size = 2 ∨ s.size = 5) (hd : Ea.digs s.data.toList = true) (w : World) :
    Calls Tryz.prog 72 #[.string s] w fun e w' => e = .returned (.string (Ea.bS (zS (Ea.setsAdd s.data.toList)))) ∧ Ext w w' := by
  rcases h with h | h
  · exact xsetsAdd_two s h hd w
  · exact xsetsAdd_five s h hd w
end Go.Proofs.YtfpliihglgjijaaGreat
