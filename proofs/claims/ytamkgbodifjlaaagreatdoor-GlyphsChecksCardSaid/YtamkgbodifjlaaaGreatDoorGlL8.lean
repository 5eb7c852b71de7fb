/-
  Chapter 48, the law GlyphsCorrects.
  No condition.
-/
import Derived.Test.YtamkgbodifjlaaaGreatDoorGlL7
import Derived.Test.YtamkgbodifjlaaaGreatDoorGlZ4
import Derived.Test.YtamkgbodifjlaaaGreatDoorGlYB
import Derived.BigQuiet
import Derived.BigRegion
namespace Go.Proofs.YtamkgbodifjlaaaGreatDoor
set_option linter.unusedVariables false
open Go.RowKit Go.ChangeShapes Go.WideShapes

def encU (n : Nat) : Value := .int .u8 (n : Int)
theorem u8s_sl {w : World} {a : Option Addr} {len cap : Nat} {zs : List Int}
    (h : (a = none ∧ len = 0 ∧ cap = 0 ∧ zs = []) ∨ ∃ x, a = some x ∧ len ≤ cap ∧ cap ≤ maxLen ∧ zs.length = cap ∧ (∀ i, i < zs.length → w.cell? (x.add i) = some (.int .u8 (zs.getD i 0))) ∧ ∀ n ∈ zs, (Lit.int .u8 n).wf = true) :
    ∃ us : List Nat, us.length = len ∧ Sl w (.slice a len cap) (us.map encU) ∧ (∀ u ∈ us, u ≤ 255) ∧ len ≤ maxLen := by
  rcases h with ⟨rfl, rfl, rfl, rfl⟩ | ⟨x, rfl, hlc, hcm, hz, hc, hwf⟩
  · exact ⟨[], rfl, .inl ⟨rfl, none, 0, rfl⟩, (fun u h => by cases h), Nat.zero_le _⟩
  · have hb : ∀ n ∈ zs, 0 ≤ n ∧ n ≤ 255 := fun n hn => bounds_u8 (hwf n hn)
    refine ⟨(zs.take len).map Int.toNat, by rw [List.length_map, List.length_take]; omega, ?_, fun u hu => ?_, by omega⟩
    · by_cases h0 : len = 0
      · subst h0
        exact .inl ⟨by simp, some x, cap, rfl⟩
      · have hl : (((zs.take len).map Int.toNat).map encU).length = len := by rw [List.length_map, List.length_map, List.length_take]; omega
        obtain ⟨b, off, path⟩ := x
        have hp : path = none := by
          have := hc 0 (by omega)
          cases path with
          | none => rfl
          | some q => exact absurd this (by unfold Addr.add World.cell?; split <;> simp)
        subst hp
        refine .inr ⟨b, off, cap, by rw [hl], ?_, fun i hi => ?_⟩
        · have := hc 0 (by omega)
          rw [add_off] at this
          rcases Nat.lt_or_ge b w.heap.size with h | h
          · exact h
          · simp [World.cell?, Array.getElem?_eq_none h] at this
        · rw [hl] at hi
          have h1 := hc i (by omega)
          rw [add_off] at h1
          have h2 : zs[i]? = some (zs.getD i 0) := by rw [List.getD_eq_getElem?_getD, List.getElem?_eq_getElem (show i < zs.length by omega)]; rfl
          have h3 := hb _ (List.mem_of_getElem? h2)
          rw [h1, List.getElem?_map, List.getElem?_map, List.getElem?_take, if_pos hi, h2]
          simp only [Option.map_some, encU]
          rw [show ((zs.getD i 0).toNat : Int) = zs.getD i 0 by omega]
    · obtain ⟨n, hn, rfl⟩ := List.mem_map.1 hu
      have := hb n (List.mem_of_mem_take hn)
      omega
theorem KSl.map {α β : Type} {k : Nat} {e1 : α → List Value} {e2 : β → List Value} {w : World} {v : Value} {xs : List α} (f : α → β) (he : ∀ x, e2 (f x) = e1 x) (h : KSl k e1 w v xs) : KSl k e2 w v (xs.map f) := by
  rcases h with ⟨rfl, a, c, h3⟩ | ⟨b, o, cp, h3, h4, h5⟩
  · exact .inl ⟨rfl, a, c, h3⟩
  · refine .inr ⟨b, o, cp, by rw [List.length_map]; exact h3, h4, fun i x hi c hc => ?_⟩
    rw [List.getElem?_map] at hi
    obtain ⟨y, hy, rfl⟩ := Option.map_eq_some_iff.1 hi
    rw [h5 i y hy c hc, he]
/-- A glyph of Read, as Resolve takes it. -/
def gyV (x : Gy) : Gv := (x.1, x.2.1, .slice (some ⟨x.2.2.1, 2, none⟩) 61 x.2.2.2)
theorem gyV_enc (x : Gy) : encV (gyV x) = encG x := rfl
/-- What Read has read, as Resolve takes it. -/
theorem LineAt.glyphs {w : World} {vg : Value} {y k : Nat} {R : List (Nat × List Gl.Ch)} (h : LineAt w vg y k R) (hr : ∀ r ∈ R, ∃ m, r.2 = Gl.ranked m) :
    ∃ (gs : List Gv), KSl 7 encV w vg gs ∧ gs.length = R.length ∧ AllR w gs (R.map fun r => r.2.tail) ∧ ∀ (i : Nat) r, R[i]? = some r → ∃ x, gs[i]? = some x ∧ x.2.1 = r.2.headD (0, 0) := by
  obtain ⟨gs, h1, h2, h3⟩ := h
  refine ⟨gs.map gyV, h1.map gyV gyV_enc, by rw [List.length_map, h2], ⟨by rw [List.length_map, List.length_map, h2], fun i x xs hx hxs => ?_⟩, fun i r hi => ?_⟩
  · rw [List.getElem?_map] at hx hxs
    obtain ⟨g, hg, rfl⟩ := Option.map_eq_some_iff.1 hx
    obtain ⟨r, hr1, rfl⟩ := Option.map_eq_some_iff.1 hxs
    obtain ⟨b, c, hb, hk⟩ := h3 i r hr1
    rw [hg] at hb
    have hb := Option.some.inj hb
    obtain ⟨m, hm⟩ := hr r (List.mem_of_getElem? hr1)
    have hlen : r.2.length = 62 := by rw [hm]; exact Gl.ranked_len m
    have hpos : ∀ c ∈ r.2, Gl.posb c.2 = true := fun c hc => by
      rw [hm] at hc
      obtain ⟨_, h5⟩ := Gl.ranked_mem m hc
      have := Gl.cost_le m c.1
      unfold Gl.posb
      rw [h5]
      simp only [Bool.and_eq_true, decide_eq_true_eq]
      omega
    subst hb
    refine ⟨hk, by rw [List.length_tail]; omega, ?_, fun c hc => hpos c (List.mem_of_mem_tail hc)⟩
    show Gl.posb (r.2.headD (0, 0)).2 = true
    cases hq : r.2 with
    | nil => rw [hq] at hlen; cases hlen
    | cons a l => exact hpos a (by rw [hq]; exact List.mem_cons_self ..)
  · obtain ⟨b, c, hb, _⟩ := h3 i r hi
    exact ⟨_, by rw [List.getElem?_map, hb]; rfl, rfl⟩
/-- The blocks of a walk over a bitmap in which glyphs are changed. -/
def BentR (l : List UInt8) (us : List Nat) (W N b bm : Nat) (w : World) (i : Nat) (wr : World) : Prop :=
  ∃ (m : List Bool), Gl.BentI l us i m ∧ wr.heap[bm]? = some (.cells #[.int .i64 (W : Int), .int .i64 7, .slice (some ⟨b, 0, none⟩) N N] 24 (0, 0)) ∧ wr.rowIs b 4 N (fun p => .bool (m.getD p false)) ∧ Ext w wr
/-- Resolve of what Read has read in a bitmap with a pixel inverted in each glyph. -/
theorem resolve_bent (l : List UInt8) (us : List Nat) (vg : Value) (w : World) (h0 : 0 < l.length) (h20 : l.length ≤ 20) (hs : ∀ c ∈ l, Gl.solid c = true) (h : LineAt w vg 0 1 ((List.range l.length).map fun i => (0 + 6 * i * 1, Gl.ranked (Gl.bent (l.getD i 32) (Gl.psOf us i))))) :
    Calls Tryz.prog 26 #[vg, .string (bS (l.map Gl.klass)), .int .i64 0] w fun e w' => e = .returned (.tuple #[.string (bS l), .int .i64 (l.length : Int), .int .i64 0]) ∧ Ext w w' := by
  obtain ⟨gs, h1, h2, h3, h4⟩ := h.glyphs (fun r hr => by
    obtain ⟨i, _, rfl⟩ := List.mem_map.1 hr
    exact ⟨_, rfl⟩)
  rw [List.length_map, List.length_range] at h2
  have hat : ∀ (i : Nat) c, l[i]? = some c → ((List.range l.length).map fun i => (0 + 6 * i * 1, Gl.ranked (Gl.bent (l.getD i 32) (Gl.psOf us i))))[i]? = some (0 + 6 * i * 1, Gl.ranked (Gl.bent c (Gl.psOf us i))) := fun i c hc => by
    rw [List.getElem?_map, List.getElem?_range (List.getElem?_eq_some_iff.1 hc).1, Option.map_some]
    rw [List.getD_eq_getElem?_getD, hc]
    rfl
  have hL : Gl.Least (Gl.optsOf gs (((List.range l.length).map fun i => (0 + 6 * i * 1, Gl.ranked (Gl.bent (l.getD i 32) (Gl.psOf us i)))).map fun r => r.2.tail) (l.map Gl.klass)) (l.map fun c => (c, 1)) := by
    refine Gl.corr_least l (Gl.psOf us) _ (fun c hc => ⟨Gl.solid_chars (hs c hc), hs c hc⟩) (Gl.psOf_lt us) ?_ (fun i c hc => ?_)
    · rw [Gl.optsOf_len h3.1 (by rw [List.length_map, h2]), h2]
    · have hr := hat i c hc
      obtain ⟨x, hx, hx2⟩ := h4 i _ hr
      rw [Gl.optsOf_at hx (xs := (Gl.ranked (Gl.bent c (Gl.psOf us i))).tail) (k := Gl.klass c) (by rw [List.getElem?_map, hr]; rfl) (by rw [List.getElem?_map, hc]; rfl), hx2]
      have hlen := Gl.ranked_len (Gl.bent c (Gl.psOf us i))
      dsimp only
      cases hq : Gl.ranked (Gl.bent c (Gl.psOf us i)) with
      | nil => rw [hq] at hlen; cases hlen
      | cons a t => rfl
  have hk : ∀ c ∈ l.map Gl.klass, c = 100 ∨ c = 97 ∨ c = 120 := fun c hc => by
    obtain ⟨d, _, rfl⟩ := List.mem_map.1 hc
    unfold Gl.klass
    split
    · exact .inl rfl
    · exact .inr (.inl rfl)
  have key := resolve_least gs _ (l.map Gl.klass) (l.map fun c => (c, 1)) vg w h1 h3 (by omega) (by rw [List.length_map, h2]) hk (by omega) hL
  have e1 : (l.map fun c => ((c, 1) : Gl.Ch)).map (·.1) = l := by rw [List.map_map]; exact List.map_id l
  have e2 : Gl.sumC (l.map fun c => ((c, 1) : Gl.Ch)) (l.map fun c => ((c, 1) : Gl.Ch)).length = (l.length : Int) := by
    rw [List.length_map]
    exact Gl.sumC_ones l l.length (Nat.le_refl _)
  rw [e1, e2] at key
  exact key
set_option maxRecDepth 100000 in
set_option maxHeartbeats 4000000 in
theorem law_corrects (s : ByteArray) (a : Option Addr) (len cap : Nat) (us : List Nat) (w : World) (hs : s.size ≤ maxLen) (hz : Sl w (.slice a len cap) (us.map encU)) (hzl : us.length = len) (hzb : ∀ u ∈ us, u ≤ 255) (hlen : len ≤ maxLen) :
    Calls Tryz.prog 8 #[.string s, .slice a len cap] w fun e w' => e = .returned (.bool true) ∧ Ext w w' := by
  have HEX := Lib.hid example_any
  have hsz9 : s.size ≤ 9223372036854775807 := by unfold maxLen at hs; omega
  have hlen9 : len ≤ 9223372036854775807 := by unfold maxLen at hlen; omega
  clear hs hlen
  by_cases h0 : s.size = 0
  · have hb0 : ((s.size : Int) == 0) = true := by rw [h0]; rfl
    clear hz hzl hzb h0
    go_enter Tryz.func8, Tryz.ntmps8
    go_wp2_with fail
    refine (HEX.out _).mono ?_
    rintro e w2 ⟨rfl, hx2⟩
    go_wp2
    go_ret
    exact ⟨rfl, hx2⟩
  have hb0 : ((s.size : Int) == 0) = false := by rw [beq_eq_false_iff_ne]; omega
  by_cases h20 : 20 < s.size
  · have hb1 : decide ((20 : Int) < (s.size : Int)) = true := decide_eq_true (by omega)
    clear hz hzl hzb h0
    go_enter Tryz.func8, Tryz.ntmps8
    go_wp2_with fail
    refine (HEX.out _).mono ?_
    rintro e w2 ⟨rfl, hx2⟩
    go_wp2
    go_ret
    exact ⟨rfl, hx2⟩
  have hb1 : decide ((20 : Int) < (s.size : Int)) = false := decide_eq_false (by omega)
  have HZ := Lib.hid hz
  have HZL := Lib.hid hzl
  have HZB := Lib.hid hzb
  have hl0 : 0 < s.size := by omega
  have hl20 : s.size ≤ 20 := by omega
  clear hz hzl hzb h0 h20
  go_enter Tryz.func8, Tryz.ntmps8
  go_wp2
  go_loop [5, 6] (fun v5 v6 => ∃ (i : Nat) (P : ByteArray), i ≤ s.size ∧ v6 = .int .i64 (i : Int) ∧ v5 = .string P ∧ Hid (P = bS ((s.data.toList.take i).map Gl.klass)) ∧ Hid (∀ c ∈ s.data.toList.take i, Gl.solid c = true)) (fun _ v6 => s.size - (intOf v6).toNat)
  case atStart => exact ⟨0, ⟨#[]⟩, Nat.zero_le _, rfl, rfl, Lib.hid rfl, Lib.hid (fun c hc => by simp at hc)⟩
  case round =>
    obtain ⟨i, P, hi, rfl, rfl, HP, HS⟩ := hrel
    by_cases hlt : i < s.size
    · have hltI : (i : Int) < (s.size : Int) := by omega
      have hPs : P.size ≤ 20 := by rw [HP.out, bS_size, List.length_map]; exact Nat.le_trans (List.length_take_le ..) (by omega)
      have HTK := Lib.hid (take_snoc s i hlt)
      have hsolid := Gl.solidI s[i]
      have hkl : Hid (∀ k, Gl.klass s[i] = k → (s.data.toList.take (i + 1)).map Gl.klass = (s.data.toList.take i).map Gl.klass ++ [k]) := Lib.hid (fun k hk => by rw [HTK.out, List.map_append, ← hk]; rfl)
      have hsl : Hid (Gl.solid s[i] = true → ∀ c ∈ s.data.toList.take (i + 1), Gl.solid c = true) := Lib.hid (fun h c hc => by
        rw [HTK.out] at hc
        rcases List.mem_append.1 hc with hc | hc
        · exact HS.out c hc
        · rw [List.mem_singleton.1 hc]; exact h)
      have HSO := Lib.hid hsolid
      clear hsolid
      have hc0 : 0 ≤ (s[i].toNat : Int) := by omega
      have hc1 : (s[i].toNat : Int) ≤ 255 := by have := UInt8.toNat_lt s[i]; omega
      by_cases c1 : 48 ≤ (s[i].toNat : Int) ∧ (s[i].toNat : Int) ≤ 57
      · have d1 : decide (48 ≤ (s[i].toNat : Int)) = true := decide_eq_true c1.1
        have d2 : decide ((s[i].toNat : Int) ≤ 57) = true := decide_eq_true c1.2
        have hk : Hid (Gl.klass s[i] = 100) := Lib.hid (by unfold Gl.klass; rw [if_pos (by omega)])
        have ho : Hid (Gl.solid s[i] = true) := Lib.hid (by rw [HSO.out, d1, d2]; rfl)
        clear c1
        go_wp2
        go_round
        case rel => exact ⟨i + 1, _, hlt, by go_num, rfl, Lib.hid (by rw [hkl.out 100 hk.out, HP.out, ← bS_app]; rfl), Lib.hid (hsl.out ho.out)⟩
        case measure => simp [intOf]; omega
      · by_cases c3 : 65 ≤ (s[i].toNat : Int) ∧ (s[i].toNat : Int) ≤ 90
        · have d3 : decide (65 ≤ (s[i].toNat : Int)) = true := decide_eq_true c3.1
          have d4 : decide ((s[i].toNat : Int) ≤ 90) = true := decide_eq_true c3.2
          have d1 : decide (48 ≤ (s[i].toNat : Int)) = true := decide_eq_true (by omega)
          have d2 : decide ((s[i].toNat : Int) ≤ 57) = false := decide_eq_false (by omega)
          have hk : Hid (Gl.klass s[i] = 97) := Lib.hid (by unfold Gl.klass; rw [if_neg (by omega)])
          have ho : Hid (Gl.solid s[i] = true) := Lib.hid (by rw [HSO.out, d3, d4]; simp)
          clear c1 c3
          go_wp2
          go_round
          case rel => exact ⟨i + 1, _, hlt, by go_num, rfl, Lib.hid (by rw [hkl.out 97 hk.out, HP.out, ← bS_app]; rfl), Lib.hid (hsl.out ho.out)⟩
          case measure => simp [intOf]; omega
        · obtain ⟨e1, he1⟩ : ∃ e, decide (48 ≤ (s[i].toNat : Int)) = e := ⟨_, rfl⟩
          obtain ⟨e2, he2⟩ : ∃ e, decide ((s[i].toNat : Int) ≤ 57) = e := ⟨_, rfl⟩
          obtain ⟨e3, he3⟩ : ∃ e, decide (65 ≤ (s[i].toNat : Int)) = e := ⟨_, rfl⟩
          obtain ⟨e4, he4⟩ : ∃ e, decide ((s[i].toNat : Int) ≤ 90) = e := ⟨_, rfl⟩
          have h12 : e1 = false ∨ e2 = false := by
            by_cases h : 48 ≤ (s[i].toNat : Int)
            · exact .inr (by rw [← he2]; exact decide_eq_false (fun h' => c1 ⟨h, h'⟩))
            · exact .inl (by rw [← he1]; exact decide_eq_false h)
          have h34 : e3 = false ∨ e4 = false := by
            by_cases h : 65 ≤ (s[i].toNat : Int)
            · exact .inr (by rw [← he4]; exact decide_eq_false (fun h' => c3 ⟨h, h'⟩))
            · exact .inl (by rw [← he3]; exact decide_eq_false h)
          clear c1 c3
          cases e1 <;> cases e2 <;> cases e3 <;> cases e4 <;> simp only [Bool.true_eq_false, Bool.false_eq_true, or_self, or_true, true_or] at h12 h34
          all_goals
            go_wp2_with fail
            refine (HEX.out _).mono ?_
            rintro e w2 ⟨rfl, hx2⟩
            go_wp2
            go_ret
            exact ⟨rfl, hx2⟩
    · obtain rfl : i = s.size := by omega
      have hall : ∀ c ∈ s.data.toList, Gl.solid c = true := fun c hc => HS.out c (by rw [take_all]; exact hc)
      have hP : P = bS (s.data.toList.map Gl.klass) := by rw [HP.out, take_all]
      have hkn : ∀ c ∈ s.data.toList, Gl.known c = true := fun c hc => by rw [Gl.known_mem]; exact decide_eq_true (Gl.solid_chars (hall c hc))
      have HD := Lib.hid (fun w' => draw_any s 1 hkn hl0 hl20 (by omega) (by omega) w')
      have hwd : Gl.wid s.data.toList 1 = 6 * s.size - 1 := by unfold Gl.wid; rw [len_data, Nat.mul_one]
      have HST := Lib.hid (Gl.BentI.start s.data.toList us)
      have HSP := Lib.hid (fun i m (h : Gl.BentI s.data.toList us i m) (hi : i < s.data.toList.length) => h.step hi)
      have HRS := Lib.hid (fun vg w' (h : LineAt w' vg 0 1 ((List.range s.data.toList.length).map fun i => (0 + 6 * i * 1, Gl.ranked (Gl.bent (s.data.toList.getD i 32) (Gl.psOf us i))))) => resolve_bent s.data.toList us vg w' (by rw [len_data]; exact hl0) (by rw [len_data]; exact hl20) hall h)
      rw [← hP, show bS s.data.toList = s from mk_toList s] at HRS
      have hval : Gl.valid (Gl.wid s.data.toList 1 : Int) ((7 : Nat) : Int) (Gl.wid s.data.toList 1 * 7) = true := by
        unfold Gl.valid Gl.poss
        simp only [Bool.and_eq_true, decide_eq_true_eq]
        rw [hwd]
        omega
      have hins : Gl.ins (Gl.wid s.data.toList 1 : Int) ((7 : Nat) : Int) ((0 : Nat) : Int) ((0 : Nat) : Int) (Gl.wid s.data.toList 1 : Int) ((7 : Nat) : Int) = true := by
        unfold Gl.ins
        simp only [Bool.and_eq_true, decide_eq_true_eq]
        omega
      have HRE := Lib.hid (fun v (m : List Bool) w' (hm : Gl.BentI s.data.toList us s.data.toList.length m) (h : SlK w' v (m.map encT)) => by
        have h1 := read_any v m (Gl.wid s.data.toList 1) 7 0 0 (Gl.wid s.data.toList 1) 7 1 w' h hm.len (by rw [hm.len]; exact hval) hins (by omega) (by omega)
        rw [Gl.read_bent s.data.toList m (Gl.psOf us) (by rw [len_data]; exact hl0) hm.ends] at h1
        exact h1)
      have hbt : ∀ i, i < s.size → Gl.bentAt s.data.toList us i < Gl.wid s.data.toList 1 * 7 := fun i hi => Gl.bentAt_lt s.data.toList us i (by rw [len_data]; exact hi)
      obtain ⟨T, hT⟩ : ∃ T, s.data.toList.length = T := ⟨_, rfl⟩
      obtain ⟨W0, hW0⟩ : ∃ W0, Gl.wid s.data.toList 1 = W0 := ⟨_, rfl⟩
      obtain ⟨N, hN⟩ : ∃ N, W0 * 7 = N := ⟨_, rfl⟩
      have hBA : ∀ i, Gl.bentAt s.data.toList us i = Gl.psOf us i / 5 * W0 + (6 * i + Gl.psOf us i % 5) := fun i => by unfold Gl.bentAt; rw [hW0]
      simp only [Nat.mul_one] at HD
      rw [hW0] at HD HRE hwd hbt
      rw [hN] at HD hbt
      have HLN : Hid (∀ i m, Gl.BentI s.data.toList us i m → m.length = N) := Lib.hid (fun i m h => by rw [h.len, hW0, hN])
      have hNb : N ≤ 833 ∧ 1 ≤ N := by omega
      have hWb : W0 ≤ 119 ∧ 1 ≤ W0 := by omega
      have HBA := Lib.hid hBA
      have HBT := Lib.hid hbt
      have HTT : Hid (s.data.toList.length = s.size) := Lib.hid (len_data s)
      rw [hT] at HRE HRS
      have HTL : Hid (T = s.size) := Lib.hid (by rw [← hT]; exact len_data s)
      clear HP HS hall hP hkn hwd hval hins hT hW0 hN hi hlt hbt hBA
      go_wp2_with fail
      refine (HD.out _).mono ?_
      rintro e w1 ⟨b, rfl, hbw, hrow, hx1⟩
      have hbl : b < w1.heap.size := by
        obtain ⟨c, h1, _⟩ := hrow
        exact lt_at h1
      have HM1 := Lib.hid (heap_alloc_new w1 (.cells #[.int .i64 (W0 : Int), .int .i64 7, .slice (some ⟨b, 0, none⟩) N N] 24))
      have HR1 := Lib.hid (Ext.rowX hrow ((Ext.refl w1).alloc (.cells #[.int .i64 (W0 : Int), .int .i64 7, .slice (some ⟨b, 0, none⟩) N N] 24)))
      have HX1 := Lib.hid hx1
      obtain ⟨bm, hbm⟩ : ∃ bm, w1.heap.size = bm := ⟨_, rfl⟩
      rw [hbm] at HM1 hbl
      have HBM := Lib.hid hbm
      clear hx1 hrow HD
      go_wp2
      go_loopw [9] (fun v9 wr => ∃ i : Nat, i ≤ s.size ∧ v9 = .int .i64 (i : Int) ∧ BentR s.data.toList us W0 N b bm w i wr) (fun v9 _ => s.size - (intOf v9).toNat)
      case atStart => exact ⟨0, Nat.zero_le _, rfl, _, HST.out, HM1.out, HR1.out, HX1.out.alloc _⟩
      case round =>
        obtain ⟨i, hi, rfl, mm, hB, hM, hR, hxr⟩ := hrel
        have m0 := cell_at hM (i := 0) rfl
        have m1 := cell_at hM (i := 1) rfl
        have m2 := cell_at hM (i := 2) rfl
        have HB := Lib.hid hB
        have HM := Lib.hid hM
        have HR := Lib.hid hR
        have HX := Lib.hid hxr
        by_cases hlt : i < s.size
        · have hltI : (i : Int) < (s.size : Int) := by omega
          have hps := Gl.psOf_lt us i
          have hba := HBA.out i
          have hbt := HBT.out i hlt
          obtain ⟨q, hq⟩ : ∃ q, Gl.psOf us i = q := ⟨_, rfl⟩
          rw [hq] at hps hba
          obtain ⟨p, hp⟩ : ∃ p, Gl.bentAt s.data.toList us i = p := ⟨_, rfl⟩
          rw [hp] at hba hbt
          have HSP1 := Lib.hid (HSP.out i mm hB (by rw [HTT.out]; exact hlt))
          rw [hp] at HSP1
          obtain ⟨q5, hq5⟩ : ∃ q5, q / 5 = q5 := ⟨_, rfl⟩
          obtain ⟨q6, hq6⟩ : ∃ q6, q % 5 = q6 := ⟨_, rfl⟩
          rw [hq5, hq6] at hba
          obtain ⟨a1, ha1⟩ : ∃ a1, q5 * W0 = a1 := ⟨_, rfl⟩
          rw [ha1] at hba
          obtain ⟨a2, ha2⟩ : ∃ a2, 6 * i = a2 := ⟨_, rfl⟩
          rw [ha2] at hba
          have f1 : (q : Int) / 5 = (q5 : Int) := by omega
          have f2 : (q : Int) % 5 = (q6 : Int) := by omega
          have f3 : (q5 : Int) * (W0 : Int) = (a1 : Int) := by rw [← ha1]; simp
          have f4 : (6 : Int) * (i : Int) = (a2 : Int) := by omega
          obtain ⟨a3, ha3⟩ : ∃ a3, a1 + a2 = a3 := ⟨_, rfl⟩
          have f5 : (a1 : Int) + (a2 : Int) = (a3 : Int) := by omega
          have f6 : (a3 : Int) + (q6 : Int) = (p : Int) := by omega
          have ha1b : a1 ≤ 1000 := by omega
          have ha2b : a2 ≤ 1000 := by omega
          have ha3b : a3 ≤ 2000 := by omega
          have hpI : (p : Int) < (N : Int) := by omega
          have rc := hR.cell hbt
          have rf := hR.frozen p
          have kl := lt_at hM
          obtain ⟨bt, hbt2⟩ : ∃ bt, mm.getD p false = bt := ⟨_, rfl⟩
          rw [hbt2] at rc HSP1
          have HBT2 := Lib.hid hbt2
          have hpN := hbt
          have hrd : Hid (∀ u : World → World, True) := Lib.hid (fun _ => trivial)
          by_cases hl0' : len = 0
          · have hcond : decide ((0 : Int) < (len : Int)) = false := decide_eq_false (by omega)
            have hcondN : decide (0 < len) = false := decide_eq_false (by omega)
            have hq0 : q = 0 := by rw [← hq]; unfold Gl.psOf; rw [if_pos (by rw [HZL.out]; exact hl0')]
            have hz5 : q5 = 0 := by omega
            have hz6 : q6 = 0 := by omega
            have hz1 : a1 = 0 := by rw [← ha1, hz5, Nat.zero_mul]
            obtain rfl : p = a2 := by omega
            subst hq0
            clear hbt hbt2 hba hps hq hp hq5 hq6 ha1 ha2 ha3 hB hM hR hxr
            go_wp2
            go_region
            go_wp2
            go_roundw
            case rel =>
              refine ⟨i + 1, by omega, by go_num, _, HSP1.out, far1 (by omega) HM.out, ?_, (HX.out.setCell (p := ⟨b, p, none⟩) hbw _).drew⟩
              refine ((HR.out.set p (.bool !bt))).congr fun j hj => ?_
              rw [Gl.set_at _ _ _ _ _ (by rw [HLN.out i mm HB.out]; exact hpN)]
              split <;> rfl
            case measure => simp [intOf]; omega
          · have hcond : decide ((0 : Int) < (len : Int)) = true := decide_eq_true (by omega)
            have hcondN : decide (0 < len) = true := decide_eq_true (by omega)
            obtain ⟨r, hr⟩ : ∃ r, i % len = r := ⟨_, rfl⟩
            have g1 : (i : Int) % (len : Int) = (r : Int) := by rw [← hr]; rfl
            have hrl : r < len := by rw [← hr]; exact Nat.mod_lt _ (by omega)
            obtain ⟨u, hu⟩ : ∃ u, us[r]? = some u := ⟨_, List.getElem?_eq_getElem (by rw [HZL.out]; exact hrl)⟩
            have hub := HZB.out u (List.mem_of_getElem? hu)
            obtain ⟨bz, oz, rfl, _, hz1⟩ := (HZ.out.ext hxr).at_ (k := r) (by rw [List.length_map, HZL.out]; exact hrl)
            have z1 : wr.cell? ⟨bz, oz + r, none⟩ = some (.int .u8 (u : Int)) := by
              rw [List.getElem_map, (List.getElem?_eq_some_iff.1 hu).2] at hz1
              exact hz1
            have hqu : q = u % 35 := by
              rw [← hq]
              unfold Gl.psOf
              rw [HZL.out, hr, if_neg hl0', List.getD_eq_getElem?_getD, hu]
              rfl
            have g2 : (u : Int) % 35 = (q : Int) := by omega
            have hrI : (r : Int) < (len : Int) := by omega
            clear hqu hr hu hz1
            clear hbt hbt2 hba hps hq hp hq5 hq6 ha1 ha2 ha3 hB hM hR hxr
            go_wp2
            go_region
            go_wp2
            go_roundw
            case rel =>
              refine ⟨i + 1, by omega, by go_num, _, HSP1.out, far1 (by omega) HM.out, ?_, (HX.out.setCell (p := ⟨b, p, none⟩) hbw _).drew⟩
              refine ((HR.out.set p (.bool !bt))).congr fun j hj => ?_
              rw [Gl.set_at _ _ _ _ _ (by rw [HLN.out i mm HB.out]; exact hpN)]
              split <;> rfl
            case measure => simp [intOf]; omega
        · obtain rfl : i = s.size := by omega
          have HRD : Hid (Calls Tryz.prog 21 #[.agg #[.int .i64 (W0 : Int), .int .i64 7, .slice (some ⟨b, 0, none⟩) N N], .agg #[.int .i64 0, .int .i64 0, .int .i64 (W0 : Int), .int .i64 7], .int .i64 1] wr fun e w' => ∃ t a n c, e = .returned (.tuple #[.agg #[.int .i64 0, .int .i64 0, .int .i64 (W0 : Int), .int .i64 7, .string t, .slice a n c], .int .i64 0]) ∧ LineAt w' (.slice a n c) 0 1 ((List.range T).map fun i => (0 + 6 * i * 1, Gl.ranked (Gl.bent (s.data.toList.getD i 32) (Gl.psOf us i)))) ∧ Ext wr w') := Lib.hid ((HRE.out (.slice (some ⟨b, 0, none⟩) N N) mm wr (by rw [HTL.out]; exact hB) (slk_row (HLN.out _ mm hB) hR)).mono fun e w' ⟨vg, he, ⟨gs, hk, hk2⟩, hx⟩ => by
            obtain ⟨a, c, rfl⟩ := hk.form
            exact ⟨_, a, _, c, he, ⟨gs, hk, hk2⟩, hx⟩)
          clear hB hM hR hxr hlt hi
          go_wp2_with fail
          refine HRD.out.mono ?_
          rintro e w3 ⟨t3, a3, n3, c3, rfl, hl3, hx3⟩
          have hz3 : Ext w3 (w3.alloc (.cells #[.int .i64 0, .int .i64 0, .int .i64 (W0 : Int), .int .i64 7, .string t3, .slice a3 n3 c3] 45)) := (Ext.refl _).alloc _
          have HX3 := Lib.hid ((HX.out.trans hx3).trans hz3)
          have HRR := Lib.hid (HRS.out (.slice a3 n3 c3) _ (by
            obtain ⟨gs, g1, g2, g3⟩ := hl3
            exact ⟨gs, g1.ext hz3, g2, fun i r hi => by obtain ⟨g, c, h1, h2⟩ := g3 i r hi; exact ⟨g, c, h1, h2.ext hz3⟩⟩))
          clear hx3 hl3 hz3 m0 m1 m2
          go_wp2_with fail
          refine HRR.out.mono ?_
          rintro e w4 ⟨rfl, hx4⟩
          have HX4 := Lib.hid (HX3.out.trans hx4)
          rw [HTL.out]
          clear hx4
          have bz : ((s.size : Int) == (s.size : Int)) = true := by simp
          go_wp2_with fail
          refine (HEX.out _).mono ?_
          rintro e w5 ⟨rfl, hx5⟩
          have HX5 := Lib.hid (HX4.out.trans hx5)
          clear hx5
          go_wp2
          go_ret
          exact ⟨rfl, HX5.out⟩
theorem law_corrects' (s : ByteArray) (a : Option Addr) (len cap : Nat) (zs : List Int) (w : World) (hs : s.size ≤ maxLen)
    (hz : (a = none ∧ len = 0 ∧ cap = 0 ∧ zs = []) ∨ ∃ x, a = some x ∧ len ≤ cap ∧ cap ≤ maxLen ∧ zs.length = cap ∧ (∀ i, i < zs.length → w.cell? (x.add i) = some (.int .u8 (zs.getD i 0))) ∧ ∀ n ∈ zs, (Lit.int .u8 n).wf = true) :
    Calls Tryz.prog 8 #[.string s, .slice a len cap] w fun e w' => e = .returned (.bool true) ∧ Ext w w' := by
  obtain ⟨us, h1, h2, h3, h4⟩ := u8s_sl hz
  exact law_corrects s a len cap us w hs h2 h1 h3 h4
end Go.Proofs.YtamkgbodifjlaaaGreatDoor
