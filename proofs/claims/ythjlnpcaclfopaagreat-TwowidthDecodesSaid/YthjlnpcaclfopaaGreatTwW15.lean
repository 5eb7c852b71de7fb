/-
  Chapter 12: Plain, walked.
  Condition: the string is within the reach.
-/
import Derived.Test.YthjlnpcaclfopaaGreatTwW14
import Derived.Maps.OwnSet
import Derived.Maps.Views
import Derived.StringKeys
namespace Go.Proofs.YthjlnpcaclfopaaGreat
open Go.RowKit Go.WideMaps Go.Maps

/-- The table of pairs after k characters. -/
def tab : Nat → DataW Unit
  | 0 => .map []
  | k + 1 => (tab k).put (.string (Tw.rep (UInt8.ofNat k))) (.lit (.int .u8 (k : Int)))
theorem tab_map : ∀ k, IsMap (tab k)
  | 0 => isMap_empty
  | k + 1 => (tab_map k).put _ _
theorem rep_inj : ∀ a b : Fin 128, Tw.rep (UInt8.ofNat a.val) = Tw.rep (UInt8.ofNat b.val) → a = b := by decide +kernel
theorem tab_has (p : List UInt8) : ∀ k, Maps.has (tab k) (.string p) = (List.range k).any fun c => Tw.rep (UInt8.ofNat c) == p
  | 0 => rfl
  | k + 1 => by
    rw [List.range_succ, List.any_append, tab]
    by_cases h : Tw.rep (UInt8.ofNat k) = p
    · rw [← h, has_put_same (tab_map k) (show WideAt.IsKeyLit (.string _) from trivial)]; simp
    · rw [has_put_other (fun e => h (by injection e with e; exact e.symm)), tab_has p k]
      simp [h]
theorem tab_at (z : DataW Unit) (c : Nat) : ∀ k, k ≤ 128 → c < k → (tab k).atKey (.string (Tw.rep (UInt8.ofNat c))) z = .lit (.int .u8 (c : Int))
  | 0, _, h => absurd h (Nat.not_lt_zero _)
  | k + 1, hk, h => by
    rw [tab]
    by_cases e : c = k
    · subst e; exact atKey_put_same (tab_map c) (show WideAt.IsKeyLit (.string _) from trivial) _ _
    · rw [atKey_put_other (fun e2 => e (by
        injection e2 with e2
        have := rep_inj ⟨c, by omega⟩ ⟨k, by omega⟩ e2
        simpa using this))]
      exact tab_at z c k (by omega) (by omega)
theorem unrep_some {p : List UInt8} {x : UInt8} (h : Tw.unrep p = some x) : Maps.has (tab 128) (.string p) = true ∧ ∀ z, (tab 128).atKey (.string p) z = .lit (.int .u8 (x.toNat : Int)) := by
  unfold Tw.unrep at h
  have h1 := List.find?_some h
  have h2 := List.mem_of_find?_eq_some h
  rw [List.mem_map] at h2
  obtain ⟨c, hc, rfl⟩ := h2
  have hc' : c < 128 := by simpa using hc
  have h3 : Tw.rep (UInt8.ofNat c) = p := by simpa using h1
  have e : (UInt8.ofNat c).toNat = c := by simp; omega
  refine ⟨?_, fun z => ?_⟩
  · rw [tab_has, List.any_eq_true]; exact ⟨c, hc, h1⟩
  · rw [← h3, e]; exact tab_at z c 128 (Nat.le_refl _) hc'
theorem unrep_none {p : List UInt8} (h : Tw.unrep p = none) : Maps.has (tab 128) (.string p) = false := by
  unfold Tw.unrep at h
  rw [List.find?_eq_none] at h
  rw [tab_has, List.any_eq_false]
  intro c hc
  exact h _ (List.mem_map.2 ⟨c, hc, rfl⟩)

theorem zero_byte (w : World) : (zeroValue 5).run Tryz.prog w = .ok (.int .u8 0) w := by kernel_rfl

theorem plain_end (f : Nat) (acc : List UInt8) : Tw.plainGo f [] acc = (acc, 0) := by cases f <;> rfl

set_option maxRecDepth 100000 in
set_option maxHeartbeats 4000000 in
theorem plain_any (s : ByteArray) (w : World) (hs : s.size ≤ 9223372036854775807) :
    Calls Tryz.prog 16 #[.string s] w (DecR (Tw.plain s.data.toList) w) := by
  have HT := Lib.hid (Tw.plain.eq_1 s.data.toList)
  rw [len_data] at HT
  generalize Tw.plain s.data.toList = res at *
  by_cases hl : 1000 < s.size
  · rw [if_pos hl] at HT
    go_enter Tryz.func16, Tryz.ntmps16
    go_wp2
    go_ret2
    exact ⟨by rw [HT.out]; rfl, Ext.refl _⟩
  · rw [if_neg hl] at HT
    have hl' : s.size ≤ 1000 := by omega
    clear hl
    have hmm := @run_makeMap Tryz.prog
    have d1000 : decide (1000 < (s.size : Int)) = false := by simp; omega
    go_enter Tryz.func16, Tryz.ntmps16
    go_wp2
    go_loopw [15] (fun i wr => ∃ k : Nat, k ≤ 128 ∧ i = .int .i64 (k : Int) ∧ wr.ownsMap Tryz.prog 9 (plainElem Tryz.prog 5) w.heap.size k (tab k) ∧ Ext w wr) (fun i _ => 128 - (intOf i).toNat)
    case atStart => exact ⟨0, Nat.zero_le _, rfl, World.ownsMap_made _ _ _ _, (by repeat (first | exact Ext.refl _ | assumption | refine Ext.alloc ?_ _ | refine Ext.drew ?_ | refine Ext.trans ?_ (by assumption)))⟩
    case round =>
      obtain ⟨k, hk, rfl, hown, hxr⟩ := hrel
      by_cases hlt : k < 128
      · have HRP := Lib.hid (fun w => represent_any (UInt8.ofNat k) w)
        have e : (UInt8.ofNat k).toNat = k := by simp; omega
        rw [e] at HRP
        have HTB : Hid (tab (k + 1) = (tab k).put (.string (Tw.rep (UInt8.ofNat k))) (.lit (.int .u8 (k : Int)))) := Lib.hid rfl
        have hr2 := rep_len (UInt8.ofNat k)
        generalize Tw.rep (UInt8.ofNat k) = r at *
        obtain ⟨R, rfl⟩ : ∃ C : ByteArray, r = C.data.toList := ⟨⟨r.toArray⟩, by simp⟩
        simp only [strV, mk_toList] at HRP
        rw [len_data] at hr2
        have hkey : keyOf Tryz.prog 9 (.string R) = some (.string R.data.toList) := keyOf_string_mk Tryz.underlying9 (by unfold maxLen; omega)
        clear e hmm
        go_wp2_with fail
        refine (HRP.out _).mono ?_
        rintro e w1 ⟨rfl, hx1⟩
        have hown1 := hown.kept hx1.asGrown (by simp)
        replace hxr := hxr.trans hx1
        go_wp2_with (at_mapUpdate; refine wpList_mapUpdate_own _ rfl _ _ _ 75 rfl 9 5 (string_keyed Tryz.underlying9) Tryz.underlying75 _ w.heap.size k _ rfl hown1 (by unfold maxLen; omega) _ _ _ rfl rfl hkey _ [] (plainElem_int Tryz.underlying5 ?c1) ?_)
        case c1 => exact WalkArith.wf_u8 (by omega)
        intro w2 hown2 hg2
        have R2 := hxr.ofGrown hg2 (fun j hj => by cases hj; exact Nat.le_refl _)
        clear hown hown1 hkey hx1 hg2
        go_wp2
        go_roundw
        case rel => exact ⟨k + 1, by omega, by go_num, by rw [HTB.out]; exact hown2, R2⟩
        case measure => simp [intOf]; omega
      · have e128 : k = 128 := by omega
        rw [e128] at hown
        have hk128 : 128 ≤ k := by omega
        clear hk hlt hmm e128
        go_wp2
        obtain ⟨w0, rfl⟩ : ∃ w0 : World, w0 = wr := ⟨_, rfl⟩
        have hw0 : w.heap.size < w0.heap.size := hown.lt
        go_loopw [7, 6] (fun i c wq => ∃ (n f : Nat) (acc : List UInt8), n ≤ s.size + 1 ∧ i = .int .i64 (n : Int) ∧ Hid (s.size - n ≤ f ∧ res = Tw.plainGo f (s.data.toList.drop n) acc) ∧ acc.length ≤ n ∧ Own 5 wq w0.heap.size c (acc.map encB) ∧ wq.ownsMap Tryz.prog 9 (plainElem Tryz.prog 5) w.heap.size 128 (tab 128) ∧ Ext w wq ∧ w0.heap.size ≤ wq.heap.size) (fun i _ _ => s.size - (intOf i).toNat)
        case atStart => exact ⟨0, s.size, [], Nat.zero_le _, rfl, Lib.hid ⟨by omega, by rw [List.drop_zero]; exact HT.out⟩, Nat.le_refl _, Own.nil _ _ _, hown, hxr, Nat.le_refl _⟩
        case round =>
          obtain ⟨n, f, acc, hn, rfl, HG, hal, hac, hown, hxr, hwz⟩ := hrel
          by_cases hlt : n < s.size
          · obtain ⟨g, rfl⟩ : ∃ g, f = g + 1 := ⟨f - 1, by have := HG.out.1; omega⟩
            have hG2 := HG.out.2
            rw [drop_cons s n hlt, Tw.plainGo] at hG2
            have HG1 : Hid (s.size - n ≤ g + 1) := Lib.hid HG.out.1
            have HG2 := Lib.hid hG2
            clear hG2 HG
            have HIA : Hid (∀ w, Calls Tryz.prog 33 #[.string ⟨#[48, 49, 50, 51, 52, 53, 54, 55, 56, 57, 65, 66, 67, 68, 69, 70, 71, 72, 73, 74, 75, 76, 77, 78, 79, 80, 81, 82, 83, 84, 85, 86, 87, 88, 89, 90, 45, 46, 32, 36, 47, 43, 37]⟩, .int .u8 (s[n].toNat : Int)] w fun e w' => e = .returned (.int .i64 (Lib.indexByte Cd.syms s[n])) ∧ w = w') := Lib.hid (fun w => index_of _ s[n] w)
            have HIB : Hid (∀ w, Calls Tryz.prog 33 #[.string ⟨#[36, 47, 43, 37]⟩, .int .u8 (s[n].toNat : Int)] w fun e w' => e = .returned (.int .i64 (Lib.indexByte [36, 47, 43, 37] s[n])) ∧ w = w') := Lib.hid (fun w => index_of _ s[n] w)
            by_cases hia : Lib.indexByte Cd.syms s[n] < 0
            · rw [if_pos hia] at HG2
              generalize Lib.indexByte Cd.syms s[n] = xa at *
              clear HIB
              go_wp2_with fail
              refine (HIA.out _).mono ?_
              rintro e w1 ⟨rfl, rfl⟩
              go_wp2
              go_ret2
              exact ⟨by rw [HG2.out]; rfl, hxr⟩
            · rw [if_neg hia] at HG2
              generalize Lib.indexByte Cd.syms s[n] = xa at *
              have hia' : 0 ≤ xa := by omega
              have dia : decide (xa < 0) = false := by simp; omega
              clear hia
              by_cases hib : 0 ≤ Lib.indexByte [36, 47, 43, 37] s[n]
              · rw [if_pos hib] at HG2
                generalize Lib.indexByte [36, 47, 43, 37] s[n] = xb at *
                obtain ⟨q, hq, hqq⟩ : ∃ q : Nat, min ((n : Int) + 2) (s.size : Int) = (q : Int) ∧ q = min (n + 2) s.size := ⟨min (n + 2) s.size, by omega, rfl⟩
                have hk : (s.extract n q).data.toList = (s[n] :: s.data.toList.drop (n + 1)).take 2 := by
                  rw [cut_mid, ← drop_cons s n hlt, hqq]
                  apply List.ext_getElem?
                  intro i
                  by_cases h2 : i < 2
                  · by_cases h3 : n + i < s.size
                    · rw [List.getElem?_take_of_lt (by omega), List.getElem?_take_of_lt h2]
                    · rw [List.getElem?_eq_none (by simp; omega), List.getElem?_eq_none (by simp; omega)]
                  · rw [List.getElem?_eq_none (by simp; omega), List.getElem?_eq_none (by simp; omega)]
                have hdd : (s.data.toList.drop (n + 1)).drop 1 = s.data.toList.drop (n + 2) := by rw [List.drop_drop]
                rw [← hk, hdd] at HG2
                have hq1 : n ≤ q := by omega
                have hq2 : q ≤ s.size := by omega
                have hkey : keyOf Tryz.prog 9 (.string (s.extract n q)) = some (.string (s.extract n q).data.toList) := keyOf_string_mk Tryz.underlying9 (by unfold maxLen; rw [ByteArray.size_extract]; omega)
                have HQ := Lib.hid hqq
                clear hk hdd hqq
                generalize (s.extract n q).data.toList = key at *
                cases hu : Tw.unrep key with
                | none =>
                  rw [hu] at HG2
                  have hhas := unrep_none hu
                  clear hu
                  go_wp2_with fail
                  refine (HIA.out _).mono ?_
                  rintro e w1 ⟨rfl, rfl⟩
                  go_wp2_with fail
                  refine (HIB.out _).mono ?_
                  rintro e w1 ⟨rfl, rfl⟩
                  go_wp2_with (at_lookup; refine wpList_lookup_own_ok_int _ rfl _ _ 75 rfl 9 5 .u8 (string_keyed Tryz.underlying9) Tryz.underlying75 Tryz.underlying5 (zero_byte _) w.heap.size 128 _ rfl hown _ _ rfl hkey ?_)
                  intro c0 hat hwc
                  clear hat hwc hkey
                  go_wp2
                  go_ret2
                  exact ⟨by rw [HG2.out]; rfl, hxr⟩
                | some x =>
                  rw [hu] at HG2
                  obtain ⟨hhas, hatk⟩ := unrep_some hu
                  have HAT := Lib.hid hatk
                  clear hu hatk
                  go_wp2_with fail
                  refine (HIA.out _).mono ?_
                  rintro e w1 ⟨rfl, rfl⟩
                  go_wp2_with fail
                  refine (HIB.out _).mono ?_
                  rintro e w1 ⟨rfl, rfl⟩
                  go_wp2_with (at_lookup; refine wpList_lookup_own_ok_int _ rfl _ _ 75 rfl 9 5 .u8 (string_keyed Tryz.underlying9) Tryz.underlying75 Tryz.underlying5 (zero_byte _) w.heap.size 128 _ rfl hown _ _ rfl hkey ?_)
                  intro c0 hat hwc
                  rw [HAT.out] at hat
                  obtain rfl : (x.toNat : Int) = c0 := by injection hat with h1; injection h1
                  clear hat hwc hkey
                  go_wp2_with (at_builtin; refine append_byte rfl _ _ rfl w0.heap.size _ acc rfl (hac.alloc _) _ x rfl ?c1 ?c2 ?c3 ?_)
                  case c1 => simp [go_sem, encB]
                  case c2 => omega
                  case c3 => simp; omega
                  intro v' w5 hac5 hg5
                  have hown5 := (hown.alloc _).kept hg5 (by intro e; have := hac.low _ e.symm; omega)
                  have hx5 := (hxr.alloc _).ofGrown hg5 (fun k hk => Nat.le_trans (Nat.le_of_lt hw0) (hac.low k hk))
                  have hz5 : w0.heap.size ≤ w5.heap.size := by have := hg5.size; simp at this; omega
                  clear hac hown hxr hg5 hq hhas
                  go_wp2
                  go_roundw
                  case rel => exact ⟨n + 2, g, acc ++ [x], by omega, by go_num, Lib.hid ⟨by have := HG1.out; omega, HG2.out⟩, by rw [List.length_append]; simp; omega, by rw [List.map_append]; exact hac5, hown5, hx5, hz5⟩
                  case measure => simp [intOf]; omega
              · rw [if_neg hib] at HG2
                generalize Lib.indexByte [36, 47, 43, 37] s[n] = xb at *
                obtain ⟨q, hq, hqq⟩ : ∃ q : Nat, min ((n : Int) + 1) (s.size : Int) = (q : Int) ∧ q = n + 1 := ⟨n + 1, by omega, rfl⟩
                have dib : decide (0 ≤ xb) = false := by simp; omega
                have hk : (s.extract n q).data.toList = [s[n]] := by
                  rw [cut_mid, drop_cons s n hlt, hqq, show n + 1 - n = 1 by omega]; rfl
                rw [← hk] at HG2
                have hq1 : n ≤ q := by omega
                have hq2 : q ≤ s.size := by omega
                have hkey : keyOf Tryz.prog 9 (.string (s.extract n q)) = some (.string (s.extract n q).data.toList) := keyOf_string_mk Tryz.underlying9 (by unfold maxLen; rw [ByteArray.size_extract]; omega)
                have HQ := Lib.hid hqq
                clear hk hqq
                generalize (s.extract n q).data.toList = key at *
                cases hu : Tw.unrep key with
                | none =>
                  rw [hu] at HG2
                  have hhas := unrep_none hu
                  clear hu
                  go_wp2_with fail
                  refine (HIA.out _).mono ?_
                  rintro e w1 ⟨rfl, rfl⟩
                  go_wp2_with fail
                  refine (HIB.out _).mono ?_
                  rintro e w1 ⟨rfl, rfl⟩
                  go_wp2_with (at_lookup; refine wpList_lookup_own_ok_int _ rfl _ _ 75 rfl 9 5 .u8 (string_keyed Tryz.underlying9) Tryz.underlying75 Tryz.underlying5 (zero_byte _) w.heap.size 128 _ rfl hown _ _ rfl hkey ?_)
                  intro c0 hat hwc
                  clear hat hwc hkey
                  go_wp2
                  go_ret2
                  exact ⟨by rw [HG2.out]; rfl, hxr⟩
                | some x =>
                  rw [hu] at HG2
                  obtain ⟨hhas, hatk⟩ := unrep_some hu
                  have HAT := Lib.hid hatk
                  clear hu hatk
                  go_wp2_with fail
                  refine (HIA.out _).mono ?_
                  rintro e w1 ⟨rfl, rfl⟩
                  go_wp2_with fail
                  refine (HIB.out _).mono ?_
                  rintro e w1 ⟨rfl, rfl⟩
                  go_wp2_with (at_lookup; refine wpList_lookup_own_ok_int _ rfl _ _ 75 rfl 9 5 .u8 (string_keyed Tryz.underlying9) Tryz.underlying75 Tryz.underlying5 (zero_byte _) w.heap.size 128 _ rfl hown _ _ rfl hkey ?_)
                  intro c0 hat hwc
                  rw [HAT.out] at hat
                  obtain rfl : (x.toNat : Int) = c0 := by injection hat with h1; injection h1
                  clear hat hwc hkey
                  go_wp2_with (at_builtin; refine append_byte rfl _ _ rfl w0.heap.size _ acc rfl (hac.alloc _) _ x rfl ?c1 ?c2 ?c3 ?_)
                  case c1 => simp [go_sem, encB]
                  case c2 => omega
                  case c3 => simp; omega
                  intro v' w5 hac5 hg5
                  have hown5 := (hown.alloc _).kept hg5 (by intro e; have := hac.low _ e.symm; omega)
                  have hx5 := (hxr.alloc _).ofGrown hg5 (fun k hk => Nat.le_trans (Nat.le_of_lt hw0) (hac.low k hk))
                  have hz5 : w0.heap.size ≤ w5.heap.size := by have := hg5.size; simp at this; omega
                  clear hac hown hxr hg5 hq hhas
                  go_wp2
                  go_roundw
                  case rel => exact ⟨n + 1, g, acc ++ [x], by omega, by go_num, Lib.hid ⟨by have := HG1.out; omega, HG2.out⟩, by rw [List.length_append]; simp; omega, by rw [List.map_append]; exact hac5, hown5, hx5, hz5⟩
                  case measure => simp [intOf]; omega
          · have hge : s.size ≤ n := by omega
            have hG2 := HG.out.2
            rw [List.drop_of_length_le (by rw [len_data]; exact hge), plain_end] at hG2
            have HG2 := Lib.hid hG2
            have hcv := run_convert_sl hac.sl
            clear hn hlt hG2
            go_wp2
            go_ret2
            exact ⟨by rw [HG2.out]; rfl, hxr⟩
end Go.Proofs.YthjlnpcaclfopaaGreat
