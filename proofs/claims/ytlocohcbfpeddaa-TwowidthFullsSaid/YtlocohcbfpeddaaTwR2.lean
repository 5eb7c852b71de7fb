/-
  Chapter 12: the reference's Plain, walked; the law TwowidthFulls.
  Condition: the strings are within the reach.
-/
import Derived.Test.YtlocohcbfpeddaaTwR1
namespace Go.Proofs.Ytlocohcbfpeddaa
open Go.RowKit

theorem unrep_first {p : List UInt8} {k : Nat} (hk : k < 128) (h : Tw.rep (UInt8.ofNat k) = p) (hb : ∀ m, m < k → Tw.rep (UInt8.ofNat m) ≠ p) : Tw.unrep p = some (UInt8.ofNat k) := by
  unfold Tw.unrep
  rw [List.find?_map, Option.map_eq_some_iff]
  refine ⟨k, ?_, rfl⟩
  rw [List.find?_eq_some_iff_getElem]
  refine ⟨by simpa using h, k, by simpa using hk, by simp, fun i hi => ?_⟩
  simpa using hb i hi
theorem unrep_not {p : List UInt8} (hb : ∀ m, m < 128 → Tw.rep (UInt8.ofNat m) ≠ p) : Tw.unrep p = none := by
  unfold Tw.unrep
  rw [List.find?_eq_none]
  intro x hx
  rw [List.mem_map] at hx
  obtain ⟨m, hm, rfl⟩ := hx
  simpa using hb m (by simpa using hm)
theorem idx_mem {l : List UInt8} {c : UInt8} (h : 0 ≤ Lib.indexByte l c) : c ∈ l := by
  obtain ⟨n, hn⟩ := Int.eq_ofNat_of_zero_le h
  exact List.mem_of_getElem? (Lib.indexByte_some hn).1
theorem special_alone : ∀ c ∈ ([36, 47, 43, 37] : List UInt8), Tw.unrep [c] = none := by decide +kernel

set_option maxRecDepth 100000 in
set_option maxHeartbeats 8000000 in
theorem rplain_any (s : ByteArray) (w : World) (hs : s.size ≤ 9223372036854775807) :
    Calls Try.prog 14 #[.string s] w (DecR (Tw.plain s.data.toList) w) := by
  have HT := Lib.hid (Tw.plain.eq_1 s.data.toList)
  rw [len_data] at HT
  generalize Tw.plain s.data.toList = res at *
  by_cases hl : 1000 < s.size
  · rw [if_pos hl] at HT
    go_enter Try.func14, Try.ntmps14
    go_wp2
    go_ret2
    exact ⟨by rw [HT.out]; rfl, Ext.refl _⟩
  rw [if_neg hl] at HT
  have hl' : s.size ≤ 1000 := by omega
  have d1000 : decide (1000 < (s.size : Int)) = false := by simp; omega
  clear hl
  go_enter Try.func14, Try.ntmps14
  go_wp2
  go_loopw [5, 4] (fun i c wr => ∃ (n f : Nat) (A : ByteArray), n ≤ s.size ∧ i = .int .i64 (n : Int) ∧ c = .string A ∧ Hid (s.size - n ≤ f ∧ res = Tw.plainGo f (s.data.toList.drop n) A.data.toList) ∧ A.size ≤ n ∧ Ext w wr) (fun i _ _ => s.size - (intOf i).toNat)
  case atStart => exact ⟨0, s.size, ⟨#[]⟩, Nat.zero_le _, rfl, rfl, Lib.hid ⟨by omega, by rw [List.drop_zero]; exact HT.out⟩, Nat.zero_le _, Ext.refl _⟩
  case round =>
    obtain ⟨n, f, A, hn, rfl, rfl, HG, hal, hxr⟩ := hrel
    by_cases hlt : n < s.size
    · obtain ⟨g, rfl⟩ : ∃ g, f = g + 1 := ⟨f - 1, by have := HG.out.1; omega⟩
      have hG2 := HG.out.2
      rw [drop_cons s n hlt, Tw.plainGo] at hG2
      have HG1 : Hid (s.size - n ≤ g + 1) := Lib.hid HG.out.1
      have HG2 := Lib.hid hG2
      clear hG2 HG
      have dnl : decide (n < s.size) = true := by simpa using hlt
      have HIA : Hid (∀ w, Calls Try.prog 28 #[.string ⟨#[48, 49, 50, 51, 52, 53, 54, 55, 56, 57, 65, 66, 67, 68, 69, 70, 71, 72, 73, 74, 75, 76, 77, 78, 79, 80, 81, 82, 83, 84, 85, 86, 87, 88, 89, 90, 45, 46, 32, 36, 47, 43, 37]⟩, .int .u8 (s[n].toNat : Int)] w fun e w' => e = .returned (.int .i64 (Lib.indexByte Cd.syms s[n])) ∧ w = w') := Lib.hid (fun w => place_any _ s[n] w (by decide))
      have HIB : Hid (∀ w, Calls Try.prog 28 #[.string ⟨#[36, 47, 43, 37]⟩, .int .u8 (s[n].toNat : Int)] w fun e w' => e = .returned (.int .i64 (Lib.indexByte [36, 47, 43, 37] s[n])) ∧ w = w') := Lib.hid (fun w => place_any _ s[n] w (by decide))
      by_cases hia : Lib.indexByte Cd.syms s[n] < 0
      · rw [if_pos hia] at HG2
        generalize Lib.indexByte Cd.syms s[n] = xa at *
        clear HIB
        go_wp2_with fail
        refine (HIA.out _).mono ?_
        rintro e w1 ⟨rfl, rfl⟩
        go_wp2
        go_ret2
        exact ⟨by rw [HG2.out]; rfl, hxr⟩
      rw [if_neg hia] at HG2
      generalize Lib.indexByte Cd.syms s[n] = xa at *
      have dia : decide (xa < 0) = false := by simp; omega
      clear hia
      by_cases hib : 0 ≤ Lib.indexByte [36, 47, 43, 37] s[n]
      · rw [if_pos hib] at HG2
        have HSP := Lib.hid (special_alone s[n] (idx_mem hib))
        generalize Lib.indexByte [36, 47, 43, 37] s[n] = xb at *
        have dib : decide (0 ≤ xb) = true := by simp; omega
        by_cases hend : n + 1 = s.size
        · have hdr : s.data.toList.drop (n + 1) = [] := by rw [hend, drop_all]
          rw [hdr, show List.take 2 [s[n]] = [s[n]] from rfl, HSP.out] at HG2
          have de : ((n : Int) + 1 == (s.size : Int)) = true := by rw [beq_iff_eq]; omega
          clear hend hdr
          go_wp2_with fail
          refine (HIA.out _).mono ?_
          rintro e w1 ⟨rfl, rfl⟩
          go_wp2_with fail
          refine (HIB.out _).mono ?_
          rintro e w1 ⟨rfl, rfl⟩
          go_wp2
          go_ret2
          exact ⟨by rw [HG2.out]; rfl, hxr⟩
        · have de : ((n : Int) + 1 == (s.size : Int)) = false := by rw [beq_eq_false_iff_ne]; omega
          have hk : (s.extract n (n + 2)).data.toList = (s[n] :: s.data.toList.drop (n + 1)).take 2 := by
            rw [cut_mid, ← drop_cons s n hlt, show n + 2 - n = 2 by omega]
          have hdd : (s.data.toList.drop (n + 1)).drop 1 = s.data.toList.drop (n + 2) := by rw [List.drop_drop]
          rw [← hk, hdd] at HG2
          clear hk hdd
          obtain ⟨K, hK⟩ : ∃ K, s.extract n (n + 2) = K := ⟨_, rfl⟩
          rw [hK] at HG2
          have hn2 : n + 2 ≤ s.size := by omega
          clear hend HSP
          go_wp2_with fail
          refine (HIA.out _).mono ?_
          rintro e w1 ⟨rfl, rfl⟩
          go_wp2_with fail
          refine (HIB.out _).mono ?_
          rintro e w1 ⟨rfl, rfl⟩
          go_wp2
          first | rw [hK] | skip
          have HK := Lib.hid hK
          clear hK dia dib de dnl
          obtain ⟨wo, rfl⟩ : ∃ wo : World, wo = wr := ⟨_, rfl⟩
          go_loopw [7] (fun i wq => ∃ k : Nat, k ≤ 128 ∧ i = .int .i64 (k : Int) ∧ Hid (∀ m, m < k → Tw.rep (UInt8.ofNat m) ≠ K.data.toList) ∧ Ext wo wq) (fun i _ => 128 - (intOf i).toNat)
          case atStart => exact ⟨0, Nat.zero_le _, rfl, Lib.hid (fun m hm => absurd hm (Nat.not_lt_zero _)), Ext.refl _⟩
          case round =>
            obtain ⟨k, hk, rfl, HB, hxq⟩ := hrel
            by_cases hk8 : k < 128
            · have HRP := Lib.hid (fun w => rfull1_any (UInt8.ofNat k) w (by simp; omega))
              have e8 : (UInt8.ofNat k).toNat = k := by simp; omega
              rw [e8] at HRP
              have HBN : Hid (Tw.rep (UInt8.ofNat k) ≠ K.data.toList → Hid (∀ m, m < k + 1 → Tw.rep (UInt8.ofNat m) ≠ K.data.toList)) := Lib.hid (fun hne => Lib.hid (fun m hm => by
                rcases Nat.lt_or_eq_of_le (Nat.le_of_lt_succ hm) with h1 | rfl
                · exact HB.out m h1
                · exact hne))
              have HUF := Lib.hid (fun h => unrep_first (p := K.data.toList) hk8 h HB.out)
              clear e8
              by_cases hrk : Tw.rep (UInt8.ofNat k) = K.data.toList
              · have HU := Lib.hid (HUF.out hrk)
                rw [HU.out] at HG2
                rw [hrk] at HRP
                simp only [strV, mk_toList] at HRP
                have hcv := run_str1
                have hsz : (strOfNums [(k : Int)]).size = 1 := strOfNums_size _
                have d128 : ((k : Int) == 128) = false := by rw [beq_eq_false_iff_ne]; omega
                have HAA : Hid ((A ++ strOfNums [(k : Int)]).data.toList = A.data.toList ++ [UInt8.ofNat k]) := Lib.hid (by rw [app2, strOfNums_data]; simp)
                have HAS : Hid ((A ++ strOfNums [(k : Int)]).size = A.size + 1) := Lib.hid (by rw [size_of_toList HAA.out, List.length_append, len_data]; rfl)
                clear hrk HBN HUF HU
                go_wp2_with fail
                refine (HRP.out _).mono ?_
                rintro e w2 ⟨rfl, hx2⟩
                go_wp2
                go_roundw
                case rel => exact ⟨n + 2, g, A ++ strOfNums [(k : Int)], by omega, by go_num, rfl, Lib.hid ⟨by have := HG1.out; omega, by rw [HAA.out]; exact HG2.out⟩, by rw [HAS.out]; omega, ((hxr.trans hxq).trans hx2).alloc _⟩
                case measure => simp [intOf]; omega
              · have HN := HBN.out hrk
                generalize Tw.rep (UInt8.ofNat k) = r at *
                obtain ⟨R, rfl⟩ : ∃ C : ByteArray, r = C.data.toList := ⟨⟨r.toArray⟩, by simp⟩
                simp only [strV, mk_toList] at HRP
                have hne : (R.toList == K.toList) = false := by rw [Lib.toList_data, Lib.toList_data, beq_eq_false_iff_ne]; exact hrk
                clear hrk HBN HUF
                go_wp2_with fail
                refine (HRP.out _).mono ?_
                rintro e w2 ⟨rfl, hx2⟩
                go_wp2
                go_roundw
                case rel => exact ⟨k + 1, by omega, by go_num, HN, hxq.trans hx2⟩
                case measure => simp [intOf]; omega
            · have HU := Lib.hid (unrep_not (p := K.data.toList) (fun m hm => HB.out m (by omega)))
              rw [HU.out] at HG2
              have d128 : ((k : Int) == 128) = true := by rw [beq_iff_eq]; omega
              clear hk
              go_wp2
              go_ret2
              exact ⟨by rw [HG2.out]; rfl, hxr.trans hxq⟩
      · rw [if_neg hib] at HG2
        generalize Lib.indexByte [36, 47, 43, 37] s[n] = xb at *
        have dib : decide (0 ≤ xb) = false := by simp; omega
        have hk : (s.extract n (n + 1)).data.toList = [s[n]] := by
          rw [cut_mid, drop_cons s n hlt, show n + 1 - n = 1 by omega]; rfl
        rw [← hk] at HG2
        clear hk
        obtain ⟨K, hK⟩ : ∃ K, s.extract n (n + 1) = K := ⟨_, rfl⟩
        rw [hK] at HG2
        clear hib
        go_wp2_with fail
        refine (HIA.out _).mono ?_
        rintro e w1 ⟨rfl, rfl⟩
        go_wp2_with fail
        refine (HIB.out _).mono ?_
        rintro e w1 ⟨rfl, rfl⟩
        go_wp2
        first | rw [hK] | skip
        have HK := Lib.hid hK
        clear hK dia dib dnl
        obtain ⟨wo, rfl⟩ : ∃ wo : World, wo = wr := ⟨_, rfl⟩
        go_loopw [7] (fun i wq => ∃ k : Nat, k ≤ 128 ∧ i = .int .i64 (k : Int) ∧ Hid (∀ m, m < k → Tw.rep (UInt8.ofNat m) ≠ K.data.toList) ∧ Ext wo wq) (fun i _ => 128 - (intOf i).toNat)
        case atStart => exact ⟨0, Nat.zero_le _, rfl, Lib.hid (fun m hm => absurd hm (Nat.not_lt_zero _)), Ext.refl _⟩
        case round =>
          obtain ⟨k, hk, rfl, HB, hxq⟩ := hrel
          by_cases hk8 : k < 128
          · have HRP := Lib.hid (fun w => rfull1_any (UInt8.ofNat k) w (by simp; omega))
            have e8 : (UInt8.ofNat k).toNat = k := by simp; omega
            rw [e8] at HRP
            have HBN : Hid (Tw.rep (UInt8.ofNat k) ≠ K.data.toList → Hid (∀ m, m < k + 1 → Tw.rep (UInt8.ofNat m) ≠ K.data.toList)) := Lib.hid (fun hne => Lib.hid (fun m hm => by
              rcases Nat.lt_or_eq_of_le (Nat.le_of_lt_succ hm) with h1 | rfl
              · exact HB.out m h1
              · exact hne))
            have HUF := Lib.hid (fun h => unrep_first (p := K.data.toList) hk8 h HB.out)
            clear e8
            by_cases hrk : Tw.rep (UInt8.ofNat k) = K.data.toList
            · have HU := Lib.hid (HUF.out hrk)
              rw [HU.out] at HG2
              rw [hrk] at HRP
              simp only [strV, mk_toList] at HRP
              have hcv := run_str1
              have hsz : (strOfNums [(k : Int)]).size = 1 := strOfNums_size _
              have d128 : ((k : Int) == 128) = false := by rw [beq_eq_false_iff_ne]; omega
              have HAA : Hid ((A ++ strOfNums [(k : Int)]).data.toList = A.data.toList ++ [UInt8.ofNat k]) := Lib.hid (by rw [app2, strOfNums_data]; simp)
              have HAS : Hid ((A ++ strOfNums [(k : Int)]).size = A.size + 1) := Lib.hid (by rw [size_of_toList HAA.out, List.length_append, len_data]; rfl)
              clear hrk HBN HUF HU
              go_wp2_with fail
              refine (HRP.out _).mono ?_
              rintro e w2 ⟨rfl, hx2⟩
              go_wp2
              go_roundw
              case rel => exact ⟨n + 1, g, A ++ strOfNums [(k : Int)], by omega, by go_num, rfl, Lib.hid ⟨by have := HG1.out; omega, by rw [HAA.out]; exact HG2.out⟩, by rw [HAS.out]; omega, ((hxr.trans hxq).trans hx2).alloc _⟩
              case measure => simp [intOf]; omega
            · have HN := HBN.out hrk
              generalize Tw.rep (UInt8.ofNat k) = r at *
              obtain ⟨R, rfl⟩ : ∃ C : ByteArray, r = C.data.toList := ⟨⟨r.toArray⟩, by simp⟩
              simp only [strV, mk_toList] at HRP
              have hne : (R.toList == K.toList) = false := by rw [Lib.toList_data, Lib.toList_data, beq_eq_false_iff_ne]; exact hrk
              clear hrk HBN HUF
              go_wp2_with fail
              refine (HRP.out _).mono ?_
              rintro e w2 ⟨rfl, hx2⟩
              go_wp2
              go_roundw
              case rel => exact ⟨k + 1, by omega, by go_num, HN, hxq.trans hx2⟩
              case measure => simp [intOf]; omega
          · have HU := Lib.hid (unrep_not (p := K.data.toList) (fun m hm => HB.out m (by omega)))
            rw [HU.out] at HG2
            have d128 : ((k : Int) == 128) = true := by rw [beq_iff_eq]; omega
            clear hk
            go_wp2
            go_ret2
            exact ⟨by rw [HG2.out]; rfl, hxr.trans hxq⟩
    · have hge : s.size ≤ n := by omega
      have hG2 := HG.out.2
      rw [List.drop_of_length_le (by rw [len_data]; exact hge), plain_end] at hG2
      have HG2 := Lib.hid hG2
      have dnl : decide (n < s.size) = false := by simp; omega
      clear hn hG2
      go_wp2
      go_ret2
      exact ⟨by rw [HG2.out]; exact ret_pair' rfl rfl, hxr⟩

set_option maxRecDepth 100000 in
set_option maxHeartbeats 4000000 in
theorem law_fulls (s t : ByteArray) (w : World) (hs : s.size ≤ 9223372036854775807) (ht : t.size ≤ 9223372036854775807) :
    Calls Try.prog 3 #[.string s, .string t] w fun e w' => e = .returned (.bool true) ∧ Ext w w' := by
  by_cases hs4 : 200 < s.size
  · go_enter Try.func3, Try.ntmps3
    go_wp2_with fail
    refine (example_any _).mono ?_
    rintro e wz ⟨rfl, hz⟩
    go_wp2
    go_ret
    exact ⟨rfl, hz⟩
  by_cases ht4 : 200 < t.size
  · go_enter Try.func3, Try.ntmps3
    go_wp2_with fail
    refine (example_any _).mono ?_
    rintro e wz ⟨rfl, hz⟩
    go_wp2
    go_ret
    exact ⟨rfl, hz⟩
  have H1 := Lib.hid (fun w => full_any s w hs)
  have H2 := Lib.hid (fun w => rfull_any s w (by omega))
  have H3 := Lib.hid (fun w => plain_any t w ht)
  have H4 := Lib.hid (fun w => rplain_any t w ht)
  generalize Tw.full s.data.toList = fa at *
  generalize Tw.plain t.data.toList = pt at *
  obtain ⟨fa1, fa2⟩ := fa
  obtain ⟨pt1, pt2⟩ := pt
  obtain ⟨A, rfl⟩ : ∃ C : ByteArray, fa1 = C.data.toList := ⟨⟨fa1.toArray⟩, by simp⟩
  obtain ⟨C, rfl⟩ : ∃ C : ByteArray, pt1 = C.data.toList := ⟨⟨pt1.toArray⟩, by simp⟩
  replace H1 := Lib.hid (fun w => decR_at (H1.out w))
  replace H2 := Lib.hid (fun w => decR_at (H2.out w))
  replace H3 := Lib.hid (fun w => decR_at (H3.out w))
  replace H4 := Lib.hid (fun w => decR_at (H4.out w))
  have b1 : (fa2 == fa2) = true := beq_self_eq_true _
  have b2 : (pt2 == pt2) = true := beq_self_eq_true _
  go_enter Try.func3, Try.ntmps3
  go_wp2_with fail
  refine (H1.out _).mono ?_
  rintro e w1 ⟨rfl, x1⟩
  go_wp2_with fail
  refine (H2.out _).mono ?_
  rintro e w2 ⟨rfl, x2⟩
  go_wp2_with fail
  refine (H3.out _).mono ?_
  rintro e w3 ⟨rfl, x3⟩
  go_wp2_with fail
  refine (H4.out _).mono ?_
  rintro e w4 ⟨rfl, x4⟩
  go_wp2_with fail
  refine (example_any _).mono ?_
  rintro e w5 ⟨rfl, x5⟩
  go_wp2
  go_ret
  exact ⟨rfl, (((x1.trans x2).trans x3).trans x4).trans x5⟩
end Go.Proofs.Ytlocohcbfpeddaa
