/-
  Chapter 12: the small functions of Codabar and ITF, walked.
  Condition: the strings are within the reach.
-/
import Derived.Test.YthjlnpcaclfopaaGreatTwW5
namespace Go.Proofs.YthjlnpcaclfopaaGreat
open Go.RowKit

theorem sumCb_snoc (l : List UInt8) (c : UInt8) : Tw.sumCb (l ++ [c]) = Tw.sumCb l + Lib.indexByte Tw.cCb c := by simp [Tw.sumCb]
theorem fold_bd (l : List UInt8) (h : ∀ c ∈ l, 0 ≤ Lib.indexByte Tw.cCb c) : ∀ a : Int, a ≤ (l.map (Lib.indexByte Tw.cCb)).foldl (· + ·) a ∧ (l.map (Lib.indexByte Tw.cCb)).foldl (· + ·) a ≤ a + 20 * l.length := by
  induction l with
  | nil => intro a; simp
  | cons c l ih =>
    intro a
    have h1 := ih (fun x hx => h x (List.mem_cons_of_mem _ hx)) (a + Lib.indexByte Tw.cCb c)
    have h2 := h c (List.mem_cons_self ..)
    obtain ⟨n, hn⟩ := Int.eq_ofNat_of_zero_le h2
    have h3 := index_lt _ _ _ hn
    have h4 : Tw.cCb.length = 20 := rfl
    simp only [List.map_cons, List.foldl_cons, List.length_cons] at h1 ⊢
    omega
theorem sumCb_bd (l : List UInt8) (h : ∀ c ∈ l, 0 ≤ Lib.indexByte Tw.cCb c) : 0 ≤ Tw.sumCb l ∧ Tw.sumCb l ≤ 20 * l.length := by
  have := fold_bd l h 0
  unfold Tw.sumCb; omega
theorem in_cb : ∀ c : UInt8, (0 ≤ Lib.indexByte Tw.eCb c ∨ 0 ≤ Lib.indexByte Tw.dCb c) → 0 ≤ Lib.indexByte Tw.cCb c := by
  have h : ∀ i : Fin 256, (0 ≤ Lib.indexByte Tw.eCb (UInt8.ofNat i.val) ∨ 0 ≤ Lib.indexByte Tw.dCb (UInt8.ofNat i.val)) → 0 ≤ Lib.indexByte Tw.cCb (UInt8.ofNat i.val) := by decide +kernel
  intro c
  have := h ⟨c.toNat, c.toNat_lt⟩
  simpa using this
theorem split3 (l : List UInt8) (h : 2 ≤ l.length) : l = l.take 1 ++ ((l.drop 1).take (l.length - 2) ++ l.drop (l.length - 1)) := by
  have h1 : l.drop (l.length - 1) = (l.drop 1).drop (l.length - 2) := by rw [List.drop_drop]; congr 1; omega
  rw [h1, List.take_append_drop, List.take_append_drop]
theorem cb_valid (l : List UInt8) (h : 2 ≤ l.length) (h1 : Tw.only (l.take 1) Tw.eCb = true) (h2 : Tw.only (l.drop (l.length - 1)) Tw.eCb = true) (h3 : Tw.only ((l.drop 1).take (l.length - 2)) Tw.dCb = true) :
    ∀ c ∈ l, 0 ≤ Lib.indexByte Tw.cCb c := by
  intro c hc
  rw [split3 l h, List.mem_append, List.mem_append] at hc
  unfold Tw.only at h1 h2 h3
  rw [List.all_eq_true] at h1 h2 h3
  rcases hc with hc | hc | hc
  · exact in_cb c (.inl (by simpa using h1 c hc))
  · exact in_cb c (.inr (by simpa using h3 c hc))
  · exact in_cb c (.inl (by simpa using h2 c hc))
theorem dcb_cut : ∀ v : Nat, v < 16 → ((⟨#[48, 49, 50, 51, 52, 53, 54, 55, 56, 57, 45, 36, 58, 47, 46, 43]⟩ : ByteArray).extract v (v + 1)).data.toList = [Tw.dCb.getD v 0] := by
  intro v hv
  rw [cut_mid]
  have : ∀ v : Fin 16, (([48, 49, 50, 51, 52, 53, 54, 55, 56, 57, 45, 36, 58, 47, 46, 43] : List UInt8).drop v.val).take (v.val + 1 - v.val) = [Tw.dCb.getD v.val 0] := by decide
  exact this ⟨v, hv⟩

theorem app3 (a b c : ByteArray) : (a ++ b ++ c).data.toList = a.data.toList ++ b.data.toList ++ c.data.toList := by simp
theorem app2 (a b : ByteArray) : (a ++ b).data.toList = a.data.toList ++ b.data.toList := by simp

set_option maxRecDepth 100000 in
set_option maxHeartbeats 2000000 in
theorem compCb_any (s : ByteArray) (check : Bool) (w : World) (hs : s.size ≤ 1000000) :
    Calls Tryz.prog 57 #[.string s, .bool check] w fun e w' => e = .returned (.tuple #[strV (Tw.compCb s.data.toList check).1, .int .i64 (Tw.compCb s.data.toList check).2]) ∧ Ext w w' := by
  have HT := Lib.hid (Tw.compCb.eq_1 s.data.toList check)
  rw [len_data] at HT
  generalize Tw.compCb s.data.toList check = res at *
  by_cases h2 : s.size < 2
  · rw [if_pos h2] at HT
    have d1 : decide ((s.size : Int) - 1 < 1) = true := by simp; omega
    go_enter Tryz.func57, Tryz.ntmps57
    go_wp2
    go_ret2
    exact ⟨by rw [HT.out]; rfl, Ext.refl _⟩
  · rw [if_neg h2] at HT
    have d1 : decide ((s.size : Int) - 1 < 1) = false := by simp; omega
    have hsn : ((s.size : Int) - 1).toNat = s.size - 1 := by omega
    have HO1 : Hid (∀ w, Calls Tryz.prog 54 #[.string (s.extract 0 1), .string ⟨#[65, 66, 67, 68]⟩] w fun e w' => e = .returned (.bool (Tw.only (s.data.toList.take 1) Tw.eCb)) ∧ w = w') :=
      Lib.hid (fun w => by rw [← cut_front]; exact only_any (s.extract 0 1) ⟨#[65, 66, 67, 68]⟩ w (by rw [ByteArray.size_extract]; omega))
    have HO2 : Hid (∀ w, Calls Tryz.prog 54 #[.string (s.extract (s.size - 1) s.size), .string ⟨#[65, 66, 67, 68]⟩] w fun e w' => e = .returned (.bool (Tw.only (s.data.toList.drop (s.size - 1)) Tw.eCb)) ∧ w = w') :=
      Lib.hid (fun w => by rw [← cut_back]; exact only_any (s.extract (s.size - 1) s.size) ⟨#[65, 66, 67, 68]⟩ w (by rw [ByteArray.size_extract]; omega))
    have HO3 : Hid (∀ w, Calls Tryz.prog 54 #[.string (s.extract 1 (s.size - 1)), .string ⟨#[48, 49, 50, 51, 52, 53, 54, 55, 56, 57, 45, 36, 58, 47, 46, 43]⟩] w fun e w' => e = .returned (.bool (Tw.only ((s.data.toList.drop 1).take (s.size - 2)) Tw.dCb)) ∧ w = w') :=
      Lib.hid (fun w => by rw [show s.size - 2 = s.size - 1 - 1 by omega, ← cut_mid]; exact only_any (s.extract 1 (s.size - 1)) ⟨#[48, 49, 50, 51, 52, 53, 54, 55, 56, 57, 45, 36, 58, 47, 46, 43]⟩ w (by rw [ByteArray.size_extract]; omega))
    have HV := Lib.hid (cb_valid s.data.toList (by rw [len_data]; omega))
    rw [len_data] at HV
    generalize Tw.only (s.data.toList.take 1) Tw.eCb = b1 at *
    generalize Tw.only (s.data.toList.drop (s.size - 1)) Tw.eCb = b2 at *
    generalize Tw.only ((s.data.toList.drop 1).take (s.size - 2)) Tw.dCb = b3 at *
    cases b1
    · rw [if_pos rfl] at HT
      go_enter Tryz.func57, Tryz.ntmps57
      go_wp2_with fail
      refine (HO1.out _).mono ?_
      rintro e w1 ⟨rfl, rfl⟩
      go_wp2
      go_ret2
      exact ⟨by rw [HT.out]; rfl, Ext.refl _⟩
    · rw [if_neg Bool.noConfusion] at HT
      cases b2
      · rw [if_pos rfl] at HT
        go_enter Tryz.func57, Tryz.ntmps57
        go_wp2_with fail
        refine (HO1.out _).mono ?_
        rintro e w1 ⟨rfl, rfl⟩
        go_wp2_with fail
        refine (HO2.out _).mono ?_
        rintro e w1 ⟨rfl, rfl⟩
        go_wp2
        go_ret2
        exact ⟨by rw [HT.out]; rfl, Ext.refl _⟩
      · rw [if_neg Bool.noConfusion] at HT
        cases b3
        · rw [if_pos rfl] at HT
          go_enter Tryz.func57, Tryz.ntmps57
          go_wp2_with fail
          refine (HO1.out _).mono ?_
          rintro e w1 ⟨rfl, rfl⟩
          go_wp2_with fail
          refine (HO2.out _).mono ?_
          rintro e w1 ⟨rfl, rfl⟩
          go_wp2_with fail
          refine (HO3.out _).mono ?_
          rintro e w1 ⟨rfl, rfl⟩
          go_wp2
          go_ret2
          exact ⟨by rw [HT.out]; rfl, Ext.refl _⟩
        · rw [if_neg Bool.noConfusion] at HT
          have HVV := Lib.hid (HV.out rfl rfl rfl)
          clear HV
          cases check
          · rw [if_pos rfl] at HT
            go_enter Tryz.func57, Tryz.ntmps57
            go_wp2_with fail
            refine (HO1.out _).mono ?_
            rintro e w1 ⟨rfl, rfl⟩
            go_wp2_with fail
            refine (HO2.out _).mono ?_
            rintro e w1 ⟨rfl, rfl⟩
            go_wp2_with fail
            refine (HO3.out _).mono ?_
            rintro e w1 ⟨rfl, rfl⟩
            go_wp2
            go_ret2
            exact ⟨by rw [HT.out]; exact ret_pair' rfl rfl, Ext.refl _⟩
          · rw [if_neg Bool.noConfusion] at HT
            go_enter Tryz.func57, Tryz.ntmps57
            go_wp2_with fail
            refine (HO1.out _).mono ?_
            rintro e w1 ⟨rfl, rfl⟩
            go_wp2_with fail
            refine (HO2.out _).mono ?_
            rintro e w1 ⟨rfl, rfl⟩
            go_wp2_with fail
            refine (HO3.out _).mono ?_
            rintro e w1 ⟨rfl, rfl⟩
            clear HO1 HO2 HO3
            go_wp2
            go_loop [39, 7] (fun i x => ∃ j : Nat, j ≤ s.size ∧ i = .int .i64 (j : Int) ∧ x = .int .i64 (Tw.sumCb (s.data.toList.take j))) (fun i _ => s.size - (intOf i).toNat)
            case atStart => exact ⟨0, Nat.zero_le _, rfl, rfl⟩
            case round =>
              obtain ⟨j, hj, rfl, rfl⟩ := hrel
              have hb := sumCb_bd (s.data.toList.take j) (fun c hc => HVV.out c (List.mem_of_mem_take hc))
              rw [len_take s j hj] at hb
              obtain ⟨hb1, hb2⟩ := hb
              by_cases hlt : j < s.size
              · have HI := Lib.hid (fun w => index_of ⟨#[48, 49, 50, 51, 52, 53, 54, 55, 56, 57, 45, 36, 58, 47, 46, 43, 65, 66, 67, 68]⟩ s[j] w)
                have HSN := Lib.hid (sumCb_snoc (s.data.toList.take j) s[j])
                rw [← take_snoc s j hlt] at HSN
                have hi0 := HVV.out s[j] (mem_at s j hlt)
                have hi1 : Lib.indexByte Tw.cCb s[j] < 20 := by
                  obtain ⟨n, hn⟩ := Int.eq_ofNat_of_zero_le hi0
                  have := index_lt _ _ _ hn
                  have h4 : Tw.cCb.length = 20 := rfl
                  omega
                change Hid (∀ w, Calls Tryz.prog 33 #[.string ⟨#[48, 49, 50, 51, 52, 53, 54, 55, 56, 57, 45, 36, 58, 47, 46, 43, 65, 66, 67, 68]⟩, .int .u8 (s[j].toNat : Int)] w fun e w' => e = .returned (.int .i64 (Lib.indexByte Tw.cCb s[j])) ∧ w = w') at HI
                generalize Lib.indexByte Tw.cCb s[j] = x at *
                generalize Tw.sumCb (s.data.toList.take j) = g at *
                go_wp2_with fail
                refine (HI.out _).mono ?_
                rintro e w1 ⟨rfl, rfl⟩
                go_wp2
                go_round
                case rel => exact ⟨j + 1, by omega, by go_num, by rw [HSN.out]⟩
                case measure => simp [intOf]; omega
              · obtain rfl : j = s.size := by omega
                rw [take_all] at hb1 hb2 ⊢
                clear hj hlt
                generalize Tw.sumCb s.data.toList = g at *
                obtain ⟨v, hv, hv16⟩ : ∃ v : Nat, (16 - g % 16) % 16 = (v : Int) ∧ v < 16 := ⟨((16 - g % 16) % 16).toNat, by omega, by omega⟩
                rw [hv, Int.toNat_natCast] at HT
                have HDC := Lib.hid (dcb_cut v hv16)
                obtain ⟨u, hu⟩ : ∃ u : Nat, v + 1 = u := ⟨_, rfl⟩
                rw [hu] at HDC
                have hv1 : (v : Int) + 1 = (u : Int) := by omega
                have hu1 : v ≤ u := by omega
                have hu2 : u ≤ 16 := by omega
                clear hu
                go_wp2
                go_quiet (fail)
                go_wp2
                go_ret2
                refine ⟨?_, ?_⟩
                · rw [HT.out]
                  refine ret_pair' ?_ rfl
                  rw [app3, cut_front, HDC.out, cut_back]
                · exact (Ext.refl _).drewN _

set_option maxHeartbeats 1000000 in
theorem textCb_any (s : ByteArray) (check : Bool) (w : World) (hs : s.size ≤ 1000000) (h2 : 2 ≤ s.size) :
    Calls Tryz.prog 58 #[.string s, .bool check] w fun e w' => e = .returned (strV (Tw.textCb s.data.toList check)) ∧ Ext w w' := by
  have HT := Lib.hid (Tw.textCb.eq_1 s.data.toList check)
  rw [len_data] at HT
  generalize Tw.textCb s.data.toList check = res at *
  cases check
  · rw [if_neg Bool.noConfusion] at HT
    go_enter Tryz.func58, Tryz.ntmps58
    go_wp2
    go_ret
    exact ⟨by rw [HT.out]; exact ret_str' rfl, Ext.refl _⟩
  · rw [if_pos rfl] at HT
    have hn1 : ((s.size : Int) - 1).toNat = s.size - 1 := by omega
    have hn2 : ((s.size : Int) - 2).toNat = s.size - 2 := by omega
    go_enter Tryz.func58, Tryz.ntmps58
    go_wp2
    go_quiet (fail)
    go_wp2
    go_ret
    refine ⟨?_, (Ext.refl _).drewN _⟩
    rw [HT.out]
    refine ret_str' ?_
    rw [app2, cut_front, cut_back]

set_option maxHeartbeats 1000000 in
theorem textItf_any (s : ByteArray) (check : Bool) (w : World) (hs : s.size ≤ 1000000) (h2 : 1 ≤ s.size) :
    Calls Tryz.prog 63 #[.string s, .bool check] w fun e w' => e = .returned (strV (Tw.textItf s.data.toList check)) ∧ Ext w w' := by
  have HT := Lib.hid (Tw.textItf.eq_1 s.data.toList check)
  rw [len_data] at HT
  generalize Tw.textItf s.data.toList check = res at *
  cases check
  · rw [if_neg Bool.noConfusion] at HT
    go_enter Tryz.func63, Tryz.ntmps63
    go_wp2
    go_ret
    exact ⟨by rw [HT.out]; exact ret_str' rfl, Ext.refl _⟩
  · rw [if_pos rfl] at HT
    have hn1 : ((s.size : Int) - 1).toNat = s.size - 1 := by omega
    go_enter Tryz.func63, Tryz.ntmps63
    go_wp2
    go_ret
    refine ⟨?_, Ext.refl _⟩
    rw [HT.out]
    refine ret_str' ?_
    rw [cut_front]

/-- What the functions of ITF captured. -/
structure ItfAt (w : World) (bc bp bz ba bn : Nat) : Prop where
  a0 : w.cell? ⟨ba, 0, none⟩ = some (.int .i64 5)
  a1 : w.cell? ⟨ba, 1, none⟩ = some (.func (.func 71) #[] #[.pointer (some ⟨bc, 0, none⟩), .pointer (some ⟨bp, 0, none⟩), .pointer (some ⟨bz, 0, none⟩)])
  n : w.cell? ⟨bn, 0, none⟩ = some (.int .i64 7)
  la : ba < w.heap.size
  ln : bn < w.heap.size
theorem ItfAt.ext {w w' : World} {bc bp bz ba bn : Nat} (h : ItfAt w bc bp bz ba bn) (hx : Ext w w') : ItfAt w' bc bp bz ba bn :=
  ⟨by rw [hx.cell (p := ⟨ba, 0, none⟩) h.la]; exact h.a0, by rw [hx.cell (p := ⟨ba, 1, none⟩) h.la]; exact h.a1, by rw [hx.cell (p := ⟨bn, 0, none⟩) h.ln]; exact h.n,
    Nat.lt_of_lt_of_le h.la hx.size, Nat.lt_of_lt_of_le h.ln hx.size⟩

set_option maxHeartbeats 1000000 in
theorem countsItf_any (bc bp bz ba bn : Nat) (n : Nat) (check : Bool) (w : World) (hA : ItfAt w bc bp bz ba bn) (hn : n ≤ 9223372036854775806) :
    Calls Tryz.prog 59 #[.int .i64 (n : Int), .bool check, .pointer (some ⟨bn, 0, none⟩), .pointer (some ⟨ba, 0, none⟩)] w
      fun e w' => e = .returned (.bool (Tw.countsItf n)) ∧ w = w' := by
  obtain ⟨h1, _, h3, _, _⟩ := hA
  by_cases h7 : n < 7
  · have HT : Hid (Tw.countsItf n = false) := Lib.hid (by simp [Tw.countsItf]; omega)
    generalize Tw.countsItf n = res at *
    obtain rfl | rfl | rfl | rfl | rfl | rfl | rfl : n = 0 ∨ n = 1 ∨ n = 2 ∨ n = 3 ∨ n = 4 ∨ n = 5 ∨ n = 6 := by omega
    all_goals
      go_enter Tryz.func59, Tryz.ntmps59
      go_wp2
      all_goals
        go_ret
        exact ⟨ret_bool HT.out.symm, rfl⟩
  · have HT := Lib.hid (Tw.countsItf.eq_1 n)
    have h7' : 0 ≤ (n : Int) - 7 := by omega
    go_enter Tryz.func59, Tryz.ntmps59
    go_wp2
    all_goals
      go_ret
      refine ⟨ret_bool ?_, rfl⟩
      rw [HT.out, Bool.eq_iff_iff]
      simp
      omega

set_option maxHeartbeats 1000000 in
theorem compItf_any (s : ByteArray) (check : Bool) (w : World) (hs : s.size ≤ 1000000) :
    Calls Tryz.prog 60 #[.string s, .bool check] w fun e w' => e = .returned (.tuple #[strV (Tw.compItf s.data.toList check).1, .int .i64 (Tw.compItf s.data.toList check).2]) ∧ Ext w w' := by
  have HO : Hid (∀ w, Calls Tryz.prog 54 #[.string s, .string ⟨#[48, 49, 50, 51, 52, 53, 54, 55, 56, 57]⟩] w fun e w' => e = .returned (.bool (Tw.only s.data.toList Tw.cItf)) ∧ w = w') :=
    Lib.hid (fun w => only_any s ⟨#[48, 49, 50, 51, 52, 53, 54, 55, 56, 57]⟩ w (by omega))
  have HT := Lib.hid (Tw.compItf.eq_1 s.data.toList check)
  have HC := Lib.hid (fun w => compute_any 1 s w (by omega))
  generalize Tw.compItf s.data.toList check = res at *
  generalize Tw.only s.data.toList Tw.cItf = b1 at *
  cases b1
  · rw [if_pos rfl] at HT
    go_enter Tryz.func60, Tryz.ntmps60
    go_wp2_with fail
    refine (HO.out _).mono ?_
    rintro e w1 ⟨rfl, rfl⟩
    go_wp2
    go_ret2
    exact ⟨by rw [HT.out]; rfl, Ext.refl _⟩
  · rw [if_neg Bool.noConfusion] at HT
    cases check
    · rw [if_pos rfl, len_data] at HT
      by_cases h2 : s.size % 2 = 0
      · rw [if_pos h2] at HT
        have d1 : ((s.size : Int) % 2 != 0) = false := by rw [bne_eq_false_iff_eq]; omega
        clear h2
        go_enter Tryz.func60, Tryz.ntmps60
        go_wp2_with fail
        refine (HO.out _).mono ?_
        rintro e w1 ⟨rfl, rfl⟩
        go_wp2
        go_ret2
        exact ⟨by rw [HT.out]; exact ret_pair' rfl rfl, Ext.refl _⟩
      · rw [if_neg h2] at HT
        have d1 : ((s.size : Int) % 2 != 0) = true := by rw [bne_iff_ne]; omega
        clear h2
        go_enter Tryz.func60, Tryz.ntmps60
        go_wp2_with fail
        refine (HO.out _).mono ?_
        rintro e w1 ⟨rfl, rfl⟩
        go_wp2
        go_ret2
        exact ⟨by rw [HT.out]; rfl, Ext.refl _⟩
    · rw [if_neg Bool.noConfusion] at HT
      by_cases h0 : (Cd.compI 1 s.data.toList).2 = 0
      · rw [if_pos h0] at HT
        rw [h0] at HC
        clear h0
        have hdl := compI_len 1 s.data.toList
        generalize (Cd.compI 1 s.data.toList).1 = d at *
        obtain ⟨D, rfl⟩ : ∃ D : ByteArray, d = D.data.toList := ⟨⟨d.toArray⟩, by simp⟩
        rw [mk_toList] at HC
        rw [len_data] at hdl
        rw [List.length_append, len_data, len_data] at HT
        by_cases h2 : (s.size + D.size) % 2 = 0
        · rw [if_pos h2] at HT
          have d1 : (((s.size : Int) + (D.size : Int)) % 2 != 0) = false := by rw [bne_eq_false_iff_eq]; omega
          clear h2
          go_enter Tryz.func60, Tryz.ntmps60
          go_wp2_with fail
          refine (HO.out _).mono ?_
          rintro e w1 ⟨rfl, rfl⟩
          go_wp2_with fail
          refine (HC.out _).mono ?_
          rintro e w2 ⟨rfl, hx2⟩
          go_wp2
          go_ret2
          exact ⟨by rw [HT.out]; exact ret_pair' (by simp) rfl, hx2⟩
        · rw [if_neg h2] at HT
          have d1 : (((s.size : Int) + (D.size : Int)) % 2 != 0) = true := by rw [bne_iff_ne]; omega
          clear h2
          go_enter Tryz.func60, Tryz.ntmps60
          go_wp2_with fail
          refine (HO.out _).mono ?_
          rintro e w1 ⟨rfl, rfl⟩
          go_wp2_with fail
          refine (HC.out _).mono ?_
          rintro e w2 ⟨rfl, hx2⟩
          go_wp2
          go_ret2
          exact ⟨by rw [HT.out]; rfl, hx2⟩
      · rw [if_neg h0] at HT
        have hb : ((Cd.compI 1 s.data.toList).2 != 0) = true := by rw [bne_iff_ne]; exact h0
        generalize (Cd.compI 1 s.data.toList).2 = x at *
        generalize (Cd.compI 1 s.data.toList).1 = d at *
        clear h0
        go_enter Tryz.func60, Tryz.ntmps60
        go_wp2_with fail
        refine (HO.out _).mono ?_
        rintro e w1 ⟨rfl, rfl⟩
        go_wp2_with fail
        refine (HC.out _).mono ?_
        rintro e w2 ⟨rfl, hx2⟩
        go_wp2
        go_ret2
        exact ⟨by rw [HT.out]; rfl, hx2⟩
end Go.Proofs.YthjlnpcaclfopaaGreat
