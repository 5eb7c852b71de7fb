/-
  Chapter 11: recognize, walked.
  Condition: at most twelve digits.
-/
import Derived.Test.YtfpliihglgjijaaGreatEaWD
namespace Go.Proofs.YtfpliihglgjijaaGreat
set_option linter.unusedVariables false
open Go.RowKit

theorem encode_ascii (x : Nat) (hx : x < 128) : (Utf8.encode (x : Int)).data.toList = [UInt8.ofNat x] := by
  have hv : Utf8.valid (x : Int) = true := by unfold Utf8.valid; simp; omega
  unfold Utf8.encode
  simp [hv, hx]
/-- The digit and the set that the sets of a list give, the last one first. -/
def scan (al : List Nat) (m : List Bool) : Option (Nat × Nat) := al.foldl (fun acc t => match Ea.lookT t m with
  | some d => some (d, t)
  | none => acc) none
theorem scan_snoc (al : List Nat) (t : Nat) (m : List Bool) : scan (al ++ [t]) m = match Ea.lookT t m with
    | some d => some (d, t)
    | none => scan al m := by unfold scan; rw [List.foldl_append]; rfl
theorem scan_both (m : List Bool) : scan [0, 1] m = Ea.look true 0 m := by
  unfold scan Ea.look
  simp only [List.foldl_cons, List.foldl_nil, if_true]
  cases Ea.lookT 1 m <;> cases Ea.lookT 0 m <;> rfl
theorem scan_one (t : Nat) (m : List Bool) : scan [t] m = Ea.look false t m := by
  unfold scan Ea.look
  simp only [List.foldl_cons, List.foldl_nil, Bool.false_eq_true, if_false]
  cases Ea.lookT t m <;> rfl
/-- The sets that may stand there. -/
def alOf (both : Bool) (t : Nat) : List Nat := if both = true then [0, 1] else [t]
theorem scan_al (both : Bool) (t : Nat) (ht : both = true → t = 0) (m : List Bool) : scan (alOf both t) m = Ea.look both t m := by
  cases both with
  | true => rw [ht rfl]; exact scan_both m
  | false => exact scan_one t m
def scD (o : Option (Nat × Nat)) : Int := match o with
  | some (d, _) => (d : Int)
  | none => -1
def scT (o : Option (Nat × Nat)) : Int := match o with
  | some (_, t) => 65 + (t : Int)
  | none => 0
theorem scan_lt {al : List Nat} (ha : ∀ t ∈ al, t < 3) {m : List Bool} {d t : Nat} (h : scan al m = some (d, t)) : d < 10 ∧ t < 3 := by
  have key : ∀ (al : List Nat) (acc : Option (Nat × Nat)), (∀ t ∈ al, t < 3) → (∀ d t, acc = some (d, t) → d < 10 ∧ t < 3) → ∀ d t, al.foldl (fun acc t => match Ea.lookT t m with
      | some d => some (d, t)
      | none => acc) acc = some (d, t) → d < 10 ∧ t < 3 := by
    intro al
    induction al with
    | nil => intro acc _ h d t e; exact h d t e
    | cons u al ih =>
      intro acc h1 h2 d t e
      refine ih _ (fun t ht => h1 t (List.mem_cons_of_mem _ ht)) ?_ d t e
      intro d t e
      dsimp only at e
      cases hl : Ea.lookT u m with
      | none => simp only [hl] at e; exact h2 d t e
      | some d0 =>
        simp only [hl] at e; cases e
        exact ⟨(Ea.lookT_some (h1 u (List.mem_cons_self ..)) hl).1, h1 u (List.mem_cons_self ..)⟩
  exact key al none ha (fun d t h => by cases h) d t h

/-- What recognize returns. -/
def recV (o : Option (List UInt8 × List Nat)) : Value := match o with
  | some (l, u) => .tuple #[.string (Ea.bS l), .string (Ea.bS (Ea.sS u)), .bool true]
  | none => .tuple #[.string ⟨#[]⟩, .string ⟨#[]⟩, .bool false]

set_option maxRecDepth 100000 in
set_option maxHeartbeats 2000000 in
theorem recognize_any (both : Bool) (t n : Nat) (sl : List Bool) (s al : ByteArray) (hs : s.data.toList = Ea.mS sl) (hn : sl.length = 7 * n) (hn12 : n ≤ 12) (ht : t < 3) (hb : both = true → t = 0) (hal : al.data.toList = Ea.sS (alOf both t)) (w : World) :
    Calls Tryz.prog 95 #[.string s, .string al] w fun e w' => e = .returned (recV (Ea.rcg both t 0 n sl)) ∧ Ext w w' := by
  obtain ⟨R, hR⟩ : ∃ R, Ea.rcg both t 0 n sl = R := ⟨_, rfl⟩
  rw [hR]
  have HR0 : Hid (R = Ea.sofar (Ea.rcg both t 0 n sl) [] []) := Lib.hid (by rw [Ea.sofar_nil, hR])
  have HSC := Lib.hid (scan_al both t hb)
  have HAL := Lib.hid hal
  have hA3 : ∀ u ∈ alOf both t, u < 3 := by
    unfold alOf; split
    · simp
    · simpa using ht
  have HA3 := Lib.hid hA3
  have hAsz : al.size = (alOf both t).length := by rw [size_of_toList hal, Ea.sS_len]
  have hAl2 : al.size ≤ 2 := by rw [hAsz]; unfold alOf; split <;> simp
  have HASZ := Lib.hid hAsz
  clear hal hA3 hAsz
  generalize alOf both t = A at *
  go_enter Tryz.func95, Tryz.ntmps95
  go_wp2_with fail
  go_loopw [0, 4, 5] (fun v0 v4 v5 wr => ∃ (k : Nat) (S D T : ByteArray) (ds : List UInt8) (us : List Nat), k ≤ n ∧ v0 = .string S ∧ v4 = .string D ∧ v5 = .string T ∧ Hid (S.data.toList = Ea.mS (sl.drop (7 * k))) ∧ Hid (D.data.toList = ds) ∧ Hid (T.data.toList = Ea.sS us) ∧ D.size = k ∧ T.size = k ∧ Hid (R = Ea.sofar (Ea.rcg both t 0 (n - k) (sl.drop (7 * k))) ds us) ∧ Ext w wr) (fun v0 _ _ _ => match v0 with | .string S => S.size | _ => 0)
  case atStart => exact ⟨0, s, ⟨#[]⟩, ⟨#[]⟩, [], [], Nat.zero_le _, rfl, rfl, rfl, Lib.hid (by rw [Nat.mul_zero, List.drop_zero]; exact hs), Lib.hid rfl, Lib.hid rfl, rfl, rfl, Lib.hid (by rw [Nat.mul_zero, List.drop_zero, Nat.sub_zero]; exact HR0.out), Ext.refl w⟩
  case round =>
    obtain ⟨k, S, D, T, ds, us, hk, rfl, rfl, rfl, HS, HD, HT, hDs, hTs, HSO, hxr⟩ := hrel
    have hSs : S.size = 7 * (n - k) := by rw [size_of_toList HS.out, Ea.mS_len, List.length_drop, hn]; omega
    by_cases hlt : k < n
    · have hS7 : 7 ≤ S.size := by omega
      have hSl : S.size ≤ 84 := by omega
      have hne : S.toList.isEmpty = false := by
        rw [Lib.toList_data, List.isEmpty_eq_false_iff]; intro h; rw [← len_data, h] at hS7; simp at hS7
      obtain ⟨m, hm⟩ : ∃ m, (sl.drop (7 * k)).take 7 = m := ⟨_, rfl⟩
      have HP7 : Hid (S.extract 0 7 = Ea.bS (Ea.mS m)) := Lib.hid (by
        apply bytes_ext
        rw [cut_front, HS.out, Ea.mS_take, hm]; rfl)
      clear hSs
      go_wp2_with fail
      go_loopw [18, 7, 8] (fun v18 v7 v8 wq => ∃ j : Nat, j ≤ al.size ∧ v18 = .int .i64 (j : Int) ∧ v7 = .int .i64 (scD (scan (A.take j) m)) ∧ v8 = .int .u8 (scT (scan (A.take j) m)) ∧ Ext w wq) (fun v18 _ _ _ => al.size - (intOf v18).toNat)
      case atStart => exact ⟨0, Nat.zero_le _, rfl, rfl, rfl, (by repeat (first | exact Ext.refl _ | assumption | refine Ext.alloc ?_ _ | refine Ext.drew ?_ | refine Ext.drewN ?_ _ | refine Ext.setCell ?_ (Nat.le_refl _) _ | refine Ext.trans ?_ (by assumption)))⟩
      case round =>
        clear hxr
        obtain ⟨j, hj, rfl, rfl, rfl, hxr⟩ := hrel
        by_cases hja : j < al.size
        · obtain ⟨u, hu⟩ : ∃ u, A[j]? = some u := ⟨_, List.getElem?_eq_getElem (by rw [← HASZ.out]; exact hja)⟩
          have hu3 := HA3.out u (List.mem_of_getElem? hu)
          have hau : al[j].toNat = 65 + u := by
            have h1 : al.data.toList[j]? = some al[j] := List.getElem?_eq_getElem (by rw [len_data]; exact hja)
            rw [HAL.out] at h1
            unfold Ea.sS at h1
            rw [List.getElem?_map, hu] at h1
            have h2 : Ea.cS u = al[j] := by simpa using h1
            rw [← h2]; unfold Ea.cS; simp; omega
          have HTK : Hid (A.take (j + 1) = A.take j ++ [u]) := Lib.hid (by
            obtain ⟨h1, h2⟩ := List.getElem?_eq_some_iff.1 hu
            rw [List.take_succ_eq_append_getElem h1, h2])
          have HDR : Hid (∀ w, Calls Tryz.prog 55 #[.int .u8 (65 + (u : Int))] w fun e w' => e = .returned (arrV (Ea.rowB u)) ∧ Ext w w') := Lib.hid (fun w => digitRow_any u hu3 w)
          have hRl := row_len hu3
          have HRI := Lib.hid (Ea.row_idx u m)
          have HLT : Hid (∀ d, Ea.lookT u m = some d → d < 10) := Lib.hid (fun d h => (Ea.lookT_some hu3 h).1)
          unfold arrV at HDR
          obtain ⟨Q, hQ⟩ : ∃ Q, ((Ea.rowB u).map Value.string).toArray = Q := ⟨_, rfl⟩
          have hQs : Q.size = 10 := by rw [← hQ]; simp [hRl]
          have HQ1 : Hid (Q.all (·.oneCell') = true) := Lib.hid (by rw [← hQ]; simp [Value.oneCell'])
          have HQd : Hid (∀ i, i < 10 → Q[i]? = some (.string ((Ea.rowB u).getD i ByteArray.empty))) := Lib.hid (fun i hi => by
            rw [← hQ]
            simp only [List.getElem?_toArray, List.getElem?_map]
            rw [List.getElem?_eq_getElem (by rw [hRl]; exact hi), List.getD_eq_getElem?_getD, List.getElem?_eq_getElem (by rw [hRl]; exact hi)]; rfl)
          have HRL := Lib.hid hRl
          rw [hQ] at HDR
          clear hu hQ hRl
          go_wp2_with fail
          refine (HDR.out _).mono ?_
          rintro e w4 ⟨rfl, hx4⟩
          have hst := run_store_ten Q hQs HQ1.out w4
          have HNC := Lib.hid (fun i hi => new_cell Q 70 w4 (HQd.out i hi))
          go_wp2_with fail
          obtain ⟨w5, hw5⟩ : ∃ w5, w4.alloc (.cells Q 70) = w5 := ⟨_, rfl⟩
          have hsz : w4.heap.size < w5.heap.size := by rw [← hw5]; simp
          have hx5 : Ext w w5 := by rw [← hw5]; exact (hxr.trans hx4).alloc _
          rw [hw5] at HNC ⊢
          have HIX := Lib.hid (fun (x : Ahead w5) => Tryz.slices_Index_string w4.heap.size 0 10 10 (Ea.rowB u) (S.extract 0 7) x.at' (by rw [HRL.out]; exact Nat.le_refl _) (by omega) (fun i hi => by
            rw [Nat.zero_add, x.ext.cell (p := ⟨w4.heap.size, i, none⟩) hsz]
            exact HNC.out i (by rw [← HRL.out]; exact hi)))
          rw [HP7.out, show (Ea.rowB u).take 10 = Ea.rowB u from List.take_of_length_le (by rw [HRL.out]; exact Nat.le_refl _), HRI.out, ← HP7.out] at HIX
          clear hst hw5 HNC HRI
          cases hlk : Ea.lookT u m with
          | none =>
            rw [hlk] at HIX
            simp only [Ea.plcO] at HIX
            have HSN : Hid (scan (A.take (j + 1)) m = scan (A.take j) m) := Lib.hid (by rw [HTK.out, scan_snoc, hlk])
            clear hlk HLT hau HTK
            refine wp_region_quiet (C := fun w' => ∃ x : Ahead w5, w' = x.at') (by kernel_rfl) (by kernel_rfl) (Ahead.drawn _) ?_
            try dsimp only
            repeat (first | go_big_quiet_step ((go_at_call 93; with_reducible exact ahead_of ((HIX.out _).mono fun _ _ h => ⟨h.1, h.2 ▸ Ext.refl _⟩))) | quiet_step ((go_at_call 93; with_reducible exact ahead_of ((HIX.out _).mono fun _ _ h => ⟨h.1, h.2 ▸ Ext.refl _⟩))))
            refine wpQuiet_nil ?_
            intro _ hx0
            obtain ⟨x0, hx0⟩ := hx0
            subst hx0
            obtain ⟨w8, hx8⟩ := x0
            try dsimp only
            go_wp2
            go_roundw
            case rel => exact ⟨j + 1, by omega, by go_num, by rw [HSN.out], by rw [HSN.out], hx5.trans hx8⟩
            case measure => simp [intOf]; omega
          | some d =>
            have hd10 := HLT.out d hlk
            rw [hlk] at HIX
            simp only [Ea.plcO] at HIX
            have HSN : Hid (scan (A.take (j + 1)) m = some (d, u)) := Lib.hid (by rw [HTK.out, scan_snoc, hlk])
            clear hlk HLT HTK
            refine wp_region_quiet (C := fun w' => ∃ x : Ahead w5, w' = x.at') (by kernel_rfl) (by kernel_rfl) (Ahead.drawn _) ?_
            try dsimp only
            repeat (first | go_big_quiet_step ((go_at_call 93; with_reducible exact ahead_of ((HIX.out _).mono fun _ _ h => ⟨h.1, h.2 ▸ Ext.refl _⟩))) | quiet_step ((go_at_call 93; with_reducible exact ahead_of ((HIX.out _).mono fun _ _ h => ⟨h.1, h.2 ▸ Ext.refl _⟩))))
            refine wpQuiet_nil ?_
            intro _ hx0
            obtain ⟨x0, hx0⟩ := hx0
            subst hx0
            obtain ⟨w8, hx8⟩ := x0
            try dsimp only
            go_wp2
            go_quiet (fail)
            go_wp2
            go_roundw
            case rel => exact ⟨j + 1, by omega, by go_num, by rw [HSN.out]; rfl, by rw [HSN.out]; rfl, (hx5.trans hx8).drewN _⟩
            case measure => simp [intOf]; omega
        · obtain rfl : j = al.size := by omega
          rw [show A.take al.size = A by rw [HASZ.out, List.take_length]] at *
          rw [HSC.out] at *
          have HRC := Lib.hid (fun d u (h : Ea.look both t m = some (d, u)) => scan_lt HA3.out (by rw [HSC.out]; exact h))
          obtain ⟨q, hq⟩ : ∃ q, n - k = q + 1 := ⟨n - k - 1, by omega⟩
          rw [hq] at HSO
          clear hj hja
          cases hlk : Ea.look both t m with
          | none =>
            have HRN : Hid (R = none) := Lib.hid (by rw [HSO.out, Ea.rcg_none (by rw [hm]; exact hlk)]; rfl)
            simp only [scD, scT]
            clear hlk hm hq
            go_wp2
            go_ret3
            exact ⟨by rw [HRN.out]; rfl, hxr⟩
          | some p =>
            obtain ⟨d, u⟩ := p
            obtain ⟨hd10, hu3⟩ := HRC.out d u hlk
            simp only [scD, scT]
            have HSO2 : Hid (R = Ea.sofar (Ea.rcg both t 0 (n - (k + 1)) (sl.drop (7 * (k + 1)))) (ds ++ [Ea.chr d]) (us ++ [u])) := Lib.hid (by
              rw [HSO.out, Ea.rcg_some (by rw [hm]; exact hlk), show n - (k + 1) = q by omega, List.drop_drop, show 7 * k + (7 + 0) = 7 * (k + 1) by omega])
            have hc1 : (Utf8.encode (48 + (d : Int))).data.toList = [Ea.chr d] := by rw [show (48 + (d : Int)) = ((48 + d : Nat) : Int) by omega]; exact encode_ascii (48 + d) (by omega)
            have hc2 : (Utf8.encode (65 + (u : Int))).data.toList = [Ea.cS u] := by rw [show (65 + (u : Int)) = ((65 + u : Nat) : Int) by omega]; exact encode_ascii (65 + u) (by omega)
            have hz1 : (Utf8.encode (48 + (d : Int))).size = 1 := size_of_toList hc1
            have hz2 : (Utf8.encode (65 + (u : Int))).size = 1 := size_of_toList hc2
            obtain ⟨CD, hCD⟩ : ∃ CD, Utf8.encode (48 + (d : Int)) = CD := ⟨_, rfl⟩
            obtain ⟨CT, hCT⟩ : ∃ CT, Utf8.encode (65 + (u : Int)) = CT := ⟨_, rfl⟩
            rw [hCD] at hc1 hz1
            rw [hCT] at hc2 hz2
            have hr1 : ∀ w, (convert 21 9 (.int .i32 (48 + (d : Int)))).run Tryz.prog w = .ok (.string CD) w := fun w => by rw [← hCD]; exact run_convert_int_string w _ _ _ _ (by kernel_rfl) Tryz.underlying9
            have hr2 : ∀ w, (convert 21 9 (.int .i32 (65 + (u : Int)))).run Tryz.prog w = .ok (.string CT) w := fun w => by rw [← hCT]; exact run_convert_int_string w _ _ _ _ (by kernel_rfl) Tryz.underlying9
            have HD2 : Hid ((D ++ CD : ByteArray).data.toList = ds ++ [Ea.chr d]) := Lib.hid (by
              rw [ByteArray.data_append, Array.toList_append, HD.out, hc1])
            have HT2 : Hid ((T ++ CT : ByteArray).data.toList = Ea.sS (us ++ [u])) := Lib.hid (by
              rw [ByteArray.data_append, Array.toList_append, HT.out, Ea.sS_app, hc2]
              rfl)
            have HS2 : Hid ((S.extract 7 S.size).data.toList = Ea.mS (sl.drop (7 * (k + 1)))) := Lib.hid (by
              rw [cut_back, HS.out, Ea.mS_drop, List.drop_drop, show 7 * k + 7 = 7 * (k + 1) by omega])
            have hDle : D.size ≤ 12 := by omega
            have hTle : T.size ≤ 12 := by omega
            have HDZ : Hid (D.size = k ∧ T.size = k) := Lib.hid ⟨hDs, hTs⟩
            clear hlk hm hq hc1 hc2 hDs hTs hCD hCT
            go_wp2
            go_roundw
            case rel => exact ⟨k + 1, _, _, _, _, _, by omega, rfl, rfl, rfl, HS2, HD2, HT2, by rw [ByteArray.size_append, hz1, HDZ.out.1], by rw [ByteArray.size_append, hz2, HDZ.out.2], HSO2, hxr⟩
            case measure => simp; omega
    · obtain rfl : k = n := by omega
      have HRE : Hid (R = some (ds, us)) := Lib.hid (by rw [HSO.out, Nat.sub_self]; exact Ea.sofar_end ds us)
      have hS0 : S.toList = [] := by
        rw [Lib.toList_data]; exact List.eq_nil_of_length_eq_zero (by rw [len_data, hSs, Nat.sub_self])
      have hS1 : S.toList.isEmpty = true := by rw [hS0]; rfl
      have HE : Hid (Value.string D = .string (Ea.bS ds) ∧ Value.string T = .string (Ea.bS (Ea.sS us))) := Lib.hid (by rw [← HD.out, ← HT.out, Ea.bS_of, Ea.bS_of]; exact ⟨rfl, rfl⟩)
      clear hlt hk hSs
      go_wp2
      go_ret3
      exact ⟨by rw [HRE.out]; simp only [recV]; rw [← HE.out.1, ← HE.out.2]; rfl, hxr⟩
end Go.Proofs.YtfpliihglgjijaaGreat
