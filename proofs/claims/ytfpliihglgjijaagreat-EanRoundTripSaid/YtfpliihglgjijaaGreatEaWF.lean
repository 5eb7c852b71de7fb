/-
  Chapter 11: readHalves, walked.
  Condition: a string of 95 or 67 modules.
-/
import Derived.Test.YtfpliihglgjijaaGreatEaWE
namespace Go.Proofs.YtfpliihglgjijaaGreat
set_option linter.unusedVariables false
open Go.RowKit

theorem rcg_take (both : Bool) (t : Nat) : ∀ (n : Nat) (s : List Bool), Ea.rcg both t 0 n (s.take (7 * n)) = Ea.rcg both t 0 n s := by
  intro n
  induction n with
  | zero => intro s; rfl
  | succ n ih =>
    intro s
    have e : 7 * (n + 1) = 7 + 7 * n := by omega
    rw [Ea.rcg, Ea.rcg, List.take_take, show min 7 (7 * (n + 1)) = 7 by omega]
    have e2 : (s.take (7 * (n + 1))).drop (7 + 0) = (s.drop (7 + 0)).take (7 * n) := by rw [List.drop_take]; congr 1
    rw [e2, ih]
theorem rcg_len {both : Bool} {t gap : Nat} : ∀ {n : Nat} {s : List Bool} {l : List UInt8} {u : List Nat}, Ea.rcg both t gap n s = some (l, u) → l.length = n := by
  intro n
  induction n with
  | zero => intro s l u h; cases h; rfl
  | succ n ih =>
    intro s l u h
    rw [Ea.rcg] at h
    cases h1 : Ea.look both t (s.take 7) with
    | none => rw [h1] at h; cases h
    | some p =>
      rw [h1] at h
      dsimp only at h
      cases h2 : Ea.rcg both t gap n (s.drop (7 + gap)) with
      | none => rw [h2] at h; cases h
      | some q => rw [h2] at h; cases h; simp [ih h2]
theorem hasP (s p : ByteArray) (pl sl : List Bool) (hs : s.data.toList = Ea.mS sl) (hp : p.data.toList = Ea.mS pl) (w : World) : Calls Tryz.prog 59 #[.string s, .string p] w fun e w' => e = .returned (.bool (decide (sl.take pl.length = pl))) ∧ w = w' := by
  refine (Tryz.strings_HasPrefix s p w).mono ?_
  rintro e w' ⟨rfl, rfl⟩
  exact ⟨by rw [hs, hp, Ea.mS_prefix], rfl⟩
theorem hasS (s p : ByteArray) (pl sl : List Bool) (hs : s.data.toList = Ea.mS sl) (hp : p.data.toList = Ea.mS pl) (hl : pl.length ≤ sl.length) (hz : s.size ≤ 9223372036854775807) (w : World) : Calls Tryz.prog 94 #[.string s, .string p] w fun e w' => e = .returned (.bool (decide (sl.drop (sl.length - pl.length) = pl))) ∧ w = w' := by
  refine (Tryz.strings_HasSuffix s p w hz).mono ?_
  rintro e w' ⟨rfl, rfl⟩
  exact ⟨by rw [hs, hp, Ea.mS_suffix _ _ hl], rfl⟩
/-- The two halves of a symbol. -/
def halv (both : Bool) (t n : Nat) (sl : List Bool) : (List UInt8 × List Nat) × Int :=
  if sl.take 3 ≠ Ea.gd then (([], []), 19)
  else if sl.drop (sl.length - 3) ≠ Ea.gd then (([], []), 20)
  else match Ea.rcg both t 0 n (sl.drop 3), Ea.rcg false 2 0 n (sl.drop (7 * n + 8)) with
    | some (l, u), some (r, _) => if (sl.drop (7 * n + 3)).take 5 = Ea.md then ((l ++ r, u), 0) else (([], []), 18)
    | _, _ => (([], []), 18)
def halV (r : (List UInt8 × List Nat) × Int) : Value := .tuple #[.string (Ea.bS r.1.1), .string (Ea.bS (Ea.sS r.1.2)), .int .i64 r.2]

set_option maxRecDepth 100000 in
set_option maxHeartbeats 1500000 in
theorem halves_long (s : ByteArray) (sl : List Bool) (hs : s.data.toList = Ea.mS sl) (hW : sl.length = 95) (w : World) :
    Calls Tryz.prog 92 #[.string s, .int .i64 6, .string ⟨#[65, 66]⟩] w fun e w' => e = .returned (halV (halv true 0 6 sl)) ∧ Ext w w' := by
  have hsz : s.size = 95 := by rw [size_of_toList hs, Ea.mS_len, hW]
  have HX := Lib.hid (halv.eq_1 true 0 6 sl)
  rw [hW] at HX
  have HP := Lib.hid (fun w => hasP s ⟨#[49, 48, 49]⟩ Ea.gd sl hs rfl w)
  have HQ := Lib.hid (fun w => hasS s ⟨#[49, 48, 49]⟩ Ea.gd sl hs rfl (by rw [hW]; decide) (by omega) w)
  rw [show Ea.gd.length = 3 from rfl] at HP HQ
  rw [hW] at HQ
  obtain ⟨J, hJ⟩ : ∃ J, s.extract 3 92 = J := ⟨_, rfl⟩
  have hJl : J.data.toList = Ea.mS ((sl.drop 3).take 89) := by rw [← hJ, cut_mid, hs, Ea.mS_drop, Ea.mS_take]
  have hJs : J.size = 89 := by rw [size_of_toList hJl, Ea.mS_len, List.length_take, List.length_drop, hW]; rfl
  have HJ := Lib.hid hJ
  have c1 : (J.extract 0 42).data.toList = Ea.mS ((sl.drop 3).take 42) := by rw [cut_front, hJl, Ea.mS_take, List.take_take]; rfl
  have c2 : (J.extract 47 89).data.toList = Ea.mS ((sl.drop 50).take 42) := by
    rw [cut_mid, hJl, Ea.mS_drop, List.drop_take, List.drop_drop, Ea.mS_take, List.take_take]; rfl
  have c3 : (J.extract 42 47).data.toList = Ea.mS ((sl.drop 45).take 5) := by
    rw [cut_mid, hJl, Ea.mS_drop, List.drop_take, List.drop_drop, Ea.mS_take, List.take_take]; rfl
  have HL := Lib.hid (recognize_any true 0 6 ((sl.drop 3).take 42) (J.extract 0 42) ⟨#[65, 66]⟩ c1 (by rw [List.length_take, List.length_drop, hW]; rfl) (by omega) (by omega) (fun _ => rfl) rfl)
  have HR := Lib.hid (recognize_any false 2 6 ((sl.drop 50).take 42) (J.extract 47 89) ⟨#[67]⟩ c2 (by rw [List.length_take, List.length_drop, hW]; rfl) (by omega) (by omega) (fun h => by cases h) rfl)
  rw [rcg_take true 0 6 (sl.drop 3)] at HL
  rw [rcg_take false 2 6 (sl.drop 50)] at HR
  have HM : Hid (((J.extract 42 47).toList == [48, 49, 48, 49, 48]) = decide ((sl.drop 45).take 5 = Ea.md)) := Lib.hid (by
    rw [Lib.toList_data, c3, Bool.eq_iff_iff, beq_iff_eq, decide_eq_true_eq, show [48, 49, 48, 49, 48] = Ea.mS Ea.md from rfl, Ea.mS_inj])
  clear hs hW c1 c2 c3 hJl
  by_cases g1 : sl.take 3 = Ea.gd
  · rw [if_neg (fun h => h g1)] at HX
    rw [decide_eq_true g1] at HP
    clear g1
    by_cases g2 : sl.drop 92 = Ea.gd
    · rw [if_neg (fun h => h g2)] at HX
      rw [decide_eq_true g2] at HQ
      clear g2
      cases h1 : Ea.rcg true 0 0 6 (sl.drop 3) with
      | none =>
        rw [h1] at HX HL
        have HN : Hid (halv true 0 6 sl = (([], []), 18)) := Lib.hid (by rw [HX.out])
        clear HX
        generalize halv true 0 6 sl = res at *
        cases h2 : Ea.rcg false 2 0 6 (sl.drop 50) with
        | none =>
          rw [h2] at HR
          simp only [recV] at HL HR
          cases hm : ((J.extract 42 47).toList == [48, 49, 48, 49, 48])
          · subst hJ
            clear h1 h2 HM
            go_enter Tryz.func92, Tryz.ntmps92
            go_wp2_with fail
            refine (HP.out _).mono ?_
            rintro e w1 ⟨rfl, rfl⟩
            go_wp2_with fail
            refine (HQ.out _).mono ?_
            rintro e w1 ⟨rfl, rfl⟩
            go_wp2_with fail
            refine (HL.out _).mono ?_
            rintro e w2 ⟨rfl, hx2⟩
            go_wp2_with fail
            refine (HR.out _).mono ?_
            rintro e w3 ⟨rfl, hx3⟩
            go_wp2
            go_ret3
            exact ⟨by rw [HN.out]; rfl, hx2.trans hx3⟩
          · subst hJ
            clear h1 h2 HM
            go_enter Tryz.func92, Tryz.ntmps92
            go_wp2_with fail
            refine (HP.out _).mono ?_
            rintro e w1 ⟨rfl, rfl⟩
            go_wp2_with fail
            refine (HQ.out _).mono ?_
            rintro e w1 ⟨rfl, rfl⟩
            go_wp2_with fail
            refine (HL.out _).mono ?_
            rintro e w2 ⟨rfl, hx2⟩
            go_wp2_with fail
            refine (HR.out _).mono ?_
            rintro e w3 ⟨rfl, hx3⟩
            go_wp2
            go_ret3
            exact ⟨by rw [HN.out]; rfl, hx2.trans hx3⟩
        | some q =>
          obtain ⟨r, v⟩ := q
          rw [h2] at HR
          simp only [recV] at HL HR
          cases hm : ((J.extract 42 47).toList == [48, 49, 48, 49, 48])
          · subst hJ
            clear h1 h2 HM
            go_enter Tryz.func92, Tryz.ntmps92
            go_wp2_with fail
            refine (HP.out _).mono ?_
            rintro e w1 ⟨rfl, rfl⟩
            go_wp2_with fail
            refine (HQ.out _).mono ?_
            rintro e w1 ⟨rfl, rfl⟩
            go_wp2_with fail
            refine (HL.out _).mono ?_
            rintro e w2 ⟨rfl, hx2⟩
            go_wp2_with fail
            refine (HR.out _).mono ?_
            rintro e w3 ⟨rfl, hx3⟩
            go_wp2
            go_ret3
            exact ⟨by rw [HN.out]; rfl, hx2.trans hx3⟩
          · subst hJ
            clear h1 h2 HM
            go_enter Tryz.func92, Tryz.ntmps92
            go_wp2_with fail
            refine (HP.out _).mono ?_
            rintro e w1 ⟨rfl, rfl⟩
            go_wp2_with fail
            refine (HQ.out _).mono ?_
            rintro e w1 ⟨rfl, rfl⟩
            go_wp2_with fail
            refine (HL.out _).mono ?_
            rintro e w2 ⟨rfl, hx2⟩
            go_wp2_with fail
            refine (HR.out _).mono ?_
            rintro e w3 ⟨rfl, hx3⟩
            go_wp2
            go_ret3
            exact ⟨by rw [HN.out]; rfl, hx2.trans hx3⟩
      | some p =>
        obtain ⟨l, u⟩ := p
        cases h2 : Ea.rcg false 2 0 6 (sl.drop 50) with
        | none =>
          rw [h1] at HX HL
          rw [h2] at HX HR
          have HN : Hid (halv true 0 6 sl = (([], []), 18)) := Lib.hid (by rw [HX.out])
          clear HX
          generalize halv true 0 6 sl = res at *
          simp only [recV] at HL HR
          cases hm : ((J.extract 42 47).toList == [48, 49, 48, 49, 48])
          · subst hJ
            clear h1 h2 HM
            go_enter Tryz.func92, Tryz.ntmps92
            go_wp2_with fail
            refine (HP.out _).mono ?_
            rintro e w1 ⟨rfl, rfl⟩
            go_wp2_with fail
            refine (HQ.out _).mono ?_
            rintro e w1 ⟨rfl, rfl⟩
            go_wp2_with fail
            refine (HL.out _).mono ?_
            rintro e w2 ⟨rfl, hx2⟩
            go_wp2_with fail
            refine (HR.out _).mono ?_
            rintro e w3 ⟨rfl, hx3⟩
            go_wp2
            go_ret3
            exact ⟨by rw [HN.out]; rfl, hx2.trans hx3⟩
          · subst hJ
            clear h1 h2 HM
            go_enter Tryz.func92, Tryz.ntmps92
            go_wp2_with fail
            refine (HP.out _).mono ?_
            rintro e w1 ⟨rfl, rfl⟩
            go_wp2_with fail
            refine (HQ.out _).mono ?_
            rintro e w1 ⟨rfl, rfl⟩
            go_wp2_with fail
            refine (HL.out _).mono ?_
            rintro e w2 ⟨rfl, hx2⟩
            go_wp2_with fail
            refine (HR.out _).mono ?_
            rintro e w3 ⟨rfl, hx3⟩
            go_wp2
            go_ret3
            exact ⟨by rw [HN.out]; rfl, hx2.trans hx3⟩
        | some q =>
          obtain ⟨r, v⟩ := q
          have hl := rcg_len h1
          have hr := rcg_len h2
          rw [h1] at HX HL
          rw [h2] at HX HR
          have bl : (Ea.bS l).size = 6 := by rw [size_of_toList (Ea.bS_list l), hl]
          have br : (Ea.bS r).size = 6 := by rw [size_of_toList (Ea.bS_list r), hr]
          have HAP : Hid (Ea.bS l ++ Ea.bS r = Ea.bS (l ++ r)) := Lib.hid (bytes_ext (by rw [ByteArray.data_append, Array.toList_append]; rfl))
          simp only [recV] at HL HR
          cases hm : ((J.extract 42 47).toList == [48, 49, 48, 49, 48])
          · have hmm := HM.out
            rw [hm] at hmm
            have HN : Hid (halv true 0 6 sl = (([], []), 18)) := Lib.hid (by rw [HX.out]; exact if_neg (of_decide_eq_false hmm.symm))
            clear HX hmm
            generalize halv true 0 6 sl = res at *
            subst hJ
            clear h1 h2 HM hl hr
            go_enter Tryz.func92, Tryz.ntmps92
            go_wp2_with fail
            refine (HP.out _).mono ?_
            rintro e w1 ⟨rfl, rfl⟩
            go_wp2_with fail
            refine (HQ.out _).mono ?_
            rintro e w1 ⟨rfl, rfl⟩
            go_wp2_with fail
            refine (HL.out _).mono ?_
            rintro e w2 ⟨rfl, hx2⟩
            go_wp2_with fail
            refine (HR.out _).mono ?_
            rintro e w3 ⟨rfl, hx3⟩
            go_wp2
            go_ret3
            exact ⟨by rw [HN.out]; rfl, hx2.trans hx3⟩
          · have hmm := HM.out
            rw [hm] at hmm
            have HN : Hid (halv true 0 6 sl = ((l ++ r, u), 0)) := Lib.hid (by rw [HX.out]; exact if_pos (of_decide_eq_true hmm.symm))
            clear HX hmm
            generalize halv true 0 6 sl = res at *
            subst hJ
            clear h1 h2 HM hl hr
            go_enter Tryz.func92, Tryz.ntmps92
            go_wp2_with fail
            refine (HP.out _).mono ?_
            rintro e w1 ⟨rfl, rfl⟩
            go_wp2_with fail
            refine (HQ.out _).mono ?_
            rintro e w1 ⟨rfl, rfl⟩
            go_wp2_with fail
            refine (HL.out _).mono ?_
            rintro e w2 ⟨rfl, hx2⟩
            go_wp2_with fail
            refine (HR.out _).mono ?_
            rintro e w3 ⟨rfl, hx3⟩
            go_wp2
            go_ret3
            exact ⟨by rw [HN.out, halV, ← HAP.out]; rfl, hx2.trans hx3⟩
    · rw [if_pos g2] at HX
      rw [decide_eq_false g2] at HQ
      generalize halv true 0 6 sl = res at *
      clear g2 HL HR HM HJ hJ hJs
      go_enter Tryz.func92, Tryz.ntmps92
      go_wp2_with fail
      refine (HP.out _).mono ?_
      rintro e w1 ⟨rfl, rfl⟩
      go_wp2_with fail
      refine (HQ.out _).mono ?_
      rintro e w1 ⟨rfl, rfl⟩
      go_wp2
      go_ret3
      exact ⟨by rw [HX.out]; rfl, Ext.refl _⟩
  · rw [if_pos g1] at HX
    rw [decide_eq_false g1] at HP
    generalize halv true 0 6 sl = res at *
    clear g1 HL HR HM HJ hJ hJs
    go_enter Tryz.func92, Tryz.ntmps92
    go_wp2_with fail
    refine (HP.out _).mono ?_
    rintro e w1 ⟨rfl, rfl⟩
    go_wp2
    go_ret3
    exact ⟨by rw [HX.out]; rfl, Ext.refl _⟩

set_option maxRecDepth 100000 in
set_option maxHeartbeats 1500000 in
theorem halves_short (s : ByteArray) (sl : List Bool) (hs : s.data.toList = Ea.mS sl) (hW : sl.length = 67) (w : World) :
    Calls Tryz.prog 92 #[.string s, .int .i64 4, .string ⟨#[65]⟩] w fun e w' => e = .returned (halV (halv false 0 4 sl)) ∧ Ext w w' := by
  have hsz : s.size = 67 := by rw [size_of_toList hs, Ea.mS_len, hW]
  have HX := Lib.hid (halv.eq_1 false 0 4 sl)
  rw [hW] at HX
  have HP := Lib.hid (fun w => hasP s ⟨#[49, 48, 49]⟩ Ea.gd sl hs rfl w)
  have HQ := Lib.hid (fun w => hasS s ⟨#[49, 48, 49]⟩ Ea.gd sl hs rfl (by rw [hW]; decide) (by omega) w)
  rw [show Ea.gd.length = 3 from rfl] at HP HQ
  rw [hW] at HQ
  obtain ⟨J, hJ⟩ : ∃ J, s.extract 3 64 = J := ⟨_, rfl⟩
  have hJl : J.data.toList = Ea.mS ((sl.drop 3).take 61) := by rw [← hJ, cut_mid, hs, Ea.mS_drop, Ea.mS_take]
  have hJs : J.size = 61 := by rw [size_of_toList hJl, Ea.mS_len, List.length_take, List.length_drop, hW]; rfl
  have HJ := Lib.hid hJ
  have c1 : (J.extract 0 28).data.toList = Ea.mS ((sl.drop 3).take 28) := by rw [cut_front, hJl, Ea.mS_take, List.take_take]; rfl
  have c2 : (J.extract 33 61).data.toList = Ea.mS ((sl.drop 36).take 28) := by
    rw [cut_mid, hJl, Ea.mS_drop, List.drop_take, List.drop_drop, Ea.mS_take, List.take_take]; rfl
  have c3 : (J.extract 28 33).data.toList = Ea.mS ((sl.drop 31).take 5) := by
    rw [cut_mid, hJl, Ea.mS_drop, List.drop_take, List.drop_drop, Ea.mS_take, List.take_take]; rfl
  have HL := Lib.hid (recognize_any false 0 4 ((sl.drop 3).take 28) (J.extract 0 28) ⟨#[65]⟩ c1 (by rw [List.length_take, List.length_drop, hW]; rfl) (by omega) (by omega) (fun _ => rfl) rfl)
  have HR := Lib.hid (recognize_any false 2 4 ((sl.drop 36).take 28) (J.extract 33 61) ⟨#[67]⟩ c2 (by rw [List.length_take, List.length_drop, hW]; rfl) (by omega) (by omega) (fun h => by cases h) rfl)
  rw [rcg_take false 0 4 (sl.drop 3)] at HL
  rw [rcg_take false 2 4 (sl.drop 36)] at HR
  have HM : Hid (((J.extract 28 33).toList == [48, 49, 48, 49, 48]) = decide ((sl.drop 31).take 5 = Ea.md)) := Lib.hid (by
    rw [Lib.toList_data, c3, Bool.eq_iff_iff, beq_iff_eq, decide_eq_true_eq, show [48, 49, 48, 49, 48] = Ea.mS Ea.md from rfl, Ea.mS_inj])
  clear hs hW c1 c2 c3 hJl
  by_cases g1 : sl.take 3 = Ea.gd
  · rw [if_neg (fun h => h g1)] at HX
    rw [decide_eq_true g1] at HP
    clear g1
    by_cases g2 : sl.drop 64 = Ea.gd
    · rw [if_neg (fun h => h g2)] at HX
      rw [decide_eq_true g2] at HQ
      clear g2
      cases h1 : Ea.rcg false 0 0 4 (sl.drop 3) with
      | none =>
        rw [h1] at HX HL
        have HN : Hid (halv false 0 4 sl = (([], []), 18)) := Lib.hid (by rw [HX.out])
        clear HX
        generalize halv false 0 4 sl = res at *
        cases h2 : Ea.rcg false 2 0 4 (sl.drop 36) with
        | none =>
          rw [h2] at HR
          simp only [recV] at HL HR
          cases hm : ((J.extract 28 33).toList == [48, 49, 48, 49, 48])
          · subst hJ
            clear h1 h2 HM
            go_enter Tryz.func92, Tryz.ntmps92
            go_wp2_with fail
            refine (HP.out _).mono ?_
            rintro e w1 ⟨rfl, rfl⟩
            go_wp2_with fail
            refine (HQ.out _).mono ?_
            rintro e w1 ⟨rfl, rfl⟩
            go_wp2_with fail
            refine (HL.out _).mono ?_
            rintro e w2 ⟨rfl, hx2⟩
            go_wp2_with fail
            refine (HR.out _).mono ?_
            rintro e w3 ⟨rfl, hx3⟩
            go_wp2
            go_ret3
            exact ⟨by rw [HN.out]; rfl, hx2.trans hx3⟩
          · subst hJ
            clear h1 h2 HM
            go_enter Tryz.func92, Tryz.ntmps92
            go_wp2_with fail
            refine (HP.out _).mono ?_
            rintro e w1 ⟨rfl, rfl⟩
            go_wp2_with fail
            refine (HQ.out _).mono ?_
            rintro e w1 ⟨rfl, rfl⟩
            go_wp2_with fail
            refine (HL.out _).mono ?_
            rintro e w2 ⟨rfl, hx2⟩
            go_wp2_with fail
            refine (HR.out _).mono ?_
            rintro e w3 ⟨rfl, hx3⟩
            go_wp2
            go_ret3
            exact ⟨by rw [HN.out]; rfl, hx2.trans hx3⟩
        | some q =>
          obtain ⟨r, v⟩ := q
          rw [h2] at HR
          simp only [recV] at HL HR
          cases hm : ((J.extract 28 33).toList == [48, 49, 48, 49, 48])
          · subst hJ
            clear h1 h2 HM
            go_enter Tryz.func92, Tryz.ntmps92
            go_wp2_with fail
            refine (HP.out _).mono ?_
            rintro e w1 ⟨rfl, rfl⟩
            go_wp2_with fail
            refine (HQ.out _).mono ?_
            rintro e w1 ⟨rfl, rfl⟩
            go_wp2_with fail
            refine (HL.out _).mono ?_
            rintro e w2 ⟨rfl, hx2⟩
            go_wp2_with fail
            refine (HR.out _).mono ?_
            rintro e w3 ⟨rfl, hx3⟩
            go_wp2
            go_ret3
            exact ⟨by rw [HN.out]; rfl, hx2.trans hx3⟩
          · subst hJ
            clear h1 h2 HM
            go_enter Tryz.func92, Tryz.ntmps92
            go_wp2_with fail
            refine (HP.out _).mono ?_
            rintro e w1 ⟨rfl, rfl⟩
            go_wp2_with fail
            refine (HQ.out _).mono ?_
            rintro e w1 ⟨rfl, rfl⟩
            go_wp2_with fail
            refine (HL.out _).mono ?_
            rintro e w2 ⟨rfl, hx2⟩
            go_wp2_with fail
            refine (HR.out _).mono ?_
            rintro e w3 ⟨rfl, hx3⟩
            go_wp2
            go_ret3
            exact ⟨by rw [HN.out]; rfl, hx2.trans hx3⟩
      | some p =>
        obtain ⟨l, u⟩ := p
        cases h2 : Ea.rcg false 2 0 4 (sl.drop 36) with
        | none =>
          rw [h1] at HX HL
          rw [h2] at HX HR
          have HN : Hid (halv false 0 4 sl = (([], []), 18)) := Lib.hid (by rw [HX.out])
          clear HX
          generalize halv false 0 4 sl = res at *
          simp only [recV] at HL HR
          cases hm : ((J.extract 28 33).toList == [48, 49, 48, 49, 48])
          · subst hJ
            clear h1 h2 HM
            go_enter Tryz.func92, Tryz.ntmps92
            go_wp2_with fail
            refine (HP.out _).mono ?_
            rintro e w1 ⟨rfl, rfl⟩
            go_wp2_with fail
            refine (HQ.out _).mono ?_
            rintro e w1 ⟨rfl, rfl⟩
            go_wp2_with fail
            refine (HL.out _).mono ?_
            rintro e w2 ⟨rfl, hx2⟩
            go_wp2_with fail
            refine (HR.out _).mono ?_
            rintro e w3 ⟨rfl, hx3⟩
            go_wp2
            go_ret3
            exact ⟨by rw [HN.out]; rfl, hx2.trans hx3⟩
          · subst hJ
            clear h1 h2 HM
            go_enter Tryz.func92, Tryz.ntmps92
            go_wp2_with fail
            refine (HP.out _).mono ?_
            rintro e w1 ⟨rfl, rfl⟩
            go_wp2_with fail
            refine (HQ.out _).mono ?_
            rintro e w1 ⟨rfl, rfl⟩
            go_wp2_with fail
            refine (HL.out _).mono ?_
            rintro e w2 ⟨rfl, hx2⟩
            go_wp2_with fail
            refine (HR.out _).mono ?_
            rintro e w3 ⟨rfl, hx3⟩
            go_wp2
            go_ret3
            exact ⟨by rw [HN.out]; rfl, hx2.trans hx3⟩
        | some q =>
          obtain ⟨r, v⟩ := q
          have hl := rcg_len h1
          have hr := rcg_len h2
          rw [h1] at HX HL
          rw [h2] at HX HR
          have bl : (Ea.bS l).size = 4 := by rw [size_of_toList (Ea.bS_list l), hl]
          have br : (Ea.bS r).size = 4 := by rw [size_of_toList (Ea.bS_list r), hr]
          have HAP : Hid (Ea.bS l ++ Ea.bS r = Ea.bS (l ++ r)) := Lib.hid (bytes_ext (by rw [ByteArray.data_append, Array.toList_append]; rfl))
          simp only [recV] at HL HR
          cases hm : ((J.extract 28 33).toList == [48, 49, 48, 49, 48])
          · have hmm := HM.out
            rw [hm] at hmm
            have HN : Hid (halv false 0 4 sl = (([], []), 18)) := Lib.hid (by rw [HX.out]; exact if_neg (of_decide_eq_false hmm.symm))
            clear HX hmm
            generalize halv false 0 4 sl = res at *
            subst hJ
            clear h1 h2 HM hl hr
            go_enter Tryz.func92, Tryz.ntmps92
            go_wp2_with fail
            refine (HP.out _).mono ?_
            rintro e w1 ⟨rfl, rfl⟩
            go_wp2_with fail
            refine (HQ.out _).mono ?_
            rintro e w1 ⟨rfl, rfl⟩
            go_wp2_with fail
            refine (HL.out _).mono ?_
            rintro e w2 ⟨rfl, hx2⟩
            go_wp2_with fail
            refine (HR.out _).mono ?_
            rintro e w3 ⟨rfl, hx3⟩
            go_wp2
            go_ret3
            exact ⟨by rw [HN.out]; rfl, hx2.trans hx3⟩
          · have hmm := HM.out
            rw [hm] at hmm
            have HN : Hid (halv false 0 4 sl = ((l ++ r, u), 0)) := Lib.hid (by rw [HX.out]; exact if_pos (of_decide_eq_true hmm.symm))
            clear HX hmm
            generalize halv false 0 4 sl = res at *
            subst hJ
            clear h1 h2 HM hl hr
            go_enter Tryz.func92, Tryz.ntmps92
            go_wp2_with fail
            refine (HP.out _).mono ?_
            rintro e w1 ⟨rfl, rfl⟩
            go_wp2_with fail
            refine (HQ.out _).mono ?_
            rintro e w1 ⟨rfl, rfl⟩
            go_wp2_with fail
            refine (HL.out _).mono ?_
            rintro e w2 ⟨rfl, hx2⟩
            go_wp2_with fail
            refine (HR.out _).mono ?_
            rintro e w3 ⟨rfl, hx3⟩
            go_wp2
            go_ret3
            exact ⟨by rw [HN.out, halV, ← HAP.out]; rfl, hx2.trans hx3⟩
    · rw [if_pos g2] at HX
      rw [decide_eq_false g2] at HQ
      generalize halv false 0 4 sl = res at *
      clear g2 HL HR HM HJ hJ hJs
      go_enter Tryz.func92, Tryz.ntmps92
      go_wp2_with fail
      refine (HP.out _).mono ?_
      rintro e w1 ⟨rfl, rfl⟩
      go_wp2_with fail
      refine (HQ.out _).mono ?_
      rintro e w1 ⟨rfl, rfl⟩
      go_wp2
      go_ret3
      exact ⟨by rw [HX.out]; rfl, Ext.refl _⟩
  · rw [if_pos g1] at HX
    rw [decide_eq_false g1] at HP
    generalize halv false 0 4 sl = res at *
    clear g1 HL HR HM HJ hJ hJs
    go_enter Tryz.func92, Tryz.ntmps92
    go_wp2_with fail
    refine (HP.out _).mono ?_
    rintro e w1 ⟨rfl, rfl⟩
    go_wp2
    go_ret3
    exact ⟨by rw [HX.out]; rfl, Ext.refl _⟩
end Go.Proofs.YtfpliihglgjijaaGreat
