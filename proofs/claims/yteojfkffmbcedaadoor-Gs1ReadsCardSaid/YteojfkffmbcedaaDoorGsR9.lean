/-
  Chapter 14: the reference's text and first, walked.
  Condition: at most 4096 characters, each from 0 to 127.
-/
import Derived.Test.YteojfkffmbcedaaDoorGsR7
import Derived.Test.YteojfkffmbcedaaDoorGsWC
import Derived.Test.YteojfkffmbcedaaDoorGsW7
namespace Go.Proofs.YteojfkffmbcedaaDoor
set_option linter.unusedVariables false
open Go.RowKit

set_option maxRecDepth 100000 in
set_option maxHeartbeats 4000000 in
theorem rtext_any (v : Value) (cs : List Int) (w : World) (hv : Sl w v (cs.map encI)) (hn : cs.length ≤ 4096) (hok : ∀ b ∈ cs, 0 ≤ b ∧ b ≤ 127) :
    Calls Tryd.prog 10 #[v] w fun e w' => e = .returned (encS (Gs.text cs)) ∧ Ext w w' := by
  obtain ⟨av, cv, rfl⟩ := hv.form
  rw [List.length_map] at hv ⊢
  have HV := Lib.hid hv
  have HOK := Lib.hid hok
  obtain ⟨N, hN⟩ : ∃ N, cs.length = N := ⟨_, rfl⟩
  have HN := Lib.hid hN
  rw [hN] at hn HV ⊢
  clear hv hok hN
  go_enter Tryd.func10, Tryd.ntmps10
  go_wp2
  go_loopw [4, 3] (fun t v wr => ∃ k : Nat, k ≤ N ∧ t = .int .i64 (k : Int) ∧ Own 5 wr w.heap.size v ((Gs.text (cs.take k)).map encB) ∧ Ext w wr) (fun t _ _ => N - (intOf t).toNat)
  case atStart => exact ⟨0, Nat.zero_le _, rfl, Own.nil _ _ _, Ext.refl w⟩
  case round =>
    obtain ⟨k, hk, rfl, hown, hx⟩ := hrel
    obtain ⟨ao, co, rfl⟩ := hown.sl.form
    have hlk : (Gs.text (cs.take k)).length = k := by rw [text_len, List.length_take, HN.out]; omega
    rw [List.length_map] at hown ⊢
    by_cases hlt : k < N
    · obtain ⟨c, hck⟩ : ∃ c, cs[k]? = some c := ⟨_, List.getElem?_eq_getElem (by rw [HN.out]; exact hlt)⟩
      obtain ⟨bb, off, ha, hb, hcell⟩ := HV.out.at_ (k := k) (by rw [List.length_map, HN.out]; exact hlt)
      subst ha
      have e1 : (cs.map encI)[k]'(by rw [List.length_map, HN.out]; exact hlt) = .int .i64 c := by
        rw [List.getElem_map]
        obtain ⟨h2, h3⟩ := List.getElem?_eq_some_iff.1 hck
        rw [h3]; rfl
      rw [e1] at hcell
      have hcc := (hx.cell (p := ⟨bb, off + k, none⟩) hb).trans hcell
      obtain ⟨c0, c1⟩ := HOK.out c (List.mem_of_getElem? hck)
      have HTK : Hid (Gs.text (cs.take (k + 1)) = Gs.text (cs.take k) ++ [Gs.byte c]) := Lib.hid (by rw [take_snocL hck, text_app]; rfl)
      have HBN := Lib.hid (byte_nat c0 c1)
      generalize Gs.text (cs.take k) = got at *
      have hlk' : got.length ≤ 4096 := by omega
      have HLK := Lib.hid hlk
      clear hck e1 hcell hlk
      go_wp2_with (at_builtin; go_loud (refine append_byte rfl _ _ rfl w.heap.size _ got rfl (hown.ext ((Ext.refl wr).alloc _)) _ (Gs.byte c) rfl ?_ (by omega) ?_ ?_))
      · simp [go_sem, encB, HBN.out]
      · have := hx.size; simp; omega
      intro v5 w5 hown5 hg5
      have hx5 : Ext w w5 := (hx.alloc _).ofGrown hg5 hown.low
      clear hown hg5 hcc hx
      go_wp2
      go_roundw
      case rel => exact ⟨k + 1, by omega, by go_num, by rw [HTK.out]; first | exact hown5 | (rw [List.map_append]; exact hown5), hx5⟩
      case measure => simp [intOf]; omega
    · obtain rfl : k = N := by omega
      rw [List.take_of_length_le (by rw [HN.out]; exact Nat.le_refl _)] at hown hlk ⊢
      have hcv := run_convert_sl hown.sl
      have HLK := Lib.hid hlk
      clear hk hlt hlk
      go_wp2
      go_ret
      exact ⟨rfl, hx⟩

/-- What first returns. -/
def preF (o : Option (List UInt8 × Gs.Rule)) : List UInt8 := match o with
  | none => []
  | some (a, _) => a

set_option maxRecDepth 100000 in
set_option maxHeartbeats 4000000 in
theorem rfirst_any (s : ByteArray) (hs : s.size ≤ 1000000) (w : World) :
    Calls Tryd.prog 11 #[.string s] w fun e w' => e = .returned (encS (preF (Gs.pre s.data.toList))) ∧ Ext w w' := by
  have HT := Lib.hid (fun (n : Nat) (w' : World) => table_any (s.extract 0 n) (by unfold maxLen; rw [ByteArray.size_extract]; omega) w')
  have HP := Lib.hid (@pre_at s.data.toList)
  have HN := Lib.hid (@pre_no s.data.toList)
  have HE := Lib.hid (fun n => Gs.preN.eq_1 s.data.toList n)
  have HC := Lib.hid (fun n => cut_front s n)
  have HL := Lib.hid (len_data s)
  generalize Gs.pre s.data.toList = res at *
  generalize hl : s.data.toList = l at *
  clear hl
  go_enter Tryd.func11, Tryd.ntmps11
  go_wp2
  go_loopw [3] (fun t wr => ∃ n : Nat, 2 ≤ n ∧ n ≤ 5 ∧ t = .int .i64 (n : Int) ∧ Hid (∀ j, 2 ≤ j → j < n → Gs.preN l j = none) ∧ Ext w wr) (fun t _ => 5 - (intOf t).toNat)
  case atStart => exact ⟨2, by omega, by omega, rfl, Lib.hid (fun j h1 h2 => by omega), Ext.refl w⟩
  case round =>
    obtain ⟨n, h2, h5, rfl, hno, hx⟩ := hrel
    by_cases h4 : n ≤ 4
    · by_cases hle : n ≤ s.size
      · have H1 := Lib.hid (HT.out n wr)
        have HE1 := Lib.hid (HE.out n)
        rw [if_pos (by rw [HL.out]; exact hle)] at HE1
        rw [HC.out] at H1
        obtain ⟨T, hT⟩ : ∃ T, l.take n = T := ⟨_, rfl⟩
        rw [hT] at H1 HE1
        cases hg : Gs.find T with
        | none =>
          rw [hg] at H1 HE1
          have HNX : Hid (∀ j, 2 ≤ j → j < n + 1 → Gs.preN l j = none) := Lib.hid (fun j h1 h3 => by
            rcases Nat.lt_or_ge j n with hh | hh
            · exact hno.out j h1 hh
            · obtain rfl : j = n := by omega
              exact HE1.out)
          dsimp only [Gs.tabO] at H1
          clear hg hT HE1
          go_wp2_with fail
          refine H1.out.mono ?_
          rintro e w1 ⟨rfl, hx1⟩
          dsimp only
          go_wp2
          go_roundw
          case rel => exact ⟨n + 1, by omega, by omega, by go_num, HNX, hx.trans hx1⟩
          case measure => simp [intOf]; omega
        | some r =>
          rw [hg] at H1 HE1
          have HRES : Hid (res = some (T, r)) := Lib.hid (HP.out n hno.out h2 h4 (by rw [HE1.out]; rfl))
          have HTT : Hid (encS T = .string (s.extract 0 n)) := Lib.hid (by rw [← hT, ← HC.out, encS_of])
          obtain ⟨f1, _, _⟩ := frm_fix (find_ok hg)
          dsimp only [Gs.tabO] at H1
          generalize Gs.frm r = fm at *
          have hfm : (fm == 0) = false := by rw [beq_eq_false_iff_ne]; omega
          have hfm2 : (fm != 0) = true := by simp; omega
          clear hg HE1 HP HN hT
          go_wp2_with fail
          refine H1.out.mono ?_
          rintro e w1 ⟨rfl, hx1⟩
          dsimp only
          go_wp2
          go_ret
          exact ⟨by rw [HRES.out]; simp only [preF, HTT.out]; rfl, hx.trans hx1⟩
      · have HRES : Hid (res = none) := Lib.hid (HN.out n hno.out h2 (.inr (by rw [HL.out]; omega)))
        have hle' : (s.size : Int) < (n : Int) := by omega
        clear HP HN
        go_wp2
        go_ret
        exact ⟨by rw [HRES.out]; rfl, hx⟩
    · have HRES : Hid (res = none) := Lib.hid (HN.out n hno.out h2 (.inl (by omega)))
      clear HP HN
      go_wp2
      go_ret
      exact ⟨by rw [HRES.out]; rfl, hx⟩
end Go.Proofs.YteojfkffmbcedaaDoor
