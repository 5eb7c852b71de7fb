/-
  Chapter 51: a line's name and value: the reference.
  No condition.
-/
import Derived.Test.YtkpfehfcgpapiaaGreatDoorFmXJ
import Derived.Test.YtkpfehfcgpapiaaGreatDoorFmPa
namespace Go.Proofs.YtkpfehfcgpapiaaGreatDoor
set_option linter.unusedVariables false
open Go.RowKit

def szS : Value → Nat
  | .string b => b.size
  | _ => 0
theorem Fm.trimL_sp (l : Fm.S) : Fm.trimL (32 :: l) = Fm.trimL l := by unfold Fm.trimL; rw [List.dropWhile_cons_of_pos (by rfl)]
theorem Fm.trimL_no {c : UInt8} {l : Fm.S} (h : c ≠ 32) : Fm.trimL (c :: l) = c :: l := by unfold Fm.trimL; rw [List.dropWhile_cons_of_neg (by simpa using h)]
theorem Fm.cutAt_none (c : UInt8) : ∀ (l : Fm.S), (∀ x ∈ l, x ≠ c) → Fm.cutAt c l = none
  | [], _ => rfl
  | x :: l, h => by
    unfold Fm.cutAt
    rw [if_neg (h x (List.mem_cons_self ..)), Fm.cutAt_none c l fun y hy => h y (List.mem_cons_of_mem _ hy)]
    rfl
/-- What a line says to a name: the value, and whether it belongs to the name. -/
def Fm.blg (l s : Fm.S) : Fm.S × Bool := match Fm.lineOf l with
  | none => ([], false)
  | some p => (p.2, p.1 == s)
theorem Fm.one_blg (n : Fm.S) (o : Option Fm.S) (l : Fm.S) (r : List Fm.S) : Fm.oneGo n o (l :: r) = if (Fm.blg l n).2 = true then (if o.isSome then none else Fm.oneGo n (some (Fm.blg l n).1) r) else Fm.oneGo n o r := by
  unfold Fm.blg
  rw [Fm.oneGo]
  cases hL : Fm.lineOf l with
  | none => rfl
  | some p =>
    obtain ⟨m, v⟩ := p
    dsimp only
    by_cases h : m = n
    · rw [if_pos h, if_pos (beq_iff_eq.2 h)]
    · rw [if_neg h, if_neg (by simpa using h)]
theorem Fm.trim_bd (l : Fm.S) : (Fm.trim l).length ≤ l.length := trim_le l
theorem Fm.blg_bd (l s : Fm.S) : (Fm.blg l s).1.length ≤ l.length := by
  unfold Fm.blg Fm.lineOf
  cases h : Fm.cutAt 58 l with
  | none => exact Nat.zero_le _
  | some p =>
    obtain ⟨a, b⟩ := p
    have h1 := congrArg List.length (cutAt_eq 58 h)
    rw [List.length_append, List.length_cons] at h1
    have h2 := trim_le b
    dsimp only [Option.map_some]
    omega

set_option maxRecDepth 100000 in
set_option maxHeartbeats 1000000 in
theorem xtrim_any (s : ByteArray) (hs : s.size ≤ 9223372036854775807) (w : World) : Calls Tryz.prog 105 #[.string s] w fun e w' => e = .returned (.string ⟨(Fm.trim s.data.toList).toArray⟩) ∧ Ext w w' := by
  go_enter Tryz.func105, Tryz.ntmps105
  go_wp2_with fail
  go_loopw [0] (fun v wr => ∃ S : ByteArray, v = .string S ∧ S.size ≤ s.size ∧ Hid (Fm.trimL S.data.toList = Fm.trimL s.data.toList) ∧ Ext w wr) (fun v _ => szS v)
  case atStart => exact ⟨s, rfl, Nat.le_refl _, Lib.hid rfl, Ext.refl _⟩
  case round =>
    obtain ⟨S, rfl, hSs, HS, hx⟩ := hrel
    have hSb : S.size ≤ 9223372036854775807 := by omega
    by_cases h0 : S.size = 0
    · have z0 : decide (0 < S.size) = false := decide_eq_false (by omega)
      have z0I : ¬ (0 : Int) < (S.size : Int) := by omega
      have HS : Hid (S.data.toList = Fm.trimL s.data.toList) := Lib.hid (by
        have hn : S.data.toList = [] := List.eq_nil_of_length_eq_zero (by rw [len_data]; exact h0)
        rw [← HS.out, hn]; rfl)
      clear h0
      obtain ⟨W0, hW0⟩ : ∃ W0, W0 = wr := ⟨_, rfl⟩
      subst hW0
      go_wp2_with fail
      go_loopw [0] (fun v wr => ∃ S : ByteArray, v = .string S ∧ S.size ≤ s.size ∧ Hid (Fm.trimL S.data.toList.reverse = Fm.trimL (Fm.trimL s.data.toList).reverse) ∧ Ext w wr) (fun v _ => szS v)
      case atStart => exact ⟨S, rfl, hSs, Lib.hid (by rw [HS.out]), hx⟩
      case round =>
        clear HS hSs hx
        obtain ⟨S, rfl, hSs, HS, hx⟩ := hrel
        have hSb : S.size ≤ 9223372036854775807 := by omega
        by_cases h0 : S.size = 0
        · have z0 : decide (0 < S.size) = false := decide_eq_false (by omega)
          have z0I : ¬ (0 : Int) < (S.size : Int) := by omega
          have HF : Hid (S = ⟨(Fm.trim s.data.toList).toArray⟩) := Lib.hid (bytes_ext (by
            have hn : S.data.toList = [] := List.eq_nil_of_length_eq_zero (by rw [len_data]; exact h0)
            have h1 := HS.out
            rw [hn] at h1 ⊢
            unfold Fm.trim
            rw [← h1]
            rfl))
          clear h0
          go_wp2_with fail
          go_ret
          exact ⟨ret_string HF.out, hx⟩
        have z0 : decide (0 < S.size) = true := decide_eq_true (by omega)
        have z0I : (0 : Int) < (S.size : Int) := by omega
        obtain ⟨p, hp⟩ : ∃ p : Nat, S.size - 1 = p := ⟨_, rfl⟩
        have epI : (S.size : Int) - 1 = (p : Int) := by omega
        have hpl : p < S.size := by omega
        have hplI : (p : Int) < (S.size : Int) := by omega
        have hpleI : (p : Int) ≤ (S.size : Int) := by omega
        have hsn : S.data.toList = S.data.toList.take p ++ [S[p]] := by
          rw [← take_snoc S p hpl, show p + 1 = S.size by omega, take_all]
        obtain ⟨x, hx32⟩ : ∃ x : Nat, S[p].toNat = x := ⟨_, rfl⟩
        by_cases q : x = 32
        · have z : ((x : Int) == 32) = true := beq_iff_eq.2 (by omega)
          have hTl := cut_front S p
          obtain ⟨T, hT⟩ : ∃ T : ByteArray, S.extract 0 p = T := ⟨_, rfl⟩
          rw [hT] at hTl
          have hTs : T.size = p := by rw [← len_data, hTl, List.length_take, len_data]; omega
          have hTn : T.size ≤ s.size := by omega
          have hTm : T.size < S.size := by omega
          have HT : Hid (Fm.trimL T.data.toList.reverse = Fm.trimL (Fm.trimL s.data.toList).reverse) := Lib.hid (by
            rw [← HS.out, hsn, hTl, List.reverse_append, List.reverse_singleton, List.singleton_append, show S[p] = 32 from UInt8.toNat_inj.1 (by rw [hx32, q]; rfl), Fm.trimL_sp])
          have HTM := Lib.hid hTm
          have hps : S.size - 1 = p := hp
          have hT2 : S.extract 0 (S.size - 1) = T := by rw [hp]; exact hT
          clear q h0 hsn hTl hTs hTm hp hps
          go_wp2_with fail
          go_roundw
          case rel => exact ⟨T, by first | rfl | rw [hT] | rw [hT2], hTn, HT, hx⟩
          case measure => have := HTM.out; simp only [szS]; first | omega | (rw [hT]; omega) | (rw [hT2]; omega)
        · have z : ((x : Int) == 32) = false := beq_eq_false_iff_ne.2 (by omega)
          have HF : Hid (S = ⟨(Fm.trim s.data.toList).toArray⟩) := Lib.hid (bytes_ext (by
            have h1 := HS.out
            have h2 : Fm.trimL S.data.toList.reverse = S.data.toList.reverse := by
              rw [hsn, List.reverse_append, List.reverse_singleton, List.singleton_append]
              exact Fm.trimL_no (fun e => q (by rw [← hx32, e]; rfl))
            unfold Fm.trim
            rw [← h1, h2]
            simp))
          clear q h0 hsn hp
          go_wp2_with fail
          go_ret
          exact ⟨ret_string HF.out, hx⟩
    have z0 : decide (0 < S.size) = true := decide_eq_true (by omega)
    have z0I : (0 : Int) < (S.size : Int) := by omega
    have h0' : 0 < S.size := by omega
    have hsn : S.data.toList = S[0] :: S.data.toList.drop 1 := by have h := drop_cons S 0 h0'; rw [List.drop_zero] at h; exact h
    obtain ⟨x, hx32⟩ : ∃ x : Nat, S[0].toNat = x := ⟨_, rfl⟩
    by_cases q : x = 32
    · have z : ((x : Int) == 32) = true := beq_iff_eq.2 (by omega)
      have hTl := cut_back S 1
      obtain ⟨T, hT⟩ : ∃ T : ByteArray, S.extract 1 S.size = T := ⟨_, rfl⟩
      rw [hT] at hTl
      have hTs : T.size = S.size - 1 := by rw [← len_data, hTl, List.length_drop, len_data]
      have hTn : T.size ≤ s.size := by omega
      have hTm : T.size < S.size := by omega
      have HT : Hid (Fm.trimL T.data.toList = Fm.trimL s.data.toList) := Lib.hid (by
        rw [← HS.out, hsn, hTl, show S[0] = 32 from UInt8.toNat_inj.1 (by rw [hx32, q]; rfl), Fm.trimL_sp])
      have HTM := Lib.hid hTm
      have h1I : (1 : Int) ≤ (S.size : Int) := by omega
      clear q h0 hsn hTl hTs hTm
      go_wp2_with fail
      go_roundw
      case rel => exact ⟨T, by first | rfl | rw [hT], hTn, HT, hx⟩
      case measure => have := HTM.out; simp only [szS]; first | omega | (rw [hT]; omega)
    · have z : ((x : Int) == 32) = false := beq_eq_false_iff_ne.2 (by omega)
      have HS : Hid (S.data.toList = Fm.trimL s.data.toList) := Lib.hid (by
        rw [← HS.out, hsn]
        exact (Fm.trimL_no (fun e => q (by rw [← hx32, e]; rfl))).symm)
      clear q h0 hsn
      obtain ⟨W0, hW0⟩ : ∃ W0, W0 = wr := ⟨_, rfl⟩
      subst hW0
      go_wp2_with fail
      go_loopw [0] (fun v wr => ∃ S : ByteArray, v = .string S ∧ S.size ≤ s.size ∧ Hid (Fm.trimL S.data.toList.reverse = Fm.trimL (Fm.trimL s.data.toList).reverse) ∧ Ext w wr) (fun v _ => szS v)
      case atStart => exact ⟨S, rfl, hSs, Lib.hid (by rw [HS.out]), hx⟩
      case round =>
        clear HS hSs hx
        obtain ⟨S, rfl, hSs, HS, hx⟩ := hrel
        have hSb : S.size ≤ 9223372036854775807 := by omega
        by_cases h0 : S.size = 0
        · have z0 : decide (0 < S.size) = false := decide_eq_false (by omega)
          have z0I : ¬ (0 : Int) < (S.size : Int) := by omega
          have HF : Hid (S = ⟨(Fm.trim s.data.toList).toArray⟩) := Lib.hid (bytes_ext (by
            have hn : S.data.toList = [] := List.eq_nil_of_length_eq_zero (by rw [len_data]; exact h0)
            have h1 := HS.out
            rw [hn] at h1 ⊢
            unfold Fm.trim
            rw [← h1]
            rfl))
          clear h0
          go_wp2_with fail
          go_ret
          exact ⟨ret_string HF.out, hx⟩
        have z0 : decide (0 < S.size) = true := decide_eq_true (by omega)
        have z0I : (0 : Int) < (S.size : Int) := by omega
        obtain ⟨p, hp⟩ : ∃ p : Nat, S.size - 1 = p := ⟨_, rfl⟩
        have epI : (S.size : Int) - 1 = (p : Int) := by omega
        have hpl : p < S.size := by omega
        have hplI : (p : Int) < (S.size : Int) := by omega
        have hpleI : (p : Int) ≤ (S.size : Int) := by omega
        have hsn : S.data.toList = S.data.toList.take p ++ [S[p]] := by
          rw [← take_snoc S p hpl, show p + 1 = S.size by omega, take_all]
        obtain ⟨x, hx32⟩ : ∃ x : Nat, S[p].toNat = x := ⟨_, rfl⟩
        by_cases q : x = 32
        · have z : ((x : Int) == 32) = true := beq_iff_eq.2 (by omega)
          have hTl := cut_front S p
          obtain ⟨T, hT⟩ : ∃ T : ByteArray, S.extract 0 p = T := ⟨_, rfl⟩
          rw [hT] at hTl
          have hTs : T.size = p := by rw [← len_data, hTl, List.length_take, len_data]; omega
          have hTn : T.size ≤ s.size := by omega
          have hTm : T.size < S.size := by omega
          have HT : Hid (Fm.trimL T.data.toList.reverse = Fm.trimL (Fm.trimL s.data.toList).reverse) := Lib.hid (by
            rw [← HS.out, hsn, hTl, List.reverse_append, List.reverse_singleton, List.singleton_append, show S[p] = 32 from UInt8.toNat_inj.1 (by rw [hx32, q]; rfl), Fm.trimL_sp])
          have HTM := Lib.hid hTm
          have hps : S.size - 1 = p := hp
          have hT2 : S.extract 0 (S.size - 1) = T := by rw [hp]; exact hT
          clear q h0 hsn hTl hTs hTm hp hps
          go_wp2_with fail
          go_roundw
          case rel => exact ⟨T, by first | rfl | rw [hT] | rw [hT2], hTn, HT, hx⟩
          case measure => have := HTM.out; simp only [szS]; first | omega | (rw [hT]; omega) | (rw [hT2]; omega)
        · have z : ((x : Int) == 32) = false := beq_eq_false_iff_ne.2 (by omega)
          have HF : Hid (S = ⟨(Fm.trim s.data.toList).toArray⟩) := Lib.hid (bytes_ext (by
            have h1 := HS.out
            have h2 : Fm.trimL S.data.toList.reverse = S.data.toList.reverse := by
              rw [hsn, List.reverse_append, List.reverse_singleton, List.singleton_append]
              exact Fm.trimL_no (fun e => q (by rw [← hx32, e]; rfl))
            unfold Fm.trim
            rw [← h1, h2]
            simp))
          clear q h0 hsn hp
          go_wp2_with fail
          go_ret
          exact ⟨ret_string HF.out, hx⟩

set_option maxRecDepth 100000 in
set_option maxHeartbeats 1000000 in
theorem xbelongs_any (l s : ByteArray) (hl : l.size ≤ 1000000) (w : World) : Calls Tryz.prog 63 #[.string l, .string s] w fun e w' => e = .returned (.tuple #[.string ⟨(Fm.blg l.data.toList s.data.toList).1.toArray⟩, .bool (Fm.blg l.data.toList s.data.toList).2]) ∧ Ext w w' := by
  obtain ⟨rv, hrv⟩ : ∃ rv, rv = Fm.blg l.data.toList s.data.toList := ⟨_, rfl⟩
  rw [← hrv]
  have HR := Lib.hid hrv
  clear hrv
  go_enter Tryz.func63, Tryz.ntmps63
  go_wp2_with fail
  go_loopw [6] (fun t wr => ∃ k : Nat, k ≤ l.size ∧ t = .int .i64 (k : Int) ∧ Hid (∀ x ∈ l.data.toList.take k, x ≠ 58) ∧ Ext w wr) (fun t _ => l.size - (intOf t).toNat)
  case atStart => exact ⟨0, Nat.zero_le _, rfl, Lib.hid (fun x h => by simp at h), Ext.refl _⟩
  case round =>
    obtain ⟨k, hk, rfl, HV, hx⟩ := hrel
    by_cases hlt : k < l.size
    · have hltI : (k : Int) < (l.size : Int) := by omega
      have hts := take_snoc l k hlt
      have hdr := drop_cons l k hlt
      obtain ⟨x, hx58⟩ : ∃ x : Nat, l[k].toNat = x := ⟨_, rfl⟩
      by_cases q : x = 58
      · have z : ((x : Int) == 58) = true := beq_iff_eq.2 (by omega)
        obtain ⟨j, hj⟩ : ∃ j : Nat, j = k + 1 := ⟨_, rfl⟩
        have hjI : (k : Int) + 1 = (j : Int) := by omega
        have hjl : j ≤ l.size := by omega
        have hjlI : (j : Int) ≤ (l.size : Int) := by omega
        have hklI : (k : Int) ≤ (l.size : Int) := by omega
        have hcut : Fm.cutAt 58 l.data.toList = some (l.data.toList.take k, l.data.toList.drop j) := by
          have h := Fm.cutAt_at 58 (l.data.toList.take k) (l.data.toList.drop j) HV.out
          rw [← h, hj]
          congr 1
          rw [← show l[k] = 58 from UInt8.toNat_inj.1 (by rw [hx58, q]; rfl), ← hdr, List.take_append_drop]
        have c1 := cut_front l k
        have c2 := cut_back l j
        have T1 := Lib.hid (fun w' => xtrim_any (l.extract 0 k) (by simp only [ByteArray.size_extract]; omega) w')
        have T2 := Lib.hid (fun w' => xtrim_any (l.extract j l.size) (by simp only [ByteArray.size_extract]; omega) w')
        rw [c1] at T1
        rw [c2] at T2
        have hr : rv = (Fm.trim (l.data.toList.drop j), Fm.trim (l.data.toList.take k) == s.data.toList) := by
          rw [HR.out]; unfold Fm.blg Fm.lineOf; rw [hcut]; rfl
        subst hr
        generalize hA : Fm.trim (l.data.toList.take k) = A at *
        generalize hB : Fm.trim (l.data.toList.drop j) = B at *
        have HA := Lib.hid hA
        have HB := Lib.hid hB
        obtain ⟨TA, hTA⟩ : ∃ TA : ByteArray, TA = ⟨A.toArray⟩ := ⟨_, rfl⟩
        rw [← hTA] at T1
        have hq : (TA.toList == s.toList) = (A == s.data.toList) := by rw [Lib.toList_data, Lib.toList_data, hTA]
        try dsimp only
        generalize hbo : (A == s.data.toList) = bo at *
        have HBO := Lib.hid hbo
        clear hA hB hbo hTA HR hcut c1 c2 hts hdr q HV hj
        go_wp2_with fail
        refine wp_region_quiet (C := fun w' => ∃ x : Ahead wr, w' = x.at') (by kernel_rfl) (by kernel_rfl) (Ahead.drawn _) ?_
        try dsimp only
        repeat (first | go_big_quiet_step ((first | with_reducible exact ahead_of (T1.out _) | with_reducible exact ahead_of (T2.out _))) | quiet_step ((first | with_reducible exact ahead_of (T1.out _) | with_reducible exact ahead_of (T2.out _))))
        refine wpQuiet_nil ?_
        intro _ hx0
        obtain ⟨x0, hx0⟩ := hx0
        subst hx0
        obtain ⟨w2, hx2⟩ := x0
        try dsimp only
        go_wp2_with fail
        go_ret2
        exact ⟨by rw [HA.out, HB.out, HBO.out]; rfl, hx.trans hx2⟩
      · have z : ((x : Int) == 58) = false := beq_eq_false_iff_ne.2 (by omega)
        have HV2 : Hid (∀ x ∈ l.data.toList.take (k + 1), x ≠ 58) := Lib.hid (fun y hy => by
          rw [hts] at hy
          rcases List.mem_append.1 hy with hy | hy
          · exact HV.out y hy
          · rw [List.mem_singleton.1 hy]; exact fun e => q (by rw [← hx58, e]; rfl))
        clear q hts hdr HV
        go_wp2_with fail
        go_roundw
        case rel => exact ⟨k + 1, by omega, by go_num, HV2, hx⟩
        case measure => (simp [intOf]; try omega)
    · obtain rfl : k = l.size := by omega
      have hr : rv = ([], false) := by
        rw [HR.out]
        unfold Fm.blg Fm.lineOf
        rw [Fm.cutAt_none 58 _ (by have h := HV.out; rw [take_all] at h; exact h)]
        rfl
      subst hr
      clear HR HV hlt
      go_wp2_with fail
      go_ret2
      exact ⟨rfl, hx⟩
end Go.Proofs.YtkpfehfcgpapiaaGreatDoor
