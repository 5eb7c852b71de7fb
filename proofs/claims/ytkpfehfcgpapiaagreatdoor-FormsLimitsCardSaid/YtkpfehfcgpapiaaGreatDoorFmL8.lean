/-
  The law FormsLimits, walked.
  Condition: the listed variables are there; the examples hold.
-/
import Derived.Test.YtkpfehfcgpapiaaGreatDoorFmLa
import Derived.Test.YtkpfehfcgpapiaaGreatDoorFmL7
import Derived.Test.YtkpfehfcgpapiaaGreatDoorFmPa
import Derived.Test.YtkpfehfcgpapiaaGreatDoorFmVh
import Derived.Test.YtkpfehfcgpapiaaGreatDoorFmXa
import Derived.Deep.Cut
namespace Go.Proofs.YtkpfehfcgpapiaaGreatDoor
set_option linter.unusedVariables false
open Go.RowKit

theorem rep_ex (n : Nat) : (Fm.billT ++ Fm.rep n).length = 112 + 2 * n := by rw [List.length_append, Fm.bill_len, Fm.rep_len]
def strSz : Value → Nat
  | .string s => s.size
  | _ => 0
theorem rep_dbl (s : ByteArray) (n : Nat) (h : s.data.toList = Fm.billT ++ Fm.rep n) : (s ++ s.extract 112 s.size).data.toList = Fm.billT ++ Fm.rep (n + n) := by
  have hd : (Fm.billT ++ Fm.rep n).drop 112 = Fm.rep n := by
    have h1 : (112 : Nat) = Fm.billT.length := Fm.bill_len.symm
    rw [h1, List.drop_left]
  rw [ByteArray.data_append, Array.toList_append, cut_back, h, hd, List.append_assoc, Fm.rep_add]
theorem rep_cut (s : ByteArray) (n g : Nat) (h : s.data.toList = Fm.billT ++ Fm.rep n) (hg : 112 < g) : (s.extract 0 g).data.toList = Fm.billT ++ (Fm.rep n).take (g - 112) := by
  rw [cut_front, h, List.take_append, Fm.bill_len, List.take_of_length_le (by rw [Fm.bill_len]; omega)]
set_option maxRecDepth 100000 in
set_option maxHeartbeats 2000000 in
theorem lim_text (mr : Int) (h0 : 0 ≤ mr) (h1 : mr ≤ 255) (w : World) (hE : Errs w) (hP : Pow w) (hX : ExH) :
    Calls Tryz.prog 4 #[.int .u8 mr, .bool false] w fun e w' => e = .returned (.bool true) ∧ Ext w w' := by
  obtain ⟨k, hk, hk5⟩ : ∃ k : Nat, mr % 5 = (k : Int) ∧ k < 5 := ⟨(mr % 5).toNat, by omega, by omega⟩
  have HE := Lib.hid hE
  have HP := Lib.hid hP
  have HEX := Lib.hid hX
  clear hE hP hX
  go_enter Tryz.func4, Tryz.ntmps4
  obtain ⟨g, hg⟩ : ∃ g : Nat, g = 65534 + k := ⟨_, rfl⟩
  have hgI : (65534 : Int) + (k : Int) = (g : Int) := by omega
  have hgb : g ≤ 65538 := by omega
  have hg0 : 112 < g := by omega
  have HG := Lib.hid hg
  clear hg
  go_wp2_with fail
  go_loopw [6] (fun t wr => ∃ (s : ByteArray) (n : Nat), t = .string s ∧ 1 ≤ n ∧ s.size = 112 + 2 * n ∧ n ≤ 70000 ∧ Hid (s.data.toList = Fm.billT ++ Fm.rep n) ∧ Hid (Ext w wr)) (fun t _ => 70000 - strSz t)
  case atStart => exact ⟨_, 1, rfl, Nat.le_refl _, by decide, by decide, Lib.hid (by decide +kernel), Lib.hid (Ext.refl _)⟩
  case round =>
    obtain ⟨s, n, rfl, hn1, hsn, hnb, HS, HX⟩ := hrel
    by_cases hlt : s.size < g
    · have z : (s.size : Int) < (g : Int) := by omega
      have h112 : (112 : Int) ≤ (s.size : Int) := by omega
      have hcc : ¬ 9223372036854775807 < s.size + (s.size - 112) := by omega
      have HD := Lib.hid (rep_dbl s n HS.out)
      have HDS : Hid ((s ++ s.extract 112 s.size).size = 112 + 2 * (n + n)) := Lib.hid (by rw [← len_data, HD.out, rep_ex])
      have HSN := Lib.hid hsn
      clear hsn
      go_wp2_with fail
      go_roundw
      case rel => exact ⟨_, n + n, rfl, by omega, HDS.out, by have := HSN.out; omega, HD, HX⟩
      case measure =>
        have h1 := HDS.out
        have h2 := HSN.out
        simp only [strSz]
        omega
    · have z : ¬ (s.size : Int) < (g : Int) := by omega
      have hgs : (g : Int) ≤ (s.size : Int) := by omega
      have HT := Lib.hid (rep_cut s n g HS.out hg0)
      have hTs : (s.extract 0 g).size = g := by rw [← len_data, cut_front, List.length_take, len_data]; omega
      obtain ⟨T, hT⟩ : ∃ T, s.extract 0 g = T := ⟨_, rfl⟩
      rw [hT] at HT hTs
      have hxw := HX.out
      by_cases hk2 : 2 < k
      · have HPL := Lib.hid (fparse_long T wr (by rw [hTs, HG.out]; omega))
        have zk : decide (2 < k) = true := decide_eq_true hk2
        have zl : decide ((k : Int) ≤ 2) = false := decide_eq_false (by omega)
        clear hsn hTs
        go_wp2_with fail
        refine Calls.mono HPL.out ?_
        rintro e w1 ⟨rfl, hx1⟩
        have hx2 := (hxw.trans hx1).alloc (.cells #[.string ⟨#[]⟩, .slice none 0 0, .slice none 0 0] 25)
        have HEXW := Lib.hid (HEX.out _ (HE.out.ext hx2) (HP.out.ext hx2))
        go_wp2_with fail
        refine Calls.mono HEXW.out ?_
        rintro e w9 ⟨rfl, hx9⟩
        go_wp2_with fail
        go_ret
        exact ⟨rfl, hx2.trans hx9⟩
      · have HPL := Lib.hid (fparse_any T Fm.billF wr (by rw [hTs, HG.out]; omega) (by rw [HT.out]; exact Fm.bill_long n (g - 112) (by omega) (by omega)) Fm.bill_check bill_flB bill_smB (HE.out.ext hxw))
        have zk : decide ((2 : Int) < (k : Int)) = false := decide_eq_false (by omega)
        have zl : decide ((k : Int) ≤ 2) = true := decide_eq_true (by omega)
        clear hsn hTs
        go_wp2_with fail
        refine Calls.mono HPL.out ?_
        intro e w1 he1
        obtain ⟨⟨vf, vs, rfl, hf, hm⟩, hx1⟩ := he1
        obtain ⟨fa, fc, rfl⟩ := hf.form
        obtain ⟨sa, sc, rfl⟩ := hm.form
        obtain ⟨NM, hNM⟩ : ∃ NM : ByteArray, NM = ⟨Fm.billF.name.toArray⟩ := ⟨_, rfl⟩
        rw [show strV Fm.billF.name = .string NM by rw [hNM]; rfl]
        generalize Fm.billF.fields.length = fn at *
        generalize Fm.billF.sums.length = sn at *
        have hx2 := (hxw.trans hx1).alloc (.cells #[.string NM, .slice fa fn fc, .slice sa sn sc] 25)
        have HEXW := Lib.hid (HEX.out _ (HE.out.ext hx2) (HP.out.ext hx2))
        clear hf hm hNM
        go_wp2_with fail
        refine Calls.mono HEXW.out ?_
        rintro e w9 ⟨rfl, hx9⟩
        go_wp2_with fail
        go_ret
        exact ⟨rfl, hx2.trans hx9⟩
end Go.Proofs.YtkpfehfcgpapiaaGreatDoor
