/-
  Chapter 51: the members of a field: the program.
  No condition.
-/
import Derived.Test.YtkpfehfcgpapiaaGreatDoorFmVa
import Derived.Test.YtkpfehfcgpapiaaGreatDoorCdW5
import Derived.Test.YtkpfehfcgpapiaaGreatDoorFmMa
import Derived.Test.YtkpfehfcgpapiaaGreatDoorShelf
import Derived.Shelf.Strings.SlTrimAscii
import Derived.BigQuiet

/-
  Chapter 51: the members of a field: the program.
  No condition.
-/
namespace Go.Proofs.YtkpfehfcgpapiaaGreatDoor
open Go.RowKit

set_option maxRecDepth 100000 in
set_option maxHeartbeats 1000000 in
theorem checkDigits_any (nm : ByteArray) (op mn mx ck : Int) (a : Option Addr) (n c : Nat) (opt : Bool) (l : List Fm.S) (w : World) :
    Calls Tryz.prog 74 #[.agg #[.string nm, .int .i64 op, .int .i64 mn, .int .i64 mx, .int .i64 ck, .slice a n c, .bool opt]] w fun e w' => e = .returned (.int .i64 (Fm.digE ⟨nm.data.toList, op, mn, mx, ck, l, opt⟩)) ∧ Ext w w' := by
  have HR := Lib.hid (Fm.digE.eq_1 ⟨nm.data.toList, op, mn, mx, ck, l, opt⟩)
  dsimp only at HR
  generalize Fm.digE ⟨nm.data.toList, op, mn, mx, ck, l, opt⟩ = res at *
  have HW := Lib.hid (fun w => within_any 1 mn mx 60 w)
  by_cases hz : ck = 0
  · subst hz
    rw [if_neg (by omega), show Fm.ckSize 0 = 0 from rfl] at HR
    cases hw : Fm.within 1 mn mx 60 with
    | false =>
      rw [hw] at HW HR
      have HF : Hid (res = 3) := Lib.hid (by rw [HR.out]; rfl)
      clear hw HR
      go_enter Tryz.func74, Tryz.ntmps74
      go_wp2_with fail
      refine (HW.out _).mono ?_
      rintro e w1 ⟨rfl, rfl⟩
      go_wp2
      go_ret
      exact ⟨ret_int HF.out.symm, (by repeat (first | exact Ext.refl _ | assumption | refine Ext.alloc ?_ _ | refine Ext.drew ?_ | refine Ext.trans ?_ (by assumption)))⟩
    | true =>
      have hlo : ¬ mn ≤ 0 := by unfold Fm.within at hw; simp at hw; omega
      rw [hw, decide_eq_true (show 0 < mn by omega)] at HR
      rw [hw] at HW
      have HF : Hid (res = 0) := Lib.hid (by rw [HR.out]; rfl)
      clear hw HR
      go_enter Tryz.func74, Tryz.ntmps74
      go_wp2_with fail
      refine (HW.out _).mono ?_
      rintro e w1 ⟨rfl, rfl⟩
      go_wp2
      go_ret
      exact ⟨ret_int HF.out.symm, (by repeat (first | exact Ext.refl _ | assumption | refine Ext.alloc ?_ _ | refine Ext.drew ?_ | refine Ext.trans ?_ (by assumption)))⟩
  have z0 : (ck == 0) = false := beq_eq_false_iff_ne.2 hz
  have HS := Lib.hid (fun w => size_any ck w)
  by_cases hb : ck < 1 ∨ 8 < ck
  · rw [if_pos hb, if_pos hb] at HS
    have HF : Hid (res = 1) := Lib.hid (by rw [HR.out, if_pos (by omega)])
    clear hb hz HR HW
    go_enter Tryz.func74, Tryz.ntmps74
    go_wp2_with fail
    refine (HS.out _).mono ?_
    rintro e w1 ⟨rfl, hx1⟩
    obtain ⟨-, -, m2, m3, m4, -, -⟩ := kept7 hx1
    go_wp2
    go_ret
    exact ⟨ret_int HF.out.symm, (by repeat (first | exact Ext.refl _ | assumption | refine Ext.alloc ?_ _ | refine Ext.drew ?_ | refine Ext.trans ?_ (by assumption)))⟩
  rw [if_neg hb, if_neg hb] at HS
  by_cases h7 : ck = 7
  · subst h7
    have HF : Hid (res = 1) := Lib.hid (by rw [HR.out, if_pos (by omega)])
    clear hb hz HR HW z0
    go_enter Tryz.func74, Tryz.ntmps74
    go_wp2_with fail
    refine (HS.out _).mono ?_
    rintro e w1 ⟨rfl, hx1⟩
    obtain ⟨-, -, m2, m3, m4, -, -⟩ := kept7 hx1
    go_wp2
    go_ret
    exact ⟨ret_int HF.out.symm, (by repeat (first | exact Ext.refl _ | assumption | refine Ext.alloc ?_ _ | refine Ext.drew ?_ | refine Ext.trans ?_ (by assumption)))⟩
  have z7 : (ck == 7) = false := beq_eq_false_iff_ne.2 h7
  rw [if_neg (by omega), show Fm.ckSize ck = Cd.size ck.toNat by unfold Fm.ckSize; rw [if_neg hz]] at HR
  clear hb hz h7
  obtain ⟨z, hzz⟩ : ∃ z : Int, (Cd.size ck.toNat : Int) = z := ⟨_, rfl⟩
  rw [hzz] at HR HS
  clear hzz
  cases hw : Fm.within 1 mn mx 60 with
  | false =>
    rw [hw] at HW HR
    have HF : Hid (res = 3) := Lib.hid (by rw [HR.out]; rfl)
    clear hw HR
    go_enter Tryz.func74, Tryz.ntmps74
    go_wp2_with fail
    refine (HS.out _).mono ?_
    rintro e w1 ⟨rfl, hx1⟩
    obtain ⟨-, -, m2, m3, m4, -, -⟩ := kept7 hx1
    go_wp2_with fail
    refine (HW.out _).mono ?_
    rintro e w2 ⟨rfl, rfl⟩
    go_wp2
    go_ret
    exact ⟨ret_int HF.out.symm, (by repeat (first | exact Ext.refl _ | assumption | refine Ext.alloc ?_ _ | refine Ext.drew ?_ | refine Ext.trans ?_ (by assumption)))⟩
  | true =>
    rw [hw] at HW HR
    by_cases hlo : mn ≤ z
    · have HF : Hid (res = 3) := Lib.hid (by rw [HR.out, decide_eq_false (show ¬ z < mn by omega)]; rfl)
      clear hw HR
      go_enter Tryz.func74, Tryz.ntmps74
      go_wp2_with fail
      refine (HS.out _).mono ?_
      rintro e w1 ⟨rfl, hx1⟩
      obtain ⟨-, -, m2, m3, m4, -, -⟩ := kept7 hx1
      go_wp2_with fail
      refine (HW.out _).mono ?_
      rintro e w2 ⟨rfl, rfl⟩
      go_wp2
      go_ret
      exact ⟨ret_int HF.out.symm, (by repeat (first | exact Ext.refl _ | assumption | refine Ext.alloc ?_ _ | refine Ext.drew ?_ | refine Ext.trans ?_ (by assumption)))⟩
    · have HF : Hid (res = 0) := Lib.hid (by rw [HR.out, decide_eq_true (show z < mn by omega)]; rfl)
      clear hw HR
      go_enter Tryz.func74, Tryz.ntmps74
      go_wp2_with fail
      refine (HS.out _).mono ?_
      rintro e w1 ⟨rfl, hx1⟩
      obtain ⟨-, -, m2, m3, m4, -, -⟩ := kept7 hx1
      go_wp2_with fail
      refine (HW.out _).mono ?_
      rintro e w2 ⟨rfl, rfl⟩
      go_wp2
      go_ret
      exact ⟨ret_int HF.out.symm, (by repeat (first | exact Ext.refl _ | assumption | refine Ext.alloc ?_ _ | refine Ext.drew ?_ | refine Ext.trans ?_ (by assumption)))⟩

set_option maxRecDepth 100000 in
set_option maxHeartbeats 2000000 in
theorem checkMembers_any (nm : ByteArray) (op mn mx ck : Int) (a : Option Addr) (n c : Nat) (opt : Bool) (l : List Fm.S) (w : World) (hl : StrsR w (.slice a n c) l) (hs : Short Go.maxLen l) (hn : l.length ≤ Go.maxLen) :
    Calls Tryz.prog 42 #[.agg #[.string nm, .int .i64 op, .int .i64 mn, .int .i64 mx, .int .i64 ck, .slice a n c, .bool opt]] w fun e w' => e = .returned (.int .i64 (Fm.memE ⟨nm.data.toList, op, mn, mx, ck, l, opt⟩)) ∧ Ext w w' := by
  obtain ⟨a', c', he, _⟩ := hl.form
  injection he with e1 e2 e3
  subst e1 e3
  obtain ⟨res, hres⟩ : ∃ res, Fm.memE ⟨nm.data.toList, op, mn, mx, ck, l, opt⟩ = res := ⟨_, rfl⟩
  rw [hres]
  by_cases hop : op < 1 ∨ 5 < op
  · have HF : Hid (res = 1) := Lib.hid (by rw [← hres]; unfold Fm.memE; rw [if_pos hop])
    have o1 : (op == 1) = false := beq_eq_false_iff_ne.2 (by omega)
    have o2 : (op == 2) = false := beq_eq_false_iff_ne.2 (by omega)
    have o3 : (op == 3) = false := beq_eq_false_iff_ne.2 (by omega)
    have o4 : (op == 4) = false := beq_eq_false_iff_ne.2 (by omega)
    have o5 : (op == 5) = false := beq_eq_false_iff_ne.2 (by omega)
    clear hop hres hl hs hn e2
    go_enter Tryz.func42, Tryz.ntmps42
    go_wp2
    go_ret
    exact ⟨ret_int HF.out.symm, (by repeat (first | exact Ext.refl _ | assumption | refine Ext.alloc ?_ _ | refine Ext.drew ?_ | refine Ext.trans ?_ (by assumption)))⟩
  have h5 : op = 1 ∨ op = 4 ∨ op = 2 ∨ op = 3 ∨ op = 5 := by omega
  clear hop
  rcases h5 with rfl | rfl | rfl | rfl | rfl

  · have HR : Hid (res = if l.length = 0 then Fm.digE ⟨nm.data.toList, 1, mn, mx, ck, l, opt⟩ else 1) := Lib.hid hres.symm
    rw [← e2] at HR
    have HD := Lib.hid (fun w => checkDigits_any nm 1 mn mx ck a n c opt l w)
    generalize Fm.digE ⟨nm.data.toList, 1, mn, mx, ck, l, opt⟩ = d at *
    clear hres hl hs hn e2
    by_cases h0 : n = 0
    · have n0 : ((n : Int) == 0) = true := by rw [h0]; rfl
      rw [if_pos h0] at HR
      clear h0
      go_enter Tryz.func42, Tryz.ntmps42
      go_wp2_with fail
      refine (HD.out _).mono ?_
      rintro e w1 ⟨rfl, hx1⟩
      go_wp2
      go_ret
      exact ⟨ret_int HR.out.symm, (by repeat (first | exact Ext.refl _ | assumption | refine Ext.alloc ?_ _ | refine Ext.drew ?_ | refine Ext.trans ?_ (by assumption)))⟩
    · have n0 : ((n : Int) == 0) = false := by rw [beq_eq_false_iff_ne]; omega
      rw [if_neg h0] at HR
      clear h0 HD
      go_enter Tryz.func42, Tryz.ntmps42
      go_wp2
      go_ret
      exact ⟨ret_int HR.out.symm, (by repeat (first | exact Ext.refl _ | assumption | refine Ext.alloc ?_ _ | refine Ext.drew ?_ | refine Ext.trans ?_ (by assumption)))⟩

  · have HR : Hid (res = if mn = 0 ∧ mx = 0 ∧ ck = 0 then Fm.chsE l else 1) := Lib.hid hres.symm
    have HC := Lib.hid (fun (w' : World) (hx : Ext w w') => checkChoices_any (.slice a n c) l w' (hl.ext hx) hs hn)
    generalize Fm.chsE l = d at *
    clear hres hl hs hn e2
    by_cases h0 : mn = 0
    rotate_left
    · have z0 : (mn != 0) = true := bne_iff_ne.2 h0
      rw [if_neg (fun h => h0 h.1)] at HR
      clear h0 HC
      go_enter Tryz.func42, Tryz.ntmps42
      go_wp2
      go_ret
      exact ⟨ret_int HR.out.symm, (by repeat (first | exact Ext.refl _ | assumption | refine Ext.alloc ?_ _ | refine Ext.drew ?_ | refine Ext.trans ?_ (by assumption)))⟩
    subst h0
    by_cases h0 : mx = 0
    rotate_left
    · have z0 : (mx != 0) = true := bne_iff_ne.2 h0
      rw [if_neg (fun h => h0 h.2.1)] at HR
      clear h0 HC
      go_enter Tryz.func42, Tryz.ntmps42
      go_wp2
      go_ret
      exact ⟨ret_int HR.out.symm, (by repeat (first | exact Ext.refl _ | assumption | refine Ext.alloc ?_ _ | refine Ext.drew ?_ | refine Ext.trans ?_ (by assumption)))⟩
    subst h0
    by_cases h0 : ck = 0
    rotate_left
    · have z0 : (ck != 0) = true := bne_iff_ne.2 h0
      rw [if_neg (fun h => h0 h.2.2)] at HR
      clear h0 HC
      go_enter Tryz.func42, Tryz.ntmps42
      go_wp2
      go_ret
      exact ⟨ret_int HR.out.symm, (by repeat (first | exact Ext.refl _ | assumption | refine Ext.alloc ?_ _ | refine Ext.drew ?_ | refine Ext.trans ?_ (by assumption)))⟩
    subst h0
    rw [if_pos ⟨rfl, rfl, rfl⟩] at HR
    go_enter Tryz.func42, Tryz.ntmps42
    go_wp2_with fail
    refine (HC.out _ (by repeat (first | exact Ext.refl _ | assumption | refine Ext.alloc ?_ _ | refine Ext.drew ?_ | refine Ext.trans ?_ (by assumption)))).mono ?_
    rintro e w1 ⟨rfl, hx1⟩
    go_wp2
    go_ret
    exact ⟨ret_int HR.out.symm, (by repeat (first | exact Ext.refl _ | assumption | refine Ext.alloc ?_ _ | refine Ext.drew ?_ | refine Ext.trans ?_ (by assumption)))⟩

  · have HR : Hid (res = if ck = 0 ∧ l.length = 0 then (if Fm.within (-1000000000000000) mn mx 1000000000000000 then 0 else 3) else 1) := Lib.hid hres.symm
    rw [← e2] at HR
    have HW := Lib.hid (fun w => within_any (-1000000000000000) mn mx 1000000000000000 w)
    generalize Fm.within (-1000000000000000) mn mx 1000000000000000 = b at *
    clear hres hl hs hn e2
    by_cases h0 : ck = 0
    rotate_left
    · have z0 : (ck != 0) = true := bne_iff_ne.2 h0
      rw [if_neg (fun h => h0 h.1)] at HR
      clear h0
      go_enter Tryz.func42, Tryz.ntmps42
      go_wp2_with fail
      refine (HW.out _).mono ?_
      rintro e w1 ⟨rfl, rfl⟩
      go_wp2
      go_ret
      exact ⟨ret_int HR.out.symm, (by repeat (first | exact Ext.refl _ | assumption | refine Ext.alloc ?_ _ | refine Ext.drew ?_ | refine Ext.trans ?_ (by assumption)))⟩
    subst h0
    by_cases h0 : n = 0
    rotate_left
    · have n0 : ((n : Int) != 0) = true := by rw [bne_iff_ne]; omega
      rw [if_neg (fun h => h0 h.2)] at HR
      clear h0
      go_enter Tryz.func42, Tryz.ntmps42
      go_wp2_with fail
      refine (HW.out _).mono ?_
      rintro e w1 ⟨rfl, rfl⟩
      go_wp2
      go_ret
      exact ⟨ret_int HR.out.symm, (by repeat (first | exact Ext.refl _ | assumption | refine Ext.alloc ?_ _ | refine Ext.drew ?_ | refine Ext.trans ?_ (by assumption)))⟩
    have n0 : ((n : Int) == 0) = true := by rw [h0]; rfl
    rw [if_pos ⟨rfl, h0⟩] at HR
    clear h0
    cases b with
    | true =>
      go_enter Tryz.func42, Tryz.ntmps42
      go_wp2_with fail
      refine (HW.out _).mono ?_
      rintro e w1 ⟨rfl, rfl⟩
      go_wp2
      go_ret
      exact ⟨ret_int HR.out.symm, (by repeat (first | exact Ext.refl _ | assumption | refine Ext.alloc ?_ _ | refine Ext.drew ?_ | refine Ext.trans ?_ (by assumption)))⟩
    | false =>
      go_enter Tryz.func42, Tryz.ntmps42
      go_wp2_with fail
      refine (HW.out _).mono ?_
      rintro e w1 ⟨rfl, rfl⟩
      go_wp2
      go_ret
      exact ⟨ret_int HR.out.symm, (by repeat (first | exact Ext.refl _ | assumption | refine Ext.alloc ?_ _ | refine Ext.drew ?_ | refine Ext.trans ?_ (by assumption)))⟩

  · have HR : Hid (res = if ck = 0 ∧ l.length = 0 then (if Fm.within 0 mn mx 200 then 0 else 3) else 1) := Lib.hid hres.symm
    rw [← e2] at HR
    have HW := Lib.hid (fun w => within_any 0 mn mx 200 w)
    generalize Fm.within 0 mn mx 200 = b at *
    clear hres hl hs hn e2
    by_cases h0 : ck = 0
    rotate_left
    · have z0 : (ck != 0) = true := bne_iff_ne.2 h0
      rw [if_neg (fun h => h0 h.1)] at HR
      clear h0
      go_enter Tryz.func42, Tryz.ntmps42
      go_wp2_with fail
      refine (HW.out _).mono ?_
      rintro e w1 ⟨rfl, rfl⟩
      go_wp2
      go_ret
      exact ⟨ret_int HR.out.symm, (by repeat (first | exact Ext.refl _ | assumption | refine Ext.alloc ?_ _ | refine Ext.drew ?_ | refine Ext.trans ?_ (by assumption)))⟩
    subst h0
    by_cases h0 : n = 0
    rotate_left
    · have n0 : ((n : Int) != 0) = true := by rw [bne_iff_ne]; omega
      rw [if_neg (fun h => h0 h.2)] at HR
      clear h0
      go_enter Tryz.func42, Tryz.ntmps42
      go_wp2_with fail
      refine (HW.out _).mono ?_
      rintro e w1 ⟨rfl, rfl⟩
      go_wp2
      go_ret
      exact ⟨ret_int HR.out.symm, (by repeat (first | exact Ext.refl _ | assumption | refine Ext.alloc ?_ _ | refine Ext.drew ?_ | refine Ext.trans ?_ (by assumption)))⟩
    have n0 : ((n : Int) == 0) = true := by rw [h0]; rfl
    rw [if_pos ⟨rfl, h0⟩] at HR
    clear h0
    cases b with
    | true =>
      go_enter Tryz.func42, Tryz.ntmps42
      go_wp2_with fail
      refine (HW.out _).mono ?_
      rintro e w1 ⟨rfl, rfl⟩
      go_wp2
      go_ret
      exact ⟨ret_int HR.out.symm, (by repeat (first | exact Ext.refl _ | assumption | refine Ext.alloc ?_ _ | refine Ext.drew ?_ | refine Ext.trans ?_ (by assumption)))⟩
    | false =>
      go_enter Tryz.func42, Tryz.ntmps42
      go_wp2_with fail
      refine (HW.out _).mono ?_
      rintro e w1 ⟨rfl, rfl⟩
      go_wp2
      go_ret
      exact ⟨ret_int HR.out.symm, (by repeat (first | exact Ext.refl _ | assumption | refine Ext.alloc ?_ _ | refine Ext.drew ?_ | refine Ext.trans ?_ (by assumption)))⟩

  · have HR : Hid (res = if ck = 0 ∧ l.length = 0 then (if Fm.within 1 mn mx 9999 then 0 else 3) else 1) := Lib.hid hres.symm
    rw [← e2] at HR
    have HW := Lib.hid (fun w => within_any 1 mn mx 9999 w)
    generalize Fm.within 1 mn mx 9999 = b at *
    clear hres hl hs hn e2
    by_cases h0 : ck = 0
    rotate_left
    · have z0 : (ck != 0) = true := bne_iff_ne.2 h0
      rw [if_neg (fun h => h0 h.1)] at HR
      clear h0
      go_enter Tryz.func42, Tryz.ntmps42
      go_wp2_with fail
      refine (HW.out _).mono ?_
      rintro e w1 ⟨rfl, rfl⟩
      go_wp2
      go_ret
      exact ⟨ret_int HR.out.symm, (by repeat (first | exact Ext.refl _ | assumption | refine Ext.alloc ?_ _ | refine Ext.drew ?_ | refine Ext.trans ?_ (by assumption)))⟩
    subst h0
    by_cases h0 : n = 0
    rotate_left
    · have n0 : ((n : Int) != 0) = true := by rw [bne_iff_ne]; omega
      rw [if_neg (fun h => h0 h.2)] at HR
      clear h0
      go_enter Tryz.func42, Tryz.ntmps42
      go_wp2_with fail
      refine (HW.out _).mono ?_
      rintro e w1 ⟨rfl, rfl⟩
      go_wp2
      go_ret
      exact ⟨ret_int HR.out.symm, (by repeat (first | exact Ext.refl _ | assumption | refine Ext.alloc ?_ _ | refine Ext.drew ?_ | refine Ext.trans ?_ (by assumption)))⟩
    have n0 : ((n : Int) == 0) = true := by rw [h0]; rfl
    rw [if_pos ⟨rfl, h0⟩] at HR
    clear h0
    cases b with
    | true =>
      go_enter Tryz.func42, Tryz.ntmps42
      go_wp2_with fail
      refine (HW.out _).mono ?_
      rintro e w1 ⟨rfl, rfl⟩
      go_wp2
      go_ret
      exact ⟨ret_int HR.out.symm, (by repeat (first | exact Ext.refl _ | assumption | refine Ext.alloc ?_ _ | refine Ext.drew ?_ | refine Ext.trans ?_ (by assumption)))⟩
    | false =>
      go_enter Tryz.func42, Tryz.ntmps42
      go_wp2_with fail
      refine (HW.out _).mono ?_
      rintro e w1 ⟨rfl, rfl⟩
      go_wp2
      go_ret
      exact ⟨ret_int HR.out.symm, (by repeat (first | exact Ext.refl _ | assumption | refine Ext.alloc ?_ _ | refine Ext.drew ?_ | refine Ext.trans ?_ (by assumption)))⟩

end Go.Proofs.YtkpfehfcgpapiaaGreatDoor

/-
  Chapter 51: Check: the program.
  No condition.
-/
namespace Go.Proofs.YtkpfehfcgpapiaaGreatDoor
open Go.RowKit

/-- The first error, or the second one. -/
def thenE (z s : Int) : Int := if z = 0 then s else z
theorem thenE_bad {z s : Int} (h : z ≠ 0) : thenE z s = z := if_neg h
theorem nums_snoc {fs : List Fm.Fld} {k : Nat} {f : Fm.Fld} (h : fs[k]? = some f) : Fm.nums (fs.take (k + 1)) = Fm.nums (fs.take k) ++ (if f.op = 2 then [f.name] else []) := by
  unfold Fm.nums
  rw [snoc_take h, List.filter_append, List.map_append]
  congr 1
  by_cases h2 : f.op = 2
  · rw [if_pos h2, List.filter_cons, if_pos (by rw [h2]; rfl)]; rfl
  · rw [if_neg h2, List.filter_cons, if_neg (by simpa using h2)]; rfl
theorem names_snoc {fs : List Fm.Fld} {k : Nat} {f : Fm.Fld} (h : fs[k]? = some f) : (fs.take (k + 1)).map (·.name) = (fs.take k).map (·.name) ++ [f.name] := by rw [snoc_take h, List.map_append]; rfl
theorem nums_le (fs : List Fm.Fld) : (Fm.nums fs).length ≤ fs.length := by unfold Fm.nums; rw [List.length_map]; exact List.length_filter_le _ _
theorem take_len {α : Type} (l : List α) (k : Nat) : (l.take k).length ≤ k := List.length_take_le _ _

set_option maxRecDepth 100000 in
set_option maxHeartbeats 4000000 in
theorem check_any (NM : ByteArray) (a : Option Addr) (n c : Nat) (a2 : Option Addr) (n2 c2 : Nat) (fs : List Fm.Fld) (ss : List Fm.Sm) (w : World) (hf : FldsR w (.slice a n c) fs) (hm : SumsR w (.slice a2 n2 c2) ss) (hB : ∀ f ∈ fs, FldB f) (hM : ∀ r ∈ ss, SmB r) :
    Calls Tryz.prog 18 #[.agg #[.string NM, .slice a n c, .slice a2 n2 c2]] w fun e w' => e = .returned (.int .i64 (Fm.check ⟨NM.data.toList, fs, ss⟩)) ∧ Ext w w' := by
  obtain ⟨a', c', he⟩ := hf.form
  injection he with e1 e2 e3
  subst e1 e3
  obtain ⟨a', c', he⟩ := hm.form
  injection he with e1 e4 e3
  subst e1 e3
  have HR := Lib.hid (Fm.check.eq_1 ⟨NM.data.toList, fs, ss⟩)
  dsimp only at HR
  generalize Fm.check ⟨NM.data.toList, fs, ss⟩ = res at *
  rw [← e2, ← e4] at HR
  have HN := Lib.hid e2.symm
  have HN2 := Lib.hid e4.symm
  have HF := Lib.hid hf
  have HS := Lib.hid hm
  have HB := Lib.hid hB
  have HM := Lib.hid hM
  clear hf hm hB hM e2 e4
  have HW := Lib.hid (fun w => isName_any NM w)
  cases hw : Fm.isName NM.data.toList with
  | false =>
    rw [hw] at HW HR
    have HX : Hid (res = 36) := Lib.hid (by rw [HR.out]; rfl)
    clear hw HR
    go_enter Tryz.func18, Tryz.ntmps18
    go_wp2_with fail
    refine (HW.out _).mono ?_
    rintro e w1 ⟨rfl, rfl⟩
    go_wp2
    go_ret
    exact ⟨ret_int HX.out.symm, (by repeat (first | exact Ext.refl _ | assumption | refine Ext.alloc ?_ _ | refine Ext.drew ?_ | refine Ext.trans ?_ (by assumption)))⟩
  | true =>
  rw [hw] at HW HR
  rw [if_neg (by simp)] at HR
  clear hw
  by_cases h0 : n = 0
  · have d0 : ((n : Int) == 0) = true := by rw [h0]; rfl
    rw [if_pos h0] at HR
    clear h0
    go_enter Tryz.func18, Tryz.ntmps18
    go_wp2_with fail
    refine (HW.out _).mono ?_
    rintro e w1 ⟨rfl, rfl⟩
    go_wp2
    go_ret
    exact ⟨ret_int HR.out.symm, (by repeat (first | exact Ext.refl _ | assumption | refine Ext.alloc ?_ _ | refine Ext.drew ?_ | refine Ext.trans ?_ (by assumption)))⟩
  have d0 : ((n : Int) == 0) = false := by rw [beq_eq_false_iff_ne]; omega
  rw [if_neg h0] at HR
  by_cases h1 : 256 < n
  · have d1 : (256 : Int) < (n : Int) := by omega
    rw [if_pos (.inl h1)] at HR
    clear h0 h1
    go_enter Tryz.func18, Tryz.ntmps18
    go_wp2_with fail
    refine (HW.out _).mono ?_
    rintro e w1 ⟨rfl, rfl⟩
    go_wp2
    go_ret
    exact ⟨ret_int HR.out.symm, (by repeat (first | exact Ext.refl _ | assumption | refine Ext.alloc ?_ _ | refine Ext.drew ?_ | refine Ext.trans ?_ (by assumption)))⟩
  have d1 : ¬ (256 : Int) < (n : Int) := by omega
  by_cases h2 : 256 < n2
  · have d2 : (256 : Int) < (n2 : Int) := by omega
    rw [if_pos (.inr h2)] at HR
    clear h0 h1 h2
    go_enter Tryz.func18, Tryz.ntmps18
    go_wp2_with fail
    refine (HW.out _).mono ?_
    rintro e w1 ⟨rfl, rfl⟩
    go_wp2
    go_ret
    exact ⟨ret_int HR.out.symm, (by repeat (first | exact Ext.refl _ | assumption | refine Ext.alloc ?_ _ | refine Ext.drew ?_ | refine Ext.trans ?_ (by assumption)))⟩
  have d2 : ¬ (256 : Int) < (n2 : Int) := by omega
  rw [if_neg (by omega)] at HR
  have hn : n ≤ 256 := by omega
  have hn2 : n2 ≤ 256 := by omega
  clear h0 h1 h2
  obtain ⟨SG, hSG⟩ : ∃ SG, Fm.sumsGo (Fm.nums fs) ss = SG := ⟨_, rfl⟩
  have HSG := Lib.hid hSG
  rw [hSG] at HR
  replace HR : Hid (res = thenE (Fm.fldsGo [] fs) SG) := HR
  clear hSG
  have hmm := @run_makeMap Tryz.prog
  have HM1 := Lib.hid (set_made (w := w.alloc (.cells #[.string NM, .slice a n c, .slice a2 n2 c2] 25)) (n := w.heap.size + 1) (by simp))
  have HM2 := Lib.hid (set_made (w := (w.alloc (.cells #[.string NM, .slice a n c, .slice a2 n2 c2] 25)).alloc (.map #[] 0)) (n := w.heap.size + 2) (by simp))
  have HC : Hid (∀ wr, Ext (w.alloc (.cells #[.string NM, .slice a n c, .slice a2 n2 c2] 25)) wr → wr.cell? ⟨w.heap.size, 1, none⟩ = some (.slice a n c) ∧ wr.cell? ⟨w.heap.size, 2, none⟩ = some (.slice a2 n2 c2)) := Lib.hid fun wr hx => by
    have h := row_on (heap_alloc_new w (.cells #[.string NM, .slice a n c, .slice a2 n2 c2] 25)) hx
    exact ⟨cell_at h rfl, cell_at h rfl⟩
  go_enter Tryz.func18, Tryz.ntmps18
  go_wp2_with fail
  refine (HW.out _).mono ?_
  rintro e w1 ⟨rfl, rfl⟩
  go_wp2
  go_loopw [34] (fun t wr => ∃ k : Nat, k ≤ n ∧ t = .int .i64 (k : Int) ∧ Hid (res = thenE (Fm.fldsGo ((fs.take k).map (·.name)) (fs.drop k)) SG) ∧ SetS wr (w.heap.size + 1) ((fs.take k).map (·.name)) ∧ SetS wr (w.heap.size + 2) (Fm.nums (fs.take k)) ∧ Hid (Ext (w.alloc (.cells #[.string NM, .slice a n c, .slice a2 n2 c2] 25)) wr)) (fun t _ => n - (intOf t).toNat)
  case atStart => exact ⟨0, Nat.zero_le _, rfl, HR, HM1.out.ext (by repeat (first | exact Ext.refl _ | assumption | refine Ext.alloc ?_ _ | refine Ext.drew ?_ | refine Ext.trans ?_ (by assumption))), HM2.out, Lib.hid (by repeat (first | exact Ext.refl _ | assumption | refine Ext.alloc ?_ _ | refine Ext.drew ?_ | refine Ext.trans ?_ (by assumption)))⟩
  case round =>
    obtain ⟨k, hk, rfl, hv, hS, hT, HX⟩ := hrel
    by_cases hlt : k < n
    · obtain ⟨f, hfk⟩ : ∃ f, fs[k]? = some f := ⟨_, List.getElem?_eq_getElem (by rw [HN.out]; exact hlt)⟩
      have hxw : Ext w wr := HX.out.before
      obtain ⟨b, o, X, op, mn, mx, ck, la, ln, lc, l, opt, ha, hb, rfl, hl, c0, c1, c2', c3, c4, c5, c6⟩ := HF.out.here hxw hfk
      subst ha
      obtain ⟨b1, b2, b3⟩ := HB.out _ (List.mem_of_getElem? hfk)
      dsimp only at b1 b2 b3
      have HV := Lib.hid hv.out
      have e0 : fs.drop k = ⟨X.data.toList, op, mn, mx, ck, l, opt⟩ :: fs.drop (k + 1) := cons_drop hfk
      rw [e0, Fm.fldsGo] at HV
      have HNM := Lib.hid (names_snoc hfk)
      have HNU := Lib.hid (nums_snoc hfk)
      dsimp only at HV HNM HNU
      have HNL := Lib.hid (take_len fs k)
      have HNL2 := Lib.hid (Nat.le_trans (nums_le (fs.take k)) (take_len fs k))
      clear hv e0 hfk
      have hkb : w.heap.size + 2 < wr.heap.size := hT.lt
      obtain ⟨V, hV⟩ : ∃ V, V = wr.alloc (.cells #[.string X, .int .i64 op, .int .i64 mn, .int .i64 mx, .int .i64 ck, .slice la ln lc, .bool opt] 39) := ⟨_, rfl⟩
      have hxV : Ext wr V := by rw [hV]; exact (Ext.refl _).alloc _
      have r0 : V.heap[wr.heap.size]? = some (.cells #[.string X, .int .i64 op, .int .i64 mn, .int .i64 mx, .int .i64 ck, .slice la ln lc, .bool opt] 39 (0, 0)) := by rw [hV]; exact heap_alloc_new _ _
      have HVE := Lib.hid hV
      clear hV
      have hSV := hS.ext hxV
      have hTV := hT.ext hxV
      have HW := Lib.hid (fun w => isName_any X w)
      have p0 := cell_at r0 (i := 0) rfl
      have hg := set_get hSV X X.data.toList rfl b1
      generalize hxd : X.data.toList = x at *
      cases hw : Fm.isName x with
      | false =>
        rw [hw, if_neg (by simp), thenE_bad (by decide)] at HV
        rw [hw] at HW
        clear hw hS hT hSV hTV hg r0
        go_wp2_with fail
        rw [← HVE.out]
        refine (HW.out _).mono ?_
        rintro e w1 ⟨rfl, rfl⟩
        go_wp2
        go_ret
        exact ⟨ret_int HV.out.symm, hxw.trans hxV⟩
      | true =>
        rw [hw, if_pos rfl] at HV
        rw [hw] at HW
        cases hc : ((fs.take k).map (·.name)).contains x with
        | true =>
          rw [hc, if_pos rfl, thenE_bad (by decide)] at HV
          rw [hc] at hg
          clear hw hS hT hSV hTV hc r0
          go_wp2_with fail
          rw [← HVE.out]
          refine (HW.out _).mono ?_
          rintro e w1 ⟨rfl, rfl⟩
          go_wp2
          go_ret
          exact ⟨ret_int HV.out.symm, hxw.trans hxV⟩
        | false =>
          rw [hc, if_neg (by simp), ← HNM.out] at HV
          rw [hc] at hg
          have hV0 : w.heap.size + 2 < V.heap.size := hTV.lt
          obtain ⟨V2, hrun, hS2, hg2⟩ := set_put hSV X x hxd b1 (by rw [List.length_map]; have := HNL.out; unfold Go.maxLen; omega)
          have hT2 : SetS V2 (w.heap.size + 2) (Fm.nums (fs.take k)) := hTV.kept hg2 (by intro e; injection e with e; omega)
          have r2 := (hg2.block wr.heap.size (lt_at r0) (by intro e; injection e with e; omega)).trans r0
          rw [← HNM.out] at hS2
          have HX2 : Hid (Ext (w.alloc (.cells #[.string NM, .slice (some ⟨b, o, none⟩) n c, .slice a2 n2 c2] 25)) V2) := Lib.hid ((HX.out.trans hxV).ofGrown hg2 (fun j hj => by cases hj; simp))
          have hxw2 : Ext w V2 := HX2.out.before
          have q0 := cell_at r2 (i := 0) rfl
          have q1 := cell_at r2 (i := 1) rfl
          have HNL3 : Hid ((Fm.nums (fs.take k)).length < Go.maxLen) := Lib.hid (by have := HNL2.out; unfold Go.maxLen; omega)
          by_cases ho : op = 2
          · subst ho
            rw [if_pos rfl] at HNU
            obtain ⟨V3, hrun3, hT3, hg3⟩ := set_put hT2 X x hxd b1 HNL3.out
            rw [← HNU.out] at hT3
            have hS3 : SetS V3 (w.heap.size + 1) ((fs.take (k + 1)).map (·.name)) := hS2.kept hg3 (by intro e; injection e with e; omega)
            have r3 := (hg3.block wr.heap.size (lt_at r2) (by intro e; injection e with e; omega)).trans r2
            have HX3 : Hid (Ext (w.alloc (.cells #[.string NM, .slice (some ⟨b, o, none⟩) n c, .slice a2 n2 c2] 25)) V3) := Lib.hid (HX2.out.ofGrown hg3 (fun j hj => by cases hj; simp))
            have HCM := Lib.hid (checkMembers_any X 2 mn mx ck la ln lc opt l V3 (hl.ext HX3.out.before) b2 b3)
            rw [hxd] at HCM
            have s0 := cell_at r3 (i := 0) rfl
            have s1 := cell_at r3 (i := 1) rfl
            have s2 := cell_at r3 (i := 2) rfl
            have s3 := cell_at r3 (i := 3) rfl
            have s4 := cell_at r3 (i := 4) rfl
            have s5 := cell_at r3 (i := 5) rfl
            have s6 := cell_at r3 (i := 6) rfl
            clear hw hS hT hSV hTV hc r0 HNM HNU HNL HNL2 HNL3 r2 r3
            generalize Fm.memE ⟨x, 2, mn, mx, ck, l, opt⟩ = z at *
            by_cases hz : z = 0
            · rw [if_pos hz] at HV
              rw [hz] at HCM
              clear hz
              go_wp2_with fail
              rw [← HVE.out]
              refine (HW.out _).mono ?_
              rintro e w1 ⟨rfl, rfl⟩
              go_wp2_with fail
              refine HCM.out.mono ?_
              rintro e w4 ⟨rfl, hx4⟩
              have hS4 := hS3.ext hx4
              have hT4 := hT3.ext hx4
              have HX4 := Lib.hid (HX3.out.trans hx4)
              clear hS3 hT3 HX3 c0 c1 c2' c3 c4 c5 c6 s0 s1 s2 s3 s4 s5 s6 p0 q0 q1 hx4
              go_wp2
              go_roundw
              case rel => exact ⟨k + 1, by omega, by go_num, HV, hS4, hT4, HX4⟩
              case measure => simp [intOf]; omega
            · rw [if_neg hz] at HV
              have hz1 : (z == 0) = false := beq_eq_false_iff_ne.2 hz
              rw [thenE_bad hz] at HV
              clear hz
              go_wp2_with fail
              rw [← HVE.out]
              refine (HW.out _).mono ?_
              rintro e w1 ⟨rfl, rfl⟩
              go_wp2_with fail
              refine HCM.out.mono ?_
              rintro e w4 ⟨rfl, hx4⟩
              have hx5 := (HX3.out.trans hx4).before
              clear hS3 hT3 c0 c1 c2' c3 c4 c5 c6 s0 s1 s2 s3 s4 s5 s6 p0 q0 q1 hx4
              go_wp2
              go_ret
              exact ⟨ret_int HV.out.symm, hx5⟩
          · have z2 : (op == 2) = false := beq_eq_false_iff_ne.2 ho
            rw [if_neg ho, List.append_nil] at HNU
            rw [← HNU.out] at hT2
            have HCM := Lib.hid (checkMembers_any X op mn mx ck la ln lc opt l V2 (hl.ext hxw2) b2 b3)
            rw [hxd] at HCM
            have s0 := cell_at r2 (i := 0) rfl
            have s1 := cell_at r2 (i := 1) rfl
            have s2 := cell_at r2 (i := 2) rfl
            have s3 := cell_at r2 (i := 3) rfl
            have s4 := cell_at r2 (i := 4) rfl
            have s5 := cell_at r2 (i := 5) rfl
            have s6 := cell_at r2 (i := 6) rfl
            clear hw hS hT hSV hTV hc r0 HNM HNU HNL HNL2 HNL3 r2
            generalize Fm.memE ⟨x, op, mn, mx, ck, l, opt⟩ = z at *
            by_cases hz : z = 0
            · rw [if_pos hz] at HV
              rw [hz] at HCM
              clear hz
              go_wp2_with fail
              rw [← HVE.out]
              refine (HW.out _).mono ?_
              rintro e w1 ⟨rfl, rfl⟩
              go_wp2_with fail
              refine HCM.out.mono ?_
              rintro e w4 ⟨rfl, hx4⟩
              have hS4 := hS2.ext hx4
              have hT4 := hT2.ext hx4
              have HX4 := Lib.hid (HX2.out.trans hx4)
              clear hS2 hT2 HX2 c0 c1 c2' c3 c4 c5 c6 s0 s1 s2 s3 s4 s5 s6 p0 q0 q1 hx4
              go_wp2
              go_roundw
              case rel => exact ⟨k + 1, by omega, by go_num, HV, hS4, hT4, HX4⟩
              case measure => simp [intOf]; omega
            · rw [if_neg hz] at HV
              have hz1 : (z == 0) = false := beq_eq_false_iff_ne.2 hz
              rw [thenE_bad hz] at HV
              clear hz
              go_wp2_with fail
              rw [← HVE.out]
              refine (HW.out _).mono ?_
              rintro e w1 ⟨rfl, rfl⟩
              go_wp2_with fail
              refine HCM.out.mono ?_
              rintro e w4 ⟨rfl, hx4⟩
              have hx5 := (HX2.out.trans hx4).before
              clear hS2 hT2 c0 c1 c2' c3 c4 c5 c6 s0 s1 s2 s3 s4 s5 s6 p0 q0 q1 hx4
              go_wp2
              go_ret
              exact ⟨ret_int HV.out.symm, hx5⟩
    · obtain rfl : k = n := by omega
      have HZ : Hid (res = SG) := Lib.hid (by
        have := hv.out
        rw [List.drop_of_length_le (by rw [HN.out]; exact Nat.le_refl _)] at this
        exact this)
      rw [List.take_of_length_le (by rw [HN.out]; exact Nat.le_refl _)] at hT
      rw [HSG.out.symm] at HZ
      obtain ⟨m1, m2⟩ := HC.out wr HX.out
      have HNSL := Lib.hid (nums_le fs)
      rw [HN.out] at HNSL
      generalize Fm.nums fs = ns at *
      clear hv hS hlt hk
      obtain ⟨W, hWw⟩ : ∃ W, W = wr := ⟨_, rfl⟩
      subst hWw
      go_wp2
      go_loopw [64] (fun t wq => ∃ q : Nat, q ≤ n2 ∧ t = .int .i64 (q : Int) ∧ Hid (res = Fm.sumsGo ns (ss.drop q)) ∧ SetS wq (w.heap.size + 2) ns ∧ Hid (Ext (w.alloc (.cells #[.string NM, .slice a k c, .slice a2 n2 c2] 25)) wq)) (fun t _ => n2 - (intOf t).toNat)
      case atStart => exact ⟨0, Nat.zero_le _, rfl, HZ, hT, HX⟩
      case round =>
        clear hT HX HZ m1 m2
        obtain ⟨j, hj, rfl, hv, hT, HX⟩ := hrel
        by_cases hlt : j < n2
        · obtain ⟨f, hfk⟩ : ∃ f, ss[j]? = some f := ⟨_, List.getElem?_eq_getElem (by rw [HN2.out]; exact hlt)⟩
          have hxw : Ext w wr := HX.out.before
          obtain ⟨b, o, X, la, ln, lc, l, ha, hb, rfl, hl, c0, c1⟩ := HS.out.here hxw hfk
          subst ha
          obtain ⟨b1, b2, b3⟩ := HM.out _ (List.mem_of_getElem? hfk)
          dsimp only at b1 b2 b3
          have e0 : ss.drop j = ⟨X.data.toList, l⟩ :: ss.drop (j + 1) := cons_drop hfk
          have HV := Lib.hid hv.out
          rw [e0, Fm.sumsGo] at HV
          obtain ⟨V, hV⟩ : ∃ V, V = wr.alloc (.cells #[.string X, .slice la ln lc] 56) := ⟨_, rfl⟩
          have hxV : Ext wr V := by rw [hV]; exact (Ext.refl _).alloc _
          have HVE := Lib.hid hV
          have hTV := hT.ext hxV
          have HCS := Lib.hid (checkSum_any X (.slice la ln lc) l ns (w.heap.size + 2) V (hl.ext (hxw.trans hxV)) b2 b3 (by rw [← len_data]; exact b1) hTV (by have := HNSL.out; omega))
          have HXV : Hid (Ext (w.alloc (.cells #[.string NM, .slice a k c, .slice (some ⟨b, o, none⟩) n2 c2] 25)) V) := Lib.hid (HX.out.trans hxV)
          clear hV e0 hfk hv hT hxV HX
          generalize Fm.sumE ns ⟨X.data.toList, l⟩ = z at *
          by_cases hz : z = 0
          · rw [if_pos hz] at HV
            rw [hz] at HCS
            clear hz
            go_wp2_with fail
            rw [← HVE.out]
            refine HCS.out.mono ?_
            rintro e w4 ⟨rfl, hx4⟩
            have hT4 := hTV.ext hx4
            have HX4 := Lib.hid (HXV.out.trans hx4)
            clear hTV HXV c0 c1 hx4
            go_wp2
            go_roundw
            case rel => exact ⟨j + 1, by omega, by go_num, HV, hT4, HX4⟩
            case measure => simp [intOf]; omega
          · rw [if_neg hz] at HV
            have hz1 : (z == 0) = false := beq_eq_false_iff_ne.2 hz
            clear hz
            go_wp2_with fail
            rw [← HVE.out]
            refine HCS.out.mono ?_
            rintro e w4 ⟨rfl, hx4⟩
            have hx5 := (HXV.out.trans hx4).before
            clear hTV HXV c0 c1 hx4
            go_wp2
            go_ret
            exact ⟨ret_int HV.out.symm, hx5⟩
        · obtain rfl : j = n2 := by omega
          have HF : Hid (res = 0) := Lib.hid (by rw [hv.out, List.drop_of_length_le (by rw [HN2.out]; exact Nat.le_refl _)]; rfl)
          have hx5 := HX.out.before
          clear hj hlt hv
          go_wp2
          go_ret
          exact ⟨ret_int HF.out.symm, hx5⟩

end Go.Proofs.YtkpfehfcgpapiaaGreatDoor

/-
  Chapter 51: digits, texts as values: the program.
  No condition.
-/
namespace Go.Proofs.YtkpfehfcgpapiaaGreatDoor
open Go.RowKit

theorem dig_has (c : UInt8) : ([48, 49, 50, 51, 52, 53, 54, 55, 56, 57] : List UInt8).contains c = Fm.dg c := by
  rw [Bool.eq_iff_iff, List.contains_iff_mem]
  unfold Fm.dg
  simp only [Bool.and_eq_true, decide_eq_true_eq, List.mem_cons, List.not_mem_nil, or_false]
  constructor
  · rintro (rfl | rfl | rfl | rfl | rfl | rfl | rfl | rfl | rfl | rfl) <;> decide
  · rintro ⟨h1, h2⟩
    have h : c.toNat = 48 ∨ c.toNat = 49 ∨ c.toNat = 50 ∨ c.toNat = 51 ∨ c.toNat = 52 ∨ c.toNat = 53 ∨ c.toNat = 54 ∨ c.toNat = 55 ∨ c.toNat = 56 ∨ c.toNat = 57 := by omega
    rcases h with h | h | h | h | h | h | h | h | h | h
    · exact .inl (UInt8.toNat_inj.1 h)
    · exact .inr (.inl (UInt8.toNat_inj.1 h))
    · exact .inr (.inr (.inl (UInt8.toNat_inj.1 h)))
    · exact .inr (.inr (.inr (.inl (UInt8.toNat_inj.1 h))))
    · exact .inr (.inr (.inr (.inr (.inl (UInt8.toNat_inj.1 h)))))
    · exact .inr (.inr (.inr (.inr (.inr (.inl (UInt8.toNat_inj.1 h))))))
    · exact .inr (.inr (.inr (.inr (.inr (.inr (.inl (UInt8.toNat_inj.1 h)))))))
    · exact .inr (.inr (.inr (.inr (.inr (.inr (.inr (.inl (UInt8.toNat_inj.1 h))))))))
    · exact .inr (.inr (.inr (.inr (.inr (.inr (.inr (.inr (.inl (UInt8.toNat_inj.1 h)))))))))
    · exact .inr (.inr (.inr (.inr (.inr (.inr (.inr (.inr (.inr (UInt8.toNat_inj.1 h)))))))))
theorem drop_head {α : Type} (p : α → Bool) : ∀ (l : List α) {x : α} {t : List α}, l.dropWhile p = x :: t → p x = false
  | [], _, _, h => by cases h
  | a :: l, x, t, h => by
    by_cases ha : p a = true
    · rw [List.dropWhile_cons_of_pos ha] at h
      exact drop_head p l h
    · rw [List.dropWhile_cons_of_neg ha] at h
      injection h with h1 _
      rw [← h1]; simpa using ha
theorem drop_all_nil {α : Type} (p : α → Bool) : ∀ (l : List α), (∀ x ∈ l, p x = true) → l.dropWhile p = []
  | [], _ => rfl
  | a :: l, h => by
    rw [List.dropWhile_cons_of_pos (h a (List.mem_cons_self ..))]
    exact drop_all_nil p l fun x hx => h x (List.mem_cons_of_mem _ hx)
theorem drop_nil_all {α : Type} (p : α → Bool) : ∀ (l : List α), l.dropWhile p = [] → ∀ x ∈ l, p x = true
  | [], _, _, h => by cases h
  | a :: l, h, x, hx => by
    by_cases ha : p a = true
    · rw [List.dropWhile_cons_of_pos ha] at h
      rcases List.mem_cons.1 hx with rfl | hx
      · exact ha
      · exact drop_nil_all p l h x hx
    · rw [List.dropWhile_cons_of_neg ha] at h; cases h
theorem trim_digits (l : List UInt8) : (Lib.trimS l [48, 49, 50, 51, 52, 53, 54, 55, 56, 57]).isEmpty = l.all Fm.dg := by
  have e : (fun c => ([48, 49, 50, 51, 52, 53, 54, 55, 56, 57] : List UInt8).contains c) = Fm.dg := funext dig_has
  unfold Lib.trimS Lib.trimLeftS Lib.trimRightS
  rw [e, Bool.eq_iff_iff, List.isEmpty_iff, List.all_eq_true]
  constructor
  · intro h
    have h1 := drop_nil_all _ _ h
    cases hd : l.reverse.dropWhile Fm.dg with
    | nil => exact fun x hx => drop_nil_all _ _ hd x (List.mem_reverse.2 hx)
    | cons x t =>
      have h2 := drop_head _ _ hd
      rw [h1 x (by rw [hd]; simp)] at h2
      cases h2
  · intro h
    rw [drop_all_nil _ _ (fun x hx => h x (List.mem_reverse.1 hx))]
    rfl
/-- strings.Trim by digits. -/
theorem trimD_any (s : ByteArray) (hs : s.size ≤ 9223372036854775807) (w : World) : ∃ t : ByteArray, t.toList.isEmpty = s.data.toList.all Fm.dg ∧ Calls Tryz.prog 62 #[.string s, .string ⟨#[48, 49, 50, 51, 52, 53, 54, 55, 56, 57]⟩] w fun e w' => e = .returned (.string t) ∧ Ext w w' :=
  ⟨⟨(Lib.trimS s.data.toList [48, 49, 50, 51, 52, 53, 54, 55, 56, 57]).toArray⟩, by rw [Lib.toList_data, ← trim_digits],
    Any.strings_Trim_laid Tryz.lays160 (by kernel_rfl) s ⟨#[48, 49, 50, 51, 52, 53, 54, 55, 56, 57]⟩ w hs (by decide) (ascii_of_all (by decide))⟩

set_option maxHeartbeats 400000 in
theorem isDigits_any (s : ByteArray) (hs : s.size ≤ 9223372036854775807) (w : World) : Calls Tryz.prog 88 #[.string s] w fun e w' => e = .returned (.bool (s.data.toList.all Fm.dg)) ∧ Ext w w' := by
  obtain ⟨t, ht, hT⟩ := trimD_any s hs w
  have HT := Lib.hid hT
  clear hT
  generalize s.data.toList.all Fm.dg = b at *
  go_enter Tryz.func88, Tryz.ntmps88
  go_wp2_with fail
  refine HT.out.mono ?_
  rintro e w1 ⟨rfl, hx1⟩
  go_wp2
  go_ret
  exact ⟨rfl, hx1⟩
end Go.Proofs.YtkpfehfcgpapiaaGreatDoor
