/-
  The small methods of the eight systems, how a method is found, and what 'find' returns.
  No condition.
-/
import Derived.Test.YthjlnpcaclfopaaGreatCdW2
namespace Go.Proofs.YthjlnpcaclfopaaGreat
open Go.RowKit

theorem digits_size (w : World) : Calls Tryz.prog 114 #[.agg #[]] w fun e w' => e = .returned (.int .i64 1) ∧ Ext w w' := by
  go_enter Tryz.func114, Tryz.ntmps114
  go_wp2
  go_ret
  exact ⟨rfl, (by repeat (first | exact Ext.refl _ | assumption | refine Ext.alloc ?_ _ | refine Ext.drew ?_ | refine Ext.trans ?_ (by assumption)))⟩

theorem digits_length (w : World) : Calls Tryz.prog 113 #[.agg #[]] w fun e w' => e = .returned (.int .i64 0) ∧ Ext w w' := by
  go_enter Tryz.func113, Tryz.ntmps113
  go_wp2
  go_ret
  exact ⟨rfl, (by repeat (first | exact Ext.refl _ | assumption | refine Ext.alloc ?_ _ | refine Ext.drew ?_ | refine Ext.trans ?_ (by assumption)))⟩

theorem isbn_length (w : World) : Calls Tryz.prog 135 #[.agg #[]] w fun e w' => e = .returned (.int .i64 9) ∧ Ext w w' := by
  go_enter Tryz.func135, Tryz.ntmps135
  go_wp2
  go_ret
  exact ⟨rfl, (by repeat (first | exact Ext.refl _ | assumption | refine Ext.alloc ?_ _ | refine Ext.drew ?_ | refine Ext.trans ?_ (by assumption)))⟩

theorem iso97_size (w : World) : Calls Tryz.prog 140 #[.agg #[]] w fun e w' => e = .returned (.int .i64 2) ∧ Ext w w' := by
  go_enter Tryz.func140, Tryz.ntmps140
  go_wp2
  go_ret
  exact ⟨rfl, (by repeat (first | exact Ext.refl _ | assumption | refine Ext.alloc ?_ _ | refine Ext.drew ?_ | refine Ext.trans ?_ (by assumption)))⟩

theorem code39_size (w : World) : Calls Tryz.prog 145 #[.agg #[]] w fun e w' => e = .returned (.int .i64 1) ∧ Ext w w' := by
  go_enter Tryz.func145, Tryz.ntmps145
  go_wp2
  go_ret
  exact ⟨rfl, (by repeat (first | exact Ext.refl _ | assumption | refine Ext.alloc ?_ _ | refine Ext.drew ?_ | refine Ext.trans ?_ (by assumption)))⟩

theorem code39_length (w : World) : Calls Tryz.prog 144 #[.agg #[]] w fun e w' => e = .returned (.int .i64 0) ∧ Ext w w' := by
  go_enter Tryz.func144, Tryz.ntmps144
  go_wp2
  go_ret
  exact ⟨rfl, (by repeat (first | exact Ext.refl _ | assumption | refine Ext.alloc ?_ _ | refine Ext.drew ?_ | refine Ext.trans ?_ (by assumption)))⟩

theorem digits_data (c : Int) (w : World) : Calls Tryz.prog 112 #[.agg #[], .int .u8 c] w fun e w' => e = .returned (.bool (Cd.isDig c)) ∧ Ext w w' := by
  go_enter Tryz.func112, Tryz.ntmps112
  go_wp2_with fail
  refine (digit_any _ _).mono ?_
  rintro e w' ⟨rfl, rfl⟩
  go_wp2
  go_ret
  exact ⟨rfl, (by repeat (first | exact Ext.refl _ | assumption | refine Ext.alloc ?_ _ | refine Ext.drew ?_ | refine Ext.trans ?_ (by assumption)))⟩




theorem code39_data (c : Int) (w : World) : Calls Tryz.prog 143 #[.agg #[], .int .u8 c] w fun e w' => e = .returned (.bool (decide (0 ≤ Cd.plc c.toNat.toUInt8))) ∧ Ext w w' := by
  go_enter Tryz.func143, Tryz.ntmps143
  go_wp2_with fail
  refine (idx_any _ _).mono ?_
  rintro e w' ⟨rfl, rfl⟩
  go_wp2
  go_ret
  exact ⟨rfl, (by repeat (first | exact Ext.refl _ | assumption | refine Ext.alloc ?_ _ | refine Ext.drew ?_ | refine Ext.trans ?_ (by assumption)))⟩


/-- A method of a value without fields: found, and what it returns. -/
def Meth (T : Nat) (name : String) (args : Array Value) (v : Value) : Prop :=
  ∃ f, (∀ w, (method 257 T (.agg #[]) name).run Tryz.prog w = .ok (f, .agg #[]) w) ∧ (∀ xs w, (callFunc f xs).run Tryz.prog w = .ok (.enter f xs) w) ∧
    ∀ w, Calls Tryz.prog f (#[.agg #[]] ++ args) w fun e w' => e = .returned v ∧ Ext w w'

structure SysAt (k : Nat) (T : Nat) : Prop where
  size : Meth T "barscan/checkdigit.size" #[] (.int .i64 (Cd.size k))
  length : Meth T "barscan/checkdigit.length" #[] (.int .i64 (if k = 3 then 9 else 0))
  data : ∀ c : Int, Meth T "barscan/checkdigit.data" #[.int .u8 c] (.bool (Cd.datB k c))
  compute : ∀ s : ByteArray, s.size ≤ 4096 → (∀ c ∈ s.data.toList, Cd.datB k (c.toNat : Int) = true) → (k = 3 → s.size = 9) → Meth T "barscan/checkdigit.compute" #[.string s] (.string ⟨(Cd.cmp k s.data.toList).toArray⟩)
  found : ∀ w, Calls Tryz.prog 73 #[.int .i64 k] w fun e w' => e = .returned (.tuple #[.iface T (.agg #[]), .bool true]) ∧ Ext w w'

theorem allDig_of {l : List UInt8} (h : ∀ c ∈ l, Cd.isDig (c.toNat : Int) = true) : Cd.AllDig l := fun c hc => by
  have := h c hc
  simp only [Cd.isDig, Bool.and_eq_true, decide_eq_true_eq] at this
  omega

set_option maxHeartbeats 400000 in
theorem sys1 : SysAt 1 112 where
  size := ⟨114, fun _ => by kernel_rfl, fun _ _ => by kernel_rfl, fun w => digits_size w⟩
  length := ⟨113, fun _ => by kernel_rfl, fun _ _ => by kernel_rfl, fun w => digits_length w⟩
  data c := ⟨112, fun _ => by kernel_rfl, fun _ _ => by kernel_rfl, fun w => digits_data c w⟩
  compute s h1 h2 h3 := ⟨116, fun _ => by kernel_rfl, fun _ _ => by kernel_rfl, fun w => gs1_any s w h1 (allDig_of h2)⟩
  found w := by
    go_enter Tryz.func73, Tryz.ntmps73
    go_wp2
    go_ret2
    exact ⟨rfl, (by repeat (first | exact Ext.refl _ | assumption | refine Ext.alloc ?_ _ | refine Ext.drew ?_ | refine Ext.trans ?_ (by assumption)))⟩

set_option maxHeartbeats 400000 in
theorem sys2 : SysAt 2 113 where
  size := ⟨114, fun _ => by kernel_rfl, fun _ _ => by kernel_rfl, fun w => digits_size w⟩
  length := ⟨113, fun _ => by kernel_rfl, fun _ _ => by kernel_rfl, fun w => digits_length w⟩
  data c := ⟨112, fun _ => by kernel_rfl, fun _ _ => by kernel_rfl, fun w => digits_data c w⟩
  compute s h1 h2 h3 := ⟨132, fun _ => by kernel_rfl, fun _ _ => by kernel_rfl, fun w => luhn_any s w h1 (allDig_of h2)⟩
  found w := by
    go_enter Tryz.func73, Tryz.ntmps73
    go_wp2
    go_ret2
    exact ⟨rfl, (by repeat (first | exact Ext.refl _ | assumption | refine Ext.alloc ?_ _ | refine Ext.drew ?_ | refine Ext.trans ?_ (by assumption)))⟩

set_option maxHeartbeats 400000 in
theorem sys3 : SysAt 3 114 where
  size := ⟨114, fun _ => by kernel_rfl, fun _ _ => by kernel_rfl, fun w => digits_size w⟩
  length := ⟨135, fun _ => by kernel_rfl, fun _ _ => by kernel_rfl, fun w => isbn_length w⟩
  data c := ⟨112, fun _ => by kernel_rfl, fun _ _ => by kernel_rfl, fun w => digits_data c w⟩
  compute s h1 h2 h3 := ⟨134, fun _ => by kernel_rfl, fun _ _ => by kernel_rfl, fun w => isbn_any s w (h3 rfl) (allDig_of h2)⟩
  found w := by
    go_enter Tryz.func73, Tryz.ntmps73
    go_wp2
    go_ret2
    exact ⟨rfl, (by repeat (first | exact Ext.refl _ | assumption | refine Ext.alloc ?_ _ | refine Ext.drew ?_ | refine Ext.trans ?_ (by assumption)))⟩

set_option maxHeartbeats 400000 in
theorem sys4 : SysAt 4 115 where
  size := ⟨114, fun _ => by kernel_rfl, fun _ _ => by kernel_rfl, fun w => digits_size w⟩
  length := ⟨113, fun _ => by kernel_rfl, fun _ _ => by kernel_rfl, fun w => digits_length w⟩
  data c := ⟨112, fun _ => by kernel_rfl, fun _ _ => by kernel_rfl, fun w => digits_data c w⟩
  compute s h1 h2 h3 := ⟨136, fun _ => by kernel_rfl, fun _ _ => by kernel_rfl, fun w => verhoeff_any s w h1 (allDig_of h2)⟩
  found w := by
    go_enter Tryz.func73, Tryz.ntmps73
    go_wp2
    go_ret2
    exact ⟨rfl, (by repeat (first | exact Ext.refl _ | assumption | refine Ext.alloc ?_ _ | refine Ext.drew ?_ | refine Ext.trans ?_ (by assumption)))⟩

set_option maxHeartbeats 400000 in
theorem sys5 : SysAt 5 116 where
  size := ⟨114, fun _ => by kernel_rfl, fun _ _ => by kernel_rfl, fun w => digits_size w⟩
  length := ⟨113, fun _ => by kernel_rfl, fun _ _ => by kernel_rfl, fun w => digits_length w⟩
  data c := ⟨112, fun _ => by kernel_rfl, fun _ _ => by kernel_rfl, fun w => digits_data c w⟩
  compute s h1 h2 h3 := ⟨138, fun _ => by kernel_rfl, fun _ _ => by kernel_rfl, fun w => damm_any s w h1 (allDig_of h2)⟩
  found w := by
    go_enter Tryz.func73, Tryz.ntmps73
    go_wp2
    go_ret2
    exact ⟨rfl, (by repeat (first | exact Ext.refl _ | assumption | refine Ext.alloc ?_ _ | refine Ext.drew ?_ | refine Ext.trans ?_ (by assumption)))⟩

set_option maxHeartbeats 400000 in
theorem sys6 : SysAt 6 117 where
  size := ⟨140, fun _ => by kernel_rfl, fun _ _ => by kernel_rfl, fun w => iso97_size w⟩
  length := ⟨113, fun _ => by kernel_rfl, fun _ _ => by kernel_rfl, fun w => digits_length w⟩
  data c := ⟨112, fun _ => by kernel_rfl, fun _ _ => by kernel_rfl, fun w => digits_data c w⟩
  compute s h1 h2 h3 := ⟨139, fun _ => by kernel_rfl, fun _ _ => by kernel_rfl, fun w => iso97_any s w h1 (allDig_of h2)⟩
  found w := by
    go_enter Tryz.func73, Tryz.ntmps73
    go_wp2
    go_ret2
    exact ⟨rfl, (by repeat (first | exact Ext.refl _ | assumption | refine Ext.alloc ?_ _ | refine Ext.drew ?_ | refine Ext.trans ?_ (by assumption)))⟩

set_option maxHeartbeats 400000 in
theorem sys7 : SysAt 7 118 where
  size := ⟨145, fun _ => by kernel_rfl, fun _ _ => by kernel_rfl, fun w => code39_size w⟩
  length := ⟨144, fun _ => by kernel_rfl, fun _ _ => by kernel_rfl, fun w => code39_length w⟩
  data c := ⟨143, fun _ => by kernel_rfl, fun _ _ => by kernel_rfl, fun w => code39_data c w⟩
  compute s h1 h2 h3 := ⟨142, fun _ => by kernel_rfl, fun _ _ => by kernel_rfl, fun w => code39_any s w h1 (fun c hc => by have := h2 c hc; simpa [Cd.datB] using this)⟩
  found w := by
    go_enter Tryz.func73, Tryz.ntmps73
    go_wp2
    go_ret2
    exact ⟨rfl, (by repeat (first | exact Ext.refl _ | assumption | refine Ext.alloc ?_ _ | refine Ext.drew ?_ | refine Ext.trans ?_ (by assumption)))⟩

set_option maxHeartbeats 400000 in
theorem sys8 : SysAt 8 119 where
  size := ⟨114, fun _ => by kernel_rfl, fun _ _ => by kernel_rfl, fun w => digits_size w⟩
  length := ⟨113, fun _ => by kernel_rfl, fun _ _ => by kernel_rfl, fun w => digits_length w⟩
  data c := ⟨112, fun _ => by kernel_rfl, fun _ _ => by kernel_rfl, fun w => digits_data c w⟩
  compute s h1 h2 h3 := ⟨147, fun _ => by kernel_rfl, fun _ _ => by kernel_rfl, fun w => iso11_any s w h1 (allDig_of h2)⟩
  found w := by
    go_enter Tryz.func73, Tryz.ntmps73
    go_wp2
    go_ret2
    exact ⟨rfl, (by repeat (first | exact Ext.refl _ | assumption | refine Ext.alloc ?_ _ | refine Ext.drew ?_ | refine Ext.trans ?_ (by assumption)))⟩

theorem sys_of (k : Nat) (h1 : 1 ≤ k) (h2 : k ≤ 8) : ∃ T, SysAt k T := by
  match k, h1, h2 with
  | 1, _, _ => exact ⟨_, sys1⟩
  | 2, _, _ => exact ⟨_, sys2⟩
  | 3, _, _ => exact ⟨_, sys3⟩
  | 4, _, _ => exact ⟨_, sys4⟩
  | 5, _, _ => exact ⟨_, sys5⟩
  | 6, _, _ => exact ⟨_, sys6⟩
  | 7, _, _ => exact ⟨_, sys7⟩
  | 8, _, _ => exact ⟨_, sys8⟩

set_option maxHeartbeats 400000 in
theorem find_none (k : Int) (w : World) (h : k < 1 ∨ 8 < k) : Calls Tryz.prog 73 #[.int .i64 k] w fun e w' => e = .returned (.tuple #[.nilIface, .bool false]) ∧ Ext w w' := by
  have h1 : (k == 1) = false := by simp; omega
  have h2 : (k == 2) = false := by simp; omega
  have h3 : (k == 3) = false := by simp; omega
  have h4 : (k == 4) = false := by simp; omega
  have h5 : (k == 5) = false := by simp; omega
  have h6 : (k == 6) = false := by simp; omega
  have h7 : (k == 7) = false := by simp; omega
  have h8 : (k == 8) = false := by simp; omega
  clear h
  go_enter Tryz.func73, Tryz.ntmps73
  go_wp2
  go_ret2
  exact ⟨rfl, (by repeat (first | exact Ext.refl _ | assumption | refine Ext.alloc ?_ _ | refine Ext.drew ?_ | refine Ext.trans ?_ (by assumption)))⟩
end Go.Proofs.YthjlnpcaclfopaaGreat
