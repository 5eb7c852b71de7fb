/-
  Chapter 51, the laws: their helpers (short, few, equal lists).
  No condition.
-/
import Derived.Test.YtkpfehfcgpapiaaGreatDoorFmXa
import Derived.Test.YtkpfehfcgpapiaaGreatDoorFmMa
import Derived.Test.YtkpfehfcgpapiaaGreatDoorFmVc
import Derived.Test.YtkpfehfcgpapiaaGreatDoorFmVe
import Derived.Test.YtkpfehfcgpapiaaGreatDoorFmPa
import Derived.Test.YtkpfehfcgpapiaaGreatDoorFmVi
import Derived.Test.YtkpfehfcgpapiaaGreatDoorFmVd
import Derived.Test.YtkpfehfcgpapiaaGreatDoorFmVf
import Derived.Laws.StructEq
import Derived.Test.YtkpfehfcgpapiaaGreatDoorRows
import Derived.LaidSub
import Derived.LaidMore
import Derived.Lib.LaidTab
import Derived.Stop.LaidErr
import Derived.Deep.DeepWitnessRowRef
import Derived.OpenShut
import Derived.ShutString

/-
  Chapter 51, the laws: their helpers (short, few, equal lists).
  No condition.
-/
namespace Go.Proofs.YtkpfehfcgpapiaaGreatDoor
set_option linter.unusedVariables false
open Go.RowKit

/-- At most m strings of at most 100 bytes each. -/
def shortB (m : Nat) (l : List Fm.S) : Prop := Short 100 l ∧ l.length ≤ m
/-- A truth value with what it tells is returned. -/
def RetB (P : Prop) (w : World) (e : Ending) (w' : World) : Prop := (∃ b, e = .returned (.bool b) ∧ (b = true → P)) ∧ Ext w w'
set_option maxRecDepth 100000 in
set_option maxHeartbeats 1000000 in
theorem short_any (v : Value) (l : List Fm.S) (m : Nat) (w : World) (hl : StrsR w v l) (hs : Short Go.maxLen l) (hn : l.length ≤ Go.maxLen) :
    Calls Tryz.prog 21 #[v, .int .i64 (m : Int)] w (RetB (shortB m l) w) := by
  obtain ⟨a, c, rfl, hc⟩ := hl.form
  obtain ⟨N, hN⟩ : ∃ N, l.length = N := ⟨_, rfl⟩
  have HN := Lib.hid hN
  have HL := Lib.hid hl
  have HS := Lib.hid hs
  rw [hN] at hn HL ⊢
  unfold Go.maxLen at hn
  clear hl hN hc hs
  by_cases hlen : m < N
  · have z : (m : Int) < (N : Int) := by omega
    clear hlen
    go_enter Tryz.func21, Tryz.ntmps21
    go_wp2
    go_ret
    exact ⟨⟨_, rfl, fun h => by cases h⟩, (by repeat (first | exact Ext.refl _ | assumption | refine Ext.alloc ?_ _ | refine Ext.drew ?_ | refine Ext.trans ?_ (by assumption)))⟩
  have z : ¬ (m : Int) < (N : Int) := by omega
  go_enter Tryz.func21, Tryz.ntmps21
  go_wp2
  go_loop [5] (fun i => ∃ k : Nat, k ≤ N ∧ i = .int .i64 (k : Int) ∧ Hid (Short 100 (l.take k))) (fun i => N - (intOf i).toNat)
  case atStart => exact ⟨0, Nat.zero_le _, rfl, Lib.hid (fun s hs => by cases hs)⟩
  case round =>
    obtain ⟨k, hk, rfl, hv⟩ := hrel
    by_cases hlt : k < N
    · obtain ⟨x, hxk⟩ : ∃ x, l[k]? = some x := ⟨_, List.getElem?_eq_getElem (by rw [HN.out]; exact hlt)⟩
      obtain ⟨bb, off, X, ha, hb, d0, hX⟩ := HL.out.bytes hxk
      subst ha
      have hXs : X.size = x.length := by rw [← hX, len_data]
      by_cases he : 100 < X.size
      · have q : (100 : Int) < (X.size : Int) := by omega
        clear he hX hv hxk
        go_wp2
        go_ret
        exact ⟨⟨_, rfl, fun h => by cases h⟩, (by repeat (first | exact Ext.refl _ | assumption | refine Ext.alloc ?_ _ | refine Ext.drew ?_ | refine Ext.trans ?_ (by assumption)))⟩
      · have q : ¬ (100 : Int) < (X.size : Int) := by omega
        have HV : Hid (Short 100 (l.take (k + 1))) := Lib.hid (by
          rw [snoc_take hxk]
          intro s hs
          rcases List.mem_append.1 hs with hs | hs
          · exact hv.out s hs
          · rw [List.mem_singleton.1 hs]; omega)
        clear he hX hv hxk hXs
        go_wp2
        go_round
        case rel => exact ⟨k + 1, by omega, by go_num, HV⟩
        case measure => simp [intOf]; omega
    · obtain rfl : k = N := by omega
      rw [List.take_of_length_le (by rw [HN.out]; exact Nat.le_refl _)] at hv
      clear hk hlt
      go_wp2
      go_ret
      exact ⟨⟨_, rfl, fun _ => ⟨hv.out, by rw [HN.out]; omega⟩⟩, (by repeat (first | exact Ext.refl _ | assumption | refine Ext.alloc ?_ _ | refine Ext.drew ?_ | refine Ext.trans ?_ (by assumption)))⟩
set_option maxRecDepth 100000 in
set_option maxHeartbeats 1000000 in
theorem sameList_any (u v : Value) (l : List Fm.S) (w : World) (hu : StrsR w u l) (hv : StrsR w v l) (hn : l.length ≤ 9223372036854775807) :
    Calls Tryz.prog 29 #[u, v] w fun e w' => e = .returned (.bool true) ∧ Ext w w' := by
  obtain ⟨a1, c1, rfl, -⟩ := hu.form
  obtain ⟨a2, c2, rfl, -⟩ := hv.form
  obtain ⟨N, hN⟩ : ∃ N, l.length = N := ⟨_, rfl⟩
  have HN := Lib.hid hN
  have HU := Lib.hid hu
  have HV := Lib.hid hv
  rw [hN] at hn HU HV ⊢
  clear hu hv hN
  go_enter Tryz.func29, Tryz.ntmps29
  go_wp2
  go_loopw [5] (fun i wr => ∃ k : Nat, k ≤ N ∧ i = .int .i64 (k : Int) ∧ Ext w wr) (fun i _ => N - (intOf i).toNat)
  case atStart => exact ⟨0, Nat.zero_le _, rfl, Ext.refl w⟩
  case round =>
    obtain ⟨k, hk, rfl, hx⟩ := hrel
    by_cases hlt : k < N
    · obtain ⟨x, hxk⟩ : ∃ x, l[k]? = some x := ⟨_, List.getElem?_eq_getElem (by rw [HN.out]; exact hlt)⟩
      obtain ⟨b1, o1, X, ha1, hb1, hX, d0⟩ := HU.out.here hx hxk
      obtain ⟨b2, o2, Y, ha2, hb2, hY, d1⟩ := HV.out.here hx hxk
      subst ha1 ha2
      have hq := same_bytes hX.symm hY
      clear hX hY hxk
      go_wp2
      go_quiet (fail)
      go_wp2
      go_roundw
      case rel => exact ⟨k + 1, by omega, by go_num, hx.drewN _⟩
      case measure => simp [intOf]; omega
    · obtain rfl : k = N := by omega
      clear hk hlt
      go_wp2
      go_ret
      exact ⟨rfl, (by repeat (first | exact Ext.refl _ | assumption | refine Ext.alloc ?_ _ | refine Ext.drew ?_ | refine Ext.trans ?_ (by assumption)))⟩
set_option maxRecDepth 100000 in
set_option maxHeartbeats 2000000 in
theorem few_any (NM : ByteArray) (a : Option Addr) (n c : Nat) (a2 : Option Addr) (n2 c2 : Nat) (fs : List Fm.Fld) (ss : List Fm.Sm) (w : World) (hf : FldsR w (.slice a n c) fs) (hm : SumsR w (.slice a2 n2 c2) ss) (hB : ∀ f ∈ fs, FldB f) (hM : ∀ r ∈ ss, SmB r) :
    Calls Tryz.prog 14 #[.agg #[.string NM, .slice a n c, .slice a2 n2 c2]] w (RetB (n ≤ 260 ∧ n2 ≤ 260) w) := by
  obtain ⟨a', c', he⟩ := hf.form
  injection he with e1 e2 e3
  subst e1 e3
  obtain ⟨a', c', he⟩ := hm.form
  injection he with e1 e4 e3
  subst e1 e3
  have HN := Lib.hid e2.symm
  have HN2 := Lib.hid e4.symm
  have HF := Lib.hid hf
  have HS := Lib.hid hm
  have HB := Lib.hid hB
  have HM := Lib.hid hM
  clear hf hm hB hM e2 e4
  by_cases h0 : 100 < NM.size
  · have z0 : (100 : Int) < (NM.size : Int) := by omega
    clear h0
    go_enter Tryz.func14, Tryz.ntmps14
    go_wp2
    go_ret
    exact ⟨⟨_, rfl, fun h => by cases h⟩, (by repeat (first | exact Ext.refl _ | assumption | refine Ext.alloc ?_ _ | refine Ext.drew ?_ | refine Ext.trans ?_ (by assumption)))⟩
  have z0 : ¬ (100 : Int) < (NM.size : Int) := by omega
  by_cases h1 : 260 < n
  · have z1 : (260 : Int) < (n : Int) := by omega
    clear h0 h1
    go_enter Tryz.func14, Tryz.ntmps14
    go_wp2
    go_ret
    exact ⟨⟨_, rfl, fun h => by cases h⟩, (by repeat (first | exact Ext.refl _ | assumption | refine Ext.alloc ?_ _ | refine Ext.drew ?_ | refine Ext.trans ?_ (by assumption)))⟩
  have z1 : ¬ (260 : Int) < (n : Int) := by omega
  by_cases h2 : 260 < n2
  · have z2 : (260 : Int) < (n2 : Int) := by omega
    clear h0 h1 h2
    go_enter Tryz.func14, Tryz.ntmps14
    go_wp2
    go_ret
    exact ⟨⟨_, rfl, fun h => by cases h⟩, (by repeat (first | exact Ext.refl _ | assumption | refine Ext.alloc ?_ _ | refine Ext.drew ?_ | refine Ext.trans ?_ (by assumption)))⟩
  have z2 : ¬ (260 : Int) < (n2 : Int) := by omega
  have hn1 : n ≤ 260 := by omega
  have hn2 : n2 ≤ 260 := by omega
  clear h0 h1 h2
  go_enter Tryz.func14, Tryz.ntmps14
  go_wp2
  go_loopw [3] (fun t wr => ∃ k : Nat, k ≤ n ∧ t = .int .i64 (k : Int) ∧ Hid (Ext (w.alloc (.cells #[.string NM, .slice a n c, .slice a2 n2 c2] 25)) wr)) (fun t _ => n - (intOf t).toNat)
  case atStart => exact ⟨0, Nat.zero_le _, rfl, Lib.hid (by repeat (first | exact Ext.refl _ | assumption | refine Ext.alloc ?_ _ | refine Ext.drew ?_ | refine Ext.trans ?_ (by assumption)))⟩
  case round =>
    obtain ⟨k, hk, rfl, HX⟩ := hrel
    obtain ⟨m0, m1, m2⟩ := kept3 HX.out
    by_cases hlt : k < n
    · obtain ⟨f, hfk⟩ : ∃ f, fs[k]? = some f := ⟨_, List.getElem?_eq_getElem (by rw [HN.out]; exact hlt)⟩
      have hxw : Ext w wr := HX.out.before
      obtain ⟨b, o, X, op, mn, mx, ck, la, ln, lc, l, opt, ha, hb, rfl, hl, c0, c1, c2', c3, c4, c5, c6⟩ := HF.out.here hxw hfk
      subst ha
      obtain ⟨b1, b2, b3⟩ := HB.out _ (List.mem_of_getElem? hfk)
      dsimp only at b1 b2 b3
      have HSH := Lib.hid (short_any (.slice la ln lc) l 40 wr (hl.ext hxw) b2 b3)
      clear hfk hl
      by_cases h3 : 100 < X.size
      · have z3 : (100 : Int) < (X.size : Int) := by omega
        clear h3
        go_wp2
        go_ret
        exact ⟨⟨_, rfl, fun h => by cases h⟩, hxw⟩
      have z3 : ¬ (100 : Int) < (X.size : Int) := by omega
      go_wp2_with fail
      refine HSH.out.mono ?_
      rintro e w4 ⟨⟨q, rfl, -⟩, hx4⟩
      cases q with
      | false =>
        have hx5 := hxw.trans hx4
        go_wp2
        go_ret
        exact ⟨⟨_, rfl, fun h => by cases h⟩, hx5⟩
      | true =>
        have HX4 := Lib.hid (HX.out.trans hx4)
        clear hx4 c0 c1 c2' c3 c4 c5 c6
        go_wp2
        go_roundw
        case rel => exact ⟨k + 1, by omega, by go_num, HX4⟩
        case measure => simp [intOf]; omega
    · obtain rfl : k = n := by omega
      obtain ⟨W, hWw⟩ : ∃ W, W = wr := ⟨_, rfl⟩
      subst hWw
      go_wp2
      go_loopw [4] (fun t wq => ∃ q : Nat, q ≤ n2 ∧ t = .int .i64 (q : Int) ∧ Hid (Ext (w.alloc (.cells #[.string NM, .slice a k c, .slice a2 n2 c2] 25)) wq)) (fun t _ => n2 - (intOf t).toNat)
      case atStart => exact ⟨0, Nat.zero_le _, rfl, HX⟩
      case round =>
        clear HX m0 m1 m2
        obtain ⟨q, hq, rfl, HX⟩ := hrel
        obtain ⟨m0, m1, m2⟩ := kept3 HX.out
        have hxw : Ext w wr := HX.out.before
        by_cases hlt : q < n2
        · obtain ⟨r, hrk⟩ : ∃ r, ss[q]? = some r := ⟨_, List.getElem?_eq_getElem (by rw [HN2.out]; exact hlt)⟩
          obtain ⟨b, o, X, la, ln, lc, l, ha, hb, rfl, hl, c0, c1⟩ := HS.out.here hxw hrk
          subst ha
          obtain ⟨b1, b2, b3⟩ := HM.out _ (List.mem_of_getElem? hrk)
          dsimp only at b1 b2 b3
          have HSH := Lib.hid (short_any (.slice la ln lc) l 40 wr (hl.ext hxw) b2 b3)
          clear hrk hl
          by_cases h3 : 100 < X.size
          · have z3 : (100 : Int) < (X.size : Int) := by omega
            clear h3
            go_wp2
            go_ret
            exact ⟨⟨_, rfl, fun h => by cases h⟩, hxw⟩
          have z3 : ¬ (100 : Int) < (X.size : Int) := by omega
          go_wp2_with fail
          refine HSH.out.mono ?_
          rintro e w4 ⟨⟨p, rfl, -⟩, hx4⟩
          cases p with
          | false =>
            have hx5 := hxw.trans hx4
            go_wp2
            go_ret
            exact ⟨⟨_, rfl, fun h => by cases h⟩, hx5⟩
          | true =>
            have HX4 := Lib.hid (HX.out.trans hx4)
            clear hx4 c0 c1
            go_wp2
            go_roundw
            case rel => exact ⟨q + 1, by omega, by go_num, HX4⟩
            case measure => simp [intOf]; omega
        · obtain rfl : q = n2 := by omega
          go_wp2
          go_ret
          exact ⟨⟨_, rfl, fun _ => ⟨hn1, hn2⟩⟩, hxw⟩
end Go.Proofs.YtkpfehfcgpapiaaGreatDoor

/-
  Chapter 51, the laws: what they all ask first.
  No condition.
-/
namespace Go.Proofs.YtkpfehfcgpapiaaGreatDoor
set_option linter.unusedVariables false
open Go.RowKit

/-- The chapter's examples hold, wherever the listed variables are there. -/
def ExH : Prop := ∀ w, Errs w → Pow w → Calls Tryz.prog 15 #[] w fun e w' => e = .returned (.bool true) ∧ Ext w w'
end Go.Proofs.YtkpfehfcgpapiaaGreatDoor

/-
  Chapter 51, the laws: two digits.
  No condition.
-/
namespace Go.Proofs.YtkpfehfcgpapiaaGreatDoor
set_option linter.unusedVariables false
open Go.RowKit

theorem conv_2 (w : World) (a b : UInt8) (za zb : Int) (ha : (a.toNat : Int) = za) (hb : (b.toNat : Int) = zb) : (convert 34 9 (.slice (some ⟨w.heap.size, 0, none⟩) 2 2)).run Tryz.prog (w.alloc (.cells #[.int .u8 za, .int .u8 zb] 5)) = .ok (.string ⟨#[a, b]⟩) (w.alloc (.cells #[.int .u8 za, .int .u8 zb] 5)) := by
  subst ha hb
  have h := run_convert_bytes_back (P := Tryz.prog) (w.alloc (.cells #[.int .u8 (a.toNat : Int), .int .u8 (b.toNat : Int)] 5)) 34 9 5 ⟨w.heap.size, 0, none⟩ 2 [a, b] Tryz.underlying34 Tryz.underlying5 Tryz.underlying9 (fun j hj => by
    have e : j = 0 ∨ j = 1 := by simp at hj; omega
    rcases e with rfl | rfl <;> simp [go_sem, Addr.add])
  exact h
theorem dgt_nat (n : Nat) : (UInt8.ofNat (48 + n % 10)).toNat = 48 + n % 10 := by
  rw [UInt8.toNat_ofNat']; omega
set_option maxRecDepth 100000 in
set_option maxHeartbeats 400000 in
theorem two_any (n : Nat) (hn : n ≤ 100000) (w : World) : Calls Tryz.prog 34 #[.int .i64 (n : Int)] w fun e w' => e = .returned (.string ⟨(Fm.two n).toArray⟩) ∧ Ext w w' := by
  obtain ⟨A, hA⟩ : ∃ A, A = UInt8.ofNat (48 + n / 10 % 10) := ⟨_, rfl⟩
  obtain ⟨B, hB⟩ : ∃ B, B = UInt8.ofNat (48 + n % 10) := ⟨_, rfl⟩
  have hcv := conv_2 w A B (48 + (n : Int) / 10 % 10) (48 + (n : Int) % 10) (by rw [hA, dgt_nat]; omega) (by rw [hB, dgt_nat]; omega)
  have hr : (⟨(Fm.two n).toArray⟩ : ByteArray) = ⟨#[A, B]⟩ := by rw [hA, hB]; rfl
  rw [hr]
  clear hr hA hB
  go_enter Tryz.func34, Tryz.ntmps34
  go_wp2
  go_ret
  exact ⟨rfl, (by repeat (first | exact Ext.refl _ | assumption | refine Ext.alloc ?_ _ | refine Ext.drew ?_ | refine Ext.trans ?_ (by assumption)))⟩
end Go.Proofs.YtkpfehfcgpapiaaGreatDoor

/-
  Chapter 51, the laws: the chapter's examples hold.
  No condition.
-/
namespace Go.Proofs.YtkpfehfcgpapiaaGreatDoor
set_option linter.unusedVariables false
open Go.RowKit

theorem iss_eql (w : World) (a b : ByteArray) (z y : Int) : (binOp .eql 54 (.agg #[.string a, .int .i64 z]) (.agg #[.string b, .int .i64 y])).run Tryz.prog w = .ok (.bool ((a.toList == b.toList) && (z == y))) w := by
  have u9 := Tryz.underlying9
  have a9 := Tryz.isAgg9
  have z9 := Tryz.sizeOf9
  have u8 := Tryz.underlying28
  have a8 := Tryz.isAgg28
  have z8 := Tryz.sizeOf28
  have hS : Tryz.prog.underlying 54 = some (.struct (Tryz.prog.fieldsOf 54)) := by kernel_rfl
  have hp : Tryz.prog.stoodInHeld 54 = false := by kernel_rfl
  rw [run_eql_struct, show (10000 : Nat) = 9999 + 1 from rfl, run_equalIn_agg w 9999 54 _ _ hS hp]
  simp only [Program.fieldsOf, Tryz.underlying54]
  go_simp
  by_cases h1 : a.toList = b.toList <;> by_cases h2 : z = y <;> simp [h1, h2]
theorem strs_row {w : World} {b : Nat} {T : TypeId} {l : List Fm.S} {n : Nat} (h : w.heap[b]? = some (.cells (l.map strV).toArray T (0, 0))) (hn : l.length = n) : StrsR w (.slice (some ⟨b, 0, none⟩) n n) l := by
  subst hn
  refine ⟨?_, _, _, rfl, Nat.le_refl _⟩
  refine .inr ⟨b, 0, l.length, rfl, lt_at h, fun i x hi c hc => ?_⟩
  obtain rfl : c = 0 := by omega
  exact cell_at h (by simp [hi])
theorem short_dec {n : Nat} {l : List Fm.S} (h : l.all (fun s => decide (s.length ≤ n)) = true) : Short n l := fun s hs => by
  have := List.all_eq_true.1 h s hs
  simpa using this
theorem fldB_dec {fs : List Fm.Fld} (h : fs.all (fun f => decide (f.name.length ≤ 1000) && f.chs.all (fun s => decide (s.length ≤ 1000)) && decide (f.chs.length ≤ 1000)) = true) : ∀ f ∈ fs, FldB f := fun f hf => by
  have := List.all_eq_true.1 h f hf
  simp only [Bool.and_eq_true, decide_eq_true_eq, List.all_eq_true] at this
  refine ⟨by unfold Go.maxLen; omega, fun s hs => ?_, by unfold Go.maxLen; omega⟩
  have h2 := this.1.2 s hs
  unfold Go.maxLen; omega
theorem smB_dec {ss : List Fm.Sm} (h : ss.all (fun f => decide (f.total.length ≤ 1000) && f.parts.all (fun s => decide (s.length ≤ 1000)) && decide (f.parts.length ≤ 1000)) = true) : ∀ f ∈ ss, SmB f := fun f hf => by
  have := List.all_eq_true.1 h f hf
  simp only [Bool.and_eq_true, decide_eq_true_eq, List.all_eq_true] at this
  refine ⟨by unfold Go.maxLen; omega, fun s hs => ?_, by unfold Go.maxLen; omega⟩
  have h2 := this.1.2 s hs
  unfold Go.maxLen; omega
theorem bill_flB : ∀ f ∈ Fm.billF.fields, FldB f := fldB_dec (by decide +kernel)
theorem bill_smB : ∀ f ∈ Fm.billF.sums, SmB f := smB_dec (by decide +kernel)
theorem bill_format : Fm.format Fm.billF = (Fm.billT, 0) := by unfold Fm.format; rw [if_pos Fm.bill_check, Fm.bill_text]
def billB : ByteArray := ⟨Fm.billT.toArray⟩
def billN : ByteArray := ⟨#[66, 73, 76, 76]⟩
variable {w : World} {a a2 : Option Addr} {c c2 : Nat}
theorem ex_parse (w : World) (hE : Errs w) : Calls Tryz.prog 20 #[.string ⟨#[102, 111, 114, 109, 32, 66, 73, 76, 76, 10, 100, 105, 103, 105, 116, 115, 32, 73, 84, 69, 77, 32, 52, 32, 52, 32, 99, 104, 101, 99, 107, 32, 100, 97, 109, 109, 10, 110, 117, 109, 98, 101, 114, 32, 84, 79, 84, 65, 76, 32, 48, 32, 49, 48, 48, 48, 10, 110, 117, 109, 98, 101, 114, 32, 65, 32, 48, 32, 49, 48, 48, 48, 10, 110, 117, 109, 98, 101, 114, 32, 66, 32, 48, 32, 49, 48, 48, 48, 32, 111, 112, 116, 105, 111, 110, 97, 108, 10, 115, 117, 109, 32, 84, 79, 84, 65, 76, 32, 65, 32, 66, 10]⟩] w fun e w' => (∃ a c a2 c2, e = .returned (.tuple #[.agg #[.string billN, .slice a 4 c, .slice a2 1 c2], .int .i64 0]) ∧ Hid (FldsR w' (.slice a 4 c) Fm.billF.fields) ∧ Hid (SumsR w' (.slice a2 1 c2) Fm.billF.sums)) ∧ Ext w w' := by
  refine (fparse_any ⟨#[102, 111, 114, 109, 32, 66, 73, 76, 76, 10, 100, 105, 103, 105, 116, 115, 32, 73, 84, 69, 77, 32, 52, 32, 52, 32, 99, 104, 101, 99, 107, 32, 100, 97, 109, 109, 10, 110, 117, 109, 98, 101, 114, 32, 84, 79, 84, 65, 76, 32, 48, 32, 49, 48, 48, 48, 10, 110, 117, 109, 98, 101, 114, 32, 65, 32, 48, 32, 49, 48, 48, 48, 10, 110, 117, 109, 98, 101, 114, 32, 66, 32, 48, 32, 49, 48, 48, 48, 32, 111, 112, 116, 105, 111, 110, 97, 108, 10, 115, 117, 109, 32, 84, 79, 84, 65, 76, 32, 65, 32, 66, 10]⟩ Fm.billF w (by decide) Fm.bill_parse Fm.bill_check bill_flB bill_smB hE).mono ?_
  rintro e w' ⟨⟨vf, vs, rfl, hf, hm⟩, hx⟩
  obtain ⟨a, c, rfl⟩ := hf.form
  obtain ⟨a2, c2, rfl⟩ := hm.form
  exact ⟨⟨a, c, a2, c2, rfl, Lib.hid hf, Lib.hid hm⟩, hx⟩
theorem ex_format (hf : Hid (FldsR w (.slice a 4 c) Fm.billF.fields)) (hm : Hid (SumsR w (.slice a2 1 c2) Fm.billF.sums)) (hP : Pow w) : Calls Tryz.prog 16 #[.agg #[.string billN, .slice a 4 c, .slice a2 1 c2]] w fun e w' => e = .returned (.tuple #[.string billB, .int .i64 0]) ∧ Ext w w' :=
  (format_any billN a 4 c a2 1 c2 _ _ w hf.out hm.out bill_flB bill_smB hP).mono fun e w' ⟨he, hx⟩ => ⟨by rw [he, show (⟨billN.data.toList, Fm.billF.fields, Fm.billF.sums⟩ : Fm.Frm) = Fm.billF from rfl, bill_format]; rfl, hx⟩
theorem ex_check (hf : Hid (FldsR w (.slice a 4 c) Fm.billF.fields)) (hm : Hid (SumsR w (.slice a2 1 c2) Fm.billF.sums)) : Calls Tryz.prog 18 #[.agg #[.string billN, .slice a 4 c, .slice a2 1 c2]] w fun e w' => e = .returned (.int .i64 0) ∧ Ext w w' :=
  (check_any billN a 4 c a2 1 c2 _ _ w hf.out hm.out bill_flB bill_smB).mono fun e w' ⟨he, hx⟩ => ⟨by rw [he, show (⟨billN.data.toList, Fm.billF.fields, Fm.billF.sums⟩ : Fm.Frm) = Fm.billF from rfl, Fm.bill_check], hx⟩
def v1L : List Fm.S := [[53, 55, 50, 52], [51, 48], [49, 48], [50, 48]]
def v2L : List Fm.S := [[53, 55, 50, 53], [51, 48], [49, 48], []]
def v3L : List Fm.S := [[53, 63, 50, 52], [51, 48], [49, 48], []]
def v4L : List Fm.S := [[65, 58, 32, 49, 48], [120], [73, 84, 69, 77, 58, 53, 55, 50, 52, 32], [32, 84, 79, 84, 65, 76, 32, 58, 32, 55, 58, 32]]
theorem ex_ver1 {b : Nat} (hf : Hid (FldsR w (.slice a 4 c) Fm.billF.fields)) (hm : Hid (SumsR w (.slice a2 1 c2) Fm.billF.sums)) (hE : Errs w) (hr : StrsR w (.slice (some ⟨b, 0, none⟩) 4 4) v1L) : Calls Tryz.prog 24 #[.agg #[.string billN, .slice a 4 c, .slice a2 1 c2], .slice (some ⟨b, 0, none⟩) 4 4] w fun e w' => (∃ a' c', e = .returned (.tuple #[.slice a' 0 c', .int .i64 0])) ∧ Ext w w' :=
  (fverify_any billN a 4 c a2 1 c2 _ _ _ _ _ v1L w hf.out hm.out bill_flB bill_smB hr (short_dec (n := Go.maxLen) (by decide +kernel)) hE).mono fun e w' h => by
    obtain ⟨v, he, hk, hx⟩ := h
    rw [show (⟨billN.data.toList, Fm.billF.fields, Fm.billF.sums⟩ : Fm.Frm) = Fm.billF from rfl, show Fm.verify Fm.billF v1L = ([], 0) from Fm.bill_ver1] at he hk
    obtain ⟨a', c', rfl⟩ := hk.form
    exact ⟨⟨a', c', he⟩, hx⟩
theorem ex_ver2 {b : Nat} (hf : Hid (FldsR w (.slice a 4 c) Fm.billF.fields)) (hm : Hid (SumsR w (.slice a2 1 c2) Fm.billF.sums)) (hE : Errs w) (hr : StrsR w (.slice (some ⟨b, 0, none⟩) 4 4) v2L) : Calls Tryz.prog 24 #[.agg #[.string billN, .slice a 4 c, .slice a2 1 c2], .slice (some ⟨b, 0, none⟩) 4 4] w fun e w' => (∃ g o c', e = .returned (.tuple #[.slice (some ⟨g, o, none⟩) 2 c', .int .i64 0]) ∧ g < w'.heap.size ∧ w'.cell? ⟨g, o, none⟩ = some (.string ⟨#[73, 84, 69, 77]⟩) ∧ w'.cell? ⟨g, o + 1, none⟩ = some (.int .i64 8) ∧ w'.cell? ⟨g, o + 2, none⟩ = some (.string ⟨#[84, 79, 84, 65, 76]⟩) ∧ w'.cell? ⟨g, o + 3, none⟩ = some (.int .i64 8)) ∧ Ext w w' :=
  (fverify_any billN a 4 c a2 1 c2 _ _ _ _ _ v2L w hf.out hm.out bill_flB bill_smB hr (short_dec (n := Go.maxLen) (by decide +kernel)) hE).mono fun e w' h => by
    obtain ⟨v, he, hk, hx⟩ := h
    rw [show (⟨billN.data.toList, Fm.billF.fields, Fm.billF.sums⟩ : Fm.Frm) = Fm.billF from rfl, show Fm.verify Fm.billF v2L = ([(Fm.nITEM, 8), (Fm.nTOTAL, 8)], 0) from Fm.bill_ver2] at he hk
    rcases hk with ⟨h1, -⟩ | ⟨g, o, c', rfl, hg, hc⟩
    · cases h1
    exact ⟨⟨g, o, c', he, hg, hc 0 _ rfl 0 (by decide), hc 0 _ rfl 1 (by decide), hc 1 _ rfl 0 (by decide), hc 1 _ rfl 1 (by decide)⟩, hx⟩
theorem strs_four {v : Value} {x0 x1 x2 x3 : Fm.S} (h : StrsR w v [x0, x1, x2, x3]) : ∃ g o c', v = .slice (some ⟨g, o, none⟩) 4 c' ∧ g < w.heap.size ∧ w.cell? ⟨g, o, none⟩ = some (strV x0) ∧ w.cell? ⟨g, o + 1, none⟩ = some (strV x1) ∧ w.cell? ⟨g, o + 2, none⟩ = some (strV x2) ∧ w.cell? ⟨g, o + 3, none⟩ = some (strV x3) := by
  obtain ⟨hk, -⟩ := h
  rcases hk with ⟨h1, -⟩ | ⟨g, o, c', rfl, hg, hc⟩
  · cases h1
  exact ⟨g, o, c', rfl, hg, hc 0 _ rfl 0 (by decide), hc 1 _ rfl 0 (by decide), hc 2 _ rfl 0 (by decide), hc 3 _ rfl 0 (by decide)⟩
theorem ex_repair {b : Nat} (hf : Hid (FldsR w (.slice a 4 c) Fm.billF.fields)) (hm : Hid (SumsR w (.slice a2 1 c2) Fm.billF.sums)) (hE : Errs w) (hr : StrsR w (.slice (some ⟨b, 0, none⟩) 4 4) v3L) : Calls Tryz.prog 30 #[.agg #[.string billN, .slice a 4 c, .slice a2 1 c2], .slice (some ⟨b, 0, none⟩) 4 4] w fun e w' => (∃ g o c', e = .returned (.tuple #[.slice (some ⟨g, o, none⟩) 4 c', .int .i64 0]) ∧ g < w'.heap.size ∧ w'.cell? ⟨g, o, none⟩ = some (.string ⟨#[53, 55, 50, 52]⟩) ∧ w'.cell? ⟨g, o + 1, none⟩ = some (.string ⟨#[51, 48]⟩) ∧ w'.cell? ⟨g, o + 2, none⟩ = some (.string ⟨#[49, 48]⟩) ∧ w'.cell? ⟨g, o + 3, none⟩ = some (.string ⟨#[]⟩)) ∧ Ext w w' :=
  (repair_any billN a 4 c a2 1 c2 _ _ _ _ _ v3L w hf.out hm.out bill_flB bill_smB hr (short_dec (n := Go.maxLen) (by decide +kernel)) hE).mono fun e w' h => by
    obtain ⟨v, he, hk, hx⟩ := h
    rw [show (⟨billN.data.toList, Fm.billF.fields, Fm.billF.sums⟩ : Fm.Frm) = Fm.billF from rfl, show Fm.repair Fm.billF v3L = _ from Fm.ex_repair] at he hk
    obtain ⟨g, o, c', rfl, hg, h0, h1, h2, h3⟩ := strs_four hk
    exact ⟨⟨g, o, c', he, hg, h0, h1, h2, h3⟩, hx⟩
theorem ex_fields {b : Nat} (hf : Hid (FldsR w (.slice a 4 c) Fm.billF.fields)) (hm : Hid (SumsR w (.slice a2 1 c2) Fm.billF.sums)) (hE : Errs w) (hr : StrsR w (.slice (some ⟨b, 0, none⟩) 4 4) v4L) : Calls Tryz.prog 27 #[.agg #[.string billN, .slice a 4 c, .slice a2 1 c2], .slice (some ⟨b, 0, none⟩) 4 4] w fun e w' => (∃ g o c', e = .returned (.tuple #[.slice (some ⟨g, o, none⟩) 4 c', .int .i64 0]) ∧ g < w'.heap.size ∧ w'.cell? ⟨g, o, none⟩ = some (.string ⟨#[53, 55, 50, 52]⟩) ∧ w'.cell? ⟨g, o + 1, none⟩ = some (.string ⟨#[55, 58]⟩) ∧ w'.cell? ⟨g, o + 2, none⟩ = some (.string ⟨#[49, 48]⟩) ∧ w'.cell? ⟨g, o + 3, none⟩ = some (.string ⟨#[]⟩)) ∧ Ext w w' :=
  (fields_any billN a 4 c a2 1 c2 _ _ _ _ _ v4L w hf.out hm.out bill_flB bill_smB hr (short_dec (by decide +kernel)) (by decide)).mono fun e w' h => by
    obtain ⟨v, he, hk, hx⟩ := h
    rw [show (⟨billN.data.toList, Fm.billF.fields, Fm.billF.sums⟩ : Fm.Frm) = Fm.billF from rfl, show Fm.fields Fm.billF v4L = _ from Fm.bill_flds] at he hk
    obtain ⟨g, o, c', rfl, hg, h0, h1, h2, h3⟩ := strs_four hk
    exact ⟨⟨g, o, c', he, hg, h0, h1, h2, h3⟩, hx⟩
theorem ex_day1 (hE : Errs w) : Calls Tryz.prog 22 #[.agg #[.string ⟨#[68]⟩, .int .i64 5, .int .i64 1, .int .i64 9999, .int .i64 0, .slice none 0 0, .bool false], .string ⟨#[50, 48, 50, 52, 45, 48, 50, 45, 50, 57]⟩] w fun e w' => e = .returned (.int .i64 0) ∧ Ext w w' :=
  (fvalue_any ⟨#[68]⟩ 5 1 9999 0 none 0 0 false [] ⟨#[50, 48, 50, 52, 45, 48, 50, 45, 50, 57]⟩ (by decide) w (StrsR.nil w) (fun s hs => by cases hs) (by decide) hE).mono fun e w' ⟨he, hx⟩ => ⟨by rw [he]; exact congrArg (fun z => Ending.returned (.int .i64 z)) Fm.ex_day.1, hx⟩
theorem ex_day2 (hE : Errs w) : Calls Tryz.prog 22 #[.agg #[.string ⟨#[68]⟩, .int .i64 5, .int .i64 1, .int .i64 9999, .int .i64 0, .slice none 0 0, .bool false], .string ⟨#[49, 57, 48, 48, 45, 48, 50, 45, 50, 57]⟩] w fun e w' => e = .returned (.int .i64 3) ∧ Ext w w' :=
  (fvalue_any ⟨#[68]⟩ 5 1 9999 0 none 0 0 false [] ⟨#[49, 57, 48, 48, 45, 48, 50, 45, 50, 57]⟩ (by decide) w (StrsR.nil w) (fun s hs => by cases hs) (by decide) hE).mono fun e w' ⟨he, hx⟩ => ⟨by rw [he]; exact congrArg (fun z => Ending.returned (.int .i64 z)) Fm.ex_day.2.1, hx⟩
theorem ex_day3 (hE : Errs w) : Calls Tryz.prog 22 #[.agg #[.string ⟨#[68]⟩, .int .i64 5, .int .i64 1, .int .i64 9999, .int .i64 0, .slice none 0 0, .bool false], .string ⟨#[50, 48, 50, 52, 45, 50, 45, 50, 57]⟩] w fun e w' => e = .returned (.int .i64 9) ∧ Ext w w' :=
  (fvalue_any ⟨#[68]⟩ 5 1 9999 0 none 0 0 false [] ⟨#[50, 48, 50, 52, 45, 50, 45, 50, 57]⟩ (by decide) w (StrsR.nil w) (fun s hs => by cases hs) (by decide) hE).mono fun e w' ⟨he, hx⟩ => ⟨by rw [he]; exact congrArg (fun z => Ending.returned (.int .i64 z)) Fm.ex_day.2.2, hx⟩
set_option maxRecDepth 100000 in
set_option maxHeartbeats 400000 in
theorem ex_any (w : World) (hE : Errs w) (hP : Pow w) : Calls Tryz.prog 15 #[] w fun e w' => e = .returned (.bool true) ∧ Ext w w' := by
  have HE := Lib.hid hE
  have HP := Lib.hid hP
  clear hE hP
  go_enter Tryz.func15, Tryz.ntmps15
  go_wp2_with fail
  refine (ex_parse _ HE.out).mono ?_
  rintro e w1 ⟨⟨a, c, a2, c2, rfl, hf, hm⟩, hx1⟩
  have R2 := heap_alloc_new w1 (.cells #[.string billN, .slice a 4 c, .slice a2 1 c2] 25)
  obtain ⟨W2, hW2⟩ : ∃ W2, W2 = w1.alloc (.cells #[.string billN, .slice a 4 c, .slice a2 1 c2] 25) := ⟨_, rfl⟩
  rw [← hW2] at R2
  have hx2 : Ext w1 W2 := by rw [hW2]; exact (Ext.refl w1).alloc _
  have HR2 := Lib.hid R2
  have HX2 := Lib.hid (hx1.trans hx2)
  have HF2 := Lib.hid (hf.out.ext hx2)
  have HM2 := Lib.hid (hm.out.ext hx2)
  have hz2 : W2.heap.size = w1.heap.size + 1 := by rw [hW2]; simp
  have HFMT := Lib.hid (ex_format HF2 HM2 (HP.out.ext HX2.out))
  have HW2 := Lib.hid hW2
  clear R2 hW2 hx1 hx2 hf hm
  go_wp2_with fail
  rw [← HW2.out]
  refine Calls.mono HFMT.out ?_
  rintro e w3 ⟨rfl, hx3⟩
  have r3 := row_on HR2.out hx3
  have k0 : w3.cell? ⟨w1.heap.size, 0, none⟩ = some (.string billN) := cell_at r3 rfl
  have k1 : w3.cell? ⟨w1.heap.size, 1, none⟩ = some (.slice a 4 c) := cell_at r3 rfl
  have k2 : w3.cell? ⟨w1.heap.size, 2, none⟩ = some (.slice a2 1 c2) := cell_at r3 rfl
  have HX3 := Lib.hid (HX2.out.trans hx3)
  have HF3 : Hid _ := Lib.hid (HF2.out.ext hx3)
  have HM3 : Hid _ := Lib.hid (HM2.out.ext hx3)
  have HCK := Lib.hid (ex_check HF3 HM3)
  clear r3
  -- WALK
  have hbb : (billB.toList == ([102, 111, 114, 109, 32, 66, 73, 76, 76, 10, 100, 105, 103, 105, 116, 115, 32, 73, 84, 69, 77, 32, 52, 32, 52, 32, 99, 104, 101, 99, 107, 32, 100, 97, 109, 109, 10, 110, 117, 109, 98, 101, 114, 32, 84, 79, 84, 65, 76, 32, 48, 32, 49, 48, 48, 48, 10, 110, 117, 109, 98, 101, 114, 32, 65, 32, 48, 32, 49, 48, 48, 48, 10, 110, 117, 109, 98, 101, 114, 32, 66, 32, 48, 32, 49, 48, 48, 48, 32, 111, 112, 116, 105, 111, 110, 97, 108, 10, 115, 117, 109, 32, 84, 79, 84, 65, 76, 32, 65, 32, 66, 10] : List UInt8)) = true := by rw [Lib.toList_data]; rfl
  go_wp2_with fail
  refine Calls.mono HCK.out ?_
  rintro e w4 ⟨rfl, hx4⟩
  have HX4 := Lib.hid (HX3.out.trans hx4)
  have HS4 : Hid (Ext W2 w4) := Lib.hid (hx3.trans hx4)
  clear hbb k0 k1 k2 HCK HF3 HM3 hx3 hx4
  obtain ⟨V5, hV5⟩ : ∃ V, V = w4.alloc (.cells #[.string ⟨#[53, 55, 50, 52]⟩, .string ⟨#[51, 48]⟩, .string ⟨#[49, 48]⟩, .string ⟨#[50, 48]⟩] 9) := ⟨_, rfl⟩
  have hv5 : Ext w4 V5 := by rw [hV5]; exact (Ext.refl w4).alloc _
  have hr5 : StrsR V5 (.slice (some ⟨w4.heap.size, 0, none⟩) 4 4) v1L := strs_row (l := v1L) (by rw [hV5]; exact heap_alloc_new w4 _) rfl
  have r5 := row_on HR2.out HS4.out
  have k0 : w4.cell? ⟨w1.heap.size, 0, none⟩ = some (.string billN) := cell_at r5 rfl
  have k1 : w4.cell? ⟨w1.heap.size, 1, none⟩ = some (.slice a 4 c) := cell_at r5 rfl
  have k2 : w4.cell? ⟨w1.heap.size, 2, none⟩ = some (.slice a2 1 c2) := cell_at r5 rfl
  have HQ5 := Lib.hid (ex_ver1 (b := w4.heap.size) (Lib.hid (HF2.out.ext (HS4.out.trans hv5))) (Lib.hid (HM2.out.ext (HS4.out.trans hv5))) (HE.out.ext (HX4.out.trans hv5)) hr5)
  have HV5 := Lib.hid hV5
  have HZ5 := Lib.hid hv5
  clear hV5 hv5 hr5 r5
  go_wp2_with fail
  rw [← HV5.out]
  refine Calls.mono HQ5.out ?_
  rintro e w5 ⟨⟨a1, c1, rfl⟩, hy⟩
  have HX5 := Lib.hid (HX4.out.trans (HZ5.out.trans hy))
  have HS5 : Hid (Ext W2 w5) := Lib.hid (HS4.out.trans (HZ5.out.trans hy))
  have HY5 := Lib.hid (HZ5.out.trans hy)
  clear k0 k1 k2 hy HQ5
  obtain ⟨V6, hV6⟩ : ∃ V, V = w5.alloc (.cells #[.string ⟨#[53, 55, 50, 53]⟩, .string ⟨#[51, 48]⟩, .string ⟨#[49, 48]⟩, .string ⟨#[]⟩] 9) := ⟨_, rfl⟩
  have hv6 : Ext w5 V6 := by rw [hV6]; exact (Ext.refl w5).alloc _
  have hr6 : StrsR V6 (.slice (some ⟨w5.heap.size, 0, none⟩) 4 4) v2L := strs_row (l := v2L) (by rw [hV6]; exact heap_alloc_new w5 _) rfl
  have r6 := row_on HR2.out HS5.out
  have k0 : w5.cell? ⟨w1.heap.size, 0, none⟩ = some (.string billN) := cell_at r6 rfl
  have k1 : w5.cell? ⟨w1.heap.size, 1, none⟩ = some (.slice a 4 c) := cell_at r6 rfl
  have k2 : w5.cell? ⟨w1.heap.size, 2, none⟩ = some (.slice a2 1 c2) := cell_at r6 rfl
  have HQ6 := Lib.hid (ex_ver2 (b := w5.heap.size) (Lib.hid (HF2.out.ext (HS5.out.trans hv6))) (Lib.hid (HM2.out.ext (HS5.out.trans hv6))) (HE.out.ext (HX5.out.trans hv6)) hr6)
  have HV6 := Lib.hid hV6
  have HZ6 := Lib.hid hv6
  clear hV6 hv6 hr6 r6
  go_wp2_with fail
  rw [← HV6.out]
  refine Calls.mono HQ6.out ?_
  rintro e w6 ⟨⟨gb, ob, cb, rfl, hgb, b0, b1, b2, b3⟩, hy⟩
  have HX6 := Lib.hid (HX5.out.trans (HZ6.out.trans hy))
  have HS6 : Hid (Ext W2 w6) := Lib.hid (HS5.out.trans (HZ6.out.trans hy))
  have HY6 := Lib.hid (HZ6.out.trans hy)
  have Hb0 := Lib.hid b0
  have Hb1 := Lib.hid b1
  have Hb2 := Lib.hid b2
  have Hb3 := Lib.hid b3
  clear b0 b1 b2 b3
  clear k0 k1 k2 hy HQ6
  obtain ⟨V7, hV7⟩ : ∃ V, V = w6.alloc (.cells #[.string ⟨#[53, 63, 50, 52]⟩, .string ⟨#[51, 48]⟩, .string ⟨#[49, 48]⟩, .string ⟨#[]⟩] 9) := ⟨_, rfl⟩
  have hv7 : Ext w6 V7 := by rw [hV7]; exact (Ext.refl w6).alloc _
  have hr7 : StrsR V7 (.slice (some ⟨w6.heap.size, 0, none⟩) 4 4) v3L := strs_row (l := v3L) (by rw [hV7]; exact heap_alloc_new w6 _) rfl
  have r7 := row_on HR2.out HS6.out
  have k0 : w6.cell? ⟨w1.heap.size, 0, none⟩ = some (.string billN) := cell_at r7 rfl
  have k1 : w6.cell? ⟨w1.heap.size, 1, none⟩ = some (.slice a 4 c) := cell_at r7 rfl
  have k2 : w6.cell? ⟨w1.heap.size, 2, none⟩ = some (.slice a2 1 c2) := cell_at r7 rfl
  have HQ7 := Lib.hid (ex_repair (b := w6.heap.size) (Lib.hid (HF2.out.ext (HS6.out.trans hv7))) (Lib.hid (HM2.out.ext (HS6.out.trans hv7))) (HE.out.ext (HX6.out.trans hv7)) hr7)
  have HV7 := Lib.hid hV7
  have HZ7 := Lib.hid hv7
  clear hV7 hv7 hr7 r7
  go_wp2_with fail
  rw [← HV7.out]
  refine Calls.mono HQ7.out ?_
  rintro e w7 ⟨⟨gc, oc, cc, rfl, hgc, p0, p1, p2, p3⟩, hy⟩
  have HX7 := Lib.hid (HX6.out.trans (HZ7.out.trans hy))
  have HS7 : Hid (Ext W2 w7) := Lib.hid (HS6.out.trans (HZ7.out.trans hy))
  have HY7 := Lib.hid (HZ7.out.trans hy)
  have Hp0 := Lib.hid p0
  clear p0 p1 p2 p3
  clear k0 k1 k2 hy HQ7
  obtain ⟨V8, hV8⟩ : ∃ V, V = w7.alloc (.cells #[.string ⟨#[65, 58, 32, 49, 48]⟩, .string ⟨#[120]⟩, .string ⟨#[73, 84, 69, 77, 58, 53, 55, 50, 52, 32]⟩, .string ⟨#[32, 84, 79, 84, 65, 76, 32, 58, 32, 55, 58, 32]⟩] 9) := ⟨_, rfl⟩
  have hv8 : Ext w7 V8 := by rw [hV8]; exact (Ext.refl w7).alloc _
  have hr8 : StrsR V8 (.slice (some ⟨w7.heap.size, 0, none⟩) 4 4) v4L := strs_row (l := v4L) (by rw [hV8]; exact heap_alloc_new w7 _) rfl
  have r8 := row_on HR2.out HS7.out
  have k0 : w7.cell? ⟨w1.heap.size, 0, none⟩ = some (.string billN) := cell_at r8 rfl
  have k1 : w7.cell? ⟨w1.heap.size, 1, none⟩ = some (.slice a 4 c) := cell_at r8 rfl
  have k2 : w7.cell? ⟨w1.heap.size, 2, none⟩ = some (.slice a2 1 c2) := cell_at r8 rfl
  have HQ8 := Lib.hid (ex_fields (b := w7.heap.size) (Lib.hid (HF2.out.ext (HS7.out.trans hv8))) (Lib.hid (HM2.out.ext (HS7.out.trans hv8))) (HE.out.ext (HX7.out.trans hv8)) hr8)
  have HV8 := Lib.hid hV8
  have HZ8 := Lib.hid hv8
  clear hV8 hv8 hr8 r8
  go_wp2_with fail
  rw [← HV8.out]
  refine Calls.mono HQ8.out ?_
  rintro e w8 ⟨⟨gd, od, cd, rfl, hgd, q0, q1, q2, q3⟩, hy⟩
  have HX8 := Lib.hid (HX7.out.trans (HZ8.out.trans hy))
  have HS8 : Hid (Ext W2 w8) := Lib.hid (HS7.out.trans (HZ8.out.trans hy))
  have HY8 := Lib.hid (HZ8.out.trans hy)
  clear k0 k1 k2 hy HQ8
  have s0 : w8.cell? ⟨gc, oc, none⟩ = some (.string ⟨#[53, 55, 50, 52]⟩) := (HY8.out.cell (p := ⟨gc, oc, none⟩) hgc).trans Hp0.out
  have hgb7 := Nat.lt_of_lt_of_le hgb HY7.out.size
  have t0 := (HY8.out.cell (p := ⟨gb, ob, none⟩) hgb7).trans ((HY7.out.cell (p := ⟨gb, ob, none⟩) hgb).trans Hb0.out)
  have t1 := (HY8.out.cell (p := ⟨gb, ob + 1, none⟩) hgb7).trans ((HY7.out.cell (p := ⟨gb, ob + 1, none⟩) hgb).trans Hb1.out)
  have t2 := (HY8.out.cell (p := ⟨gb, ob + 2, none⟩) hgb7).trans ((HY7.out.cell (p := ⟨gb, ob + 2, none⟩) hgb).trans Hb2.out)
  have t3 := (HY8.out.cell (p := ⟨gb, ob + 3, none⟩) hgb7).trans ((HY7.out.cell (p := ⟨gb, ob + 3, none⟩) hgb).trans Hb3.out)
  have e0 := fun w' => iss_eql w' ⟨#[73, 84, 69, 77]⟩ ⟨#[73, 84, 69, 77]⟩ 8 8
  have e1 := fun w' => iss_eql w' ⟨#[84, 79, 84, 65, 76]⟩ ⟨#[84, 79, 84, 65, 76]⟩ 8 8
  have hgb8 := Nat.lt_of_lt_of_le hgb7 HY8.out.size
  obtain ⟨V9, hV9⟩ : ∃ V, V = w8.alloc (.cells #[.string ⟨#[68]⟩, .int .i64 5, .int .i64 1, .int .i64 9999, .int .i64 0, .slice none 0 0, .bool false] 39) := ⟨_, rfl⟩
  have hv9 : Ext w8 V9 := by rw [hV9]; exact (Ext.refl w8).alloc _
  have R9 : V9.heap[w8.heap.size]? = some (.cells #[.string ⟨#[68]⟩, .int .i64 5, .int .i64 1, .int .i64 9999, .int .i64 0, .slice none 0 0, .bool false] 39 (0, 0)) := by rw [hV9]; exact heap_alloc_new w8 _
  have HD1 := Lib.hid (ex_day1 (w := V9) (HE.out.ext (HX8.out.trans hv9)))
  have HV9 := Lib.hid hV9
  have HR9 := Lib.hid R9
  have HX9 := Lib.hid (HX8.out.trans hv9)
  clear hV9 R9 hv9
  go_wp2_with fail
  rw [← HV9.out]
  refine Calls.mono HD1.out ?_
  rintro e w9 ⟨rfl, hy⟩
  have r9 := row_on HR9.out hy
  obtain ⟨x0, x1, x2, x3, x4, x5, x6, -⟩ := all7 r9
  have HX9x := Lib.hid (HX9.out.trans hy)
  have HDa := Lib.hid (ex_day2 (w := w9) (HE.out.ext HX9x.out))
  clear hy
  go_wp2_with fail
  refine Calls.mono HDa.out ?_
  rintro e w10 ⟨rfl, hy⟩
  have r10 := row_on r9 hy
  clear x0 x1 x2 x3 x4 x5 x6
  obtain ⟨x0, x1, x2, x3, x4, x5, x6, -⟩ := all7 r10
  have HX10x := Lib.hid (HX9x.out.trans hy)
  have HDb := Lib.hid (ex_day3 (w := w10) (HE.out.ext HX10x.out))
  clear hy
  go_wp2_with fail
  refine Calls.mono HDb.out ?_
  rintro e w11 ⟨rfl, hy⟩
  go_wp2_with fail
  go_ret
  exact ⟨rfl, HX10x.out.trans hy⟩
end Go.Proofs.YtkpfehfcgpapiaaGreatDoor

/-
  Chapter 51: what a row's list of variables gives: the faults of lines, the powers of ten.
  No condition.
-/
namespace Go.Proofs.YtkpfehfcgpapiaaGreatDoor
set_option linter.unusedVariables false
open Go.RowKit Go.ChangeShapes Go.WideShapes

abbrev laid51 : List (String × DataW Unit) := [("math/bits.deBruijn32tab", Rows.laid_math_bits_deBruijn32tab), ("math/bits.deBruijn64tab", Rows.laid_math_bits_deBruijn64tab), ("internal/strconv.uint64pow10", Rows.laid_internal_strconv_uint64pow10), ("unicode/utf8.acceptRanges", Rows.laid_unicode_utf8_acceptRanges), ("strconv.ErrRange", Rows.laid_strconv_ErrRange), ("strconv.ErrSyntax", Rows.laid_strconv_ErrSyntax), ("barscan/forms.errLine", Rows.laid_barscan_forms_errLine), ("barscan/forms.errRange", Rows.laid_barscan_forms_errRange), ("unicode/utf8.first", Rows.laid_unicode_utf8_first)]
theorem pow_data : (Rows.laid_internal_strconv_uint64pow10 : DataW Unit) = Lib.tabData .u64 Lib.pow10Tab := by kernel_rfl
theorem powG : Tryz.prog.globalNamed "internal/strconv.uint64pow10" = some 7 := by kernel_rfl
theorem pow_of {W : World} (h : laidMetH Tryz.prog laid51 W) : Pow W := by
  have h1 := laidMetH.filter (fun p => p.1 == "internal/strconv.uint64pow10") h
  have e : laid51.filter (fun p => p.1 == "internal/strconv.uint64pow10") = [("internal/strconv.uint64pow10", Lib.tabData .u64 Lib.pow10Tab)] := by
    rw [← pow_data]; rfl
  rw [e] at h1
  exact Lib.tabIs_of_head (rest := []) powG (t := 221) (e := 193) (n := 20) (by kernel_rfl) Tryz.underlying221 Tryz.underlying193 (by kernel_rfl) (by kernel_rfl) h1
theorem errStar : "*" ++ "errors.errorString" = "*errors.errorString" := by decide
theorem errRow (u : TypeId) (h : Tryz.prog.typeName? 3 u = some "*errors.errorString") : u = 225 :=
  typeName_ptr_named (nm := "errors.errorString") (by rw [errStar]; kernel_rfl) (by kernel_rfl) (by decide) u (by rw [errStar]; exact h)
theorem lineG : Tryz.prog.globalNamed "barscan/forms.errLine" = some 1 := by kernel_rfl
theorem rangeG : Tryz.prog.globalNamed "barscan/forms.errRange" = some 0 := by kernel_rfl
theorem errs_of {W : World} (h : laidMetH Tryz.prog laid51 W) : Errs W := by
  have h1 := laidMetH.filter (fun p => p.1 == "barscan/forms.errLine") h
  have h2 := laidMetH.filter (fun p => p.1 == "barscan/forms.errRange") h
  have e1 : laid51.filter (fun p => p.1 == "barscan/forms.errLine") = [("barscan/forms.errLine", Rows.laid_barscan_forms_errLine)] := by rfl
  have e2 : laid51.filter (fun p => p.1 == "barscan/forms.errRange") = [("barscan/forms.errRange", Rows.laid_barscan_forms_errRange)] := by rfl
  rw [e1] at h1
  rw [e2] at h2
  obtain ⟨a1, s1, hv1, _, _, _⟩ := laid_sentinel (ti := 73) (tp := 225) (te := 227) (ts := 9) (show laidMet Tryz.prog _ W from h1) lineG (by kernel_rfl) Tryz.underlying73 errRow Tryz.underlying225 Tryz.underlying227 rfl rfl Tryz.underlying9 (by kernel_rfl) (by kernel_rfl)
  obtain ⟨a2, s2, hv2, _, _, _⟩ := laid_sentinel (ti := 73) (tp := 225) (te := 227) (ts := 9) (show laidMet Tryz.prog _ W from h2) rangeG (by kernel_rfl) Tryz.underlying73 errRow Tryz.underlying225 Tryz.underlying227 rfl rfl Tryz.underlying9 (by kernel_rfl) (by kernel_rfl)
  exact ⟨⟨_, a1, by simpa using World.var?_cell lineG hv1 0⟩, ⟨_, a2, by simpa using World.var?_cell rangeG hv2 0⟩⟩
end Go.Proofs.YtkpfehfcgpapiaaGreatDoor

/-
  Chapter 51: arguments that came in: a form, a field, a slice of strings.
  No condition.
-/
namespace Go.Proofs.YtkpfehfcgpapiaaGreatDoor
set_option linter.unusedVariables false
open Go.Joins Go.ChangeShapes Go.WideShapes Go.RowKit Go.Deep

set_option maxRecDepth 100000 in
theorem open_strs {H : Type} {enc : TypeId × Value → H} {w : World} {base b0 : Nat} {held : Bool} {v : Value} {d : DataW H} {p : List MemPlace}
    (hv : Value.okWide Tryz.prog w .any b0 37 v) (h : DataW.Trod enc Tryz.prog w base (fun _ => true) held 37 v d p) :
    ∃ (a : Option Addr) (n c : Nat) (l : List Fm.S), v = .slice a n c ∧ StrsR w (.slice a n c) l ∧ Short maxLen l ∧ l.length ≤ maxLen := by
  obtain ⟨a, n, c, rfl⟩ := okWide_slice Tryz.underlying37 hv
  obtain ⟨fuel, hf⟩ := h
  obtain ⟨l, h1, h2, h3, h4, h5, h6⟩ := strs_came Tryz.underlying37 Tryz.underlying9 (by kernel_rfl) enc1 enc1_mk enc1_len (show DataW.trod enc Tryz.prog w base (fun _ => true) held fuel 37 [.slice a n c] = _ from hf)
  exact ⟨a, n, c, l, rfl, ⟨h3, a, c, by rw [h1], by rw [h1]; exact h5⟩, h2, by rw [h1]; exact h4⟩
set_option maxRecDepth 100000 in
theorem open_field {H : Type} {enc : TypeId × Value → H} {w : World} {base b0 : Nat} {held : Bool} {v : Value} {d : DataW H} {p : List MemPlace}
    (hv : Value.okWide Tryz.prog w .any b0 39 v) (h : DataW.Trod enc Tryz.prog w base (fun _ => true) held 39 v d p) :
    ∃ (X : ByteArray) (op mn mx ck : Int) (a : Option Addr) (n c : Nat) (opt : Bool) (l : List Fm.S), v = .agg #[.string X, .int .i64 op, .int .i64 mn, .int .i64 mx, .int .i64 ck, .slice a n c, .bool opt] ∧ StrsR w (.slice a n c) l ∧ FldB ⟨X.data.toList, op, mn, mx, ck, l, opt⟩ := by
  obtain ⟨cs, rfl, hsz⟩ := okWide_struct Tryz.underlying39 hv
  obtain ⟨l⟩ := cs
  match l, hsz.trans (show Tryz.prog.cellsOf 39 = 7 by kernel_rfl) with
  | [c0, c1, c2, c3, c4, c5, c6], _ =>
    obtain ⟨fuel, hf⟩ := h
    obtain ⟨⟨f, la, ln, lc⟩, he, hb, hs, _⟩ := fld_cells (s := 9) (i := 3) (l := 37) (b := 4) Tryz.underlying39 (by kernel_rfl) Tryz.underlying9 Tryz.underlying35 Tryz.underlying3 Tryz.underlying3 Tryz.underlying36 Tryz.underlying37 Tryz.underlying9 (by kernel_rfl) Tryz.underlying4 (show DataW.trod enc Tryz.prog w base (fun _ => true) held fuel 39 [c0, c1, c2, c3, c4, c5, c6] = _ from hf)
    obtain ⟨nm, op, mn, mx, ck, chs, opt⟩ := f
    refine ⟨⟨nm.toArray⟩, op, mn, mx, ck, la, ln, lc, opt, chs, ?_, hs, hb⟩
    rw [he]
    rfl
set_option maxRecDepth 100000 in
theorem open_form {H : Type} {enc : TypeId × Value → H} {w : World} {base b0 : Nat} {held : Bool} {v : Value} {d : DataW H} {p : List MemPlace}
    (hv : Value.okWide Tryz.prog w .any b0 25 v) (h : DataW.Trod enc Tryz.prog w base (fun _ => true) held 25 v d p) :
    ∃ (NM : ByteArray) (a : Option Addr) (n c : Nat) (a2 : Option Addr) (n2 c2 : Nat) (fs : List Fm.Fld) (ss : List Fm.Sm), v = .agg #[.string NM, .slice a n c, .slice a2 n2 c2] ∧ FldsR w (.slice a n c) fs ∧ SumsR w (.slice a2 n2 c2) ss ∧ (∀ f ∈ fs, FldB f) ∧ (∀ r ∈ ss, SmB r) ∧ NM.size ≤ maxLen ∧ n ≤ maxLen ∧ n2 ≤ maxLen := by
  obtain ⟨c0, c1, c2, y0, y1, y2, n, rfl, _, _, h0, h1, h2⟩ := open_agg3 Tryz.underlying25 (by kernel_rfl) (by kernel_rfl) hv h
  obtain ⟨NM, e0, _, z0⟩ := DataW.trod_string Tryz.underlying9 h0
  simp only [List.cons.injEq, and_true] at e0
  subst e0
  obtain ⟨a1, l1, q1, rfl⟩ := slice_shape Tryz.underlying22 h1
  obtain ⟨a2, l2, q2, rfl⟩ := slice_shape Tryz.underlying23 h2
  obtain ⟨fs, f1, f2, f3, f4, f5⟩ := flds_came Tryz.underlying22 Tryz.underlying39 (by kernel_rfl) (by kernel_rfl) Tryz.underlying9 Tryz.underlying35 Tryz.underlying3 Tryz.underlying3 Tryz.underlying36 Tryz.underlying37 Tryz.underlying9 (by kernel_rfl) Tryz.underlying4 h1
  obtain ⟨ss, s1, s2, s3, s4, s5⟩ := sums_came Tryz.underlying23 Tryz.underlying56 (by kernel_rfl) (by kernel_rfl) Tryz.underlying9 Tryz.underlying37 Tryz.underlying9 (by kernel_rfl) h2
  exact ⟨NM, a1, l1, q1, a2, l2, q2, fs, ss, rfl, f3, s3, f2, s2, z0, f4, s4⟩
end Go.Proofs.YtkpfehfcgpapiaaGreatDoor
