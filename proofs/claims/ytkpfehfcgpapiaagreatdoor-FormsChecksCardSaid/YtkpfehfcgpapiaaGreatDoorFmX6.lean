/-
  Chapter 51: numbers and words in texts: the reference.
  No condition.
-/
import Derived.Test.YtkpfehfcgpapiaaGreatDoorFmXa
import Derived.Test.YtkpfehfcgpapiaaGreatDoorFmPa
import Derived.Test.YtkpfehfcgpapiaaGreatDoorFmLa
namespace Go.Proofs.YtkpfehfcgpapiaaGreatDoor
set_option linter.unusedVariables false
open Go.RowKit

theorem conv_1 (w : World) (a : UInt8) (za : Int) (ha : (a.toNat : Int) = za) : (convert 34 9 (.slice (some ⟨w.heap.size, 0, none⟩) 1 1)).run Tryz.prog (w.alloc (.cells #[.int .u8 za] 5)) = .ok (.string ⟨#[a]⟩) (w.alloc (.cells #[.int .u8 za] 5)) := by
  subst ha
  have h := run_convert_bytes_back (P := Tryz.prog) (w.alloc (.cells #[.int .u8 (a.toNat : Int)] 5)) 34 9 5 ⟨w.heap.size, 0, none⟩ 1 [a] Tryz.underlying34 Tryz.underlying5 Tryz.underlying9 (fun j hj => by
    have e : j = 0 := by simpa using hj
    subst e
    simp [go_sem, Addr.add])
  exact h
set_option maxRecDepth 100000 in
set_option maxHeartbeats 1000000 in
theorem xdecimal_nat (u : Nat) (hu : u ≤ 1000000000000000) (w : World) : Calls Tryz.prog 39 #[.int .i64 (u : Int)] w fun e w' => e = .returned (.string ⟨(Lib.decDigits u).toArray⟩) ∧ Ext w w' := by
  have HL := Lib.hid (Fm.dec_small u hu)
  obtain ⟨D, hD⟩ : ∃ D, D = Lib.decDigits u := ⟨_, rfl⟩
  have hf := Fm.preD_first u
  rw [← hD] at hf HL ⊢
  obtain ⟨A, hA⟩ : ∃ A, A = UInt8.ofNat (48 + u % 10) := ⟨_, rfl⟩
  have hcv := conv_1 w A (48 + (u : Int) % 10) (by rw [hA, UInt8.toNat_ofNat']; omega)
  rw [← hA] at hf
  have HF := Lib.hid hf
  have h0 : (0 : Int) ≤ (u : Int) := by omega
  clear hD hf hA
  go_enter Tryz.func39, Tryz.ntmps39
  go_wp2_with fail
  go_loopw [0, 3] (fun n v wr => ∃ (m : Nat) (s : ByteArray), n = .int .i64 (m : Int) ∧ v = .string s ∧ m ≤ 1000000000000000 ∧ Hid (D = Fm.preD m ++ s.data.toList) ∧ s.size ≤ 16 ∧ Hid (Ext w wr)) (fun n _ _ => (intOf n).toNat)
  case atStart => exact ⟨u, ⟨#[A]⟩, rfl, rfl, hu, HF, (show 1 ≤ 16 by decide), Lib.hid (by repeat (first | exact Ext.refl _ | assumption | refine Ext.alloc ?_ _ | refine Ext.drew ?_ | refine Ext.trans ?_ (by assumption)))⟩
  case round =>
    obtain ⟨m, s, rfl, rfl, hm, HD, hs, HX⟩ := hrel
    clear hcv
    by_cases hlt : 10 ≤ m
    · have z : ¬ (m : Int) < 10 := by omega
      have z2 : (10 : Int) ≤ (m : Int) := by omega
      obtain ⟨q, hq⟩ : ∃ q : Nat, q = m / 10 := ⟨_, rfl⟩
      have hqI : (m : Int) / 10 = (q : Int) := by omega
      obtain ⟨B, hB⟩ : ∃ B, B = UInt8.ofNat (48 + q % 10) := ⟨_, rfl⟩
      have hcv := conv_1 wr B (48 + (q : Int) % 10) (by rw [hB, UInt8.toNat_ofNat']; omega)
      obtain ⟨T, hT⟩ : ∃ T : ByteArray, (⟨#[B]⟩ : ByteArray) ++ s = T := ⟨_, rfl⟩
      have hTl : T.data.toList = B :: s.data.toList := by rw [← hT]; simp
      have HD2 : Hid (D = Fm.preD q ++ T.data.toList) := Lib.hid (by rw [HD.out, Fm.preD_step m hlt, hTl, hB, hq])
      have hTs : T.size ≤ 16 := by
        have h1 := congrArg List.length HD2.out
        rw [List.length_append, len_data] at h1
        have h2 := HL.out
        omega
      have hxe := HX.out
      have HXN := Lib.hid (HX.out.alloc (.cells #[.int .u8 (48 + (q : Int) % 10)] 5))
      have hqm : q < m := by omega
      clear hTl hB hq hxe
      go_wp2_with fail
      go_roundw
      case rel => exact ⟨q, T, rfl, rfl, by omega, HD2, hTs, HXN⟩
      case measure => (simp [intOf]; try omega)
    · have z : ¬ (10 : Int) ≤ (m : Int) := by omega
      have hfin : s = ⟨D.toArray⟩ := bytes_ext (by rw [HD.out, Fm.preD_last m (by omega), List.nil_append])
      have HFIN := Lib.hid hfin
      have hxw := HX.out
      clear hfin
      go_wp2_with fail
      go_ret
      exact ⟨ret_string HFIN.out, hxw⟩
set_option maxRecDepth 100000 in
set_option maxHeartbeats 1000000 in
theorem xdecimal_any (n : Int) (h1 : -1000000000000000 ≤ n) (h2 : n ≤ 1000000000000000) (w : World) : Calls Tryz.prog 39 #[.int .i64 n] w fun e w' => e = .returned (.string ⟨(Lib.itoa n).toArray⟩) ∧ Ext w w' := by
  by_cases h0 : n < 0
  rotate_left
  · obtain ⟨u, rfl⟩ : ∃ u : Nat, n = (u : Int) := ⟨n.toNat, by omega⟩
    rw [Fm.itoa_pos]
    exact xdecimal_nat u (by omega) w
  obtain ⟨u, hu⟩ : ∃ u : Nat, n = -(u : Int) := ⟨(-n).toNat, by omega⟩
  have HC := Lib.hid (xdecimal_nat u (by omega) w)
  have hit : (⟨(Lib.itoa n).toArray⟩ : ByteArray) = ⟨#[45]⟩ ++ ⟨(Lib.decDigits u).toArray⟩ := bytes_ext (by rw [hu, Fm.itoa_neg u (by omega)]; simp)
  have hl := Fm.dec_small u (by omega)
  obtain ⟨D, hD⟩ : ∃ D : ByteArray, D = ⟨(Lib.decDigits u).toArray⟩ := ⟨_, rfl⟩
  have hDs : D.size ≤ 16 := by rw [hD]; exact hl
  rw [← hD] at hit HC
  have hneg : 0 - n = (u : Int) := by omega
  have hneg2 : -n = (u : Int) := by omega
  have HIT := Lib.hid hit
  clear hit hl hD hu
  go_enter Tryz.func39, Tryz.ntmps39
  go_wp2_with fail
  refine HC.out.mono ?_
  rintro e w1 ⟨rfl, hx1⟩
  go_wp2_with fail
  go_ret
  exact ⟨ret_string HIT.out.symm, hx1⟩
theorem spAll_bd (l : List Fm.S) (h : Short 100 l) : (Fm.spAll l).length ≤ 101 * l.length := by
  induction l with
  | nil => exact Nat.zero_le _
  | cons a l ih =>
    have h1 := h a (List.mem_cons_self ..)
    have h2 := ih (fun s hs => h s (List.mem_cons_of_mem _ hs))
    show (((32 :: a) ++ Fm.spAll l).length) ≤ _
    rw [List.length_append, List.length_cons, List.length_cons]
    omega
set_option maxRecDepth 100000 in
set_option maxHeartbeats 1000000 in
theorem xjoined_any (v : Value) (l : List Fm.S) (w : World) (hl : StrsR w v l) (hs : Short 100 l) (hn : l.length ≤ 1000) :
    Calls Tryz.prog 38 #[v] w fun e w' => e = .returned (.string ⟨(Fm.spAll l).toArray⟩) ∧ Ext w w' := by
  obtain ⟨a, c, rfl, hc⟩ := hl.form
  obtain ⟨N, hN⟩ : ∃ N, l.length = N := ⟨_, rfl⟩
  have HN := Lib.hid hN
  have HL := Lib.hid hl
  have HS := Lib.hid hs
  rw [hN] at hn HL ⊢
  clear hl hN hc hs
  go_enter Tryz.func38, Tryz.ntmps38
  go_wp2_with fail
  go_loopw [3, 4] (fun v t wr => ∃ (k : Nat) (s : ByteArray), k ≤ N ∧ t = .int .i64 (k : Int) ∧ v = .string s ∧ Hid (s.data.toList = Fm.spAll (l.take k)) ∧ s.size ≤ 101 * k ∧ Hid (Ext w wr)) (fun _ t _ => N - (intOf t).toNat)
  case atStart => exact ⟨0, ⟨#[]⟩, Nat.zero_le _, rfl, rfl, Lib.hid rfl, (show 0 ≤ 101 * 0 by decide), Lib.hid (Ext.refl _)⟩
  case round =>
    obtain ⟨k, s, hk, rfl, rfl, HV, hsz, HX⟩ := hrel
    by_cases hlt : k < N
    · obtain ⟨x, hxk⟩ : ∃ x, l[k]? = some x := ⟨_, List.getElem?_eq_getElem (by rw [HN.out]; exact hlt)⟩
      have hxs := HS.out x (List.mem_of_getElem? hxk)
      have hsn := snoc_take hxk
      obtain ⟨bb, off, X, ha, hb, rfl, d0⟩ := HL.out.here HX.out hxk
      subst ha
      rw [len_data] at hxs
      obtain ⟨T, hT⟩ : ∃ T : ByteArray, s ++ ⟨#[32]⟩ ++ X = T := ⟨_, rfl⟩
      have hTl : T.data.toList = Fm.spAll (l.take (k + 1)) := by rw [← hT, hsn, Fm.spAll_snoc, ← HV.out]; simp
      have hTs : T.size ≤ 101 * (k + 1) := by rw [← hT]; simp only [ByteArray.size_append]; show s.size + 1 + X.size ≤ _; omega
      have HTL := Lib.hid hTl
      have HTS := Lib.hid hTs
      have hkI : (k : Int) < (N : Int) := by omega
      have hc1 : ¬ 9223372036854775807 < s.size + 1 := by omega
      have hc2 : ¬ 9223372036854775807 < s.size + 1 + X.size := by omega
      clear hTl hTs hsn hxk
      go_wp2_with fail
      go_roundw
      case rel => exact ⟨k + 1, T, by omega, by go_num, rfl, HTL, HTS.out, HX⟩
      case measure => (simp [intOf]; try omega)
    · obtain rfl : k = N := by omega
      have hfin : s = ⟨(Fm.spAll l).toArray⟩ := bytes_ext (by rw [HV.out, List.take_of_length_le (by rw [HN.out]; exact Nat.le_refl _)])
      have HFIN := Lib.hid hfin
      have hxw := HX.out
      clear hfin
      go_wp2_with fail
      go_ret
      exact ⟨ret_string HFIN.out, hxw⟩
/-- The words of kinds and of systems, at new places. -/
def kindsL : List Fm.S := [[], Fm.kindNm 1, Fm.kindNm 2, Fm.kindNm 3, Fm.kindNm 4, Fm.kindNm 5]
def systemsL : List Fm.S := [[], Fm.sysNm 1, Fm.sysNm 2, Fm.sysNm 3, Fm.sysNm 4, Fm.sysNm 5, Fm.sysNm 6, Fm.sysNm 7, Fm.sysNm 8]
theorem list_row {w : World} {T : TypeId} {cs : Array Value} {l : List Fm.S} {n : Nat} (hcs : cs = (l.map strV).toArray) (hn : l.length = n) : StrsR (w.alloc (.cells cs T)) (.slice (some ⟨w.heap.size, 0, none⟩) n n) l := by
  subst hn hcs
  have h := heap_alloc_new w (.cells (l.map strV).toArray T)
  refine ⟨?_, _, _, rfl, Nat.le_refl _⟩
  by_cases h0 : l = []
  · subst h0; exact .inl ⟨rfl, _, _, rfl⟩
  refine .inr ⟨w.heap.size, 0, l.length, rfl, lt_at h, fun i x hi c hc => ?_⟩
  obtain rfl : c = 0 := by omega
  exact cell_at h (by simp [hi])
theorem xkinds_any (w : World) : Calls Tryz.prog 37 #[] w fun e w' => (e = .returned (.slice (some ⟨w.heap.size, 0, none⟩) 6 6) ∧ StrsR w' (.slice (some ⟨w.heap.size, 0, none⟩) 6 6) kindsL) ∧ Ext w w' := by
  go_enter Tryz.func37, Tryz.ntmps37
  go_wp2_with fail
  go_ret
  exact ⟨⟨rfl, list_row rfl rfl⟩, (by repeat (first | exact Ext.refl _ | assumption | refine Ext.alloc ?_ _ | refine Ext.drew ?_ | refine Ext.trans ?_ (by assumption)))⟩
theorem xsystems_any (w : World) : Calls Tryz.prog 40 #[] w fun e w' => (e = .returned (.slice (some ⟨w.heap.size, 0, none⟩) 9 9) ∧ StrsR w' (.slice (some ⟨w.heap.size, 0, none⟩) 9 9) systemsL) ∧ Ext w w' := by
  go_enter Tryz.func40, Tryz.ntmps40
  go_wp2_with fail
  go_ret
  exact ⟨⟨rfl, list_row rfl rfl⟩, (by repeat (first | exact Ext.refl _ | assumption | refine Ext.alloc ?_ _ | refine Ext.drew ?_ | refine Ext.trans ?_ (by assumption)))⟩
end Go.Proofs.YtkpfehfcgpapiaaGreatDoor
