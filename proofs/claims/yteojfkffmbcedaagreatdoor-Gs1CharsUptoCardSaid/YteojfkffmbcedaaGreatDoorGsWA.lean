/-
  Chapter 14: Format, walked.
  Condition: the table of white space reads as it is laid; at most a thousand million elements.
-/
import Derived.Test.YteojfkffmbcedaaGreatDoorGsW9
import Derived.Test.YteojfkffmbcedaaGreatDoorBld
namespace Go.Proofs.YteojfkffmbcedaaGreatDoor
set_option linter.unusedVariables false
open Go.RowKit Go.WideMaps Go.Maps

/-- A string and a code. -/
def StrR (r : List UInt8 × Int) (w : World) (e : Ending) (w' : World) : Prop := e = .returned (.tuple #[encS r.1, .int .i64 r.2]) ∧ Ext w w'
theorem verL_mem {xs : List Gs.El} (h : Gs.verL xs = 0) : ∀ x ∈ xs, Gs.ver x.1 x.2 = 0 := by
  induction xs with
  | nil => intro x hx; simp at hx
  | cons y ys ih =>
    intro x hx
    unfold Gs.verL at h
    split at h
    · rename_i h0
      rcases List.mem_cons.1 hx with rfl | hx
      · exact h0
      · exact ih h x hx
    · rename_i h0; exact absurd h h0
theorem ver_sizes {a d : List UInt8} (h : Gs.ver a d = 0) : a.length ≤ 4 ∧ d.length ≤ 90 := by
  obtain ⟨r, h1, h2⟩ := ver_find h
  have h3 := (ai_ok h1).2.1
  have h4 := verR_parts h2
  have h5 := find_ok h1
  unfold Gs.RuleOk at h5
  omega
theorem flat_len (xs : List Gs.El) (h : ∀ x ∈ xs, Gs.ver x.1 x.2 = 0) : (xs.flatMap Gs.fmtE).length ≤ 96 * xs.length := by
  induction xs with
  | nil => simp
  | cons x xs ih =>
    have h1 := ver_sizes (h x (List.mem_cons_self ..))
    have h2 := ih (fun y hy => h y (List.mem_cons_of_mem _ hy))
    simp only [List.flatMap_cons, List.length_append, List.length_cons, Gs.fmtE]
    omega
theorem verAll_zero {xs : List Gs.El} (h : Gs.verAll xs = 0) : Gs.verL xs = 0 := by
  unfold Gs.verAll at h
  split at h
  · simp at h
  · exact h
theorem take_snocL {α : Type} {xs : List α} {k : Nat} {x : α} (h : xs[k]? = some x) : xs.take (k + 1) = xs.take k ++ [x] := by
  rw [List.take_add_one, h]; rfl

set_option maxRecDepth 100000 in
set_option maxHeartbeats 4000000 in
theorem format_any (v : Value) (xs : List Gs.El) (w : World) (hl : ESl w v xs) (hn : xs.length ≤ 1000000000) (hs : ∀ x ∈ xs, x.1.length ≤ maxLen ∧ x.2.length ≤ maxLen) (ht : Spaces w) :
    Calls Tryz.prog 16 #[v] w (StrR (Gs.format xs) w) := by
  obtain ⟨a, c, rfl⟩ := hl.form
  have HI := Lib.hid (identifiers_any w ht)
  have HL := Lib.hid hl
  have HVA := Lib.hid (fun (w' : World) (b : Nat) (hd : Dir w' b) (hx : Ext w w') => verifyAll_any _ xs b w' hd (hl.ext hx) (by omega) hs)
  have HR := Lib.hid (Gs.format.eq_1 xs)
  have HVM : Hid (Gs.verAll xs = 0 → ∀ x ∈ xs, Gs.ver x.1 x.2 = 0) := Lib.hid (fun h => verL_mem (verAll_zero h))
  generalize Gs.format xs = res at *
  obtain ⟨N, hN⟩ : ∃ N, xs.length = N := ⟨_, rfl⟩
  have HN := Lib.hid hN
  rw [hN] at hn HL HVA ⊢
  clear hl hs ht hN
  by_cases hz : Gs.verAll xs = 0
  · have HVM := Lib.hid (HVM.out hz)
    rw [hz] at HVA
    rw [hz, if_neg (by simp)] at HR
    clear hz
    go_enter Tryz.func16, Tryz.ntmps16
    go_wp2_with fail
    refine HI.out.mono ?_
    rintro e W ⟨b, rfl, hd, hb, hxW⟩
    have H1 := Lib.hid (HVA.out W b hd hxW)
    clear hd HVA HI
    go_wp2_with fail
    refine H1.out.mono ?_
    rintro e V ⟨rfl, hxV⟩
    have hxw := hxW.trans hxV
    clear hxW hxV H1
    go_wp2
    go_loopw [16] (fun t wr => ∃ k : Nat, k ≤ N ∧ t = .int .i64 (k : Int) ∧ Lib.IsBuilder 63 5 V.heap.size V.heap.size (Lib.byteCells ((xs.take k).flatMap Gs.fmtE)) wr ∧ Ext V wr) (fun t _ => N - (intOf t).toNat)
    case atStart => exact ⟨0, Nat.zero_le _, rfl, Lib.fresh_isBuilder _ _ V, (by repeat (first | exact Ext.refl _ | assumption | refine Ext.alloc ?_ _ | refine Ext.drew ?_ | refine Ext.trans ?_ (by assumption)))⟩
    case round =>
      obtain ⟨k, hk, rfl, hbl, hx⟩ := hrel
      have hfl := flat_len (xs.take k) (fun x hx => HVM.out x (List.mem_of_mem_take hx))
      have htl : (xs.take k).length ≤ k := List.length_take_le _ _
      by_cases hlt : k < N
      · obtain ⟨x, hxk⟩ : ∃ x, xs[k]? = some x := ⟨_, List.getElem?_eq_getElem (by rw [HN.out]; exact hlt)⟩
        obtain ⟨bb, off, ha, hb', q0, q1⟩ := HL.out.at_ hxk
        subst ha
        have hxx := hxw.trans hx
        have d0 := (hxx.cell (p := ⟨bb, off + k * 2, none⟩) hb').trans q0
        have d1 := (hxx.cell (p := ⟨bb, off + k * 2 + 1, none⟩) hb').trans q1
        have HTS : Hid ((xs.take (k + 1)).flatMap Gs.fmtE = (xs.take k).flatMap Gs.fmtE ++ Gs.fmtE x) := Lib.hid (by rw [take_snocL hxk, List.flatMap_append]; simp)
        have hvs := ver_sizes (HVM.out x (List.mem_of_getElem? hxk))
        obtain ⟨xa, xd⟩ := x
        unfold encS at d0 d1
        dsimp only at d0 d1 hvs
        have HB : Hid ((⟨xa.toArray⟩ : ByteArray).data.toList = xa ∧ (⟨xd.toArray⟩ : ByteArray).data.toList = xd) := Lib.hid ⟨rfl, rfl⟩
        generalize (⟨xa.toArray⟩ : ByteArray) = A at *
        generalize (⟨xd.toArray⟩ : ByteArray) = D at *
        have hAs : A.size ≤ 4 := by rw [← len_data, HB.out.1]; exact hvs.1
        have hDs : D.size ≤ 90 := by rw [← len_data, HB.out.2]; exact hvs.2
        obtain ⟨got, hgot⟩ : ∃ got, (xs.take k).flatMap Gs.fmtE = got := ⟨_, rfl⟩
        rw [hgot] at hbl hfl HTS
        have hgl : (Lib.byteCells got).length ≤ 96 * N := by rw [Lib.byteCells, List.length_map]; omega
        obtain ⟨R, hR⟩ : ∃ R : ByteArray, R = (⟨#[40]⟩ ++ A ++ ⟨#[41]⟩ ++ D : ByteArray) := ⟨_, rfl⟩
        have HRL : Hid (R.data.toList = Gs.fmtE (xa, xd)) := Lib.hid (by
          obtain ⟨b1, b2⟩ := HB.out
          rw [hR, ← b1, ← b2]
          simp [Gs.fmtE, ByteArray.data_append])
        have hRs : R.size ≤ 96 := by
          rw [← len_data, HRL.out]
          simp only [Gs.fmtE, List.length_append, List.length_cons]
          omega
        have HW := Lib.hid (fun (w' : World) (hw : Ext V w') (hbl : Lib.IsBuilder 63 5 V.heap.size V.heap.size (Lib.byteCells got) w') => writeString_any V.heap.size V.heap.size _ R w' hbl (by omega) hw.size)
        rw [hR] at HW
        have HRE := Lib.hid hR
        clear hgot hxk q0 q1 hR hfl htl hgl hRs hvs
        go_wp2_with fail
        have H1 := Lib.hid (HW.out _ (hx.alloc (.cells #[.string A, .string D] 35)) (bld_ext hbl ((Ext.refl wr).alloc _)))
        refine H1.out.mono ?_
        rintro e w2 ⟨rfl, hbl2, hb2⟩
        rw [← HRE.out] at hbl2
        have hx2 : Ext V w2 := Below.trans (hx.alloc _) hb2
        have HBL : Hid (Lib.IsBuilder 63 5 V.heap.size V.heap.size (Lib.byteCells (got ++ Gs.fmtE (xa, xd))) w2) := Lib.hid (by
          have e1 : Lib.byteCells (got ++ Gs.fmtE (xa, xd)) = Lib.byteCells got ++ Lib.strCells R := by rw [← HRL.out]; simp [Lib.byteCells, Lib.strCells]
          rw [e1]; exact hbl2)
        clear hbl hbl2 hb2 d0 d1 hxx
        go_wp2
        go_roundw
        case rel => exact ⟨k + 1, by omega, by go_num, by rw [HTS.out]; exact HBL.out, hx2⟩
        case measure => simp [intOf]; omega
      · obtain rfl : k = N := by omega
        rw [List.take_of_length_le (by rw [HN.out]; exact Nat.le_refl _)] at hbl hfl
        clear hk hlt htl
        generalize xs.flatMap Gs.fmtE = got at *
        have HLEN := Lib.hid (Tryz.Builder_Len V.heap.size V.heap.size (Lib.byteCells got) wr hbl)
        have HSTR := Lib.hid (Tryz.Builder_String_any V.heap.size V.heap.size got wr hbl hx.size)
        have e1 : (Lib.byteCells got).length = got.length := by rw [Lib.byteCells, List.length_map]
        rw [e1] at HLEN
        rw [HN.out] at hfl
        clear e1 hbl
        by_cases hlg : 4096 < got.length
        · rw [if_pos hlg] at HR
          go_wp2_with fail
          refine HLEN.out.mono ?_
          rintro e w1 ⟨rfl, rfl⟩
          go_wp2
          go_ret2
          exact ⟨by rw [HR.out]; rfl, hxw.trans hx⟩
        · rw [if_neg hlg] at HR
          have hl2 : got.length ≤ 4096 := by omega
          clear hlg
          go_wp2_with fail
          refine HLEN.out.mono ?_
          rintro e w1 ⟨rfl, rfl⟩
          go_wp2_with fail
          refine HSTR.out.mono ?_
          rintro e w1 ⟨rfl, hb1⟩
          go_wp2
          go_ret2
          exact ⟨by rw [HR.out]; rfl, hxw.trans (Below.trans hx hb1)⟩
  · rw [if_pos hz] at HR
    obtain ⟨z, hzz⟩ : ∃ z, Gs.verAll xs = z := ⟨_, rfl⟩
    rw [hzz] at HVA HR hz
    have hz1 : (z == 0) = false := by simpa using hz
    clear hzz HVM
    go_enter Tryz.func16, Tryz.ntmps16
    go_wp2_with fail
    refine HI.out.mono ?_
    rintro e W ⟨b, rfl, hd, hb, hxW⟩
    have H1 := Lib.hid (HVA.out W b hd hxW)
    clear hd HVA HI
    go_wp2_with fail
    refine H1.out.mono ?_
    rintro e V ⟨rfl, hxV⟩
    go_wp2
    go_ret2
    exact ⟨by rw [HR.out]; rfl, hxW.trans hxV⟩
end Go.Proofs.YteojfkffmbcedaaGreatDoor
