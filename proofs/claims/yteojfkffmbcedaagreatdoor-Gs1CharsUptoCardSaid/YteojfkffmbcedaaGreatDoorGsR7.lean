/-
  Chapter 14: the reference's index, all and Format, walked.
  Condition: at most a thousand million elements.
-/
import Derived.Test.YteojfkffmbcedaaGreatDoorGsR6
import Derived.Test.YteojfkffmbcedaaGreatDoorGsWA
namespace Go.Proofs.YteojfkffmbcedaaGreatDoor
set_option linter.unusedVariables false
open Go.RowKit

theorem upto_cons (c b : UInt8) (l : List UInt8) : Gs.upto c (b :: l) = if b = c then [] else b :: Gs.upto c l := rfl


set_option maxRecDepth 100000 in
set_option maxHeartbeats 2000000 in
theorem rall_any (v : Value) (xs : List Gs.El) (w : World) (hl : ESl w v xs) (hn : xs.length ≤ 1000000000000) (hs : ∀ x ∈ xs, x.1.length ≤ maxLen ∧ x.2.length ≤ maxLen) :
    Calls Tryz.prog 12 #[v] w fun e w' => e = .returned (.int .i64 (Gs.verAll xs)) ∧ Ext w w' := by
  obtain ⟨a, c, rfl⟩ := hl.form
  have HV := Lib.hid (fun (w' : World) (ai d : ByteArray) (h1 : ai.size ≤ maxLen) (h2 : d.size ≤ maxLen) => rVerify_any ai d h1 h2 w')
  have HL := Lib.hid hl
  have HS := Lib.hid hs
  have HR := Lib.hid (Gs.verAll.eq_1 xs)
  generalize Gs.verAll xs = res at *
  clear hl hs
  by_cases h0 : xs = []
  · subst h0
    rw [if_pos rfl] at HR
    clear HV HL HS
    go_enter Tryz.func12, Tryz.ntmps12
    go_wp2
    go_ret
    exact ⟨ret_int HR.out.symm, Ext.refl _⟩
  · rw [if_neg h0] at HR
    obtain ⟨N, hN⟩ : ∃ N, xs.length = N := ⟨_, rfl⟩
    have hN0 : 0 < N := by rw [← hN]; exact List.length_pos_iff.2 h0
    have hN1 : ((N : Int) == 0) = false := by rw [beq_eq_false_iff_ne]; omega
    have HN := Lib.hid hN
    rw [hN] at hn HL ⊢
    clear h0 hN
    go_enter Tryz.func12, Tryz.ntmps12
    go_wp2
    go_loopw [3] (fun t wr => ∃ k : Nat, k ≤ N ∧ t = .int .i64 (k : Int) ∧ Hid (res = Gs.verL (xs.drop k)) ∧ Ext w wr) (fun t _ => N - (intOf t).toNat)
    case atStart => exact ⟨0, Nat.zero_le _, rfl, HR, Ext.refl w⟩
    case round =>
      obtain ⟨k, hk, rfl, hv, hx⟩ := hrel
      by_cases hlt : k < N
      · obtain ⟨x, hxk⟩ : ∃ x, xs[k]? = some x := ⟨_, List.getElem?_eq_getElem (by rw [HN.out]; exact hlt)⟩
        obtain ⟨bb, off, ha, hb, q0, q1⟩ := HL.out.at_ hxk
        subst ha
        have d0 := (hx.cell (p := ⟨bb, off + k * 2, none⟩) hb).trans q0
        have d1 := (hx.cell (p := ⟨bb, off + k * 2 + 1, none⟩) hb).trans q1
        have hdr : xs.drop k = x :: xs.drop (k + 1) := by
          obtain ⟨h1, h2⟩ := List.getElem?_eq_some_iff.1 hxk
          rw [List.drop_eq_getElem_cons h1, h2]
        have HV1 := Lib.hid (hv.out.trans (by rw [hdr, Gs.verL]))
        obtain ⟨s1, s2⟩ := HS.out x (List.mem_of_getElem? hxk)
        obtain ⟨xa, xd⟩ := x
        unfold encS at d0 d1
        dsimp only at d0 d1 s1 s2 HV1
        have HB : Hid ((⟨xa.toArray⟩ : ByteArray).data.toList = xa ∧ (⟨xd.toArray⟩ : ByteArray).data.toList = xd ∧ (⟨xa.toArray⟩ : ByteArray).size ≤ maxLen ∧ (⟨xd.toArray⟩ : ByteArray).size ≤ maxLen) := Lib.hid (by simp [ByteArray.size]; exact ⟨s1, s2⟩)
        generalize (⟨xa.toArray⟩ : ByteArray) = A at *
        generalize (⟨xd.toArray⟩ : ByteArray) = D at *
        clear hxk q0 q1 hdr s1 s2 hv
        go_wp2_with fail
        obtain ⟨b1, b2, b3, b4⟩ := HB.out
        have H1 := Lib.hid (HV.out wr A D b3 b4)
        rw [b1, b2] at H1
        clear b1 b2 b3 b4
        by_cases hz : Gs.ver xa xd = 0
        · rw [if_pos hz] at HV1
          rw [hz] at H1
          clear hz
          refine H1.out.mono ?_
          rintro e w1 ⟨rfl, hx1⟩
          clear d0 d1
          go_wp2
          go_roundw
          case rel => exact ⟨k + 1, by omega, by go_num, HV1, hx.trans hx1⟩
          case measure => simp [intOf]; omega
        · rw [if_neg hz] at HV1
          obtain ⟨z, hzz⟩ : ∃ z, Gs.ver xa xd = z := ⟨_, rfl⟩
          rw [hzz] at H1 HV1 hz
          have hz1 : (z == 0) = false := by simpa using hz
          clear hzz
          refine H1.out.mono ?_
          rintro e w1 ⟨rfl, hx1⟩
          clear d0 d1
          go_wp2
          go_ret
          exact ⟨ret_int HV1.out.symm, hx.trans hx1⟩
      · obtain rfl : k = N := by omega
        have HV1 : Hid (res = 0) := Lib.hid (by rw [hv.out, ← HN.out, List.drop_length]; rfl)
        clear hk hlt hv
        go_wp2
        go_ret
        exact ⟨ret_int HV1.out.symm, hx⟩

theorem flat_take_le (xs : List Gs.El) (k : Nat) : ((xs.take k).flatMap Gs.fmtE).length ≤ (xs.flatMap Gs.fmtE).length := by
  have : xs.flatMap Gs.fmtE = (xs.take k).flatMap Gs.fmtE ++ (xs.drop k).flatMap Gs.fmtE := by rw [← List.flatMap_append, List.take_append_drop]
  rw [this, List.length_append]; omega

end Go.Proofs.YteojfkffmbcedaaGreatDoor
