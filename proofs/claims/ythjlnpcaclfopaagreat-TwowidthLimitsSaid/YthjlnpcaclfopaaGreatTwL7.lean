/-
  Chapter 12: the law TwowidthLimits, walked.
  No condition.
-/
import Derived.Test.YthjlnpcaclfopaaGreatTwL7a
namespace Go.Proofs.YthjlnpcaclfopaaGreat
open Go.RowKit

set_option maxRecDepth 100000 in
set_option maxHeartbeats 4000000 in
theorem law_limits (n : Int) (check shift : Bool) (w : World) (hn : 0 ≤ n ∧ n ≤ 255) :
    Calls Tryz.prog 5 #[.int .u8 n, .bool check, .bool shift] w fun e w' => e = .returned (.bool true) ∧ Ext w w' := by
  obtain ⟨hn0, hn1⟩ := hn
  obtain ⟨z, hz⟩ : ∃ z : Nat, 996 + n % 10 = (z : Int) := ⟨(996 + n % 10).toNat, by omega⟩
  have hz0 : 996 ≤ z := by omega
  have hz1 : z ≤ 1005 := by omega
  obtain ⟨q, hq⟩ : ∃ q : Nat, z / 2 = q := ⟨_, rfl⟩
  have hqi : (z : Int) / 2 = (q : Int) := by omega
  have hq1 : q ≤ 503 := by omega
  have HR7 := Lib.hid (fun w => repeated_any 55 z w (by omega))
  have HRa := Lib.hid (fun w => repeated_any 97 q w (by omega))
  have HT := Lib.hid (repS_list 55 z)
  have hsz := repS_size 55 z
  have hsa := repS_size 97 q
  have HE5 := Lib.hid (fun w => encode_any 5 (repS 55 z) 2 check ⟨#[]⟩ w (by omega))
  have HE7 := Lib.hid (fun w => encode_any 7 (repS 55 z) 2 check ⟨#[]⟩ w (by omega))
  have HG7 := Lib.hid (fun w => rencode_any 7 (repS 55 z) 2 check ⟨#[]⟩ w (by omega))
  have HFA : ∀ A : ByteArray, A.size ≤ 1005 → Hid (∃ (B : ByteArray) (x : Int), (∀ w, Calls Tryz.prog 14 #[.string A] w fun e w' => e = .returned (.tuple #[.string B, .int .i64 x]) ∧ Ext w w') ∧ ∀ w, Calls Tryz.prog 15 #[.string A] w fun e w' => e = .returned (.tuple #[.string B, .int .i64 x]) ∧ Ext w w') := by
    intro A hA
    have h1 := fun w => full_any A w (by omega)
    have h2 := fun w => rfull_any A w (by omega)
    generalize Tw.full A.data.toList = fa at *
    obtain ⟨fa1, fa2⟩ := fa
    obtain ⟨B, rfl⟩ : ∃ C : ByteArray, fa1 = C.data.toList := ⟨⟨fa1.toArray⟩, by simp⟩
    exact ⟨B, fa2, fun w => decR_at (h1 w), fun w => decR_at (h2 w)⟩
  rw [HT.out] at HE5
  generalize Tw.enc 7 (repS 55 z).data.toList 2 check = e7 at *
  obtain ⟨w7, x7⟩ := e7
  have b7 : (x7 != x7) = false := by simp
  clear hq
  obtain ⟨A, hAs, HSH⟩ : ∃ A : ByteArray, A.size ≤ 1005 ∧ Hid (A = if shift then repS 97 q else repS 55 z) := ⟨_, by split <;> omega, Lib.hid rfl⟩
  obtain ⟨B, x, H1, H2⟩ := (HFA A hAs).out
  replace H1 := Lib.hid H1
  replace H2 := Lib.hid H2
  have bx : (x != x) = false := by simp
  clear HFA
  by_cases hl : 1000 < z
  · rw [enc_long z check hl] at HE5
    cases shift
    · rw [if_neg Bool.noConfusion] at HSH
      rw [HSH.out] at H1 H2
      clear HSH
      generalize repS 55 z = R7 at *
      generalize repS 97 q = Ra at *
      go_enter Tryz.func5, Tryz.ntmps5
      go_wp2_with fail
      refine (HR7.out _).mono ?_
      rintro e w1 ⟨rfl, rfl⟩
      go_wp2_with fail
      refine (HE5.out _).mono ?_
      rintro e w2 ⟨v5, rfl, s5, x2⟩
      go_wp2_with fail
      refine (HE7.out _).mono ?_
      rintro e w3 ⟨v7, rfl, s7, x3⟩
      clear s7
      go_wp2_with fail
      refine (HG7.out _).mono ?_
      rintro e w4 ⟨v8, rfl, s8, x4⟩
      clear s8
      go_wp2_with fail
      refine (HRa.out _).mono ?_
      rintro e w5 ⟨rfl, rfl⟩
      go_wp2_with fail
      refine (H1.out _).mono ?_
      rintro e w6 ⟨rfl, x6⟩
      go_wp2_with fail
      refine (H2.out _).mono ?_
      rintro e w7 ⟨rfl, x7⟩
      have hxw := (((x2.trans x3).trans x4).trans x6).trans x7
      obtain ⟨a5, c5, rfl⟩ := s5.form
      simp only [List.map_nil, List.length_nil]
      clear s5
      go_wp2_with fail
      refine (example_any _).mono ?_
      rintro e w8 ⟨rfl, x8⟩
      go_wp2
      go_ret
      exact ⟨rfl, hxw.trans x8⟩
    · rw [if_pos rfl] at HSH
      rw [HSH.out] at H1 H2
      clear HSH
      generalize repS 55 z = R7 at *
      generalize repS 97 q = Ra at *
      go_enter Tryz.func5, Tryz.ntmps5
      go_wp2_with fail
      refine (HR7.out _).mono ?_
      rintro e w1 ⟨rfl, rfl⟩
      go_wp2_with fail
      refine (HE5.out _).mono ?_
      rintro e w2 ⟨v5, rfl, s5, x2⟩
      go_wp2_with fail
      refine (HE7.out _).mono ?_
      rintro e w3 ⟨v7, rfl, s7, x3⟩
      clear s7
      go_wp2_with fail
      refine (HG7.out _).mono ?_
      rintro e w4 ⟨v8, rfl, s8, x4⟩
      clear s8
      go_wp2_with fail
      refine (HRa.out _).mono ?_
      rintro e w5 ⟨rfl, rfl⟩
      go_wp2_with fail
      refine (H1.out _).mono ?_
      rintro e w6 ⟨rfl, x6⟩
      go_wp2_with fail
      refine (H2.out _).mono ?_
      rintro e w7 ⟨rfl, x7⟩
      have hxw := (((x2.trans x3).trans x4).trans x6).trans x7
      obtain ⟨a5, c5, rfl⟩ := s5.form
      simp only [List.map_nil, List.length_nil]
      clear s5
      go_wp2_with fail
      refine (example_any _).mono ?_
      rintro e w8 ⟨rfl, x8⟩
      go_wp2
      go_ret
      exact ⟨rfl, hxw.trans x8⟩
  · have hl' : z ≤ 1000 := by omega
    have h5 := enc_short z check (by omega) hl'
    have hbk := enc_back z check (by omega) hl'
    have hln := enc_len 5 (List.replicate z 55) 2 check
    rw [show Tw.enc 5 (List.replicate z 55) 2 check = ((Tw.enc 5 (List.replicate z 55) 2 check).1, 0) from Prod.ext rfl h5] at HE5
    generalize (Tw.enc 5 (List.replicate z 55) 2 check).1 = ws at *
    have HD := Lib.hid (fun w v hv => decode_any 5 v ws check w hv hln)
    rw [hbk, ← HT.out] at HD
    replace HD := Lib.hid (fun w v hv => decR_at (HD.out w v hv))
    clear h5 hbk
    cases shift
    · rw [if_neg Bool.noConfusion] at HSH
      rw [HSH.out] at H1 H2
      clear HSH
      generalize repS 55 z = R7 at *
      generalize repS 97 q = Ra at *
      go_enter Tryz.func5, Tryz.ntmps5
      go_wp2_with fail
      refine (HR7.out _).mono ?_
      rintro e w1 ⟨rfl, rfl⟩
      go_wp2_with fail
      refine (HE5.out _).mono ?_
      rintro e w2 ⟨v5, rfl, s5, x2⟩
      go_wp2_with fail
      refine (HE7.out _).mono ?_
      rintro e w3 ⟨v7, rfl, s7, x3⟩
      clear s7
      go_wp2_with fail
      refine (HG7.out _).mono ?_
      rintro e w4 ⟨v8, rfl, s8, x4⟩
      clear s8
      go_wp2_with fail
      refine (HRa.out _).mono ?_
      rintro e w5 ⟨rfl, rfl⟩
      go_wp2_with fail
      refine (H1.out _).mono ?_
      rintro e w6 ⟨rfl, x6⟩
      go_wp2_with fail
      refine (H2.out _).mono ?_
      rintro e w7 ⟨rfl, x7⟩
      have hxw := (((x2.trans x3).trans x4).trans x6).trans x7
      have hd := Lib.hid (HD.out w7 v5 ((((s5.ext x3).ext x4).ext x6).ext x7))
      clear s5
      go_wp2_with fail
      refine hd.out.mono ?_
      rintro e w8 ⟨rfl, x8⟩
      go_wp2_with fail
      refine (example_any _).mono ?_
      rintro e w9 ⟨rfl, x9⟩
      go_wp2
      go_ret
      exact ⟨rfl, (hxw.trans x8).trans x9⟩
    · rw [if_pos rfl] at HSH
      rw [HSH.out] at H1 H2
      clear HSH
      generalize repS 55 z = R7 at *
      generalize repS 97 q = Ra at *
      go_enter Tryz.func5, Tryz.ntmps5
      go_wp2_with fail
      refine (HR7.out _).mono ?_
      rintro e w1 ⟨rfl, rfl⟩
      go_wp2_with fail
      refine (HE5.out _).mono ?_
      rintro e w2 ⟨v5, rfl, s5, x2⟩
      go_wp2_with fail
      refine (HE7.out _).mono ?_
      rintro e w3 ⟨v7, rfl, s7, x3⟩
      clear s7
      go_wp2_with fail
      refine (HG7.out _).mono ?_
      rintro e w4 ⟨v8, rfl, s8, x4⟩
      clear s8
      go_wp2_with fail
      refine (HRa.out _).mono ?_
      rintro e w5 ⟨rfl, rfl⟩
      go_wp2_with fail
      refine (H1.out _).mono ?_
      rintro e w6 ⟨rfl, x6⟩
      go_wp2_with fail
      refine (H2.out _).mono ?_
      rintro e w7 ⟨rfl, x7⟩
      have hxw := (((x2.trans x3).trans x4).trans x6).trans x7
      have hd := Lib.hid (HD.out w7 v5 ((((s5.ext x3).ext x4).ext x6).ext x7))
      clear s5
      go_wp2_with fail
      refine hd.out.mono ?_
      rintro e w8 ⟨rfl, x8⟩
      go_wp2_with fail
      refine (example_any _).mono ?_
      rintro e w9 ⟨rfl, x9⟩
      go_wp2
      go_ret
      exact ⟨rfl, (hxw.trans x8).trans x9⟩
end Go.Proofs.YthjlnpcaclfopaaGreat
