/-
  Chapter 12: the law TwowidthEncodes, walked.
  Condition: the text is within the reach.
-/
import Derived.Test.YthjlnpcaclfopaaGreatTwRB
import Derived.Deep.RegionHeld3
namespace Go.Proofs.YthjlnpcaclfopaaGreat
open Go.RowKit

set_option maxHeartbeats 1000000 in
theorem options_of (kind : Int) (s : ByteArray) (r : Int) (check : Bool) (addon : ByteArray) (w : World) :
    Calls Tryz.prog 8 #[.agg #[.int .i64 kind, .string s, .int .i64 r, .bool check, .string addon]] w fun e w' => e = .returned (.agg #[.int .i64 r, .bool check, .string addon]) ∧ Ext w w' := by
  go_enter Tryz.func8, Tryz.ntmps8
  go_wp2
  refine bodyPost_ret_by (v := .agg #[.int .i64 r, .bool check, .string addon]) (by simp [results, Tryz.results8, go_sem]) rfl ⟨rfl, (by repeat (first | exact Ext.refl _ | assumption | refine Ext.alloc ?_ _ | refine Ext.drew ?_ | refine Ext.trans ?_ (by assumption)))⟩

theorem encK_len (k : Nat) (l : List UInt8) (r : Int) (check : Bool) : (Tw.encK k l r check).1.length ≤ 1000000 := by
  unfold Tw.encK
  repeat' split
  all_goals first | exact Nat.zero_le _ | skip
  rename_i h1 h2 h3 h4
  rw [widths_len]
  have a := drawK_len k (Tw.compK k l check).1
  have b := (compK_draw k l check (by omega) (Decidable.of_not_not h4)).1
  omega
theorem enc_len (kind : Int) (l : List UInt8) (r : Int) (check : Bool) : (Tw.enc kind l r check).1.length ≤ 1000000 := by
  unfold Tw.enc
  repeat' split
  all_goals first | exact encK_len _ _ _ _ | exact Nat.zero_le _

set_option maxRecDepth 100000 in
set_option maxHeartbeats 4000000 in
theorem law_encodes (kind : Int) (s : ByteArray) (r : Int) (check : Bool) (addon : ByteArray) (w : World) (hs : s.size ≤ 9223372036854775807) :
    Calls Tryz.prog 3 #[.agg #[.int .i64 kind, .string s, .int .i64 r, .bool check, .string addon]] w fun e w' => e = .returned (.bool true) ∧ Ext w w' := by
  by_cases hl : 60 < s.size
  · go_enter Tryz.func3, Tryz.ntmps3
    go_wp2_with fail
    refine (example_any _).mono ?_
    rintro e w3 ⟨rfl, hx3⟩
    go_wp2
    go_ret
    exact ⟨rfl, ((Ext.refl w).alloc _).trans hx3⟩
  · have hl' : s.size ≤ 60 := by omega
    have HE := Lib.hid (fun w => encode_any kind s r check addon w hs)
    have HR := Lib.hid (fun w => rencode_any kind s r check addon w hs)
    have HO := Lib.hid (fun w => options_of kind s r check addon w)
    have hen := enc_len kind s.data.toList r check
    generalize Tw.enc kind s.data.toList r check = en at *
    obtain ⟨e1, e2⟩ := en
    dsimp only at hen
    clear hl
    go_enter Tryz.func3, Tryz.ntmps3
    have FJ : Hid (∀ w', Ext (w.alloc (.cells #[.int .i64 kind, .string s, .int .i64 r, .bool check, .string addon] 23)) w' → (fun w' => w'.cell? ⟨w.heap.size, 0, none⟩ = some (.int .i64 kind) ∧ w'.cell? ⟨w.heap.size, 1, none⟩ = some (.string s) ∧ w'.cell? ⟨w.heap.size, 2, none⟩ = some (.int .i64 r) ∧ w'.cell? ⟨w.heap.size, 3, none⟩ = some (.bool check) ∧ w'.cell? ⟨w.heap.size, 4, none⟩ = some (.string addon)) w') := Lib.hid (fun w' hx => by
      refine ⟨?_, ?_, ?_, ?_, ?_⟩
      all_goals
        rw [hx.cell (by simp)]; simp [go_sem])
    go_wp2
    go_region_held3 (fun w' => w'.cell? ⟨w.heap.size, 0, none⟩ = some (.int .i64 kind) ∧ w'.cell? ⟨w.heap.size, 1, none⟩ = some (.string s) ∧ w'.cell? ⟨w.heap.size, 2, none⟩ = some (.int .i64 r) ∧ w'.cell? ⟨w.heap.size, 3, none⟩ = some (.bool check) ∧ w'.cell? ⟨w.heap.size, 4, none⟩ = some (.string addon)) (exact FJ.out _ (by repeat (first | exact Ext.refl _ | assumption | refine Ext.alloc ?_ _ | refine Ext.drew ?_ | refine Ext.trans ?_ (by assumption)))) (first
      | (go_at_call 8; refine (HO.out _).mono ?_; rintro e w1 ⟨rfl, hx1⟩)
      | (go_at_call 7; refine (HE.out _).mono ?_; rintro e w2 ⟨v, rfl, hsl, hx2⟩))
    all_goals
      have hx02 : Ext (w.alloc (.cells #[.int .i64 kind, .string s, .int .i64 r, .bool check, .string addon] 23)) w2 := Ext.trans (Ext.drew (Ext.refl _)) (Ext.trans hx1 hx2)
      clear hx1 hx2
      go_wp2
      go_region_held3 (fun w' => w'.cell? ⟨w.heap.size, 0, none⟩ = some (.int .i64 kind) ∧ w'.cell? ⟨w.heap.size, 1, none⟩ = some (.string s) ∧ w'.cell? ⟨w.heap.size, 2, none⟩ = some (.int .i64 r) ∧ w'.cell? ⟨w.heap.size, 3, none⟩ = some (.bool check) ∧ w'.cell? ⟨w.heap.size, 4, none⟩ = some (.string addon)) (exact FJ.out _ (by repeat (first | exact Ext.refl _ | assumption | refine Ext.alloc ?_ _ | refine Ext.drew ?_ | refine Ext.trans ?_ (by assumption)))) (first
        | (go_at_call 8; refine (HO.out _).mono ?_; rintro e w3 ⟨rfl, hx3⟩)
        | (go_at_call 9; refine (HR.out _).mono ?_; rintro e w4 ⟨v4, rfl, hsl4, hx4⟩))
      all_goals
        have hx24 : Ext w2 w4 := Ext.trans (Ext.drew (Ext.refl _)) (Ext.trans hx3 hx4)
        have HSM := Lib.hid (same_any _ _ e1 e1 w4 (hsl.ext hx24) hsl4 (by omega) (by omega))
        rw [decide_eq_true rfl] at HSM
        have hb : (e2 == e2) = true := beq_self_eq_true _
        clear hx3 hx4 hsl hsl4
        go_wp2_with fail
        refine HSM.out.mono ?_
        rintro e w5 ⟨rfl, hx5⟩
        go_wp2_with fail
        refine (example_any _).mono ?_
        rintro e w6 ⟨rfl, hx6⟩
        go_wp2
        go_ret
        exact ⟨rfl, (((((Ext.refl w).alloc _).trans hx02).trans hx24).trans hx5).trans hx6⟩
end Go.Proofs.YthjlnpcaclfopaaGreat
