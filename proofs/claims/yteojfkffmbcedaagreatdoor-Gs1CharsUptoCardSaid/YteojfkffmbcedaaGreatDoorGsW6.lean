/-
  Chapter 14: Fixed, Verify and prefix, walked.
  Condition: the table of white space reads as it is laid; or the map is the table of application identifiers.
-/
import Derived.Test.YteojfkffmbcedaaGreatDoorGsP
import Derived.Deep.RegionHeld3
namespace Go.Proofs.YteojfkffmbcedaaGreatDoor
open Go.RowKit Go.WideMaps Go.Maps

/-- What Fixed returns. -/
def Gs.fixF (l : List UInt8) : Int × Int × Int := match Gs.find l with
  | none => (0, 0, 29)
  | some r => (if Gs.isFix r then r.2.2.1 else 0, r.2.2.1, 0)

set_option maxRecDepth 100000 in
set_option maxHeartbeats 2000000 in
theorem Fixed_any (s : ByteArray) (hs : s.size ≤ maxLen) (w : World) (ht : Spaces w) :
    Calls Tryz.prog 18 #[.string s] w fun e w' => e = .returned (.tuple #[.int .i64 (Gs.fixF s.data.toList).1, .int .i64 (Gs.fixF s.data.toList).2.1, .int .i64 (Gs.fixF s.data.toList).2.2]) ∧ Ext w w' := by
  have HI := Lib.hid (identifiers_any w ht)
  have HF := Lib.hid (fun (w : World) (b : Nat) (hd : Dir w b) => find_any s b w hd hs)
  have HV := Lib.hid (Gs.fixF.eq_1 s.data.toList)
  generalize Gs.fixF s.data.toList = res at *
  obtain ⟨r1, r2, r3⟩ := res
  clear ht
  cases hg : Gs.find s.data.toList with
  | none =>
    rw [hg] at HV HF
    dsimp only at HV
    have HR : Hid (r1 = 0 ∧ r2 = 0 ∧ r3 = 29) := Lib.hid (by have := HV.out; simp only [Prod.mk.injEq] at this; exact this)
    clear hg HV
    go_enter Tryz.func18, Tryz.ntmps18
    go_wp2_with fail
    refine HI.out.mono ?_
    rintro e w1 ⟨b, rfl, hd, hb, hx1⟩
    have H2 := Lib.hid (HF.out w1 b hd)
    clear hd
    go_wp2_with fail
    refine H2.out.mono ?_
    rintro e w2 ⟨rfl, hx2⟩
    dsimp only [ruleO, ruleV, Option.isSome]
    go_wp2
    go_ret3
    obtain ⟨rfl, rfl, rfl⟩ := HR.out
    exact ⟨rfl, (by repeat (first | exact Ext.refl _ | assumption | refine Ext.alloc ?_ _ | refine Ext.drew ?_ | refine Ext.drewN ?_ _ | refine Ext.setCell ?_ (Nat.le_refl _) _ | refine Ext.trans ?_ (by assumption)))⟩
  | some r =>
    rw [hg] at HV HF
    dsimp only at HV
    clear hg
    cases hf : Gs.isFix r
    · rw [hf] at HV
      obtain ⟨k, lo, hi, sf⟩ := r
      have HR : Hid (r1 = 0 ∧ r2 = hi ∧ r3 = 0) := Lib.hid (by have := HV.out; simpa only [Prod.mk.injEq, Bool.false_eq_true, if_false] using this)
      have HX := Lib.hid (fun w => fixed_any (k, lo, hi, sf) w)
      have e0 : ((k, lo, hi, sf).2.1 == (k, lo, hi, sf).2.2.1) = false := hf
      rw [e0] at HX
      clear HV hf e0
      go_enter Tryz.func18, Tryz.ntmps18
      go_wp2_with fail
      refine HI.out.mono ?_
      rintro e w1 ⟨b, rfl, hd, hb, hx1⟩
      have H2 := Lib.hid (HF.out w1 b hd)
      clear hd
      go_wp2_with fail
      refine H2.out.mono ?_
      rintro e w2 ⟨rfl, hx2⟩
      dsimp only [ruleO, ruleV, Option.isSome]
      go_wp2_with fail
      refine (HX.out _).mono ?_
      rintro e w3 ⟨rfl, hx3⟩
      have c2 : w3.cell? ⟨w2.heap.size, 2, none⟩ = some (.int .i64 hi) := by rw [hx3.cell (p := ⟨w2.heap.size, 2, none⟩) (by simp)]; unfold World.cell?; rw [heap_alloc_new]; rfl
      go_wp2
      go_quiet (fail)
      go_wp2
      go_ret3
      obtain ⟨rfl, rfl, rfl⟩ := HR.out
      exact ⟨rfl, (by repeat (first | exact Ext.refl _ | assumption | refine Ext.alloc ?_ _ | refine Ext.drew ?_ | refine Ext.drewN ?_ _ | refine Ext.setCell ?_ (Nat.le_refl _) _ | refine Ext.trans ?_ (by assumption)))⟩
    · rw [hf] at HV
      obtain ⟨k, lo, hi, sf⟩ := r
      have HR : Hid (r1 = hi ∧ r2 = hi ∧ r3 = 0) := Lib.hid (by have := HV.out; simpa only [Prod.mk.injEq, if_true] using this)
      have HX := Lib.hid (fun w => fixed_any (k, lo, hi, sf) w)
      have e0 : ((k, lo, hi, sf).2.1 == (k, lo, hi, sf).2.2.1) = true := hf
      rw [e0] at HX
      clear HV hf e0
      go_enter Tryz.func18, Tryz.ntmps18
      go_wp2_with fail
      refine HI.out.mono ?_
      rintro e w1 ⟨b, rfl, hd, hb, hx1⟩
      have H2 := Lib.hid (HF.out w1 b hd)
      clear hd
      go_wp2_with fail
      refine H2.out.mono ?_
      rintro e w2 ⟨rfl, hx2⟩
      dsimp only [ruleO, ruleV, Option.isSome]
      go_wp2_with fail
      refine (HX.out _).mono ?_
      rintro e w3 ⟨rfl, hx3⟩
      have c2 : w3.cell? ⟨w2.heap.size, 2, none⟩ = some (.int .i64 hi) := by rw [hx3.cell (p := ⟨w2.heap.size, 2, none⟩) (by simp)]; unfold World.cell?; rw [heap_alloc_new]; rfl
      go_wp2
      go_quiet (fail)
      go_wp2
      go_ret3
      obtain ⟨rfl, rfl, rfl⟩ := HR.out
      exact ⟨rfl, (by repeat (first | exact Ext.refl _ | assumption | refine Ext.alloc ?_ _ | refine Ext.drew ?_ | refine Ext.drewN ?_ _ | refine Ext.setCell ?_ (Nat.le_refl _) _ | refine Ext.trans ?_ (by assumption)))⟩

set_option maxRecDepth 100000 in
set_option maxHeartbeats 2000000 in
theorem Verify_any (ai d : ByteArray) (ha : ai.size ≤ maxLen) (hs : d.size ≤ maxLen) (w : World) (ht : Spaces w) :
    Calls Tryz.prog 20 #[.agg #[.string ai, .string d]] w fun e w' => e = .returned (.int .i64 (Gs.ver ai.data.toList d.data.toList)) ∧ Ext w w' := by
  have HI := Lib.hid (fun w' (hx : Ext w w') => identifiers_any w' (tabIs_ext ht hx))
  have HV := Lib.hid (fun (w : World) (b : Nat) (hd : Dir w b) => verR_walk ai d b w hd ha hs)
  generalize Gs.ver ai.data.toList d.data.toList = res at *
  clear ht
  have FJ : Hid (∀ w', Ext (w.alloc (.cells #[.string ai, .string d] 35)) w' → (fun w' => w'.cell? ⟨w.heap.size, 0, none⟩ = some (.string ai) ∧ w'.cell? ⟨w.heap.size, 1, none⟩ = some (.string d)) w') := Lib.hid (fun w' hx => by
    refine ⟨?_, ?_⟩
    all_goals
      rw [hx.cell (by simp)]; simp [go_sem])
  go_enter Tryz.func20, Tryz.ntmps20
  go_wp2
  go_region_held3 (fun w' => w'.cell? ⟨w.heap.size, 0, none⟩ = some (.string ai) ∧ w'.cell? ⟨w.heap.size, 1, none⟩ = some (.string d)) (exact FJ.out _ (by repeat (first | exact Ext.refl _ | assumption | refine Ext.alloc ?_ _ | refine Ext.drew ?_ | refine Ext.trans ?_ (by assumption)))) (first
      | (go_at_call 8; refine (HI.out _ (by repeat (first | exact Ext.refl _ | assumption | refine Ext.alloc ?_ _ | refine Ext.drew ?_ | refine Ext.trans ?_ (by assumption)))).mono ?_; rintro e w1 ⟨b, rfl, hd, hb, hx1⟩)
      | (go_at_call 22; refine (HV.out _ b hd).mono ?_; rintro e w2 ⟨rfl, hx2⟩))
  all_goals
    go_wp2
    go_ret
    exact ⟨rfl, (by repeat (first | exact Ext.refl _ | assumption | refine Ext.alloc ?_ _ | refine Ext.drew ?_ | refine Ext.trans ?_ (by assumption)))⟩
end Go.Proofs.YteojfkffmbcedaaGreatDoor
