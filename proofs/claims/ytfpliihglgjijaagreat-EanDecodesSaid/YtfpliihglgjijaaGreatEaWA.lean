/-
  Chapter 11: the sets of a UPC-E symbol with the number system digit 1, walked.
  No condition.
-/
import Derived.Test.YtfpliihglgjijaaGreatRepl3
import Derived.Test.YtfpliihglgjijaaGreatEaW5
import Derived.Test.YtfpliihglgjijaaGreatEaS
namespace Go.Proofs.YtfpliihglgjijaaGreat
set_option linter.unusedVariables false
open Go.RowKit Go.MuLone

theorem comp_at {k : Nat} (hk : k < 10) : ∃ u0 u1 : List UInt8, Ea.sS (Ea.setsE0.getD k []) = u0 ∧ Ea.sS (Ea.setsE1.getD k []) = u1 ∧ u0.map swpU = u1 ∧ (∀ c ∈ u0, c = 65 ∨ c = 66) ∧ u0.length = 6 ∧ (Ea.compB 0)[k]? = some (Ea.bS u0) ∧ (Ea.compB 1)[k]? = some (Ea.bS u1) := by
  have h : ∀ k : Fin 10, (Ea.sS (Ea.setsE0.getD k [])).map swpU = Ea.sS (Ea.setsE1.getD k []) ∧ (∀ c ∈ Ea.sS (Ea.setsE0.getD k []), c = 65 ∨ c = 66) ∧ (Ea.sS (Ea.setsE0.getD k [])).length = 6 := by decide
  obtain ⟨h1, h2, h3⟩ := h ⟨k, hk⟩
  refine ⟨_, _, rfl, rfl, h1, h2, h3, ?_, ?_⟩
  · unfold Ea.compB
    rw [if_pos rfl, List.getElem?_map, List.getElem?_eq_getElem (show k < Ea.setsE0.length from hk), List.getD_eq_getElem?_getD, List.getElem?_eq_getElem (show k < Ea.setsE0.length from hk)]; rfl
  · unfold Ea.compB
    rw [if_neg (by decide), List.getElem?_map, List.getElem?_eq_getElem (show k < Ea.setsE1.length from hk), List.getD_eq_getElem?_getD, List.getElem?_eq_getElem (show k < Ea.setsE1.length from hk)]; rfl

set_option maxRecDepth 100000 in
set_option maxHeartbeats 4000000 in
theorem compactSets_one (w : World) : Calls Tryz.prog 65 #[.int .u8 49] w fun e w' => e = .returned (arrV (Ea.compB 1)) ∧ Ext w w' := by
  go_enter Tryz.func65, Tryz.ntmps65
  go_wp2_with fail
  obtain ⟨W, hW⟩ : ∃ W, w.alloc (Obj.cells #[Value.string ⟨#[]⟩, Value.string ⟨#[]⟩, Value.string ⟨#[]⟩, Value.string ⟨#[]⟩, Value.string ⟨#[]⟩, Value.string ⟨#[]⟩, Value.string ⟨#[]⟩, Value.string ⟨#[]⟩, Value.string ⟨#[]⟩, Value.string ⟨#[]⟩] 70) = W := ⟨_, rfl⟩
  have hWx : Ext w W := by rw [← hW]; exact (Ext.refl w).alloc _
  have hWs : W.heap.size = w.heap.size + 1 := by rw [← hW]; simp
  have hres0 : W.rowIs w.heap.size 70 10 (fun _ => .string ⟨#[]⟩) := by
    rw [← hW]
    exact (World.rowIs_alloc w _ 70 (fun _ => .string ⟨#[]⟩) (fun i hi => by
      have hi : i < 10 := hi
      rcases (by omega : i = 0 ∨ i = 1 ∨ i = 2 ∨ i = 3 ∨ i = 4 ∨ i = 5 ∨ i = 6 ∨ i = 7 ∨ i = 8 ∨ i = 9) with h | h | h | h | h | h | h | h | h | h <;> subst h <;> rfl))
  rw [hW]
  obtain ⟨V, hV⟩ : ∃ V, W.alloc (Obj.cells #[Value.string ⟨#[66, 66, 66, 65, 65, 65]⟩, Value.string ⟨#[66, 66, 65, 66, 65, 65]⟩, Value.string ⟨#[66, 66, 65, 65, 66, 65]⟩, Value.string ⟨#[66, 66, 65, 65, 65, 66]⟩, Value.string ⟨#[66, 65, 66, 66, 65, 65]⟩, Value.string ⟨#[66, 65, 65, 66, 66, 65]⟩, Value.string ⟨#[66, 65, 65, 65, 66, 66]⟩, Value.string ⟨#[66, 65, 66, 65, 66, 65]⟩, Value.string ⟨#[66, 65, 66, 65, 65, 66]⟩, Value.string ⟨#[66, 65, 65, 66, 65, 66]⟩] 70) = V := ⟨_, rfl⟩
  have hVx : Ext W V := by rw [← hV]; exact (Ext.refl W).alloc _
  have hVs : V.heap.size = w.heap.size + 1 + 1 := by rw [← hV, ← hWs]; simp
  have hrow0 : V.rowIs (w.heap.size + 1) 70 10 (fun i => .string ((Ea.compB 0).getD i ⟨#[]⟩)) := by
    rw [← hV, ← hWs]
    exact (World.rowIs_alloc W _ 70 (fun i => .string ((Ea.compB 0).getD i ⟨#[]⟩)) (fun i hi => by
      have hi : i < 10 := hi
      rcases (by omega : i = 0 ∨ i = 1 ∨ i = 2 ∨ i = 3 ∨ i = 4 ∨ i = 5 ∨ i = 6 ∨ i = 7 ∨ i = 8 ∨ i = 9) with h | h | h | h | h | h | h | h | h | h <;> subst h <;> rfl))
  rw [hV]
  have HIX : Hid (∀ k : Nat, k < 10 → ∀ w', (Instr.index 70 (.agg #[Value.string ⟨#[66, 66, 66, 65, 65, 65]⟩, Value.string ⟨#[66, 66, 65, 66, 65, 65]⟩, Value.string ⟨#[66, 66, 65, 65, 66, 65]⟩, Value.string ⟨#[66, 66, 65, 65, 65, 66]⟩, Value.string ⟨#[66, 65, 66, 66, 65, 65]⟩, Value.string ⟨#[66, 65, 65, 66, 66, 65]⟩, Value.string ⟨#[66, 65, 65, 65, 66, 66]⟩, Value.string ⟨#[66, 65, 66, 65, 66, 65]⟩, Value.string ⟨#[66, 65, 66, 65, 65, 66]⟩, Value.string ⟨#[66, 65, 65, 66, 65, 66]⟩]) (.int .i64 (k : Int))).run Tryz.prog w' = .ok (.string ((Ea.compB 0).getD k ⟨#[]⟩)) w') := Lib.hid (fun k hk w' => run_index_strs 70 10 (by kernel_rfl) _ k hk _ (by
    rcases (by omega : k = 0 ∨ k = 1 ∨ k = 2 ∨ k = 3 ∨ k = 4 ∨ k = 5 ∨ k = 6 ∨ k = 7 ∨ k = 8 ∨ k = 9) with h | h | h | h | h | h | h | h | h | h <;> subst h <;> rfl) w')
  have hn := newReplacer_any V.heap.size (V.alloc (Obj.cells #[Value.string ⟨#[65]⟩, Value.string ⟨#[66]⟩, Value.string ⟨#[66]⟩, Value.string ⟨#[65]⟩] 9)) (by simp) (by simp) (by simp) (by simp)
  rw [hVs] at hn
  refine hn.mono ?_
  rintro e w1 ⟨b, rfl, hb, hF, hx1⟩
  have hb : w.heap.size + 3 ≤ b := by simp [hVs] at hb; omega
  have hVx1 : Ext V w1 := (Ext.alloc (Ext.refl V) _).trans hx1
  have hrow1 := Ext.rowX hrow0 hVx1
  have hres1 := Ext.rowX hres0 (hVx.trans hVx1)
  have hxw1 : Ext w w1 := (hWx.trans hVx).trans hVx1
  clear hn hx1 hVx1 hrow0 hres0 hWx hVx hW hV hWs hVs
  have q0 : w1.cell? ⟨w.heap.size + 1, 0, none⟩ = some (.string ⟨#[66, 66, 66, 65, 65, 65]⟩) := hrow1.cell (i := 0) (by decide)
  have q1 : w1.cell? ⟨w.heap.size + 1, 1, none⟩ = some (.string ⟨#[66, 66, 65, 66, 65, 65]⟩) := hrow1.cell (i := 1) (by decide)
  have q2 : w1.cell? ⟨w.heap.size + 1, 2, none⟩ = some (.string ⟨#[66, 66, 65, 65, 66, 65]⟩) := hrow1.cell (i := 2) (by decide)
  have q3 : w1.cell? ⟨w.heap.size + 1, 3, none⟩ = some (.string ⟨#[66, 66, 65, 65, 65, 66]⟩) := hrow1.cell (i := 3) (by decide)
  have q4 : w1.cell? ⟨w.heap.size + 1, 4, none⟩ = some (.string ⟨#[66, 65, 66, 66, 65, 65]⟩) := hrow1.cell (i := 4) (by decide)
  have q5 : w1.cell? ⟨w.heap.size + 1, 5, none⟩ = some (.string ⟨#[66, 65, 65, 66, 66, 65]⟩) := hrow1.cell (i := 5) (by decide)
  have q6 : w1.cell? ⟨w.heap.size + 1, 6, none⟩ = some (.string ⟨#[66, 65, 65, 65, 66, 66]⟩) := hrow1.cell (i := 6) (by decide)
  have q7 : w1.cell? ⟨w.heap.size + 1, 7, none⟩ = some (.string ⟨#[66, 65, 66, 65, 66, 65]⟩) := hrow1.cell (i := 7) (by decide)
  have q8 : w1.cell? ⟨w.heap.size + 1, 8, none⟩ = some (.string ⟨#[66, 65, 66, 65, 65, 66]⟩) := hrow1.cell (i := 8) (by decide)
  have q9 : w1.cell? ⟨w.heap.size + 1, 9, none⟩ = some (.string ⟨#[66, 65, 65, 66, 65, 66]⟩) := hrow1.cell (i := 9) (by decide)
  go_wp2
  clear q0 q1 q2 q3 q4 q5 q6 q7 q8 q9
  have HNX := Lib.hid (fun (w' : World) (h : Ext w1 w') => h)
  go_loopw [13] (fun i wr => ∃ k : Nat, k ≤ 10 ∧ i = .int .i64 (k : Int) ∧ wr.rowIs (w.heap.size + 1) 70 10 (fun j => .string (if j < k then (Ea.compB 1).getD j ⟨#[]⟩ else (Ea.compB 0).getD j ⟨#[]⟩)) ∧ wr.rowIs w.heap.size 70 10 (fun _ => .string ⟨#[]⟩) ∧ Ext w wr ∧
    ((k = 0 ∧ Fresh wr b 0) ∨ (∃ br, w.heap.size + 3 ≤ br ∧ wr.rowIs br 164 256 (fun i => .int .u8 (swpB i : Int)) ∧ RepAt wr b 1 0 (repI br) (.slice none 0 0)))) (fun i _ => 10 - (intOf i).toNat)
  case atStart => exact ⟨0, by omega, rfl, hrow1.congr (fun i _ => by simp), hres1, hxw1, .inl ⟨rfl, hF⟩⟩
  case round =>
    clear hrow1 hres1 hxw1 hF
    obtain ⟨k, hk, rfl, hrow, hres, hxr, hst⟩ := hrel
    by_cases hlt : k < 10
    · obtain ⟨u0, u1, e0, e1, hu, hab, h6, ha, hbb⟩ := comp_at hlt
      have hix := HIX.out k hlt
      have hg0 : (Ea.compB 0).getD k ⟨#[]⟩ = Ea.bS u0 := by rw [List.getD_eq_getElem?_getD, ha]; rfl
      have HG1 : Hid ((Ea.compB 1).getD k ⟨#[]⟩ = Ea.bS u1) := Lib.hid (by rw [List.getD_eq_getElem?_getD, hbb]; rfl)
      rw [hg0] at hix
      have hsz : (Ea.bS u0).size = 6 := by rw [size_of_toList (Ea.bS_list u0), h6]
      have HU : Hid ((Ea.bS u0).data.toList.map swpU = u1) := Lib.hid hu
      have HAB : Hid (∀ c ∈ (Ea.bS u0).data.toList, c = 65 ∨ c = 66) := Lib.hid hab
      have HNEW : Hid (∀ w', wr.grownBy w' (some b) → w'.rowIs (w.heap.size + 1) 70 10 (fun j => .string (if j < k then (Ea.compB 1).getD j ⟨#[]⟩ else (Ea.compB 0).getD j ⟨#[]⟩)) ∧ w'.rowIs w.heap.size 70 10 (fun _ => .string ⟨#[]⟩) ∧ Ext w w') := Lib.hid (fun w' hg =>
        ⟨hrow.of_block (hg.block _ hrow.lt (by simp; omega)), hres.of_block (hg.block _ hres.lt (by simp; omega)), hxr.ofGrown hg (fun j hj => by cases hj; omega)⟩)
      generalize Ea.bS u0 = U at *
      clear e0 e1 hu hab ha hbb hg0
      rcases hst with ⟨rfl, hF⟩ | ⟨br, hbr, hrb, hrep⟩
      · have HR := Lib.hid (replace_first b U wr hF HAB.out (by omega) (by omega))
        have hsw : b < wr.heap.size := by obtain ⟨_, h, _⟩ := hF; exact (Array.getElem?_eq_some_iff.1 h).1
        have hix : ∀ w', (Instr.index 70 (.agg #[Value.string ⟨#[66, 66, 66, 65, 65, 65]⟩, Value.string ⟨#[66, 66, 65, 66, 65, 65]⟩, Value.string ⟨#[66, 66, 65, 65, 66, 65]⟩, Value.string ⟨#[66, 66, 65, 65, 65, 66]⟩, Value.string ⟨#[66, 65, 66, 66, 65, 65]⟩, Value.string ⟨#[66, 65, 65, 66, 66, 65]⟩, Value.string ⟨#[66, 65, 65, 65, 66, 66]⟩, Value.string ⟨#[66, 65, 66, 65, 66, 65]⟩, Value.string ⟨#[66, 65, 66, 65, 65, 66]⟩, Value.string ⟨#[66, 65, 65, 66, 65, 66]⟩]) (.int .i64 0)).run Tryz.prog w' = .ok (.string U) w' := hix
        clear hrow hres hxr hF
        go_wp2_with fail
        refine HR.out.mono ?_
        rintro e w2 ⟨rfl, br, hbr, hrb, hrep, hg⟩
        obtain ⟨hrow2, hres2, hx2⟩ := HNEW.out w2 hg
        rw [HU.out]
        have hcl := hrow2.cell hlt
        have hfz := hrow2.frozen 0
        have HR5 := Lib.hid ((hrow2.set 0 (.string ⟨u1.toArray⟩)).congr (g := fun j => .string (if j < 0 + 1 then (Ea.compB 1).getD j ⟨#[]⟩ else (Ea.compB 0).getD j ⟨#[]⟩)) (fun j hj => by
          by_cases h1 : j = 0
          · subst h1; rw [if_pos rfl, if_pos (by omega), HG1.out]; rfl
          · rw [if_neg h1, if_neg (by omega), if_neg (by omega)]))
        have g5 := grown_set w2 (w.heap.size + 1) 0 (.string ⟨u1.toArray⟩)
        have HS5 := Lib.hid (hres2.of_block (g5.block _ hres2.lt (by simp)))
        have HX5 := Lib.hid (hx2.setCell (p := ⟨w.heap.size + 1, 0, none⟩) (by simp) (.string ⟨u1.toArray⟩))
        have HB5 := Lib.hid (hrb.of_block (g5.block _ hrb.lt (by simp; omega)))
        have HP5 : Hid (RepAt (w2.setCell ⟨w.heap.size + 1, 0, none⟩ (.string ⟨u1.toArray⟩)) b 1 0 (repI br) (.slice none 0 0)) := Lib.hid ((g5.block b (Array.getElem?_eq_some_iff.1 hrep).1 (by simp; omega)).trans hrep)
        clear hrow2 hres2 hx2 hrb hrep hg g5
        go_wp2
        go_roundw
        case rel => exact ⟨1, by omega, rfl, HR5.out, HS5.out, HX5.out, .inr ⟨br, by omega, HB5.out, HP5.out⟩⟩
        case measure => simp [intOf]
      · have HR := Lib.hid (replace_again b br U wr hrb hrep HAB.out (by omega) (by omega))
        have HB0 := Lib.hid hrb
        have HP0 := Lib.hid hrep
        have HO := Lib.hid (And.intro hrow (And.intro hres hxr))
        clear hrow hres hxr hrb hrep
        go_wp2_with fail
        refine HR.out.mono ?_
        rintro e w2 ⟨rfl, hx2⟩
        have hrow2 := Ext.rowX HO.out.1 hx2
        have hres2 := Ext.rowX HO.out.2.1 hx2
        have hxx := HO.out.2.2.trans hx2
        have hrb := Ext.rowX HB0.out hx2
        have hrep : RepAt w2 b 1 0 (repI br) (.slice none 0 0) := (hx2.block b (Array.getElem?_eq_some_iff.1 HP0.out).1).trans HP0.out
        rw [HU.out]
        have hcl := hrow2.cell hlt
        have hfz := hrow2.frozen k
        have HR5 := Lib.hid ((hrow2.set k (.string ⟨u1.toArray⟩)).congr (g := fun j => .string (if j < k + 1 then (Ea.compB 1).getD j ⟨#[]⟩ else (Ea.compB 0).getD j ⟨#[]⟩)) (fun j hj => by
          by_cases h1 : j = k
          · subst h1; rw [if_pos rfl, if_pos (by omega), HG1.out]; rfl
          · rw [if_neg h1]
            by_cases h2 : j < k
            · rw [if_pos h2, if_pos (by omega)]
            · rw [if_neg h2, if_neg (by omega)]))
        have g5 := grown_set w2 (w.heap.size + 1) k (.string ⟨u1.toArray⟩)
        have HS5 := Lib.hid (hres2.of_block (g5.block _ hres2.lt (by simp)))
        have HX5 := Lib.hid (hxx.setCell (p := ⟨w.heap.size + 1, k, none⟩) (by simp) (.string ⟨u1.toArray⟩))
        have HB5 := Lib.hid (hrb.of_block (g5.block _ hrb.lt (by simp; omega)))
        have HP5 : Hid (RepAt (w2.setCell ⟨w.heap.size + 1, k, none⟩ (.string ⟨u1.toArray⟩)) b 1 0 (repI br) (.slice none 0 0)) := Lib.hid ((g5.block b (Array.getElem?_eq_some_iff.1 hrep).1 (by simp; omega)).trans hrep)
        clear hrow2 hres2 hx2 hrb hrep g5 hxx
        go_wp2
        go_roundw
        case rel => exact ⟨k + 1, by omega, by go_num, HR5.out, HS5.out, HX5.out, .inr ⟨br, hbr, HB5.out, HP5.out⟩⟩
        case measure => simp [intOf]; omega
    · obtain rfl : k = 10 := by omega
      have q0 : wr.cell? ⟨w.heap.size + 1, 0, none⟩ = some (.string ⟨#[65, 65, 65, 66, 66, 66]⟩) := hrow.cell (i := 0) (by decide)
      have q1 : wr.cell? ⟨w.heap.size + 1, 1, none⟩ = some (.string ⟨#[65, 65, 66, 65, 66, 66]⟩) := hrow.cell (i := 1) (by decide)
      have q2 : wr.cell? ⟨w.heap.size + 1, 2, none⟩ = some (.string ⟨#[65, 65, 66, 66, 65, 66]⟩) := hrow.cell (i := 2) (by decide)
      have q3 : wr.cell? ⟨w.heap.size + 1, 3, none⟩ = some (.string ⟨#[65, 65, 66, 66, 66, 65]⟩) := hrow.cell (i := 3) (by decide)
      have q4 : wr.cell? ⟨w.heap.size + 1, 4, none⟩ = some (.string ⟨#[65, 66, 65, 65, 66, 66]⟩) := hrow.cell (i := 4) (by decide)
      have q5 : wr.cell? ⟨w.heap.size + 1, 5, none⟩ = some (.string ⟨#[65, 66, 66, 65, 65, 66]⟩) := hrow.cell (i := 5) (by decide)
      have q6 : wr.cell? ⟨w.heap.size + 1, 6, none⟩ = some (.string ⟨#[65, 66, 66, 66, 65, 65]⟩) := hrow.cell (i := 6) (by decide)
      have q7 : wr.cell? ⟨w.heap.size + 1, 7, none⟩ = some (.string ⟨#[65, 66, 65, 66, 65, 66]⟩) := hrow.cell (i := 7) (by decide)
      have q8 : wr.cell? ⟨w.heap.size + 1, 8, none⟩ = some (.string ⟨#[65, 66, 65, 66, 66, 65]⟩) := hrow.cell (i := 8) (by decide)
      have q9 : wr.cell? ⟨w.heap.size + 1, 9, none⟩ = some (.string ⟨#[65, 66, 66, 65, 66, 65]⟩) := hrow.cell (i := 9) (by decide)
      have r0 := hres.cell (i := 0) (by decide)
      have z0 := hres.frozen 0
      have r1 := hres.cell (i := 1) (by decide)
      have z1 := hres.frozen 1
      have r2 := hres.cell (i := 2) (by decide)
      have z2 := hres.frozen 2
      have r3 := hres.cell (i := 3) (by decide)
      have z3 := hres.frozen 3
      have r4 := hres.cell (i := 4) (by decide)
      have z4 := hres.frozen 4
      have r5 := hres.cell (i := 5) (by decide)
      have z5 := hres.frozen 5
      have r6 := hres.cell (i := 6) (by decide)
      have z6 := hres.frozen 6
      have r7 := hres.cell (i := 7) (by decide)
      have z7 := hres.frozen 7
      have r8 := hres.cell (i := 8) (by decide)
      have z8 := hres.frozen 8
      have r9 := hres.cell (i := 9) (by decide)
      have z9 := hres.frozen 9
      obtain ⟨cs, hcs, hcn, hcv⟩ := hres
      have hcs0 : cs = Array.replicate 10 (.string ⟨#[]⟩) := by
        apply Array.ext
        · rw [hcn]; rfl
        · intro i h1 h2
          have := hcv i (by omega)
          rw [Array.getElem?_eq_getElem h1] at this
          injection this with this
          rw [this]; simp
      subst hcs0
      have m0 := heap_set (i := 0) (u := .string ⟨#[65, 65, 65, 66, 66, 66]⟩) hcs
      have m1 := heap_set (i := 1) (u := .string ⟨#[65, 65, 66, 65, 66, 66]⟩) m0
      have m2 := heap_set (i := 2) (u := .string ⟨#[65, 65, 66, 66, 65, 66]⟩) m1
      have m3 := heap_set (i := 3) (u := .string ⟨#[65, 65, 66, 66, 66, 65]⟩) m2
      have m4 := heap_set (i := 4) (u := .string ⟨#[65, 66, 65, 65, 66, 66]⟩) m3
      have m5 := heap_set (i := 5) (u := .string ⟨#[65, 66, 66, 65, 65, 66]⟩) m4
      have m6 := heap_set (i := 6) (u := .string ⟨#[65, 66, 66, 66, 65, 65]⟩) m5
      have m7 := heap_set (i := 7) (u := .string ⟨#[65, 66, 65, 66, 65, 66]⟩) m6
      have m8 := heap_set (i := 8) (u := .string ⟨#[65, 66, 65, 66, 66, 65]⟩) m7
      have m9 := heap_set (i := 9) (u := .string ⟨#[65, 66, 66, 65, 66, 65]⟩) m8
      have HM := Lib.hid m9
      clear hcs hcn hcv m0 m1 m2 m3 m4 m5 m6 m7 m8 m9
      have HXE := Lib.hid (fun (i : Nat) (w' : World) (h : Ext w w') (u : Value) => h.setCell (p := ⟨w.heap.size, i, none⟩) (Nat.le_refl _) u)
      clear hrow hst hk hlt
      go_wp2
      refine bodyPost_ret (results_cell_row Tryz.results65 _ _ w.heap.size 70 _ (0, 0) _ rfl HM.out Tryz.underlying70 rfl (by kernel_rfl)) rfl ?_
      exact ⟨rfl, HXE.out 9 _ (HXE.out 8 _ (HXE.out 7 _ (HXE.out 6 _ (HXE.out 5 _ (HXE.out 4 _ (HXE.out 3 _ (HXE.out 2 _ (HXE.out 1 _ (HXE.out 0 _ hxr _) _) _) _) _) _) _) _) _) _⟩
theorem compactSets_any (y : Nat) (hy : y < 2) (w : World) : Calls Tryz.prog 65 #[.int .u8 (48 + (y : Int))] w fun e w' => e = .returned (arrV (Ea.compB y)) ∧ Ext w w' := by
  rcases (by omega : y = 0 ∨ y = 1) with rfl | rfl
  · exact compactSets_zero 48 rfl w
  · exact compactSets_one w
end Go.Proofs.YtfpliihglgjijaaGreat
