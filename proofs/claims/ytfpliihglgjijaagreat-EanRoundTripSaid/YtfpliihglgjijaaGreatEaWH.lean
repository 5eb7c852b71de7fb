/-
  Chapter 11: readShort and readLong, walked.
  Condition: a string of 67 or 95 modules.
-/
import Derived.Test.YtfpliihglgjijaaGreatEaWG
namespace Go.Proofs.YtfpliihglgjijaaGreat
set_option linter.unusedVariables false
open Go.RowKit

theorem Calls.back {Q : Ending → World → Prop} {v u : Value} {w' : World} (h : v = u) (hq : Q (.returned u) w') : Q (.returned v) w' := h ▸ hq
theorem full_right {k : Int} {l : List UInt8} {b : Bool} (h : decide (Ea.good (if k = 4 then Ea.exp8 l else l)) = b) : (Ea.good (if k = 4 then Ea.exp8 l else l)) = (b = true) := by
  rw [← h, decide_eq_true_eq]
/-- A struct of three cells, laid before the calls. -/
theorem row3 {w w' : World} {x y z : Value} {t : TypeId} (h : Ext (w.alloc (.cells #[x, y, z] t)) w') :
    w.heap.size < w'.heap.size ∧ w'.cell? ⟨w.heap.size, 0, none⟩ = some x ∧ w'.cell? ⟨w.heap.size, 1, none⟩ = some y ∧ w'.cell? ⟨w.heap.size, 2, none⟩ = some z ∧
      w'.frozen? ⟨w.heap.size, 0, none⟩ = false ∧ w'.frozen? ⟨w.heap.size, 1, none⟩ = false ∧ w'.frozen? ⟨w.heap.size, 2, none⟩ = false ∧
      Hid (w'.heap[w.heap.size]? = some (.cells #[x, y, z] t (0, 0))) := by
  have hs := h.size
  have hlt : w.heap.size < (w.alloc (.cells #[x, y, z] t)).heap.size := by simp
  have hb : w'.heap[w.heap.size]? = some (.cells #[x, y, z] t (0, 0)) := by rw [h.block _ hlt]; exact heap_alloc_new _ _
  exact ⟨by omega, cell_at hb rfl, cell_at hb rfl, cell_at hb rfl, frz_at hb, frz_at hb, frz_at hb, Lib.hid hb⟩
theorem row3_set {w : World} {b : Nat} {x y z p q r : Value} {t : TypeId} (h : Hid (w.heap[b]? = some (.cells #[x, y, z] t (0, 0)))) :
    (((w.setCell ⟨b, 0, none⟩ p).setCell ⟨b, 1, none⟩ q).setCell ⟨b, 2, none⟩ r).heap[b]? = some (.cells #[p, q, r] t (0, 0)) :=
  heap_set (heap_set (heap_set h.out))
/-- A struct and an error, at the return. -/
theorem results_lin {fn : Func} {p u : Tmp} (h : fn.results = #[.cell p 31, .tmp u]) {tmps : Array Value} {w : World} {g : Nat} {t : TypeId} {x y z e : Value}
    (hp : tmps.getD p undef = .pointer (some ⟨g, 0, none⟩)) (hg : w.heap[g]? = some (.cells #[x, y, z] t (0, 0))) (he : tmps.getD u undef = e) :
    (results fn tmps).run Tryz.prog w = .ok (.tuple #[.agg #[x, y, z], e]) w := by
  rw [results_cell_tmp h, hp, he]
  simp only [asAddr, Sem.run_pure, Result.andThen_ok]
  rw [run_loadVar_row w g t _ #[x, y, z] (0, 0) _ hg Tryz.underlying31 rfl (by kernel_rfl)]
  rfl
theorem Ext.before {w w' : World} {o : Obj} (h : Ext (w.alloc o) w') : Ext w w' := ((Ext.refl w).alloc o).trans h
set_option maxRecDepth 100000 in
set_option maxHeartbeats 1500000 in
theorem readShort_any (s : ByteArray) (sl : List Bool) (hs : s.data.toList = Ea.mS sl) (hW : sl.length = 67) (w : World) :
    Calls Tryz.prog 75 #[.string s] w fun e w' => e = .returned (symV (Ea.rdSym 67 sl)) ∧ Ext w w' := by
  have HH := Lib.hid (fun w => halves_short s sl hs hW w)
  rw [short_eq sl hW]
  obtain ⟨⟨⟨l, u⟩, er⟩, hh⟩ : ∃ r, halv false 0 4 sl = r := ⟨_, rfl⟩
  rw [hh] at HH ⊢
  simp only [halV] at HH
  have hk : er = 0 → Ea.digs l = true ∧ l.length = 2 * 4 := fun h0 => by
    subst h0
    obtain ⟨a, b, _⟩ := halv_ok hh (by omega)
    exact ⟨a, b⟩
  clear hs hW hh
  by_cases h0 : er = 0
  · subst h0
    obtain ⟨hd, hl⟩ := hk rfl
    have hR := fun w => right_any 2 (Ea.bS l) hd (.inr ⟨by decide, by rw [size_of_toList (Ea.bS_list l)]; omega, by rw [size_of_toList (Ea.bS_list l)]; omega⟩) w
    rw [if_neg (show ¬(2 : Int) = 4 by decide), Ea.bS_list] at hR
    have HR := Lib.hid hR
    clear hR hk hd hl
    by_cases hg : Ea.good l
    · rw [decide_eq_true hg] at HR
      have HG : Hid (shortP ((l, u), 0) = ((2, l), 0)) := Lib.hid (by unfold shortP; rw [if_neg (by simp), if_pos hg])
      rw [HG.out]
      clear HG hg
      unfold symV linV
      dsimp only
      generalize Ea.bS l = L at *
      generalize Ea.bS (Ea.sS u) = U at *
      go_enter Tryz.func75, Tryz.ntmps75
      go_wp2_with fail
      refine (HH.out _).mono ?_
      rintro e w1 ⟨rfl, hx1⟩
      go_wp2_with fail
      refine (HR.out _).mono ?_
      rintro e w2 ⟨rfl, hx2⟩
      have hx := hx1.trans hx2
      obtain ⟨z0, z1, z2, z3, z4, z5, z6, HB⟩ := row3 hx
      have hxw := hx.before
      clear hx1 hx2 hx
      go_wp2
      refine bodyPost_ret (results_lin Tryz.results75 rfl (row3_set HB) rfl) rfl ?_
      exact ⟨rfl, (by repeat (first | exact Ext.refl _ | assumption | refine Ext.alloc ?_ _ | refine Ext.drew ?_ | refine Ext.drewN ?_ _ | refine Ext.setCell ?_ (Nat.le_refl _) _ | refine Ext.trans ?_ (by assumption)))⟩
    · rw [decide_eq_false hg] at HR
      have HG : Hid (shortP ((l, u), 0) = ((0, []), 8)) := Lib.hid (by unfold shortP; rw [if_neg (by simp), if_neg hg])
      rw [HG.out]
      clear HG hg
      unfold symV linV
      dsimp only
      generalize Ea.bS l = L at *
      generalize Ea.bS (Ea.sS u) = U at *
      go_enter Tryz.func75, Tryz.ntmps75
      go_wp2_with fail
      refine (HH.out _).mono ?_
      rintro e w1 ⟨rfl, hx1⟩
      go_wp2_with fail
      refine (HR.out _).mono ?_
      rintro e w2 ⟨rfl, hx2⟩
      have hx := hx1.trans hx2
      obtain ⟨z0, z1, z2, z3, z4, z5, z6, HB⟩ := row3 hx
      have hxw := hx.before
      clear hx1 hx2 hx
      go_wp2
      refine bodyPost_ret (results_lin Tryz.results75 rfl (row3_set HB) rfl) rfl ?_
      exact ⟨rfl, (by repeat (first | exact Ext.refl _ | assumption | refine Ext.alloc ?_ _ | refine Ext.drew ?_ | refine Ext.drewN ?_ _ | refine Ext.setCell ?_ (Nat.le_refl _) _ | refine Ext.trans ?_ (by assumption)))⟩
  · have HG : Hid (shortP ((l, u), er) = ((0, []), er)) := Lib.hid (by unfold shortP; rw [if_pos h0])
    rw [HG.out]
    clear HG hk
    unfold symV linV
    dsimp only
    generalize Ea.bS l = L at *
    generalize Ea.bS (Ea.sS u) = U at *
    have hb : (er != 0) = true := bne_iff_ne.2 h0
    go_enter Tryz.func75, Tryz.ntmps75
    go_wp2_with fail
    refine (HH.out _).mono ?_
    rintro e w2 ⟨rfl, hx⟩
    obtain ⟨z0, z1, z2, z3, z4, z5, z6, HB⟩ := row3 hx
    have hxw := hx.before
    clear hx
    go_wp2
    refine bodyPost_ret (results_lin Tryz.results75 rfl (row3_set HB) rfl) rfl ?_
    exact ⟨rfl, (by repeat (first | exact Ext.refl _ | assumption | refine Ext.alloc ?_ _ | refine Ext.drew ?_ | refine Ext.drewN ?_ _ | refine Ext.setCell ?_ (Nat.le_refl _) _ | refine Ext.trans ?_ (by assumption)))⟩
end Go.Proofs.YtfpliihglgjijaaGreat
