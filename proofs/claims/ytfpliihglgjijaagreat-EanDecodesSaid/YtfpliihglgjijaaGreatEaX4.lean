/-
  Chapter 11, the reference: rows of modules (modules, light, table, the sets).
  Condition: rows of at most a million modules.
-/
import Derived.Test.YtfpliihglgjijaaGreatEaX1
import Derived.Laws.AppendOwnNone
import Derived.Laws.OwnMore
namespace Go.Proofs.YtfpliihglgjijaaGreat
set_option linter.unusedVariables false
open Go.RowKit

/-- A row of modules of the call's own. -/
def OwnsR (m : List Bool) (w : World) (e : Ending) (w' : World) : Prop := ∃ v, e = .returned v ∧ Own 4 w' w.heap.size v (m.map encT) ∧ Ext w w'
theorem own_row {w : World} {b B n : Nat} {t : TypeId} {f : Nat → Value} (h : w.rowIs b t n f) (hB : B ≤ b) (hn : n ≤ maxLen) : Own t w B (.slice (some ⟨b, 0, none⟩) n n) ((List.range n).map f) := by
  obtain ⟨c, hb, hs, hc⟩ := h
  refine ⟨by simp, .inr ⟨b, n, c, by simp, hB, hb, by simp, hn, by simp [hs], ?_⟩⟩
  apply List.ext_getElem?
  intro i
  rw [List.getElem?_take]
  by_cases hi : i < n
  · have h2 := hc i hi
    simp only [List.length_map, List.length_range, Nat.mul_one, hi, if_true, Array.getElem?_toList, h2]
    simp [hi]
  · simp [hi]
theorem Own.congr {t : TypeId} {w : World} {B : Nat} {v : Value} {xs ys : List Value} (h : Own t w B v xs) (e : xs = ys) : Own t w B v ys := e ▸ h
theorem enc_one (m : List Bool) : ∀ y ∈ m.map encT, y.oneCell' = true := by
  intro y hy
  obtain ⟨b, _, rfl⟩ := List.mem_map.1 hy
  rfl
theorem enc_oneB (m : List UInt8) : ∀ y ∈ m.map encB, y.oneCell' = true := by
  intro y hy
  obtain ⟨b, _, rfl⟩ := List.mem_map.1 hy
  rfl

/-- An append of a whole row, nil or not. -/
theorem wp_append_src {w : World} {o : Oper} {a : Act} {K : Act → World → Prop} {Q : Exit → Act → World → Prop} (s x : Operand) (T t : TypeId) (z : Value) (bytes : Nat)
    (ho : o.op = .call { callee := .builtin .append, args := #[s, x], argTypes := #[T, T] })
    (hT : Tryz.prog.underlying T = some (.slice t)) (hi : (Tryz.prog.info? t).map (fun i => (i.zero, i.size, i.bytes)) = some (some z, 1, bytes)) (hz : z.cells.size = 1) (hby : bytes ≤ 16)
    (B : Nat) (v : Value) (xs : List Value) (hs : a.eval s = v) (hown : Own t w B v xs) (B' : Nat) (u : Value) (ys : List Value) (hx : a.eval x = u) (hu : Own t w B' u ys)
    (h1 : ∀ y ∈ ys, y.oneCell' = true) (hn : xs.length + ys.length ≤ 1000000000) (hB : B ≤ w.heap.size)
    (h : ∀ v' w', Own t w' B v' (xs ++ ys) → w.grownBy w' v.ownBlock → K (a.put o.dst v') w') : o.wp Tryz.prog a w K Q := by
  obtain ⟨i0, hi, hz0, hz1, hz2⟩ := info_parts hi
  rcases hu.2 with ⟨hnil, h0⟩ | ⟨g, cap, cur, hv, hbase, hb, hc1, hc2, hc3, hc4⟩
  · have hrun := run_append_owned_none (P := Tryz.prog) (w := w) B T o.type t i0 1 hT hi v xs.length xs hown
    have hys : ys = [] := List.eq_nil_of_length_eq_zero h0
    rw [hnil] at hx
    unfold Oper.wp
    simp only [execOp, ho, resolve, invoke, builtin, Sem.run_bind, Sem.run_pure, Result.andThen_ok, List.map_toArray, List.map_cons, List.map_nil, hs, hx, hrun]
    refine h v w ?_ ⟨rfl, rfl, rfl, Nat.le_refl _, fun _ _ _ => rfl⟩
    rw [hys, List.append_nil]; exact hown
  · have hcells : ∀ j y, ys[j]? = some y → w.cell? ((⟨g, 0, none⟩ : Addr).add j) = some y := fun j y hj => by
      have hjl : j < ys.length := (List.getElem?_eq_some_iff.1 hj).1
      rw [hv] at hu
      rw [add_at, World.ownsRow.cellAt hu j (by simpa using hjl)]; exact hj
    obtain ⟨v', w', h2, h3, h4, _⟩ := run_append_own (P := Tryz.prog) w B T o.type t i0 z 1 bytes hT hi hz0 hz1 hz2 hz (by decide) v xs.length xs hown ⟨g, 0, none⟩ ys.length cap ys (by omega) hcells h1 (by unfold maxLen; omega) (Nat.le_trans (Nat.mul_le_mul hn hby) (by decide)) hB
    rw [hv] at hx
    unfold Oper.wp
    simp only [execOp, ho, resolve, invoke, builtin, Sem.run_bind, Sem.run_pure, Result.andThen_ok, List.map_toArray, List.map_cons, List.map_nil, hs, hx, h2]
    refine h v' w' ?_ h4
    unfold Own
    rw [List.length_append]; exact h3
theorem wpList_append_src {w : World} {ops : Array Oper} {rest : List Oper} {o : Oper} {a : Act} {Q : Exit → Act → World → Prop} (hgd : o.guard = none) (s x : Operand) (T t : TypeId) (z : Value) (bytes : Nat)
    (ho : o.op = .call { callee := .builtin .append, args := #[s, x], argTypes := #[T, T] })
    (hT : Tryz.prog.underlying T = some (.slice t)) (hi : (Tryz.prog.info? t).map (fun i => (i.zero, i.size, i.bytes)) = some (some z, 1, bytes)) (hz : z.cells.size = 1) (hby : bytes ≤ 16)
    (B : Nat) (v : Value) (xs : List Value) (hs : a.eval s = v) (hown : Own t w B v xs) (B' : Nat) (u : Value) (ys : List Value) (hx : a.eval x = u) (hu : Own t w B' u ys)
    (h1 : ∀ y ∈ ys, y.oneCell' = true) (hn : xs.length + ys.length ≤ 1000000000) (hB : B ≤ w.heap.size)
    (h : ∀ v' w', Own t w' B v' (xs ++ ys) → w.grownBy w' v.ownBlock → wpList Tryz.prog ops Q rest (a.put o.dst v') w') : wpList Tryz.prog ops Q (o :: rest) a w :=
  wpList_plain hgd fun K hK => wp_append_src s x T t z bytes ho hT hi hz hby B v xs hs hown B' u ys hx hu h1 hn hB (fun v' w' e1 e2 => hK _ _ (h v' w' e1 e2))

/-- Sets as the digits 0, 1, 2. -/
def zS (u : List Nat) : List UInt8 := u.map Ea.chr
theorem zS_len (u : List Nat) : (zS u).length = u.length := by simp [zS]
theorem zS_app (u v : List Nat) : zS (u ++ v) = zS u ++ zS v := by simp [zS]
theorem zS_inj {u v : List Nat} (hu : ∀ x ∈ u, x < 10) (hv : ∀ x ∈ v, x < 10) (h : zS u = zS v) : u = v := by
  induction u generalizing v with
  | nil => cases v with
    | nil => rfl
    | cons y v => simp [zS] at h
  | cons x u ih => cases v with
    | nil => simp [zS] at h
    | cons y v =>
      simp only [zS, List.map_cons, List.cons.injEq] at h
      have hc : ∀ a b : Fin 10, Ea.chr a.1 = Ea.chr b.1 → a = b := by decide
      have := hc ⟨x, hu x (List.mem_cons_self ..)⟩ ⟨y, hv y (List.mem_cons_self ..)⟩ h.1
      simp only [Fin.mk.injEq] at this
      rw [this, ih (fun z hz => hu z (List.mem_cons_of_mem _ hz)) (fun z hz => hv z (List.mem_cons_of_mem _ hz)) h.2]

set_option maxRecDepth 100000 in
set_option maxHeartbeats 2000000 in
theorem xmodules_any (s : ByteArray) (m : List Bool) (hs : s.data.toList = Ea.mS m) (hm : m.length ≤ 1000000) (w : World) :
    Calls Tryz.prog 68 #[.string s] w (OwnsR m w) := by
  have hsz : s.size = m.length := by rw [size_of_toList hs, Ea.mS_len]
  have HS := Lib.hid hs
  have HZ := Lib.hid hsz
  have hss : s.size ≤ 1000000 := by omega
  clear hs hsz
  go_enter Tryz.func68, Tryz.ntmps68
  go_wp2
  go_loopw [3, 4] (fun v3 v4 wr => ∃ k : Nat, k ≤ s.size ∧ v4 = .int .i64 (k : Int) ∧ Own 4 wr w.heap.size v3 ((m.take k).map encT) ∧ Ext w wr) (fun _ v4 _ => s.size - (intOf v4).toNat)
  case atStart => exact ⟨0, Nat.zero_le _, rfl, Own.nil _ _ _, Ext.refl _⟩
  case round =>
    obtain ⟨k, hk, rfl, hown, hxr⟩ := hrel
    by_cases hlt : k < s.size
    · obtain ⟨b, hb⟩ : ∃ b, m[k]? = some b := ⟨_, List.getElem?_eq_getElem (by rw [← HZ.out]; exact hlt)⟩
      have hsj : s[k] = Ea.mb b := by
        have h1 : s.data.toList[k]? = some s[k] := List.getElem?_eq_getElem (by rw [len_data]; exact hlt)
        rw [HS.out] at h1
        unfold Ea.mS at h1
        rw [List.getElem?_map, hb] at h1
        simpa using h1.symm
      have HT : Hid (m.take (k + 1) = m.take k ++ [b]) := Lib.hid (by
        obtain ⟨h1, h2⟩ := List.getElem?_eq_some_iff.1 hb
        rw [List.take_succ_eq_append_getElem h1, h2])
      have hbit : ((s[k].toNat : Int) == 49) = b := by rw [hsj]; cases b <;> rfl
      have hgl : (m.take k).length ≤ k := by rw [List.length_take]; omega
      generalize m.take k = got at *
      clear hb hsj
      go_wp2_with (at_builtin; refine append_bool rfl _ _ rfl w.heap.size _ got rfl (hown.alloc _) _ b rfl ?c1 ?c2 ?c3 ?_)
      case c1 => simp [go_sem, encT]
      case c2 => omega
      case c3 => have := hxr.size; simp; omega
      intro v' w5 hown5 hg5
      have hx5 := (hxr.alloc _).ofGrown hg5 hown.low
      clear hown hg5 hbit
      go_wp2
      go_roundw
      case rel => exact ⟨k + 1, by omega, by go_num, by rw [HT.out, List.map_append]; exact hown5, hx5⟩
      case measure => simp [intOf]; omega
    · obtain rfl : k = s.size := by omega
      have HT : Hid (m.take s.size = m) := Lib.hid (by rw [HZ.out, List.take_length])
      clear hk hlt
      go_wp2
      go_ret
      exact ⟨_, rfl, by rw [HT.out] at hown; exact hown, hxr⟩

theorem xlight_any (n : Nat) (hn : n ≤ 1000000) (w : World) : Calls Tryz.prog 39 #[.int .i64 (n : Int)] w (OwnsR (Ea.lgt n) w) := by
  have hmk := run_make_row' (P := Tryz.prog) 23 4 (.bool false) 1 Tryz.underlying23 (by kernel_rfl) rfl .i64 .i64 n (by omega) (by omega)
  go_enter Tryz.func39, Tryz.ntmps39
  go_wp2
  go_ret
  refine ⟨_, rfl, (own_row (World.rowIs_made w (.bool false) n 4) (Nat.le_refl _) (by unfold maxLen; omega)).congr ?_, (by repeat (first | exact Ext.refl _ | assumption | refine Ext.alloc ?_ _ | refine Ext.drew ?_ | refine Ext.trans ?_ (by assumption)))⟩
  unfold Ea.lgt encT
  apply List.ext_getElem <;> simp

theorem tab_cell (d : Nat) (hd : d < 10) (w : World) : (w.alloc (.cells #[.string ⟨#[48, 48, 48, 49, 49, 48, 49]⟩, .string ⟨#[48, 48, 49, 49, 48, 48, 49]⟩, .string ⟨#[48, 48, 49, 48, 48, 49, 49]⟩, .string ⟨#[48, 49, 49, 49, 49, 48, 49]⟩, .string ⟨#[48, 49, 48, 48, 48, 49, 49]⟩, .string ⟨#[48, 49, 49, 48, 48, 48, 49]⟩, .string ⟨#[48, 49, 48, 49, 49, 49, 49]⟩, .string ⟨#[48, 49, 49, 49, 48, 49, 49]⟩, .string ⟨#[48, 49, 49, 48, 49, 49, 49]⟩, .string ⟨#[48, 48, 48, 49, 48, 49, 49]⟩] 9)).cell? ⟨w.heap.size, d, none⟩ = some (.string (Ea.bS (Ea.mS (Ea.modl 0 d)))) := by
  have h : d = 0 ∨ d = 1 ∨ d = 2 ∨ d = 3 ∨ d = 4 ∨ d = 5 ∨ d = 6 ∨ d = 7 ∨ d = 8 ∨ d = 9 := by omega
  rcases h with rfl | rfl | rfl | rfl | rfl | rfl | rfl | rfl | rfl | rfl <;> exact new_cell _ _ w rfl
theorem s13_cell (d : Nat) (hd : d < 10) (w : World) : (w.alloc (.cells #[.string ⟨#[48, 48, 48, 48, 48, 48]⟩, .string ⟨#[48, 48, 49, 48, 49, 49]⟩, .string ⟨#[48, 48, 49, 49, 48, 49]⟩, .string ⟨#[48, 48, 49, 49, 49, 48]⟩, .string ⟨#[48, 49, 48, 48, 49, 49]⟩, .string ⟨#[48, 49, 49, 48, 48, 49]⟩, .string ⟨#[48, 49, 49, 49, 48, 48]⟩, .string ⟨#[48, 49, 48, 49, 48, 49]⟩, .string ⟨#[48, 49, 48, 49, 49, 48]⟩, .string ⟨#[48, 49, 49, 48, 49, 48]⟩] 9)).cell? ⟨w.heap.size, d, none⟩ = some (.string (Ea.bS (zS (Ea.sets13 d)))) := by
  have h : d = 0 ∨ d = 1 ∨ d = 2 ∨ d = 3 ∨ d = 4 ∨ d = 5 ∨ d = 6 ∨ d = 7 ∨ d = 8 ∨ d = 9 := by omega
  rcases h with rfl | rfl | rfl | rfl | rfl | rfl | rfl | rfl | rfl | rfl <;> exact new_cell _ _ w rfl
theorem sE_cell (d : Nat) (hd : d < 10) (w : World) : (w.alloc (.cells #[.string ⟨#[49, 49, 49, 48, 48, 48]⟩, .string ⟨#[49, 49, 48, 49, 48, 48]⟩, .string ⟨#[49, 49, 48, 48, 49, 48]⟩, .string ⟨#[49, 49, 48, 48, 48, 49]⟩, .string ⟨#[49, 48, 49, 49, 48, 48]⟩, .string ⟨#[49, 48, 48, 49, 49, 48]⟩, .string ⟨#[49, 48, 48, 48, 49, 49]⟩, .string ⟨#[49, 48, 49, 48, 49, 48]⟩, .string ⟨#[49, 48, 49, 48, 48, 49]⟩, .string ⟨#[49, 48, 48, 49, 48, 49]⟩] 9)).cell? ⟨w.heap.size, d, none⟩ = some (.string (Ea.bS (zS (Ea.setsE 0 d)))) := by
  have h : d = 0 ∨ d = 1 ∨ d = 2 ∨ d = 3 ∨ d = 4 ∨ d = 5 ∨ d = 6 ∨ d = 7 ∨ d = 8 ∨ d = 9 := by omega
  rcases h with rfl | rfl | rfl | rfl | rfl | rfl | rfl | rfl | rfl | rfl <;> exact new_cell _ _ w rfl
theorem a2_cell (d : Nat) (hd : d < 4) (w : World) : (w.alloc (.cells #[.string ⟨#[48, 48]⟩, .string ⟨#[48, 49]⟩, .string ⟨#[49, 48]⟩, .string ⟨#[49, 49]⟩] 9)).cell? ⟨w.heap.size, d, none⟩ = some (.string (Ea.bS (zS (Ea.setsA2.getD d [])))) := by
  have h : d = 0 ∨ d = 1 ∨ d = 2 ∨ d = 3 := by omega
  rcases h with rfl | rfl | rfl | rfl <;> exact new_cell _ _ w rfl
theorem a5_cell (d : Nat) (hd : d < 10) (w : World) : (w.alloc (.cells #[.string ⟨#[49, 49, 48, 48, 48]⟩, .string ⟨#[49, 48, 49, 48, 48]⟩, .string ⟨#[49, 48, 48, 49, 48]⟩, .string ⟨#[49, 48, 48, 48, 49]⟩, .string ⟨#[48, 49, 49, 48, 48]⟩, .string ⟨#[48, 48, 49, 49, 48]⟩, .string ⟨#[48, 48, 48, 49, 49]⟩, .string ⟨#[48, 49, 48, 49, 48]⟩, .string ⟨#[48, 49, 48, 48, 49]⟩, .string ⟨#[48, 48, 49, 48, 49]⟩] 9)).cell? ⟨w.heap.size, d, none⟩ = some (.string (Ea.bS (zS (Ea.setsA5.getD d [])))) := by
  have h : d = 0 ∨ d = 1 ∨ d = 2 ∨ d = 3 ∨ d = 4 ∨ d = 5 ∨ d = 6 ∨ d = 7 ∨ d = 8 ∨ d = 9 := by omega
  rcases h with rfl | rfl | rfl | rfl | rfl | rfl | rfl | rfl | rfl | rfl <;> exact new_cell _ _ w rfl

theorem xsets13_any (d : Nat) (hd : d < 10) (w : World) : Calls Tryz.prog 71 #[.int .i64 (d : Int)] w fun e w' => e = .returned (.string (Ea.bS (zS (Ea.sets13 d)))) ∧ Ext w w' := by
  have hc := s13_cell d hd w
  go_enter Tryz.func71, Tryz.ntmps71
  go_wp2
  go_ret
  exact ⟨rfl, (by repeat (first | exact Ext.refl _ | assumption | refine Ext.alloc ?_ _ | refine Ext.drew ?_ | refine Ext.trans ?_ (by assumption)))⟩

theorem modl2_at : ∀ (d : Fin 10) (j : Fin 7), (Ea.modl 2 d.1).getD j.1 false = !(Ea.modl 0 d.1).getD j.1 false := by decide
theorem modl1_at : ∀ (d : Fin 10) (j : Fin 7), (Ea.modl 1 d.1).getD j.1 false = !(Ea.modl 0 d.1).getD (6 - j.1) false := by decide
theorem modl_len7 : ∀ (t : Fin 3) (d : Fin 10), (Ea.modl t.1 d.1).length = 7 := by decide
/-- The cells of a row of the call's own that is not empty. -/
theorem Own.cells {t : TypeId} {w : World} {B : Nat} {v : Value} {m : List Bool} (h : Own t w B v (m.map encT)) (hm : 0 < m.length) :
    ∃ g c, v = .slice (some ⟨g, 0, none⟩) m.length c ∧ B ≤ g ∧ g < w.heap.size ∧ ∀ i, i < m.length → w.cell? ⟨g, i, none⟩ = some (.bool (m.getD i false)) := by
  have h0 := h
  rcases h.2 with ⟨_, hz⟩ | ⟨g, cap, cur, hv, hbase, hb, _⟩
  · rw [List.length_map] at hz; omega
  · rw [List.length_map] at hv
    refine ⟨g, cap, hv, hbase, (Array.getElem?_eq_some_iff.1 hb).1, fun i hi => ?_⟩
    subst hv
    have := World.ownsRow.cellAt (by unfold Own at h0; rw [List.length_map] at h0; exact h0) i (by omega)
    rw [this, List.getElem?_map, List.getElem?_eq_getElem hi, List.getD_eq_getElem?_getD, List.getElem?_eq_getElem hi]; rfl

set_option maxRecDepth 100000 in
set_option maxHeartbeats 2000000 in
theorem xtable_any (d t : Nat) (hd : d < 10) (ht : t < 3) (w : World) : Calls Tryz.prog 56 #[.int .i64 (d : Int), .int .i64 (t : Int)] w (OwnsR (Ea.modl t d) w) := by
  have hc := tab_cell d hd w
  have hl0 : (Ea.modl 0 d).length = 7 := modl_len7 ⟨0, by omega⟩ ⟨d, hd⟩
  have hlt7 : (Ea.modl t d).length = 7 := modl_len7 ⟨t, ht⟩ ⟨d, hd⟩
  have HM := Lib.hid (fun w => xmodules_any (Ea.bS (Ea.mS (Ea.modl 0 d))) (Ea.modl 0 d) (Ea.bS_list _) (by omega) w)
  have h' : t = 0 ∨ t = 1 ∨ t = 2 := by omega
  have H2 : Hid (∀ j, j < 7 → (Ea.modl 2 d).getD j false = !(Ea.modl 0 d).getD j false) := Lib.hid (fun j hj => modl2_at ⟨d, hd⟩ ⟨j, hj⟩)
  have H1 : Hid (∀ j, j < 7 → (Ea.modl 1 d).getD j false = !(Ea.modl 0 d).getD (6 - j) false) := Lib.hid (fun j hj => modl1_at ⟨d, hd⟩ ⟨j, hj⟩)
  obtain ⟨m, hm⟩ : ∃ m, Ea.modl 0 d = m := ⟨_, rfl⟩
  have HM0 := Lib.hid hm
  obtain ⟨X, hX⟩ : ∃ X, Ea.bS (Ea.mS (Ea.modl 0 d)) = X := ⟨_, rfl⟩
  rw [hX] at hc HM
  rw [hm] at HM hl0 H1 H2
  clear hm hX
  rcases h' with rfl | rfl | rfl
  · go_enter Tryz.func56, Tryz.ntmps56
    go_wp2_with fail
    refine (HM.out _).mono ?_
    rintro e w1 ⟨v, rfl, hown, hx⟩
    go_wp2
    go_ret
    exact ⟨_, rfl, by rw [HM0.out]; exact hown.mono (by simp), ((Ext.refl w).alloc _).trans hx⟩
  · obtain ⟨r, hr⟩ : ∃ r, Ea.modl 1 d = r := ⟨_, rfl⟩
    rw [hr] at H1 hlt7 ⊢
    rw [show ((1 : Nat) : Int) = 1 from rfl]
    clear hr H2
    have hmk : ∀ w, (Instr.makeSlice 23 (.int .i64 7) (.int .i64 7)).run Tryz.prog w = .ok (.slice (some ⟨w.heap.size, 0, none⟩) 7 7) (w.alloc (.cells (madeCells #[.bool false] 7) 4)) := fun w => run_make_row' (P := Tryz.prog) 23 4 (.bool false) 1 Tryz.underlying23 (by kernel_rfl) rfl .i64 .i64 7 (by omega) (by omega) w
    have HL7 := Lib.hid (And.intro hl0 hlt7)
    clear hl0 hlt7 HM0
    go_enter Tryz.func56, Tryz.ntmps56
    go_wp2_with fail
    refine (HM.out _).mono ?_
    rintro e w1 ⟨v, rfl, hown, hx⟩
    obtain ⟨g, c, rfl, hgB, hgs, hgc⟩ := hown.cells (by rw [HL7.out.1]; omega)
    rw [HL7.out.1] at hgc
    rw [HL7.out.1]
    have HGC := Lib.hid hgc
    have hxw := ((Ext.refl w).alloc _).trans hx
    have hsz := hxw.size
    clear hown hx hgB hgc hc
    go_wp2
    clear hmk
    go_loopw [7] (fun i wr => ∃ j : Nat, j ≤ 7 ∧ i = .int .i64 (j : Int) ∧ wr.rowIs w1.heap.size 4 7 (fun k => if k < j then encT (r.getD k false) else .bool false) ∧ Ext w1 wr) (fun i _ => 7 - (intOf i).toNat)
    case atStart => exact ⟨0, Nat.zero_le _, rfl, (World.rowIs_made w1 _ _ _).congr (fun i _ => by simp), (by repeat (first | exact Ext.refl _ | assumption | refine Ext.alloc ?_ _ | refine Ext.drew ?_ | refine Ext.trans ?_ (by assumption)))⟩
    case round =>
      obtain ⟨j, hj, rfl, hrow, hxr⟩ := hrel
      by_cases hlt : j < 7
      · have hcell := hrow.cell hlt
        have hfz := hrow.frozen j
        have HV := Lib.hid (H1.out j hlt)
        obtain ⟨q, hq⟩ : ∃ q, 6 - j = q := ⟨_, rfl⟩
        have hqi : (6 : Int) - (j : Int) = (q : Int) := by omega
        have hq7 : q < 7 := by omega
        rw [hq] at HV
        clear hq
        have hc0 := (hxr.cell (p := ⟨g, q, none⟩) hgs).trans (HGC.out q (by omega))
        obtain ⟨b, hb⟩ : ∃ b, m.getD q false = b := ⟨_, rfl⟩
        rw [hb] at hc0 HV
        have HR5 : Hid ((wr.setCell ⟨w1.heap.size, j, none⟩ (.bool (!b))).rowIs w1.heap.size 4 7 (fun k => if k < j + 1 then encT (r.getD k false) else .bool false)) :=
          Lib.hid ((hrow.set j (.bool (!b))).congr (fun k hk => by
            by_cases h1 : k = j
            · subst h1; rw [if_pos rfl, if_pos (by omega), HV.out]; rfl
            · rw [if_neg h1]
              by_cases h2 : k < j
              · rw [if_pos h2, if_pos (by omega)]
              · rw [if_neg h2, if_neg (by omega)]))
        have HX := Lib.hid (hxr.setCell (p := ⟨w1.heap.size, j, none⟩) (Nat.le_refl _) (.bool (!b)))
        clear hrow hxr hb HV
        go_wp2
        go_roundw
        case rel => exact ⟨j + 1, by omega, by go_num, HR5.out, HX.out⟩
        case measure => simp [intOf]; omega
      · obtain rfl : j = 7 := by omega
        have hsl := own_row (B := w.heap.size) hrow hsz (by unfold maxLen; omega)
        clear hj hlt hrow
        go_wp2
        go_ret
        refine ⟨_, rfl, hsl.congr ?_, hxw.trans hxr⟩
        apply List.ext_getElem
        · simp [HL7.out.2]
        · intro i h1 h2
          simp at h1 h2
          simp [h1, encT, h2]
  · obtain ⟨r, hr⟩ : ∃ r, Ea.modl 2 d = r := ⟨_, rfl⟩
    rw [hr] at H2 hlt7 ⊢
    rw [show ((2 : Nat) : Int) = 2 from rfl]
    clear hr H1
    have hmk : ∀ w, (Instr.makeSlice 23 (.int .i64 7) (.int .i64 7)).run Tryz.prog w = .ok (.slice (some ⟨w.heap.size, 0, none⟩) 7 7) (w.alloc (.cells (madeCells #[.bool false] 7) 4)) := fun w => run_make_row' (P := Tryz.prog) 23 4 (.bool false) 1 Tryz.underlying23 (by kernel_rfl) rfl .i64 .i64 7 (by omega) (by omega) w
    have HL7 := Lib.hid (And.intro hl0 hlt7)
    clear hl0 hlt7 HM0
    go_enter Tryz.func56, Tryz.ntmps56
    go_wp2_with fail
    refine (HM.out _).mono ?_
    rintro e w1 ⟨v, rfl, hown, hx⟩
    obtain ⟨g, c, rfl, hgB, hgs, hgc⟩ := hown.cells (by rw [HL7.out.1]; omega)
    rw [HL7.out.1] at hgc
    rw [HL7.out.1]
    have HGC := Lib.hid hgc
    have hxw := ((Ext.refl w).alloc _).trans hx
    have hsz := hxw.size
    clear hown hx hgB hgc hc
    go_wp2
    clear hmk
    go_loopw [7] (fun i wr => ∃ j : Nat, j ≤ 7 ∧ i = .int .i64 (j : Int) ∧ wr.rowIs w1.heap.size 4 7 (fun k => if k < j then encT (r.getD k false) else .bool false) ∧ Ext w1 wr) (fun i _ => 7 - (intOf i).toNat)
    case atStart => exact ⟨0, Nat.zero_le _, rfl, (World.rowIs_made w1 _ _ _).congr (fun i _ => by simp), (by repeat (first | exact Ext.refl _ | assumption | refine Ext.alloc ?_ _ | refine Ext.drew ?_ | refine Ext.trans ?_ (by assumption)))⟩
    case round =>
      obtain ⟨j, hj, rfl, hrow, hxr⟩ := hrel
      by_cases hlt : j < 7
      · have hcell := hrow.cell hlt
        have hfz := hrow.frozen j
        have HV := Lib.hid (H2.out j hlt)
        have hc0 := (hxr.cell (p := ⟨g, j, none⟩) hgs).trans (HGC.out j (by omega))
        obtain ⟨b, hb⟩ : ∃ b, m.getD j false = b := ⟨_, rfl⟩
        rw [hb] at hc0 HV
        have HR5 : Hid ((wr.setCell ⟨w1.heap.size, j, none⟩ (.bool (!b))).rowIs w1.heap.size 4 7 (fun k => if k < j + 1 then encT (r.getD k false) else .bool false)) :=
          Lib.hid ((hrow.set j (.bool (!b))).congr (fun k hk => by
            by_cases h1 : k = j
            · subst h1; rw [if_pos rfl, if_pos (by omega), HV.out]; rfl
            · rw [if_neg h1]
              by_cases h2 : k < j
              · rw [if_pos h2, if_pos (by omega)]
              · rw [if_neg h2, if_neg (by omega)]))
        have HX := Lib.hid (hxr.setCell (p := ⟨w1.heap.size, j, none⟩) (Nat.le_refl _) (.bool (!b)))
        clear hrow hxr hb HV
        go_wp2
        go_roundw
        case rel => exact ⟨j + 1, by omega, by go_num, HR5.out, HX.out⟩
        case measure => simp [intOf]; omega
      · obtain rfl : j = 7 := by omega
        have hsl := own_row (B := w.heap.size) hrow hsz (by unfold maxLen; omega)
        clear hj hlt hrow
        go_wp2
        go_ret
        refine ⟨_, rfl, hsl.congr ?_, hxw.trans hxr⟩
        apply List.ext_getElem
        · simp [HL7.out.2]
        · intro i h1 h2
          simp at h1 h2
          simp [h1, encT, h2]
end Go.Proofs.YtfpliihglgjijaaGreat
