/-
  Chapter 51: a line of a form that names a field: the program, where the words are right.
  No condition.
-/
import Derived.Test.YtkpfehfcgpapiaaGreatDoorFmVg
import Derived.Lib.SplitLaws
import Derived.Shelf.Strings.SplitCore
import Derived.Test.YtkpfehfcgpapiaaGreatDoorShelf

/-
  Chapter 51: a line of a form that names a field: the program, where the words are right.
  No condition.
-/
namespace Go.Proofs.YtkpfehfcgpapiaaGreatDoor
open Go.RowKit

theorem info_fld : (Tryz.prog.info? 39).map (fun i => (i.zero, i.size, i.bytes)) = some (some (.agg #[.string ⟨#[]⟩, .int .i64 0, .int .i64 0, .int .i64 0, .int .i64 0, .slice none 0 0, .bool false]), 7, 80) := by kernel_rfl
set_option maxRecDepth 100000 in
set_option maxHeartbeats 1000000 in
theorem parseLineF_any (B g : Nat) (nm : Fm.S) (fs : List Fm.Fld) (ss : List Fm.Sm) (vf vs : Value) (gs : List (Fm.Fld × Lie)) (hs : List (Fm.Sm × Lie)) (b o c : Nat) (X : ByteArray) (ws : List Fm.S) (f : Fm.Fld) (w : World) (hF : FrmO w B g nm fs ss vf vs gs hs) (hB : B ≤ w.heap.size)
    (hl : StrsR w (.slice (some ⟨b, o, none⟩) (ws.length + 1) c) (X.data.toList :: ws)) (hsum : X.data.toList ≠ Fm.tSum) (hk : Fm.kindOf X.data.toList ≠ 0) (hf : Fm.fldOf (Fm.kindOf X.data.toList) ws = some f) (hsz : ∀ s ∈ ws, s.length ≤ 1000000) (hn : ws.length ≤ 1000000) (hgn : gs.length ≤ 1000000) :
    Calls Tryz.prog 84 #[.pointer (some ⟨g, 0, none⟩), .slice (some ⟨b, o, none⟩) (ws.length + 1) c] w fun e w' => e = .returned .nilIface ∧ (∃ vf' gs', FrmO w' B g nm (fs ++ [f]) ss vf' vs gs' hs) ∧ Kp w w' B g := by
  have hwn : ws ≠ [] := by rintro rfl; cases hf
  have hw1 := List.length_pos_iff.2 hwn
  obtain ⟨b0, o0, ha0, hb, c0⟩ := strs_at hl (i := 0) (s := X.data.toList) rfl
  injection ha0 with ha0
  injection ha0 with ha1 ha2
  subst ha1 ha2
  replace c0 : w.cell? ⟨b, o, none⟩ = some (.string X) := c0
  obtain ⟨a', c', he, hcl⟩ := hl.form
  injection he with e1 e2 e3
  subst e3
  rw [List.length_cons] at hcl
  clear e1 e2
  have hl1 := strs_from hl 1 (by omega)
  obtain ⟨N, hN⟩ : ∃ N, N = ws.length + 1 := ⟨_, rfl⟩
  obtain ⟨N1, hN1⟩ : ∃ N1, N1 = ws.length := ⟨_, rfl⟩
  have hNN : ws.length + 1 - 1 = N1 := by omega
  rw [hNN] at hl1
  replace hl1 : StrsR w (.slice (some ⟨b, o + 1, none⟩) N1 (c - 1)) ws := hl1
  rw [← hN] at hl hcl ⊢
  have hNc : N - 1 = N1 := by omega
  have S1 : ∀ w', (Instr.slice 37 (.slice (some ⟨b, o, none⟩) N c) (some (.int .i64 1)) none none).run Tryz.prog w' = .ok (.slice (some ⟨b, o + 1, none⟩) N1 (c - 1)) w' := fun w' => by rw [← hNc]; exact slice_from b o N c 1 (by omega) hcl w'
  have hN0 : 0 < N := by omega
  have q1 : (X.toList == (⟨#[115, 117, 109]⟩ : ByteArray).toList) = false := by rw [Lib.toList_data, Lib.toList_data]; exact beq_eq_false_iff_ne.2 hsum
  have q3 : (X.toList == ([115, 117, 109] : List UInt8)) = false := by rw [Lib.toList_data]; exact beq_eq_false_iff_ne.2 hsum
  have q4 : decide (X.toList = ([115, 117, 109] : List UInt8)) = false := decide_eq_false (by rw [Lib.toList_data]; exact hsum)
  have q5 : ¬ X.toList = ([115, 117, 109] : List UInt8) := by rw [Lib.toList_data]; exact hsum
  have HK := Lib.hid (kind_any X w)
  have HPF := Lib.hid (parseField_any (Fm.kindOf X.data.toList) _ ws f w hl1 hf hsz hn)
  generalize Fm.kindOf X.data.toList = op at *
  have hop : (op == 0) = false := beq_eq_false_iff_ne.2 hk
  have HFO := Lib.hid hF
  have HL := Lib.hid hl
  clear hF hl hl1 hcl hN hN1 hNN hNc hf hsz hn hwn hw1 hk hsum
  go_enter Tryz.func84, Tryz.ntmps84
  go_wp2_with fail
  refine HK.out.mono ?_
  rintro e w0 ⟨rfl, rfl⟩
  go_wp2_with fail
  refine HPF.out.mono ?_
  rintro e w1 ⟨⟨⟨y1, y2, y3⟩, he, hy⟩, hx1⟩
  obtain ⟨Y, hY⟩ : ∃ Y : ByteArray, (⟨f.name.toArray⟩ : ByteArray) = Y := ⟨_, rfl⟩
  replace he : e = .returned (.tuple #[.agg #[.string Y, .int .i64 f.op, .int .i64 f.mn, .int .i64 f.mx, .int .i64 f.ck, .slice y1 y2 y3, .bool f.opt], .nilIface]) := by rw [← hY]; exact he
  have henc : encF (f, (y1, y2, y3)) = [.string Y, .int .i64 f.op, .int .i64 f.mn, .int .i64 f.mx, .int .i64 f.ck, .slice y1 y2 y3, .bool f.opt] := by rw [← hY]; rfl
  clear hY
  subst he
  obtain ⟨U, hU⟩ : ∃ U, U = ((w1.alloc (.cells #[.string Y, .int .i64 f.op, .int .i64 f.mn, .int .i64 f.mx, .int .i64 f.ck, .slice y1 y2 y3, .bool f.opt] 39)).alloc (.cells #[.string Y, .int .i64 f.op, .int .i64 f.mn, .int .i64 f.mx, .int .i64 f.ck, .slice y1 y2 y3, .bool f.opt] 39)).drew := ⟨_, rfl⟩
  have hxU : Ext w1 U := by rw [hU]; exact (((Ext.refl w1).alloc _).alloc _).drew
  have hzU : U.heap.size = w1.heap.size + 2 := by rw [hU]; simp
  have RZ : U.heap[w1.heap.size + 1]? = some (.cells #[.string Y, .int .i64 f.op, .int .i64 f.mn, .int .i64 f.mx, .int .i64 f.ck, .slice y1 y2 y3, .bool f.opt] 39 (0, 0)) := by
    rw [hU]
    have := heap_alloc_new (w1.alloc (.cells #[.string Y, .int .i64 f.op, .int .i64 f.mn, .int .i64 f.mx, .int .i64 f.ck, .slice y1 y2 y3, .bool f.opt] 39)) (.cells #[.string Y, .int .i64 f.op, .int .i64 f.mn, .int .i64 f.mx, .int .i64 f.ck, .slice y1 y2 y3, .bool f.opt] 39)
    rw [World.size_alloc] at this
    exact this
  have hFU := HFO.out.ext (hx1.trans hxU)
  have hKS : KSl 7 encF U (.slice (some ⟨w1.heap.size + 1, 0, none⟩) [(f, ((y1, y2, y3) : Lie))].length 1) [(f, ((y1, y2, y3) : Lie))] := by
    refine .inr ⟨w1.heap.size + 1, 0, 1, rfl, by omega, ?_⟩
    intro i x hi c hc
    cases i with
    | succ i => simp at hi
    | zero =>
      simp only [List.getElem?_cons_zero, Option.some.injEq] at hi
      subst hi
      rw [henc, Nat.zero_mul, Nat.zero_add]
      match c, hc with
      | 0, _ => exact cell_at RZ rfl
      | 1, _ => exact cell_at RZ rfl
      | 2, _ => exact cell_at RZ rfl
      | 3, _ => exact cell_at RZ rfl
      | 4, _ => exact cell_at RZ rfl
      | 5, _ => exact cell_at RZ rfl
      | 6, _ => exact cell_at RZ rfl
  obtain ⟨v5, w5, hrun, ho5, hg5⟩ := run_append_ks (enc := encF) (k := 7) (w := U) 22 39 22 _ 80 Tryz.underlying22 info_fld rfl (by decide) (by decide) encF_len encF_one B vf gs [(f, ((y1, y2, y3) : Lie))] hFU.flds (w1.heap.size + 1) 0 1 hKS (by simp; omega) (by have := hx1.size; omega)
  obtain ⟨q5, n5, c5, rfl⟩ : ∃ q n c, v5 = .slice q n c := by
    obtain ⟨q, c, e⟩ := (ho5.sl encF_len).form
    exact ⟨_, _, _, e⟩
  have hAD := Lib.hid (hFU.addF (hy.ext hxU |>.mono (show B ≤ w.heap.size from hB)) ho5 hg5)
  have r1 := row_on HFO.out.row hx1
  have r5 : w5.heap[g]? = some (.cells #[strV nm, vf, vs] 25 (0, 0)) := by
    have hgo := hFU.flds.off hFU.row (by decide)
    rw [hg5.block g (lt_at hFU.row) (fun e => hgo.elim (fun h1 => by rw [h1] at e; cases e) (fun h1 => h1 e.symm))]
    exact hFU.row
  have p1 : w1.cell? ⟨g, 1, none⟩ = some vf := cell_at r1 rfl
  have l1 := lt_at r1
  have d5 : w5.cell? ⟨g, 1, none⟩ = some vf := cell_at r5 rfl
  have ff5 : w5.frozen? ⟨g, 1, none⟩ = false := frz_at r5
  have hKP := Lib.hid (Kp.ofExt (hx1.trans hxU) B g)
  have HVE := Lib.hid hU
  rw [hU] at hrun
  simp [go_sem] at hrun
  clear hU RZ hFU hKS ho5 hg5 r1 r5 hy henc hzU hxU
  go_wp2
  go_region
  go_wp2
  go_ret
  exact ⟨rfl, ⟨_, _, hAD.out.1⟩, hKP.out.trans hAD.out.2⟩
end Go.Proofs.YtkpfehfcgpapiaaGreatDoor

/-
  Chapter 51: a line of a form that names a sum: the program, where the words are right.
  No condition.
-/
namespace Go.Proofs.YtkpfehfcgpapiaaGreatDoor
open Go.RowKit

theorem info_sum : (Tryz.prog.info? 56).map (fun i => (i.zero, i.size, i.bytes)) = some (some (.agg #[.string ⟨#[]⟩, .slice none 0 0]), 2, 40) := by kernel_rfl
set_option maxRecDepth 100000 in
set_option maxHeartbeats 1000000 in
theorem parseLineS_any (B g : Nat) (nm : Fm.S) (fs : List Fm.Fld) (ss : List Fm.Sm) (vf vs : Value) (gs : List (Fm.Fld × Lie)) (hs : List (Fm.Sm × Lie)) (b o c : Nat) (Y : ByteArray) (ps : List Fm.S) (w : World) (hF : FrmO w B g nm fs ss vf vs gs hs) (hB : B ≤ w.heap.size)
    (hl : StrsR w (.slice (some ⟨b, o, none⟩) (ps.length + 2) c) (Fm.tSum :: Y.data.toList :: ps)) (hps : ps ≠ []) (hn : ps.length ≤ 1000000) (hgn : hs.length ≤ 1000000) :
    Calls Tryz.prog 84 #[.pointer (some ⟨g, 0, none⟩), .slice (some ⟨b, o, none⟩) (ps.length + 2) c] w fun e w' => e = .returned .nilIface ∧ (∃ vs' hs', FrmO w' B g nm fs (ss ++ [⟨Y.data.toList, ps⟩]) vf vs' gs hs') ∧ Kp w w' B g := by
  have hw1 := List.length_pos_iff.2 hps
  obtain ⟨b0, o0, ha0, hb, c0⟩ := strs_at hl (i := 0) (s := Fm.tSum) rfl
  injection ha0 with ha0
  injection ha0 with ha1 ha2
  subst ha1 ha2
  replace c0 : w.cell? ⟨b, o, none⟩ = some (.string ⟨#[115, 117, 109]⟩) := c0
  have c1 : w.cell? ⟨b, o + 1, none⟩ = some (.string Y) := strs_cell hl (i := 1) rfl
  obtain ⟨a', c', he, hcl⟩ := hl.form
  injection he with e1 e2 e3
  subst e3
  simp only [List.length_cons] at hcl
  clear e1 e2
  have hl1 := strs_from hl 2 (by omega)
  obtain ⟨N, hN⟩ : ∃ N, N = ps.length + 2 := ⟨_, rfl⟩
  obtain ⟨N1, hN1⟩ : ∃ N1, N1 = ps.length := ⟨_, rfl⟩
  have hNN : ps.length + 2 - 2 = N1 := by omega
  rw [hNN] at hl1
  replace hl1 : StrsR w (.slice (some ⟨b, o + 2, none⟩) N1 (c - 2)) ps := hl1
  rw [← hN] at hl ⊢
  have hNc : N - 2 = N1 := by omega
  have S1 : ∀ w', (Instr.slice 37 (.slice (some ⟨b, o, none⟩) N c) (some (.int .i64 2)) none none).run Tryz.prog w' = .ok (.slice (some ⟨b, o + 2, none⟩) N1 (c - 2)) w' := fun w' => by rw [← hNc]; exact slice_from b o N c 2 (by omega) (by omega) w'
  have hN0 : 0 < N := by omega
  have hN01 : 1 < N := by omega
  have hN3 : decide ((N : Int) < 3) = false := decide_eq_false (by omega)
  have hN3' : ¬ (N : Int) < 3 := by omega
  have HFO := Lib.hid hF
  have HL := Lib.hid hl
  have hlt := lt_at hF.row
  obtain ⟨v1, w1, hrun1, ho1, hg1⟩ := run_append_sl (w := w.drew) w.drew.heap.size (.slice none 0 0) [] (KOwn.nil _ _ _ _ _) (some ⟨b, o + 2, none⟩) N1 (c - 2) ps (hl1.ext ((Ext.refl w).drew)) hw1 (by simp; omega) (Nat.le_refl _)
  rw [List.nil_append] at ho1
  have hx1 : Ext w w1 := ((Ext.refl w).drew).ofGrown hg1 (fun k hk => by cases hk)
  obtain ⟨q1, n1, k1, rfl⟩ : ∃ q n c, v1 = .slice q n c := by
    obtain ⟨q, c, e, -⟩ := (KOwn.strs ho1).form
    exact ⟨_, _, _, e⟩
  obtain ⟨U, hU⟩ : ∃ U, U = (w1.alloc (.cells #[.string Y, .slice q1 n1 k1] 56)) := ⟨_, rfl⟩
  have hxU : Ext w1 U := by rw [hU]; exact (Ext.refl w1).alloc _
  have hzU : U.heap.size = w1.heap.size + 1 := by rw [hU]; simp
  have RZ : U.heap[w1.heap.size]? = some (.cells #[.string Y, .slice q1 n1 k1] 56 (0, 0)) := by
    rw [hU]
    exact heap_alloc_new w1 (.cells #[.string Y, .slice q1 n1 k1] 56)
  have hFU := hF.ext (hx1.trans hxU)
  have hKS : KSl 2 encM U (.slice (some ⟨w1.heap.size, 0, none⟩) [((⟨Y.data.toList, ps⟩ : Fm.Sm), ((q1, n1, k1) : Lie))].length 1) [((⟨Y.data.toList, ps⟩ : Fm.Sm), ((q1, n1, k1) : Lie))] := by
    refine .inr ⟨w1.heap.size, 0, 1, rfl, by omega, ?_⟩
    intro i x hi c hc
    cases i with
    | succ i => simp at hi
    | zero =>
      simp only [List.getElem?_cons_zero, Option.some.injEq] at hi
      subst hi
      rw [Nat.zero_mul, Nat.zero_add]
      match c, hc with
      | 0, _ => exact cell_at RZ rfl
      | 1, _ => exact cell_at RZ rfl
  obtain ⟨v5, w5, hrun2, ho5, hg5⟩ := run_append_ks (enc := encM) (k := 2) (w := U) 23 56 23 _ 40 Tryz.underlying23 info_sum rfl (by decide) (by decide) encM_len encM_one B vs hs [((⟨Y.data.toList, ps⟩ : Fm.Sm), ((q1, n1, k1) : Lie))] hFU.sums w1.heap.size 0 1 hKS (by simp; omega) (by have := hx1.size; omega)
  obtain ⟨q5, n5, c5, rfl⟩ : ∃ q n c, v5 = .slice q n c := by
    obtain ⟨q, c, e⟩ := (ho5.sl encM_len).form
    exact ⟨_, _, _, e⟩
  have hAD := Lib.hid (hFU.addS (s := ⟨Y.data.toList, ps⟩) (y := (q1, n1, k1)) ((ho1.ext hxU).mono (show B ≤ w.drew.heap.size from hB)) ho5 hg5)
  have r0 := hF.row
  have r1 := row_on hF.row hx1
  have r5 : w5.heap[g]? = some (.cells #[strV nm, vf, vs] 25 (0, 0)) := by
    have hgo := hFU.sums.off hFU.row (by decide)
    rw [hg5.block g (lt_at hFU.row) (fun e => hgo.elim (fun h1 => by rw [h1] at e; cases e) (fun h1 => h1 e.symm))]
    exact hFU.row
  have p0 : w.cell? ⟨g, 2, none⟩ = some vs := cell_at r0 rfl
  have p1 : w1.cell? ⟨g, 2, none⟩ = some vs := cell_at r1 rfl
  have m1 : w1.cell? ⟨b, o + 1, none⟩ = some (.string Y) := (hx1.cell (p := ⟨b, o + 1, none⟩) hb).trans c1
  have l1 := lt_at r1
  have lb1 : b < w1.heap.size := Nat.lt_of_lt_of_le hb hx1.size
  have d5 : w5.cell? ⟨g, 2, none⟩ = some vs := cell_at r5 rfl
  have ff5 : w5.frozen? ⟨g, 2, none⟩ = false := frz_at r5
  have hKP := Lib.hid (Kp.ofExt (hx1.trans hxU) B g)
  have HVE := Lib.hid hU
  rw [hU] at hrun2
  simp [go_sem] at hrun1 hrun2
  clear hU RZ hFU hKS ho5 hg5 r0 r1 r5 hzU hxU ho1 hg1 hx1 hF hl hl1 hcl hN hN1 hNN hNc hw1
  go_enter Tryz.func84, Tryz.ntmps84
  go_wp2
  go_region
  go_wp2
  go_ret
  exact ⟨rfl, ⟨_, _, hAD.out.1⟩, hKP.out.trans hAD.out.2⟩
end Go.Proofs.YtkpfehfcgpapiaaGreatDoor

/-
  Chapter 51: a text's lines: the program (strings.Split).
  No condition.
-/
namespace Go.Proofs.YtkpfehfcgpapiaaGreatDoor
open Go.RowKit

theorem Fm.lgo_idx (c : UInt8) (hc : c = 10) : ∀ (s cur : Fm.S), Fm.lgo cur s = if Lib.indexByte s c = -1 then [cur ++ s] else (cur ++ s.take (Lib.indexByte s c).toNat) :: Fm.lgo [] (s.drop ((Lib.indexByte s c).toNat + 1)) := by
  intro s
  induction s with
  | nil => intro cur; simp [Fm.lgo, Lib.indexByte]
  | cons b l ih =>
    intro cur
    have hge := Lib.indexByte_ge l c
    by_cases hb : b = c
    · subst hb
      have e0 : Lib.indexByte (b :: l) b = 0 := by simp [Lib.indexByte]
      rw [e0, Fm.lgo, if_pos hc, if_neg (by decide)]
      simp
    · have hbc : (b == c) = false := by simpa using hb
      by_cases hn : Lib.indexByte l c = -1
      · have e0 : Lib.indexByte (b :: l) c = -1 := by simp [Lib.indexByte, hbc, hn]
        rw [e0, if_pos rfl, Fm.lgo, if_neg (by rw [← hc]; exact hb), ih, if_pos hn, List.append_assoc]; try rfl
      · obtain ⟨o, ho⟩ : ∃ o : Nat, Lib.indexByte l c = o := ⟨(Lib.indexByte l c).toNat, by omega⟩
        have e0 : Lib.indexByte (b :: l) c = ((o + 1 : Nat) : Int) := by
          simp only [Lib.indexByte, hbc, ho]
          have h1 : ((o : Int) == -1) = false := by rw [beq_eq_false_iff_ne]; omega
          rw [h1]; simp
        rw [e0, if_neg (by omega), Fm.lgo, if_neg (by rw [← hc]; exact hb), ih, if_neg hn, ho]
        simp only [Int.toNat_natCast, List.take_succ_cons, List.drop_succ_cons, List.append_assoc, List.cons_append, List.nil_append]
theorem Fm.split_lines : ∀ (k : Nat) (s : Fm.S), s.count 10 = k → Lib.splitK [10] 0 k s = Fm.linesOf s := by
  intro k
  induction k with
  | zero =>
    intro s hs
    unfold Fm.linesOf
    rw [Fm.lgo_idx 10 rfl, if_pos ?_]
    · rfl
    · have := Lib.count_one 10 s
      rcases Lib.indexB_cases ⟨s.toArray⟩ ⟨#[10]⟩ with h | ⟨i, h, _⟩
      · have h' : Lib.index s [10] = -1 := h
        rw [Lib.index_one] at h'
        exact h'
      · have h' : Lib.index s [10] = (i : Int) := h
        rw [Lib.index_one] at h'
        have := (Lib.indexByte_some h').1
        exact absurd (List.mem_of_getElem? this) (List.count_eq_zero.1 hs)
  | succ k ih =>
    intro s hs
    have hm : (10 : UInt8) ∈ s := List.count_pos_iff.1 (by omega)
    unfold Lib.splitK Fm.linesOf
    rw [Lib.index_one, Fm.lgo_idx 10 rfl]
    have hge := Lib.indexByte_ge s 10
    by_cases hn : Lib.indexByte s 10 = -1
    · obtain ⟨j, hj⟩ := List.getElem?_of_mem hm
      exact absurd hj (Lib.indexByte_none hn j)
    · rw [if_neg hn, if_neg (by simpa using hn)]
      obtain ⟨o, ho⟩ : ∃ o : Nat, Lib.indexByte s 10 = o := ⟨(Lib.indexByte s 10).toNat, by omega⟩
      rw [ho]
      simp only [Int.toNat_natCast, Nat.add_zero, List.nil_append, List.length_cons, List.length_nil, Nat.zero_add]
      congr 1
      refine ih _ ?_
      have h1 := Lib.indexByte_some ho
      have hlt := (List.getElem?_eq_some_iff.1 h1.1).1
      have e : s = s.take o ++ 10 :: s.drop (o + 1) := by
        have e1 := (List.getElem?_eq_some_iff.1 h1.1).2
        conv => lhs; rw [← List.take_append_drop o s, List.drop_eq_getElem_cons hlt, e1]
      have h0 : (s.take o).count 10 = 0 := by
        refine List.count_eq_zero.2 fun hmem => ?_
        obtain ⟨j, hj⟩ := List.getElem?_of_mem hmem
        have hjl := (List.getElem?_eq_some_iff.1 hj).1
        rw [List.length_take] at hjl
        rw [List.getElem?_take_of_lt (by omega)] at hj
        exact h1.2 j (by omega) hj
      rw [e, List.count_append, h0, List.count_cons_self] at hs
      omega
theorem split_any (s : ByteArray) (w : World) (hs : s.size ≤ 100000) :
    Calls Tryz.prog 82 #[.string s, .string ⟨#[10]⟩] w fun e w' => (∃ v, e = .returned v ∧ OwnW w' w.heap.size v (Fm.linesOf s.data.toList)) ∧ Ext w w' := by
  have hle := Lib.countB_le ⟨#[10]⟩ (by decide) s.size s (Nat.le_refl _)
  have hlen := Lib.splitB_all ⟨#[10]⟩ (by decide) 0 _ s rfl
  have hI : ∀ (x : ByteArray) (c : Array Value), x.size ≤ s.size → Calls Tryz.prog 152 #[.string x, .string ⟨#[10]⟩] (w.alloc (.cells c 9)) fun e w' => e = .returned (.int .i64 (Lib.indexB x ⟨#[10]⟩)) ∧ w' = w.alloc (.cells c 9) := fun x c _ => by
    have h : Lib.indexB x ⟨#[10]⟩ = Lib.indexByte x.data.toList 10 := Lib.index_one _ _
    rw [h]
    exact Tryz.strings_Index_one x 10 _
  have hC : Calls Tryz.prog 151 #[.string s, .string ⟨#[10]⟩] w fun e w' => e = .returned (.int .i64 (Lib.countB s ⟨#[10]⟩)) ∧ w' = w := by
    have h : Lib.countB s ⟨#[10]⟩ = Lib.countByte s.data.toList 10 := Lib.count_one _ _
    rw [h]
    exact Tryz.strings_Count_one s 10 w
  have c := Any.strings_genSplit_core Tryz.lays221 (by kernel_rfl) s ⟨#[10]⟩ 0 (-1) (Lib.countB s ⟨#[10]⟩ + 1) w (by omega) (by decide) (Nat.zero_le _) hI hC (by decide) (by decide) (by rw [if_pos (by decide)]; omega)
  rw [Nat.add_sub_cancel, hlen] at c
  have e2 : Lib.cellsOf (Lib.splitB ⟨#[10]⟩ 0 (Lib.countB s ⟨#[10]⟩) s) (Lib.countB s ⟨#[10]⟩ + 1) = ((Lib.splitB ⟨#[10]⟩ 0 (Lib.countB s ⟨#[10]⟩) s).map Value.string).toArray := by rw [← hlen]; exact Lib.cellsOf_full _
  rw [e2] at c
  have hd := Lib.splitB_data ⟨#[10]⟩ 0 (Lib.countB s ⟨#[10]⟩) s
  rw [show (⟨#[10]⟩ : ByteArray).data.toList = [10] from rfl, Fm.split_lines (Lib.countB s ⟨#[10]⟩) s.data.toList (Lib.count_one 10 s.data.toList).symm] at hd
  have hll : (Fm.linesOf s.data.toList).length = Lib.countB s ⟨#[10]⟩ + 1 := by rw [← hd, List.length_map, hlen]
  have hown := (litO.new w.heap.size (Fm.linesOf s.data.toList) ((Lib.splitB ⟨#[10]⟩ 0 (Lib.countB s ⟨#[10]⟩) s).map Value.string).toArray w (by rw [← hd, List.map_map]; rfl) (Nat.le_refl _) (by omega)).1
  rw [hll] at hown
  generalize Lib.countB s ⟨#[10]⟩ = k at *
  generalize Lib.splitB ⟨#[10]⟩ 0 k s = L at *
  have HC := Lib.hid c
  have HO := Lib.hid hown
  clear c hown hI hC e2 hd hll hlen hle
  go_enter Tryz.func82, Tryz.ntmps82
  go_wp2_with fail
  refine Calls.mono HC.out ?_
  rintro e w' ⟨rfl, rfl⟩
  go_wp2
  go_ret
  exact ⟨⟨_, rfl, HO.out⟩, (Ext.refl w).alloc _⟩
end Go.Proofs.YtkpfehfcgpapiaaGreatDoor

/-
  Chapter 51: the loop over a text's lines: what it needs.
  No condition.
-/
namespace Go.Proofs.YtkpfehfcgpapiaaGreatDoor
open Go.RowKit

theorem Fm.wgo_len : ∀ (s cur : Fm.S), (∀ w ∈ Fm.wgo cur s, w.length ≤ cur.length + s.length) ∧ (Fm.wgo cur s).length ≤ s.length + 1 := by
  intro s
  induction s with
  | nil =>
    intro cur
    unfold Fm.wgo
    by_cases h : cur = []
    · rw [if_pos h]; exact ⟨fun w hw => by simp at hw, by simp⟩
    · rw [if_neg h]; exact ⟨fun w hw => by rw [List.mem_singleton] at hw; rw [hw]; simp, by simp⟩
  | cons c r ih =>
    intro cur
    unfold Fm.wgo
    have h0 := ih []
    have h1 := ih (cur ++ [c])
    by_cases hc : c = 32
    · rw [if_pos hc]
      by_cases h : cur = []
      · rw [if_pos h]
        exact ⟨fun w hw => by have := h0.1 w hw; simp at this ⊢; omega, by have := h0.2; simp; omega⟩
      · rw [if_neg h]
        refine ⟨fun w hw => ?_, by have := h0.2; simp; omega⟩
        rcases List.mem_cons.1 hw with rfl | hw
        · simp
        · have := h0.1 w hw; simp at this ⊢; omega
    · rw [if_neg hc]
      exact ⟨fun w hw => by have := h1.1 w hw; simp at this ⊢; omega, by have := h1.2; simp; omega⟩
theorem Fm.lgo_len : ∀ (s cur : Fm.S), (∀ w ∈ Fm.lgo cur s, w.length ≤ cur.length + s.length) ∧ (Fm.lgo cur s).length ≤ s.length + 1 := by
  intro s
  induction s with
  | nil =>
    intro cur
    unfold Fm.lgo
    exact ⟨fun w hw => by rw [List.mem_singleton] at hw; rw [hw]; simp, by simp⟩
  | cons c r ih =>
    intro cur
    unfold Fm.lgo
    have h0 := ih []
    have h1 := ih (cur ++ [c])
    by_cases hc : c = 10
    · rw [if_pos hc]
      refine ⟨fun w hw => ?_, by have := h0.2; simp; omega⟩
      rcases List.mem_cons.1 hw with rfl | hw
      · simp
      · have := h0.1 w hw; simp at this ⊢; omega
    · rw [if_neg hc]
      exact ⟨fun w hw => by have := h1.1 w hw; simp at this ⊢; omega, by have := h1.2; simp; omega⟩
theorem Fm.words_short (s w : Fm.S) (h : w ∈ Fm.words s) : w.length ≤ s.length := by have := (Fm.wgo_len s []).1 w h; simpa using this
theorem Fm.words_few (s : Fm.S) : (Fm.words s).length ≤ s.length + 1 := (Fm.wgo_len s []).2
theorem Fm.lines_short (s l : Fm.S) (h : l ∈ Fm.linesOf s) : l.length ≤ s.length := by have := (Fm.lgo_len s []).1 l h; simpa using this
theorem Fm.lines_few (s : Fm.S) : (Fm.linesOf s).length ≤ s.length + 1 := (Fm.lgo_len s []).2
/-- One line more. -/
theorem Fm.runL_step {st st' : Fm.St} {ls : List Fm.S} {i : Nat} {l : Fm.S} (hl : ls[i]? = some l) (hr : Fm.runL st (ls.take i) = some st') : Fm.runL st (ls.take (i + 1)) = Fm.stepL st' (Fm.words l) := by
  rw [List.take_add_one, hl, Fm.runL_app, hr]
  show Fm.runL st' [l] = _
  unfold Fm.runL
  cases h : Fm.stepL st' (Fm.words l) with
  | none => rfl
  | some x => rfl
/-- Where the whole is read, each line is. -/
theorem Fm.runL_all {st : Fm.St} {ls : List Fm.S} {fin : Fm.St} (h : Fm.runL st ls = some fin) (i : Nat) : ∃ st', Fm.runL st (ls.take i) = some st' := by
  rw [← List.take_append_drop i ls, Fm.runL_app] at h
  cases h1 : Fm.runL st (ls.take i) with
  | none => rw [h1] at h; cases h
  | some x => exact ⟨x, rfl⟩
variable {w : World} {B g : Nat} {nm : Fm.S} {fs : List Fm.Fld} {ss : List Fm.Sm} {vf vs : Value} {gs : List (Fm.Fld × Lie)} {hs : List (Fm.Sm × Lie)}
/-- The form's name. -/
theorem FrmO.setN (h : FrmO w B g nm fs ss vf vs gs hs) (nm' : Fm.S) : FrmO (w.setCell ⟨g, 0, none⟩ (strV nm')) B g nm' fs ss vf vs gs hs ∧ Kp w (w.setCell ⟨g, 0, none⟩ (strV nm')) B g := by
  have hst := grown_set w g 0 (strV nm')
  exact ⟨⟨heap_set h.row, h.flds.kept hst (h.flds.off h.row (by decide)), h.sums.kept hst (h.sums.off h.row (by decide)), fun x hx => (h.inF x hx).kept hst ((h.inF x hx).off h.row (by decide)), fun x hx => (h.inS x hx).kept hst ((h.inS x hx).off h.row (by decide)), h.ef, h.es⟩, Kp.set w B g 0 _⟩
/-- No row yet. -/
theorem FrmO.none (hr : w.heap[g]? = some (.cells #[strV nm, .slice .none 0 0, .slice .none 0 0] 25 (0, 0))) : FrmO w B g nm [] [] (.slice .none 0 0) (.slice .none 0 0) [] [] :=
  ⟨hr, KOwn.nil _ _ _ _ _, KOwn.nil _ _ _ _ _, fun x hx => by simp at hx, fun x hx => by simp at hx, rfl, rfl⟩
end Go.Proofs.YtkpfehfcgpapiaaGreatDoor
