/-
  Chapter 51: Verify: the program.
  No condition.
-/
import Derived.Test.YtkpfehfcgpapiaaGreatDoorFmVc
import Derived.Test.YtkpfehfcgpapiaaGreatDoorFmVb
import Derived.Test.YtkpfehfcgpapiaaGreatDoorFmPa
import Derived.Test.YtkpfehfcgpapiaaGreatDoorFmXa
import Derived.Test.YtkpfehfcgpapiaaGreatDoorIdx
import Derived.Test.YtkpfehfcgpapiaaGreatDoorStr

/-
  Chapter 51: Verify: the program.
  No condition.
-/
namespace Go.Proofs.YtkpfehfcgpapiaaGreatDoor
open Go.RowKit

def encIs (x : Fm.Iss) : List Value := [strV x.1, .int .i64 x.2]
theorem encIs_len (x : Fm.Iss) : (encIs x).length = 2 := rfl
theorem encIs_one (x : Fm.Iss) : ∀ v ∈ encIs x, v.oneCell' = true := by
  intro v hv
  simp only [encIs, List.mem_cons, List.not_mem_nil, or_false] at hv
  rcases hv with rfl | rfl <;> rfl
theorem info_iss : (Tryz.prog.info? 54).map (fun i => (i.zero, i.size, i.bytes)) = some (some (.agg #[.string ⟨#[]⟩, .int .i64 0]), 2, 24) := by kernel_rfl
abbrev OwnI (w : World) (B : Nat) (v : Value) (xs : List Fm.Iss) : Prop := KOwn 54 2 encIs w B v xs
theorem append_iss {w : World} {ops : Array Oper} {rest : List Oper} {o : Oper} {a : Act} {Q : Exit → Act → World → Prop} (hgd : o.guard = none) (s x : Operand)
    (ho : o.op = .call { callee := .builtin .append, args := #[s, x], argTypes := #[44, 44] })
    (B : Nat) (v : Value) (xs : List Fm.Iss) (hs : a.eval s = v) (hown : OwnI w B v xs) (b : Nat) (X : ByteArray) (z : Int) (hx : a.eval x = .slice (some ⟨b, 0, none⟩) 1 1)
    (h0 : w.cell? ⟨b, 0, none⟩ = some (.string X)) (h1 : w.cell? ⟨b, 1, none⟩ = some (.int .i64 z)) (hn : xs.length ≤ 999999999) (hB : B ≤ w.heap.size)
    (h : ∀ v' w', OwnI w' B v' (xs ++ [(X.data.toList, z)]) → w.grownBy w' v.ownBlock → wpList Tryz.prog ops Q rest (a.put o.dst v') w') : wpList Tryz.prog ops Q (o :: rest) a w := by
  refine append_k (enc := encIs) (k := 2) hgd s x 44 54 (.agg #[.string ⟨#[]⟩, .int .i64 0]) 24 ho Tryz.underlying44 info_iss rfl (by decide) (by decide) encIs_len encIs_one B v xs hs hown b (X.data.toList, z) hx ?_ hn hB h
  intro c r hc
  match c with
  | 0 =>
    have : r = .string X := by rw [← strV_mk]; exact (Option.some.inj hc).symm
    rw [h0, this]
  | 1 =>
    have : r = .int .i64 z := (Option.some.inj hc).symm
    rw [h1, this]
  | c + 2 => simp [encIs] at hc
/-- Issues and a code are returned. -/
def IssR (r : List Fm.Iss × Int) (w : World) (e : Ending) (w' : World) : Prop := ∃ v, e = .returned (.tuple #[v, .int .i64 r.2]) ∧ KSl 2 encIs w' v r.1 ∧ Ext w w'
abbrev MapN (w : World) (b n : Nat) (f : Fm.S → Option Int) : Prop := MapI Tryz.prog 9 w b n f
theorem MapI.ext {w w' : World} {b n : Nat} {f : Fm.S → Option Int} (h : MapN w b n f) (hx : Ext w w') : MapN w' b n f := h.kept hx.asGrown (by simp)
theorem map_get {w : World} {b n : Nat} {f : Fm.S → Option Int} (h : MapN w b n f) (X : ByteArray) (x : Fm.S) (hX : X.data.toList = x) (hs : x.length ≤ Go.maxLen) :
    (Instr.lookup 81 (.map (some b)) (.string X) true).run Tryz.prog w = .ok (.tuple #[.int .i64 ((f x).getD 0), .bool (f x).isSome]) w := by
  have := MapI.get (T := 81) h Tryz.underlying9 Tryz.underlying81 (by kernel_rfl) X (by rw [← len_data, hX]; exact hs)
  rw [hX] at this
  exact this
theorem map_put {w : World} {b n : Nat} {f : Fm.S → Option Int} (h : MapN w b n f) (X : ByteArray) (x : Fm.S) (hX : X.data.toList = x) (hs : x.length ≤ Go.maxLen) (m : Int) (hn : n < Go.maxLen) :
    ∃ w', (Instr.mapUpdate 81 (.map (some b)) (.string X) (.int .i64 m)).run Tryz.prog w = .ok () w' ∧ MapN w' b (n + 1) (fun y => if y = x then some m else f y) ∧ w.grownBy w' (some b) := by
  have := MapI.put (T := 81) h Tryz.underlying9 Tryz.underlying81 X (by rw [← len_data, hX]; exact hs) m hn
  rw [hX] at this
  exact this
theorem map_made {w : World} {n : Nat} (h : w.heap.size = n) : MapN (w.alloc (.map #[] 0)) n 0 (fun _ => none) := by subst h; exact MapI.made w
/-- A boxed field in a later world. -/
theorem kept7' {V wr : World} {b : Nat} {x0 x1 x2 x3 x4 x5 x6 : Value} {t : TypeId} (r : V.heap[b]? = some (.cells #[x0, x1, x2, x3, x4, x5, x6] t (0, 0))) (h : Ext V wr) :
    wr.cell? ⟨b, 0, none⟩ = some x0 ∧ wr.cell? ⟨b, 1, none⟩ = some x1 ∧ wr.cell? ⟨b, 2, none⟩ = some x2 ∧ wr.cell? ⟨b, 3, none⟩ = some x3 ∧ wr.cell? ⟨b, 4, none⟩ = some x4 ∧ wr.cell? ⟨b, 5, none⟩ = some x5 ∧ wr.cell? ⟨b, 6, none⟩ = some x6 := by
  have r := row_on r h
  exact ⟨cell_at r rfl, cell_at r rfl, cell_at r rfl, cell_at r rfl, cell_at r rfl, cell_at r rfl, cell_at r rfl⟩

/-- The number of a right value. -/
theorem right_num (Y : ByteArray) (hs : Y.size ≤ 9223372036854775807) (w : World) (hE : Errs w) (h : Y.data.toList.length ≠ 0 → Fm.written Y.data.toList = true ∧ Fm.capOf Y.data.toList = Fm.valOf Y.data.toList) :
    Calls Tryz.prog 54 #[.string Y] w fun e w' => (∃ ev, e = .returned (.tuple #[.int .i64 (if Y.data.toList.length = 0 then 0 else Fm.valOf Y.data.toList), ev])) ∧ Ext w w' := by
  by_cases h0 : Y.data.toList.length = 0
  · rw [if_pos h0]
    have hn : Y.data.toList = [] := List.eq_nil_of_length_eq_zero h0
    exact (number_bad Y hs w hE (by rw [hn]; rfl)).mono fun e w' ⟨E, p, he, hx⟩ => ⟨⟨_, he⟩, hx⟩
  · rw [if_neg h0]
    obtain ⟨h1, h2⟩ := h h0
    rw [← h2]
    exact (number_ok Y hs w h1).mono fun e w' ⟨he, hx⟩ => ⟨⟨_, he⟩, hx⟩

set_option maxRecDepth 100000 in
set_option maxHeartbeats 4000000 in
theorem fverify_any (NM : ByteArray) (a : Option Addr) (n c : Nat) (a2 : Option Addr) (n2 c2 : Nat) (fs : List Fm.Fld) (ss : List Fm.Sm) (va : Option Addr) (vn vc : Nat) (vs : List Fm.S) (w : World) (hf : FldsR w (.slice a n c) fs) (hm : SumsR w (.slice a2 n2 c2) ss) (hB : ∀ f ∈ fs, FldB f) (hM : ∀ r ∈ ss, SmB r)
    (hv : StrsR w (.slice va vn vc) vs) (hsv : Short Go.maxLen vs) (hE : Errs w) :
    Calls Tryz.prog 24 #[.agg #[.string NM, .slice a n c, .slice a2 n2 c2], .slice va vn vc] w (IssR (Fm.verify ⟨NM.data.toList, fs, ss⟩ vs) w) := by
  obtain ⟨a', c', he⟩ := hf.form
  injection he with e1 e2 e3
  subst e1 e3
  obtain ⟨a', c', he⟩ := hm.form
  injection he with e1 e4 e3
  subst e1 e3
  obtain ⟨a', c', he, _⟩ := hv.form
  injection he with e1 e5 e3
  subst e1 e3
  have HR := Lib.hid (Fm.verify.eq_1 ⟨NM.data.toList, fs, ss⟩ vs)
  dsimp only at HR
  generalize Fm.verify ⟨NM.data.toList, fs, ss⟩ vs = res at *
  rw [← e2, ← e5] at HR
  have HN := Lib.hid e2.symm
  have HN2 := Lib.hid e4.symm
  have HN3 := Lib.hid e5.symm
  have HC := Lib.hid (fun (w' : World) (hx : Ext w w') => check_any NM a n c a2 n2 c2 fs ss w' (hf.ext hx) (hm.ext hx) hB hM)
  have HF := Lib.hid hf
  have HS := Lib.hid hm
  have HB := Lib.hid hB
  have HM := Lib.hid hM
  have HV := Lib.hid hv
  have HSV := Lib.hid hsv
  have HE := Lib.hid hE
  clear hf hm hB hM e2 e4 e5 hv hsv hE
  by_cases hc : Fm.check ⟨NM.data.toList, fs, ss⟩ = 0
  rotate_left
  · rw [if_neg hc] at HR
    generalize Fm.check ⟨NM.data.toList, fs, ss⟩ = z at *
    have z0 : (z == 0) = false := beq_eq_false_iff_ne.2 hc
    clear hc
    go_enter Tryz.func24, Tryz.ntmps24
    go_wp2_with fail
    refine (HC.out _ (by repeat (first | exact Ext.refl _ | assumption | refine Ext.alloc ?_ _ | refine Ext.drew ?_ | refine Ext.trans ?_ (by assumption)))).mono ?_
    rintro e w1 ⟨rfl, hx1⟩
    go_wp2
    go_ret2
    exact ⟨_, by rw [HR.out]; rfl, by rw [HR.out]; exact KSl.nil _ _ _, (by repeat (first | exact Ext.refl _ | assumption | refine Ext.alloc ?_ _ | refine Ext.drew ?_ | refine Ext.trans ?_ (by assumption)))⟩
  rw [if_pos hc] at HR
  have HCK := Lib.hid hc
  rw [hc] at HC
  clear hc
  by_cases hl : vn = n
  rotate_left
  · rw [if_neg hl] at HR
    have z0 : ((vn : Int) == (n : Int)) = false := by rw [beq_eq_false_iff_ne]; omega
    clear hl
    go_enter Tryz.func24, Tryz.ntmps24
    go_wp2_with fail
    refine (HC.out _ (by repeat (first | exact Ext.refl _ | assumption | refine Ext.alloc ?_ _ | refine Ext.drew ?_ | refine Ext.trans ?_ (by assumption)))).mono ?_
    rintro e w1 ⟨rfl, hx1⟩
    obtain ⟨k0, k1, k2⟩ := kept3 hx1
    go_wp2
    go_ret2
    exact ⟨_, by rw [HR.out]; rfl, by rw [HR.out]; exact KSl.nil _ _ _, (by repeat (first | exact Ext.refl _ | assumption | refine Ext.alloc ?_ _ | refine Ext.drew ?_ | refine Ext.trans ?_ (by assumption)))⟩
  subst hl
  rw [if_pos rfl] at HR
  have z0 : ((vn : Int) == (vn : Int)) = true := beq_self_eq_true _
  have hnf : vn ≤ 256 := by have := (Fm.valid_of HCK.out).few.1; rw [show (⟨NM.data.toList, fs, ss⟩ : Fm.Frm).fields = fs from rfl, HN.out] at this; exact this
  have hnf2 : n2 ≤ 256 := by have := (Fm.valid_of HCK.out).few.2; rw [show (⟨NM.data.toList, fs, ss⟩ : Fm.Frm).sums = ss from rfl, HN2.out] at this; exact this
  have HND : Hid ((fs.map (·.name)).Nodup) := Lib.hid (Fm.names_nodup HCK.out)
  have HPL : Hid (∀ r ∈ ss, r.parts.length ≤ 256) := Lib.hid fun r hr => Fm.parts_len HCK.out hr
  have HLEN : Hid (vs.length = fs.length) := Lib.hid (by rw [HN.out, HN3.out])
  have hmm := @run_makeMap Tryz.prog
  go_enter Tryz.func24, Tryz.ntmps24
  go_wp2_with fail
  refine (HC.out _ (by repeat (first | exact Ext.refl _ | assumption | refine Ext.alloc ?_ _ | refine Ext.drew ?_ | refine Ext.trans ?_ (by assumption)))).mono ?_
  rintro e w1 ⟨rfl, hx1⟩
  obtain ⟨k0, k1, k2⟩ := kept3 hx1
  have HMM := Lib.hid (map_made (w := w1) rfl)
  have HX1 := Lib.hid hx1
  have hwz : w.heap.size < w1.heap.size := by have := hx1.size; rw [World.size_alloc] at this; omega
  clear hx1
  go_wp2
  go_loopw [7, 37] (fun v t wr => ∃ (k cnt : Nat), k ≤ vn ∧ t = .int .i64 (k : Int) ∧ Hid (OwnI wr (w1.heap.size + 1) v (Fm.issGo (fs.take k) (vs.take k))) ∧ Hid (MapN wr w1.heap.size cnt (Fm.look (Fm.rightGo (fs.take k) (vs.take k)))) ∧ cnt ≤ k ∧ Hid (Ext (w.alloc (.cells #[.string NM, .slice a vn c, .slice a2 n2 c2] 25)) wr)) (fun _ t _ => vn - (intOf t).toNat)
  case atStart => exact ⟨0, 0, Nat.zero_le _, rfl, Lib.hid (KOwn.nil _ _ _ _ _), Lib.hid HMM.out, Nat.le_refl _, Lib.hid ((HX1.out).alloc _)⟩
  case round =>
    obtain ⟨k, cnt, hk, rfl, HO, HP, hcnt, HX⟩ := hrel
    by_cases hlt : k < vn
    · obtain ⟨f, hfk⟩ : ∃ f, fs[k]? = some f := ⟨_, List.getElem?_eq_getElem (by rw [HN.out]; exact hlt)⟩
      obtain ⟨y, hyk⟩ : ∃ y, vs[k]? = some y := ⟨_, List.getElem?_eq_getElem (by rw [HN3.out]; exact hlt)⟩
      have hxw : Ext w wr := HX.out.before
      obtain ⟨b, o, X, op, mn, mx, ck, la, ln, lc, l, opt, ha, hb, rfl, hl, c0, c1, c2', c3, c4, c5, c6⟩ := HF.out.here hxw hfk
      subst ha
      obtain ⟨vb, vo, Y, hva, hvb, rfl, d0⟩ := HV.out.here hxw hyk
      subst hva
      obtain ⟨b1, b2, b3⟩ := HB.out _ (List.mem_of_getElem? hfk)
      have hYs := HSV.out _ (List.mem_of_getElem? hyk)
      dsimp only at b1 b2 b3
      have HIS := Lib.hid (Fm.issGo_at HLEN.out hfk hyk)
      have HRI := Lib.hid (Fm.rightGo_at HLEN.out hfk hyk)
      have HNEW := Lib.hid (Fm.name_new HND.out hfk (vs.take k))
      unfold Fm.fldIss at HIS
      unfold Fm.rightOne at HRI
      dsimp only at HIS HRI HNEW
      have HIL : Hid ((Fm.issGo (fs.take k) (vs.take k)).length ≤ 256) := Lib.hid (Nat.le_trans (Fm.issGo_len _ _) (Nat.le_trans (take_len fs k) (by omega)))
      clear hfk hyk
      have hkb : w1.heap.size < wr.heap.size := HP.out.lt
      obtain ⟨V, hV⟩ : ∃ V, V = wr.alloc (.cells #[.string X, .int .i64 op, .int .i64 mn, .int .i64 mx, .int .i64 ck, .slice la ln lc, .bool opt] 39) := ⟨_, rfl⟩
      have hxV : Ext wr V := by rw [hV]; exact (Ext.refl _).alloc _
      have r0 : V.heap[wr.heap.size]? = some (.cells #[.string X, .int .i64 op, .int .i64 mn, .int .i64 mx, .int .i64 ck, .slice la ln lc, .bool opt] 39 (0, 0)) := by rw [hV]; exact heap_alloc_new _ _
      have HVE := Lib.hid hV
      have hVs : wr.heap.size < V.heap.size := lt_at r0
      clear hV
      have HVAL := Lib.hid (fun (w' : World) (hx : Ext V w') => fvalue_any X op mn mx ck la ln lc opt l Y (by rw [← len_data]; exact hYs) w' (hl.ext ((hxw.trans hxV).trans hx)) b2 b3 (HE.out.ext ((hxw.trans hxV).trans hx)))
      obtain ⟨p0, p1, p2, p3, p4, p5, p6⟩ := kept7' r0 (Ext.refl V)
      have q0 := ahead_cell p0 hVs
      have q1 := ahead_cell p1 hVs
      have q2 := ahead_cell p2 hVs
      have q3 := ahead_cell p3 hVs
      have q4 := ahead_cell p4 hVs
      have q5 := ahead_cell p5 hVs
      have q6 := ahead_cell p6 hVs
      have hvbV : vb < V.heap.size := Nat.lt_of_lt_of_le hvb (hxw.trans hxV).size
      have q7 := ahead_cell ((hxV.cell (p := ⟨vb, vo + k, none⟩) (Nat.lt_of_lt_of_le hvb hxw.size)).trans d0) hvbV
      have hki : (k : Int) < (vn : Int) := by omega
      have HRW := Lib.hid r0
      have HXV := Lib.hid (HX.out.trans hxV)
      have HOV := Lib.hid (HO.out.ext hxV)
      have HPV := Lib.hid (MapI.ext HP.out hxV)
      have HIMP : Hid (∀ z, Fm.value ⟨X.data.toList, op, mn, mx, ck, l, opt⟩ Y.data.toList = z → z = 0 → op = 2 → Y.data.toList.length ≠ 0 → Fm.written Y.data.toList = true ∧ Fm.capOf Y.data.toList = Fm.valOf Y.data.toList) := Lib.hid fun z h1 h2 h3 h4 => Fm.right_cap (f := ⟨X.data.toList, op, mn, mx, ck, l, opt⟩) h3 (h1.trans h2) h4
      generalize hval : Fm.value ⟨X.data.toList, op, mn, mx, ck, l, opt⟩ Y.data.toList = z at *
      have HIMP := Lib.hid (HIMP.out z rfl)
      clear r0 hl HO HP HX hval
      by_cases hz : z = 0
      rotate_left
      · have z1 : (z == 0) = false := beq_eq_false_iff_ne.2 hz
        rw [if_neg hz] at HIS
        rw [if_neg (fun h => hz h.1), List.append_nil] at HRI
        clear hz HIMP HNEW
        go_wp2
        rw [← HVE.out]
        refine wp_region_quiet (C := fun w' => ∃ x : Ahead V, w' = x.at') (by kernel_rfl) (by kernel_rfl) (Ahead.drawn _) ?_
        try dsimp only
        repeat (first | go_big_quiet_step (exact ahead_of (HVAL.out _ (Ahead.ext _))) | quiet_step (exact ahead_of (HVAL.out _ (Ahead.ext _))))
        refine wpQuiet_nil ?_
        intro _ hx0
        obtain ⟨x0, hx0⟩ := hx0
        subst hx0
        obtain ⟨w2, hx2⟩ := x0
        try dsimp only
        obtain ⟨m0, m1, m2, m3, m4, m5, m6⟩ := kept7' HRW.out hx2
        have hown := HOV.out.ext hx2
        have HP2 := Lib.hid (MapI.ext HPV.out hx2)
        have hs2 : w1.heap.size + 1 ≤ w2.heap.size := by have := hx2.size; omega
        have HX2 := Lib.hid (HXV.out.trans hx2)
        clear q0 q1 q2 q3 q4 q5 q6 q7 p0 p1 p2 p3 p4 p5 p6 c0 c1 c2' c3 c4 c5 c6 d0
        go_wp2_with (at_builtin; refine append_iss rfl _ _ rfl (w1.heap.size + 1) _ _ rfl (hown.ext ((Ext.refl _).alloc _)) _ X z rfl ?c1 ?c2 ?c3 ?c4 ?_)
        case c1 => simp [go_sem]
        case c2 => simp [go_sem]
        case c3 => have := HIL.out; omega
        case c4 => simp; omega
        intro v' w3 hown3 hg3
        have HO3 : Hid (OwnI w3 (w1.heap.size + 1) v' (Fm.issGo (fs.take (k + 1)) (vs.take (k + 1)))) := Lib.hid (by rw [HIS.out]; exact hown3)
        have hlow := hown.low
        have HP3 : Hid (MapN w3 w1.heap.size cnt (Fm.look (Fm.rightGo (fs.take (k + 1)) (vs.take (k + 1))))) := Lib.hid (by rw [HRI.out]; exact (MapI.ext HP2.out ((Ext.refl _).alloc _)).kept hg3 (by intro e; have := hlow _ e; omega))
        have HX3 := Lib.hid ((HX2.out.alloc _).ofGrown hg3 (fun j hj => by have := hlow j hj; simp; omega))
        clear hown hown3 hg3 hlow m0 m1 m2 m3 m4 m5 m6 hx2
        go_wp2
        go_roundw
        case rel => exact ⟨k + 1, cnt, by omega, by go_num, HO3, HP3, by omega, HX3⟩
        case measure => simp [intOf]; omega
      subst hz
      rw [if_pos rfl, List.append_nil] at HIS
      by_cases ho : op = 2
      rotate_left
      · have z2 : (op == 2) = false := beq_eq_false_iff_ne.2 ho
        rw [if_neg (fun h => ho h.2), List.append_nil] at HRI
        clear ho HIMP HNEW
        go_wp2
        rw [← HVE.out]
        refine wp_region_quiet (C := fun w' => ∃ x : Ahead V, w' = x.at') (by kernel_rfl) (by kernel_rfl) (Ahead.drawn _) ?_
        try dsimp only
        repeat (first | go_big_quiet_step (exact ahead_of (HVAL.out _ (Ahead.ext _))) | quiet_step (exact ahead_of (HVAL.out _ (Ahead.ext _))))
        refine wpQuiet_nil ?_
        intro _ hx0
        obtain ⟨x0, hx0⟩ := hx0
        subst hx0
        obtain ⟨w2, hx2⟩ := x0
        try dsimp only
        obtain ⟨m0, m1, m2, m3, m4, m5, m6⟩ := kept7' HRW.out hx2
        have HO3 : Hid (OwnI w2 (w1.heap.size + 1) _ (Fm.issGo (fs.take (k + 1)) (vs.take (k + 1)))) := Lib.hid (by rw [HIS.out]; exact HOV.out.ext hx2)
        have HP3 : Hid (MapN w2 w1.heap.size cnt (Fm.look (Fm.rightGo (fs.take (k + 1)) (vs.take (k + 1))))) := Lib.hid (by rw [HRI.out]; exact MapI.ext HPV.out hx2)
        have HX3 := Lib.hid (HXV.out.trans hx2)
        clear q0 q1 q2 q3 q4 q5 q6 q7 p0 p1 p2 p3 p4 p5 p6 c0 c1 c2' c3 c4 c5 c6 d0 hx2
        go_wp2
        go_roundw
        case rel => exact ⟨k + 1, cnt, by omega, by go_num, HO3, HP3, by omega, HX3⟩
        case measure => simp [intOf]; omega
      subst ho
      rw [if_pos ⟨rfl, rfl⟩] at HRI
      have HNUM := Lib.hid (fun (w' : World) (hx : Ext w w') => right_num Y (by rw [← len_data]; exact hYs) w' (HE.out.ext hx) (HIMP.out rfl rfl))
      generalize (if Y.data.toList.length = 0 then 0 else Fm.valOf Y.data.toList) = m at *
      have hsnoc := Lib.hid (Fm.look_snoc m HNEW.out)
      clear HIMP HNEW
      go_wp2
      rw [← HVE.out]
      refine wp_region_quiet (C := fun w' => ∃ x : Ahead V, w' = x.at') (by kernel_rfl) (by kernel_rfl) (Ahead.drawn _) ?_
      try dsimp only
      repeat (first | go_big_quiet_step (exact ahead_of (HVAL.out _ (Ahead.ext _))) | quiet_step (exact ahead_of (HVAL.out _ (Ahead.ext _))))
      refine wpQuiet_nil ?_
      intro _ hx0
      obtain ⟨x0, hx0⟩ := hx0
      subst hx0
      obtain ⟨w2, hx2⟩ := x0
      try dsimp only
      have hxw2 : Ext w w2 := (hxw.trans hxV).trans hx2
      obtain ⟨m0, m1, m2, m3, m4, m5, m6⟩ := kept7' HRW.out hx2
      have t7 := (hx2.cell (p := ⟨vb, vo + k, none⟩) hvbV).trans ((hxV.cell (p := ⟨vb, vo + k, none⟩) (Nat.lt_of_lt_of_le hvb hxw.size)).trans d0)
      clear q0 q1 q2 q3 q4 q5 q6 q7 p0 p1 p2 p3 p4 p5 p6 c0 c1 c2' c3 c4 c5 c6 d0
      go_wp2_with fail
      refine (HNUM.out _ hxw2).mono ?_
      rintro e w3 ⟨⟨ev, rfl⟩, hx3⟩
      obtain ⟨j0, j1, -, -, -, -, -⟩ := kept7' HRW.out (hx2.trans hx3)
      obtain ⟨w4, hrun, hP4, hg4⟩ := map_put (MapI.ext HPV.out (hx2.trans hx3)) X X.data.toList rfl b1 m (by unfold Go.maxLen; omega)
      have hlow := HOV.out.low
      have HO3 : Hid (OwnI w4 (w1.heap.size + 1) _ (Fm.issGo (fs.take (k + 1)) (vs.take (k + 1)))) := Lib.hid (by rw [HIS.out]; exact (HOV.out.ext (hx2.trans hx3)).kept hg4 (.inr (by intro e; have := hlow _ e; omega)))
      have HP3 : Hid (MapN w4 w1.heap.size (cnt + 1) (Fm.look (Fm.rightGo (fs.take (k + 1)) (vs.take (k + 1))))) := Lib.hid (by rw [HRI.out, hsnoc.out]; exact hP4)
      have HX3 := Lib.hid (((HXV.out.trans hx2).trans hx3).ofGrown hg4 (fun j hj => by cases hj; simp; omega))
      clear m0 m1 m2 m3 m4 m5 m6 hx2 hx3 t7 hP4 hg4 hlow hxw2
      go_wp2
      go_roundw
      case rel => exact ⟨k + 1, cnt + 1, by omega, by go_num, HO3, HP3, by omega, HX3⟩
      case measure => simp [intOf]; omega
    · obtain rfl : k = vn := by omega
      rw [List.take_of_length_le (by rw [HN.out]; exact Nat.le_refl _), List.take_of_length_le (by rw [HN3.out]; exact Nat.le_refl _)] at HO HP
      have HIL : Hid ((Fm.issGo fs vs).length ≤ 256) := Lib.hid (Nat.le_trans (Fm.issGo_len _ _) (by rw [HN.out]; omega))
      have HLB : Hid (∀ nm, -Fm.great ≤ (Fm.look (Fm.rightGo fs vs) nm).getD 0 ∧ (Fm.look (Fm.rightGo fs vs) nm).getD 0 ≤ Fm.great) := Lib.hid (Fm.look_bd fs vs)
      obtain ⟨g0, g1, g2⟩ := kept3 HX.out
      generalize Fm.issGo fs vs = IS at *
      generalize Fm.rightGo fs vs = R at *
      clear hlt hk hcnt
      obtain ⟨W, hWw⟩ : ∃ W, W = wr := ⟨_, rfl⟩
      subst hWw
      go_wp2
      go_loopw [7, 76] (fun v t wq => ∃ q : Nat, q ≤ n2 ∧ t = .int .i64 (q : Int) ∧ Hid (OwnI wq (w1.heap.size + 1) v (IS ++ (ss.take q).flatMap (Fm.sumIss R))) ∧ Hid (MapN wq w1.heap.size cnt (Fm.look R)) ∧ Hid (Ext (w.alloc (.cells #[.string NM, .slice a k c, .slice a2 n2 c2] 25)) wq)) (fun _ t _ => n2 - (intOf t).toNat)
      case atStart => exact ⟨0, Nat.zero_le _, rfl, Lib.hid (by simpa using HO.out), HP, HX⟩
      case round =>
        clear HO HP HX g0 g1 g2
        obtain ⟨q, hq, rfl, HO, HP, HX⟩ := hrel
        by_cases hlt : q < n2
        · obtain ⟨f, hfk⟩ : ∃ f, ss[q]? = some f := ⟨_, List.getElem?_eq_getElem (by rw [HN2.out]; exact hlt)⟩
          have hxw : Ext w wr := HX.out.before
          have hpl := HPL.out _ (List.mem_of_getElem? hfk)
          have hdom := HM.out _ (List.mem_of_getElem? hfk)
          have HSN : Hid ((ss.take (q + 1)).flatMap (Fm.sumIss R) = (ss.take q).flatMap (Fm.sumIss R) ++ Fm.sumIss R f) := Lib.hid (by rw [snoc_take hfk, List.flatMap_append]; simp)
          obtain ⟨b, o, X, la, ln, lc, l, ha, hb, rfl, hl, c0, c1⟩ := HS.out.here hxw hfk
          subst ha
          obtain ⟨b1, b2, b3⟩ := hdom
          dsimp only at b1 b2 b3 hpl
          have HSI := Lib.hid (Fm.sumIss.eq_1 R ⟨X.data.toList, l⟩)
          dsimp only at HSI
          rw [HSI.out] at HSN
          have HIQ : Hid ((IS ++ (ss.take q).flatMap (Fm.sumIss R)).length ≤ 600) := Lib.hid (by
            have h1 := Fm.sums_len (ss.take q) R
            have h2 := take_len ss q
            rw [List.length_append]; have := HIL.out; omega)
          obtain ⟨al, cl, he, _⟩ := hl.form
          injection he with e1 e2 e3
          subst e1 e3
          have HLN := Lib.hid e2.symm
          have hln : ln ≤ 256 := by omega
          obtain ⟨V, hV⟩ : ∃ V, V = wr.alloc (.cells #[.string X, .slice la ln lc] 56) := ⟨_, rfl⟩
          have hxV : Ext wr V := by rw [hV]; exact (Ext.refl _).alloc _
          have r0 : V.heap[wr.heap.size]? = some (.cells #[.string X, .slice la ln lc] 56 (0, 0)) := by rw [hV]; exact heap_alloc_new _ _
          have HVE := Lib.hid hV
          have hVs : wr.heap.size < V.heap.size := lt_at r0
          have hwr1 : w1.heap.size < wr.heap.size := HP.out.lt
          clear hV
          have p0 := cell_at r0 (i := 0) rfl
          have p1 := cell_at r0 (i := 1) rfl
          have HPV := Lib.hid (MapI.ext HP.out hxV)
          have HOV := Lib.hid (HO.out.ext hxV)
          have HXV := Lib.hid (HX.out.trans hxV)
          have HLV := Lib.hid (hl.ext (hxw.trans hxV))
          have HBK := Lib.hid (hl.ext hxw)
          have hg := map_get HPV.out X X.data.toList rfl b1
          rw [HVE.out] at hg
          clear r0 hfk hl e2 HP HO HX
          have hb0 := HLB.out X.data.toList
          generalize hT0 : (Fm.look R X.data.toList).getD 0 = T0 at *
          generalize hK0 : (Fm.look R X.data.toList).isSome = K0 at *
          unfold Fm.great at hb0
          clear hT0 hK0
          go_wp2
          rw [← HVE.out]
          go_loop [16, 17, 90] (fun t ok i => ∃ j : Nat, j ≤ ln ∧ i = .int .i64 (j : Int) ∧ t = .int .i64 (Fm.partGo (Fm.look R |> fun _ => R) T0 K0 (l.take j)).1 ∧ ok = .bool (Fm.partGo R T0 K0 (l.take j)).2) (fun _ _ i => ln - (intOf i).toNat)
          case atStart => exact ⟨0, Nat.zero_le _, rfl, rfl, rfl⟩
          case round =>
            obtain ⟨j, hj, rfl, rfl, rfl⟩ := hrel
            dsimp only
            have hbd := Fm.part_bd HLB.out (l.take j) T0 K0
            have htl := take_len l j
            generalize hz : (l.take j).length = lj at *
            have hbd2 : -1000000000000000000 ≤ (Fm.partGo R T0 K0 (l.take j)).1 ∧ (Fm.partGo R T0 K0 (l.take j)).1 ≤ 1000000000000000000 := by
              unfold Fm.great at hbd
              omega
            clear hbd htl hz
            by_cases hjl : j < ln
            · obtain ⟨x, hxk⟩ : ∃ x, l[j]? = some x := ⟨_, List.getElem?_eq_getElem (by rw [HLN.out]; exact hjl)⟩
              obtain ⟨bb, off, Y, ha, hbb, rfl, d0⟩ := HLV.out.here (Ext.refl V) hxk
              subst ha
              have HPS : Hid (Fm.partGo R T0 K0 (l.take (j + 1)) = ((Fm.partGo R T0 K0 (l.take j)).1 - (Fm.look R Y.data.toList).getD 0, (Fm.partGo R T0 K0 (l.take j)).2 && (Fm.look R Y.data.toList).isSome)) := Lib.hid (by rw [snoc_take hxk, Fm.partGo_snoc])
              have hgy := map_get HPV.out Y Y.data.toList rfl (b2 _ (List.mem_of_getElem? hxk))
              have hby := HLB.out Y.data.toList
              unfold Fm.great at hby
              generalize (Fm.look R Y.data.toList).getD 0 = m at *
              generalize (Fm.look R Y.data.toList).isSome = kk at *
              generalize (Fm.partGo R T0 K0 (l.take j)).1 = T at *
              generalize (Fm.partGo R T0 K0 (l.take j)).2 = K at *
              clear hxk
              cases K with
              | true =>
                go_wp2
                go_round
                case rel => exact ⟨j + 1, by omega, by go_num, by rw [HPS.out], by rw [HPS.out]; rfl⟩
                case measure => simp [intOf]; omega
              | false =>
                go_wp2
                go_round
                case rel => exact ⟨j + 1, by omega, by go_num, by rw [HPS.out], by rw [HPS.out]; rfl⟩
                case measure => simp [intOf]; omega
            · obtain rfl : j = ln := by omega
              rw [List.take_of_length_le (by rw [HLN.out]; exact Nat.le_refl _)] at hbd2 ⊢
              generalize (Fm.partGo R T0 K0 l).1 = T at *
              generalize (Fm.partGo R T0 K0 l).2 = K at *
              clear hjl hj
              cases K with
              | false =>
                rw [if_neg (fun h => Bool.noConfusion h.1), List.append_nil] at HSN
                have HO3 : Hid (OwnI V (w1.heap.size + 1) _ (IS ++ (ss.take (q + 1)).flatMap (Fm.sumIss R))) := Lib.hid (by rw [HSN.out]; exact HOV.out)
                clear p0 p1 c0 c1 hg
                go_wp2
                go_roundw
                case rel => exact ⟨q + 1, by omega, by go_num, HO3, HPV, HXV⟩
                case measure => simp [intOf]; omega
              | true =>
                by_cases hT : T = 0
                · subst hT
                  rw [if_neg (fun h => h.2 rfl), List.append_nil] at HSN
                  have HO3 : Hid (OwnI V (w1.heap.size + 1) _ (IS ++ (ss.take (q + 1)).flatMap (Fm.sumIss R))) := Lib.hid (by rw [HSN.out]; exact HOV.out)
                  clear p0 p1 c0 c1 hg
                  go_wp2
                  go_roundw
                  case rel => exact ⟨q + 1, by omega, by go_num, HO3, HPV, HXV⟩
                  case measure => simp [intOf]; omega
                · rw [if_pos ⟨rfl, hT⟩] at HSN
                  have t1 : (T != 0) = true := bne_iff_ne.2 hT
                  have hown := HOV.out
                  clear hT c0 c1 hg
                  go_wp2_with (at_builtin; refine append_iss rfl _ _ rfl (w1.heap.size + 1) _ _ rfl (hown.ext ((Ext.refl _).alloc _)) _ X 8 rfl ?c1 ?c2 ?c3 ?c4 ?_)
                  case c3 => exact Nat.le_trans (by simpa using HIQ.out) (show 600 ≤ 999999999 by decide)
                  case c4 => first | (simp; omega) | omega
                  intro v' w3 hown3 hg3
                  have HO3 : Hid (OwnI w3 (w1.heap.size + 1) v' (IS ++ (ss.take (q + 1)).flatMap (Fm.sumIss R))) := Lib.hid (by rw [HSN.out]; exact hown3)
                  have hlow := hown.low
                  have HP3 : Hid (MapN w3 w1.heap.size cnt (Fm.look R)) := Lib.hid ((MapI.ext HPV.out ((Ext.refl _).alloc _)).kept hg3 (by intro e; have := hlow _ e; omega))
                  have HX3 := Lib.hid ((HXV.out.alloc _).ofGrown hg3 (fun j hj => by have := hlow j hj; simp; omega))
                  clear hown hown3 hg3 hlow p0 p1
                  go_wp2
                  go_roundw
                  case rel => exact ⟨q + 1, by omega, by go_num, HO3, HP3, HX3⟩
                  case measure => simp [intOf]; omega
        · obtain rfl : q = n2 := by omega
          rw [List.take_of_length_le (by rw [HN2.out]; exact Nat.le_refl _)] at HO
          have hx5 := HX.out.before
          clear hlt hq
          go_wp2
          go_ret2
          exact ⟨_, by rw [HR.out]; rfl, by rw [HR.out]; exact HO.out.sl encIs_len, hx5⟩
end Go.Proofs.YtkpfehfcgpapiaaGreatDoor

/-
  Chapter 51: strings.Cut at a colon, strings.Trim by spaces.
  No condition.
-/
namespace Go.Proofs.YtkpfehfcgpapiaaGreatDoor
open Go.RowKit

section
variable (p : UInt8 → Bool)
def rdrop (l : List UInt8) : List UInt8 := (l.reverse.dropWhile p).reverse
theorem rdrop_cons (a : UInt8) (t : List UInt8) : rdrop p (a :: t) = if rdrop p t = [] then (if p a then [] else [a]) else a :: rdrop p t := by
  unfold rdrop
  rw [List.reverse_cons, List.dropWhile_append]
  by_cases h : (t.reverse.dropWhile p).isEmpty = true
  · have h' : t.reverse.dropWhile p = [] := List.isEmpty_iff.1 h
    rw [if_pos h, h', if_pos (show ([] : List UInt8).reverse = [] from rfl)]
    by_cases ha : p a = true
    · rw [if_pos ha, List.dropWhile_cons_of_pos ha]; rfl
    · rw [if_neg ha, List.dropWhile_cons_of_neg ha]; rfl
  · rw [if_neg h, if_neg (by intro e; apply h; rw [List.isEmpty_iff]; exact List.reverse_eq_nil_iff.1 e)]
    rw [List.reverse_append]; rfl
theorem drop_comm : ∀ l : List UInt8, (rdrop p l).dropWhile p = rdrop p (l.dropWhile p)
  | [] => rfl
  | a :: t => by
    by_cases ha : p a = true
    · rw [List.dropWhile_cons_of_pos ha, rdrop_cons, ← drop_comm t]
      by_cases h : rdrop p t = []
      · rw [if_pos h, if_pos ha, h]
      · rw [if_neg h, List.dropWhile_cons_of_pos ha]
    · rw [List.dropWhile_cons_of_neg ha, rdrop_cons]
      by_cases h : rdrop p t = []
      · rw [if_pos h, if_neg ha, List.dropWhile_cons_of_neg ha]
      · rw [if_neg h, List.dropWhile_cons_of_neg ha]
end
theorem trim_same (l : List UInt8) : Lib.trimB l 32 = Fm.trim l := drop_comm (· == 32) l
/-- strings.Trim by spaces. -/
theorem trimS_any (s : ByteArray) (hs : s.size ≤ 9223372036854775807) (w : World) : ∃ t : ByteArray, t.data.toList = Fm.trim s.data.toList ∧ Calls Tryz.prog 62 #[.string s, .string ⟨#[32]⟩] w fun e w' => e = .returned (.string t) ∧ Ext w w' :=
  ⟨⟨(Lib.trimB s.data.toList 32).toArray⟩, trim_same _, (Tryz.strings_Trim_one s 32 (by decide) w hs).mono fun e w' ⟨he, hw⟩ => ⟨he, by rcases hw with rfl | rfl; exact Ext.refl _; exact (Ext.refl _).drew⟩⟩
theorem trim_le (l : List UInt8) : (Fm.trim l).length ≤ l.length := by
  unfold Fm.trim Fm.trimL
  rw [List.length_reverse]
  have h1 := (List.dropWhile_sublist (· == 32) (l := (l.dropWhile (· == 32)).reverse)).length_le
  have h2 := (List.dropWhile_sublist (· == 32) (l := l)).length_le
  rw [List.length_reverse] at h1
  omega

theorem index_cut (c : UInt8) : ∀ l : List UInt8, Lib.indexByte l c = match Fm.cutAt c l with | none => -1 | some q => (q.1.length : Int)
  | [] => rfl
  | b :: l => by
    have ih := index_cut c l
    by_cases h : b = c
    · subst h
      rw [Fm.cutAt, if_pos rfl]
      simp [Lib.indexByte]
    · have hb : (b == c) = false := beq_eq_false_iff_ne.2 h
      rw [Fm.cutAt, if_neg h]
      simp only [Lib.indexByte, hb, Bool.false_eq_true, if_false]
      rw [ih]
      cases hc : Fm.cutAt c l with
      | none => rfl
      | some q =>
        have : (((q.1.length : Nat) : Int) == -1) = false := by rw [beq_eq_false_iff_ne]; omega
        simp [this]
theorem cutAt_eq (c : UInt8) : ∀ {l a b : List UInt8}, Fm.cutAt c l = some (a, b) → l = a ++ c :: b
  | [], _, _, h => by cases h
  | x :: l, a, b, h => by
    rw [Fm.cutAt] at h
    by_cases hx : x = c
    · rw [if_pos hx] at h
      injection h with h; injection h with h1 h2
      subst h1 h2 hx; rfl
    · rw [if_neg hx] at h
      cases hc : Fm.cutAt c l with
      | none => rw [hc] at h; cases h
      | some q =>
        rw [hc] at h
        injection h with h; injection h with h1 h2
        have := cutAt_eq c (l := l) (a := q.1) (b := q.2) hc
        rw [this, ← h1, ← h2]; rfl

set_option maxRecDepth 100000 in
set_option maxHeartbeats 2000000 in
theorem cutLite_none (s : ByteArray) (w : World) (h : Fm.cutAt 58 s.data.toList = none) :
    Calls Tryz.prog 97 #[.string s, .string ⟨#[58]⟩] w fun e w' => e = .returned (.tuple #[.string s, .string ⟨#[]⟩, .bool false]) ∧ Ext w w' := by
  have HI := Lib.hid (Tryz.stringslite_Index_one s 58 w)
  rw [index_cut, h] at HI
  clear h
  go_enter Tryz.func97, Tryz.ntmps97
  go_wp2_with fail
  refine HI.out.mono ?_
  rintro e w1 ⟨rfl, rfl⟩
  go_wp2
  go_ret3
  exact ⟨rfl, Ext.refl _⟩
set_option maxRecDepth 100000 in
set_option maxHeartbeats 2000000 in
theorem cutLite_some (s : ByteArray) (hs : s.size ≤ 1000000) (w : World) (n : Nat) (a b : List UInt8) (h : Fm.cutAt 58 s.data.toList = some (a, b)) (hn : a.length = n) :
    Calls Tryz.prog 97 #[.string s, .string ⟨#[58]⟩] w fun e w' => e = .returned (.tuple #[.string (s.extract 0 n), .string (s.extract (n + 1) s.size), .bool true]) ∧ Ext w w' := by
  have HI := Lib.hid (Tryz.stringslite_Index_one s 58 w)
  rw [index_cut, h] at HI
  dsimp only at HI
  rw [hn] at HI
  have hlen := congrArg List.length (cutAt_eq 58 h)
  rw [len_data, List.length_append, List.length_cons, hn] at hlen
  obtain ⟨m, hm⟩ : ∃ m, m = n + 1 := ⟨_, rfl⟩
  rw [← hm]
  have hni : (n : Int) + 1 = (m : Int) := by omega
  have hms : m ≤ s.size := by omega
  have h0 : (0 : Int) ≤ (n : Int) := by omega
  clear h hm hlen hn
  go_enter Tryz.func97, Tryz.ntmps97
  go_wp2_with fail
  refine HI.out.mono ?_
  rintro e w1 ⟨rfl, rfl⟩
  go_wp2
  go_quiet (fail)
  go_wp2
  go_ret3
  exact ⟨rfl, (by repeat (first | exact Ext.refl _ | assumption | refine Ext.alloc ?_ _ | refine Ext.drew ?_ | refine Ext.drewN ?_ _ | refine Ext.setCell ?_ (Nat.le_refl _) _ | refine Ext.trans ?_ (by assumption)))⟩
set_option maxHeartbeats 400000 in
theorem cut_none (s : ByteArray) (w : World) (h : Fm.cutAt 58 s.data.toList = none) :
    Calls Tryz.prog 61 #[.string s, .string ⟨#[58]⟩] w fun e w' => e = .returned (.tuple #[.string s, .string ⟨#[]⟩, .bool false]) ∧ Ext w w' := by
  have HI := Lib.hid (cutLite_none s w h)
  clear h
  go_enter Tryz.func61, Tryz.ntmps61
  go_wp2_with fail
  refine HI.out.mono ?_
  rintro e w1 ⟨rfl, hx1⟩
  go_wp2
  go_ret3
  exact ⟨rfl, hx1⟩
set_option maxHeartbeats 400000 in
theorem cut_some' (s : ByteArray) (hs : s.size ≤ 1000000) (w : World) (n : Nat) (a b : List UInt8) (h : Fm.cutAt 58 s.data.toList = some (a, b)) (hn : a.length = n) :
    Calls Tryz.prog 61 #[.string s, .string ⟨#[58]⟩] w fun e w' => e = .returned (.tuple #[.string (s.extract 0 n), .string (s.extract (n + 1) s.size), .bool true]) ∧ Ext w w' := by
  have HI := Lib.hid (cutLite_some s hs w n a b h hn)
  generalize s.extract 0 n = A at *
  generalize s.extract (n + 1) s.size = B at *
  clear h hn
  go_enter Tryz.func61, Tryz.ntmps61
  go_wp2_with fail
  refine HI.out.mono ?_
  rintro e w1 ⟨rfl, hx1⟩
  go_wp2
  go_ret3
  exact ⟨rfl, hx1⟩
theorem cut_some (s : ByteArray) (hs : s.size ≤ 1000000) (a b : List UInt8) (h : Fm.cutAt 58 s.data.toList = some (a, b)) : ∃ A B : ByteArray, A.data.toList = a ∧ B.data.toList = b ∧ ∀ w,
    Calls Tryz.prog 61 #[.string s, .string ⟨#[58]⟩] w fun e w' => e = .returned (.tuple #[.string A, .string B, .bool true]) ∧ Ext w w' := by
  have he := cutAt_eq 58 h
  refine ⟨_, _, ?_, ?_, fun w => cut_some' s hs w a.length a b h rfl⟩
  · rw [cut_front, he, List.take_left]
  · rw [cut_back, he, ← List.singleton_append, ← List.append_assoc]
    exact List.drop_left' (by simp)
end Go.Proofs.YtkpfehfcgpapiaaGreatDoor

/-
  Chapter 51: Fields: the program.
  No condition.
-/
namespace Go.Proofs.YtkpfehfcgpapiaaGreatDoor
open Go.RowKit

def encb (b : Bool) : List Value := [.bool b]
theorem encb_len (b : Bool) : (encb b).length = 1 := rfl
theorem cellsK_rep {α : Type} {enc : α → List Value} (x : α) (v : Value) (h : enc x = [v]) (n : Nat) : cellsK enc (List.replicate n x) = List.replicate n v := by
  induction n with
  | zero => rfl
  | succ n ih => rw [List.replicate_succ, List.replicate_succ, ← ih]; show enc x ++ cellsK enc (List.replicate n x) = _; rw [h]; rfl
/-- make([]string, n). -/
theorem made_strs (w : World) (n : Nat) (B : Nat) (hn : n ≤ 1000000) (hB : B ≤ w.heap.size) : ∃ w', (Instr.makeSlice 37 (.int .i64 (n : Int)) (.int .i64 (n : Int))).run Tryz.prog w = .ok (.slice (some ⟨w.heap.size, 0, none⟩) n n) w' ∧ KOwn 9 1 enc1 w' B (.slice (some ⟨w.heap.size, 0, none⟩) n n) (List.replicate n []) ∧ Ext w w' := by
  obtain ⟨i0, hi, hz0, hz1, hz2⟩ := info_parts info_strs
  obtain ⟨w', h1, h2, h3⟩ := run_make_full (P := Tryz.prog) w B 37 9 i0 (.string ⟨#[]⟩) 1 Tryz.underlying37 hi hz0 hz1 .i64 .i64 n (by rw [hz2]; omega) (by unfold Go.maxLen; omega) hB
  refine ⟨w', h1, ?_, (Ext.refl w).ofGrown h3 (fun k hk => by cases hk)⟩
  unfold KOwn
  rw [List.length_replicate, cellsK_rep (enc := enc1) ([] : Fm.S) (.string ⟨#[]⟩) rfl]
  have e : (madeCells (Value.string ⟨#[]⟩).cells (n * 1)).toList = List.replicate n (.string ⟨#[]⟩) := by rw [Nat.mul_one]; exact toList_madeCells_one _ _
  rw [← e]; exact h2
/-- make([]bool, n). -/
theorem made_bools (w : World) (n : Nat) (B : Nat) (hn : n ≤ 1000000) (hB : B ≤ w.heap.size) : ∃ w', (Instr.makeSlice 84 (.int .i64 (n : Int)) (.int .i64 (n : Int))).run Tryz.prog w = .ok (.slice (some ⟨w.heap.size, 0, none⟩) n n) w' ∧ KOwn 4 1 encb w' B (.slice (some ⟨w.heap.size, 0, none⟩) n n) (List.replicate n false) ∧ Ext w w' := by
  obtain ⟨i0, hi, hz0, hz1, hz2⟩ := info_parts info_bool
  obtain ⟨w', h1, h2, h3⟩ := run_make_full (P := Tryz.prog) w B 84 4 i0 (.bool false) 1 Tryz.underlying84 hi hz0 hz1 .i64 .i64 n (by rw [hz2]; omega) (by unfold Go.maxLen; omega) hB
  refine ⟨w', h1, ?_, (Ext.refl w).ofGrown h3 (fun k hk => by cases hk)⟩
  unfold KOwn
  rw [List.length_replicate, cellsK_rep (enc := encb) false (.bool false) rfl]
  have e : (madeCells (Value.bool false).cells (n * 1)).toList = List.replicate n (.bool false) := by rw [Nat.mul_one]; exact toList_madeCells_one _ _
  rw [← e]; exact h2
/-- Strings and a code are returned. -/
def StrsX (r : List Fm.S × Int) (w : World) (e : Ending) (w' : World) : Prop := ∃ v, e = .returned (.tuple #[v, .int .i64 r.2]) ∧ StrsR w' v r.1 ∧ Ext w w'
theorem idx_snoc {fs : List Fm.Fld} (hn : (fs.map (·.name)).Nodup) {k : Nat} {f : Fm.Fld} (hf : fs[k]? = some f) : (fun x => (Fm.idxOf (fs.take (k + 1)) x).map fun i => (i : Int)) = fun x => if x = f.name then some (k : Int) else (Fm.idxOf (fs.take k) x).map fun i => (i : Int) := by
  funext x
  have hk := (List.getElem?_eq_some_iff.1 hf).1
  by_cases hx : x = f.name
  · rw [if_pos hx, hx]
    have h1 : (fs.take (k + 1))[k]? = some f := by rw [List.getElem?_take, if_pos (by omega)]; exact hf
    rw [Fm.idxOf_at (by rw [List.map_take]; exact hn.sublist (List.take_sublist _ _)) h1]
    rfl
  · rw [if_neg hx, snoc_take hf]
    unfold Fm.idxOf
    rw [List.findIdx?_append, List.findIdx?_cons, show (f.name == x) = false from beq_eq_false_iff_ne.2 (fun e => hx e.symm)]
    simp
theorem idx_lt {fs : List Fm.Fld} {x : Fm.S} {i : Nat} (h : Fm.idxOf fs x = some i) : i < fs.length := by
  unfold Fm.idxOf at h
  exact (List.findIdx?_eq_some_iff_getElem.1 h).1
theorem own_cell {α : Type} {T : TypeId} {enc : α → List Value} {w : World} {B g n c : Nat} {xs : List α} {i : Nat} {x : α} {u : Value} (hk : ∀ x, (enc x).length = 1) (h : KOwn T 1 enc w B (.slice (some ⟨g, 0, none⟩) n c) xs) (hi : xs[i]? = some x) (hu : enc x = [u]) : w.cell? ⟨g, i, none⟩ = some u := by
  obtain ⟨b, o, he, _, hc⟩ := (h.sl hk).at_ hi
  injection he with he
  injection he with h1 h2
  subst h1 h2
  have := hc 0 (by decide)
  rw [Nat.zero_add, Nat.mul_one, Nat.add_zero, hu] at this
  exact this
theorem own_free {α : Type} {T : TypeId} {enc : α → List Value} {w : World} {B g n c : Nat} {xs : List α} (h : KOwn T 1 enc w B (.slice (some ⟨g, 0, none⟩) n c) xs) (i : Nat) : w.frozen? ⟨g, i, none⟩ = false := by
  rcases h.form with ⟨_, h1⟩ | ⟨g', c', h1, _⟩
  · cases h1
  · injection h1 with _ h2 _
    have hh := h
    unfold KOwn at hh
    rw [← h2] at hh
    exact World.ownsRow.frozenAt hh i

set_option maxRecDepth 100000 in
set_option maxHeartbeats 4000000 in
theorem fields_any (NM : ByteArray) (a : Option Addr) (n c : Nat) (a2 : Option Addr) (n2 c2 : Nat) (fs : List Fm.Fld) (ss : List Fm.Sm) (va : Option Addr) (vn vc : Nat) (vs : List Fm.S) (w : World) (hf : FldsR w (.slice a n c) fs) (hm : SumsR w (.slice a2 n2 c2) ss) (hB : ∀ f ∈ fs, FldB f) (hM : ∀ r ∈ ss, SmB r)
    (hv : StrsR w (.slice va vn vc) vs) (hsv : Short 1000000 vs) (hvn : vn ≤ 9223372036854775807) :
    Calls Tryz.prog 27 #[.agg #[.string NM, .slice a n c, .slice a2 n2 c2], .slice va vn vc] w (StrsX (Fm.fields ⟨NM.data.toList, fs, ss⟩ vs) w) := by
  obtain ⟨a', c', he⟩ := hf.form
  injection he with e1 e2 e3
  subst e1 e3
  obtain ⟨a', c', he⟩ := hm.form
  injection he with e1 e4 e3
  subst e1 e3
  obtain ⟨a', c', he, _⟩ := hv.form
  injection he with e1 e5 e3
  subst e1 e3
  have HR := Lib.hid (Fm.fields.eq_1 ⟨NM.data.toList, fs, ss⟩ vs)
  dsimp only at HR
  generalize Fm.fields ⟨NM.data.toList, fs, ss⟩ vs = res at *
  rw [← e2, ← e5] at HR
  have HN := Lib.hid e2.symm
  have HN3 := Lib.hid e5.symm
  have HC := Lib.hid (fun (w' : World) (hx : Ext w w') => check_any NM a n c a2 n2 c2 fs ss w' (hf.ext hx) (hm.ext hx) hB hM)
  have HF := Lib.hid hf
  have HB := Lib.hid hB
  have HV := Lib.hid hv
  have HSV := Lib.hid hsv
  clear hf hm hB hM e2 e4 e5 hv hsv
  by_cases hc : Fm.check ⟨NM.data.toList, fs, ss⟩ = 0
  rotate_left
  · rw [if_neg hc] at HR
    generalize Fm.check ⟨NM.data.toList, fs, ss⟩ = z at *
    have z0 : (z == 0) = false := beq_eq_false_iff_ne.2 hc
    clear hc
    go_enter Tryz.func27, Tryz.ntmps27
    go_wp2_with fail
    refine (HC.out _ (by repeat (first | exact Ext.refl _ | assumption | refine Ext.alloc ?_ _ | refine Ext.drew ?_ | refine Ext.trans ?_ (by assumption)))).mono ?_
    rintro e w1 ⟨rfl, hx1⟩
    go_wp2
    go_ret2
    exact ⟨_, by rw [HR.out]; rfl, by rw [HR.out]; exact StrsR.nil _, (by repeat (first | exact Ext.refl _ | assumption | refine Ext.alloc ?_ _ | refine Ext.drew ?_ | refine Ext.trans ?_ (by assumption)))⟩
  rw [if_pos hc] at HR
  have HCK := Lib.hid hc
  rw [hc] at HC
  clear hc
  by_cases hl : 4096 < vn
  · rw [if_pos hl] at HR
    have z0 : (4096 : Int) < (vn : Int) := by omega
    clear hl
    go_enter Tryz.func27, Tryz.ntmps27
    go_wp2_with fail
    refine (HC.out _ (by repeat (first | exact Ext.refl _ | assumption | refine Ext.alloc ?_ _ | refine Ext.drew ?_ | refine Ext.trans ?_ (by assumption)))).mono ?_
    rintro e w1 ⟨rfl, hx1⟩
    go_wp2
    go_ret2
    exact ⟨_, by rw [HR.out]; rfl, by rw [HR.out]; exact StrsR.nil _, (by repeat (first | exact Ext.refl _ | assumption | refine Ext.alloc ?_ _ | refine Ext.drew ?_ | refine Ext.trans ?_ (by assumption)))⟩
  rw [if_neg hl] at HR
  have z0 : ¬ (4096 : Int) < (vn : Int) := by omega
  have hnf : n ≤ 256 := by have := (Fm.valid_of HCK.out).few.1; rw [show (⟨NM.data.toList, fs, ss⟩ : Fm.Frm).fields = fs from rfl, HN.out] at this; exact this
  have HND : Hid ((fs.map (·.name)).Nodup) := Lib.hid (Fm.names_nodup HCK.out)
  clear hl
  have hmm := @run_makeMap Tryz.prog
  go_enter Tryz.func27, Tryz.ntmps27
  go_wp2_with fail
  refine (HC.out _ (by repeat (first | exact Ext.refl _ | assumption | refine Ext.alloc ?_ _ | refine Ext.drew ?_ | refine Ext.trans ?_ (by assumption)))).mono ?_
  rintro e w1 ⟨rfl, hx1⟩
  obtain ⟨k0, k1, k2⟩ := kept3 hx1
  have HMM := Lib.hid (map_made (w := w1) rfl)
  have HX1 := Lib.hid hx1
  have hwz : w.heap.size < w1.heap.size := by have := hx1.size; rw [World.size_alloc] at this; omega
  clear hx1
  go_wp2
  go_loopw [31] (fun t wr => ∃ k : Nat, k ≤ n ∧ t = .int .i64 (k : Int) ∧ Hid (MapN wr w1.heap.size k (fun x => (Fm.idxOf (fs.take k) x).map fun i => (i : Int))) ∧ Hid (Ext (w.alloc (.cells #[.string NM, .slice a n c, .slice a2 n2 c2] 25)) wr)) (fun t _ => n - (intOf t).toNat)
  case atStart => exact ⟨0, Nat.zero_le _, rfl, Lib.hid HMM.out, Lib.hid ((HX1.out).alloc _)⟩
  case round =>
    obtain ⟨k, hk, rfl, HP, HX⟩ := hrel
    by_cases hlt : k < n
    · obtain ⟨f, hfk⟩ : ∃ f, fs[k]? = some f := ⟨_, List.getElem?_eq_getElem (by rw [HN.out]; exact hlt)⟩
      have hxw : Ext w wr := HX.out.before
      have HID := Lib.hid (idx_snoc HND.out hfk)
      obtain ⟨b, o, X, op, mn, mx, ck, la, ln, lc, l, opt, ha, hb, rfl, hl, c0, c1, c2', c3, c4, c5, c6⟩ := HF.out.here hxw hfk
      subst ha
      obtain ⟨b1, -, -⟩ := HB.out _ (List.mem_of_getElem? hfk)
      dsimp only at b1 HID
      have hPV := MapI.ext HP.out ((Ext.refl wr).alloc (.cells #[.string X, .int .i64 op, .int .i64 mn, .int .i64 mx, .int .i64 ck, .slice la ln lc, .bool opt] 39))
      obtain ⟨w4, hrun, hP4, hg4⟩ := map_put hPV X X.data.toList rfl b1 (k : Int) (by unfold Go.maxLen; omega)
      rw [← HID.out] at hP4
      have HP4 := Lib.hid hP4
      have hkb : w1.heap.size < wr.heap.size := HP.out.lt
      have HX4 := Lib.hid ((HX.out.alloc (.cells #[.string X, .int .i64 op, .int .i64 mn, .int .i64 mx, .int .i64 ck, .slice la ln lc, .bool opt] 39)).ofGrown hg4 (fun j hj => by cases hj; simp; omega))
      clear hfk hl hPV hP4 hg4 HP HX hxw
      go_wp2
      go_roundw
      case rel => exact ⟨k + 1, by omega, by go_num, HP4, HX4⟩
      case measure => simp [intOf]; omega
    · obtain rfl : k = n := by omega
      rw [List.take_of_length_le (by rw [HN.out]; exact Nat.le_refl _)] at HP
      have HIX : Hid (∀ x i, Fm.idxOf fs x = some i → i < k) := Lib.hid (fun x i h => by have := idx_lt h; rw [HN.out] at this; exact this)
      have hkb : w1.heap.size < wr.heap.size := HP.out.lt
      obtain ⟨W, hWw⟩ : ∃ W, W = wr := ⟨_, rfl⟩
      subst hWw
      obtain ⟨w2, hmk1, ho1, hx2⟩ := made_strs W k (w1.heap.size + 1) (by omega) (by omega)
      have hs2 := World.ownsRow.lt ho1 W.heap.size rfl
      obtain ⟨w3, hmk2, ho2, hx3⟩ := made_bools w2 k (w1.heap.size + 1) (by omega) (by omega)
      have hs3 := World.ownsRow.lt ho2 w2.heap.size rfl
      obtain ⟨g0, g1, g2⟩ := kept3 HX.out
      obtain ⟨-, j1, -⟩ := kept3 (HX.out.trans hx2)
      have HO1 := Lib.hid (ho1.ext hx3)
      have HO2 := Lib.hid ho2
      have HP3 := Lib.hid (MapI.ext HP.out (hx2.trans hx3))
      have HX3 := Lib.hid ((HX.out.trans hx2).trans hx3)
      have hob : w1.heap.size < W.heap.size := hkb
      have hmb : W.heap.size < w2.heap.size := hs2.2
      generalize hOB : W.heap.size = ob at *
      generalize hMB : w2.heap.size = mb at *
      clear ho1 ho2 HP HX hlt hk hx2 hx3 hs2 hs3 hOB hMB
      go_wp2
      go_loopw [51] (fun t wq => ∃ (q : Nat) (outs : List (Option Fm.S)), q ≤ vn ∧ t = .int .i64 (q : Int) ∧ Hid (outs.length = k) ∧ Hid (res = match Fm.putGo fs outs (vs.drop q) with | none => ([], 30) | some o => (o.map fun o => o.getD [], 0)) ∧ Hid (KOwn 9 1 enc1 wq (w1.heap.size + 1) (.slice (some ⟨ob, 0, none⟩) k k) (outs.map fun o => o.getD [])) ∧ Hid (KOwn 4 1 encb wq (w1.heap.size + 1) (.slice (some ⟨mb, 0, none⟩) k k) (outs.map fun o => o.isSome)) ∧ Hid (MapN wq w1.heap.size k (fun x => (Fm.idxOf fs x).map fun i => (i : Int))) ∧ Hid (Ext (w.alloc (.cells #[.string NM, .slice a k c, .slice a2 n2 c2] 25)) wq)) (fun t _ => vn - (intOf t).toNat)
      case atStart => exact ⟨0, List.replicate k none, Nat.zero_le _, rfl, Lib.hid (by simp), Lib.hid (by rw [HR.out]; rfl), Lib.hid (by rw [List.map_replicate]; exact HO1.out), Lib.hid (by rw [List.map_replicate]; exact HO2.out), HP3, HX3⟩
      case round =>
        clear HO1 HO2 HP3 HX3 g0 g1 g2 j1 hmk1 hmk2
        obtain ⟨q, outs, hq, rfl, HLO, hvv, HO1, HO2, HP, HX⟩ := hrel
        by_cases hlt : q < vn
        · obtain ⟨y, hyk⟩ : ∃ y, vs[q]? = some y := ⟨_, List.getElem?_eq_getElem (by rw [HN3.out]; exact hlt)⟩
          have hxw : Ext w wr := HX.out.before
          obtain ⟨vb, vo, Y, hva, hvb, rfl, d0⟩ := HV.out.here hxw hyk
          subst hva
          have hYs := HSV.out _ (List.mem_of_getElem? hyk)
          have hYz : Y.size ≤ 1000000 := by rw [← len_data]; exact hYs
          have HDR : Hid (vs.drop q = Y.data.toList :: vs.drop (q + 1)) := Lib.hid (cons_drop hyk)
          have hv2 := hvv.out
          rw [HDR.out, Fm.putGo] at hv2
          clear hvv hyk HDR
          unfold Fm.lineOf at hv2
          cases hcut : Fm.cutAt 58 Y.data.toList with
          | none =>
            rw [hcut] at hv2
            have HV2 : Hid (res = match Fm.putGo fs outs (vs.drop (q + 1)) with | none => ([], 30) | some o => (o.map fun o => o.getD [], 0)) := Lib.hid hv2
            have HCUT := Lib.hid (cut_none Y wr hcut)
            clear hcut hv2
            go_wp2_with fail
            refine HCUT.out.mono ?_
            rintro e w5 ⟨rfl, hx5⟩
            have HO15 := Lib.hid (HO1.out.ext hx5)
            have HO25 := Lib.hid (HO2.out.ext hx5)
            have HP5 := Lib.hid (MapI.ext HP.out hx5)
            have HX5 := Lib.hid (HX.out.trans hx5)
            clear d0 hx5
            go_wp2
            go_roundw
            case rel => exact ⟨q + 1, outs, by omega, by go_num, HLO, HV2, HO15, HO25, HP5, HX5⟩
            case measure => simp [intOf]; omega
          | some pr =>
            obtain ⟨la, lb⟩ := pr
            rw [hcut] at hv2
            have hlen := congrArg List.length (cutAt_eq 58 hcut)
            rw [List.length_append, List.length_cons] at hlen
            obtain ⟨A, B, hA, hB', hCUT⟩ := cut_some Y hYz la lb hcut
            have HCUT := Lib.hid (hCUT wr)
            have hAs : A.size ≤ 9223372036854775807 := by rw [size_of_toList hA]; omega
            have hBs : B.size ≤ 9223372036854775807 := by rw [size_of_toList hB']; omega
            have HTA := Lib.hid (fun w' => trimS_any A hAs w')
            have HTB := Lib.hid (fun w' => trimS_any B hBs w')
            rw [hA] at HTA
            rw [hB'] at HTB
            have hla : (Fm.trim la).length ≤ Go.maxLen := by have := trim_le la; unfold Go.maxLen; omega
            clear hcut hCUT hA hB' hlen
            dsimp only [Option.map_some] at hv2
            cases hix : Fm.idxOf fs (Fm.trim la) with
            | none =>
              rw [hix] at hv2
              have HV2 : Hid (res = match Fm.putGo fs outs (vs.drop (q + 1)) with | none => ([], 30) | some o => (o.map fun o => o.getD [], 0)) := Lib.hid hv2
              have HIXX := Lib.hid hix
              clear hv2 hix
              go_wp2_with fail
              refine HCUT.out.mono ?_
              rintro e w5 ⟨rfl, hx5⟩
              obtain ⟨TA, hTA, hcTA⟩ := HTA.out w5
              go_wp2_with fail
              refine hcTA.mono ?_
              rintro e w6 ⟨rfl, hx6⟩
              have hg := map_get (MapI.ext HP.out (hx5.trans hx6)) TA (Fm.trim la) hTA hla
              rw [HIXX.out] at hg
              have HO15 := Lib.hid (HO1.out.ext (hx5.trans hx6))
              have HO25 := Lib.hid (HO2.out.ext (hx5.trans hx6))
              have HP5 := Lib.hid (MapI.ext HP.out (hx5.trans hx6))
              have HX5 := Lib.hid (HX.out.trans (hx5.trans hx6))
              clear d0 hx5 hx6 hTA hcTA
              go_wp2
              go_roundw
              case rel => exact ⟨q + 1, outs, by omega, by go_num, HLO, HV2, HO15, HO25, HP5, HX5⟩
              case measure => simp [intOf]; omega
            | some i =>
              rw [hix] at hv2
              dsimp only at hv2
              have hik := HIX.out _ _ hix
              have HIXX := Lib.hid hix
              obtain ⟨oi, hoi⟩ : ∃ oi, outs[i]? = some oi := ⟨_, List.getElem?_eq_getElem (by rw [HLO.out]; exact hik)⟩
              have hog : outs.getD i none = oi := by rw [List.getD_eq_getElem?_getD, hoi]; rfl
              rw [hog] at hv2
              have hiI : (i : Int) < (k : Int) := by omega
              have hm0 : (outs.map fun o => o.isSome)[i]? = some oi.isSome := by rw [List.getElem?_map, hoi]; rfl
              have ho0 : (outs.map fun o => o.getD [])[i]? = some (oi.getD []) := by rw [List.getElem?_map, hoi]; rfl
              have HM0 := Lib.hid hm0
              have HO0 := Lib.hid ho0
              clear hix hog hoi hm0 ho0
              cases hs : oi.isSome with
              | true =>
                rw [hs, if_pos rfl] at hv2
                rw [hs] at HM0
                have HF2 : Hid (res = ([], 30)) := Lib.hid hv2
                clear hv2 hs
                go_wp2_with fail
                refine HCUT.out.mono ?_
                rintro e w5 ⟨rfl, hx5⟩
                obtain ⟨TA, hTA, hcTA⟩ := HTA.out w5
                go_wp2_with fail
                refine hcTA.mono ?_
                rintro e w6 ⟨rfl, hx6⟩
                have hg := map_get (MapI.ext HP.out (hx5.trans hx6)) TA (Fm.trim la) hTA hla
                rw [HIXX.out] at hg
                have hcm := own_cell encb_len (HO2.out.ext (hx5.trans hx6)) HM0.out rfl
                have hx7 := hxw.trans (hx5.trans hx6)
                clear d0 hx5 hx6 hTA hcTA
                go_wp2
                go_ret2
                exact ⟨_, by rw [HF2.out]; rfl, by rw [HF2.out]; exact StrsR.nil _, hx7⟩
              | false =>
                rw [hs, if_neg (by decide)] at hv2
                rw [hs] at HM0
                have HV2 : Hid (res = match Fm.putGo fs (outs.set i (some (Fm.trim lb))) (vs.drop (q + 1)) with | none => ([], 30) | some o => (o.map fun o => o.getD [], 0)) := Lib.hid hv2
                clear hv2 hs
                go_wp2_with fail
                refine HCUT.out.mono ?_
                rintro e w5 ⟨rfl, hx5⟩
                obtain ⟨TA, hTA, hcTA⟩ := HTA.out w5
                go_wp2_with fail
                refine hcTA.mono ?_
                rintro e w6 ⟨rfl, hx6⟩
                have hg := map_get (MapI.ext HP.out (hx5.trans hx6)) TA (Fm.trim la) hTA hla
                rw [HIXX.out] at hg
                have hO2 := HO2.out.ext (hx5.trans hx6)
                have hO1 := HO1.out.ext (hx5.trans hx6)
                have hcm := own_cell encb_len hO2 HM0.out rfl
                have hfm := own_free hO2 i
                obtain ⟨hO3, hg3⟩ := hO2.stored encb_len HM0.out (show 0 < 1 by omega) (.bool true) (y := true) rfl
                rw [Nat.mul_one, Nat.add_zero] at hO3 hg3
                have hO4 := hO1.kept hg3 (.inr (by intro e; have e' : ob = mb := Option.some.inj e; omega))
                have HP6 := Lib.hid ((MapI.ext HP.out (hx5.trans hx6)).kept hg3 (by intro e; injection e with e; omega))
                have HX6 := Lib.hid (((HX.out.trans (hx5.trans hx6))).setCell (p := ⟨mb, i, none⟩) (by simp; omega) (.bool true))
                obtain ⟨W6, hW6⟩ : ∃ W6, W6 = w6.setCell ⟨mb, i, none⟩ (.bool true) := ⟨_, rfl⟩
                rw [← hW6] at hO3 hO4 HP6 HX6
                have HW6 := Lib.hid hW6
                have HO3 := Lib.hid hO3
                have HO4 := Lib.hid hO4
                obtain ⟨TB, hTB, hcTB⟩ := HTB.out W6
                have HTB2 := Lib.hid hcTB
                have HTBD := Lib.hid hTB
                clear d0 hx5 hx6 hTA hcTA hW6 hO1 hO2 hO3 hO4 hg3 hcTB hTB
                go_wp2_with fail
                rw [← HW6.out]
                refine HTB2.out.mono ?_
                rintro e w7 ⟨rfl, hx7⟩
                have hO5 := HO4.out.ext hx7
                have hfo := own_free hO5 i
                have hco := own_cell enc1_len hO5 HO0.out rfl
                obtain ⟨hO8, hg8⟩ := hO5.stored enc1_len HO0.out (show 0 < 1 by omega) (.string TB) (y := TB.data.toList) (by rw [enc1_mk]; rfl)
                rw [Nat.mul_one, Nat.add_zero] at hO8 hg8
                have HO1' : Hid (KOwn 9 1 enc1 (w7.setCell ⟨ob, i, none⟩ (.string TB)) (w1.heap.size + 1) (.slice (some ⟨ob, 0, none⟩) k k) ((outs.set i (some (Fm.trim lb))).map fun o => o.getD [])) := Lib.hid (by rw [List.map_set]; rw [HTBD.out] at hO8; exact hO8)
                have HO2' : Hid (KOwn 4 1 encb (w7.setCell ⟨ob, i, none⟩ (.string TB)) (w1.heap.size + 1) (.slice (some ⟨mb, 0, none⟩) k k) ((outs.set i (some (Fm.trim lb))).map fun o => o.isSome)) := Lib.hid (by rw [List.map_set]; exact (HO3.out.ext hx7).kept hg8 (.inr (by intro e; have e' : mb = ob := Option.some.inj e; omega)))
                have HP8 := Lib.hid ((MapI.ext HP6.out hx7).kept hg8 (by intro e; injection e with e; omega))
                have HX8 := Lib.hid ((HX6.out.trans hx7).setCell (p := ⟨ob, i, none⟩) (by simp; omega) (.string TB))
                have HLO2 : Hid ((outs.set i (some (Fm.trim lb))).length = k) := Lib.hid (by rw [List.length_set]; exact HLO.out)
                clear hO5 hO8 hg8 hx7 hcm hfm
                go_wp2
                go_roundw
                case rel => exact ⟨q + 1, _, by omega, by go_num, HLO2, HV2, HO1', HO2', HP8, HX8⟩
                case measure => simp [intOf]; omega
        · obtain rfl : q = vn := by omega
          have HF2 : Hid (res = (outs.map fun o => o.getD [], 0)) := Lib.hid (by
            have := hvv.out
            rw [List.drop_of_length_le (by rw [HN3.out]; exact Nat.le_refl _)] at this
            exact this)
          have hx5 := HX.out.before
          clear hlt hq hvv
          go_wp2
          go_ret2
          exact ⟨_, by rw [HF2.out]; rfl, by rw [HF2.out]; exact KOwn.strs HO1.out, hx5⟩
end Go.Proofs.YtkpfehfcgpapiaaGreatDoor
