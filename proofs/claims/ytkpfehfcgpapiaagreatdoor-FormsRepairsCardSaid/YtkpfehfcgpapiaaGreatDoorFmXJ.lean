/-
  Chapter 51: Verify: the reference.
  No condition.
-/
import Derived.Test.YtkpfehfcgpapiaaGreatDoorFmXI
import Derived.Test.YtkpfehfcgpapiaaGreatDoorFmVd
import Derived.Test.YtkpfehfcgpapiaaGreatDoorFmVg
import Derived.Test.YtkpfehfcgpapiaaGreatDoorFmPa
namespace Go.Proofs.YtkpfehfcgpapiaaGreatDoor
set_option linter.unusedVariables false
open Go.RowKit

theorem append_w {w : World} {ops : Array Oper} {rest : List Oper} {o : Oper} {a : Act} {Q : Exit → Act → World → Prop} (hgd : o.guard = none) (s x : Operand)
    (ho : o.op = .call { callee := .builtin .append, args := #[s, x], argTypes := #[37, 37] })
    (B : Nat) (v : Value) (xs : List Fm.S) (hs : a.eval s = v) (hown : OwnW w B v xs) (b : Nat) (X : ByteArray) (hx : a.eval x = .slice (some ⟨b, 0, none⟩) 1 1)
    (h0 : w.cell? ⟨b, 0, none⟩ = some (.string X)) (hn : xs.length ≤ 999999999) (hB : B ≤ w.heap.size)
    (h : ∀ v' w', OwnW w' B v' (xs ++ [X.data.toList]) → w.grownBy w' v.ownBlock → wpList Tryz.prog ops Q rest (a.put o.dst v') w') : wpList Tryz.prog ops Q (o :: rest) a w := by
  refine append_k (enc := enc1) (k := 1) hgd s x 37 9 (.string ⟨#[]⟩) 16 ho Tryz.underlying37 info_strs rfl (by decide) (by decide) enc1_len enc1_one B v xs hs hown b X.data.toList hx ?_ hn hB h
  intro c r hc
  match c with
  | 0 =>
    have : r = .string X := by rw [← strV_mk]; exact (Option.some.inj hc).symm
    rw [h0, this]
  | c + 1 => simp [enc1] at hc
theorem Fm.wrongGo_app : ∀ (fs gs : List Fm.Fld) (vs us : List Fm.S), vs.length = fs.length → Fm.wrongGo (fs ++ gs) (vs ++ us) = Fm.wrongGo fs vs ++ Fm.wrongGo gs us
  | [], gs, [], us, _ => rfl
  | [], _, _ :: _, _, h => by cases h
  | _ :: _, _, [], _, h => by cases h
  | f :: fs, gs, v :: vs, us, h => by
    rw [List.cons_append, List.cons_append, Fm.wrongGo, Fm.wrongGo, Fm.wrongGo_app fs gs vs us (by simpa using h), List.append_assoc]
theorem Fm.wrongGo_at {fs : List Fm.Fld} {vs : List Fm.S} (hl : vs.length = fs.length) {i : Nat} {f : Fm.Fld} {v : Fm.S} (hf : fs[i]? = some f) (hv : vs[i]? = some v) :
    Fm.wrongGo (fs.take (i + 1)) (vs.take (i + 1)) = Fm.wrongGo (fs.take i) (vs.take i) ++ (if Fm.value f v = 0 then [] else [f.name]) := by
  rw [snoc_take hf, snoc_take hv, Fm.wrongGo_app _ _ _ _ (by rw [List.length_take, List.length_take, hl])]
  congr 1
  unfold Fm.wrongGo
  simp [Fm.wrongGo]
theorem Fm.wrongGo_len : ∀ (fs : List Fm.Fld) (vs : List Fm.S), (Fm.wrongGo fs vs).length ≤ fs.length
  | [], vs => by cases vs <;> exact Nat.le_refl _
  | _ :: _, [] => Nat.zero_le _
  | f :: fs, v :: vs => by
    have := Fm.wrongGo_len fs vs
    unfold Fm.wrongGo
    rw [List.length_append, List.length_cons]
    split <;> simp <;> omega

set_option maxRecDepth 100000 in
set_option maxHeartbeats 4000000 in
theorem xverify_any (NM : ByteArray) (a : Option Addr) (n c : Nat) (a2 : Option Addr) (n2 c2 : Nat) (fs : List Fm.Fld) (ss : List Fm.Sm) (va : Option Addr) (vn vc : Nat) (vs : List Fm.S) (w : World) (hf : FldsR w (.slice a n c) fs) (hm : SumsR w (.slice a2 n2 c2) ss) (hB : ∀ f ∈ fs, FldB f) (hM : ∀ r ∈ ss, SmB r) (hN0 : n ≤ 9223372036854775807)
    (hv : StrsR w (.slice va vn vc) vs) (hsv : Short Go.maxLen vs) (hvb0 : vs.length ≤ Go.maxLen) :
    Calls Tryz.prog 25 #[.agg #[.string NM, .slice a n c, .slice a2 n2 c2], .slice va vn vc] w (IssR (Fm.verify ⟨NM.data.toList, fs, ss⟩ vs) w) := by
  obtain ⟨a', c', he⟩ := hf.form
  injection he with e1 e2 e3
  subst e1 e3
  obtain ⟨a', c', he⟩ := hm.form
  injection he with e1 e4 e3
  subst e1 e3
  obtain ⟨a', c', he, _⟩ := hv.form
  injection he with e1 e5 e3
  subst e1 e3
  have HR := Lib.hid (Fm.verify.eq_1 ⟨NM.data.toList, fs, ss⟩ vs)
  dsimp only at HR
  generalize Fm.verify ⟨NM.data.toList, fs, ss⟩ vs = res at *
  rw [← e2, ← e5] at HR
  have HN := Lib.hid e2.symm
  have HN2 := Lib.hid e4.symm
  have HN3 := Lib.hid e5.symm
  have hvb : vn ≤ 9223372036854775807 := by rw [← e5] at hvb0; unfold Go.maxLen at hvb0; omega
  have HC := Lib.hid (fun (w' : World) (hx : Ext w w') => xcheck_any NM a n c a2 n2 c2 fs ss w' (hf.ext hx) (hm.ext hx) hB hM hN0)
  have HF := Lib.hid hf
  have HS := Lib.hid hm
  have HB := Lib.hid hB
  have HM := Lib.hid hM
  have HV := Lib.hid hv
  have HSV := Lib.hid hsv
  obtain ⟨V0, hV0⟩ : ∃ V, V = w.alloc (.cells #[.string NM, .slice a n c, .slice a2 n2 c2] 25) := ⟨_, rfl⟩
  have hxV : Ext w V0 := by rw [hV0]; exact (Ext.refl w).alloc _
  have HRV : Hid (V0.heap[w.heap.size]? = some (.cells #[.string NM, .slice a n c, .slice a2 n2 c2] 25 (0, 0))) := Lib.hid (by rw [hV0]; exact heap_alloc_new w _)
  have hzV : V0.heap.size = w.heap.size + 1 := by rw [hV0]; simp
  have HCV := Lib.hid (HC.out V0 hxV)
  have HVE := Lib.hid hV0
  have HXV := Lib.hid hxV
  clear hf hm hB hM e2 e4 e5 hv hsv hvb0 hV0 hxV HC
  by_cases hc : Fm.check ⟨NM.data.toList, fs, ss⟩ = 0
  rotate_left
  · rw [if_neg hc] at HR
    generalize Fm.check ⟨NM.data.toList, fs, ss⟩ = z at *
    have z0 : (z == 0) = false := beq_eq_false_iff_ne.2 hc
    have z1 : (z != 0) = true := bne_iff_ne.2 hc
    clear hc
    go_enter Tryz.func25, Tryz.ntmps25
    go_wp2_with fail
    rw [← HVE.out]
    refine HCV.out.mono ?_
    rintro e w1 ⟨rfl, hx1⟩
    have hxw := HXV.out.trans hx1
    go_wp2_with fail
    go_ret2
    exact ⟨_, by rw [HR.out]; rfl, by rw [HR.out]; exact KSl.nil _ _ _, hxw⟩
  rw [if_pos hc] at HR
  have HCK := Lib.hid hc
  rw [hc] at HCV
  clear hc
  by_cases hl : vn = n
  rotate_left
  · rw [if_neg hl] at HR
    have z0 : ((vn : Int) == (n : Int)) = false := by rw [beq_eq_false_iff_ne]; omega
    have z1 : ((vn : Int) != (n : Int)) = true := by rw [bne_iff_ne]; omega
    clear hl
    go_enter Tryz.func25, Tryz.ntmps25
    go_wp2_with fail
    rw [← HVE.out]
    refine HCV.out.mono ?_
    rintro e w1 ⟨rfl, hx1⟩
    have hxw := HXV.out.trans hx1
    have r1 := row_on HRV.out hx1
    have k1 : w1.cell? ⟨w.heap.size, 1, none⟩ = some (.slice a n c) := cell_at r1 rfl
    clear r1
    go_wp2_with fail
    go_ret2
    exact ⟨_, by rw [HR.out]; rfl, by rw [HR.out]; exact KSl.nil _ _ _, hxw⟩
  subst hl
  rw [if_pos rfl] at HR
  have z0 : ((vn : Int) == (vn : Int)) = true := beq_self_eq_true _
  have z1 : ((vn : Int) != (vn : Int)) = false := by rw [bne_eq_false_iff_eq]
  have hnf : vn ≤ 256 := by have := (Fm.valid_of HCK.out).few.1; rw [show (⟨NM.data.toList, fs, ss⟩ : Fm.Frm).fields = fs from rfl, HN.out] at this; exact this
  have hnf2 : n2 ≤ 256 := by have := (Fm.valid_of HCK.out).few.2; rw [show (⟨NM.data.toList, fs, ss⟩ : Fm.Frm).sums = ss from rfl, HN2.out] at this; exact this
  have HPL : Hid (∀ r ∈ ss, r.parts.length ≤ 256) := Lib.hid fun r hr => Fm.parts_len HCK.out hr
  have HLEN : Hid (vs.length = fs.length) := Lib.hid (by rw [HN.out, HN3.out])
  obtain ⟨WR, hWR⟩ : ∃ WR, WR = Fm.wrongGo fs vs := ⟨_, rfl⟩
  have HSI : Hid (∀ r ∈ ss, Fm.sumIss (Fm.rightGo fs vs) r = Fm.sumIssX fs vs WR r) := Lib.hid fun r hr => by
    rw [hWR]; exact (Fm.sum_same (F := ⟨NM.data.toList, fs, ss⟩) HCK.out HLEN.out hr).symm
  have HNO : Hid (∀ r ∈ ss, (r.total ∉ WR → NumOk fs vs r.total) ∧ ∀ p ∈ r.parts, p ∉ WR → NumOk fs vs p) := Lib.hid fun r hr => by
    obtain ⟨ht, -, hp⟩ := (Fm.valid_of HCK.out).sums r hr
    rw [hWR]
    exact ⟨fun h => Fm.num_ok (F := ⟨NM.data.toList, fs, ss⟩) HCK.out HLEN.out ht h, fun p hm h => Fm.num_ok (F := ⟨NM.data.toList, fs, ss⟩) HCK.out HLEN.out (hp p hm) h⟩
  have HWR := Lib.hid hWR
  have hWl : WR.length ≤ 256 := by rw [hWR]; have h1 := Fm.wrongGo_len fs vs; have h2 := HN.out; omega
  clear hWR
  go_enter Tryz.func25, Tryz.ntmps25
  go_wp2_with fail
  rw [← HVE.out]
  refine HCV.out.mono ?_
  rintro e w1 ⟨rfl, hx1⟩
  have r1 := row_on HRV.out hx1
  have k1 : w1.cell? ⟨w.heap.size, 1, none⟩ = some (.slice a vn c) := cell_at r1 rfl
  have HX1 := Lib.hid hx1
  clear hx1 r1
  go_wp2_with fail
  go_loopw [7, 8, 9] (fun v u t wr => ∃ (k : Nat), k ≤ vn ∧ t = .int .i64 (k : Int) ∧ Hid (OwnI wr (w.heap.size + 1) v (Fm.issGo (fs.take k) (vs.take k))) ∧ Hid (OwnW wr (w.heap.size + 1) u (Fm.wrongGo (fs.take k) (vs.take k))) ∧ Hid (Ext V0 wr)) (fun _ _ t _ => vn - (intOf t).toNat)
  case atStart => exact ⟨0, Nat.zero_le _, rfl, Lib.hid (by cases vs <;> exact KOwn.nil _ _ _ _ _), Lib.hid (by cases vs <;> exact KOwn.nil _ _ _ _ _), HX1⟩
  case round =>
    clear HX1 k1
    obtain ⟨k, hk, rfl, HO, HU, HX⟩ := hrel
    have hxw : Ext w wr := HXV.out.trans HX.out
    have r1 := row_on HRV.out HX.out
    by_cases hlt : k < vn
    · obtain ⟨f, hfk⟩ : ∃ f, fs[k]? = some f := ⟨_, List.getElem?_eq_getElem (by rw [HN.out]; exact hlt)⟩
      obtain ⟨y, hyk⟩ : ∃ y, vs[k]? = some y := ⟨_, List.getElem?_eq_getElem (by rw [HN3.out]; exact hlt)⟩
      have HIS := Lib.hid (Fm.issGo_at HLEN.out hfk hyk)
      have HWS := Lib.hid (Fm.wrongGo_at HLEN.out hfk hyk)
      obtain ⟨b1, b2, b3⟩ := HB.out _ (List.mem_of_getElem? hfk)
      have hYs := HSV.out _ (List.mem_of_getElem? hyk)
      obtain ⟨b, o, X, op, mn, mx, ck, la, ln, lc, l, opt, ha, hb, rfl, hl, c0, c1, c2', c3, c4, c5, c6⟩ := HF.out.here hxw hfk
      subst ha
      obtain ⟨vb, vo, Y, hva, hvb', rfl, d0⟩ := HV.out.here hxw hyk
      subst hva
      dsimp only at b1 b2 b3
      unfold Fm.fldIss at HIS
      dsimp only at HIS HWS
      have HIL : Hid ((Fm.issGo (fs.take k) (vs.take k)).length ≤ 256) := Lib.hid (Nat.le_trans (Fm.issGo_len _ _) (Nat.le_trans (take_len fs k) (by omega)))
      have HWL : Hid ((Fm.wrongGo (fs.take k) (vs.take k)).length ≤ 256) := Lib.hid (Nat.le_trans (Fm.wrongGo_len _ _) (Nat.le_trans (take_len fs k) (by omega)))
      have hYs9 : Y.size ≤ 9223372036854775807 := by rw [len_data] at hYs; unfold Go.maxLen at hYs; omega
      have HVV := Lib.hid (fun x : Ahead wr => xvalue_any X op mn mx ck la ln lc opt l Y hYs9 x.at' (hl.ext (hxw.trans x.ext)) b2 b3)
      obtain ⟨z, hz⟩ : ∃ z, z = Fm.value ⟨X.data.toList, op, mn, mx, ck, l, opt⟩ Y.data.toList := ⟨_, rfl⟩
      rw [← hz] at HVV HIS HWS
      have HC0 : Hid (w.cell? ⟨b, o + k * 7, none⟩ = some (.string X)) := Lib.hid ((hxw.cell (p := ⟨b, o + k * 7, none⟩) hb).symm.trans c0)
      have hbw : b < wr.heap.size := Nat.lt_of_lt_of_le hb hxw.size
      have hvw : vb < wr.heap.size := Nat.lt_of_lt_of_le hvb' hxw.size
      have k1 : ∀ x : Ahead wr, x.at'.cell? ⟨w.heap.size, 1, none⟩ = some (.slice (some ⟨b, o, none⟩) vn c) := fun x => cell_at (row_on r1 x.ext) rfl
      have g0 := ahead_cell c0 hbw
      have g1 := ahead_cell c1 hbw
      have g2 := ahead_cell c2' hbw
      have g3 := ahead_cell c3 hbw
      have g4 := ahead_cell c4 hbw
      have g5 := ahead_cell c5 hbw
      have g6 := ahead_cell c6 hbw
      have gd := ahead_cell d0 hvw
      have hkI : (k : Int) < (vn : Int) := by omega
      have HRW := Lib.hid r1
      have hsz : w.heap.size + 1 ≤ wr.heap.size := by have := HX.out.size; omega
      clear hz hyk hfk hl r1 c0 c1 c2' c3 c4 c5 c6 d0 hYs hYs9 b1 b2 b3
      go_upto_region 11 with fail
      refine wp_region_quiet (C := fun w' => ∃ x : Ahead wr, w' = x.at') (by kernel_rfl) (by kernel_rfl) (Ahead.drawn _) ?_
      try dsimp only
      repeat (first | go_big_quiet_step ((go_at_call 23; exact ahead_of (HVV.out _))) | quiet_step ((go_at_call 23; exact ahead_of (HVV.out _))))
      refine wpQuiet_nil ?_
      intro _ hx0
      obtain ⟨x0, hx0⟩ := hx0
      subst hx0
      obtain ⟨w8, hx8⟩ := x0
      try dsimp only
      have HX8 := Lib.hid (HX.out.trans hx8)
      have hx8w : Ext w w8 := hxw.trans hx8
      clear HVV
      by_cases hz0 : z = 0
      · subst hz0
        rw [if_pos rfl, List.append_nil] at HIS HWS
        have HO2 : Hid (OwnI w8 (w.heap.size + 1) _ (Fm.issGo (fs.take (k + 1)) (vs.take (k + 1)))) := Lib.hid (by rw [HIS.out]; exact HO.out.ext hx8)
        have HU2 : Hid (OwnW w8 (w.heap.size + 1) _ (Fm.wrongGo (fs.take (k + 1)) (vs.take (k + 1)))) := Lib.hid (by rw [HWS.out]; exact HU.out.ext hx8)
        clear k1 g0 g1 g2 g3 g4 g5 g6 gd hx8 HO HU
        go_wp2_with fail
        go_roundw
        case rel => exact ⟨k + 1, by omega, by go_num, HO2, HU2, HX8⟩
        case measure => (simp [intOf]; try omega)
      have zz : (z != 0) = true := bne_iff_ne.2 hz0
      have zz2 : (z == 0) = false := beq_eq_false_iff_ne.2 hz0
      rw [if_neg hz0] at HIS HWS
      have m1 := k1 ⟨w8, hx8⟩
      have m2 := g0 ⟨w8, hx8⟩
      dsimp only at m1 m2
      have hown := HO.out.ext hx8
      have hownu := HU.out.ext hx8
      have hs8 : w.heap.size + 1 ≤ w8.heap.size := by have := hx8.size; omega
      have hb8 : b < w8.heap.size := Nat.lt_of_lt_of_le hbw hx8.size
      clear k1 g0 g1 g2 g3 g4 g5 g6 gd hx8 HO HU hz0
      go_wp2_with (at_builtin; refine append_iss rfl _ _ rfl (w.heap.size + 1) _ _ rfl (hown.ext ((Ext.refl _).alloc _)) _ X z rfl ?c1 ?c2 ?c3 ?c4 ?_)
      case c1 => simp [go_sem]
      case c2 => simp [go_sem]
      case c3 => have := HIL.out; omega
      case c4 => first | (simp; omega) | omega
      intro v' w9 hown9 hg9
      have hlow := hown.low
      have HX9 := Lib.hid ((HX8.out.alloc _).ofGrown hg9 (fun j hj => by have := hlow j hj; omega))
      have hownu9 := (hownu.ext ((Ext.refl _).alloc _)).kept hg9 (KOwn.apart hownu hown (by decide))
      have r9 := row_on HRV.out HX9.out
      have n1 : w9.cell? ⟨w.heap.size, 1, none⟩ = some (.slice (some ⟨b, o, none⟩) vn c) := cell_at r9 rfl
      have n2 : w9.cell? ⟨b, o + k * 7, none⟩ = some (.string X) := ((HXV.out.trans HX9.out).cell (p := ⟨b, o + k * 7, none⟩) hb).trans HC0.out
      have hs9 : w.heap.size + 1 ≤ w9.heap.size := by have := HX9.out.size; omega
      clear m1 m2 r9 hg9 hown hownu hlow hx8w
      go_wp2_with (at_builtin; refine append_w rfl _ _ rfl (w.heap.size + 1) _ _ rfl (hownu9.ext ((Ext.refl _).alloc _)) _ X rfl ?d1 ?d2 ?d3 ?_)
      case d1 => simp [go_sem]
      case d2 => have := HWL.out; omega
      case d3 => first | (simp; omega) | omega
      intro v'' w10 hown10 hg10
      have hlow := hownu9.low
      have HX10 := Lib.hid ((HX9.out.alloc _).ofGrown hg10 (fun j hj => by have := hlow j hj; omega))
      have HO10 : Hid (OwnI w10 (w.heap.size + 1) v' (Fm.issGo (fs.take (k + 1)) (vs.take (k + 1)))) := Lib.hid (by rw [HIS.out]; exact (hown9.ext ((Ext.refl _).alloc _)).kept hg10 (KOwn.apart hown9 hownu9 (by decide)))
      have HU10 : Hid (OwnW w10 (w.heap.size + 1) v'' (Fm.wrongGo (fs.take (k + 1)) (vs.take (k + 1)))) := Lib.hid (by rw [HWS.out]; exact hown10)
      clear n1 n2 hown9 hown10 hownu9 hg10 hlow
      go_wp2_with fail
      go_roundw
      case rel => exact ⟨k + 1, by omega, by go_num, HO10, HU10, HX10⟩
      case measure => (simp [intOf]; try omega)
    · obtain rfl : k = vn := by omega
      have hO := HO.out
      have hU := HU.out
      rw [List.take_of_length_le (by rw [HN.out]; exact Nat.le_refl _), List.take_of_length_le (by rw [HN3.out]; exact Nat.le_refl _)] at hO hU
      rw [← HWR.out] at hU
      have hIl : (Fm.issGo fs vs).length ≤ 256 := by have h1 := Fm.issGo_len fs vs; have h2 := HN.out; omega
      obtain ⟨IS, hIS⟩ : ∃ IS, IS = Fm.issGo fs vs := ⟨_, rfl⟩
      rw [← hIS] at hO hIl HR
      obtain ⟨RG, hRG⟩ : ∃ RG, RG = Fm.rightGo fs vs := ⟨_, rfl⟩
      rw [← hRG] at HR HSI
      have HO' := Lib.hid hO
      have HU' := Lib.hid hU
      obtain ⟨W0, hW0⟩ : ∃ W0, W0 = wr := ⟨_, rfl⟩
      subst hW0
      clear hO hU hIS hRG HO HU r1 hlt hk hxw HLEN
      go_wp2_with fail
      go_loopw [7, 11] (fun v t wq => ∃ q : Nat, q ≤ n2 ∧ t = .int .i64 (q : Int) ∧ Hid (OwnI wq (w.heap.size + 1) v (IS ++ (ss.take q).flatMap (Fm.sumIss RG))) ∧ Hid (OwnW wq (w.heap.size + 1) u8 WR) ∧ Hid (Ext V0 wq)) (fun _ t _ => n2 - (intOf t).toNat)
      case atStart => exact ⟨0, Nat.zero_le _, rfl, by simpa using HO', HU', HX⟩
      case round =>
        clear HO' HU' HX
        obtain ⟨q, hq, rfl, HO, HU, HX⟩ := hrel
        have hxw : Ext w wr := HXV.out.trans HX.out
        have r1 := row_on HRV.out HX.out
        have k2 : wr.cell? ⟨w.heap.size, 2, none⟩ = some (.slice a2 n2 c2) := cell_at r1 rfl
        by_cases hlt : q < n2
        · obtain ⟨r, hrk⟩ : ∃ r, ss[q]? = some r := ⟨_, List.getElem?_eq_getElem (by rw [HN2.out]; exact hlt)⟩
          have hmem := List.mem_of_getElem? hrk
          have HSQ : Hid (IS ++ (ss.take (q + 1)).flatMap (Fm.sumIss RG) = (IS ++ (ss.take q).flatMap (Fm.sumIss RG)) ++ Fm.sumIssX fs vs WR r) := Lib.hid (by rw [snoc_take hrk, List.flatMap_append, List.append_assoc, List.flatMap_singleton, HSI.out r hmem])
          have HQL : Hid ((IS ++ (ss.take q).flatMap (Fm.sumIss RG)).length ≤ 600) := Lib.hid (by
            rw [List.length_append]
            have h1 : ∀ l : List Fm.Sm, (l.flatMap (Fm.sumIss RG)).length ≤ l.length := by
              intro l
              induction l with
              | nil => exact Nat.le_refl _
              | cons y l ih =>
                rw [List.flatMap_cons, List.length_append, List.length_cons]
                have : (Fm.sumIss RG y).length ≤ 1 := by unfold Fm.sumIss; split <;> simp
                omega
            have h2 := h1 (ss.take q)
            rw [List.length_take] at h2
            omega)
          obtain ⟨hno1, hno2⟩ := HNO.out r hmem
          have hpl := HPL.out r hmem
          obtain ⟨b, o, X, la, ln, lc, l, ha, hb, rfl, hl, c0, c1⟩ := HS.out.here hxw hrk
          subst ha
          obtain ⟨a', c', he, _⟩ := hl.form
          injection he with e1 e6 e3
          subst e1 e3
          dsimp only at hno1 hno2 hpl
          have hln : ln ≤ 256 := by omega
          have HLN := Lib.hid e6.symm
          unfold Fm.sumIssX at HSQ
          have hwx : Fm.wholeX WR ⟨X.data.toList, l⟩ = (!WR.contains X.data.toList && l.all fun p => !WR.contains p) := rfl
          rw [hwx] at HSQ
          dsimp only at HSQ
          obtain ⟨V, hV⟩ : ∃ V, V = wr.alloc (.cells #[.string X, .slice la ln lc] 56) := ⟨_, rfl⟩
          have hxV : Ext wr V := by rw [hV]; exact (Ext.refl _).alloc _
          have hr0 : V.heap[wr.heap.size]? = some (.cells #[.string X, .slice la ln lc] 56 (0, 0)) := by rw [hV]; exact heap_alloc_new _ _
          have p0 := cell_at hr0 (i := 0) rfl
          have p1 := cell_at hr0 (i := 1) rfl
          have hVw : Ext w V := hxw.trans hxV
          have rV := row_on HRV.out (HX.out.trans hxV)
          have v0 : V.cell? ⟨w.heap.size, 0, none⟩ = some (.string NM) := cell_at rV rfl
          have v1 : V.cell? ⟨w.heap.size, 1, none⟩ = some (.slice a k c) := cell_at rV rfl
          have v2 : V.cell? ⟨w.heap.size, 2, none⟩ = some (.slice (some ⟨b, o, none⟩) n2 c2) := cell_at rV rfl
          have hUV := HU.out.ext hxV
          have hst := KOwn.strs hUV
          have HHT := Lib.hid (xhas_any _ WR X V hst (by omega))
          have HHP := Lib.hid (fun Y => xhas_any _ WR Y V hst (by omega))
          have HADD : Hid (X.data.toList ∉ WR → (∀ p ∈ l, p ∉ WR) → Calls Tryz.prog 60 #[.agg #[.string NM, .slice a k c, .slice (some ⟨b, o, none⟩) n2 c2], .slice va k vc, .agg #[.string X, .slice la ln lc]] V fun e w' => e = .returned (.bool (Fm.addsX fs vs ⟨X.data.toList, l⟩ == 0)) ∧ Ext V w') := Lib.hid fun h1 h2 => xadds_any NM a k c (some ⟨b, o, none⟩) n2 c2 fs va k vc vs X la ln lc l V (HF.out.ext hVw) (by omega) (HV.out.ext hVw) HSV.out (by omega) (hl.ext hVw) (by omega) (hno1 h1) (fun p hp => hno2 p hp (h2 p hp))
          have HLV := Lib.hid (hl.ext hVw)
          have HOV := Lib.hid (HO.out.ext hxV)
          have HUV := Lib.hid hUV
          have HXV2 := Lib.hid (HX.out.trans hxV)
          have HR0 := Lib.hid hr0
          have HVE2 := Lib.hid hV
          have hVs : w.heap.size + 1 ≤ V.heap.size := by have := HXV2.out.size; omega
          have hqI : (q : Int) < (n2 : Int) := by omega
          generalize Fm.addsX fs vs ⟨X.data.toList, l⟩ = ad at *
          obtain ⟨tb, htb⟩ : ∃ tb, tb = WR.contains X.data.toList := ⟨_, rfl⟩
          rw [← htb] at HHT HSQ
          have HTB := Lib.hid htb
          clear hno1 hno2 hpl hl e6 hwx hxV hr0 hVw rV hUV hst hrk hmem hV HO HU htb r1
          go_wp2_with fail
          rw [← HVE2.out]
          refine HHT.out.mono ?_
          rintro e w4 ⟨rfl, rfl⟩
          clear k2 c0 c1
          go_wp2_with fail
          go_loop [13, 14] (fun wb t => ∃ (j : Nat) (B : Bool), j ≤ ln ∧ t = .int .i64 (j : Int) ∧ wb = .bool B ∧ Hid (B = (!tb && (l.take j).all fun p => !WR.contains p))) (fun _ t => ln - (intOf t).toNat)
          case atStart => exact ⟨0, !tb, Nat.zero_le _, rfl, rfl, Lib.hid (by simp)⟩
          case round =>
            obtain ⟨j, B, hj, rfl, rfl, HBB⟩ := hrel
            by_cases hjl : j < ln
            · obtain ⟨y, hyk⟩ : ∃ y, l[j]? = some y := ⟨_, List.getElem?_eq_getElem (by rw [HLN.out]; exact hjl)⟩
              obtain ⟨bb, off, Y, ha, hbb, rfl, d0⟩ := HLV.out.here (Ext.refl V) hyk
              subst ha
              have HB2 : Hid ((B && !WR.contains Y.data.toList) = (!tb && (l.take (j + 1)).all fun p => !WR.contains p)) := Lib.hid (by rw [HBB.out, snoc_take hyk, List.all_append, Bool.and_assoc]; simp)
              have HHY := Lib.hid (HHP.out Y)
              have hjI : (j : Int) < (ln : Int) := by omega
              generalize WR.contains Y.data.toList = yb at *
              clear hyk HBB
              cases B with
              | false =>
                rw [Bool.false_and] at HB2
                go_wp2_with fail
                go_round
                case rel => exact ⟨j + 1, false, by omega, by go_num, rfl, HB2⟩
                case measure => (simp [intOf]; try omega)
              | true =>
                rw [Bool.true_and] at HB2
                go_wp2_with fail
                refine HHY.out.mono ?_
                rintro e w5 ⟨rfl, rfl⟩
                go_wp2_with fail
                go_round
                case rel => exact ⟨j + 1, !yb, by omega, by go_num, rfl, HB2⟩
                case measure => (simp [intOf]; try omega)
            · obtain rfl : j = ln := by omega
              rw [List.take_of_length_le (by rw [HLN.out]; exact Nat.le_refl _)] at HBB
              rw [← HBB.out] at HSQ
              clear hjl hj HHP HHT
              cases B with
              | false =>
                rw [if_neg (fun h => Bool.noConfusion h.1), List.append_nil] at HSQ
                have HO3 : Hid (OwnI V (w.heap.size + 1) _ (IS ++ (ss.take (q + 1)).flatMap (Fm.sumIss RG))) := Lib.hid (by rw [HSQ.out]; exact HOV.out)
                clear v0 v1 v2
                go_wp2_with fail
                go_roundw
                case rel => exact ⟨q + 1, by omega, by go_num, HO3, HUV, HXV2⟩
                case measure => (simp [intOf]; try omega)
              | true =>
                have hb2 := HBB.out.symm
                rw [Bool.and_eq_true, List.all_eq_true] at hb2
                have HAD := Lib.hid (HADD.out (fun h => by have h1 := hb2.1; rw [HTB.out, List.contains_iff_mem.2 h] at h1; cases h1) (fun p hp h => by have h1 := hb2.2 p hp; rw [List.contains_iff_mem.2 h] at h1; cases h1))
                clear hb2 HADD
                by_cases had : ad = 0
                · subst had
                  rw [if_neg (fun h => h.2 rfl), List.append_nil] at HSQ
                  go_wp2_with fail
                  refine HAD.out.mono ?_
                  rintro e w5 ⟨rfl, hx5⟩
                  have HO3 : Hid (OwnI w5 (w.heap.size + 1) _ (IS ++ (ss.take (q + 1)).flatMap (Fm.sumIss RG))) := Lib.hid (by rw [HSQ.out]; exact HOV.out.ext hx5)
                  have HU3 := Lib.hid (HUV.out.ext hx5)
                  have HX3 := Lib.hid (HXV2.out.trans hx5)
                  clear p0 p1 v0 v1 v2 hx5
                  go_wp2_with fail
                  go_roundw
                  case rel => exact ⟨q + 1, by omega, by go_num, HO3, HU3, HX3⟩
                  case measure => (simp [intOf]; try omega)
                · have hadb : (ad == 0) = false := beq_eq_false_iff_ne.2 had
                  rw [hadb] at HAD
                  rw [if_pos ⟨rfl, had⟩] at HSQ
                  go_wp2_with fail
                  refine HAD.out.mono ?_
                  rintro e w5 ⟨rfl, hx5⟩
                  have s0 : w5.cell? ⟨wr.heap.size, 0, none⟩ = some (.string X) := cell_at (row_on HR0.out hx5) rfl
                  have hown := HOV.out.ext hx5
                  have hownu := HUV.out.ext hx5
                  have HX5 := Lib.hid (HXV2.out.trans hx5)
                  have hs5 : w.heap.size + 1 ≤ w5.heap.size := by have := HX5.out.size; omega
                  clear p0 p1 v0 v1 v2 hx5 had
                  go_wp2_with (at_builtin; refine append_iss rfl _ _ rfl (w.heap.size + 1) _ _ rfl (hown.ext ((Ext.refl _).alloc _)) _ X 8 rfl ?f1 ?f2 ?f3 ?f4 ?_)
                  case f1 => simp [go_sem]
                  case f2 => simp [go_sem]
                  case f3 => have := HQL.out; omega
                  case f4 => first | (simp; omega) | omega
                  intro v' w6 hown6 hg6
                  have hlow := hown.low
                  have HX6 := Lib.hid ((HX5.out.alloc _).ofGrown hg6 (fun j hj => by have := hlow j hj; omega))
                  have HO6 : Hid (OwnI w6 (w.heap.size + 1) v' (IS ++ (ss.take (q + 1)).flatMap (Fm.sumIss RG))) := Lib.hid (by rw [HSQ.out]; first | exact hown6 | (rw [List.append_assoc]; exact hown6))
                  have HU6 := Lib.hid ((hownu.ext ((Ext.refl _).alloc _)).kept hg6 (KOwn.apart hownu hown (by decide)))
                  clear hown hownu hown6 hg6 hlow s0
                  go_wp2_with fail
                  go_roundw
                  case rel => exact ⟨q + 1, by omega, by go_num, HO6, HU6, HX6⟩
                  case measure => (simp [intOf]; try omega)
        · obtain rfl : q = n2 := by omega
          have hO := HO.out
          rw [List.take_of_length_le (by rw [HN2.out]; exact Nat.le_refl _)] at hO
          have HFI := Lib.hid (hO.sl encIs_len)
          clear hO hlt hq r1
          go_wp2_with fail
          go_ret2
          exact ⟨_, by rw [HR.out]; rfl, by rw [HR.out]; exact HFI.out, hxw⟩
end Go.Proofs.YtkpfehfcgpapiaaGreatDoor
