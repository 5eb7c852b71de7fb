/-
  Chapter 51: correction, Repair: the program.
  No condition.
-/
import Derived.Test.YtkpfehfcgpapiaaGreatDoorFmVd
import Derived.Test.YtkpfehfcgpapiaaGreatDoorFmXa
import Derived.Test.YtkpfehfcgpapiaaGreatDoorFmPa
import Derived.Test.YtkpfehfcgpapiaaGreatDoorCdM5
import Derived.Test.YtkpfehfcgpapiaaGreatDoorCdW6
import Derived.Test.YtkpfehfcgpapiaaGreatDoorRelA
import Derived.Test.YtkpfehfcgpapiaaGreatDoorApd

/-
  Chapter 51: correction, Repair: the program.
  No condition.
-/
namespace Go.Proofs.YtkpfehfcgpapiaaGreatDoor
open Go.RowKit

theorem cor_size (k : Int) (l x : List UInt8) (h : x ∈ (Cd.cor k l).1) : x.length = l.length := by
  unfold Cd.cor at h
  repeat' split at h
  all_goals first | cases h | skip
  exact (Cd.mem_ok k l l.length x (Nat.le_refl _) (List.mem_mergeSort.1 h)).2.2
theorem cor_few (k : Int) (l : List UInt8) : (Cd.cor k l).1.length ≤ 2816 := by
  unfold Cd.cor
  repeat' split
  all_goals first | exact Nat.zero_le _ | skip
  have := Cd.corTo_len k l l.length
  simp only [List.length_mergeSort]
  omega
theorem cor_none (k : Int) (l : List UInt8) (h : (Cd.cor k l).2 ≠ 0) : (Cd.cor k l).1 = [] := by
  unfold Cd.cor at h ⊢
  repeat' split
  all_goals first | rfl | skip
  rename_i h1 h2 h3
  rw [if_neg h1, if_neg h2, if_neg h3] at h
  exact absurd rfl h
/-- What 'correction' returns. -/
def oneOf : List Fm.S → Fm.S × Bool
  | [t] => (t, true)
  | _ => ([], false)
theorem oneOf_not {l : List Fm.S} (h : l.length ≠ 1) : oneOf l = ([], false) := by
  match l with
  | [] => rfl
  | [_] => exact absurd rfl h
  | _ :: _ :: _ => rfl
theorem filt_snoc {l : List Fm.S} {k : Nat} {x : Fm.S} (p : Fm.S → Bool) (h : l[k]? = some x) : (l.take (k + 1)).filter p = (l.take k).filter p ++ (if p x then [x] else []) := by
  rw [snoc_take h, List.filter_append, List.filter_cons]
  by_cases hp : p x = true
  · rw [if_pos hp, if_pos hp]; rfl
  · rw [if_neg hp, if_neg hp]; rfl
theorem filt_le (l : List Fm.S) (p : Fm.S → Bool) : (l.filter p).length ≤ l.length := List.length_filter_le _ _

set_option maxRecDepth 100000 in
set_option maxHeartbeats 4000000 in
theorem correction_any (nm : ByteArray) (op mn mx ck : Int) (a : Option Addr) (n c : Nat) (opt : Bool) (l : List Fm.S) (s : ByteArray) (hs : s.size ≤ 9223372036854775807) (w : World) (hl : StrsR w (.slice a n c) l) (hsh : Short Go.maxLen l) (hn : l.length ≤ Go.maxLen) (hE : Errs w) :
    Calls Tryz.prog 64 #[.agg #[.string nm, .int .i64 op, .int .i64 mn, .int .i64 mx, .int .i64 ck, .slice a n c, .bool opt], .string s] w fun e w' => (∃ S : ByteArray, S.data.toList = (oneOf (Fm.rightOnes ⟨nm.data.toList, op, mn, mx, ck, l, opt⟩ s.data.toList)).1 ∧ e = .returned (.tuple #[.string S, .bool (oneOf (Fm.rightOnes ⟨nm.data.toList, op, mn, mx, ck, l, opt⟩ s.data.toList)).2])) ∧ Ext w w' := by
  have HR : Hid (Fm.rightOnes ⟨nm.data.toList, op, mn, mx, ck, l, opt⟩ s.data.toList = (Cd.cor ck s.data.toList).1.filter fun t => Fm.value ⟨nm.data.toList, op, mn, mx, ck, l, opt⟩ t == 0) := Lib.hid rfl
  generalize Fm.rightOnes ⟨nm.data.toList, op, mn, mx, ck, l, opt⟩ s.data.toList = R at *
  have HCO := Lib.hid (fun w' => corr_any ck s w' hs)
  have HSZ := Lib.hid (cor_size ck s.data.toList)
  have HFW := Lib.hid (cor_few ck s.data.toList)
  have HNO := Lib.hid (cor_none ck s.data.toList)
  have HVAL := Lib.hid (fun (w' : World) (hx : Ext w w') (Y : ByteArray) (hY : Y.size ≤ 9223372036854775807) => fvalue_any nm op mn mx ck a n c opt l Y hY w' (hl.ext hx) hsh hn (hE.ext hx))
  generalize (Cd.cor ck s.data.toList).1 = L at *
  generalize (Cd.cor ck s.data.toList).2 = z at *
  clear hl hsh hn hE
  by_cases hz : z = 0
  rotate_left
  · have z0 : (z == 0) = false := beq_eq_false_iff_ne.2 hz
    have HF : Hid (oneOf R = ([], false)) := Lib.hid (by rw [HR.out, HNO.out hz]; rfl)
    clear hz
    go_enter Tryz.func64, Tryz.ntmps64
    go_wp2_with fail
    refine (HCO.out _).mono ?_
    rintro e w1 ⟨v, rfl, ho, hx1⟩
    go_wp2
    go_ret2
    exact ⟨⟨⟨#[]⟩, by rw [HF.out], by rw [HF.out]; rfl⟩, (by repeat (first | exact Ext.refl _ | assumption | refine Ext.alloc ?_ _ | refine Ext.drew ?_ | refine Ext.trans ?_ (by assumption)))⟩
  subst hz
  go_enter Tryz.func64, Tryz.ntmps64
  go_wp2_with fail
  refine (HCO.out _).mono ?_
  rintro e w1 ⟨v, rfl, ho, hx1⟩
  have hst := own_strs ho
  obtain ⟨av, cv, rfl, hcv⟩ := hst.form
  have HST := Lib.hid hst
  obtain ⟨N, hN⟩ : ∃ N, L.length = N := ⟨_, rfl⟩
  have HN := Lib.hid hN
  rw [hN] at HST HFW hcv ⊢
  have hNf : N ≤ 2816 := HFW.out
  have HX1 := Lib.hid hx1
  clear hst ho hN hcv hx1
  go_wp2
  go_loopw [8, 22] (fun v t wr => ∃ k : Nat, k ≤ N ∧ t = .int .i64 (k : Int) ∧ Hid (OwnS wr w1.heap.size v ((L.take k).filter fun t => Fm.value ⟨nm.data.toList, op, mn, mx, ck, l, opt⟩ t == 0)) ∧ Hid (Ext w1 wr)) (fun _ t _ => N - (intOf t).toNat)
  case atStart => exact ⟨0, Nat.zero_le _, rfl, Lib.hid (OwnS.nil _ _), Lib.hid (Ext.refl _)⟩
  case round =>
    obtain ⟨k, hk, rfl, HO, HX⟩ := hrel
    have HXB := Lib.hid (HX1.out.trans HX.out)
    obtain ⟨m0, m1, m2, m3, m4, m5, m6⟩ := kept7 HXB.out
    by_cases hlt : k < N
    · obtain ⟨x, hxk⟩ : ∃ x, L[k]? = some x := ⟨_, List.getElem?_eq_getElem (by rw [HN.out]; exact hlt)⟩
      have hxl := HSZ.out x (List.mem_of_getElem? hxk)
      have HFS := Lib.hid (filt_snoc (fun t => Fm.value ⟨nm.data.toList, op, mn, mx, ck, l, opt⟩ t == 0) hxk)
      obtain ⟨bb, off, Y, ha, hbb, rfl, d0⟩ := HST.out.here HX.out hxk
      subst ha
      have hYs : Y.size ≤ 9223372036854775807 := by rw [← len_data, hxl, len_data]; exact hs
      have HV := Lib.hid (HVAL.out wr HXB.out.before Y hYs)
      have hfl := filt_le (L.take k) (fun t => Fm.value ⟨nm.data.toList, op, mn, mx, ck, l, opt⟩ t == 0)
      have htl := take_len L k
      have HFL : Hid (((L.take k).filter fun t => Fm.value ⟨nm.data.toList, op, mn, mx, ck, l, opt⟩ t == 0).length ≤ 2816) := Lib.hid (by omega)
      generalize hv : Fm.value ⟨nm.data.toList, op, mn, mx, ck, l, opt⟩ Y.data.toList = z at *
      clear hxk hxl hfl htl hv
      by_cases hz : z = 0
      · subst hz
        rw [if_pos (by rfl)] at HFS
        go_wp2_with fail
        refine HV.out.mono ?_
        rintro e w2 ⟨rfl, hx2⟩
        have hown := HO.out.ext hx2
        have hsz : w1.heap.size ≤ w2.heap.size := (HX.out.trans hx2).size
        have HX2 := Lib.hid (HX.out.trans hx2)
        clear m0 m1 m2 m3 m4 m5 m6 d0 hx2
        go_wp2_with (at_builtin; refine wpList_append_str rfl _ _ rfl w1.heap.size _ _ rfl (hown.alloc _) Y _ rfl ?c1 ?c2 ?c3 ?_)
        case c1 => simp [go_sem]
        case c2 => exact Nat.le_trans HFL.out (by decide)
        case c3 => simp; omega
        intro v' w5 hown5 hg5
        have HO5 : Hid (OwnS w5 w1.heap.size v' ((L.take (k + 1)).filter fun t => Fm.value ⟨nm.data.toList, op, mn, mx, ck, l, opt⟩ t == 0)) := Lib.hid (by rw [HFS.out]; exact hown5)
        have HX5 := Lib.hid ((HX2.out.alloc (.cells #[.string Y] 9)).ofGrown hg5 hown.low)
        clear hown hown5 hg5
        go_wp2
        go_roundw
        case rel => exact ⟨k + 1, by omega, by go_num, HO5, HX5⟩
        case measure => simp [intOf]; omega
      · have z1 : (z == 0) = false := beq_eq_false_iff_ne.2 hz
        rw [if_neg (by rw [z1]; decide), List.append_nil] at HFS
        clear hz
        go_wp2_with fail
        refine HV.out.mono ?_
        rintro e w2 ⟨rfl, hx2⟩
        have HO5 : Hid (OwnS w2 w1.heap.size _ ((L.take (k + 1)).filter fun t => Fm.value ⟨nm.data.toList, op, mn, mx, ck, l, opt⟩ t == 0)) := Lib.hid (by rw [HFS.out]; exact HO.out.ext hx2)
        have HX5 := Lib.hid (HX.out.trans hx2)
        clear m0 m1 m2 m3 m4 m5 m6 d0 hx2
        go_wp2
        go_roundw
        case rel => exact ⟨k + 1, by omega, by go_num, HO5, HX5⟩
        case measure => simp [intOf]; omega
    · obtain rfl : k = N := by omega
      rw [List.take_of_length_le (by rw [HN.out]; exact Nat.le_refl _), ← HR.out] at HO
      have hst := own_strs HO.out
      obtain ⟨aw, cw, rfl, hcw⟩ := hst.form
      have hxe := HXB.out.before
      clear hk hlt
      by_cases h1 : R.length = 1
      · obtain ⟨T, hT⟩ : ∃ T, R = [T] := List.length_eq_one_iff.1 h1
        subst hT
        obtain ⟨bb, off, Y, ha, hbb, hYT, d0⟩ := hst.here (Ext.refl _) (i := 0) rfl
        subst ha
        have HF : Hid (oneOf [T] = (Y.data.toList, true)) := Lib.hid (by rw [hYT]; rfl)
        rw [List.length_singleton] at hst ⊢
        rw [Nat.add_zero] at d0
        clear hst h1 hYT hcw HO
        go_wp2
        go_ret2
        exact ⟨⟨Y, by rw [HF.out], by rw [HF.out]; rfl⟩, hxe⟩
      · have HF : Hid (oneOf R = ([], false)) := Lib.hid (oneOf_not h1)
        obtain ⟨N2, hN2⟩ : ∃ N2, R.length = N2 := ⟨_, rfl⟩
        rw [hN2] at h1 ⊢
        have z1 : ((N2 : Int) == 1) = false := by rw [beq_eq_false_iff_ne]; omega
        have z2 : (N2 == 1) = false := by rw [beq_eq_false_iff_ne]; omega
        clear hst hcw HO hN2
        go_wp2
        go_ret2
        exact ⟨⟨⟨#[]⟩, by rw [HF.out], by rw [HF.out]; rfl⟩, hxe⟩
end Go.Proofs.YtkpfehfcgpapiaaGreatDoor

/-
  Chapter 51: Repair: the program.
  No condition.
-/
namespace Go.Proofs.YtkpfehfcgpapiaaGreatDoor
open Go.RowKit

/-- An append whose run is known. -/
theorem wpList_append_run {w : World} {ops : Array Oper} {rest : List Oper} {o : Oper} {a : Act} {Q : Exit → Act → World → Prop} (hgd : o.guard = none) (s x : Operand) (T : TypeId)
    (ho : o.op = .call { callee := .builtin .append, args := #[s, x], argTypes := #[T, T] }) (ht : o.type = T) (v v1 : Value) (hs : a.eval s = v) (hx : a.eval x = v1)
    (v' : Value) (w' : World) (hrun : (Builtin.append_ #[T, T] T #[v, v1]).run Tryz.prog w = .ok v' w') (h : wpList Tryz.prog ops Q rest (a.put o.dst v') w') : wpList Tryz.prog ops Q (o :: rest) a w := by
  refine wpList_plain hgd fun K hK => ?_
  rw [← ht] at hrun
  unfold Oper.wp execOp
  simp only [ho, ← ht, resolve, invoke, builtin, Sem.run_bind, Sem.run_pure, Result.andThen_ok, List.map_toArray, List.map_cons, List.map_nil, hs, hx, hrun]
  exact hK _ _ h
theorem fix_set {fs : List Fm.Fld} {vs : List Fm.S} (hl : vs.length = fs.length) {k : Nat} {f : Fm.Fld} {v : Fm.S} (hf : fs[k]? = some f) (hv : vs[k]? = some v) :
    Fm.fixGo (fs.take k) (vs.take k) ++ vs.drop k = Fm.fixGo (fs.take k) (vs.take k) ++ v :: vs.drop (k + 1) ∧ Fm.fixGo (fs.take (k + 1)) (vs.take (k + 1)) = Fm.fixGo (fs.take k) (vs.take k) ++ [Fm.fix f v] ∧ (Fm.fixGo (fs.take k) (vs.take k)).length = k := by
  have hk := (List.getElem?_eq_some_iff.1 hf).1
  have hlen : (Fm.fixGo (fs.take k) (vs.take k)).length = k := by
    rw [Fm.fixGo_len (by rw [List.length_take, List.length_take]; omega), List.length_take]; omega
  refine ⟨by rw [cons_drop hv], ?_, hlen⟩
  have app : ∀ (fs gs : List Fm.Fld) (vs us : List Fm.S), vs.length = fs.length → Fm.fixGo (fs ++ gs) (vs ++ us) = Fm.fixGo fs vs ++ Fm.fixGo gs us := by
    intro fs
    induction fs with
    | nil => intro gs vs us h; cases vs with
      | nil => rfl
      | cons _ _ => cases h
    | cons f fs ih => intro gs vs us h; cases vs with
      | nil => cases h
      | cons v vs => rw [List.cons_append, List.cons_append, Fm.fixGo, Fm.fixGo, ih gs vs us (by simpa using h)]; rfl
  rw [snoc_take hf, snoc_take hv, app _ _ _ _ (by rw [List.length_take, List.length_take]; omega)]
  rfl
theorem fix_one (f : Fm.Fld) (v : Fm.S) (h : f.op = 1 ∧ f.ck ≠ 0 ∧ (Fm.value f v = 6 ∨ Fm.value f v = 8)) : Fm.fix f v = if (oneOf (Fm.rightOnes f v)).2 = true then (oneOf (Fm.rightOnes f v)).1 else v := by
  unfold Fm.fix
  rw [if_pos h]
  match Fm.rightOnes f v with
  | [] => rfl
  | [_] => rfl
  | _ :: _ :: _ => rfl

set_option maxRecDepth 100000 in
set_option maxHeartbeats 1000000 in
theorem repair_any (NM : ByteArray) (a : Option Addr) (n c : Nat) (a2 : Option Addr) (n2 c2 : Nat) (fs : List Fm.Fld) (ss : List Fm.Sm) (va : Option Addr) (vn vc : Nat) (vs : List Fm.S) (w : World) (hf : FldsR w (.slice a n c) fs) (hm : SumsR w (.slice a2 n2 c2) ss) (hB : ∀ f ∈ fs, FldB f) (hM : ∀ r ∈ ss, SmB r)
    (hv : StrsR w (.slice va vn vc) vs) (hsv : Short Go.maxLen vs) (hE : Errs w) :
    Calls Tryz.prog 30 #[.agg #[.string NM, .slice a n c, .slice a2 n2 c2], .slice va vn vc] w (StrsX (Fm.repair ⟨NM.data.toList, fs, ss⟩ vs) w) := by
  obtain ⟨a', c', he⟩ := hf.form
  injection he with e1 e2 e3
  subst e1 e3
  obtain ⟨a', c', he⟩ := hm.form
  injection he with e1 e4 e3
  subst e1 e3
  obtain ⟨a', c', he, -⟩ := hv.form
  injection he with e1 e5 e3
  subst e1 e3
  have HR := Lib.hid (Fm.repair.eq_1 ⟨NM.data.toList, fs, ss⟩ vs)
  dsimp only at HR
  generalize Fm.repair ⟨NM.data.toList, fs, ss⟩ vs = res at *
  rw [← e2, ← e5] at HR
  have HN := Lib.hid e2.symm
  have HN3 := Lib.hid e5.symm
  have HC := Lib.hid (fun (w' : World) (hx : Ext w w') => check_any NM a n c a2 n2 c2 fs ss w' (hf.ext hx) (hm.ext hx) hB hM)
  have HF := Lib.hid hf
  have HB := Lib.hid hB
  have HV := Lib.hid hv
  have HSV := Lib.hid hsv
  have HE := Lib.hid hE
  clear hf hm hB hM e2 e4 e5 hv hsv hE
  by_cases hc : Fm.check ⟨NM.data.toList, fs, ss⟩ = 0
  rotate_left
  · rw [if_neg hc] at HR
    generalize Fm.check ⟨NM.data.toList, fs, ss⟩ = z at *
    have z0 : (z == 0) = false := beq_eq_false_iff_ne.2 hc
    clear hc
    go_enter Tryz.func30, Tryz.ntmps30
    go_wp2_with fail
    refine (HC.out _ (by repeat (first | exact Ext.refl _ | assumption | refine Ext.alloc ?_ _ | refine Ext.drew ?_ | refine Ext.trans ?_ (by assumption)))).mono ?_
    rintro e w1 ⟨rfl, hx1⟩
    go_wp2
    go_ret2
    exact ⟨_, by rw [HR.out]; rfl, by rw [HR.out]; exact StrsR.nil _, (by repeat (first | exact Ext.refl _ | assumption | refine Ext.alloc ?_ _ | refine Ext.drew ?_ | refine Ext.trans ?_ (by assumption)))⟩
  rw [if_pos hc] at HR
  have HCK := Lib.hid hc
  rw [hc] at HC
  clear hc
  by_cases hl : vn = n
  rotate_left
  · rw [if_neg hl] at HR
    have z0 : ((vn : Int) == (n : Int)) = false := by rw [beq_eq_false_iff_ne]; omega
    clear hl
    go_enter Tryz.func30, Tryz.ntmps30
    go_wp2_with fail
    refine (HC.out _ (by repeat (first | exact Ext.refl _ | assumption | refine Ext.alloc ?_ _ | refine Ext.drew ?_ | refine Ext.trans ?_ (by assumption)))).mono ?_
    rintro e w1 ⟨rfl, hx1⟩
    obtain ⟨k0, k1, k2⟩ := kept3 hx1
    go_wp2
    go_ret2
    exact ⟨_, by rw [HR.out]; rfl, by rw [HR.out]; exact StrsR.nil _, (by repeat (first | exact Ext.refl _ | assumption | refine Ext.alloc ?_ _ | refine Ext.drew ?_ | refine Ext.trans ?_ (by assumption)))⟩
  subst hl
  rw [if_pos rfl] at HR
  have z0 : ((vn : Int) == (vn : Int)) = true := beq_self_eq_true _
  have hnf : vn ≤ 256 := by have := (Fm.valid_of HCK.out).few.1; rw [show (⟨NM.data.toList, fs, ss⟩ : Fm.Frm).fields = fs from rfl, HN.out] at this; exact this
  have hn0 : 0 < vn := by have := (Fm.valid_of HCK.out).some; rw [show (⟨NM.data.toList, fs, ss⟩ : Fm.Frm).fields = fs from rfl, HN.out] at this; exact this
  have HLEN : Hid (vs.length = fs.length) := Lib.hid (by rw [HN.out, HN3.out])
  obtain ⟨vb, vo, vcap, hve, hvb, -⟩ := KSl.some_ HV.out.1 (by rw [HN3.out]; exact hn0)
  injection hve with hve hv1 hv2
  subst hve
  clear hv1 hv2
  go_enter Tryz.func30, Tryz.ntmps30
  go_wp2_with fail
  refine (HC.out _ (by repeat (first | exact Ext.refl _ | assumption | refine Ext.alloc ?_ _ | refine Ext.drew ?_ | refine Ext.trans ?_ (by assumption)))).mono ?_
  rintro e w1 ⟨rfl, hx1⟩
  obtain ⟨k0, k1, k2⟩ := kept3 hx1
  have hwz : w.heap.size < w1.heap.size := by have := hx1.size; rw [World.size_alloc] at this; omega
  obtain ⟨ov, w2, hrun, ho2, hg2⟩ := run_append_ks (enc := enc1) (k := 1) (w := w1) 37 9 37 (.string ⟨#[]⟩) 16 Tryz.underlying37 info_strs rfl (by decide) (by decide) enc1_len enc1_one w1.heap.size (.slice none 0 0) [] vs (KOwn.nil _ _ _ _ _) vb vo vc ((HV.out.ext hx1.before).1.congr rfl |> fun h => by rw [HN3.out]; exact h) (by rw [HN3.out]; simp; omega) (Nat.le_refl _)
  rw [HN3.out] at hrun
  rw [List.nil_append] at ho2
  have hx12 : Ext w1 w2 := (Ext.refl w1).ofGrown hg2 (fun k hk => by cases hk)
  obtain ⟨g, cap, rfl⟩ : ∃ g cap, ov = .slice (some ⟨g, 0, none⟩) vn cap := by
    rcases ho2.form with ⟨h0, _⟩ | ⟨g, cap, h, _⟩
    · have := HN3.out; rw [h0] at this; simp at this; omega
    · exact ⟨g, cap, by rw [h, HN3.out]⟩
  have hgb := World.ownsRow.lt ho2 g rfl
  obtain ⟨j0, j1, j2⟩ := kept3 (hx1.trans hx12)
  have HO2 := Lib.hid ho2
  have HX2 := Lib.hid (hx1.trans hx12)
  clear ho2 hg2 hx1 hx12
  go_wp2_with (at_builtin; refine wpList_append_run rfl _ _ 37 rfl rfl _ _ rfl rfl _ _ hrun ?_)
  go_wp2
  go_loopw [29] (fun t wr => ∃ k : Nat, k ≤ vn ∧ t = .int .i64 (k : Int) ∧ Hid (KOwn 9 1 enc1 wr w1.heap.size (.slice (some ⟨g, 0, none⟩) vn cap) (Fm.fixGo (fs.take k) (vs.take k) ++ vs.drop k)) ∧ Hid (Ext (w.alloc (.cells #[.string NM, .slice a vn c, .slice a2 n2 c2] 25)) wr)) (fun t _ => vn - (intOf t).toNat)
  case atStart => exact ⟨0, Nat.zero_le _, rfl, Lib.hid (by simpa [Fm.fixGo] using HO2.out), HX2⟩
  case round =>
    clear HO2 HX2 j0 j1 j2 hrun
    obtain ⟨k, hk, rfl, HO, HX⟩ := hrel
    by_cases hlt : k < vn
    · obtain ⟨f, hfk⟩ : ∃ f, fs[k]? = some f := ⟨_, List.getElem?_eq_getElem (by rw [HN.out]; exact hlt)⟩
      obtain ⟨y, hyk⟩ : ∃ y, vs[k]? = some y := ⟨_, List.getElem?_eq_getElem (by rw [HN3.out]; exact hlt)⟩
      have hxw : Ext w wr := HX.out.before
      obtain ⟨hst1, hst2, hst3⟩ := fix_set HLEN.out hfk hyk
      have hfn := Fm.fix_not f y
      have hfo := fix_one f y
      obtain ⟨b, o, X, op, mn, mx, ck, la, ln, lc, l, opt, ha, hb, rfl, hl, c0, c1, c2', c3, c4, c5, c6⟩ := HF.out.here hxw hfk
      subst ha
      obtain ⟨vb', vo', Y, hva, hvb', rfl, d0⟩ := HV.out.here hxw hyk
      injection hva with hva
      injection hva with hva1 hva2
      subst hva1 hva2
      obtain ⟨b1, b2, b3⟩ := HB.out _ (List.mem_of_getElem? hfk)
      have hYs := HSV.out _ (List.mem_of_getElem? hyk)
      dsimp only at b1 b2 b3 hfn hfo
      rw [hst1] at HO
      have HS2 := Lib.hid hst2
      have HS3 := Lib.hid hst3
      have HGET : Hid ((Fm.fixGo (fs.take k) (vs.take k) ++ Y.data.toList :: vs.drop (k + 1))[k]? = some Y.data.toList) := Lib.hid (by rw [List.getElem?_append_right (by rw [hst3]; exact Nat.le_refl _), hst3, Nat.sub_self]; rfl)
      have HSET : Hid (∀ z, (Fm.fixGo (fs.take k) (vs.take k) ++ Y.data.toList :: vs.drop (k + 1)).set k z = Fm.fixGo (fs.take k) (vs.take k) ++ [z] ++ vs.drop (k + 1)) := Lib.hid fun z => by
        rw [List.set_append_right _ _ (by rw [hst3]; exact Nat.le_refl _), hst3, Nat.sub_self, List.append_assoc]; rfl
      have HSAME : Hid (Fm.fixGo (fs.take k) (vs.take k) ++ Y.data.toList :: vs.drop (k + 1) = Fm.fixGo (fs.take k) (vs.take k) ++ [Y.data.toList] ++ vs.drop (k + 1)) := Lib.hid (by simp)
      generalize hfx : Fm.fix ⟨X.data.toList, op, mn, mx, ck, l, opt⟩ Y.data.toList = fx at *
      clear hst1 hst2 hst3 hfk hyk
      have hkb : w1.heap.size ≤ wr.heap.size := by have := World.ownsRow.lt HO.out g rfl; omega
      obtain ⟨V, hV⟩ : ∃ V, V = wr.alloc (.cells #[.string X, .int .i64 op, .int .i64 mn, .int .i64 mx, .int .i64 ck, .slice la ln lc, .bool opt] 39) := ⟨_, rfl⟩
      have hxV : Ext wr V := by rw [hV]; exact (Ext.refl _).alloc _
      have r0 : V.heap[wr.heap.size]? = some (.cells #[.string X, .int .i64 op, .int .i64 mn, .int .i64 mx, .int .i64 ck, .slice la ln lc, .bool opt] 39 (0, 0)) := by rw [hV]; exact heap_alloc_new _ _
      have HVE := Lib.hid hV
      have hVs : wr.heap.size < V.heap.size := lt_at r0
      clear hV
      have hYz : Y.size ≤ 9223372036854775807 := by rw [← len_data]; exact hYs
      have HVAL := Lib.hid (fun (w' : World) (hx : Ext V w') => fvalue_any X op mn mx ck la ln lc opt l Y hYz w' (hl.ext ((hxw.trans hxV).trans hx)) b2 b3 (HE.out.ext ((hxw.trans hxV).trans hx)))
      have HCOR := Lib.hid (fun (w' : World) (hx : Ext V w') => (correction_any X op mn mx ck la ln lc opt l Y hYz w' (hl.ext ((hxw.trans hxV).trans hx)) b2 b3 (HE.out.ext ((hxw.trans hxV).trans hx))).mono fun e w'' (h : _ ∧ _) => (show e = .returned (.tuple #[.string ⟨(oneOf (Fm.rightOnes ⟨X.data.toList, op, mn, mx, ck, l, opt⟩ Y.data.toList)).1.toArray⟩, .bool (oneOf (Fm.rightOnes ⟨X.data.toList, op, mn, mx, ck, l, opt⟩ Y.data.toList)).2]) ∧ Ext w' w'' from by
        obtain ⟨⟨S, hS, he⟩, hx'⟩ := h
        refine ⟨?_, hx'⟩
        rw [he, ← hS, mk_toList]))
      obtain ⟨p0, p1, p2, p3, p4, p5, p6⟩ := kept7' r0 (Ext.refl V)
      have q0 := ahead_cell p0 hVs
      have q1 := ahead_cell p1 hVs
      have q2 := ahead_cell p2 hVs
      have q3 := ahead_cell p3 hVs
      have q4 := ahead_cell p4 hVs
      have q5 := ahead_cell p5 hVs
      have q6 := ahead_cell p6 hVs
      have hvbV : vb < V.heap.size := Nat.lt_of_lt_of_le hvb (hxw.trans hxV).size
      have s7 := (hxV.cell (p := ⟨vb, vo + k, none⟩) (Nat.lt_of_lt_of_le hvb hxw.size)).trans d0
      have q7 := ahead_cell s7 hvbV
      have hki : (k : Int) < (vn : Int) := by omega
      have HRW := Lib.hid r0
      have HXV := Lib.hid (HX.out.trans hxV)
      have HOV := Lib.hid (HO.out.ext hxV)
      generalize Fm.value ⟨X.data.toList, op, mn, mx, ck, l, opt⟩ Y.data.toList = z at *
      generalize hro : oneOf (Fm.rightOnes ⟨X.data.toList, op, mn, mx, ck, l, opt⟩ Y.data.toList) = ro at *
      have HFN := Lib.hid hfn
      have HFO := Lib.hid hfo
      clear r0 hl HO HX hfn hfo hfx hro
      by_cases h1 : op = 1
      rotate_left
      · have z1 : (op != 1) = true := bne_iff_ne.2 h1
        have HO3 : Hid (KOwn 9 1 enc1 V w1.heap.size (.slice (some ⟨g, 0, none⟩) vn cap) (Fm.fixGo (fs.take (k + 1)) (vs.take (k + 1)) ++ vs.drop (k + 1))) := Lib.hid (by rw [HS2.out, HFN.out (fun h => h1 h.1), ← HSAME.out]; exact HOV.out)
        clear h1 q0 q1 q2 q3 q4 q5 q6 q7 p0 p1 p2 p3 p4 p5 p6 s7
        go_wp2
        rw [← HVE.out]
        go_roundw
        case rel => exact ⟨k + 1, by omega, by go_num, HO3, HXV⟩
        case measure => simp [intOf]; omega
      subst h1
      by_cases h2 : ck = 0
      · have z1 : (ck == 0) = true := beq_iff_eq.2 h2
        have HO3 : Hid (KOwn 9 1 enc1 V w1.heap.size (.slice (some ⟨g, 0, none⟩) vn cap) (Fm.fixGo (fs.take (k + 1)) (vs.take (k + 1)) ++ vs.drop (k + 1))) := Lib.hid (by rw [HS2.out, HFN.out (fun h => h.2.1 h2), ← HSAME.out]; exact HOV.out)
        clear h2 q0 q1 q2 q3 q4 q5 q6 q7 p0 p1 p2 p3 p4 p5 p6 s7
        go_wp2
        rw [← HVE.out]
        go_roundw
        case rel => exact ⟨k + 1, by omega, by go_num, HO3, HXV⟩
        case measure => simp [intOf]; omega
      have z2 : (ck == 0) = false := beq_eq_false_iff_ne.2 h2
      by_cases h3 : z = 6 ∨ z = 8
      rotate_left
      · have z6 : (z != 6) = true := bne_iff_ne.2 (fun h => h3 (.inl h))
        have z8 : (z != 8) = true := bne_iff_ne.2 (fun h => h3 (.inr h))
        have HE2 : Hid (fx = Y.data.toList) := Lib.hid (HFN.out (fun h => h3 h.2.2))
        clear h2 h3
        go_wp2
        rw [← HVE.out]
        refine wp_region_quiet (C := fun w' => ∃ x : Ahead V, w' = x.at') (by kernel_rfl) (by kernel_rfl) (Ahead.drawn _) ?_
        try dsimp only
        repeat (first | go_big_quiet_step (exact ahead_of (HVAL.out _ (Ahead.ext _))) | quiet_step (exact ahead_of (HVAL.out _ (Ahead.ext _))))
        refine wpQuiet_nil ?_
        intro _ hx0
        obtain ⟨x0, hx0⟩ := hx0
        subst hx0
        obtain ⟨w3, hx3⟩ := x0
        try dsimp only
        have HO3 : Hid (KOwn 9 1 enc1 w3 w1.heap.size (.slice (some ⟨g, 0, none⟩) vn cap) (Fm.fixGo (fs.take (k + 1)) (vs.take (k + 1)) ++ vs.drop (k + 1))) := Lib.hid (by rw [HS2.out, HE2.out, ← HSAME.out]; exact HOV.out.ext hx3)
        have HX3 := Lib.hid (HXV.out.trans hx3)
        clear q0 q1 q2 q3 q4 q5 q6 q7 p0 p1 p2 p3 p4 p5 p6 hx3 s7
        go_wp2
        go_roundw
        case rel => exact ⟨k + 1, by omega, by go_num, HO3, HX3⟩
        case measure => simp [intOf]; omega
      have HFE := Lib.hid (HFO.out ⟨rfl, h2, h3⟩)
      have z68 : (z != 6 && z != 8) = false := by
        rcases h3 with rfl | rfl <;> rfl
      clear h2
      obtain ⟨rs, rb⟩ := ro
      dsimp only at HFE HCOR
      obtain ⟨TB, hTB⟩ : ∃ TB : ByteArray, (⟨rs.toArray⟩ : ByteArray) = TB := ⟨_, rfl⟩
      have HTB : Hid (TB.data.toList = rs) := Lib.hid (by rw [← hTB])
      rw [hTB] at HCOR
      clear hTB
      rcases h3 with rfl | rfl
      · go_wp2
        rw [← HVE.out]
        refine wp_region_quiet (C := fun w' => ∃ x : Ahead V, w' = x.at') (by kernel_rfl) (by kernel_rfl) (Ahead.drawn _) ?_
        try dsimp only
        repeat (first | go_big_quiet_step (exact ahead_of (HVAL.out _ (Ahead.ext _))) | quiet_step (exact ahead_of (HVAL.out _ (Ahead.ext _))))
        refine wpQuiet_nil ?_
        intro _ hx0
        obtain ⟨x0, hx0⟩ := hx0
        subst hx0
        obtain ⟨w3, hx3⟩ := x0
        try dsimp only
        obtain ⟨m0, m1, m2, m3, m4, m5, m6⟩ := kept7' HRW.out hx3
        have hV3 : wr.heap.size < w3.heap.size := Nat.lt_of_lt_of_le hVs hx3.size
        have u7 := (hx3.cell (p := ⟨vb, vo + k, none⟩) hvbV).trans s7
        have hvb3 : vb < w3.heap.size := Nat.lt_of_lt_of_le hvbV hx3.size
        have HX3 := Lib.hid (HXV.out.trans hx3)
        have HO3 := Lib.hid (HOV.out.ext hx3)
        have HCO := Lib.hid (fun (w' : World) (hx : Ext w3 w') => HCOR.out w' (hx3.trans hx))
        have t0 := ahead_cell m0 hV3
        have t1 := ahead_cell m1 hV3
        have t2 := ahead_cell m2 hV3
        have t3 := ahead_cell m3 hV3
        have t4 := ahead_cell m4 hV3
        have t5 := ahead_cell m5 hV3
        have t6 := ahead_cell m6 hV3
        have t7 := ahead_cell u7 hvb3
        clear q0 q1 q2 q3 q4 q5 q6 q7 p0 p1 p2 p3 p4 p5 p6 s7
        cases rb with
        | false =>
          rw [if_neg (by decide)] at HFE
          go_wp2
          refine wp_region_quiet (C := fun w' => ∃ x : Ahead w3, w' = x.at') (by kernel_rfl) (by kernel_rfl) (Ahead.drawn _) ?_
          try dsimp only
          repeat (first | go_big_quiet_step (exact ahead_of (HCO.out _ (Ahead.ext _))) | quiet_step (exact ahead_of (HCO.out _ (Ahead.ext _))))
          refine wpQuiet_nil ?_
          intro _ hx0
          obtain ⟨x0, hx0⟩ := hx0
          subst hx0
          obtain ⟨w4, hx4⟩ := x0
          try dsimp only
          have HO4 : Hid (KOwn 9 1 enc1 w4 w1.heap.size (.slice (some ⟨g, 0, none⟩) vn cap) (Fm.fixGo (fs.take (k + 1)) (vs.take (k + 1)) ++ vs.drop (k + 1))) := Lib.hid (by rw [HS2.out, HFE.out, ← HSAME.out]; exact HO3.out.ext hx4)
          have HX4 := Lib.hid (HX3.out.trans hx4)
          clear t0 t1 t2 t3 t4 t5 t6 t7 m0 m1 m2 m3 m4 m5 m6 u7 hx3 hx4
          go_wp2
          go_roundw
          case rel => exact ⟨k + 1, by omega, by go_num, HO4, HX4⟩
          case measure => simp [intOf]; omega
        | true =>
          rw [if_pos rfl] at HFE
          go_wp2
          refine wp_region_quiet (C := fun w' => ∃ x : Ahead w3, w' = x.at') (by kernel_rfl) (by kernel_rfl) (Ahead.drawn _) ?_
          try dsimp only
          repeat (first | go_big_quiet_step (exact ahead_of (HCO.out _ (Ahead.ext _))) | quiet_step (exact ahead_of (HCO.out _ (Ahead.ext _))))
          refine wpQuiet_nil ?_
          intro _ hx0
          obtain ⟨x0, hx0⟩ := hx0
          subst hx0
          obtain ⟨w4, hx4⟩ := x0
          try dsimp only
          have hO4 := HO3.out.ext hx4
          have hcell := own_cell enc1_len hO4 HGET.out rfl
          have hfree := own_free hO4 k
          obtain ⟨hO5, hg5⟩ := hO4.stored enc1_len HGET.out (show 0 < 1 by omega) (.string TB) (y := TB.data.toList) (by rw [enc1_mk]; rfl)
          rw [Nat.mul_one, Nat.add_zero, HSET.out] at hO5
          have HO5 : Hid (KOwn 9 1 enc1 (w4.setCell ⟨g, k, none⟩ (.string TB)) w1.heap.size (.slice (some ⟨g, 0, none⟩) vn cap) (Fm.fixGo (fs.take (k + 1)) (vs.take (k + 1)) ++ vs.drop (k + 1))) := Lib.hid (by rw [HS2.out, HFE.out, ← HTB.out]; exact hO5)
          have HX5 := Lib.hid ((HX3.out.trans hx4).setCell (p := ⟨g, k, none⟩) (by simp; omega) (.string TB))
          clear t0 t1 t2 t3 t4 t5 t6 t7 m0 m1 m2 m3 m4 m5 m6 u7 hx3 hx4 hO4 hO5 hg5
          go_wp2
          go_roundw
          case rel => exact ⟨k + 1, by omega, by go_num, HO5, HX5⟩
          case measure => simp [intOf]; omega
      · go_wp2
        rw [← HVE.out]
        refine wp_region_quiet (C := fun w' => ∃ x : Ahead V, w' = x.at') (by kernel_rfl) (by kernel_rfl) (Ahead.drawn _) ?_
        try dsimp only
        repeat (first | go_big_quiet_step (exact ahead_of (HVAL.out _ (Ahead.ext _))) | quiet_step (exact ahead_of (HVAL.out _ (Ahead.ext _))))
        refine wpQuiet_nil ?_
        intro _ hx0
        obtain ⟨x0, hx0⟩ := hx0
        subst hx0
        obtain ⟨w3, hx3⟩ := x0
        try dsimp only
        obtain ⟨m0, m1, m2, m3, m4, m5, m6⟩ := kept7' HRW.out hx3
        have hV3 : wr.heap.size < w3.heap.size := Nat.lt_of_lt_of_le hVs hx3.size
        have u7 := (hx3.cell (p := ⟨vb, vo + k, none⟩) hvbV).trans s7
        have hvb3 : vb < w3.heap.size := Nat.lt_of_lt_of_le hvbV hx3.size
        have HX3 := Lib.hid (HXV.out.trans hx3)
        have HO3 := Lib.hid (HOV.out.ext hx3)
        have HCO := Lib.hid (fun (w' : World) (hx : Ext w3 w') => HCOR.out w' (hx3.trans hx))
        have t0 := ahead_cell m0 hV3
        have t1 := ahead_cell m1 hV3
        have t2 := ahead_cell m2 hV3
        have t3 := ahead_cell m3 hV3
        have t4 := ahead_cell m4 hV3
        have t5 := ahead_cell m5 hV3
        have t6 := ahead_cell m6 hV3
        have t7 := ahead_cell u7 hvb3
        clear q0 q1 q2 q3 q4 q5 q6 q7 p0 p1 p2 p3 p4 p5 p6 s7
        cases rb with
        | false =>
          rw [if_neg (by decide)] at HFE
          go_wp2
          refine wp_region_quiet (C := fun w' => ∃ x : Ahead w3, w' = x.at') (by kernel_rfl) (by kernel_rfl) (Ahead.drawn _) ?_
          try dsimp only
          repeat (first | go_big_quiet_step (exact ahead_of (HCO.out _ (Ahead.ext _))) | quiet_step (exact ahead_of (HCO.out _ (Ahead.ext _))))
          refine wpQuiet_nil ?_
          intro _ hx0
          obtain ⟨x0, hx0⟩ := hx0
          subst hx0
          obtain ⟨w4, hx4⟩ := x0
          try dsimp only
          have HO4 : Hid (KOwn 9 1 enc1 w4 w1.heap.size (.slice (some ⟨g, 0, none⟩) vn cap) (Fm.fixGo (fs.take (k + 1)) (vs.take (k + 1)) ++ vs.drop (k + 1))) := Lib.hid (by rw [HS2.out, HFE.out, ← HSAME.out]; exact HO3.out.ext hx4)
          have HX4 := Lib.hid (HX3.out.trans hx4)
          clear t0 t1 t2 t3 t4 t5 t6 t7 m0 m1 m2 m3 m4 m5 m6 u7 hx3 hx4
          go_wp2
          go_roundw
          case rel => exact ⟨k + 1, by omega, by go_num, HO4, HX4⟩
          case measure => simp [intOf]; omega
        | true =>
          rw [if_pos rfl] at HFE
          go_wp2
          refine wp_region_quiet (C := fun w' => ∃ x : Ahead w3, w' = x.at') (by kernel_rfl) (by kernel_rfl) (Ahead.drawn _) ?_
          try dsimp only
          repeat (first | go_big_quiet_step (exact ahead_of (HCO.out _ (Ahead.ext _))) | quiet_step (exact ahead_of (HCO.out _ (Ahead.ext _))))
          refine wpQuiet_nil ?_
          intro _ hx0
          obtain ⟨x0, hx0⟩ := hx0
          subst hx0
          obtain ⟨w4, hx4⟩ := x0
          try dsimp only
          have hO4 := HO3.out.ext hx4
          have hcell := own_cell enc1_len hO4 HGET.out rfl
          have hfree := own_free hO4 k
          obtain ⟨hO5, hg5⟩ := hO4.stored enc1_len HGET.out (show 0 < 1 by omega) (.string TB) (y := TB.data.toList) (by rw [enc1_mk]; rfl)
          rw [Nat.mul_one, Nat.add_zero, HSET.out] at hO5
          have HO5 : Hid (KOwn 9 1 enc1 (w4.setCell ⟨g, k, none⟩ (.string TB)) w1.heap.size (.slice (some ⟨g, 0, none⟩) vn cap) (Fm.fixGo (fs.take (k + 1)) (vs.take (k + 1)) ++ vs.drop (k + 1))) := Lib.hid (by rw [HS2.out, HFE.out, ← HTB.out]; exact hO5)
          have HX5 := Lib.hid ((HX3.out.trans hx4).setCell (p := ⟨g, k, none⟩) (by simp; omega) (.string TB))
          clear t0 t1 t2 t3 t4 t5 t6 t7 m0 m1 m2 m3 m4 m5 m6 u7 hx3 hx4 hO4 hO5 hg5
          go_wp2
          go_roundw
          case rel => exact ⟨k + 1, by omega, by go_num, HO5, HX5⟩
          case measure => simp [intOf]; omega
    · obtain rfl : k = vn := by omega
      rw [List.take_of_length_le (by rw [HN.out]; exact Nat.le_refl _), List.take_of_length_le (by rw [HN3.out]; exact Nat.le_refl _), List.drop_of_length_le (by rw [HN3.out]; exact Nat.le_refl _), List.append_nil] at HO
      have hx5 := HX.out.before
      clear hlt hk
      go_wp2
      go_ret2
      exact ⟨_, by rw [HR.out]; rfl, by rw [HR.out]; exact KOwn.strs HO.out, hx5⟩
end Go.Proofs.YtkpfehfcgpapiaaGreatDoor

/-
  Chapter 51: the words of lines: names of systems and kinds, decimals, slices of words.
  No condition.
-/
namespace Go.Proofs.YtkpfehfcgpapiaaGreatDoor
open Go.RowKit

set_option maxHeartbeats 1000000 in
theorem systemName_any (k : Int) (h1 : 1 ≤ k) (h2 : k ≤ 8) (w : World) : Calls Tryz.prog 72 #[.int .i64 k] w fun e w' => e = .returned (.string ⟨(Fm.sysNm k).toArray⟩) ∧ w = w' := by
  have h : k = 1 ∨ k = 2 ∨ k = 3 ∨ k = 4 ∨ k = 5 ∨ k = 6 ∨ k = 7 ∨ k = 8 := by omega
  clear h1 h2
  rcases h with rfl | rfl | rfl | rfl | rfl | rfl | rfl | rfl
  · have e : (⟨(Fm.sysNm 1).toArray⟩ : ByteArray) = ⟨#[103, 115, 49]⟩ := rfl
    rw [e]
    clear e
    go_enter Tryz.func72, Tryz.ntmps72
    go_wp2
    go_ret
    exact ⟨rfl, rfl⟩
  · have e : (⟨(Fm.sysNm 2).toArray⟩ : ByteArray) = ⟨#[108, 117, 104, 110]⟩ := rfl
    rw [e]
    clear e
    go_enter Tryz.func72, Tryz.ntmps72
    go_wp2
    go_ret
    exact ⟨rfl, rfl⟩
  · have e : (⟨(Fm.sysNm 3).toArray⟩ : ByteArray) = ⟨#[105, 115, 98, 110]⟩ := rfl
    rw [e]
    clear e
    go_enter Tryz.func72, Tryz.ntmps72
    go_wp2
    go_ret
    exact ⟨rfl, rfl⟩
  · have e : (⟨(Fm.sysNm 4).toArray⟩ : ByteArray) = ⟨#[118, 101, 114, 104, 111, 101, 102, 102]⟩ := rfl
    rw [e]
    clear e
    go_enter Tryz.func72, Tryz.ntmps72
    go_wp2
    go_ret
    exact ⟨rfl, rfl⟩
  · have e : (⟨(Fm.sysNm 5).toArray⟩ : ByteArray) = ⟨#[100, 97, 109, 109]⟩ := rfl
    rw [e]
    clear e
    go_enter Tryz.func72, Tryz.ntmps72
    go_wp2
    go_ret
    exact ⟨rfl, rfl⟩
  · have e : (⟨(Fm.sysNm 6).toArray⟩ : ByteArray) = ⟨#[105, 115, 111, 57, 55]⟩ := rfl
    rw [e]
    clear e
    go_enter Tryz.func72, Tryz.ntmps72
    go_wp2
    go_ret
    exact ⟨rfl, rfl⟩
  · have e : (⟨(Fm.sysNm 7).toArray⟩ : ByteArray) = ⟨#[99, 111, 100, 101, 51, 57]⟩ := rfl
    rw [e]
    clear e
    go_enter Tryz.func72, Tryz.ntmps72
    go_wp2
    go_ret
    exact ⟨rfl, rfl⟩
  · have e : (⟨(Fm.sysNm 8).toArray⟩ : ByteArray) = ⟨#[105, 115, 111, 49, 49]⟩ := rfl
    rw [e]
    clear e
    go_enter Tryz.func72, Tryz.ntmps72
    go_wp2
    go_ret
    exact ⟨rfl, rfl⟩
set_option maxHeartbeats 1000000 in
theorem kindName_any (k : Int) (h1 : 1 ≤ k) (h2 : k ≤ 5) (w : World) : Calls Tryz.prog 70 #[.int .i64 k] w fun e w' => e = .returned (.string ⟨(Fm.kindNm k).toArray⟩) ∧ w = w' := by
  have h : k = 1 ∨ k = 2 ∨ k = 3 ∨ k = 4 ∨ k = 5 := by omega
  clear h1 h2
  rcases h with rfl | rfl | rfl | rfl | rfl
  · have e : (⟨(Fm.kindNm 1).toArray⟩ : ByteArray) = ⟨#[100, 105, 103, 105, 116, 115]⟩ := rfl
    rw [e]
    clear e
    go_enter Tryz.func70, Tryz.ntmps70
    go_wp2
    go_ret
    exact ⟨rfl, rfl⟩
  · have e : (⟨(Fm.kindNm 2).toArray⟩ : ByteArray) = ⟨#[110, 117, 109, 98, 101, 114]⟩ := rfl
    rw [e]
    clear e
    go_enter Tryz.func70, Tryz.ntmps70
    go_wp2
    go_ret
    exact ⟨rfl, rfl⟩
  · have e : (⟨(Fm.kindNm 3).toArray⟩ : ByteArray) = ⟨#[116, 101, 120, 116]⟩ := rfl
    rw [e]
    clear e
    go_enter Tryz.func70, Tryz.ntmps70
    go_wp2
    go_ret
    exact ⟨rfl, rfl⟩
  · have e : (⟨(Fm.kindNm 4).toArray⟩ : ByteArray) = ⟨#[99, 104, 111, 105, 99, 101]⟩ := rfl
    rw [e]
    clear e
    go_enter Tryz.func70, Tryz.ntmps70
    go_wp2
    go_ret
    exact ⟨rfl, rfl⟩
  · have e : (⟨(Fm.kindNm 5).toArray⟩ : ByteArray) = ⟨#[100, 97, 116, 101]⟩ := rfl
    rw [e]
    clear e
    go_enter Tryz.func70, Tryz.ntmps70
    go_wp2
    go_ret
    exact ⟨rfl, rfl⟩
/-- The table of strconv's digits. -/
abbrev Pow (w : World) : Prop := Lib.TabIs Tryz.prog w "internal/strconv.uint64pow10" .u64 Lib.pow10Tab
theorem Pow.ext {w w' : World} (h : Pow w) (hx : Ext w w') : Pow w' := by
  unfold Pow Lib.TabIs World.var? at h ⊢
  cases hg : Tryz.prog.globalNamed "internal/strconv.uint64pow10" with
  | none => rw [hg] at h; simp at h
  | some g =>
    rw [hg] at h
    simp only [Option.bind_some] at h ⊢
    have hlt : g < w.heap.size := by
      rcases Nat.lt_or_ge g w.heap.size with hh | hh
      · exact hh
      · rw [Array.getElem?_eq_none hh] at h; simp at h
    rw [hx.block g hlt]; exact h
/-- strconv.Itoa. -/
theorem itoa_any (n : Int) (h0 : -9223372036854775808 ≤ n) (h1 : n ≤ 9223372036854775807) (w : World) (hP : Pow w) :
    Calls Tryz.prog 71 #[.int .i64 n] w fun e w' => e = .returned (.string ⟨(Lib.itoa n).toArray⟩) ∧ Ext w w' :=
  (Tryz.strconv_Itoa n h0 h1 w hP).mono fun e w' ⟨he, k, os, hw⟩ => ⟨he, by
    subst hw
    refine ⟨rfl, rfl, rfl, by simp [Go.Sort.grow, World.drewN], fun i hi => ?_⟩
    simp [Go.Sort.grow, World.drewN, Array.getElem?_append_left hi]⟩
/-- A literal of strings: a row of its own, as long as its capacity. -/
def litO (B : Nat) (l : List Fm.S) (v : Value) (w : World) : Prop := KOwn 9 1 enc1 w B v l ∧ ∃ b, v = .slice (some ⟨b, 0, none⟩) l.length l.length
theorem litO.ext {B : Nat} {l : List Fm.S} {v : Value} {w w' : World} (h : litO B l v w) (hx : Ext w w') : litO B l v w' := ⟨h.1.ext hx, h.2⟩
theorem cells_strs (l : List Fm.S) : cellsK enc1 l = l.map strV := by
  induction l with
  | nil => rfl
  | cons x l ih => show [strV x] ++ cellsK enc1 l = _; rw [ih]; rfl
theorem litO.new (B : Nat) (l : List Fm.S) (cs : Array Value) (w : World) (hc : cs.toList = l.map strV) (hB : B ≤ w.heap.size) (hl : l.length ≤ 1000000) : litO B l (.slice (some ⟨w.heap.size, 0, none⟩) l.length l.length) (w.alloc (.cells cs 9)) := by
  refine ⟨?_, _, rfl⟩
  have hs : cs.size = l.length * 1 := by rw [← Array.length_toList, hc, List.length_map, Nat.mul_one]
  have := World.ownsRow_lit (base := B) (size := 1) (e := 9) w cs l.length hB (by unfold Go.maxLen; omega) hs
  unfold KOwn
  rw [cells_strs, ← hc]
  exact this
/-- append of a literal of strings. -/
theorem run_append_lit {w : World} (B : Nat) (v : Value) (xs : List Fm.S) (hown : KOwn 9 1 enc1 w B v xs) (B2 : Nat) (l : List Fm.S) (u : Value) (hu : litO B2 l u w) (hn : xs.length + l.length ≤ 1000000000) (hB : B ≤ w.heap.size) :
    ∃ v' w', (Builtin.append_ #[37, 37] 37 #[v, u]).run Tryz.prog w = .ok v' w' ∧ KOwn 9 1 enc1 w' B v' (xs ++ l) ∧ w.grownBy w' v.ownBlock := by
  obtain ⟨ho, b, rfl⟩ := hu
  exact run_append_ks (enc := enc1) (k := 1) (w := w) 37 9 37 (.string ⟨#[]⟩) 16 Tryz.underlying37 info_strs rfl (by decide) (by decide) enc1_len enc1_one B v xs l hown b 0 l.length (ho.sl enc1_len) hn hB
/-- append of a slice of strings. -/
theorem run_append_sl {w : World} (B : Nat) (v : Value) (xs : List Fm.S) (hown : KOwn 9 1 enc1 w B v xs) (a : Option Addr) (n c : Nat) (l : List Fm.S) (hu : StrsR w (.slice a n c) l) (h0 : 0 < l.length) (hn : xs.length + l.length ≤ 1000000000) (hB : B ≤ w.heap.size) :
    ∃ v' w', (Builtin.append_ #[37, 37] 37 #[v, .slice a n c]).run Tryz.prog w = .ok v' w' ∧ KOwn 9 1 enc1 w' B v' (xs ++ l) ∧ w.grownBy w' v.ownBlock := by
  have hk := hu.1
  obtain ⟨b, off, cap, he, hb, hc⟩ := hk.some_ h0
  injection he with e1 e2 e3
  subst e1 e2
  exact run_append_ks (enc := enc1) (k := 1) (w := w) 37 9 37 (.string ⟨#[]⟩) 16 Tryz.underlying37 info_strs rfl (by decide) (by decide) enc1_len enc1_one B v xs l hown b off c hk hn hB
/-- append in a drawn region. -/
theorem wp_append_lit {w : World} {o : Oper} {a : Act} {K : Act → World → Prop} {Q : Exit → Act → World → Prop} (s x : Operand)
    (ho : o.op = .call { callee := .builtin .append, args := #[s, x], argTypes := #[37, 37] }) (ht : o.type = 37)
    (B : Nat) (v : Value) (xs : List Fm.S) (hs : a.eval s = v) (hown : KOwn 9 1 enc1 w B v xs) (B2 : Nat) (l : List Fm.S) (u : Value) (hx : a.eval x = u) (hu : litO B2 l u w) (hn : xs.length + l.length ≤ 1000000000) (hB : B ≤ w.heap.size)
    (h : ∀ v' w', KOwn 9 1 enc1 w' B v' (xs ++ l) → w.grownBy w' v.ownBlock → K (a.put o.dst v') w') : o.wp Tryz.prog a w K Q := by
  obtain ⟨v', w', h2, h3, h4⟩ := run_append_lit B v xs hown B2 l u hu hn hB
  rw [← ht] at h2
  unfold Oper.wp execOp
  simp only [ho, ← ht, resolve, invoke, builtin, Sem.run_bind, Sem.run_pure, Result.andThen_ok, List.map_toArray, List.map_cons, List.map_nil, hs, hx, h2]
  exact h v' w' h3 h4
end Go.Proofs.YtkpfehfcgpapiaaGreatDoor
