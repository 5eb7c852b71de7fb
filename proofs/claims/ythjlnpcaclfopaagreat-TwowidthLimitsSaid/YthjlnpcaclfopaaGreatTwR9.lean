/-
  Chapter 12: the reference's interleaved, walked.
  Condition: an even number of digits.
-/
import Derived.Test.YthjlnpcaclfopaaGreatTwR8
import Derived.Laws.OwnMore
namespace Go.Proofs.YthjlnpcaclfopaaGreat
open Go.RowKit

theorem own_lit2 (W : World) (a b : Bool) : Own 4 (W.alloc (.cells #[.bool a, .bool b] 4)) W.heap.size (.slice (some ⟨W.heap.size, 0, none⟩) 2 2) ([a, b].map encT) := World.ownsRow_lit W #[.bool a, .bool b] 2 (Nat.le_refl _) (by decide) rfl
theorem own_lit4 (W : World) : Own 3 (W.alloc (.cells #[.int .i64 1, .int .i64 1, .int .i64 1, .int .i64 1] 3)) W.heap.size (.slice (some ⟨W.heap.size, 0, none⟩) 4 4) (([1, 1, 1, 1] : List Int).map encI) := World.ownsRow_lit W #[.int .i64 1, .int .i64 1, .int .i64 1, .int .i64 1] 4 (Nat.le_refl _) (by decide) rfl
theorem Apart.fresh {t : TypeId} {w : World} {B : Nat} {c : Value} {xs : List Value} (h : Own t w B c xs) (n k m : Nat) (hn : w.heap.size ≤ n) : Apart c (.slice (some ⟨n, 0, none⟩) k m) := by
  refine .inr (fun e => ?_)
  have := (World.ownsRow.lt h n (by rw [e]; rfl)).2
  omega
theorem Apart.later {t : TypeId} {w w' : World} {B : Nat} {c p : Value} {xs ys : List Value} (h : Own t w B c xs) (hp : SlN w' w.heap.size p ys) : Apart c p := by
  cases hc : c.ownBlock with
  | none => exact .inl hc
  | some k =>
    refine .inr (fun e => ?_)
    have h1 := (World.ownsRow.lt h k hc).2
    have h2 := (hp.2 k (by rw [← e, hc])).1
    omega

theorem append_int3 {w : World} {ops : Array Oper} {rest : List Oper} {o : Oper} {a : Act} {Q : Exit → Act → World → Prop} (hgd : o.guard = none) (s x : Operand)
    (ho : o.op = .call { callee := .builtin .append, args := #[s, x], argTypes := #[25, 25] })
    (B : Nat) (v : Value) (l : List Int) (hs : a.eval s = v) (hown : Own 3 w B v (l.map encI)) (b : Nat) (u u1 u2 : Int) (hx : a.eval x = .slice (some ⟨b, 0, none⟩) 3 3)
    (hc : w.cell? ⟨b, 0, none⟩ = some (encI u)) (hc1 : w.cell? ⟨b, 1, none⟩ = some (encI u1)) (hc2 : w.cell? ⟨b, 2, none⟩ = some (encI u2)) (hn : l.length ≤ 999999990) (hB : B ≤ w.heap.size)
    (h : ∀ v' w', Own 3 w' B v' ((l ++ [u, u1, u2]).map encI) → w.grownBy w' v.ownBlock → wpList Tryz.prog ops Q rest (a.put o.dst v') w') : wpList Tryz.prog ops Q (o :: rest) a w :=
  wpList_append_vals hgd s x 25 3 (.int .i64 0) 8 ho Tryz.underlying25 info_int rfl (by decide) B v _ hs hown b 0 3 3 [encI u, encI u1, encI u2] hx rfl
    (fun j u' hj => by
      match j with
      | 0 => simp only [List.getElem?_cons_zero, Option.some.injEq] at hj; subst hj; exact hc
      | 1 => simp only [List.getElem?_cons_succ, List.getElem?_cons_zero, Option.some.injEq] at hj; subst hj; exact hc1
      | 2 => simp only [List.getElem?_cons_succ, List.getElem?_cons_zero, Option.some.injEq] at hj; subst hj; exact hc2
      | j + 3 => simp at hj)
    (fun u' hu => by simp only [List.mem_cons, List.not_mem_nil, or_false] at hu; rcases hu with rfl | rfl | rfl <;> rfl) (by rw [List.length_map]; omega) hB
    (fun v' w' h1 h2 => h v' w' (by rw [List.map_append]; exact h1) h2)

theorem widths_app (r : Int) (a b : List UInt8) : Tw.widths r (a ++ b) = Tw.widths r a ++ Tw.widths r b := List.map_append
theorem widths_len (r : Int) (a : List UInt8) : (Tw.widths r a).length = a.length := List.length_map _
theorem mixw_snoc (r : Int) (x y : List UInt8) (k : Nat) (hx : k < x.length) (hy : k < y.length) :
    Tw.widths r (Tw.mix (x.take (k + 1)) (y.take (k + 1))) = Tw.widths r (Tw.mix (x.take k) (y.take k)) ++ Tw.wB r [x[k] == 119, y[k] == 119] := by
  rw [mix_snoc x y k hx hy, widths_app]
  congr 1
  simp [Tw.widths, Tw.wB]
theorem pairs_snoc (s : ByteArray) (u z : Nat) (he : u % 2 = 0) (hz : z = u + 1) (h : z < s.size) :
    Tw.drawPairs (s.data.toList.take (u + 2)) = Tw.drawPairs (s.data.toList.take u) ++ Tw.mix (Tw.pat Tw.cItf Tw.pItf 5 (s[u]'(by omega))).1 (Tw.pat Tw.cItf Tw.pItf 5 s[z]).1 := by
  subst hz
  rw [take_snoc s (u + 1) h, take_snoc s u (by omega), List.append_assoc, draw_app (u / 2) _ _ (by rw [len_take s u (by omega)]; omega)]
  simp [Tw.drawPairs]
theorem patB2 (c : UInt8) (h : 0 ≤ Lib.indexByte Tw.cItf c) : Tw.patB 2 c = (Tw.bits (Tw.pat Tw.cItf Tw.pItf 5 c).1, 0) := by
  show (if (Tw.pat Tw.cItf Tw.pItf 5 c).2 then (Tw.bits (Tw.pat Tw.cItf Tw.pItf 5 c).1, 0) else ([], 6)) = _
  rw [if_pos]
  unfold Tw.pat
  rw [if_neg (by omega)]
theorem bits_at (x : List UInt8) (k : Nat) (h : k < x.length) : ((Tw.bits x).map encT)[k]'(by simp [Tw.bits]; exact h) = .bool (x[k] == 119) := by simp [Tw.bits, encT]
theorem bits_len (x : List UInt8) : (Tw.bits x).length = x.length := List.length_map _

set_option maxRecDepth 100000 in
set_option maxHeartbeats 4000000 in
theorem inter_any (s : ByteArray) (r : Int) (w : World) (hs : s.size ≤ 2000) (he : s.size % 2 = 0) (HD : Hid (∀ c ∈ s.data.toList, 0 ≤ Lib.indexByte Tw.cItf c)) :
    Calls Tryz.prog 20 #[.string s, .int .i64 r] w fun e w' => ∃ v, e = .returned v ∧ Own 3 w' w.heap.size v ((Tw.widths r (Tw.drawItf s.data.toList)).map encI) ∧ Ext w w' := by
  have HRES : Hid (Tw.widths r (Tw.drawItf s.data.toList) = [1, 1, 1, 1] ++ Tw.widths r (Tw.drawPairs s.data.toList) ++ [r, 1, 1]) := Lib.hid (by
    unfold Tw.drawItf; rw [widths_app, widths_app]; rfl)
  generalize Tw.widths r (Tw.drawItf s.data.toList) = res at *
  have HO4 := Lib.hid (own_lit4 w)
  go_enter Tryz.func20, Tryz.ntmps20
  go_wp2
  go_loopw [6, 5] (fun i c wr => ∃ u : Nat, u ≤ s.size ∧ u % 2 = 0 ∧ i = .int .i64 (u : Int) ∧ Own 3 wr w.heap.size c ((([1, 1, 1, 1] : List Int) ++ Tw.widths r (Tw.drawPairs (s.data.toList.take u))).map encI) ∧ Ext w wr) (fun i _ _ => s.size - (intOf i).toNat)
  case atStart => exact ⟨0, Nat.zero_le _, rfl, rfl, HO4.out, (by repeat (first | exact Ext.refl _ | assumption | refine Ext.alloc ?_ _ | refine Ext.drew ?_ | refine Ext.trans ?_ (by assumption)))⟩
  case round =>
    obtain ⟨u, hu, hue, rfl, hown, hxr⟩ := hrel
    by_cases hlt : u < s.size
    · obtain ⟨z, hz⟩ : ∃ z, z = u + 1 := ⟨_, rfl⟩
      have hzs : z < s.size := by omega
      have hzi : (u : Int) + 1 = (z : Int) := by omega
      have d1 : decide ((z : Int) < (s.size : Int)) = true := by simp; omega
      have HS := Lib.hid (pairs_snoc s u z hue hz hzs)
      have hda := HD.out s[u] (mem_at s u hlt)
      have hdb := HD.out s[z] (mem_at s z hzs)
      have hla := pat_itf s[u] hda
      have hlb := pat_itf s[z] hdb
      have HPA := Lib.hid (fun w => rpat_7 s[u] w)
      have HPB := Lib.hid (fun w => rpat_7 s[z] w)
      rw [patB2 s[u] hda] at HPA
      rw [patB2 s[z] hdb] at HPB
      have hgl : (([1, 1, 1, 1] : List Int) ++ Tw.widths r (Tw.drawPairs (s.data.toList.take u))).length ≤ 100000 := by
        have := drawPairs_len (s.data.toList.take u)
        rw [len_take s u hu] at this
        rw [List.length_append, widths_len, show ([1, 1, 1, 1] : List Int).length = 4 from rfl]; omega
      have HSS : Hid ((([1, 1, 1, 1] : List Int) ++ Tw.widths r (Tw.drawPairs (s.data.toList.take (u + 2)))) = ([1, 1, 1, 1] ++ Tw.widths r (Tw.drawPairs (s.data.toList.take u))) ++ Tw.widths r (Tw.mix (Tw.pat Tw.cItf Tw.pItf 5 s[u]).1 (Tw.pat Tw.cItf Tw.pItf 5 s[z]).1)) := Lib.hid (by rw [HS.out, widths_app, List.append_assoc])
      generalize ([1, 1, 1, 1] : List Int) ++ Tw.widths r (Tw.drawPairs (s.data.toList.take u)) = gg at *
      generalize (Tw.pat Tw.cItf Tw.pItf 5 s[u]).1 = x at *
      generalize (Tw.pat Tw.cItf Tw.pItf 5 s[z]).1 = y at *
      clear HS hda hdb hz
      go_wp2_with fail
      refine (HPA.out _).mono ?_
      rintro e w1 ⟨pa, rfl, hpa, hx1⟩
      go_wp2_with fail
      refine (HPB.out _).mono ?_
      rintro e w2 ⟨pb, rfl, hpb, hx2⟩
      have hapa : Apart _ pa := Apart.later hown hpa
      have hown1 := hown.ext hx1
      have hapb : Apart _ pb := Apart.later hown1 hpb
      have hown2 := hown1.ext hx2
      have hpa2 := hpa.ext hx2
      have hxw2 := (hxr.trans hx1).trans hx2
      have hB2 := hxw2.size
      have hpb2 := hpb.mono (B' := 0) (Nat.zero_le _)
      replace hpa2 := hpa2.mono (B' := 0) (Nat.zero_le _)
      clear hown hown1 hpa hpb hx1 hx2 hxr HPA HPB
      obtain ⟨a1, c1, rfl⟩ := hpa2.1.form
      obtain ⟨b1, e1, rfl⟩ := hpb2.1.form
      have e5a : (List.map encT (Tw.bits x)).length = 5 := by rw [List.length_map, bits_len, hla]
      have e5b : (List.map encT (Tw.bits y)).length = 5 := by rw [List.length_map, bits_len, hlb]
      simp only [e5a, e5b] at hpa2 hapa hpb2 hapb ⊢
      go_wp2
      go_loopw [11, 5] (fun i c wq => ∃ k : Nat, k ≤ 5 ∧ i = .int .i64 (k : Int) ∧ Own 3 wq w.heap.size c ((gg ++ Tw.widths r (Tw.mix (x.take k) (y.take k))).map encI) ∧ Ext w wq ∧ SlN wq 0 (.slice a1 5 c1) ((Tw.bits x).map encT) ∧ SlN wq 0 (.slice b1 5 e1) ((Tw.bits y).map encT) ∧ Apart c (.slice a1 5 c1) ∧ Apart c (.slice b1 5 e1)) (fun i _ _ => 5 - (intOf i).toNat)
      case atStart => exact ⟨0, Nat.zero_le _, rfl, by simpa [Tw.mix, Tw.widths] using hown2, hxw2, hpa2, hpb2, hapa, hapb⟩
      case round =>
        clear hown2 hxw2 hpa2 hpb2 hapa hapb
        obtain ⟨k, hk, rfl, hown, hxr, hsa, hsb, ha, hb⟩ := hrel
        by_cases hk5 : k < 5
        · obtain ⟨ba, oa, rfl, hla2, hca⟩ := hsa.1.at_ (k := k) (by rw [List.length_map, bits_len, hla]; exact hk5)
          obtain ⟨bb, ob, rfl, hlb2, hcb⟩ := hsb.1.at_ (k := k) (by rw [List.length_map, bits_len, hlb]; exact hk5)
          rw [bits_at x k (by omega)] at hca
          rw [bits_at y k (by omega)] at hcb
          have HM := Lib.hid (mixw_snoc r x y k (by omega) (by omega))
          have hml : (Tw.widths r (Tw.mix (x.take k) (y.take k))).length ≤ 10 := by
            have := mix_len (x.take k) (y.take k)
            rw [List.length_take] at this
            rw [widths_len]; omega
          generalize Tw.widths r (Tw.mix (x.take k) (y.take k)) = mm at *
          generalize (x[k] == 119) = bx at *
          generalize (y[k] == 119) = by' at *
          have hgm : (gg ++ mm).length ≤ 1000000 := by rw [List.length_append]; omega
          have hB3 := hxr.size
          go_wp2
          go_region_with (go_at_call 22; refine (elements_any w.heap.size 0 _ _ (gg ++ mm) [bx, by'] r _ (Own.drew (hown.alloc _)) ((SlN.ofOwn (Own.drew (own_lit2 wr bx by'))).mono (Nat.zero_le _)) (Apart.fresh hown _ _ _ (Nat.le_refl _)) (by simp; omega) hgm (by simp)).mono ?_; rintro e w5 ⟨v', rfl, hown5, hbw5, hbs5⟩)
          all_goals
            have hxA : Ext wr (wr.alloc (.cells #[.bool bx, .bool by'] 4)).drew := (by repeat (first | exact Ext.refl _ | assumption | refine Ext.alloc ?_ _ | refine Ext.drew ?_ | refine Ext.trans ?_ (by assumption)))
            have hs5 := hbs5 0 _ _ (hsa.ext hxA) ha
            have ht5 := hbs5 0 _ _ (hsb.ext hxA) hb
            have hx5 : Ext w w5 := Below.trans (hxr.trans hxA) hbw5
            clear hbs5 hbw5 hown hsa hsb ha hb
            go_wp2
            go_roundw
            case rel => exact ⟨k + 1, by omega, by go_num, by rw [HM.out, ← List.append_assoc]; exact hown5, hx5, hs5.1, ht5.1, hs5.2, ht5.2⟩
            case measure => simp [intOf]; omega
        · obtain rfl : k = 5 := by omega
          rw [List.take_of_length_le (by omega), List.take_of_length_le (by omega), ← HSS.out] at hown
          clear hk hk5 hsa hsb ha hb
          go_wp2
          go_roundw
          case rel => exact ⟨u + 2, by omega, by omega, by go_num, hown, hxr⟩
          case measure => simp [intOf]; omega
    · obtain rfl : u = s.size := by omega
      rw [take_all] at hown
      have hgl : (([1, 1, 1, 1] : List Int) ++ Tw.widths r (Tw.drawPairs s.data.toList)).length ≤ 100000 := by
        have := drawPairs_len s.data.toList
        rw [len_data] at this
        rw [List.length_append, widths_len, show ([1, 1, 1, 1] : List Int).length = 4 from rfl]; omega
      generalize ([1, 1, 1, 1] : List Int) ++ Tw.widths r (Tw.drawPairs s.data.toList) = gg at *
      have d1 : decide ((s.size : Int) + 1 < (s.size : Int)) = false := by simp; omega
      clear hu hlt
      go_wp2_with (at_builtin; refine append_int3 rfl _ _ rfl w.heap.size _ gg rfl (hown.alloc _) _ r 1 1 rfl ?c1 ?c2 ?c3 ?c4 ?c5 ?_)
      case c1 => simp [go_sem, encI]
      case c2 => simp [go_sem, encI]
      case c3 => simp [go_sem, encI]
      case c4 => omega
      case c5 => have := hxr.size; first | omega | (simp; omega)
      intro v' w5 hown5 hg5
      have hx5 := (hxr.alloc _).ofGrown hg5 hown.low
      clear hown hg5
      go_wp2
      go_ret
      exact ⟨v', rfl, by rw [HRES.out, List.map_append]; exact hown5, hx5⟩
end Go.Proofs.YthjlnpcaclfopaaGreat
