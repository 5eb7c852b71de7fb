/-
  Chapter 12: reading ITF, walked.
  Condition: the number of elements is that of at least one pair of digits.
-/
import Derived.Test.YthjlnpcaclfopaaGreatTwW7
import Derived.Test.YthjlnpcaclfopaaGreatSl2
namespace Go.Proofs.YthjlnpcaclfopaaGreat
open Go.RowKit

theorem evens_snoc : ∀ (j : Nat) (l : List UInt8) (_ : 2 * j + 1 < l.length), Tw.evens (l.take (2 * (j + 1))) = Tw.evens (l.take (2 * j)) ++ [l.getD (2 * j) 0]
  | 0, a :: b :: l, _ => by simp [Tw.evens]
  | 0, [], h => by simp at h
  | 0, [_], h => by simp at h
  | j + 1, [], h => by simp at h
  | j + 1, [_], h => by simp at h
  | j + 1, a :: b :: l, h => by
    simp only [List.length_cons] at h
    have := evens_snoc j l (by omega)
    have e1 : (a :: b :: l).take (2 * (j + 1 + 1)) = a :: b :: l.take (2 * (j + 1)) := by rw [show 2 * (j + 1 + 1) = 2 * (j + 1) + 1 + 1 by omega]; rfl
    have e2 : (a :: b :: l).take (2 * (j + 1)) = a :: b :: l.take (2 * j) := by rw [show 2 * (j + 1) = 2 * j + 1 + 1 by omega]; rfl
    have e3 : (a :: b :: l).getD (2 * (j + 1)) 0 = l.getD (2 * j) 0 := by rw [show 2 * (j + 1) = 2 * j + 1 + 1 by omega]; rfl
    rw [e1, e2, e3, Tw.evens, Tw.evens, this, List.cons_append]
theorem odds_snoc : ∀ (j : Nat) (l : List UInt8) (_ : 2 * j + 1 < l.length), Tw.odds (l.take (2 * (j + 1))) = Tw.odds (l.take (2 * j)) ++ [l.getD (2 * j + 1) 0]
  | 0, a :: b :: l, _ => by simp [Tw.odds]
  | 0, [], h => by simp at h
  | 0, [_], h => by simp at h
  | j + 1, [], h => by simp at h
  | j + 1, [_], h => by simp at h
  | j + 1, a :: b :: l, h => by
    simp only [List.length_cons] at h
    have := odds_snoc j l (by omega)
    have e1 : (a :: b :: l).take (2 * (j + 1 + 1)) = a :: b :: l.take (2 * (j + 1)) := by rw [show 2 * (j + 1 + 1) = 2 * (j + 1) + 1 + 1 by omega]; rfl
    have e2 : (a :: b :: l).take (2 * (j + 1)) = a :: b :: l.take (2 * j) := by rw [show 2 * (j + 1) = 2 * j + 1 + 1 by omega]; rfl
    have e3 : (a :: b :: l).getD (2 * (j + 1) + 1) 0 = l.getD (2 * j + 1) 0 := by rw [show 2 * (j + 1) + 1 = 2 * j + 1 + 1 + 1 by omega]; rfl
    rw [e1, e2, e3, Tw.odds, Tw.odds, this, List.cons_append]
theorem evens_len : ∀ l : List UInt8, (Tw.evens l).length ≤ l.length
  | [] => by simp [Tw.evens]
  | [_] => by simp [Tw.evens]
  | _ :: _ :: l => by have := evens_len l; simp only [Tw.evens, List.length_cons]; omega
theorem odds_len : ∀ l : List UInt8, (Tw.odds l).length ≤ l.length
  | [] => by simp [Tw.odds]
  | [_] => by simp [Tw.odds]
  | _ :: _ :: l => by have := odds_len l; simp only [Tw.odds, List.length_cons]; omega
theorem prefix4 (l : List UInt8) : Lib.hasPrefix l [110, 110, 110, 110] = decide (l.take 4 = [110, 110, 110, 110]) := by
  unfold Lib.hasPrefix
  rw [Bool.eq_iff_iff, List.isPrefixOf_iff_prefix, decide_eq_true_eq]
  constructor
  · rintro ⟨t, rfl⟩; simp
  · intro h; exact ⟨l.drop 4, by rw [← h, List.take_append_drop]⟩

theorem flat2_len {α : Type} (f g : α → UInt8) : ∀ l : List α, (l.flatMap fun k => [f k, g k]).length = 2 * l.length
  | [] => rfl
  | _ :: l => by rw [List.flatMap_cons, List.length_append, flat2_len f g l]; simp only [List.length_cons, List.length_nil]; omega
def strLen : Value → Nat
  | .string s => s.size
  | _ => 0

set_option maxRecDepth 100000 in
set_option maxHeartbeats 4000000 in
theorem readItf_any (cs ps : ByteArray) (bc bp bz : Nat) (e : ByteArray) (n : Nat) (w : World) (hA : AlphAt w bc bp bz cs ps 5) (hcs : cs.data.toList = Tw.cItf) (hps : ps.data.toList = Tw.pItf) (hn : e.size = 7 + 10 * n) (hn1 : 1 ≤ n) (hn2 : n ≤ 10000) :
    Calls Tryz.prog 62 #[alphV 5 bc bp bz, .string e] w
      fun en w' => en = .returned (.tuple #[strV (Tw.readItf e.data.toList).1, .int .i64 (Tw.readItf e.data.toList).2]) ∧ Ext w w' := by
  have HP : Hid (∀ w', Ext w w' → ∀ p : ByteArray, Calls Tryz.prog 72 #[.string p, .pointer (some ⟨bc, 0, none⟩), .pointer (some ⟨bp, 0, none⟩), .pointer (some ⟨bz, 0, none⟩)] w'
      fun e w'' => e = .returned (.tuple #[.int .u8 ((Tw.chr Tw.cItf Tw.pItf 5 p.data.toList).1.toNat : Int), .bool (Tw.chr Tw.cItf Tw.pItf 5 p.data.toList).2]) ∧ w' = w'') :=
    Lib.hid fun w' hx p => by
      have h1 : cs.size = 10 := by rw [size_of_toList hcs]; rfl
      have h2 : ps.size = 50 := by rw [size_of_toList hps]; rfl
      have := char_any cs ps 5 p bc bp bz w' (hA.ext hx) (.inl rfl) (by omega) (by omega)
      rw [hcs, hps] at this; exact this
  have HT := Lib.hid (Tw.readItf.eq_1 e.data.toList)
  have HF := Lib.hid (Tryz.strings_HasPrefix e ⟨#[110, 110, 110, 110]⟩)
  change Hid (∀ w, Calls Tryz.prog 76 #[.string e, .string ⟨#[110, 110, 110, 110]⟩] w fun en w' => en = .returned (.bool (Lib.hasPrefix e.data.toList [110, 110, 110, 110])) ∧ w' = w) at HF
  rw [prefix4] at HF
  rw [len_data, show (e.size - 7) / 10 = n by omega] at HT
  generalize Tw.readItf e.data.toList = res at *
  clear hA hcs hps
  have hs : e.size ≤ 1000000 := by omega
  have HN := Lib.hid hn
  clear hn
  unfold alphV
  by_cases h4 : e.data.toList.take 4 = [110, 110, 110, 110]
  · rw [if_neg (fun h => h h4)] at HT
    rw [decide_eq_true h4] at HF
    have HN0 := Lib.hid (show 17 ≤ e.size by have := HN.out; omega)
    have hs17 := HN0.out
    have hn3 : ((e.size : Int) - 3).toNat = e.size - 3 := by omega
    clear h4
    go_enter Tryz.func62, Tryz.ntmps62
    go_wp2_with fail
    refine (HF.out _).mono ?_
    rintro en w1 ⟨rfl, rfl⟩
    go_wp2
    go_quiet (fail)
    go_wp2
    obtain ⟨w0, hw0⟩ : ∃ w0, (w.alloc (.cells #[.int .i64 5, .func (.func 71) #[] #[.pointer (some ⟨bc, 0, none⟩), .pointer (some ⟨bp, 0, none⟩), .pointer (some ⟨bz, 0, none⟩)], .func (.func 72) #[] #[.pointer (some ⟨bc, 0, none⟩), .pointer (some ⟨bp, 0, none⟩), .pointer (some ⟨bz, 0, none⟩)]] 44)).drewN nq = w0 := ⟨_, rfl⟩
    have F0 : Hid (w0.cell? ⟨w.heap.size, 0, none⟩ = some (.int .i64 5)) := Lib.hid (by rw [← hw0]; simp [go_sem])
    have F2 : Hid (w0.cell? ⟨w.heap.size, 2, none⟩ = some (.func (.func 72) #[] #[.pointer (some ⟨bc, 0, none⟩), .pointer (some ⟨bp, 0, none⟩), .pointer (some ⟨bz, 0, none⟩)])) := Lib.hid (by rw [← hw0]; simp [go_sem])
    have hx0 : Ext w w0 := by rw [← hw0]; exact ((Ext.refl _).alloc _).drewN _
    have hl0 : w.heap.size < w0.heap.size := by rw [← hw0]; simp
    rw [hw0]
    obtain ⟨ST, hST⟩ : ∃ ST, e.extract (e.size - 3) e.size = ST := ⟨_, rfl⟩
    have HST : Hid (e.data.toList.drop (e.size - 3) = ST.data.toList) := Lib.hid (by rw [← hST, cut_back])
    rw [hST]
    rw [HST.out] at HT
    clear hST hw0 HF hn3
    go_loopw [6, 8] (fun c d wr => ∃ (i : Nat) (P : ByteArray), i ≤ n ∧ c = .string P ∧ Hid (P.data.toList = (e.data.toList.drop (4 + 10 * i)).take (10 * (n - i))) ∧ Own 5 wr w0.heap.size d (((List.range i).flatMap fun k => [(Tw.digA e.data.toList k).1, (Tw.digB e.data.toList k).1]).map encB) ∧ Hid (∀ m, m < i → Tw.pairOk e.data.toList m = true) ∧ Ext w0 wr) (fun c _ _ => strLen c)
    case atStart =>
      refine ⟨0, _, Nat.zero_le _, rfl, Lib.hid ?_, Own.nil _ _ _, Lib.hid (fun m hm => absurd hm (Nat.not_lt_zero _)), Ext.refl _⟩
      rw [cut_mid]; congr 1; have := HN.out; omega
    case round =>
      obtain ⟨i, P, hi, rfl, HPP, hown, HB, hxr⟩ := hrel
      have hps : P.size = 10 * (n - i) := by
        rw [size_of_toList HPP.out, List.length_take, List.length_drop, len_data]; have := HN.out; omega
      have HPS := Lib.hid hps
      by_cases hlt : i < n
      · have hp10 : 10 ≤ P.size := by omega
        have hpe : P.toList.isEmpty = false := by rw [Lib.toList_data, List.isEmpty_eq_false_iff]; intro h; have := size_of_toList h; rw [List.length_nil] at this; omega
        have hpz : ¬ P.toList = [] := by rw [Lib.toList_data]; intro h; have := size_of_toList h; rw [List.length_nil] at this; omega
        have hc0 : wr.cell? ⟨w.heap.size, 0, none⟩ = some (.int .i64 5) := by rw [hxr.cell (p := ⟨w.heap.size, 0, none⟩) hl0]; exact F0.out
        have hpb : P.size ≤ 1000000 := by omega
        clear hps
        obtain ⟨wo, rfl⟩ : ∃ wo : World, wo = wr := ⟨_, rfl⟩
        go_wp2
        clear hc0
        go_loopw [38, 9, 10] (fun j b s wq => ∃ k : Nat, k ≤ 5 ∧ j = .int .i64 (k : Int) ∧ Own 5 wq wo.heap.size b ((Tw.evens (P.data.toList.take (2 * k))).map encB) ∧ Own 5 wq wo.heap.size s ((Tw.odds (P.data.toList.take (2 * k))).map encB) ∧ Apart b s ∧ Ext wo wq) (fun j _ _ _ => 5 - (intOf j).toNat)
        case atStart => exact ⟨0, Nat.zero_le _, rfl, Own.nil _ _ _, Own.nil _ _ _, Apart.nil_left _, Ext.refl _⟩
        case round =>
          obtain ⟨k, hk, rfl, hob, hos, hap, hxq⟩ := hrel
          by_cases hlt5 : k < 5
          · obtain ⟨p, hp⟩ : ∃ p, 2 * k = p := ⟨_, rfl⟩
            obtain ⟨q, hq⟩ : ∃ q, p + 1 = q := ⟨_, rfl⟩
            have k1 : p < P.size := by omega
            have k2 : q < P.size := by omega
            have hE := evens_snoc k P.data.toList (by rw [len_data]; omega)
            have hO := odds_snoc k P.data.toList (by rw [len_data]; omega)
            rw [hp, hq, getD_at P q k2] at hO
            rw [hp, getD_at P p k1] at hE
            rw [hp] at hob hos
            have le := evens_len (P.data.toList.take p)
            have lo := odds_len (P.data.toList.take p)
            rw [len_take P p (by omega)] at le lo
            have HE := Lib.hid hE
            have HO := Lib.hid hO
            have hmp : 2 * (k : Int) = (p : Int) := by omega
            have hpq : (p : Int) + 1 = (q : Int) := by omega
            have hle : p ≤ 10 := by omega
            clear hE hO hp hq
            generalize Tw.evens (P.data.toList.take p) = le1 at *
            generalize Tw.odds (P.data.toList.take p) = lo1 at *
            go_wp2_with (at_builtin; refine append_byte_at rfl _ _ rfl wo.heap.size _ le1 rfl (hob.alloc _) _ P[p] rfl ?c1 ?c2 ?c3 ?_)
            case c1 => simp [go_sem, encB]
            case c2 => omega
            case c3 => have := hxq.size; simp; omega
            intro v1 w1 hob1 hg1 hat1
            have hos1 := (hos.alloc _).beside hg1 hap
            have hap1 : Apart v1 _ := Apart.grow hap hos _ (by simp) hat1
            have hx1 := (hxq.alloc _).ofGrown hg1 hob.low
            clear hob hos hap hxq hg1 hat1
            go_wp2_with (at_builtin; refine append_byte_at rfl _ _ rfl wo.heap.size _ lo1 rfl (hos1.alloc _) _ P[q] rfl ?d1 ?d2 ?d3 ?_)
            case d1 => simp [go_sem, encB]
            case d2 => omega
            case d3 => have := hx1.size; simp; omega
            intro v2 w2 hos2 hg2 hat2
            have hob2 := (hob1.alloc _).beside hg2 hap1.symm
            have hap2 : Apart v2 _ := Apart.grow hap1.symm hob1 _ (by simp) hat2
            have hx2 := (hx1.alloc _).ofGrown hg2 hos1.low
            clear hob1 hos1 hap1 hx1 hg2 hat2
            go_wp2
            go_roundw
            case rel => exact ⟨k + 1, by omega, by go_num, by rw [HE.out, List.map_append]; exact hob2, by rw [HO.out, List.map_append]; exact hos2, hap2.symm, hx2⟩
            case measure => simp [intOf]; omega
          · obtain rfl : k = 5 := by omega
            have hpa : P.data.toList.take (2 * 5) = Tw.pairAt e.data.toList i := by
              rw [HPP.out, List.take_take, show min (2 * 5) (10 * (n - i)) = 10 by omega]; rfl
            rw [hpa] at hob hos
            have hcv1 := run_convert_sl hob.sl
            have hcv2 := run_convert_sl hos.sl
            have hc2 : wr.cell? ⟨w.heap.size, 2, none⟩ = some (.func (.func 72) #[] #[.pointer (some ⟨bc, 0, none⟩), .pointer (some ⟨bp, 0, none⟩), .pointer (some ⟨bz, 0, none⟩)]) := by rw [(hxr.trans hxq).cell (p := ⟨w.heap.size, 2, none⟩) hl0]; exact F2.out
            have HC1 := Lib.hid (HP.out wr ((hx0.trans hxr).trans hxq) ⟨(Tw.evens (Tw.pairAt e.data.toList i)).toArray⟩)
            have HC2 := Lib.hid (HP.out wr ((hx0.trans hxr).trans hxq) ⟨(Tw.odds (Tw.pairAt e.data.toList i)).toArray⟩)
            have HDA : Hid (Tw.chr Tw.cItf Tw.pItf 5 (Tw.evens (Tw.pairAt e.data.toList i)) = Tw.digA e.data.toList i) := Lib.hid rfl
            have HDB : Hid (Tw.chr Tw.cItf Tw.pItf 5 (Tw.odds (Tw.pairAt e.data.toList i)) = Tw.digB e.data.toList i) := Lib.hid rfl
            simp only [HDA.out] at HC1
            simp only [HDB.out] at HC2
            have HOK := Lib.hid (Tw.pairOk.eq_1 e.data.toList i)
            replace hown := hown.ext hxq
            have hfl : (List.range (i + 1)).flatMap (fun k => [(Tw.digA e.data.toList k).1, (Tw.digB e.data.toList k).1]) = (List.range i).flatMap (fun k => [(Tw.digA e.data.toList k).1, (Tw.digB e.data.toList k).1]) ++ [(Tw.digA e.data.toList i).1, (Tw.digB e.data.toList i).1] := by
              rw [List.range_succ, List.flatMap_append]; simp
            have HFL := Lib.hid hfl
            have hgl : ((List.range i).flatMap (fun k => [(Tw.digA e.data.toList k).1, (Tw.digB e.data.toList k).1])).length ≤ 2 * i := by
              rw [flat2_len, List.length_range]; omega
            clear hfl hpa HDA HDB
            generalize (List.range i).flatMap (fun k => [(Tw.digA e.data.toList k).1, (Tw.digB e.data.toList k).1]) = got at *
            generalize (⟨(Tw.evens (Tw.pairAt e.data.toList i)).toArray⟩ : ByteArray) = SA at *
            generalize (⟨(Tw.odds (Tw.pairAt e.data.toList i)).toArray⟩ : ByteArray) = SB at *
            generalize Tw.digA e.data.toList i = da at *
            generalize Tw.digB e.data.toList i = db at *
            obtain ⟨ca, oa⟩ := da
            obtain ⟨cb, ob⟩ := db
            clear hob hos hap
            replace hxq := hxr.trans hxq
            cases hoo : (oa && ob)
            · have hno : ¬ ((List.range n).all (Tw.pairOk e.data.toList) = true) := by
                intro h
                rw [List.all_eq_true] at h
                have := h i (by simpa using hlt)
                rw [HOK.out, hoo] at this
                exact Bool.noConfusion this
              rw [Bool.not_eq_true] at hno
              rw [if_pos hno] at HT
              clear hno
              cases oa
              · clear hoo
                go_wp2_with fail
                refine HC1.out.mono ?_
                rintro en w5 ⟨rfl, rfl⟩
                go_wp2_with fail
                refine HC2.out.mono ?_
                rintro en w5 ⟨rfl, rfl⟩
                go_wp2
                go_ret2
                exact ⟨by rw [HT.out]; rfl, hx0.trans hxq⟩
              · obtain rfl : ob = false := by simpa using hoo
                clear hoo
                go_wp2_with fail
                refine HC1.out.mono ?_
                rintro en w5 ⟨rfl, rfl⟩
                go_wp2_with fail
                refine HC2.out.mono ?_
                rintro en w5 ⟨rfl, rfl⟩
                go_wp2
                go_ret2
                exact ⟨by rw [HT.out]; rfl, hx0.trans hxq⟩
            · rw [Bool.and_eq_true] at hoo
              obtain ⟨rfl, rfl⟩ := hoo
              have hc0 : wr.cell? ⟨w.heap.size, 0, none⟩ = some (.int .i64 5) := by rw [hxq.cell (p := ⟨w.heap.size, 0, none⟩) hl0]; exact F0.out
              have HBN : Hid (∀ m, m < i + 1 → Tw.pairOk e.data.toList m = true) := Lib.hid (fun m hm => by
                rcases Nat.lt_or_eq_of_le (Nat.le_of_lt_succ hm) with h | rfl
                · exact HB.out m h
                · rw [HOK.out]; rfl)
              have HPN : Hid ((P.extract 10 P.size).data.toList = (e.data.toList.drop (4 + 10 * (i + 1))).take (10 * (n - (i + 1)))) := Lib.hid (by
                rw [cut_back, HPP.out, List.drop_take, List.drop_drop, show 10 * (n - i) - 10 = 10 * (n - (i + 1)) by omega, show 4 + 10 * i + 10 = 4 + 10 * (i + 1) by omega])
              go_wp2_with fail
              refine HC1.out.mono ?_
              rintro en w5 ⟨rfl, rfl⟩
              go_wp2_with fail
              refine HC2.out.mono ?_
              rintro en w5 ⟨rfl, rfl⟩
              go_wp2_with (at_builtin; refine append_two rfl _ _ rfl w0.heap.size _ got rfl (hown.alloc _) _ ca cb rfl ?c1 ?c2 ?c3 ?c4 ?_)
              case c1 => simp [go_sem, encB]
              case c2 => simp [go_sem, encB]
              case c3 => omega
              case c4 => have := hxq.size; simp; omega
              intro v1 w1 hown1 hg1 hat1
              have hx1 := (hxq.alloc _).ofGrown hg1 hown.low
              have hc3 : w1.cell? ⟨w.heap.size, 0, none⟩ = some (.int .i64 5) := by rw [hx1.cell (p := ⟨w.heap.size, 0, none⟩) hl0]; exact F0.out
              clear hc0 hc2 hcv1 hcv2 hown hg1 hat1
              go_wp2
              go_roundw
              case rel => exact ⟨i + 1, _, by omega, rfl, HPN, by rw [HFL.out, List.map_append]; exact hown1, HBN, hx1⟩
              case measure => simp [strLen]; omega
      · obtain rfl : i = n := by omega
        have hpz : P.size = 0 := by omega
        have hpe : P = ⟨#[]⟩ := by
          apply bytes_ext
          exact List.eq_nil_of_length_eq_zero (by rw [len_data]; exact hpz)
        subst hpe
        have hal : ¬ ((List.range i).all (Tw.pairOk e.data.toList) = false) := by
          rw [Bool.not_eq_false, List.all_eq_true]
          intro m hm
          exact HB.out m (by simpa using hm)
        rw [if_neg hal] at HT
        have hcv := run_convert_sl hown.sl
        clear hal hpz hps hi hlt
        by_cases hst : ST.data.toList = [119, 110, 110]
        · rw [if_neg (fun h => h hst)] at HT
          have hs1 : ST.toList = [119, 110, 110] := by rw [Lib.toList_data]; exact hst
          clear hst
          go_wp2
          go_ret2
          exact ⟨by rw [HT.out]; rfl, hx0.trans hxr⟩
        · rw [if_pos hst] at HT
          have hs1 : (ST.toList == [119, 110, 110]) = false := by rw [Lib.toList_data]; simpa using hst
          clear hst
          go_wp2
          go_ret2
          exact ⟨by rw [HT.out]; rfl, hx0.trans hxr⟩
  · rw [if_pos h4] at HT
    rw [decide_eq_false h4] at HF
    go_enter Tryz.func62, Tryz.ntmps62
    go_wp2_with fail
    refine (HF.out _).mono ?_
    rintro en w1 ⟨rfl, rfl⟩
    go_wp2
    go_ret2
    exact ⟨by rw [HT.out]; rfl, (by repeat (first | exact Ext.refl _ | assumption | refine Ext.alloc ?_ _ | refine Ext.drew ?_ | refine Ext.trans ?_ (by assumption)))⟩
end Go.Proofs.YthjlnpcaclfopaaGreat
