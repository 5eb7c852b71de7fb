/-
  Chapter 12: drawing ITF, walked.
  Condition: an even number of digits.
-/
import Derived.Test.YthjlnpcaclfopaaGreatTwW6
import Derived.Lib.SlBytesConst
import Derived.RegionTactic
namespace Go.Proofs.YthjlnpcaclfopaaGreat
open Go.RowKit

theorem mix_snoc (a b : List UInt8) (k : Nat) (ha : k < a.length) (hb : k < b.length) : Tw.mix (a.take (k + 1)) (b.take (k + 1)) = Tw.mix (a.take k) (b.take k) ++ [a[k], b[k]] := by
  induction k generalizing a b with
  | zero =>
    cases a with
    | nil => simp at ha
    | cons x a =>
      cases b with
      | nil => simp at hb
      | cons y b => simp [Tw.mix]
  | succ k ih =>
    cases a with
    | nil => simp at ha
    | cons x a =>
      cases b with
      | nil => simp at hb
      | cons y b =>
        simp only [List.length_cons] at ha hb
        simp only [List.take_succ_cons, Tw.mix, List.cons_append, List.getElem_cons_succ]
        rw [ih a b (by omega) (by omega)]
theorem mix_len : ∀ a b : List UInt8, (Tw.mix a b).length ≤ 2 * a.length
  | [], _ => by simp [Tw.mix]
  | _ :: _, [] => by simp [Tw.mix]
  | _ :: a, _ :: b => by
    have := mix_len a b
    simp only [Tw.mix, List.length_cons]; omega
theorem mix_full : ∀ (a b : List UInt8) (n : Nat), a.length = n → b.length = n → (Tw.mix a b).length = 2 * n
  | [], _, n, h, _ => by simp only [List.length_nil] at h; subst h; simp [Tw.mix]
  | _ :: _, [], n, h, h' => by simp only [List.length_nil, List.length_cons] at h h'; omega
  | _ :: a, _ :: b, n, h, h' => by
    simp only [List.length_cons] at h h'
    have := mix_full a b (n - 1) (by omega) (by omega)
    simp only [Tw.mix, List.length_cons]; omega
theorem draw_app : ∀ (n : Nat) (a b : List UInt8), a.length = 2 * n → Tw.drawPairs (a ++ b) = Tw.drawPairs a ++ Tw.drawPairs b
  | 0, a, b, h => by
    obtain rfl := List.eq_nil_of_length_eq_zero h
    simp [Tw.drawPairs]
  | n + 1, a, b, h => by
    match a, h with
    | x :: y :: a, h =>
      simp only [List.length_cons] at h
      simp only [List.cons_append, Tw.drawPairs, List.append_assoc]
      rw [draw_app n a b (by omega)]
theorem take_two (s : ByteArray) (p q r : Nat) (hq : q = p + 1) (hr : r = p + 2) (h1 : p < s.size) (h2 : q < s.size) : s.data.toList.take r = s.data.toList.take p ++ [s[p], s[q]] := by
  subst hq hr
  rw [show p + 2 = p + 1 + 1 by omega, take_snoc s (p + 1) h2, take_snoc s p (by omega), List.append_assoc]; rfl

set_option maxRecDepth 100000 in
set_option maxHeartbeats 4000000 in
theorem drawItf_any (cs ps : ByteArray) (bc bp bz ba bn : Nat) (s : ByteArray) (h : Nat) (w : World) (hI : ItfAt w bc bp bz ba bn) (hA : AlphAt w bc bp bz cs ps 5) (hcs : cs.data.toList = Tw.cItf) (hps : ps.data.toList = Tw.pItf) (hs : s.size ≤ 100000)
    (hev : s.size = 2 * h) (hdig : ∀ c ∈ s.data.toList, (Tw.pat Tw.cItf Tw.pItf 5 c).1.length = 5) :
    Calls Tryz.prog 61 #[.string s, .pointer (some ⟨ba, 0, none⟩)] w
      fun e w' => e = .returned (strV (Tw.drawItf s.data.toList)) ∧ Ext w w' := by
  have kc := fun (w : World) (C : Array Value) (n c : Nat) => Lib.run_convert_bytes_const (P := Tryz.prog) w 61 5 C n c Tryz.underlying61 Tryz.underlying5
  have HP : Hid (∀ w', Ext w w' → ∀ c : UInt8, Calls Tryz.prog 71 #[.int .u8 (c.toNat : Int), .pointer (some ⟨bc, 0, none⟩), .pointer (some ⟨bp, 0, none⟩), .pointer (some ⟨bz, 0, none⟩)] w'
      fun e w'' => e = .returned (.tuple #[.string ⟨(Tw.pat Tw.cItf Tw.pItf 5 c).1.toArray⟩, .bool (Tw.pat Tw.cItf Tw.pItf 5 c).2]) ∧ w' = w'') :=
    Lib.hid fun w' hx c => by
      have h1 : cs.size = 10 := by rw [size_of_toList hcs]; rfl
      have h2 : ps.size = 50 := by rw [size_of_toList hps]; rfl
      have := pattern_any cs ps 5 c bc bp bz w' (hA.ext hx) (.inl rfl) (by omega) (by omega)
      rw [hcs, hps] at this; exact this
  have HI := Lib.hid hI
  have HD := Lib.hid hdig
  have HE := Lib.hid hev
  have HT := Lib.hid (Tw.drawItf.eq_1 s.data.toList)
  generalize Tw.drawItf s.data.toList = res at *
  have hh : 2 * h ≤ s.size := by omega
  have hh' : s.size ≤ 2 * h := by omega
  clear hI hA hdig hcs hps hev
  go_enter Tryz.func61, Tryz.ntmps61
  go_wp2
  clear kc
  go_loopw [5, 4] (fun i c wr => ∃ j : Nat, j ≤ h ∧ i = .int .i64 ((2 * j : Nat) : Int) ∧ OwnG 5 wr w.heap.size c (([110, 110, 110, 110] ++ Tw.drawPairs (s.data.toList.take (2 * j))).map encB) ∧ Hid ((Tw.drawPairs (s.data.toList.take (2 * j))).length = 10 * j) ∧ Ext w wr) (fun i _ _ => s.size - (intOf i).toNat)
  case atStart =>
    refine ⟨0, Nat.zero_le _, rfl, .inr ⟨w.heap.size, rfl, Nat.le_refl _, by simp, ?_⟩, rfl, (by repeat (first | exact Ext.refl _ | assumption | refine Ext.alloc ?_ _ | refine Ext.drew ?_ | refine Ext.trans ?_ (by assumption)))⟩
    intro j u hu
    rw [World.cell?_alloc_mark]
    simp only [Nat.mul_zero, List.take_zero, Tw.drawPairs] at hu
    simpa [encB] using hu
  case round =>
    obtain ⟨j, hj, rfl, hown, HL, hxr⟩ := hrel
    by_cases hlt : j < h
    · have hz2 : ∀ x : Ahead wr, x.at'.cell? ⟨ba, 1, none⟩ = _ := fun x => (HI.out.ext (hxr.trans x.ext)).a1
      have HQ := Lib.hid (fun (x : Ahead wr) => HP.out x.at' (hxr.trans x.ext))
      obtain ⟨p, hp⟩ : ∃ p, 2 * j = p := ⟨_, rfl⟩
      obtain ⟨q, hq⟩ : ∃ q, p + 1 = q := ⟨_, rfl⟩
      have k1 : p < s.size := by omega
      have k2 : q < s.size := by omega
      have HTT := Lib.hid (take_two s p q (2 * (j + 1)) hq.symm (by omega) k1 k2)
      rw [hp] at hown HL
      have HDA := Lib.hid (draw_app j (s.data.toList.take p) [s[p], s[q]] (by rw [len_take s p (by omega)]; omega))
      rw [← HTT.out] at HDA
      have HPQ : Hid (p = 2 * j ∧ q = 2 * j + 1) := Lib.hid (by omega)
      have hpq : (p : Int) + 1 = (q : Int) := by omega
      have hp' : ((2 * j : Nat) : Int) = (p : Int) := by omega
      rw [hp']
      clear hp hq hp'
      have d1 : decide (p < s.size) = true := by simpa using k1
      have la := HD.out s[p] (mem_at s p k1)
      have lb := HD.out s[q] (mem_at s q k2)
      have HQ1 := Lib.hid (fun x => HQ.out x s[p])
      have HQ2 := Lib.hid (fun (x : Ahead wr) (y : Ahead x.at') => HP.out y.at' ((hxr.trans x.ext).trans y.ext) s[q])
      simp only [Tw.drawPairs, List.append_nil] at HDA
      generalize (Tw.pat Tw.cItf Tw.pItf 5 s[p]).1 = pa at *
      generalize (Tw.pat Tw.cItf Tw.pItf 5 s[q]).1 = pb at *
      generalize (Tw.pat Tw.cItf Tw.pItf 5 s[p]).2 = oa at *
      generalize (Tw.pat Tw.cItf Tw.pItf 5 s[q]).2 = ob at *
      obtain ⟨PA, rfl⟩ : ∃ D : ByteArray, pa = D.data.toList := ⟨⟨pa.toArray⟩, by simp⟩
      obtain ⟨PB, rfl⟩ : ∃ D : ByteArray, pb = D.data.toList := ⟨⟨pb.toArray⟩, by simp⟩
      rw [mk_toList] at HQ1 HQ2
      rw [len_data] at la lb
      clear HP HQ
      go_wp2
      refine wp_region_quiet (C := fun w' => ∃ x : Ahead wr, w' = x.at') (by kernel_rfl) (by kernel_rfl) (Ahead.drawn _) ?_
      try dsimp only
      repeat (first | go_big_quiet_step ((go_at_call 71; exact ahead_of ((HQ1.out _).mono fun _ _ h => ⟨h.1, h.2 ▸ Ext.refl _⟩))) | quiet_step ((go_at_call 71; exact ahead_of ((HQ1.out _).mono fun _ _ h => ⟨h.1, h.2 ▸ Ext.refl _⟩))))
      refine wpQuiet_nil ?_
      intro _ hx0
      obtain ⟨x0, hx0⟩ := hx0
      subst hx0
      obtain ⟨w3, hx3⟩ := x0
      try dsimp only
      have hz3 : ∀ x : Ahead w3, x.at'.cell? ⟨ba, 1, none⟩ = _ := fun x => hz2 ⟨x.at', hx3.trans x.ext⟩
      go_wp2
      refine wp_region_quiet (C := fun w' => ∃ x : Ahead w3, w' = x.at') (by kernel_rfl) (by kernel_rfl) (Ahead.drawn _) ?_
      try dsimp only
      repeat (first | go_big_quiet_step ((go_at_call 71; exact ahead_of ((HQ2.out ⟨w3, hx3⟩ _).mono fun _ _ h => ⟨h.1, h.2 ▸ Ext.refl _⟩))) | quiet_step ((go_at_call 71; exact ahead_of ((HQ2.out ⟨w3, hx3⟩ _).mono fun _ _ h => ⟨h.1, h.2 ▸ Ext.refl _⟩))))
      refine wpQuiet_nil ?_
      intro _ hx0
      obtain ⟨x0, hx0⟩ := hx0
      subst hx0
      obtain ⟨w4, hx4⟩ := x0
      try dsimp only
      have hz4 := (HI.out.ext ((hxr.trans hx3).trans hx4)).a0
      replace hown := hown.ext (hx3.trans hx4)
      replace hxr := (hxr.trans hx3).trans hx4
      clear hx3 hx4 hz2 hz3 HQ1 HQ2 HD
      obtain ⟨wo, rfl⟩ : ∃ wo : World, wo = w4 := ⟨_, rfl⟩
      go_wp2
      clear hz4
      go_loopw [40, 4] (fun i c wq => ∃ k : Nat, k ≤ 5 ∧ i = .int .i64 (k : Int) ∧ OwnG 5 wq w.heap.size c (([110, 110, 110, 110] ++ Tw.drawPairs (s.data.toList.take p) ++ Tw.mix (PA.data.toList.take k) (PB.data.toList.take k)).map encB) ∧ Ext w wq) (fun i _ _ => 5 - (intOf i).toNat)
      case atStart => exact ⟨0, Nat.zero_le _, rfl, by simpa [Tw.mix] using hown, hxr⟩
      case round =>
        obtain ⟨k, hk, rfl, hown, hxr⟩ := hrel
        by_cases hlt5 : k < 5
        · have ka : k < PA.size := by omega
          have kb : k < PB.size := by omega
          have HM := Lib.hid (mix_snoc PA.data.toList PB.data.toList k (by rw [len_data]; exact ka) (by rw [len_data]; exact kb))
          have hmx : (Tw.mix (PA.data.toList.take k) (PB.data.toList.take k)).length ≤ 2 * k := Nat.le_trans (mix_len _ _) (by rw [List.length_take]; omega)
          have hdl : (Tw.drawPairs (s.data.toList.take p)).length ≤ 10 * j := by rw [HL.out]; omega
          generalize hL : [110, 110, 110, 110] ++ Tw.drawPairs (s.data.toList.take p) ++ Tw.mix (PA.data.toList.take k) (PB.data.toList.take k) = L at *
          have hLl : L.length ≤ 2000000 := by rw [← hL]; simp only [List.length_append, List.length_cons, List.length_nil]; omega
          obtain ⟨v', w5, hrun, hown5, hg5⟩ := run_append_G (w := (wr.alloc (.cells #[encB PA[k], encB PB[k]] 5)).drew) 61 5 (.int .u8 0) 1 Tryz.underlying61 info_byte rfl (by decide) w.heap.size u4 (L.map encB) (hown.ext ((Ext.refl _).alloc _).drew) wr.heap.size 0 2 2 [encB PA[k], encB PB[k]] rfl (by decide)
            (fun j u hj => by
              match j with
              | 0 => simp only [List.getElem?_cons_zero, Option.some.injEq] at hj; subst hj; simp [go_sem]
              | 1 => simp only [List.getElem?_cons_succ, List.getElem?_cons_zero, Option.some.injEq] at hj; subst hj; simp [go_sem]
              | j + 2 => simp at hj)
            (fun u hu => by simp only [List.mem_cons, List.not_mem_nil, or_false] at hu; rcases hu with rfl | rfl <;> rfl)
            (by rw [List.length_map]; omega) (by have := hxr.size; simp; omega)
          have hx5 : Ext w w5 := ((hxr.alloc (.cells #[encB PA[k], encB PB[k]] 5)).drew).ofGrown hg5 hown.low
          have HO5 : Hid (OwnG 5 w5 w.heap.size v' (([110, 110, 110, 110] ++ Tw.drawPairs (s.data.toList.take p) ++ Tw.mix (PA.data.toList.take (k + 1)) (PB.data.toList.take (k + 1))).map encB)) := Lib.hid (by
            rw [HM.out, ← List.append_assoc, hL, List.map_append]; exact .inl hown5)
          clear hown5 hg5 hown hL hmx hdl
          unfold encB at hrun
          go_wp2
          go_region_law ((refine step_append_run (by rfl) _ _ _ (by rfl) (by rfl) _ _ (by rfl) (by rfl) _ _ hrun ?_))
          all_goals
            go_wp2
            go_roundw
            case rel => exact ⟨k + 1, by omega, by go_num, HO5.out, hx5⟩
            case measure => simp [intOf]; omega
        · obtain rfl : k = 5 := by omega
          have ta : PA.data.toList.take 5 = PA.data.toList := by rw [← la]; exact take_all PA
          have tb : PB.data.toList.take 5 = PB.data.toList := by rw [← lb]; exact take_all PB
          rw [ta, tb, List.append_assoc, ← HDA.out] at hown
          have HLL : Hid ((Tw.drawPairs (s.data.toList.take (2 * (j + 1)))).length = 10 * (j + 1)) := Lib.hid (by
            rw [HDA.out, List.length_append, HL.out, mix_full _ _ 5 (by rw [len_data]; exact la) (by rw [len_data]; exact lb)]; omega)
          clear ta tb hlt5 hk
          go_wp2
          go_roundw
          case rel => exact ⟨j + 1, by omega, by rw [show ((2 * (j + 1) : Nat) : Int) = (p : Int) + 2 by have := HPQ.out; omega], hown, HLL, hxr⟩
          case measure => simp [intOf]; omega
    · obtain rfl : j = h := by omega
      obtain ⟨p, hp⟩ : ∃ p, 2 * j = p := ⟨_, rfl⟩
      have hta : s.data.toList.take (2 * j) = s.data.toList := by rw [show 2 * j = s.size by omega, take_all]
      rw [hta] at hown
      have hcv := run_convert_sl hown.sl
      rw [hta] at HL
      have hLl : ([110, 110, 110, 110] ++ Tw.drawPairs s.data.toList).length ≤ 2000000 := by simp only [List.length_append, List.length_cons, List.length_nil, HL.out]; omega
      generalize [110, 110, 110, 110] ++ Tw.drawPairs s.data.toList = L at *
      obtain ⟨D, rfl⟩ : ∃ D : ByteArray, L = D.data.toList := ⟨⟨L.toArray⟩, by simp⟩
      rw [mk_toList] at hcv
      rw [len_data] at hLl
      rw [hp]
      have d1 : decide (p < s.size) = false := by simp; omega
      clear hj hlt hta hp HL
      go_wp2
      go_ret
      exact ⟨by rw [HT.out]; exact ret_str' (by simp), hxr⟩
end Go.Proofs.YthjlnpcaclfopaaGreat
