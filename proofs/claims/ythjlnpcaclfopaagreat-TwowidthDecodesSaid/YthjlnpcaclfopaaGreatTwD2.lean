/-
  Chapter 12: the reference's find, walked.
  Condition: the pattern is readable.
-/
import Derived.Test.YthjlnpcaclfopaaGreatTwD1
import Derived.Test.YthjlnpcaclfopaaGreatTwR4
namespace Go.Proofs.YthjlnpcaclfopaaGreat
open Go.RowKit

def Tw.chrK (k : Nat) (p : List UInt8) : UInt8 × Bool := match k with
  | 0 => Tw.chr Tw.c39 Tw.p39 9 p
  | 1 => Tw.chr Tw.cCb Tw.pCb 7 p
  | _ => Tw.chr Tw.cItf Tw.pItf 5 p
theorem chr_cases (cs ps : List UInt8) (z : Nat) (p : List UInt8) : Tw.chr cs ps z p = (0, false) ∨ ∃ i, i < cs.length ∧ Tw.cutAt ps z i = p ∧ Tw.chr cs ps z p = (cs.getD i 0, true) := by
  unfold Tw.chr
  split
  · rename_i i h
    have h1 := List.find?_some h
    have h2 := List.mem_of_find?_eq_some h
    exact .inr ⟨i, by simpa using h2, by simpa using h1, rfl⟩
  · exact .inl rfl
theorem bits_elems (pb : List Bool) : Tw.bits (Tw.elems pb) = pb := by
  unfold Tw.bits Tw.elems
  rw [List.map_map]
  conv => rhs; rw [← List.map_id pb]
  refine List.map_congr_left (fun b _ => ?_)
  cases b <;> rfl
theorem hit0 : ∀ i : Fin 256, (Tw.patB 0 (UInt8.ofNat i.val)).2 = 0 → Tw.chr Tw.c39 Tw.p39 9 (Tw.elems (Tw.patB 0 (UInt8.ofNat i.val)).1) = (UInt8.ofNat i.val, true) := by decide +kernel
theorem hit1 : ∀ i : Fin 256, (Tw.patB 1 (UInt8.ofNat i.val)).2 = 0 → Tw.chr Tw.cCb Tw.pCb 7 (Tw.elems (Tw.patB 1 (UInt8.ofNat i.val)).1) = (UInt8.ofNat i.val, true) := by decide +kernel
theorem hit2 : ∀ i : Fin 256, (Tw.patB 2 (UInt8.ofNat i.val)).2 = 0 → Tw.chr Tw.cItf Tw.pItf 5 (Tw.elems (Tw.patB 2 (UInt8.ofNat i.val)).1) = (UInt8.ofNat i.val, true) := by decide +kernel
theorem all0 : ∀ i : Fin 44, Tw.patB 0 (Tw.c39.getD i.val 0) = (Tw.bits (Tw.cutAt Tw.p39 9 i.val), 0) ∧ 32 ≤ (Tw.c39.getD i.val 0).toNat ∧ (Tw.c39.getD i.val 0).toNat < 127 := by decide +kernel
theorem all1 : ∀ i : Fin 20, Tw.patB 1 (Tw.cCb.getD i.val 0) = (Tw.bits (Tw.cutAt Tw.pCb 7 i.val), 0) ∧ 32 ≤ (Tw.cCb.getD i.val 0).toNat ∧ (Tw.cCb.getD i.val 0).toNat < 127 := by decide +kernel
theorem all2 : ∀ i : Fin 10, Tw.patB 2 (Tw.cItf.getD i.val 0) = (Tw.bits (Tw.cutAt Tw.pItf 5 i.val), 0) ∧ 32 ≤ (Tw.cItf.getD i.val 0).toNat ∧ (Tw.cItf.getD i.val 0).toNat < 127 := by decide +kernel

theorem hit_0 (c : UInt8) (pb : List Bool) (h : Tw.patB 0 c = (pb, 0)) : Tw.chrK 0 (Tw.elems pb) = (c, true) := by
  have h1 := hit0 ⟨c.toNat, c.toNat_lt⟩
  simp only [ofNat_toNat, h] at h1
  exact h1 trivial
theorem none_0 (pb : List Bool) (h : ∀ c : UInt8, 32 ≤ c.toNat → c.toNat < 127 → Tw.patB 0 c ≠ (pb, 0)) : (Tw.chrK 0 (Tw.elems pb)).1 = 0 := by
  show (Tw.chr Tw.c39 Tw.p39 9 (Tw.elems pb)).1 = 0
  rcases chr_cases Tw.c39 Tw.p39 9 (Tw.elems pb) with e | ⟨i, hi, hc, _⟩
  · rw [e]
  · obtain ⟨a1, a2, a3⟩ := all0 ⟨i, hi⟩
    exact absurd (by rw [a1]; simp only [hc, bits_elems]) (h _ a2 a3)
theorem hit_1 (c : UInt8) (pb : List Bool) (h : Tw.patB 1 c = (pb, 0)) : Tw.chrK 1 (Tw.elems pb) = (c, true) := by
  have h1 := hit1 ⟨c.toNat, c.toNat_lt⟩
  simp only [ofNat_toNat, h] at h1
  exact h1 trivial
theorem none_1 (pb : List Bool) (h : ∀ c : UInt8, 32 ≤ c.toNat → c.toNat < 127 → Tw.patB 1 c ≠ (pb, 0)) : (Tw.chrK 1 (Tw.elems pb)).1 = 0 := by
  show (Tw.chr Tw.cCb Tw.pCb 7 (Tw.elems pb)).1 = 0
  rcases chr_cases Tw.cCb Tw.pCb 7 (Tw.elems pb) with e | ⟨i, hi, hc, _⟩
  · rw [e]
  · obtain ⟨a1, a2, a3⟩ := all1 ⟨i, hi⟩
    exact absurd (by rw [a1]; simp only [hc, bits_elems]) (h _ a2 a3)
theorem hit_2 (c : UInt8) (pb : List Bool) (h : Tw.patB 2 c = (pb, 0)) : Tw.chrK 2 (Tw.elems pb) = (c, true) := by
  have h1 := hit2 ⟨c.toNat, c.toNat_lt⟩
  simp only [ofNat_toNat, h] at h1
  exact h1 trivial
theorem none_2 (pb : List Bool) (h : ∀ c : UInt8, 32 ≤ c.toNat → c.toNat < 127 → Tw.patB 2 c ≠ (pb, 0)) : (Tw.chrK 2 (Tw.elems pb)).1 = 0 := by
  show (Tw.chr Tw.cItf Tw.pItf 5 (Tw.elems pb)).1 = 0
  rcases chr_cases Tw.cItf Tw.pItf 5 (Tw.elems pb) with e | ⟨i, hi, hc, _⟩
  · rw [e]
  · obtain ⟨a1, a2, a3⟩ := all2 ⟨i, hi⟩
    exact absurd (by rw [a1]; simp only [hc, bits_elems]) (h _ a2 a3)

theorem taken_snoc (q p : List Bool) (j : Nat) (hq : j < q.length) (hp : j < p.length) (h : q.take j = p.take j) : decide (q.take (j + 1) = p.take (j + 1)) = (q[j] == p[j]) := by
  rw [List.take_succ_eq_append_getElem hq, List.take_succ_eq_append_getElem hp, h, Bool.eq_iff_iff, decide_eq_true_eq, beq_iff_eq, List.append_cancel_left_eq, List.cons.injEq]
  exact ⟨fun e => e.1, fun e => ⟨e, rfl⟩⟩

set_option maxRecDepth 100000 in
set_option maxHeartbeats 4000000 in
theorem find_5 (pv : Value) (pb : List Bool) (w : World) (hp : Sl w pv (pb.map encT)) (hl : pb.length ≤ 1000) :
    Calls Tryz.prog 47 #[.int .i64 5, pv] w fun e w' => e = .returned (.int .u8 ((Tw.chrK 0 (Tw.elems pb)).1.toNat : Int)) ∧ Ext w w' := by
  obtain ⟨a1, c1, rfl⟩ := hp.form
  rw [List.length_map] at hp ⊢
  have HP := Lib.hid hp
  have HHIT := Lib.hid (fun c => hit_0 c pb)
  have HNON := Lib.hid (none_0 pb)
  clear hp
  generalize Tw.chrK 0 (Tw.elems pb) = res at *
  go_enter Tryz.func47, Tryz.ntmps47
  go_wp2
  go_loopw [5] (fun c wr => ∃ m : Nat, 32 ≤ m ∧ m ≤ 127 ∧ c = .int .i64 (m : Int) ∧ Hid (∀ d : UInt8, 32 ≤ d.toNat → d.toNat < m → Tw.patB 0 d ≠ (pb, 0)) ∧ Ext w wr) (fun c _ => 127 - (intOf c).toNat)
  case atStart => exact ⟨32, Nat.le_refl _, by omega, rfl, Lib.hid (fun d h1 h2 => by omega), Ext.refl _⟩
  case round =>
    obtain ⟨m, hm1, hm2, rfl, HB, hxr⟩ := hrel
    by_cases hlt : m < 127
    · have he : (UInt8.ofNat m).toNat = m := by simp; omega
      have HPT := Lib.hid (fun w => rpat_5 (UInt8.ofNat m) w)
      rw [he] at HPT
      have HNX : Hid (Tw.patB 0 (UInt8.ofNat m) ≠ (pb, 0) → ∀ d : UInt8, 32 ≤ d.toNat → d.toNat < m + 1 → Tw.patB 0 d ≠ (pb, 0)) := Lib.hid (fun hne d h1 h2 => by
        by_cases hd : d.toNat < m
        · exact HB.out d h1 hd
        · have : d = UInt8.ofNat m := UInt8.toNat_inj.1 (by rw [he]; omega)
          rw [this]; exact hne)
      have HHT : Hid (Tw.patB 0 (UInt8.ofNat m) = (pb, 0) → (res.1.toNat : Int) = (m : Int)) := Lib.hid (fun h => by rw [HHIT.out _ h, ← he]; simp)
      generalize Tw.patB 0 (UInt8.ofNat m) = q at *
      obtain ⟨qb, qe⟩ := q
      clear HB he
      by_cases hqe : qe = 0
      · subst hqe
        by_cases hql : qb.length = pb.length
        · have dl : ((qb.length : Int) == (pb.length : Int)) = true := by rw [hql]; simp
          go_wp2_with fail
          refine (HPT.out _).mono ?_
          rintro e w2 ⟨qv, rfl, hqs, hx2⟩
          dsimp only at hqs
          obtain ⟨a2, c2, rfl⟩ := hqs.1.form
          rw [List.length_map] at hqs ⊢
          have HQ := Lib.hid hqs.1
          have hxw2 := hxr.trans hx2
          clear hqs hx2 hxr
          go_wp2
          go_loopw [9, 8] (fun i s wr => ∃ (j : Nat) (sb : Bool), j ≤ qb.length ∧ i = .int .i64 (j : Int) ∧ s = .bool sb ∧ Hid (sb = decide (qb.take j = pb.take j)) ∧ Ext w wr ∧ Ext w2 wr) (fun i _ _ => qb.length - (intOf i).toNat)
          case atStart => exact ⟨0, true, Nat.zero_le _, rfl, rfl, Lib.hid (by simp), hxw2, Ext.refl _⟩
          case round =>
            clear hxw2
            obtain ⟨j, sb, hj, rfl, rfl, HSB, hxr, hxq⟩ := hrel
            by_cases hjl : j < qb.length
            · cases sb
              · have hne : qb ≠ pb := by
                  intro h
                  have := HSB.out
                  rw [h] at this; simp at this
                have HN2 := Lib.hid (HNX.out (fun h => hne (congrArg Prod.fst h)))
                clear hne
                go_wp2
                go_roundw
                case rel => exact ⟨m + 1, by omega, by omega, by go_num, HN2, hxr⟩
                case measure => simp [intOf]; omega
              · have heq : qb.take j = pb.take j := by simpa using HSB.out.symm
                have HTS := Lib.hid (taken_snoc qb pb j hjl (by omega) heq)
                obtain ⟨b1, o1, hA, hb1, hcb⟩ := (HP.out.ext hxr).at_ (k := j) (by rw [List.length_map]; omega)
                obtain ⟨b2, o2, hB, hb2, hcq⟩ := (HQ.out.ext hxq).at_ (k := j) (by rw [List.length_map]; omega)
                rw [List.getElem_map] at hcb hcq
                subst hA hB
                simp only [encT] at hcb hcq
                generalize qb[j] = x at *
                generalize hpj : pb[j]'(by omega) = y at *
                have dxy : ((x == y) : Bool) = (x == y) := rfl
                clear heq hpj dxy
                go_wp2
                go_region
                go_wp2
                go_roundw
                case rel => exact ⟨j + 1, _, by omega, by go_num, rfl, Lib.hid HTS.out.symm, by exact hxr.drewN _, by exact hxq.drewN _⟩
                case measure => simp [intOf]; omega
            · obtain rfl : j = qb.length := by omega
              have hsb : sb = decide (qb = pb) := by
                have := HSB.out
                rw [List.take_length, hql, List.take_length] at this
                exact this
              clear hj hjl HSB
              cases sb
              · have HN2 := Lib.hid (HNX.out (fun h => by have h1 : qb = pb := congrArg Prod.fst h; rw [h1] at hsb; simp at hsb))
                clear hsb
                go_wp2
                go_roundw
                case rel => exact ⟨m + 1, by omega, by omega, by go_num, HN2, hxr⟩
                case measure => simp [intOf]; omega
              · have HRS := Lib.hid (HHT.out (by rw [show qb = pb by simpa using hsb.symm]))
                clear hsb
                go_wp2
                go_ret
                exact ⟨ret_int HRS.out.symm, hxr⟩
        · have dl : ((qb.length : Int) == (pb.length : Int)) = false := by rw [beq_eq_false_iff_ne]; omega
          have HN2 := Lib.hid (HNX.out (fun h => hql (congrArg (fun z => z.1.length) h)))
          clear hql
          go_wp2_with fail
          refine (HPT.out _).mono ?_
          rintro e w2 ⟨qv, rfl, hqs, hx2⟩
          dsimp only at hqs
          obtain ⟨a2, c2, rfl⟩ := hqs.1.form
          rw [List.length_map] at hqs ⊢
          have hxw2 := hxr.trans hx2
          clear hqs hx2 hxr
          go_wp2
          go_loopw [9, 8] (fun i s wr => i = .int .i64 0 ∧ s = .bool false ∧ Ext w wr) (fun _ _ _ => 0)
          case atStart => exact ⟨rfl, rfl, hxw2⟩
          case round =>
            clear hxw2
            obtain ⟨rfl, rfl, hxr⟩ := hrel
            go_wp2
            all_goals
              go_roundw
              case rel => exact ⟨m + 1, by omega, by omega, by go_num, HN2, hxr⟩
              case measure => simp [intOf]; omega
      · have dq : (qe == 0) = false := by rw [beq_eq_false_iff_ne]; exact hqe
        have HN2 := Lib.hid (HNX.out (fun h => hqe (congrArg Prod.snd h)))
        clear hqe
        go_wp2_with fail
        refine (HPT.out _).mono ?_
        rintro e w2 ⟨qv, rfl, hqs, hx2⟩
        dsimp only at hqs
        obtain ⟨a2, c2, rfl⟩ := hqs.1.form
        rw [List.length_map] at hqs ⊢
        have hxw2 := hxr.trans hx2
        clear hqs hx2 hxr
        go_wp2
        go_loopw [9, 8] (fun i s wr => i = .int .i64 0 ∧ s = .bool false ∧ Ext w wr) (fun _ _ _ => 0)
        case atStart => exact ⟨rfl, rfl, hxw2⟩
        case round =>
          clear hxw2
          obtain ⟨rfl, rfl, hxr⟩ := hrel
          go_wp2
          all_goals
            go_roundw
            case rel => exact ⟨m + 1, by omega, by omega, by go_num, HN2, hxr⟩
            case measure => simp [intOf]; omega
    · obtain rfl : m = 127 := by omega
      have HZ : Hid (res.1 = 0) := Lib.hid (HNON.out HB.out)
      clear hm1 hm2 hlt
      go_wp2
      go_ret
      exact ⟨by rw [HZ.out]; rfl, hxr⟩
set_option maxRecDepth 100000 in
set_option maxHeartbeats 4000000 in
theorem find_6 (pv : Value) (pb : List Bool) (w : World) (hp : Sl w pv (pb.map encT)) (hl : pb.length ≤ 1000) :
    Calls Tryz.prog 47 #[.int .i64 6, pv] w fun e w' => e = .returned (.int .u8 ((Tw.chrK 1 (Tw.elems pb)).1.toNat : Int)) ∧ Ext w w' := by
  obtain ⟨a1, c1, rfl⟩ := hp.form
  rw [List.length_map] at hp ⊢
  have HP := Lib.hid hp
  have HHIT := Lib.hid (fun c => hit_1 c pb)
  have HNON := Lib.hid (none_1 pb)
  clear hp
  generalize Tw.chrK 1 (Tw.elems pb) = res at *
  go_enter Tryz.func47, Tryz.ntmps47
  go_wp2
  go_loopw [5] (fun c wr => ∃ m : Nat, 32 ≤ m ∧ m ≤ 127 ∧ c = .int .i64 (m : Int) ∧ Hid (∀ d : UInt8, 32 ≤ d.toNat → d.toNat < m → Tw.patB 1 d ≠ (pb, 0)) ∧ Ext w wr) (fun c _ => 127 - (intOf c).toNat)
  case atStart => exact ⟨32, Nat.le_refl _, by omega, rfl, Lib.hid (fun d h1 h2 => by omega), Ext.refl _⟩
  case round =>
    obtain ⟨m, hm1, hm2, rfl, HB, hxr⟩ := hrel
    by_cases hlt : m < 127
    · have he : (UInt8.ofNat m).toNat = m := by simp; omega
      have HPT := Lib.hid (fun w => rpat_6 (UInt8.ofNat m) w)
      rw [he] at HPT
      have HNX : Hid (Tw.patB 1 (UInt8.ofNat m) ≠ (pb, 0) → ∀ d : UInt8, 32 ≤ d.toNat → d.toNat < m + 1 → Tw.patB 1 d ≠ (pb, 0)) := Lib.hid (fun hne d h1 h2 => by
        by_cases hd : d.toNat < m
        · exact HB.out d h1 hd
        · have : d = UInt8.ofNat m := UInt8.toNat_inj.1 (by rw [he]; omega)
          rw [this]; exact hne)
      have HHT : Hid (Tw.patB 1 (UInt8.ofNat m) = (pb, 0) → (res.1.toNat : Int) = (m : Int)) := Lib.hid (fun h => by rw [HHIT.out _ h, ← he]; simp)
      generalize Tw.patB 1 (UInt8.ofNat m) = q at *
      obtain ⟨qb, qe⟩ := q
      clear HB he
      by_cases hqe : qe = 0
      · subst hqe
        by_cases hql : qb.length = pb.length
        · have dl : ((qb.length : Int) == (pb.length : Int)) = true := by rw [hql]; simp
          go_wp2_with fail
          refine (HPT.out _).mono ?_
          rintro e w2 ⟨qv, rfl, hqs, hx2⟩
          dsimp only at hqs
          obtain ⟨a2, c2, rfl⟩ := hqs.1.form
          rw [List.length_map] at hqs ⊢
          have HQ := Lib.hid hqs.1
          have hxw2 := hxr.trans hx2
          clear hqs hx2 hxr
          go_wp2
          go_loopw [9, 8] (fun i s wr => ∃ (j : Nat) (sb : Bool), j ≤ qb.length ∧ i = .int .i64 (j : Int) ∧ s = .bool sb ∧ Hid (sb = decide (qb.take j = pb.take j)) ∧ Ext w wr ∧ Ext w2 wr) (fun i _ _ => qb.length - (intOf i).toNat)
          case atStart => exact ⟨0, true, Nat.zero_le _, rfl, rfl, Lib.hid (by simp), hxw2, Ext.refl _⟩
          case round =>
            clear hxw2
            obtain ⟨j, sb, hj, rfl, rfl, HSB, hxr, hxq⟩ := hrel
            by_cases hjl : j < qb.length
            · cases sb
              · have hne : qb ≠ pb := by
                  intro h
                  have := HSB.out
                  rw [h] at this; simp at this
                have HN2 := Lib.hid (HNX.out (fun h => hne (congrArg Prod.fst h)))
                clear hne
                go_wp2
                go_roundw
                case rel => exact ⟨m + 1, by omega, by omega, by go_num, HN2, hxr⟩
                case measure => simp [intOf]; omega
              · have heq : qb.take j = pb.take j := by simpa using HSB.out.symm
                have HTS := Lib.hid (taken_snoc qb pb j hjl (by omega) heq)
                obtain ⟨b1, o1, hA, hb1, hcb⟩ := (HP.out.ext hxr).at_ (k := j) (by rw [List.length_map]; omega)
                obtain ⟨b2, o2, hB, hb2, hcq⟩ := (HQ.out.ext hxq).at_ (k := j) (by rw [List.length_map]; omega)
                rw [List.getElem_map] at hcb hcq
                subst hA hB
                simp only [encT] at hcb hcq
                generalize qb[j] = x at *
                generalize hpj : pb[j]'(by omega) = y at *
                have dxy : ((x == y) : Bool) = (x == y) := rfl
                clear heq hpj dxy
                go_wp2
                go_region
                go_wp2
                go_roundw
                case rel => exact ⟨j + 1, _, by omega, by go_num, rfl, Lib.hid HTS.out.symm, by exact hxr.drewN _, by exact hxq.drewN _⟩
                case measure => simp [intOf]; omega
            · obtain rfl : j = qb.length := by omega
              have hsb : sb = decide (qb = pb) := by
                have := HSB.out
                rw [List.take_length, hql, List.take_length] at this
                exact this
              clear hj hjl HSB
              cases sb
              · have HN2 := Lib.hid (HNX.out (fun h => by have h1 : qb = pb := congrArg Prod.fst h; rw [h1] at hsb; simp at hsb))
                clear hsb
                go_wp2
                go_roundw
                case rel => exact ⟨m + 1, by omega, by omega, by go_num, HN2, hxr⟩
                case measure => simp [intOf]; omega
              · have HRS := Lib.hid (HHT.out (by rw [show qb = pb by simpa using hsb.symm]))
                clear hsb
                go_wp2
                go_ret
                exact ⟨ret_int HRS.out.symm, hxr⟩
        · have dl : ((qb.length : Int) == (pb.length : Int)) = false := by rw [beq_eq_false_iff_ne]; omega
          have HN2 := Lib.hid (HNX.out (fun h => hql (congrArg (fun z => z.1.length) h)))
          clear hql
          go_wp2_with fail
          refine (HPT.out _).mono ?_
          rintro e w2 ⟨qv, rfl, hqs, hx2⟩
          dsimp only at hqs
          obtain ⟨a2, c2, rfl⟩ := hqs.1.form
          rw [List.length_map] at hqs ⊢
          have hxw2 := hxr.trans hx2
          clear hqs hx2 hxr
          go_wp2
          go_loopw [9, 8] (fun i s wr => i = .int .i64 0 ∧ s = .bool false ∧ Ext w wr) (fun _ _ _ => 0)
          case atStart => exact ⟨rfl, rfl, hxw2⟩
          case round =>
            clear hxw2
            obtain ⟨rfl, rfl, hxr⟩ := hrel
            go_wp2
            all_goals
              go_roundw
              case rel => exact ⟨m + 1, by omega, by omega, by go_num, HN2, hxr⟩
              case measure => simp [intOf]; omega
      · have dq : (qe == 0) = false := by rw [beq_eq_false_iff_ne]; exact hqe
        have HN2 := Lib.hid (HNX.out (fun h => hqe (congrArg Prod.snd h)))
        clear hqe
        go_wp2_with fail
        refine (HPT.out _).mono ?_
        rintro e w2 ⟨qv, rfl, hqs, hx2⟩
        dsimp only at hqs
        obtain ⟨a2, c2, rfl⟩ := hqs.1.form
        rw [List.length_map] at hqs ⊢
        have hxw2 := hxr.trans hx2
        clear hqs hx2 hxr
        go_wp2
        go_loopw [9, 8] (fun i s wr => i = .int .i64 0 ∧ s = .bool false ∧ Ext w wr) (fun _ _ _ => 0)
        case atStart => exact ⟨rfl, rfl, hxw2⟩
        case round =>
          clear hxw2
          obtain ⟨rfl, rfl, hxr⟩ := hrel
          go_wp2
          all_goals
            go_roundw
            case rel => exact ⟨m + 1, by omega, by omega, by go_num, HN2, hxr⟩
            case measure => simp [intOf]; omega
    · obtain rfl : m = 127 := by omega
      have HZ : Hid (res.1 = 0) := Lib.hid (HNON.out HB.out)
      clear hm1 hm2 hlt
      go_wp2
      go_ret
      exact ⟨by rw [HZ.out]; rfl, hxr⟩
set_option maxRecDepth 100000 in
set_option maxHeartbeats 4000000 in
theorem find_7 (pv : Value) (pb : List Bool) (w : World) (hp : Sl w pv (pb.map encT)) (hl : pb.length ≤ 1000) :
    Calls Tryz.prog 47 #[.int .i64 7, pv] w fun e w' => e = .returned (.int .u8 ((Tw.chrK 2 (Tw.elems pb)).1.toNat : Int)) ∧ Ext w w' := by
  obtain ⟨a1, c1, rfl⟩ := hp.form
  rw [List.length_map] at hp ⊢
  have HP := Lib.hid hp
  have HHIT := Lib.hid (fun c => hit_2 c pb)
  have HNON := Lib.hid (none_2 pb)
  clear hp
  generalize Tw.chrK 2 (Tw.elems pb) = res at *
  go_enter Tryz.func47, Tryz.ntmps47
  go_wp2
  go_loopw [5] (fun c wr => ∃ m : Nat, 32 ≤ m ∧ m ≤ 127 ∧ c = .int .i64 (m : Int) ∧ Hid (∀ d : UInt8, 32 ≤ d.toNat → d.toNat < m → Tw.patB 2 d ≠ (pb, 0)) ∧ Ext w wr) (fun c _ => 127 - (intOf c).toNat)
  case atStart => exact ⟨32, Nat.le_refl _, by omega, rfl, Lib.hid (fun d h1 h2 => by omega), Ext.refl _⟩
  case round =>
    obtain ⟨m, hm1, hm2, rfl, HB, hxr⟩ := hrel
    by_cases hlt : m < 127
    · have he : (UInt8.ofNat m).toNat = m := by simp; omega
      have HPT := Lib.hid (fun w => rpat_7 (UInt8.ofNat m) w)
      rw [he] at HPT
      have HNX : Hid (Tw.patB 2 (UInt8.ofNat m) ≠ (pb, 0) → ∀ d : UInt8, 32 ≤ d.toNat → d.toNat < m + 1 → Tw.patB 2 d ≠ (pb, 0)) := Lib.hid (fun hne d h1 h2 => by
        by_cases hd : d.toNat < m
        · exact HB.out d h1 hd
        · have : d = UInt8.ofNat m := UInt8.toNat_inj.1 (by rw [he]; omega)
          rw [this]; exact hne)
      have HHT : Hid (Tw.patB 2 (UInt8.ofNat m) = (pb, 0) → (res.1.toNat : Int) = (m : Int)) := Lib.hid (fun h => by rw [HHIT.out _ h, ← he]; simp)
      generalize Tw.patB 2 (UInt8.ofNat m) = q at *
      obtain ⟨qb, qe⟩ := q
      clear HB he
      by_cases hqe : qe = 0
      · subst hqe
        by_cases hql : qb.length = pb.length
        · have dl : ((qb.length : Int) == (pb.length : Int)) = true := by rw [hql]; simp
          go_wp2_with fail
          refine (HPT.out _).mono ?_
          rintro e w2 ⟨qv, rfl, hqs, hx2⟩
          dsimp only at hqs
          obtain ⟨a2, c2, rfl⟩ := hqs.1.form
          rw [List.length_map] at hqs ⊢
          have HQ := Lib.hid hqs.1
          have hxw2 := hxr.trans hx2
          clear hqs hx2 hxr
          go_wp2
          go_loopw [9, 8] (fun i s wr => ∃ (j : Nat) (sb : Bool), j ≤ qb.length ∧ i = .int .i64 (j : Int) ∧ s = .bool sb ∧ Hid (sb = decide (qb.take j = pb.take j)) ∧ Ext w wr ∧ Ext w2 wr) (fun i _ _ => qb.length - (intOf i).toNat)
          case atStart => exact ⟨0, true, Nat.zero_le _, rfl, rfl, Lib.hid (by simp), hxw2, Ext.refl _⟩
          case round =>
            clear hxw2
            obtain ⟨j, sb, hj, rfl, rfl, HSB, hxr, hxq⟩ := hrel
            by_cases hjl : j < qb.length
            · cases sb
              · have hne : qb ≠ pb := by
                  intro h
                  have := HSB.out
                  rw [h] at this; simp at this
                have HN2 := Lib.hid (HNX.out (fun h => hne (congrArg Prod.fst h)))
                clear hne
                go_wp2
                go_roundw
                case rel => exact ⟨m + 1, by omega, by omega, by go_num, HN2, hxr⟩
                case measure => simp [intOf]; omega
              · have heq : qb.take j = pb.take j := by simpa using HSB.out.symm
                have HTS := Lib.hid (taken_snoc qb pb j hjl (by omega) heq)
                obtain ⟨b1, o1, hA, hb1, hcb⟩ := (HP.out.ext hxr).at_ (k := j) (by rw [List.length_map]; omega)
                obtain ⟨b2, o2, hB, hb2, hcq⟩ := (HQ.out.ext hxq).at_ (k := j) (by rw [List.length_map]; omega)
                rw [List.getElem_map] at hcb hcq
                subst hA hB
                simp only [encT] at hcb hcq
                generalize qb[j] = x at *
                generalize hpj : pb[j]'(by omega) = y at *
                have dxy : ((x == y) : Bool) = (x == y) := rfl
                clear heq hpj dxy
                go_wp2
                go_region
                go_wp2
                go_roundw
                case rel => exact ⟨j + 1, _, by omega, by go_num, rfl, Lib.hid HTS.out.symm, by exact hxr.drewN _, by exact hxq.drewN _⟩
                case measure => simp [intOf]; omega
            · obtain rfl : j = qb.length := by omega
              have hsb : sb = decide (qb = pb) := by
                have := HSB.out
                rw [List.take_length, hql, List.take_length] at this
                exact this
              clear hj hjl HSB
              cases sb
              · have HN2 := Lib.hid (HNX.out (fun h => by have h1 : qb = pb := congrArg Prod.fst h; rw [h1] at hsb; simp at hsb))
                clear hsb
                go_wp2
                go_roundw
                case rel => exact ⟨m + 1, by omega, by omega, by go_num, HN2, hxr⟩
                case measure => simp [intOf]; omega
              · have HRS := Lib.hid (HHT.out (by rw [show qb = pb by simpa using hsb.symm]))
                clear hsb
                go_wp2
                go_ret
                exact ⟨ret_int HRS.out.symm, hxr⟩
        · have dl : ((qb.length : Int) == (pb.length : Int)) = false := by rw [beq_eq_false_iff_ne]; omega
          have HN2 := Lib.hid (HNX.out (fun h => hql (congrArg (fun z => z.1.length) h)))
          clear hql
          go_wp2_with fail
          refine (HPT.out _).mono ?_
          rintro e w2 ⟨qv, rfl, hqs, hx2⟩
          dsimp only at hqs
          obtain ⟨a2, c2, rfl⟩ := hqs.1.form
          rw [List.length_map] at hqs ⊢
          have hxw2 := hxr.trans hx2
          clear hqs hx2 hxr
          go_wp2
          go_loopw [9, 8] (fun i s wr => i = .int .i64 0 ∧ s = .bool false ∧ Ext w wr) (fun _ _ _ => 0)
          case atStart => exact ⟨rfl, rfl, hxw2⟩
          case round =>
            clear hxw2
            obtain ⟨rfl, rfl, hxr⟩ := hrel
            go_wp2
            all_goals
              go_roundw
              case rel => exact ⟨m + 1, by omega, by omega, by go_num, HN2, hxr⟩
              case measure => simp [intOf]; omega
      · have dq : (qe == 0) = false := by rw [beq_eq_false_iff_ne]; exact hqe
        have HN2 := Lib.hid (HNX.out (fun h => hqe (congrArg Prod.snd h)))
        clear hqe
        go_wp2_with fail
        refine (HPT.out _).mono ?_
        rintro e w2 ⟨qv, rfl, hqs, hx2⟩
        dsimp only at hqs
        obtain ⟨a2, c2, rfl⟩ := hqs.1.form
        rw [List.length_map] at hqs ⊢
        have hxw2 := hxr.trans hx2
        clear hqs hx2 hxr
        go_wp2
        go_loopw [9, 8] (fun i s wr => i = .int .i64 0 ∧ s = .bool false ∧ Ext w wr) (fun _ _ _ => 0)
        case atStart => exact ⟨rfl, rfl, hxw2⟩
        case round =>
          clear hxw2
          obtain ⟨rfl, rfl, hxr⟩ := hrel
          go_wp2
          all_goals
            go_roundw
            case rel => exact ⟨m + 1, by omega, by omega, by go_num, HN2, hxr⟩
            case measure => simp [intOf]; omega
    · obtain rfl : m = 127 := by omega
      have HZ : Hid (res.1 = 0) := Lib.hid (HNON.out HB.out)
      clear hm1 hm2 hlt
      go_wp2
      go_ret
      exact ⟨by rw [HZ.out]; rfl, hxr⟩
end Go.Proofs.YthjlnpcaclfopaaGreat
