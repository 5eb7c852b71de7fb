/-
  Chapter 12: reading separated characters, walked.
  Condition: the number of elements is that of at least two characters.
-/
import Derived.Test.YthjlnpcaclfopaaGreatTwWa
import Derived.Test.YthjlnpcaclfopaaGreatTwP
import Derived.Test.YthjlnpcaclfopaaGreatSl
import Derived.Outline
namespace Go.Proofs.YthjlnpcaclfopaaGreat
open Go.RowKit

theorem range_snoc {α : Type} (f : Nat → α) (j : Nat) : (List.range (j + 1)).map f = (List.range j).map f ++ [f j] := by
  rw [List.range_succ, List.map_append]; rfl
theorem rd_cut (cs ps : List UInt8) (z : Nat) (e : ByteArray) (i : Nat) : Tw.rdAt cs ps z e.data.toList i = Tw.chr cs ps z (e.extract (i * (z + 1)) (i * (z + 1) + z)).data.toList := by
  unfold Tw.rdAt; rw [cut_mid, Nat.add_sub_cancel_left]
theorem getD_at (s : ByteArray) (k : Nat) (h : k < s.size) : s.data.toList.getD k 0 = s[k] := by
  rw [List.getD_eq_getElem?_getD, List.getElem?_eq_getElem (by rw [len_data]; exact h)]; rfl
theorem index_of (s : ByteArray) (c : UInt8) (w : World) :
    Calls Tryz.prog 33 #[.string s, .int .u8 (c.toNat : Int)] w fun e w' => e = .returned (.int .i64 (Lib.indexByte s.data.toList c)) ∧ w = w' := by
  have := index_any s (c.toNat : Int) w
  rw [byte_num] at this; exact this

set_option maxRecDepth 100000 in
set_option maxHeartbeats 4000000 in
theorem read_7 (cs ps : ByteArray) (bc bp bz ba be bi bl bm : Nat) (edge inner : ByteArray) (least most : Nat) (e : ByteArray) (n : Nat) (w : World) (hS : SpacedAt w 7 bc bp bz ba be bi bl bm edge inner least most) (hA : AlphAt w bc bp bz cs ps 7) (hps : ps.size = cs.size * 7) (hcs : cs.size ≤ 100) (hs : e.size ≤ 1000000)
    (hn : e.size + 1 = n * 8) (hn2 : 2 ≤ n) :
    Calls Tryz.prog 70 #[.string e, .pointer (some ⟨ba, 0, none⟩), .pointer (some ⟨be, 0, none⟩), .pointer (some ⟨bi, 0, none⟩)] w
      fun en w' => en = .returned (.tuple #[strV (Tw.read cs.data.toList ps.data.toList edge.data.toList inner.data.toList 7 e.data.toList).1, .int .i64 (Tw.read cs.data.toList ps.data.toList edge.data.toList inner.data.toList 7 e.data.toList).2]) ∧ Ext w w' := by
  have hnn : n = (e.data.toList.length + 1) / (7 + 1) := by rw [len_data]; omega
  have HRA := Lib.hid (fun j => Tw.read_at cs.data.toList ps.data.toList edge.data.toList inner.data.toList 7 e.data.toList n j hnn)
  have HRB := Lib.hid (Tw.read_all cs.data.toList ps.data.toList edge.data.toList inner.data.toList 7 e.data.toList n hnn)
  have HER := Lib.hid (fun j => Tw.rdErr.eq_1 cs.data.toList ps.data.toList edge.data.toList inner.data.toList 7 e.data.toList n j)
  generalize Tw.read cs.data.toList ps.data.toList edge.data.toList inner.data.toList 7 e.data.toList = res at *
  have HP : Hid (∀ w', Ext w w' → ∀ p : ByteArray, Calls Tryz.prog 72 #[.string p, .pointer (some ⟨bc, 0, none⟩), .pointer (some ⟨bp, 0, none⟩), .pointer (some ⟨bz, 0, none⟩)] w'
      fun e w'' => e = .returned (.tuple #[.int .u8 ((Tw.chr cs.data.toList ps.data.toList 7 p.data.toList).1.toNat : Int), .bool (Tw.chr cs.data.toList ps.data.toList 7 p.data.toList).2]) ∧ w' = w'') :=
    Lib.hid fun w' hx p => char_any cs ps 7 p bc bp bz w' (hA.ext hx) (by omega) hps hcs
  have HCUT := Lib.hid (fun j => rd_cut cs.data.toList ps.data.toList 7 e j)
  generalize Tw.rdErr cs.data.toList ps.data.toList edge.data.toList inner.data.toList 7 e.data.toList n = er at *
  have HS := Lib.hid hS
  clear hS hA hnn hps
  have hsz := (HS.out).a0
  have hn3 : n ≤ 200000 := by omega
  have hna : e.size + 1 ≤ n * 8 := by omega
  have hnb : n * 8 ≤ e.size + 1 := by omega
  have hdv : ((e.size : Int) + 1) / 8 = (n : Int) := by omega
  clear hn
  go_enter Tryz.func70, Tryz.ntmps70
  go_wp2
  rw [hdv]
  clear hdv hsz
  go_loopw [21, 7] (fun i c wr => ∃ j : Nat, j ≤ n ∧ i = .int .i64 (j : Int) ∧ Own 5 wr w.heap.size c (((List.range j).map fun k => (Tw.rdAt cs.data.toList ps.data.toList 7 e.data.toList k).1).map encB) ∧ Hid (∀ m, m < j → er m = 0) ∧ Ext w wr) (fun i _ _ => n - (intOf i).toNat)
  case atStart => exact ⟨0, Nat.zero_le _, rfl, Own.nil _ _ _, Lib.hid (fun m hm => absurd hm (Nat.not_lt_zero _)), Ext.refl _⟩
  case round =>
    obtain ⟨j, hj, rfl, hown, HB, hxr⟩ := hrel
    by_cases hlt : j < n
    · have hz0 := (HS.out.ext hxr).a0
      have HR1 := Lib.hid (HRA.out j hlt)
      have HE := Lib.hid (HER.out j)
      have HBN : er j = 0 → Hid (∀ m, m < j + 1 → er m = 0) := fun h => Lib.hid (fun m hm => by
        rcases Nat.lt_or_eq_of_le (Nat.le_of_lt_succ hm) with h1 | rfl
        · exact HB.out m h1
        · exact h)
      have HRN := Lib.hid HBN
      clear HBN
      have HQ := Lib.hid (fun (x : Ahead wr) => HP.out x.at' (hxr.trans x.ext) (e.extract (j * 8) (j * 8 + 7)))
      have HSN : Hid ((List.range (j + 1)).map (fun k => (Tw.rdAt cs.data.toList ps.data.toList 7 e.data.toList k).1) = (List.range j).map (fun k => (Tw.rdAt cs.data.toList ps.data.toList 7 e.data.toList k).1) ++ [(Tw.rdAt cs.data.toList ps.data.toList 7 e.data.toList j).1]) := Lib.hid (range_snoc _ j)
      rw [← HCUT.out j] at HQ
      generalize Tw.rdAt cs.data.toList ps.data.toList 7 e.data.toList j = r at *
      have hgl : ((List.range j).map (fun k => (Tw.rdAt cs.data.toList ps.data.toList 7 e.data.toList k).1)).length ≤ j := by simp
      generalize (List.range j).map (fun k => (Tw.rdAt cs.data.toList ps.data.toList 7 e.data.toList k).1) = got at *
      obtain ⟨c, ok⟩ := r
      have hz2 : ∀ x : Ahead wr, x.at'.cell? ⟨ba, 2, none⟩ = _ := fun x => (HS.out.ext (hxr.trans x.ext)).a2
      have hz3 : ∀ x : Ahead wr, x.at'.cell? ⟨ba, 0, none⟩ = _ := fun x => (HS.out.ext (hxr.trans x.ext)).a0
      by_cases hj0 : j = 0
      · have HJ0 := Lib.hid hj0
        have d1 : decide ((0 : Int) < (j : Int)) = false := by simp; omega
        have d2 : ((j : Int) == 0) = true := by simp; omega
        have d3 : ((j : Int) == (n : Int) - 1) = false := by rw [beq_eq_false_iff_ne]; omega
        clear hj0
        go_wp2
        refine wp_region_quiet (C := fun w' => ∃ x : Ahead wr, w' = x.at') (by kernel_rfl) (by kernel_rfl) (Ahead.drawn _) ?_
        try dsimp only
        repeat (first | go_big_quiet_step ((go_at_call 72; exact ahead_of ((HQ.out _).mono fun _ _ h => ⟨h.1, h.2 ▸ Ext.refl _⟩))) | quiet_step ((go_at_call 72; exact ahead_of ((HQ.out _).mono fun _ _ h => ⟨h.1, h.2 ▸ Ext.refl _⟩))))
        refine wpQuiet_nil ?_
        intro _ hx0
        obtain ⟨x0, hx0⟩ := hx0
        subst hx0
        obtain ⟨w3, hx3⟩ := x0
        try dsimp only
        have he3 := (HS.out.ext (hxr.trans hx3)).e
        have hi3 := (HS.out.ext (hxr.trans hx3)).i
        replace hown := hown.ext hx3
        replace hx3 := hxr.trans hx3
        clear hz2 hz3
        cases ok
        · have h1 : er j = 19 := by rw [HE.out, if_neg (by have := HJ0.out; omega), if_pos ⟨HJ0.out, rfl⟩]
          have HR := Lib.hid (HR1.out (by rw [h1]; decide) HB.out)
          rw [h1] at HR
          clear h1
          go_wp2
          go_ret2
          exact ⟨by rw [HR.out]; rfl, hx3⟩
        · have HI := Lib.hid (index_of edge c)
          by_cases hx : Lib.indexByte edge.data.toList c < 0
          · have hin : Tw.isIn edge.data.toList (c, true) = false := by simp [Tw.isIn]; omega
            have h1 : er j = 19 := by rw [HE.out, if_neg (by have := HJ0.out; omega), if_pos ⟨HJ0.out, hin⟩]
            have HR := Lib.hid (HR1.out (by rw [h1]; decide) HB.out)
            rw [h1] at HR
            clear h1 hin
            generalize Lib.indexByte edge.data.toList c = x at *
            go_wp2_with fail
            refine (HI.out _).mono ?_
            rintro en w4 ⟨rfl, rfl⟩
            go_wp2
            go_ret2
            exact ⟨by rw [HR.out]; rfl, hx3⟩
          · have hin : Tw.isIn edge.data.toList (c, true) = true := by simp [Tw.isIn]; omega
            have h1 : er j = 0 := by rw [HE.out, if_neg (by have := HJ0.out; omega), if_neg (by rw [hin]; simp), if_neg (by rw [hin]; simp), if_neg (by have := HJ0.out; omega)]
            have HN := HRN.out h1
            clear h1 hin
            generalize Lib.indexByte edge.data.toList c = x at *
            have hxx : decide (x < 0) = false := by simpa using hx
            go_wp2_with fail
            refine (HI.out _).mono ?_
            rintro en w4 ⟨rfl, rfl⟩
            go_wp2_with (at_builtin; refine append_byte rfl _ _ rfl w.heap.size _ got rfl (hown.alloc _) _ c rfl ?c1 ?c2 ?c3 ?_)
            case c1 => simp [go_sem, encB]
            case c2 => omega
            case c3 => have := hx3.size; simp; omega
            intro v' w5 hown5 hg5
            have hx5 := (hx3.alloc _).ofGrown hg5 hown.low
            go_wp2
            go_roundw
            case rel => exact ⟨j + 1, by omega, by go_num, by rw [HSN.out, List.map_append]; exact hown5, HN, hx5⟩
            case measure => simp [intOf]; omega
      · have d1 : decide ((0 : Int) < (j : Int)) = true := by simp; omega
        have d2 : ((j : Int) == 0) = false := by rw [beq_eq_false_iff_ne]; omega
        obtain ⟨k, hk, hke, hkj⟩ : ∃ k : Nat, (j : Int) * 8 - 1 = (k : Int) ∧ k < e.size ∧ k = j * 8 - 1 := ⟨j * 8 - 1, by omega, by omega, rfl⟩
        have hgd : e.data.toList.getD (j * (7 + 1) - 1) 0 = e[k] := by rw [← getD_at e k hke, hkj]
        rw [hgd] at HE
        clear hgd hkj
        by_cases h119 : e[k] = 119
        · have h1 : er j = 18 := by rw [HE.out, if_pos ⟨by omega, h119⟩]
          have HR := Lib.hid (HR1.out (by rw [h1]; decide) HB.out)
          rw [h1] at HR
          have d4 : ((e[k].toNat : Int) == 119) = true := by rw [h119]; rfl
          clear h1 h119 hz2 hz3
          go_wp2
          go_ret2
          exact ⟨by rw [HR.out]; rfl, hxr⟩
        · have d4 : ((e[k].toNat : Int) == 119) = false := by
            rw [beq_eq_false_iff_ne]
            intro h
            exact h119 (UInt8.toNat_inj.1 (by have : (119 : UInt8).toNat = 119 := rfl; omega))
          have hn119 : ¬ (0 < j ∧ e[k] = 119) := fun h => h119 h.2
          have HN9 := Lib.hid hn119
          clear h119 hn119
          go_wp2
          refine wp_region_quiet (C := fun w' => ∃ x : Ahead wr, w' = x.at') (by kernel_rfl) (by kernel_rfl) (Ahead.drawn _) ?_
          try dsimp only
          repeat (first | go_big_quiet_step ((go_at_call 72; exact ahead_of ((HQ.out _).mono fun _ _ h => ⟨h.1, h.2 ▸ Ext.refl _⟩))) | quiet_step ((go_at_call 72; exact ahead_of ((HQ.out _).mono fun _ _ h => ⟨h.1, h.2 ▸ Ext.refl _⟩))))
          refine wpQuiet_nil ?_
          intro _ hx0
          obtain ⟨x0, hx0⟩ := hx0
          subst hx0
          obtain ⟨w3, hx3⟩ := x0
          try dsimp only
          have he3 := (HS.out.ext (hxr.trans hx3)).e
          have hi3 := (HS.out.ext (hxr.trans hx3)).i
          replace hown := hown.ext hx3
          replace hx3 := hxr.trans hx3
          clear hz2 hz3
          clear d4 hk
          by_cases hjn : j + 1 = n
          · have d3 : ((j : Int) == (n : Int) - 1) = true := by rw [beq_iff_eq]; omega
            have d5 : decide ((j : Int) < (n : Int) - 1) = false := by simp; omega
            have HJN := Lib.hid hjn
            clear hjn
            cases ok
            · have h1 : er j = 20 := by rw [HE.out, if_neg HN9.out, if_neg (fun h => hj0 h.1), if_pos ⟨HJN.out, rfl⟩]
              have HR := Lib.hid (HR1.out (by rw [h1]; decide) HB.out)
              rw [h1] at HR
              clear h1
              go_wp2
              go_ret2
              exact ⟨by rw [HR.out]; rfl, hx3⟩
            · have HI := Lib.hid (index_of edge c)
              by_cases hx : Lib.indexByte edge.data.toList c < 0
              · have hin : Tw.isIn edge.data.toList (c, true) = false := by simp [Tw.isIn]; omega
                have h1 : er j = 20 := by rw [HE.out, if_neg HN9.out, if_neg (fun h => hj0 h.1), if_pos ⟨HJN.out, hin⟩]
                have HR := Lib.hid (HR1.out (by rw [h1]; decide) HB.out)
                rw [h1] at HR
                clear h1 hin
                generalize Lib.indexByte edge.data.toList c = x at *
                go_wp2_with fail
                refine (HI.out _).mono ?_
                rintro en w4 ⟨rfl, rfl⟩
                go_wp2
                go_ret2
                exact ⟨by rw [HR.out]; rfl, hx3⟩
              · have hin : Tw.isIn edge.data.toList (c, true) = true := by simp [Tw.isIn]; omega
                have h1 : er j = 0 := by rw [HE.out, if_neg HN9.out, if_neg (fun h => hj0 h.1), if_neg (by rw [hin]; simp), if_neg (by have := HJN.out; omega)]
                have HN := HRN.out h1
                clear h1 hin
                generalize Lib.indexByte edge.data.toList c = x at *
                have hxx : decide (x < 0) = false := by simpa using hx
                go_wp2_with fail
                refine (HI.out _).mono ?_
                rintro en w4 ⟨rfl, rfl⟩
                go_wp2_with (at_builtin; refine append_byte rfl _ _ rfl w.heap.size _ got rfl (hown.alloc _) _ c rfl ?c1 ?c2 ?c3 ?_)
                case c1 => simp [go_sem, encB]
                case c2 => omega
                case c3 => have := hx3.size; simp; omega
                intro v' w5 hown5 hg5
                have hx5 := (hx3.alloc _).ofGrown hg5 hown.low
                go_wp2
                go_roundw
                case rel => exact ⟨j + 1, by omega, by go_num, by rw [HSN.out, List.map_append]; exact hown5, HN, hx5⟩
                case measure => simp [intOf]; omega
          · have d3 : ((j : Int) == (n : Int) - 1) = false := by rw [beq_eq_false_iff_ne]; omega
            have d5 : decide ((j : Int) < (n : Int) - 1) = true := by simp; omega
            cases ok
            · have h1 : er j = 18 := by rw [HE.out, if_neg HN9.out, if_neg (fun h => hj0 h.1), if_neg (fun h => hjn h.1), if_pos ⟨by omega, by omega, rfl⟩]
              have HR := Lib.hid (HR1.out (by rw [h1]; decide) HB.out)
              rw [h1] at HR
              clear h1
              go_wp2
              go_ret2
              exact ⟨by rw [HR.out]; rfl, hx3⟩
            · have HI := Lib.hid (index_of inner c)
              by_cases hx : Lib.indexByte inner.data.toList c < 0
              · have hin : Tw.isIn inner.data.toList (c, true) = false := by simp [Tw.isIn]; omega
                have h1 : er j = 18 := by rw [HE.out, if_neg HN9.out, if_neg (fun h => hj0 h.1), if_neg (fun h => hjn h.1), if_pos ⟨by omega, by omega, hin⟩]
                have HR := Lib.hid (HR1.out (by rw [h1]; decide) HB.out)
                rw [h1] at HR
                clear h1 hin
                generalize Lib.indexByte inner.data.toList c = x at *
                go_wp2_with fail
                refine (HI.out _).mono ?_
                rintro en w4 ⟨rfl, rfl⟩
                go_wp2
                go_ret2
                exact ⟨by rw [HR.out]; rfl, hx3⟩
              · have hin : Tw.isIn inner.data.toList (c, true) = true := by simp [Tw.isIn]; omega
                have h1 : er j = 0 := by rw [HE.out, if_neg HN9.out, if_neg (fun h => hj0 h.1), if_neg (fun h => hjn h.1), if_neg (by rw [hin]; simp)]
                have HN := HRN.out h1
                clear h1 hin
                generalize Lib.indexByte inner.data.toList c = x at *
                have hxx : decide (x < 0) = false := by simpa using hx
                go_wp2_with fail
                refine (HI.out _).mono ?_
                rintro en w4 ⟨rfl, rfl⟩
                go_wp2_with (at_builtin; refine append_byte rfl _ _ rfl w.heap.size _ got rfl (hown.alloc _) _ c rfl ?c1 ?c2 ?c3 ?_)
                case c1 => simp [go_sem, encB]
                case c2 => omega
                case c3 => have := hx3.size; simp; omega
                intro v' w5 hown5 hg5
                have hx5 := (hx3.alloc _).ofGrown hg5 hown.low
                go_wp2
                go_roundw
                case rel => exact ⟨j + 1, by omega, by go_num, by rw [HSN.out, List.map_append]; exact hown5, HN, hx5⟩
                case measure => simp [intOf]; omega
    · obtain rfl : j = n := by omega
      have HR := Lib.hid (HRB.out HB.out)
      have hcv := run_convert_sl hown.sl
      clear hj hlt
      go_wp2
      go_ret2
      exact ⟨by rw [HR.out]; rfl, hxr⟩
set_option maxRecDepth 100000 in
set_option maxHeartbeats 4000000 in
theorem read_9 (cs ps : ByteArray) (bc bp bz ba be bi bl bm : Nat) (edge inner : ByteArray) (least most : Nat) (e : ByteArray) (n : Nat) (w : World) (hS : SpacedAt w 9 bc bp bz ba be bi bl bm edge inner least most) (hA : AlphAt w bc bp bz cs ps 9) (hps : ps.size = cs.size * 9) (hcs : cs.size ≤ 100) (hs : e.size ≤ 1000000)
    (hn : e.size + 1 = n * 10) (hn2 : 2 ≤ n) :
    Calls Tryz.prog 70 #[.string e, .pointer (some ⟨ba, 0, none⟩), .pointer (some ⟨be, 0, none⟩), .pointer (some ⟨bi, 0, none⟩)] w
      fun en w' => en = .returned (.tuple #[strV (Tw.read cs.data.toList ps.data.toList edge.data.toList inner.data.toList 9 e.data.toList).1, .int .i64 (Tw.read cs.data.toList ps.data.toList edge.data.toList inner.data.toList 9 e.data.toList).2]) ∧ Ext w w' := by
  have hnn : n = (e.data.toList.length + 1) / (9 + 1) := by rw [len_data]; omega
  have HRA := Lib.hid (fun j => Tw.read_at cs.data.toList ps.data.toList edge.data.toList inner.data.toList 9 e.data.toList n j hnn)
  have HRB := Lib.hid (Tw.read_all cs.data.toList ps.data.toList edge.data.toList inner.data.toList 9 e.data.toList n hnn)
  have HER := Lib.hid (fun j => Tw.rdErr.eq_1 cs.data.toList ps.data.toList edge.data.toList inner.data.toList 9 e.data.toList n j)
  generalize Tw.read cs.data.toList ps.data.toList edge.data.toList inner.data.toList 9 e.data.toList = res at *
  have HP : Hid (∀ w', Ext w w' → ∀ p : ByteArray, Calls Tryz.prog 72 #[.string p, .pointer (some ⟨bc, 0, none⟩), .pointer (some ⟨bp, 0, none⟩), .pointer (some ⟨bz, 0, none⟩)] w'
      fun e w'' => e = .returned (.tuple #[.int .u8 ((Tw.chr cs.data.toList ps.data.toList 9 p.data.toList).1.toNat : Int), .bool (Tw.chr cs.data.toList ps.data.toList 9 p.data.toList).2]) ∧ w' = w'') :=
    Lib.hid fun w' hx p => char_any cs ps 9 p bc bp bz w' (hA.ext hx) (by omega) hps hcs
  have HCUT := Lib.hid (fun j => rd_cut cs.data.toList ps.data.toList 9 e j)
  generalize Tw.rdErr cs.data.toList ps.data.toList edge.data.toList inner.data.toList 9 e.data.toList n = er at *
  have HS := Lib.hid hS
  clear hS hA hnn hps
  have hsz := (HS.out).a0
  have hn3 : n ≤ 200000 := by omega
  have hna : e.size + 1 ≤ n * 10 := by omega
  have hnb : n * 10 ≤ e.size + 1 := by omega
  have hdv : ((e.size : Int) + 1) / 10 = (n : Int) := by omega
  clear hn
  go_enter Tryz.func70, Tryz.ntmps70
  go_wp2
  rw [hdv]
  clear hdv hsz
  go_loopw [21, 7] (fun i c wr => ∃ j : Nat, j ≤ n ∧ i = .int .i64 (j : Int) ∧ Own 5 wr w.heap.size c (((List.range j).map fun k => (Tw.rdAt cs.data.toList ps.data.toList 9 e.data.toList k).1).map encB) ∧ Hid (∀ m, m < j → er m = 0) ∧ Ext w wr) (fun i _ _ => n - (intOf i).toNat)
  case atStart => exact ⟨0, Nat.zero_le _, rfl, Own.nil _ _ _, Lib.hid (fun m hm => absurd hm (Nat.not_lt_zero _)), Ext.refl _⟩
  case round =>
    obtain ⟨j, hj, rfl, hown, HB, hxr⟩ := hrel
    by_cases hlt : j < n
    · have hz0 := (HS.out.ext hxr).a0
      have HR1 := Lib.hid (HRA.out j hlt)
      have HE := Lib.hid (HER.out j)
      have HBN : er j = 0 → Hid (∀ m, m < j + 1 → er m = 0) := fun h => Lib.hid (fun m hm => by
        rcases Nat.lt_or_eq_of_le (Nat.le_of_lt_succ hm) with h1 | rfl
        · exact HB.out m h1
        · exact h)
      have HRN := Lib.hid HBN
      clear HBN
      have HQ := Lib.hid (fun (x : Ahead wr) => HP.out x.at' (hxr.trans x.ext) (e.extract (j * 10) (j * 10 + 9)))
      have HSN : Hid ((List.range (j + 1)).map (fun k => (Tw.rdAt cs.data.toList ps.data.toList 9 e.data.toList k).1) = (List.range j).map (fun k => (Tw.rdAt cs.data.toList ps.data.toList 9 e.data.toList k).1) ++ [(Tw.rdAt cs.data.toList ps.data.toList 9 e.data.toList j).1]) := Lib.hid (range_snoc _ j)
      rw [← HCUT.out j] at HQ
      generalize Tw.rdAt cs.data.toList ps.data.toList 9 e.data.toList j = r at *
      have hgl : ((List.range j).map (fun k => (Tw.rdAt cs.data.toList ps.data.toList 9 e.data.toList k).1)).length ≤ j := by simp
      generalize (List.range j).map (fun k => (Tw.rdAt cs.data.toList ps.data.toList 9 e.data.toList k).1) = got at *
      obtain ⟨c, ok⟩ := r
      have hz2 : ∀ x : Ahead wr, x.at'.cell? ⟨ba, 2, none⟩ = _ := fun x => (HS.out.ext (hxr.trans x.ext)).a2
      have hz3 : ∀ x : Ahead wr, x.at'.cell? ⟨ba, 0, none⟩ = _ := fun x => (HS.out.ext (hxr.trans x.ext)).a0
      by_cases hj0 : j = 0
      · have HJ0 := Lib.hid hj0
        have d1 : decide ((0 : Int) < (j : Int)) = false := by simp; omega
        have d2 : ((j : Int) == 0) = true := by simp; omega
        have d3 : ((j : Int) == (n : Int) - 1) = false := by rw [beq_eq_false_iff_ne]; omega
        clear hj0
        go_wp2
        refine wp_region_quiet (C := fun w' => ∃ x : Ahead wr, w' = x.at') (by kernel_rfl) (by kernel_rfl) (Ahead.drawn _) ?_
        try dsimp only
        repeat (first | go_big_quiet_step ((go_at_call 72; exact ahead_of ((HQ.out _).mono fun _ _ h => ⟨h.1, h.2 ▸ Ext.refl _⟩))) | quiet_step ((go_at_call 72; exact ahead_of ((HQ.out _).mono fun _ _ h => ⟨h.1, h.2 ▸ Ext.refl _⟩))))
        refine wpQuiet_nil ?_
        intro _ hx0
        obtain ⟨x0, hx0⟩ := hx0
        subst hx0
        obtain ⟨w3, hx3⟩ := x0
        try dsimp only
        have he3 := (HS.out.ext (hxr.trans hx3)).e
        have hi3 := (HS.out.ext (hxr.trans hx3)).i
        replace hown := hown.ext hx3
        replace hx3 := hxr.trans hx3
        clear hz2 hz3
        cases ok
        · have h1 : er j = 19 := by rw [HE.out, if_neg (by have := HJ0.out; omega), if_pos ⟨HJ0.out, rfl⟩]
          have HR := Lib.hid (HR1.out (by rw [h1]; decide) HB.out)
          rw [h1] at HR
          clear h1
          go_wp2
          go_ret2
          exact ⟨by rw [HR.out]; rfl, hx3⟩
        · have HI := Lib.hid (index_of edge c)
          by_cases hx : Lib.indexByte edge.data.toList c < 0
          · have hin : Tw.isIn edge.data.toList (c, true) = false := by simp [Tw.isIn]; omega
            have h1 : er j = 19 := by rw [HE.out, if_neg (by have := HJ0.out; omega), if_pos ⟨HJ0.out, hin⟩]
            have HR := Lib.hid (HR1.out (by rw [h1]; decide) HB.out)
            rw [h1] at HR
            clear h1 hin
            generalize Lib.indexByte edge.data.toList c = x at *
            go_wp2_with fail
            refine (HI.out _).mono ?_
            rintro en w4 ⟨rfl, rfl⟩
            go_wp2
            go_ret2
            exact ⟨by rw [HR.out]; rfl, hx3⟩
          · have hin : Tw.isIn edge.data.toList (c, true) = true := by simp [Tw.isIn]; omega
            have h1 : er j = 0 := by rw [HE.out, if_neg (by have := HJ0.out; omega), if_neg (by rw [hin]; simp), if_neg (by rw [hin]; simp), if_neg (by have := HJ0.out; omega)]
            have HN := HRN.out h1
            clear h1 hin
            generalize Lib.indexByte edge.data.toList c = x at *
            have hxx : decide (x < 0) = false := by simpa using hx
            go_wp2_with fail
            refine (HI.out _).mono ?_
            rintro en w4 ⟨rfl, rfl⟩
            go_wp2_with (at_builtin; refine append_byte rfl _ _ rfl w.heap.size _ got rfl (hown.alloc _) _ c rfl ?c1 ?c2 ?c3 ?_)
            case c1 => simp [go_sem, encB]
            case c2 => omega
            case c3 => have := hx3.size; simp; omega
            intro v' w5 hown5 hg5
            have hx5 := (hx3.alloc _).ofGrown hg5 hown.low
            go_wp2
            go_roundw
            case rel => exact ⟨j + 1, by omega, by go_num, by rw [HSN.out, List.map_append]; exact hown5, HN, hx5⟩
            case measure => simp [intOf]; omega
      · have d1 : decide ((0 : Int) < (j : Int)) = true := by simp; omega
        have d2 : ((j : Int) == 0) = false := by rw [beq_eq_false_iff_ne]; omega
        obtain ⟨k, hk, hke, hkj⟩ : ∃ k : Nat, (j : Int) * 10 - 1 = (k : Int) ∧ k < e.size ∧ k = j * 10 - 1 := ⟨j * 10 - 1, by omega, by omega, rfl⟩
        have hgd : e.data.toList.getD (j * (9 + 1) - 1) 0 = e[k] := by rw [← getD_at e k hke, hkj]
        rw [hgd] at HE
        clear hgd hkj
        by_cases h119 : e[k] = 119
        · have h1 : er j = 18 := by rw [HE.out, if_pos ⟨by omega, h119⟩]
          have HR := Lib.hid (HR1.out (by rw [h1]; decide) HB.out)
          rw [h1] at HR
          have d4 : ((e[k].toNat : Int) == 119) = true := by rw [h119]; rfl
          clear h1 h119 hz2 hz3
          go_wp2
          go_ret2
          exact ⟨by rw [HR.out]; rfl, hxr⟩
        · have d4 : ((e[k].toNat : Int) == 119) = false := by
            rw [beq_eq_false_iff_ne]
            intro h
            exact h119 (UInt8.toNat_inj.1 (by have : (119 : UInt8).toNat = 119 := rfl; omega))
          have hn119 : ¬ (0 < j ∧ e[k] = 119) := fun h => h119 h.2
          have HN9 := Lib.hid hn119
          clear h119 hn119
          go_wp2
          refine wp_region_quiet (C := fun w' => ∃ x : Ahead wr, w' = x.at') (by kernel_rfl) (by kernel_rfl) (Ahead.drawn _) ?_
          try dsimp only
          repeat (first | go_big_quiet_step ((go_at_call 72; exact ahead_of ((HQ.out _).mono fun _ _ h => ⟨h.1, h.2 ▸ Ext.refl _⟩))) | quiet_step ((go_at_call 72; exact ahead_of ((HQ.out _).mono fun _ _ h => ⟨h.1, h.2 ▸ Ext.refl _⟩))))
          refine wpQuiet_nil ?_
          intro _ hx0
          obtain ⟨x0, hx0⟩ := hx0
          subst hx0
          obtain ⟨w3, hx3⟩ := x0
          try dsimp only
          have he3 := (HS.out.ext (hxr.trans hx3)).e
          have hi3 := (HS.out.ext (hxr.trans hx3)).i
          replace hown := hown.ext hx3
          replace hx3 := hxr.trans hx3
          clear hz2 hz3
          clear d4 hk
          by_cases hjn : j + 1 = n
          · have d3 : ((j : Int) == (n : Int) - 1) = true := by rw [beq_iff_eq]; omega
            have d5 : decide ((j : Int) < (n : Int) - 1) = false := by simp; omega
            have HJN := Lib.hid hjn
            clear hjn
            cases ok
            · have h1 : er j = 20 := by rw [HE.out, if_neg HN9.out, if_neg (fun h => hj0 h.1), if_pos ⟨HJN.out, rfl⟩]
              have HR := Lib.hid (HR1.out (by rw [h1]; decide) HB.out)
              rw [h1] at HR
              clear h1
              go_wp2
              go_ret2
              exact ⟨by rw [HR.out]; rfl, hx3⟩
            · have HI := Lib.hid (index_of edge c)
              by_cases hx : Lib.indexByte edge.data.toList c < 0
              · have hin : Tw.isIn edge.data.toList (c, true) = false := by simp [Tw.isIn]; omega
                have h1 : er j = 20 := by rw [HE.out, if_neg HN9.out, if_neg (fun h => hj0 h.1), if_pos ⟨HJN.out, hin⟩]
                have HR := Lib.hid (HR1.out (by rw [h1]; decide) HB.out)
                rw [h1] at HR
                clear h1 hin
                generalize Lib.indexByte edge.data.toList c = x at *
                go_wp2_with fail
                refine (HI.out _).mono ?_
                rintro en w4 ⟨rfl, rfl⟩
                go_wp2
                go_ret2
                exact ⟨by rw [HR.out]; rfl, hx3⟩
              · have hin : Tw.isIn edge.data.toList (c, true) = true := by simp [Tw.isIn]; omega
                have h1 : er j = 0 := by rw [HE.out, if_neg HN9.out, if_neg (fun h => hj0 h.1), if_neg (by rw [hin]; simp), if_neg (by have := HJN.out; omega)]
                have HN := HRN.out h1
                clear h1 hin
                generalize Lib.indexByte edge.data.toList c = x at *
                have hxx : decide (x < 0) = false := by simpa using hx
                go_wp2_with fail
                refine (HI.out _).mono ?_
                rintro en w4 ⟨rfl, rfl⟩
                go_wp2_with (at_builtin; refine append_byte rfl _ _ rfl w.heap.size _ got rfl (hown.alloc _) _ c rfl ?c1 ?c2 ?c3 ?_)
                case c1 => simp [go_sem, encB]
                case c2 => omega
                case c3 => have := hx3.size; simp; omega
                intro v' w5 hown5 hg5
                have hx5 := (hx3.alloc _).ofGrown hg5 hown.low
                go_wp2
                go_roundw
                case rel => exact ⟨j + 1, by omega, by go_num, by rw [HSN.out, List.map_append]; exact hown5, HN, hx5⟩
                case measure => simp [intOf]; omega
          · have d3 : ((j : Int) == (n : Int) - 1) = false := by rw [beq_eq_false_iff_ne]; omega
            have d5 : decide ((j : Int) < (n : Int) - 1) = true := by simp; omega
            cases ok
            · have h1 : er j = 18 := by rw [HE.out, if_neg HN9.out, if_neg (fun h => hj0 h.1), if_neg (fun h => hjn h.1), if_pos ⟨by omega, by omega, rfl⟩]
              have HR := Lib.hid (HR1.out (by rw [h1]; decide) HB.out)
              rw [h1] at HR
              clear h1
              go_wp2
              go_ret2
              exact ⟨by rw [HR.out]; rfl, hx3⟩
            · have HI := Lib.hid (index_of inner c)
              by_cases hx : Lib.indexByte inner.data.toList c < 0
              · have hin : Tw.isIn inner.data.toList (c, true) = false := by simp [Tw.isIn]; omega
                have h1 : er j = 18 := by rw [HE.out, if_neg HN9.out, if_neg (fun h => hj0 h.1), if_neg (fun h => hjn h.1), if_pos ⟨by omega, by omega, hin⟩]
                have HR := Lib.hid (HR1.out (by rw [h1]; decide) HB.out)
                rw [h1] at HR
                clear h1 hin
                generalize Lib.indexByte inner.data.toList c = x at *
                go_wp2_with fail
                refine (HI.out _).mono ?_
                rintro en w4 ⟨rfl, rfl⟩
                go_wp2
                go_ret2
                exact ⟨by rw [HR.out]; rfl, hx3⟩
              · have hin : Tw.isIn inner.data.toList (c, true) = true := by simp [Tw.isIn]; omega
                have h1 : er j = 0 := by rw [HE.out, if_neg HN9.out, if_neg (fun h => hj0 h.1), if_neg (fun h => hjn h.1), if_neg (by rw [hin]; simp)]
                have HN := HRN.out h1
                clear h1 hin
                generalize Lib.indexByte inner.data.toList c = x at *
                have hxx : decide (x < 0) = false := by simpa using hx
                go_wp2_with fail
                refine (HI.out _).mono ?_
                rintro en w4 ⟨rfl, rfl⟩
                go_wp2_with (at_builtin; refine append_byte rfl _ _ rfl w.heap.size _ got rfl (hown.alloc _) _ c rfl ?c1 ?c2 ?c3 ?_)
                case c1 => simp [go_sem, encB]
                case c2 => omega
                case c3 => have := hx3.size; simp; omega
                intro v' w5 hown5 hg5
                have hx5 := (hx3.alloc _).ofGrown hg5 hown.low
                go_wp2
                go_roundw
                case rel => exact ⟨j + 1, by omega, by go_num, by rw [HSN.out, List.map_append]; exact hown5, HN, hx5⟩
                case measure => simp [intOf]; omega
    · obtain rfl : j = n := by omega
      have HR := Lib.hid (HRB.out HB.out)
      have hcv := run_convert_sl hown.sl
      clear hj hlt
      go_wp2
      go_ret2
      exact ⟨by rw [HR.out]; rfl, hxr⟩
end Go.Proofs.YthjlnpcaclfopaaGreat
