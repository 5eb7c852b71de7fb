/-
  Chapter 12: the reference's Pattern, walked; the law TwowidthPatterns.
  No condition.
-/
import Derived.Test.YthjlnpcaclfopaaGreatTwE2
import Derived.Test.YthjlnpcaclfopaaGreatPlc
import Derived.Test.YthjlnpcaclfopaaGreatSl3
namespace Go.Proofs.YthjlnpcaclfopaaGreat
open Go.RowKit

/-- The pattern number i of a string of ones and zeros. -/
def cutB (l : List UInt8) (i n : Nat) : List Bool := ((l.drop (i * n)).take n).map fun c => c == 49
theorem ib49 (c : UInt8) : (((c.toNat : Int) == 49) = (c == 49)) := by
  rw [Bool.eq_iff_iff, beq_iff_eq, beq_iff_eq]
  constructor
  · intro h; exact UInt8.toNat_inj.1 (by have : (49 : UInt8).toNat = 49 := rfl; omega)
  · intro h; rw [h]; rfl
theorem cutB_take (s : ByteArray) (i n k : Nat) (h : i * n + k < s.size) (_ : k < n) : ((s.data.toList.drop (i * n)).take (k + 1)).map (fun c => c == 49) = ((s.data.toList.drop (i * n)).take k).map (fun c => c == 49) ++ [s[i * n + k] == 49] := by
  have hl : k < (s.data.toList.drop (i * n)).length := by rw [len_drop]; omega
  rw [List.take_succ_eq_append_getElem hl, List.map_append, List.getElem_drop]
  rfl

def BitsR (l : List Bool) (w : World) (e : Ending) (w' : World) : Prop := ∃ v, e = .returned v ∧ Own 4 w' w.heap.size v (l.map encT) ∧ Ext w w'

set_option maxRecDepth 100000 in
set_option maxHeartbeats 2000000 in
theorem cut_5 (s : ByteArray) (i : Nat) (w : World) (hs : (i + 1) * 5 ≤ s.size) (hi : i ≤ 1000) :
    Calls Tryz.prog 42 #[.string s, .int .i64 (i : Int), .int .i64 5] w (BitsR (cutB s.data.toList i 5) w) := by
  have HT := Lib.hid (cutB.eq_1 s.data.toList i 5)
  generalize cutB s.data.toList i 5 = res at *
  go_enter Tryz.func42, Tryz.ntmps42
  go_wp2
  go_loopw [8, 7] (fun j c wr => ∃ k : Nat, k ≤ 5 ∧ j = .int .i64 (k : Int) ∧ Own 4 wr w.heap.size c ((((s.data.toList.drop (i * 5)).take k).map fun c => c == 49).map encT) ∧ Ext w wr) (fun j _ _ => 5 - (intOf j).toNat)
  case atStart => exact ⟨0, Nat.zero_le _, rfl, Own.nil _ _ _, Ext.refl _⟩
  case round =>
    obtain ⟨k, hk, rfl, hown, hxr⟩ := hrel
    by_cases hlt : k < 5
    · have hin : i * 5 + k < s.size := by omega
      have HTS := Lib.hid (cutB_take s i 5 k hin hlt)
      have hgl : (((s.data.toList.drop (i * 5)).take k).map fun c => c == 49).length ≤ k := by rw [List.length_map, List.length_take]; omega
      obtain ⟨q, hq⟩ : ∃ q, i * 5 + k = q := ⟨_, rfl⟩
      have hqi : (i : Int) * 5 + (k : Int) = (q : Int) := by omega
      have hqs : q < s.size := by omega
      have hsq : s[i * 5 + k] = s[q] := by congr 1
      rw [hsq] at HTS
      have d1 := ib49 s[q]
      generalize ((s.data.toList.drop (i * 5)).take k).map (fun c => c == 49) = got at *
      clear hq hsq
      go_wp2_with (at_builtin; refine append_bool rfl _ _ rfl w.heap.size _ got rfl (hown.alloc _) _ (s[q] == 49) rfl ?c1 ?c2 ?c3 ?_)
      case c1 => simp [go_sem, encT]
      case c2 => omega
      case c3 => have := hxr.size; simp; omega
      intro v' w5 hown5 hg5
      have hx5 := (hxr.alloc _).ofGrown hg5 hown.low
      clear hown hg5 hqi d1
      go_wp2
      go_roundw
      case rel => exact ⟨k + 1, by omega, by go_num, by rw [HTS.out, List.map_append]; exact hown5, hx5⟩
      case measure => simp [intOf]; omega
    · obtain rfl : k = 5 := by omega
      clear hk hlt
      go_wp2
      go_ret
      exact ⟨_, rfl, by rw [HT.out]; exact hown, hxr⟩
set_option maxRecDepth 100000 in
set_option maxHeartbeats 2000000 in
theorem cut_7 (s : ByteArray) (i : Nat) (w : World) (hs : (i + 1) * 7 ≤ s.size) (hi : i ≤ 1000) :
    Calls Tryz.prog 42 #[.string s, .int .i64 (i : Int), .int .i64 7] w (BitsR (cutB s.data.toList i 7) w) := by
  have HT := Lib.hid (cutB.eq_1 s.data.toList i 7)
  generalize cutB s.data.toList i 7 = res at *
  go_enter Tryz.func42, Tryz.ntmps42
  go_wp2
  go_loopw [8, 7] (fun j c wr => ∃ k : Nat, k ≤ 7 ∧ j = .int .i64 (k : Int) ∧ Own 4 wr w.heap.size c ((((s.data.toList.drop (i * 7)).take k).map fun c => c == 49).map encT) ∧ Ext w wr) (fun j _ _ => 7 - (intOf j).toNat)
  case atStart => exact ⟨0, Nat.zero_le _, rfl, Own.nil _ _ _, Ext.refl _⟩
  case round =>
    obtain ⟨k, hk, rfl, hown, hxr⟩ := hrel
    by_cases hlt : k < 7
    · have hin : i * 7 + k < s.size := by omega
      have HTS := Lib.hid (cutB_take s i 7 k hin hlt)
      have hgl : (((s.data.toList.drop (i * 7)).take k).map fun c => c == 49).length ≤ k := by rw [List.length_map, List.length_take]; omega
      obtain ⟨q, hq⟩ : ∃ q, i * 7 + k = q := ⟨_, rfl⟩
      have hqi : (i : Int) * 7 + (k : Int) = (q : Int) := by omega
      have hqs : q < s.size := by omega
      have hsq : s[i * 7 + k] = s[q] := by congr 1
      rw [hsq] at HTS
      have d1 := ib49 s[q]
      generalize ((s.data.toList.drop (i * 7)).take k).map (fun c => c == 49) = got at *
      clear hq hsq
      go_wp2_with (at_builtin; refine append_bool rfl _ _ rfl w.heap.size _ got rfl (hown.alloc _) _ (s[q] == 49) rfl ?c1 ?c2 ?c3 ?_)
      case c1 => simp [go_sem, encT]
      case c2 => omega
      case c3 => have := hxr.size; simp; omega
      intro v' w5 hown5 hg5
      have hx5 := (hxr.alloc _).ofGrown hg5 hown.low
      clear hown hg5 hqi d1
      go_wp2
      go_roundw
      case rel => exact ⟨k + 1, by omega, by go_num, by rw [HTS.out, List.map_append]; exact hown5, hx5⟩
      case measure => simp [intOf]; omega
    · obtain rfl : k = 7 := by omega
      clear hk hlt
      go_wp2
      go_ret
      exact ⟨_, rfl, by rw [HT.out]; exact hown, hxr⟩

def fives : List UInt8 := [49, 48, 48, 48, 49, 48, 49, 48, 48, 49, 49, 49, 48, 48, 48, 48, 48, 49, 48, 49, 49, 48, 49, 48, 48, 48, 49, 49, 48, 48, 48, 48, 48, 49, 49, 49, 48, 48, 49, 48, 48, 49, 48, 49, 48, 48, 48, 49, 49, 48]
def groups : List UInt8 := [85, 86, 87, 88, 89, 90, 45, 46, 32, 42, 49, 50, 51, 52, 53, 54, 55, 56, 57, 48, 65, 66, 67, 68, 69, 70, 71, 72, 73, 74, 75, 76, 77, 78, 79, 80, 81, 82, 83, 84]
def narrows : List UInt8 := [37, 43, 47, 36]
/-- What 'nine' returns. -/
def rowA (a : Nat) : List Bool := (List.range 9).map fun i => if i % 2 = 0 then (cutB fives (a % 10) 5).getD (i / 2) false else decide (i = 2 * (a / 10) + 1)
def rowN (a : Nat) : List Bool := (List.range 9).map fun i => if i % 2 = 1 then decide (i / 2 ≠ a) else false
def nineF (c : UInt8) : List Bool := if 0 ≤ Lib.indexByte groups c then rowA (Lib.indexByte groups c).toNat else if 0 ≤ Lib.indexByte narrows c then rowN (Lib.indexByte narrows c).toNat else []
theorem nine_eq : ∀ i : Fin 256, Tw.patB 0 (UInt8.ofNat i.val) = if nineF (UInt8.ofNat i.val) = [] then ([], 6) else (nineF (UInt8.ofNat i.val), 0) := by decide +kernel
theorem made9 (w : World) : (w.alloc (.cells #[.bool false, .bool false, .bool false, .bool false, .bool false, .bool false, .bool false, .bool false, .bool false] 4)).rowIs w.heap.size 4 9 (fun _ => .bool false) :=
  ⟨_, heap_alloc_new w _, rfl, fun i hi => by
    obtain rfl | rfl | rfl | rfl | rfl | rfl | rfl | rfl | rfl : i = 0 ∨ i = 1 ∨ i = 2 ∨ i = 3 ∨ i = 4 ∨ i = 5 ∨ i = 6 ∨ i = 7 ∨ i = 8 := by omega
    all_goals rfl⟩
theorem Own.at5 {t : TypeId} {w : World} {B : Nat} {v : Value} {xs : List Value} (h : Own t w B v xs) (hne : xs ≠ []) :
    ∃ g cap, v = .slice (some ⟨g, 0, none⟩) xs.length cap ∧ B ≤ g ∧ g < w.heap.size ∧ ∀ i, i < xs.length → w.cell? ⟨g, i, none⟩ = xs[i]? := by
  have hh := h
  rcases h.2 with ⟨_, h0⟩ | ⟨g, cap, cur, hv, hbase, hb, h1, h2, h3, h4⟩
  · exact absurd (List.eq_nil_of_length_eq_zero h0) hne
  · refine ⟨g, cap, hv, hbase, (Array.getElem?_eq_some_iff.1 hb).1, fun i hi => ?_⟩
    unfold Own at hh
    rw [hv] at hh
    rw [hh.cellAt i (by omega)]

set_option maxRecDepth 100000 in
set_option maxHeartbeats 4000000 in
theorem nine_a (c : UInt8) (a : Nat) (w : World) (ha : Lib.indexByte groups c = (a : Int)) (ha4 : a < 40) :
    Calls Tryz.prog 41 #[.int .u8 (c.toNat : Int)] w fun e w' => ∃ v, e = .returned v ∧ SlN w' w.heap.size v ((rowA a).map encT) ∧ Ext w w' := by
  have HP : Hid (∀ w, Calls Tryz.prog 40 #[.string ⟨#[85, 86, 87, 88, 89, 90, 45, 46, 32, 42, 49, 50, 51, 52, 53, 54, 55, 56, 57, 48, 65, 66, 67, 68, 69, 70, 71, 72, 73, 74, 75, 76, 77, 78, 79, 80, 81, 82, 83, 84]⟩, .int .u8 (c.toNat : Int)] w fun e w' => e = .returned (.int .i64 (a : Int)) ∧ w = w') := Lib.hid (fun w => by
    have := place_any ⟨groups.toArray⟩ c w (by decide)
    rw [show (⟨groups.toArray⟩ : ByteArray).data.toList = groups from rfl, ha] at this
    exact this)
  have HC : Hid (∀ w, Calls Tryz.prog 42 #[.string ⟨#[49, 48, 48, 48, 49, 48, 49, 48, 48, 49, 49, 49, 48, 48, 48, 48, 48, 49, 48, 49, 49, 48, 49, 48, 48, 48, 49, 49, 48, 48, 48, 48, 48, 49, 49, 49, 48, 48, 49, 48, 48, 49, 48, 49, 48, 48, 48, 49, 49, 48]⟩, .int .i64 ((a : Int) % 10), .int .i64 5] w (BitsR (cutB fives (a % 10) 5) w)) := Lib.hid (fun w => by
    have := cut_5 ⟨fives.toArray⟩ (a % 10) w (by rw [show (⟨fives.toArray⟩ : ByteArray).size = 50 from rfl]; omega) (by omega)
    rw [Int.natCast_emod] at this
    exact this)
  have HRA := Lib.hid (rowA.eq_1 a)
  have hbl : (cutB fives (a % 10) 5).length = 5 := by
    unfold cutB
    rw [List.length_map, List.length_take, List.length_drop, show fives.length = 50 from rfl]; omega
  generalize cutB fives (a % 10) 5 = bars at *
  generalize rowA a = res at *
  clear ha
  have HM := Lib.hid (made9 w)
  go_enter Tryz.func41, Tryz.ntmps41
  go_wp2_with fail
  refine (HP.out _).mono ?_
  rintro e w1 ⟨rfl, rfl⟩
  go_wp2_with fail
  refine (HC.out _).mono ?_
  rintro e w1 ⟨v, rfl, hown, hx1⟩
  obtain ⟨g, cap, rfl, hg1, hg2, hgc⟩ := hown.at5 (by intro h0; have := congrArg List.length h0; simp at this; rw [this] at hbl; simp at hbl)
  rw [List.length_map, hbl] at hgc ⊢
  have HGC : Hid (∀ i, i < 5 → w1.cell? ⟨g, i, none⟩ = some (.bool (bars.getD i false))) := Lib.hid (fun i hi => by
    rw [hgc i hi, List.getElem?_map, List.getD_eq_getElem?_getD, List.getElem?_eq_getElem (by omega)]; rfl)
  have HRW : Hid (w1.rowIs w.heap.size 4 9 (fun _ => .bool false)) := Lib.hid (Ext.row HM.out hx1)
  have hgw : g ≠ w.heap.size := by simp at hg1; omega
  have hxw : Ext w w1 := ((Ext.refl w).alloc _).trans hx1
  clear hgc hown hx1 hg1 HM HP HC
  go_wp2
  go_loopw [7] (fun j wr => ∃ k : Nat, k ≤ 5 ∧ j = .int .i64 (k : Int) ∧ wr.rowIs w.heap.size 4 9 (fun i => .bool (if i % 2 = 0 ∧ i / 2 < k then bars.getD (i / 2) false else false)) ∧ Hid (∀ i, i < 5 → wr.cell? ⟨g, i, none⟩ = some (.bool (bars.getD i false))) ∧ Ext w wr) (fun j _ => 5 - (intOf j).toNat)
  case atStart => exact ⟨0, Nat.zero_le _, rfl, HRW.out.congr (fun i _ => by simp), HGC, hxw⟩
  case round =>
    obtain ⟨k, hk, rfl, hrow, HCL, hxr⟩ := hrel
    by_cases hlt : k < 5
    · have hbk := HCL.out k hlt
      obtain ⟨p, hp⟩ : ∃ p, 2 * k = p := ⟨_, rfl⟩
      have hpi : 2 * (k : Int) = (p : Int) := by omega
      have hp9 : p < 9 := by omega
      have hcp := hrow.cell hp9
      have hfp := hrow.frozen p
      have HR1 := Lib.hid ((hrow.set p (.bool (bars.getD k false))).congr (g := fun i => .bool (if i % 2 = 0 ∧ i / 2 < k + 1 then bars.getD (i / 2) false else false)) (fun i hi => by
        by_cases h1 : i = p
        · subst h1; rw [if_pos rfl, if_pos ⟨by omega, by omega⟩, show i / 2 = k by omega]
        · rw [if_neg h1]
          by_cases h2 : i % 2 = 0 ∧ i / 2 < k
          · rw [if_pos h2, if_pos ⟨h2.1, by omega⟩]
          · rw [if_neg h2, if_neg (by omega)]))
      have HX1 := Lib.hid (hxr.setCell (p := ⟨w.heap.size, p, none⟩) (Nat.le_refl _) (.bool (bars.getD k false)))
      have HCL2 : Hid (∀ i, i < 5 → (wr.setCell ⟨w.heap.size, p, none⟩ (.bool (bars.getD k false))).cell? ⟨g, i, none⟩ = some (.bool (bars.getD i false))) := Lib.hid (fun i hi => by
        rw [World.cell?_setCell_other _ _ _ _ (by intro e; injection e with e1; exact hgw e1.symm)]; exact HCL.out i hi)
      generalize bars.getD k false = bk at *
      clear hrow HCL hp
      go_wp2
      go_roundw
      case rel => exact ⟨k + 1, by omega, by go_num, HR1.out, HCL2, HX1.out⟩
      case measure => simp [intOf]; omega
    · obtain rfl : k = 5 := by omega
      obtain ⟨q, hq⟩ : ∃ q, 2 * (a / 10) + 1 = q := ⟨_, rfl⟩
      have hqi : 2 * ((a : Int) / 10) + 1 = (q : Int) := by omega
      have hq9 : q < 9 := by omega
      have hcq := hrow.cell hq9
      have hfq := hrow.frozen q
      have HSL : Hid (Sl (wr.setCell ⟨w.heap.size, q, none⟩ (.bool true)) (.slice (some ⟨w.heap.size, 0, none⟩) 9 9) (res.map encT)) := Lib.hid ((Sl.row (hrow.set q (.bool true))).congr (by
        rw [HRA.out, List.map_map]
        refine List.map_congr_left (fun i hi => ?_)
        have hi9 : i < 9 := by simpa using hi
        simp only [Function.comp, encT]
        by_cases h1 : i = q
        · subst h1; rw [if_pos rfl, if_neg (by omega)]; simp; omega
        · rw [if_neg h1]
          by_cases h2 : i % 2 = 0
          · rw [if_pos ⟨h2, by omega⟩, if_pos h2]
          · rw [if_neg (by omega), if_neg h2]; congr 1; symm; simp; omega))
      have HX1 := Lib.hid (hxr.setCell (p := ⟨w.heap.size, q, none⟩) (Nat.le_refl _) (.bool true))
      clear hrow HCL hk hlt hq
      go_wp2
      go_ret
      exact ⟨_, rfl, SlN.of HSL.out (by rw [List.length_map, HRA.out, List.length_map, List.length_range]; omega) (Nat.le_refl _), HX1.out⟩

theorem place_lit (l : List UInt8) (c : UInt8) (hl : l.length ≤ 1000) (w : World) :
    Calls Tryz.prog 40 #[.string ⟨l.toArray⟩, .int .u8 (c.toNat : Int)] w fun e w' => e = .returned (.int .i64 (Lib.indexByte l c)) ∧ w = w' :=
  place_any ⟨l.toArray⟩ c w (by have : (⟨l.toArray⟩ : ByteArray).size = l.length := by simp [ByteArray.size]
                                omega)

set_option maxRecDepth 100000 in
set_option maxHeartbeats 4000000 in
theorem nine_n (c : UInt8) (w : World) (ha : Lib.indexByte groups c < 0) :
    Calls Tryz.prog 41 #[.int .u8 (c.toNat : Int)] w fun e w' => ∃ v, e = .returned v ∧ SlN w' w.heap.size v ((if 0 ≤ Lib.indexByte narrows c then rowN (Lib.indexByte narrows c).toNat else []).map encT) ∧ Ext w w' := by
  have HP : Hid (∀ w, Calls Tryz.prog 40 #[.string ⟨#[85, 86, 87, 88, 89, 90, 45, 46, 32, 42, 49, 50, 51, 52, 53, 54, 55, 56, 57, 48, 65, 66, 67, 68, 69, 70, 71, 72, 73, 74, 75, 76, 77, 78, 79, 80, 81, 82, 83, 84]⟩, .int .u8 (c.toNat : Int)] w fun e w' => e = .returned (.int .i64 (Lib.indexByte groups c)) ∧ w = w') := Lib.hid (fun w => place_lit groups c (by decide) w)
  have HQ : Hid (∀ w, Calls Tryz.prog 40 #[.string ⟨#[37, 43, 47, 36]⟩, .int .u8 (c.toNat : Int)] w fun e w' => e = .returned (.int .i64 (Lib.indexByte narrows c)) ∧ w = w') := Lib.hid (fun w => place_lit narrows c (by decide) w)
  generalize Lib.indexByte groups c = x at *
  have d1 : decide (0 ≤ x) = false := by simp; omega
  by_cases hn : 0 ≤ Lib.indexByte narrows c
  · rw [if_pos hn]
    obtain ⟨a, hna⟩ := Int.eq_ofNat_of_zero_le hn
    have ha4 := index_lt _ _ _ hna
    rw [show narrows.length = 4 from rfl] at ha4
    rw [hna] at HQ ⊢
    rw [Int.toNat_natCast]
    clear hn hna
    have d2 : decide ((a : Int) < 0) = false := by simp
    have HRA := Lib.hid (rowN.eq_1 a)
    generalize rowN a = res at *
    have HM := Lib.hid (made9 w)
    go_enter Tryz.func41, Tryz.ntmps41
    go_wp2_with fail
    refine (HP.out _).mono ?_
    rintro e w1 ⟨rfl, rfl⟩
    go_wp2_with fail
    refine (HQ.out _).mono ?_
    rintro e w1 ⟨rfl, rfl⟩
    clear HP HQ
    go_wp2
    go_loopw [9] (fun j wr => ∃ k : Nat, k ≤ 4 ∧ j = .int .i64 (k : Int) ∧ wr.rowIs w.heap.size 4 9 (fun i => .bool (if i % 2 = 1 ∧ i / 2 < k then decide (i / 2 ≠ a) else false)) ∧ Ext w wr) (fun j _ => 4 - (intOf j).toNat)
    case atStart => exact ⟨0, Nat.zero_le _, rfl, HM.out.congr (fun i _ => by simp), (by repeat (first | exact Ext.refl _ | assumption | refine Ext.alloc ?_ _ | refine Ext.drew ?_ | refine Ext.trans ?_ (by assumption)))⟩
    case round =>
      obtain ⟨k, hk, rfl, hrow, hxr⟩ := hrel
      by_cases hlt : k < 4
      · obtain ⟨p, hp⟩ : ∃ p, 2 * k + 1 = p := ⟨_, rfl⟩
        have hpi : 2 * (k : Int) + 1 = (p : Int) := by omega
        have hp9 : p < 9 := by omega
        have hcp := hrow.cell hp9
        have hfp := hrow.frozen p
        obtain ⟨bk, hbk⟩ : ∃ bk, decide (k ≠ a) = bk := ⟨_, rfl⟩
        have hne : ((k : Int) != (a : Int)) = bk := by rw [← hbk, Bool.eq_iff_iff, bne_iff_ne, decide_eq_true_eq]; omega
        have HR1 := Lib.hid ((hrow.set p (.bool bk)).congr (g := fun i => .bool (if i % 2 = 1 ∧ i / 2 < k + 1 then decide (i / 2 ≠ a) else false)) (fun i hi => by
          by_cases h1 : i = p
          · subst h1; rw [if_pos rfl, if_pos ⟨by omega, by omega⟩, show i / 2 = k by omega, hbk]
          · rw [if_neg h1]
            by_cases h2 : i % 2 = 1 ∧ i / 2 < k
            · rw [if_pos h2, if_pos ⟨h2.1, by omega⟩]
            · rw [if_neg h2, if_neg (by omega)]))
        have HX1 := Lib.hid (hxr.setCell (p := ⟨w.heap.size, p, none⟩) (Nat.le_refl _) (.bool bk))
        clear hrow hp hbk
        cases bk
        all_goals
          go_wp2
          go_roundw
          case rel => exact ⟨k + 1, by omega, by go_num, HR1.out, HX1.out⟩
          case measure => simp [intOf]; omega
      · obtain rfl : k = 4 := by omega
        have HSL : Hid (Sl wr (.slice (some ⟨w.heap.size, 0, none⟩) 9 9) (res.map encT)) := Lib.hid ((Sl.row hrow).congr (by
          rw [HRA.out, List.map_map]
          refine List.map_congr_left (fun i hi => ?_)
          have hi9 : i < 9 := by simpa using hi
          simp only [Function.comp, encT]
          by_cases h2 : i % 2 = 1
          · rw [if_pos ⟨h2, by omega⟩, if_pos h2]
          · rw [if_neg (by omega), if_neg h2]))
        clear hrow hk hlt
        go_wp2
        go_ret
        exact ⟨_, rfl, SlN.of HSL.out (by rw [List.length_map, HRA.out, List.length_map, List.length_range]; omega) (Nat.le_refl _), hxr⟩
  · rw [if_neg hn]
    generalize Lib.indexByte narrows c = y at *
    have d2 : decide (y < 0) = true := by simp; omega
    clear hn
    go_enter Tryz.func41, Tryz.ntmps41
    go_wp2_with fail
    refine (HP.out _).mono ?_
    rintro e w1 ⟨rfl, rfl⟩
    go_wp2_with fail
    refine (HQ.out _).mono ?_
    rintro e w1 ⟨rfl, rfl⟩
    go_wp2
    go_ret
    exact ⟨_, rfl, SlN.nil _ _, (by repeat (first | exact Ext.refl _ | assumption | refine Ext.alloc ?_ _ | refine Ext.drew ?_ | refine Ext.trans ?_ (by assumption)))⟩
theorem nine_any (c : UInt8) (w : World) :
    Calls Tryz.prog 41 #[.int .u8 (c.toNat : Int)] w fun e w' => ∃ v, e = .returned v ∧ SlN w' w.heap.size v ((nineF c).map encT) ∧ Ext w w' := by
  unfold nineF
  by_cases h : 0 ≤ Lib.indexByte groups c
  · rw [if_pos h]
    obtain ⟨a, ha⟩ := Int.eq_ofNat_of_zero_le h
    have := index_lt _ _ _ ha
    rw [show groups.length = 40 from rfl] at this
    have h2 := nine_a c a w ha this
    rw [ha, Int.toNat_natCast]; exact h2
  · rw [if_neg h]; exact nine_n c w (by omega)

def sevens : List UInt8 := [48, 48, 48, 48, 48, 49, 49, 48, 48, 48, 48, 49, 49, 48, 48, 48, 48, 49, 48, 48, 49, 49, 49, 48, 48, 48, 48, 48, 48, 48, 49, 48, 48, 49, 48, 49, 48, 48, 48, 48, 49, 48, 48, 49, 48, 48, 48, 48, 49, 48, 49, 48, 48, 49, 48, 48, 48, 49, 49, 48, 48, 48, 48, 49, 48, 48, 49, 48, 48, 48, 48, 48, 48, 49, 49, 48, 48, 48, 48, 49, 49, 48, 48, 48, 49, 48, 48, 48, 49, 48, 49, 49, 48, 49, 48, 48, 48, 49, 49, 48, 49, 48, 49, 48, 48, 48, 48, 49, 48, 49, 48, 49, 48, 48, 49, 49, 48, 49, 48, 48, 49, 48, 49, 48, 48, 49, 48, 48, 48, 49, 48, 49, 49, 48, 48, 48, 49, 49, 49, 48]
theorem seven_eq : ∀ i : Fin 256, Tw.patB 1 (UInt8.ofNat i.val) = if 0 ≤ Lib.indexByte Tw.cCb (UInt8.ofNat i.val) then (cutB sevens (Lib.indexByte Tw.cCb (UInt8.ofNat i.val)).toNat 7, 0) else ([], 6) := by decide +kernel
def onesFirst : List UInt8 := [49, 50, 51, 52, 53, 54, 55, 56, 57, 48]
theorem five_eq : ∀ i : Fin 256, Tw.patB 2 (UInt8.ofNat i.val) = if 0 ≤ Lib.indexByte onesFirst (UInt8.ofNat i.val) then (cutB fives (Lib.indexByte onesFirst (UInt8.ofNat i.val)).toNat 5, 0) else ([], 6) := by decide +kernel
theorem nineF_len (c : UInt8) : (nineF c).length ≤ 9 := by
  unfold nineF rowA rowN
  repeat' split
  all_goals simp
theorem cutB_len (l : List UInt8) (i n : Nat) : (cutB l i n).length ≤ n := by unfold cutB; rw [List.length_map, List.length_take]; omega
end Go.Proofs.YthjlnpcaclfopaaGreat
