/-
  Chapter 12: the alphabets, walked.
  Condition: an alphabet's patterns have 5, 7 or 9 elements.
-/
import Derived.Test.YthjlnpcaclfopaaGreatCdWa
import Derived.Test.YthjlnpcaclfopaaGreatShelf
import Derived.Test.YthjlnpcaclfopaaGreatTw
import Derived.Lib.IndexLaws
import Derived.Laws.NewDeep
import Derived.Laws.EntriesVeiled
import Derived.Test.YthjlnpcaclfopaaGreatCdM1
import Derived.Deep.OwnRows
import Derived.Deep.RegionWith

/-
  Chapter 12: the alphabets, walked.
  Condition: an alphabet's patterns have 5, 7 or 9 elements.
-/
namespace Go.Proofs.YthjlnpcaclfopaaGreat
open Go.RowKit

theorem index_any (s : ByteArray) (c : Int) (w : World) :
    Calls Tryz.prog 33 #[.string s, .int .u8 c] w fun e w' => e = .returned (.int .i64 (Lib.indexByte s.data.toList c.toNat.toUInt8)) ∧ w = w' :=
  (Tryz.strings_IndexByte _ c w).mono fun _ _ ⟨he, hw⟩ => ⟨he, hw.symm⟩

theorem byte_num (c : UInt8) : ((c.toNat : Int).toNat).toUInt8 = c := by
  rw [Int.toNat_natCast]; simp

theorem index_lt (l : List UInt8) (c : UInt8) (n : Nat) (h : Lib.indexByte l c = (n : Int)) : n < l.length := by
  have := (Lib.indexByte_some h).1
  rw [List.getElem?_eq_some_iff] at this
  exact this.1

/-- The variables that an alphabet's functions captured. -/
structure AlphAt (w : World) (bc bp bz : Nat) (cs ps : ByteArray) (z : Nat) : Prop where
  c : w.cell? ⟨bc, 0, none⟩ = some (.string cs)
  p : w.cell? ⟨bp, 0, none⟩ = some (.string ps)
  z : w.cell? ⟨bz, 0, none⟩ = some (.int .i64 (z : Int))
  lc : bc < w.heap.size
  lp : bp < w.heap.size
  lz : bz < w.heap.size
theorem AlphAt.ext {w w' : World} {bc bp bz : Nat} {cs ps : ByteArray} {z : Nat} (h : AlphAt w bc bp bz cs ps z) (hx : Ext w w') : AlphAt w' bc bp bz cs ps z :=
  ⟨by rw [hx.cell (p := ⟨bc, 0, none⟩) h.lc]; exact h.c, by rw [hx.cell (p := ⟨bp, 0, none⟩) h.lp]; exact h.p, by rw [hx.cell (p := ⟨bz, 0, none⟩) h.lz]; exact h.z,
    Nat.lt_of_lt_of_le h.lc hx.size, Nat.lt_of_lt_of_le h.lp hx.size, Nat.lt_of_lt_of_le h.lz hx.size⟩

theorem cutAt_mid (ps : ByteArray) (z i : Nat) : (ps.extract (i * z) ((i + 1) * z)).data.toList = Tw.cutAt ps.data.toList z i := by
  rw [cut_mid]; unfold Tw.cutAt; congr 1; rw [Nat.add_mul, Nat.one_mul]; omega

set_option maxHeartbeats 1000000 in
theorem pattern_any (cs ps : ByteArray) (z : Nat) (c : UInt8) (bc bp bz : Nat) (w : World) (hA : AlphAt w bc bp bz cs ps z) (hz : z = 5 ∨ z = 7 ∨ z = 9) (hps : ps.size = cs.size * z) (hcs : cs.size ≤ 100) :
    Calls Tryz.prog 71 #[.int .u8 (c.toNat : Int), .pointer (some ⟨bc, 0, none⟩), .pointer (some ⟨bp, 0, none⟩), .pointer (some ⟨bz, 0, none⟩)] w
      fun e w' => e = .returned (.tuple #[.string ⟨(Tw.pat cs.data.toList ps.data.toList z c).1.toArray⟩, .bool (Tw.pat cs.data.toList ps.data.toList z c).2]) ∧ w = w' := by
  obtain ⟨h1, h2, h3, _, _, _⟩ := hA
  have HI := Lib.hid (index_any cs (c.toNat : Int) w)
  rw [byte_num] at HI
  have HB := Lib.hid (Tw.pat.eq_1 cs.data.toList ps.data.toList z c)
  by_cases h0 : Lib.indexByte cs.data.toList c < 0
  · rw [if_pos h0] at HB
    rw [HB.out]
    generalize Lib.indexByte cs.data.toList c = x at *
    go_enter Tryz.func71, Tryz.ntmps71
    go_wp2_with fail
    refine HI.out.mono ?_
    rintro e w1 ⟨rfl, rfl⟩
    go_wp2
    go_ret2
    exact ⟨rfl, rfl⟩
  · rw [if_neg h0] at HB
    rw [HB.out]
    obtain ⟨n, hn⟩ := Int.eq_ofNat_of_zero_le (show 0 ≤ Lib.indexByte cs.data.toList c by omega)
    have hl := index_lt _ _ _ hn
    rw [len_data] at hl
    rw [hn] at HI ⊢
    clear HB h0 hn
    rw [Int.toNat_natCast]
    have HC := Lib.hid (cutAt_mid ps z n)
    rcases hz with rfl | rfl | rfl
    all_goals
      go_enter Tryz.func71, Tryz.ntmps71
      go_wp2_with fail
      refine HI.out.mono ?_
      rintro e w1 ⟨rfl, rfl⟩
      go_wp2
      go_ret2
      exact ⟨by rw [← HC.out, mk_toList]; rfl, rfl⟩

set_option maxHeartbeats 1000000 in
theorem char_any (cs ps : ByteArray) (z : Nat) (p : ByteArray) (bc bp bz : Nat) (w : World) (hA : AlphAt w bc bp bz cs ps z) (hz : z = 5 ∨ z = 7 ∨ z = 9) (hps : ps.size = cs.size * z) (hcs : cs.size ≤ 100) :
    Calls Tryz.prog 72 #[.string p, .pointer (some ⟨bc, 0, none⟩), .pointer (some ⟨bp, 0, none⟩), .pointer (some ⟨bz, 0, none⟩)] w
      fun e w' => e = .returned (.tuple #[.int .u8 ((Tw.chr cs.data.toList ps.data.toList z p.data.toList).1.toNat : Int), .bool (Tw.chr cs.data.toList ps.data.toList z p.data.toList).2]) ∧ w = w' := by
  obtain ⟨h1, h2, h3, _, _, _⟩ := hA
  have HC := Lib.hid (cutAt_mid ps z)
  have HN := Lib.hid (Tw.chr_none cs.data.toList ps.data.toList z p.data.toList)
  have HF := Lib.hid (Tw.chr_at cs.data.toList ps.data.toList z p.data.toList)
  rw [len_data] at HN HF
  generalize Tw.chr cs.data.toList ps.data.toList z p.data.toList = res at *
  obtain ⟨Q, hQ⟩ : ∃ Q : Nat → Bool, ∀ j, ((ps.extract (j * z) ((j + 1) * z)).toList == p.toList) = Q j := ⟨_, fun _ => rfl⟩
  have HQ : Hid (∀ j, Tw.cutAt ps.data.toList z j = p.data.toList ↔ Q j = true) := Lib.hid fun j => by
    rw [← hQ, Lib.toList_data, Lib.toList_data, HC.out]; simp
  have HQQ := Lib.hid hQ
  clear hQ HC
  have HN2 : Hid ((∀ j, j < cs.size → Q j = false) → res = (0, false)) := Lib.hid fun h => HN.out fun i hi he => by
    have := (HQ.out i).1 he; rw [h i hi] at this; exact Bool.noConfusion this
  have HF2 : Hid (∀ j, j < cs.size → Q j = true → (∀ i, i < j → Q i = false) → res = (cs.data.toList.getD j 0, true)) := Lib.hid fun j hj h hb => HF.out j hj ((HQ.out j).2 h) fun i hi he => by
    have := (HQ.out i).1 he; rw [hb i hi] at this; exact Bool.noConfusion this
  clear HQ HN HF
  rcases hz with rfl | rfl | rfl
  all_goals
    go_enter Tryz.func72, Tryz.ntmps72
    go_wp2
    go_loop [10] (fun i => ∃ j : Nat, j ≤ cs.size ∧ i = .int .i64 (j : Int) ∧ Hid (∀ m, m < j → Q m = false)) (fun i => cs.size - (intOf i).toNat)
    case atStart => exact ⟨0, Nat.zero_le _, rfl, Lib.hid (fun m hm => absurd hm (Nat.not_lt_zero _))⟩
    case round =>
      obtain ⟨j, hj, rfl, HB⟩ := hrel
      by_cases hlt : j < cs.size
      · have hq := HQQ.out j
        cases hqj : Q j
        · rw [hqj] at hq
          have HJ := Lib.hid hqj
          clear hqj
          go_wp2
          go_round
          case rel => exact ⟨j + 1, by omega, by go_num, Lib.hid (fun m hm => by
            rcases Nat.lt_or_eq_of_le (Nat.le_of_lt_succ hm) with h | rfl
            · exact HB.out m h
            · exact HJ.out)⟩
          case measure => simp [intOf]; omega
        · rw [hqj] at hq
          have := HF2.out j hlt hqj HB.out
          subst this
          clear hqj
          go_wp2
          go_ret2
          exact ⟨rfl, rfl⟩
      · obtain rfl : j = cs.size := by omega
        have := HN2.out HB.out
        subst this
        clear hlt hj
        go_wp2
        go_ret2
        exact ⟨rfl, rfl⟩
end Go.Proofs.YthjlnpcaclfopaaGreat

/-
  Chapter 12: newAlphabet and spaced, walked.
  Condition: the alphabet is one of the three.
-/
namespace Go.Proofs.YthjlnpcaclfopaaGreat
open Go.RowKit

/-- What newAlphabet returns. -/
def alphV (z bc bp bz : Nat) : Value :=
  .agg #[.int .i64 (z : Int), .func (.func 71) #[] #[.pointer (some ⟨bc, 0, none⟩), .pointer (some ⟨bp, 0, none⟩), .pointer (some ⟨bz, 0, none⟩)],
    .func (.func 72) #[] #[.pointer (some ⟨bc, 0, none⟩), .pointer (some ⟨bp, 0, none⟩), .pointer (some ⟨bz, 0, none⟩)]]

set_option maxHeartbeats 1000000 in
theorem newAlphabet_any (cs ps : ByteArray) (z : Nat) (w : World) (hc : cs.size = 44 ∧ ps.size = 396 ∧ z = 9 ∨ cs.size = 20 ∧ ps.size = 140 ∧ z = 7 ∨ cs.size = 10 ∧ ps.size = 50 ∧ z = 5) :
    Calls Tryz.prog 52 #[.string cs, .string ps] w
      fun e w' => ∃ bc bp bz, e = .returned (alphV z bc bp bz) ∧ AlphAt w' bc bp bz cs ps z ∧ (w.heap.size ≤ bc ∧ w.heap.size ≤ bp ∧ w.heap.size ≤ bz) ∧ Ext w w' := by
  rcases hc with ⟨h1, h2, rfl⟩ | ⟨h1, h2, rfl⟩ | ⟨h1, h2, rfl⟩
  all_goals
    go_enter Tryz.func52, Tryz.ntmps52
    go_wp2
    refine bodyPost_ret_by (v := alphV _ w.heap.size (w.heap.size + 1) (w.heap.size + 1 + 1 + 1)) (by simp [results, Tryz.results52, go_sem, alphV]) rfl
      ⟨_, _, _, rfl, ⟨by simp [go_sem], by simp [go_sem], by simp [go_sem], by simp; omega, by simp, by simp⟩, ⟨by omega, by omega, by omega⟩, (by repeat (first | exact Ext.refl _ | assumption | refine Ext.alloc ?_ _ | refine Ext.drew ?_ | refine Ext.trans ?_ (by assumption)))⟩

/-- What spaced returns, with what code39 and codabar put into it. -/
def spacedV (z bc bp bz ba be bi bl bm : Nat) (comp text : Value) : Value :=
  .agg #[.int .i64 (z : Int), .func (.func 71) #[] #[.pointer (some ⟨bc, 0, none⟩), .pointer (some ⟨bp, 0, none⟩), .pointer (some ⟨bz, 0, none⟩)],
    .func (.func 72) #[] #[.pointer (some ⟨bc, 0, none⟩), .pointer (some ⟨bp, 0, none⟩), .pointer (some ⟨bz, 0, none⟩)], .func (.func 67) #[] #[.pointer (some ⟨ba, 0, none⟩), .pointer (some ⟨bl, 0, none⟩), .pointer (some ⟨bm, 0, none⟩)], comp,
    .func (.func 68) #[] #[.pointer (some ⟨ba, 0, none⟩)],
    .func (.func 70) #[] #[.pointer (some ⟨ba, 0, none⟩), .pointer (some ⟨be, 0, none⟩), .pointer (some ⟨bi, 0, none⟩)], text]

/-- The variables that its functions captured. -/
structure SpacedAt (w : World) (z bc bp bz ba be bi bl bm : Nat) (edge inner : ByteArray) (least most : Nat) : Prop where
  a0 : w.cell? ⟨ba, 0, none⟩ = some (.int .i64 (z : Int))
  a1 : w.cell? ⟨ba, 1, none⟩ = some (.func (.func 71) #[] #[.pointer (some ⟨bc, 0, none⟩), .pointer (some ⟨bp, 0, none⟩), .pointer (some ⟨bz, 0, none⟩)])
  a2 : w.cell? ⟨ba, 2, none⟩ = some (.func (.func 72) #[] #[.pointer (some ⟨bc, 0, none⟩), .pointer (some ⟨bp, 0, none⟩), .pointer (some ⟨bz, 0, none⟩)])
  e : w.cell? ⟨be, 0, none⟩ = some (.string edge)
  i : w.cell? ⟨bi, 0, none⟩ = some (.string inner)
  l : w.cell? ⟨bl, 0, none⟩ = some (.int .i64 (least : Int))
  m : w.cell? ⟨bm, 0, none⟩ = some (.int .i64 (most : Int))
  la : ba < w.heap.size
  le : be < w.heap.size
  li : bi < w.heap.size
  ll : bl < w.heap.size
  lm : bm < w.heap.size
theorem SpacedAt.ext {w w' : World} {z bc bp bz ba be bi bl bm : Nat} {edge inner : ByteArray} {least most : Nat} (h : SpacedAt w z bc bp bz ba be bi bl bm edge inner least most) (hx : Ext w w') :
    SpacedAt w' z bc bp bz ba be bi bl bm edge inner least most :=
  ⟨by rw [hx.cell (p := ⟨ba, 0, none⟩) h.la]; exact h.a0, by rw [hx.cell (p := ⟨ba, 1, none⟩) h.la]; exact h.a1, by rw [hx.cell (p := ⟨ba, 2, none⟩) h.la]; exact h.a2,
    by rw [hx.cell (p := ⟨be, 0, none⟩) h.le]; exact h.e, by rw [hx.cell (p := ⟨bi, 0, none⟩) h.li]; exact h.i, by rw [hx.cell (p := ⟨bl, 0, none⟩) h.ll]; exact h.l, by rw [hx.cell (p := ⟨bm, 0, none⟩) h.lm]; exact h.m,
    Nat.lt_of_lt_of_le h.la hx.size, Nat.lt_of_lt_of_le h.le hx.size, Nat.lt_of_lt_of_le h.li hx.size, Nat.lt_of_lt_of_le h.ll hx.size, Nat.lt_of_lt_of_le h.lm hx.size⟩

set_option maxHeartbeats 1000000 in
theorem spaced_any (z bc bp bz : Nat) (edge inner : ByteArray) (least most : Nat) (w : World) :
    Calls Tryz.prog 51 #[alphV z bc bp bz, .string edge, .string inner, .int .i64 (least : Int), .int .i64 (most : Int)] w
      fun e w' => ∃ ba be bi bl bm, e = .returned (spacedV z bc bp bz ba be bi bl bm .nilFunc .nilFunc) ∧ SpacedAt w' z bc bp bz ba be bi bl bm edge inner least most ∧ (w.heap.size ≤ ba ∧ w.heap.size ≤ be ∧ w.heap.size ≤ bi ∧ w.heap.size ≤ bl ∧ w.heap.size ≤ bm) ∧ Ext w w' := by
  unfold alphV
  go_enter Tryz.func51, Tryz.ntmps51
  go_wp2
  refine bodyPost_ret_by (v := spacedV z bc bp bz w.heap.size (w.heap.size + 1) (w.heap.size + 1 + 1) (w.heap.size + 1 + 1 + 1) (w.heap.size + 1 + 1 + 1 + 1) .nilFunc .nilFunc) (by simp [results, Tryz.results51, go_sem, spacedV]) rfl
      ⟨_, _, _, _, _, rfl, ⟨by simp [go_sem], by simp [go_sem], by simp [go_sem], by simp [go_sem], by simp [go_sem], by simp [go_sem], by simp [go_sem], by simp; omega, by simp, by simp, by simp, by simp⟩, ⟨by omega, by omega, by omega, by omega, by omega⟩, (by repeat (first | exact Ext.refl _ | assumption | refine Ext.alloc ?_ _ | refine Ext.drew ?_ | refine Ext.trans ?_ (by assumption)))⟩

theorem AlphAt.keep {w w' : World} {B bc bp bz : Nat} {cs ps : ByteArray} {z : Nat} (h : AlphAt w bc bp bz cs ps z) (hk : ∀ b o, b ≠ B → b < w.heap.size → w'.cell? ⟨b, o, none⟩ = w.cell? ⟨b, o, none⟩) (hs : w.heap.size ≤ w'.heap.size) (h1 : B < bc) (h2 : B < bp) (h3 : B < bz) : AlphAt w' bc bp bz cs ps z :=
  ⟨by rw [hk _ _ (by omega) h.lc]; exact h.c, by rw [hk _ _ (by omega) h.lp]; exact h.p, by rw [hk _ _ (by omega) h.lz]; exact h.z,
    Nat.lt_of_lt_of_le h.lc hs, Nat.lt_of_lt_of_le h.lp hs, Nat.lt_of_lt_of_le h.lz hs⟩
theorem SpacedAt.keep {w w' : World} {B z bc bp bz ba be bi bl bm : Nat} {edge inner : ByteArray} {least most : Nat} (h : SpacedAt w z bc bp bz ba be bi bl bm edge inner least most)
    (hk : ∀ b o, b ≠ B → b < w.heap.size → w'.cell? ⟨b, o, none⟩ = w.cell? ⟨b, o, none⟩) (hs : w.heap.size ≤ w'.heap.size) (h1 : B < ba) (h2 : B < be) (h3 : B < bi) (h4 : B < bl) (h5 : B < bm) : SpacedAt w' z bc bp bz ba be bi bl bm edge inner least most :=
  ⟨by rw [hk _ _ (by omega) h.la]; exact h.a0, by rw [hk _ _ (by omega) h.la]; exact h.a1, by rw [hk _ _ (by omega) h.la]; exact h.a2,
    by rw [hk _ _ (by omega) h.le]; exact h.e, by rw [hk _ _ (by omega) h.li]; exact h.i, by rw [hk _ _ (by omega) h.ll]; exact h.l, by rw [hk _ _ (by omega) h.lm]; exact h.m,
    Nat.lt_of_lt_of_le h.la hs, Nat.lt_of_lt_of_le h.le hs, Nat.lt_of_lt_of_le h.li hs, Nat.lt_of_lt_of_le h.ll hs, Nat.lt_of_lt_of_le h.lm hs⟩
end Go.Proofs.YthjlnpcaclfopaaGreat

/-
  Chapter 12: the functions of Code 39, walked.
  Condition: the strings are within the reach.
-/
namespace Go.Proofs.YthjlnpcaclfopaaGreat
open Go.RowKit

set_option maxHeartbeats 1000000 in
theorem counts_any (z bc bp bz ba be bi bl bm : Nat) (edge inner : ByteArray) (least most : Nat) (n : Nat) (check : Bool) (w : World) (hz : z = 7 ∨ z = 9) (hA : SpacedAt w z bc bp bz ba be bi bl bm edge inner least most) (hl : least ≤ 1) (hm : most ≤ 1000) (hn : n ≤ 9223372036854775806) :
    Calls Tryz.prog 67 #[.int .i64 (n : Int), .bool check, .pointer (some ⟨ba, 0, none⟩), .pointer (some ⟨bl, 0, none⟩), .pointer (some ⟨bm, 0, none⟩)] w
      fun e w' => e = .returned (.bool (Tw.counts z least most n check)) ∧ w = w' := by
  obtain ⟨h1, _, _, _, _, h2, h3, _, _, _, _, _⟩ := hA
  have HT := Lib.hid (Tw.counts.eq_1 z least most n check)
  rcases hz with rfl | rfl
  all_goals
    cases check
    all_goals
      go_enter Tryz.func67, Tryz.ntmps67
      go_wp2
      all_goals
        go_ret
        refine ⟨ret_bool ?_, rfl⟩
        rw [HT.out, Bool.eq_iff_iff]
        simp
        omega

theorem only_snoc (l cs : List UInt8) (c : UInt8) : Tw.only (l ++ [c]) cs = (Tw.only l cs && decide (0 ≤ Lib.indexByte cs c)) := by simp [Tw.only]

set_option maxHeartbeats 1000000 in
theorem only_any (s cs : ByteArray) (w : World) (hs : s.size ≤ 9223372036854775807) :
    Calls Tryz.prog 54 #[.string s, .string cs] w fun e w' => e = .returned (.bool (Tw.only s.data.toList cs.data.toList)) ∧ w = w' := by
  have HL := Lib.hid (fun c => index_any cs c w)
  go_enter Tryz.func54, Tryz.ntmps54
  go_wp2
  go_loop [8] (fun i => ∃ j : Nat, j ≤ s.size ∧ i = .int .i64 (j : Int) ∧ Hid (∀ c ∈ s.data.toList.take j, 0 ≤ Lib.indexByte cs.data.toList c)) (fun i => s.size - (intOf i).toNat)
  case atStart => exact ⟨0, Nat.zero_le _, rfl, Lib.hid (fun c hc => by simp at hc)⟩
  case round =>
    obtain ⟨j, hj, rfl, HB⟩ := hrel
    by_cases hlt : j < s.size
    · have HI := Lib.hid (HL.out (s[j].toNat : Int))
      rw [byte_num] at HI
      obtain ⟨x, hx⟩ : ∃ x, Lib.indexByte cs.data.toList s[j] = x := ⟨_, rfl⟩
      rw [hx] at HI
      have HX := Lib.hid hx
      clear hx
      by_cases h0 : x < 0
      · have hd : decide (x < 0) = true := by simpa using h0
        go_wp2_with fail
        refine HI.out.mono ?_
        rintro e w1 ⟨rfl, rfl⟩
        go_wp2
        go_ret
        refine ⟨ret_bool ?_, rfl⟩
        symm
        unfold Tw.only
        rw [List.all_eq_false]
        exact ⟨s[j], mem_at s j hlt, by rw [HX.out]; simp; omega⟩
      · have hd : decide (x < 0) = false := by simpa using h0
        go_wp2_with fail
        refine HI.out.mono ?_
        rintro e w1 ⟨rfl, rfl⟩
        go_wp2
        go_round
        case rel => exact ⟨j + 1, by omega, by go_num, Lib.hid (fun c hc => by
          rw [take_snoc s j hlt, List.mem_append] at hc
          rcases hc with h | h
          · exact HB.out c h
          · rw [List.mem_singleton] at h; rw [h, HX.out]; omega)⟩
        case measure => simp [intOf]; omega
    · obtain rfl : j = s.size := by omega
      rw [take_all] at HB
      clear hj hlt
      go_wp2
      go_ret
      refine ⟨ret_bool ?_, rfl⟩
      symm
      unfold Tw.only
      rw [List.all_eq_true]
      exact fun c hc => by simpa using HB.out c hc

theorem ret_pair' {a : ByteArray} {l : List UInt8} {x y : Int} (h1 : a.data.toList = l) (h2 : x = y) : Ending.returned (.tuple #[.string a, .int .i64 x]) = .returned (.tuple #[.string ⟨l.toArray⟩, .int .i64 y]) := by
  rw [← h1, mk_toList, h2]
theorem ret_str' {a : ByteArray} {l : List UInt8} (h1 : a.data.toList = l) : Ending.returned (.string a) = .returned (.string ⟨l.toArray⟩) := by rw [← h1, mk_toList]

theorem compI_len (k : Int) (l : List UInt8) : (Cd.compI k l).1.length ≤ 2 := by
  unfold Cd.compI
  split
  · simp
  · rename_i h
    unfold Cd.comp
    repeat' split
    all_goals first | (simp; done) | (rw [Cd.cmp_size _ _ (by omega) (by omega)]; exact Cd.size_bd _) | (rw [Cd.cmp_size _ _ (by omega) (by omega)]; have := Cd.size_bd k.toNat; omega)

set_option maxHeartbeats 1000000 in
theorem comp39_any (s : ByteArray) (check : Bool) (w : World) (hs : s.size ≤ 1000000) :
    Calls Tryz.prog 53 #[.string s, .bool check] w fun e w' => e = .returned (.tuple #[.string ⟨(Tw.comp39 s.data.toList check).1.toArray⟩, .int .i64 (Tw.comp39 s.data.toList check).2]) ∧ Ext w w' := by
  have HO := Lib.hid (fun w => only_any s ⟨Cd.syms.toArray⟩ w (by omega))
  have HT := Lib.hid (Tw.comp39.eq_1 s.data.toList check)
  change Hid (∀ w, Calls Tryz.prog 54 #[.string s, .string ⟨#[48, 49, 50, 51, 52, 53, 54, 55, 56, 57, 65, 66, 67, 68, 69, 70, 71, 72, 73, 74, 75, 76, 77, 78, 79, 80, 81, 82, 83, 84, 85, 86, 87, 88, 89, 90, 45, 46, 32, 36, 47, 43, 37]⟩] w fun e w' => e = .returned (.bool (Tw.only s.data.toList Cd.syms)) ∧ w = w') at HO
  cases ho : Tw.only s.data.toList Cd.syms
  · rw [ho] at HO HT
    rw [if_pos rfl] at HT
    rw [HT.out]
    go_enter Tryz.func53, Tryz.ntmps53
    go_wp2_with fail
    refine (HO.out _).mono ?_
    rintro e w1 ⟨rfl, rfl⟩
    go_wp2
    go_ret2
    exact ⟨rfl, Ext.refl _⟩
  · rw [ho] at HO HT
    rw [if_neg Bool.noConfusion] at HT
    clear ho
    cases check
    · rw [if_pos rfl] at HT
      rw [HT.out]
      go_enter Tryz.func53, Tryz.ntmps53
      go_wp2_with fail
      refine (HO.out _).mono ?_
      rintro e w1 ⟨rfl, rfl⟩
      go_wp2
      go_ret2
      exact ⟨ret_pair' (by simp) rfl, Ext.refl _⟩
    · rw [if_neg Bool.noConfusion] at HT
      have HC := Lib.hid (fun w => compute_any 7 s w (by omega))
      by_cases h0 : (Cd.compI 7 s.data.toList).2 = 0
      · rw [if_pos h0] at HT
        rw [HT.out]
        rw [h0] at HC
        clear h0
        have hdl := compI_len 7 s.data.toList
        generalize (Cd.compI 7 s.data.toList).1 = d at *
        obtain ⟨D, rfl⟩ : ∃ D : ByteArray, d = D.data.toList := ⟨⟨d.toArray⟩, by simp⟩
        rw [mk_toList] at HC
        rw [len_data] at hdl
        go_enter Tryz.func53, Tryz.ntmps53
        go_wp2_with fail
        refine (HO.out _).mono ?_
        rintro e w1 ⟨rfl, rfl⟩
        go_wp2_with fail
        refine (HC.out _).mono ?_
        rintro e w2 ⟨rfl, hx2⟩
        go_wp2
        go_ret2
        exact ⟨ret_pair' (by simp) rfl, hx2⟩
      · rw [if_neg h0] at HT
        rw [HT.out]
        have hb : ((Cd.compI 7 s.data.toList).2 != 0) = true := by rw [bne_iff_ne]; exact h0
        generalize (Cd.compI 7 s.data.toList).2 = x at *
        generalize (Cd.compI 7 s.data.toList).1 = d at *
        clear h0 HT
        go_enter Tryz.func53, Tryz.ntmps53
        go_wp2_with fail
        refine (HO.out _).mono ?_
        rintro e w1 ⟨rfl, rfl⟩
        go_wp2_with fail
        refine (HC.out _).mono ?_
        rintro e w2 ⟨rfl, hx2⟩
        go_wp2
        go_ret2
        exact ⟨rfl, hx2⟩

set_option maxHeartbeats 1000000 in
theorem text39_any (s : ByteArray) (check : Bool) (w : World) (hs : s.size ≤ 1000000) (h3 : 3 ≤ s.size) :
    Calls Tryz.prog 56 #[.string s, .bool check] w fun e w' => e = .returned (.string ⟨(Tw.text39 s.data.toList check).toArray⟩) ∧ w = w' := by
  have HT := Lib.hid (Tw.text39.eq_1 s.data.toList check)
  rw [len_data] at HT
  have HC1 := Lib.hid (cut_mid s 1 (s.size - 1))
  have HC2 := Lib.hid (cut_mid s 1 (s.size - 2))
  cases check
  · have hn : ((s.size : Int) - 1).toNat = s.size - 1 := by omega
    go_enter Tryz.func56, Tryz.ntmps56
    go_wp2
    go_ret
    refine ⟨ret_str' ?_, rfl⟩
    rw [HT.out]
    first | rw [HC1.out] | (rw [hn, HC1.out]) | skip
    simp only [Bool.toNat_false]
    congr 1
  · have hn : ((s.size : Int) - 2).toNat = s.size - 2 := by omega
    go_enter Tryz.func56, Tryz.ntmps56
    go_wp2
    go_ret
    refine ⟨ret_str' ?_, rfl⟩
    rw [HT.out]
    first | rw [HC2.out] | (rw [hn, HC2.out]) | skip
    simp only [Bool.toNat_true]
    try congr 1
end Go.Proofs.YthjlnpcaclfopaaGreat

/-
  Chapter 12: drawing separated characters, walked.
  Condition: every character has a pattern of the alphabet's size or none.
-/
namespace Go.Proofs.YthjlnpcaclfopaaGreat
open Go.RowKit

/-- A string out of a list of bytes. -/
def strV (l : List UInt8) : Value := .string ⟨l.toArray⟩

theorem Ext.row {a w : World} {b : Nat} {t : TypeId} {n : Nat} {f : Nat → Value} (h : a.rowIs b t n f) (hx : Ext a w) : w.rowIs b t n f := h.of_block (hx.block _ h.lt)

theorem tail_len : ∀ (l : List (List UInt8)), (∀ x ∈ l, x.length ≤ 9) → (Lib.joinTail [110] l).length ≤ 10 * l.length
  | [], _ => by simp [Lib.joinTail]
  | x :: l, h => by
    have h1 := h x (List.mem_cons_self ..)
    have h2 := tail_len l (fun u hu => h u (List.mem_cons_of_mem _ hu))
    simp only [Lib.joinTail, List.map_cons, List.flatten_cons, List.length_append, List.length_cons, List.length_nil] at h2 ⊢
    omega
theorem join_len (l : List (List UInt8)) (h : ∀ x ∈ l, x.length ≤ 9) : (Lib.join l [110]).length ≤ 10 * l.length := by
  cases l with
  | nil => exact Nat.zero_le _
  | cons x l =>
    have h1 := h x (List.mem_cons_self ..)
    have h2 := tail_len l (fun u hu => h u (List.mem_cons_of_mem _ hu))
    rw [Lib.join_cons, List.length_append, List.length_cons]
    omega

set_option maxHeartbeats 1000000 in
theorem draw_any (cs ps : ByteArray) (z bc bp bz ba be bi bl bm : Nat) (edge inner : ByteArray) (least most : Nat) (s : ByteArray) (w : World) (hS : SpacedAt w z bc bp bz ba be bi bl bm edge inner least most) (hA : AlphAt w bc bp bz cs ps z) (hz : z = 5 ∨ z = 7 ∨ z = 9) (hps : ps.size = cs.size * z) (hcs : cs.size ≤ 100) (hs : s.size ≤ 1000000) :
    Calls Tryz.prog 68 #[.string s, .pointer (some ⟨ba, 0, none⟩)] w
      fun e w' => e = .returned (strV (Lib.join (s.data.toList.map fun c => (Tw.pat cs.data.toList ps.data.toList z c).1) [110])) ∧ Ext w w' := by
  have hmk := run_make_row' (P := Tryz.prog) 98 9 (.string ⟨#[]⟩) 16 Tryz.underlying98 (by kernel_rfl) rfl .i64 .i64 s.size (by omega) (by omega)
  have HP : Hid (∀ w', Ext w w' → ∀ c : UInt8, Calls Tryz.prog 71 #[.int .u8 (c.toNat : Int), .pointer (some ⟨bc, 0, none⟩), .pointer (some ⟨bp, 0, none⟩), .pointer (some ⟨bz, 0, none⟩)] w'
      fun e w'' => e = .returned (.tuple #[.string ⟨(Tw.pat cs.data.toList ps.data.toList z c).1.toArray⟩, .bool (Tw.pat cs.data.toList ps.data.toList z c).2]) ∧ w' = w'') :=
    Lib.hid fun w' hx c => pattern_any cs ps z c bc bp bz w' (hA.ext hx) hz hps hcs
  have HS := Lib.hid hS
  clear hS hA
  have HL : Hid (∀ c, (Tw.pat cs.data.toList ps.data.toList z c).1.length ≤ 9) := Lib.hid fun c => by
    unfold Tw.pat Tw.cutAt; split
    · simp
    · simp only [List.length_take]; omega
  clear hz hps
  generalize Tw.pat cs.data.toList ps.data.toList z = pt at *
  go_enter Tryz.func68, Tryz.ntmps68
  go_wp2
  go_loopw [11] (fun i wr => ∃ j : Nat, j ≤ s.size ∧ i = .int .i64 (j : Int) ∧ wr.rowIs w.heap.size 9 s.size (fun k => if k < j then strV (pt (s.data.toList.getD k 0)).1 else .string ⟨#[]⟩) ∧ Ext w wr) (fun i _ => s.size - (intOf i).toNat)
  case atStart =>
    exact ⟨0, Nat.zero_le _, rfl, (World.rowIs_made w _ _ _).congr (fun i _ => by simp), (by repeat (first | exact Ext.refl _ | assumption | refine Ext.alloc ?_ _ | refine Ext.drew ?_ | refine Ext.trans ?_ (by assumption)))⟩
  case round =>
    obtain ⟨j, hj, rfl, hrow, hxr⟩ := hrel
    by_cases hlt : j < s.size
    · have hc1 := (HS.out.ext hxr).a1
      have hcj := hrow.cell hlt
      have hfj := hrow.frozen j
      have HQ := Lib.hid (fun w' hx => HP.out w' hx s[j])
      have HR : Hid ((wr.setCell ⟨w.heap.size, j, none⟩ (.string ⟨(pt s[j]).1.toArray⟩)).rowIs w.heap.size 9 s.size (fun k => if k < j + 1 then strV (pt (s.data.toList.getD k 0)).1 else .string ⟨#[]⟩)) :=
        Lib.hid ((hrow.set j (.string ⟨(pt s[j]).1.toArray⟩)).congr (fun k hk => by
          have hg : s.data.toList.getD j 0 = s[j] := by rw [List.getD_eq_getElem?_getD, List.getElem?_eq_getElem (by rw [len_data]; exact hlt)]; rfl
          by_cases h1 : k = j
          · subst h1; rw [if_pos rfl, if_pos (by omega), hg]; rfl
          · rw [if_neg h1]
            by_cases h2 : k < j
            · rw [if_pos h2, if_pos (by omega)]
            · rw [if_neg h2, if_neg (by omega)]))
      have HX := Lib.hid (hxr.setCell (p := ⟨w.heap.size, j, none⟩) (Nat.le_refl _) (.string ⟨(pt s[j]).1.toArray⟩))
      clear hrow
      go_wp2
      go_region_with (go_at_call 71; refine (HQ.out _ ?_).mono ?_; (first | exact hxr | exact hxr.drew | exact hxr.drew.drew); rintro e w1 ⟨rfl, rfl⟩)
      all_goals
        go_wp2
        go_roundw
        case rel => exact ⟨j + 1, by omega, by go_num, HR.out.drew, HX.out.drew⟩
        case measure => simp [intOf]; omega
    · obtain rfl : j = s.size := by omega
      have HJ := Lib.hid (Tryz.strings_Join w.heap.size 0 s.size (s.data.toList.map fun c => ⟨(pt c).1.toArray⟩) ⟨#[110]⟩ wr (fun k x hx => by
        rw [List.getElem?_map, Option.map_eq_some_iff] at hx
        obtain ⟨c, hc, rfl⟩ := hx
        have hk := (List.getElem?_eq_some_iff.1 hc).1
        rw [len_data] at hk
        rw [Nat.zero_add, hrow.cell hk, if_pos hk, List.getD_eq_getElem?_getD, hc]; rfl) (by have := hrow.lt; exact this) (by rw [List.length_map, len_data]; omega) (by rw [List.length_map, len_data]; omega)
        (by rw [List.map_map]; exact Nat.le_trans (join_len _ (fun x hx => by rw [List.mem_map] at hx; obtain ⟨c, _, rfl⟩ := hx; exact HL.out c)) (by rw [List.length_map, len_data]; omega)))
      rw [List.length_map, len_data, List.map_map] at HJ
      clear hrow hj hlt
      go_wp2_with fail
      refine HJ.out.mono ?_
      rintro e w1 ⟨rfl, hx1⟩
      go_wp2
      go_ret
      exact ⟨rfl, hxr.trans hx1⟩
end Go.Proofs.YthjlnpcaclfopaaGreat
