/-
  Chapter 12: the alphabets, walked.
  Condition: an alphabet's patterns have 5, 7 or 9 elements.
-/
import Derived.Test.YthjlnpcaclfopaaGreatCdW4
import Derived.Test.YthjlnpcaclfopaaGreatShelf
import Derived.Test.YthjlnpcaclfopaaGreatTw
import Derived.Lib.IndexLaws
namespace Go.Proofs.YthjlnpcaclfopaaGreat
open Go.RowKit

theorem index_any (s : ByteArray) (c : Int) (w : World) :
    Calls Tryz.prog 33 #[.string s, .int .u8 c] w fun e w' => e = .returned (.int .i64 (Lib.indexByte s.data.toList c.toNat.toUInt8)) ∧ w = w' :=
  (Tryz.strings_IndexByte _ c w).mono fun _ _ ⟨he, hw⟩ => ⟨he, hw.symm⟩

theorem byte_num (c : UInt8) : ((c.toNat : Int).toNat).toUInt8 = c := by
  rw [Int.toNat_natCast]; simp

theorem index_lt (l : List UInt8) (c : UInt8) (n : Nat) (h : Lib.indexByte l c = (n : Int)) : n < l.length := by
  have := (Lib.indexByte_some h).1
  rw [List.getElem?_eq_some_iff] at this
  exact this.1

/-- The variables that an alphabet's functions captured. -/
structure AlphAt (w : World) (bc bp bz : Nat) (cs ps : ByteArray) (z : Nat) : Prop where
  c : w.cell? ⟨bc, 0, none⟩ = some (.string cs)
  p : w.cell? ⟨bp, 0, none⟩ = some (.string ps)
  z : w.cell? ⟨bz, 0, none⟩ = some (.int .i64 (z : Int))
  lc : bc < w.heap.size
  lp : bp < w.heap.size
  lz : bz < w.heap.size
theorem AlphAt.ext {w w' : World} {bc bp bz : Nat} {cs ps : ByteArray} {z : Nat} (h : AlphAt w bc bp bz cs ps z) (hx : Ext w w') : AlphAt w' bc bp bz cs ps z :=
  ⟨by rw [hx.cell (p := ⟨bc, 0, none⟩) h.lc]; exact h.c, by rw [hx.cell (p := ⟨bp, 0, none⟩) h.lp]; exact h.p, by rw [hx.cell (p := ⟨bz, 0, none⟩) h.lz]; exact h.z,
    Nat.lt_of_lt_of_le h.lc hx.size, Nat.lt_of_lt_of_le h.lp hx.size, Nat.lt_of_lt_of_le h.lz hx.size⟩

theorem cutAt_mid (ps : ByteArray) (z i : Nat) : (ps.extract (i * z) ((i + 1) * z)).data.toList = Tw.cutAt ps.data.toList z i := by
  rw [cut_mid]; unfold Tw.cutAt; congr 1; rw [Nat.add_mul, Nat.one_mul]; omega

set_option maxHeartbeats 1000000 in
theorem pattern_any (cs ps : ByteArray) (z : Nat) (c : UInt8) (bc bp bz : Nat) (w : World) (hA : AlphAt w bc bp bz cs ps z) (hz : z = 5 ∨ z = 7 ∨ z = 9) (hps : ps.size = cs.size * z) (hcs : cs.size ≤ 100) :
    Calls Tryz.prog 71 #[.int .u8 (c.toNat : Int), .pointer (some ⟨bc, 0, none⟩), .pointer (some ⟨bp, 0, none⟩), .pointer (some ⟨bz, 0, none⟩)] w
      fun e w' => e = .returned (.tuple #[.string ⟨(Tw.pat cs.data.toList ps.data.toList z c).1.toArray⟩, .bool (Tw.pat cs.data.toList ps.data.toList z c).2]) ∧ w = w' := by
  obtain ⟨h1, h2, h3, _, _, _⟩ := hA
  have HI := Lib.hid (index_any cs (c.toNat : Int) w)
  rw [byte_num] at HI
  have HB := Lib.hid (Tw.pat.eq_1 cs.data.toList ps.data.toList z c)
  by_cases h0 : Lib.indexByte cs.data.toList c < 0
  · rw [if_pos h0] at HB
    rw [HB.out]
    generalize Lib.indexByte cs.data.toList c = x at *
    go_enter Tryz.func71, Tryz.ntmps71
    go_wp2_with fail
    refine HI.out.mono ?_
    rintro e w1 ⟨rfl, rfl⟩
    go_wp2
    go_ret2
    exact ⟨rfl, rfl⟩
  · rw [if_neg h0] at HB
    rw [HB.out]
    obtain ⟨n, hn⟩ := Int.eq_ofNat_of_zero_le (show 0 ≤ Lib.indexByte cs.data.toList c by omega)
    have hl := index_lt _ _ _ hn
    rw [len_data] at hl
    rw [hn] at HI ⊢
    clear HB h0 hn
    rw [Int.toNat_natCast]
    have HC := Lib.hid (cutAt_mid ps z n)
    rcases hz with rfl | rfl | rfl
    all_goals
      go_enter Tryz.func71, Tryz.ntmps71
      go_wp2_with fail
      refine HI.out.mono ?_
      rintro e w1 ⟨rfl, rfl⟩
      go_wp2
      go_ret2
      exact ⟨by rw [← HC.out, mk_toList]; rfl, rfl⟩

set_option maxHeartbeats 1000000 in
theorem char_any (cs ps : ByteArray) (z : Nat) (p : ByteArray) (bc bp bz : Nat) (w : World) (hA : AlphAt w bc bp bz cs ps z) (hz : z = 5 ∨ z = 7 ∨ z = 9) (hps : ps.size = cs.size * z) (hcs : cs.size ≤ 100) :
    Calls Tryz.prog 72 #[.string p, .pointer (some ⟨bc, 0, none⟩), .pointer (some ⟨bp, 0, none⟩), .pointer (some ⟨bz, 0, none⟩)] w
      fun e w' => e = .returned (.tuple #[.int .u8 ((Tw.chr cs.data.toList ps.data.toList z p.data.toList).1.toNat : Int), .bool (Tw.chr cs.data.toList ps.data.toList z p.data.toList).2]) ∧ w = w' := by
  obtain ⟨h1, h2, h3, _, _, _⟩ := hA
  have HC := Lib.hid (cutAt_mid ps z)
  have HN := Lib.hid (Tw.chr_none cs.data.toList ps.data.toList z p.data.toList)
  have HF := Lib.hid (Tw.chr_at cs.data.toList ps.data.toList z p.data.toList)
  rw [len_data] at HN HF
  generalize Tw.chr cs.data.toList ps.data.toList z p.data.toList = res at *
  obtain ⟨Q, hQ⟩ : ∃ Q : Nat → Bool, ∀ j, ((ps.extract (j * z) ((j + 1) * z)).toList == p.toList) = Q j := ⟨_, fun _ => rfl⟩
  have HQ : Hid (∀ j, Tw.cutAt ps.data.toList z j = p.data.toList ↔ Q j = true) := Lib.hid fun j => by
    rw [← hQ, Lib.toList_data, Lib.toList_data, HC.out]; simp
  have HQQ := Lib.hid hQ
  clear hQ HC
  have HN2 : Hid ((∀ j, j < cs.size → Q j = false) → res = (0, false)) := Lib.hid fun h => HN.out fun i hi he => by
    have := (HQ.out i).1 he; rw [h i hi] at this; exact Bool.noConfusion this
  have HF2 : Hid (∀ j, j < cs.size → Q j = true → (∀ i, i < j → Q i = false) → res = (cs.data.toList.getD j 0, true)) := Lib.hid fun j hj h hb => HF.out j hj ((HQ.out j).2 h) fun i hi he => by
    have := (HQ.out i).1 he; rw [hb i hi] at this; exact Bool.noConfusion this
  clear HQ HN HF
  rcases hz with rfl | rfl | rfl
  all_goals
    go_enter Tryz.func72, Tryz.ntmps72
    go_wp2
    go_loop [10] (fun i => ∃ j : Nat, j ≤ cs.size ∧ i = .int .i64 (j : Int) ∧ Hid (∀ m, m < j → Q m = false)) (fun i => cs.size - (intOf i).toNat)
    case atStart => exact ⟨0, Nat.zero_le _, rfl, Lib.hid (fun m hm => absurd hm (Nat.not_lt_zero _))⟩
    case round =>
      obtain ⟨j, hj, rfl, HB⟩ := hrel
      by_cases hlt : j < cs.size
      · have hq := HQQ.out j
        cases hqj : Q j
        · rw [hqj] at hq
          have HJ := Lib.hid hqj
          clear hqj
          go_wp2
          go_round
          case rel => exact ⟨j + 1, by omega, by go_num, Lib.hid (fun m hm => by
            rcases Nat.lt_or_eq_of_le (Nat.le_of_lt_succ hm) with h | rfl
            · exact HB.out m h
            · exact HJ.out)⟩
          case measure => simp [intOf]; omega
        · rw [hqj] at hq
          have := HF2.out j hlt hqj HB.out
          subst this
          clear hqj
          go_wp2
          go_ret2
          exact ⟨rfl, rfl⟩
      · obtain rfl : j = cs.size := by omega
        have := HN2.out HB.out
        subst this
        clear hlt hj
        go_wp2
        go_ret2
        exact ⟨rfl, rfl⟩
end Go.Proofs.YthjlnpcaclfopaaGreat
