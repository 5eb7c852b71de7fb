/-
  Append, Size and Weighted of checkdigit, walked.
  Conditions: strings within the reach; the weights are readable.
-/
import Derived.Test.YtciogogpoiijcaaCdW4
namespace Go.Proofs.Ytciogogpoiijcaa
open Go.RowKit

set_option maxHeartbeats 400000 in
theorem size_any (k : Int) (w : World) :
    Calls Try.prog 29 #[.int .i64 k] w fun e w' => e = .returned (.tuple #[.int .i64 (if k < 1 ∨ 8 < k then 0 else (Cd.size k.toNat : Int)), .int .i64 (if k < 1 ∨ 8 < k then 1 else 0)]) ∧ Ext w w' := by
  by_cases h : k < 1 ∨ 8 < k
  · have H := Lib.hid (find_none k w h)
    rw [if_pos h, if_pos h]
    clear h
    go_enter Try.func29, Try.ntmps29
    go_wp2_with fail
    refine H.out.mono ?_
    rintro e w1 ⟨rfl, hx1⟩
    go_wp2
    go_ret2
    exact ⟨rfl, hx1⟩
  · rw [if_neg h, if_neg h]
    obtain ⟨n, rfl⟩ := Int.eq_ofNat_of_zero_le (show 0 ≤ k by omega)
    obtain ⟨T, hy⟩ := sys_of n (by omega) (by omega)
    have HF := Lib.hid (hy.found w)
    obtain ⟨f1, g1, g2, g3⟩ := hy.size
    have HS := Lib.hid g3
    clear g3 h hy
    go_enter Try.func29, Try.ntmps29
    go_wp2_with fail
    refine HF.out.mono ?_
    rintro e w1 ⟨rfl, hx1⟩
    go_wp2_with fail
    refine (HS.out _).mono ?_
    rintro e w2 ⟨rfl, hx2⟩
    go_wp2
    go_ret2
    exact ⟨rfl, hx1.trans hx2⟩

theorem cmp_len (k : Nat) (l : List UInt8) : (Cd.cmp k l).length ≤ 2 := by
  unfold Cd.cmp; split <;> simp
theorem compI_len (k : Int) (l : List UInt8) : (Cd.compI k l).1.length ≤ 2 := by
  unfold Cd.compI Cd.comp
  repeat' split
  all_goals first | exact cmp_len _ _ | simp
theorem compI_ok (k : Int) (l : List UInt8) (h : (Cd.compI k l).2 = 0) : l.length ≤ 4096 := by
  unfold Cd.compI Cd.comp at h
  repeat' split at h
  all_goals first | omega | simp at h

set_option maxHeartbeats 400000 in
theorem append_any (k : Int) (s : ByteArray) (w : World) (hs : s.size ≤ 9223372036854775807) :
    Calls Try.prog 23 #[.int .i64 k, .string s] w fun e w' => e = .returned (.tuple #[.string ⟨(Cd.app k s.data.toList).1.toArray⟩, .int .i64 (Cd.app k s.data.toList).2]) ∧ Ext w w' := by
  have HC := Lib.hid (compute_any k s w hs)
  have hl := compI_len k s.data.toList
  have hok := compI_ok k s.data.toList
  have HA := Lib.hid (Cd.app.eq_1 k s.data.toList)
  rw [len_data] at HA hok
  generalize Cd.compI k s.data.toList = r at *
  obtain ⟨c, x⟩ := r
  dsimp only at HA hl hok HC
  by_cases h0 : x = 0
  · have hok' := hok h0
    subst h0
    rw [if_pos rfl] at HA
    have hcs : (⟨c.toArray⟩ : ByteArray).size = c.length := by simp [ByteArray.size]
    by_cases h4 : 4096 < s.size + c.length
    · rw [if_pos h4] at HA
      clear hok hcs
      go_enter Try.func23, Try.ntmps23
      go_wp2_with fail
      refine HC.out.mono ?_
      rintro e w1 ⟨rfl, hx1⟩
      go_wp2
      go_ret2
      exact ⟨by rw [HA.out]; rfl, hx1⟩
    · rw [if_neg h4] at HA
      have hX := Lib.hid (show s ++ ⟨c.toArray⟩ = (⟨(s.data.toList ++ c).toArray⟩ : ByteArray) from bytes_ext (by simp))
      clear hok hcs
      go_enter Try.func23, Try.ntmps23
      go_wp2_with fail
      refine HC.out.mono ?_
      rintro e w1 ⟨rfl, hx1⟩
      go_wp2
      go_ret2
      exact ⟨by rw [HA.out]; exact ret_pair hX.out rfl, hx1⟩
  · rw [if_neg h0] at HA
    have hb : (x != 0) = true := by simpa using h0
    clear hok h0
    go_enter Try.func23, Try.ntmps23
    go_wp2_with fail
    refine HC.out.mono ?_
    rintro e w1 ⟨rfl, hx1⟩
    go_wp2
    go_ret2
    exact ⟨by rw [HA.out]; rfl, hx1⟩

def allDigB (s : ByteArray) : Bool := s.data.toList.all fun c => Cd.isDig c.toNat

set_option maxHeartbeats 400000 in
theorem all_digit (s : ByteArray) (w : World) (hs : s.size ≤ 9223372036854775807) :
    Calls Try.prog 34 #[.string s, .func (.func 39) #[] #[]] w fun e w' => e = .returned (.bool (allDigB s)) ∧ w = w' := by
  go_enter Try.func34, Try.ntmps34
  go_wp2
  go_loop [8] (fun i => ∃ k : Nat, k ≤ s.size ∧ i = .int .i64 k ∧ Hid ((s.data.toList.take k).all (fun c => Cd.isDig c.toNat) = true)) (fun i => s.size - (intOf i).toNat)
  case atStart => exact ⟨0, Nat.zero_le _, rfl, rfl⟩
  case round =>
    obtain ⟨k, hk, rfl, ha⟩ := hrel
    by_cases hlt : k < s.size
    · have H3 := Lib.hid (digit_any (s[k].toNat : Int))
      have HA := Lib.hid (all_take_succ s (fun c => Cd.isDig c.toNat) k hlt)
      have HF := Lib.hid (all_false_at s (fun c => Cd.isDig c.toNat) k hlt)
      cases hp : Cd.isDig (s[k].toNat : Int)
      · rw [hp] at H3
        have HP := Lib.hid hp
        clear hp
        go_wp2_with fail
        refine (H3.out _).mono ?_
        rintro e w1 ⟨rfl, rfl⟩
        go_wp2
        go_ret
        exact ⟨ret_bool (HF.out HP.out).symm, rfl⟩
      · rw [hp] at H3
        have HP := Lib.hid hp
        clear hp
        go_wp2_with fail
        refine (H3.out _).mono ?_
        rintro e w1 ⟨rfl, rfl⟩
        go_wp2
        go_round
        case rel => exact ⟨k + 1, by omega, by go_num, by show _ = _; rw [HA.out, ha.out]; simpa using HP.out⟩
        case measure => simp [intOf]; omega
    · obtain rfl : k = s.size := by omega
      rw [take_all] at ha
      clear hk hlt
      go_wp2
      go_ret
      exact ⟨ret_bool ha.out.symm, rfl⟩

/-- A slice of ints that reads as a list. -/
def IntsAt (w : World) (v : Value) (ws : List Int) : Prop :=
  (ws = [] ∧ ∃ a c, v = .slice a 0 c) ∨ ∃ b off cap, v = .slice (some ⟨b, off, none⟩) ws.length cap ∧ b < w.heap.size ∧ ∀ i, i < ws.length → w.cell? ⟨b, off + i, none⟩ = some (.int .i64 (ws.getD i 0))
theorem IntsAt.ext {w w' : World} {v : Value} {ws : List Int} (h : IntsAt w v ws) (hx : Ext w w') : IntsAt w' v ws := by
  rcases h with h | ⟨b, off, cap, h1, h2, h3⟩
  · exact .inl h
  · exact .inr ⟨b, off, cap, h1, Nat.lt_of_lt_of_le h2 hx.size, fun i hi => by rw [hx.cell (p := ⟨b, off + i, none⟩) h2]; exact h3 i hi⟩

theorem ret_two {x y a b : Int} (h1 : x = a) (h2 : y = b) : Ending.returned (.tuple #[.int .i64 x, .int .i64 y]) = .returned (.tuple #[.int .i64 a, .int .i64 b]) := by rw [h1, h2]

set_option maxRecDepth 100000 in
set_option maxHeartbeats 1000000 in
theorem weighted_any (s : ByteArray) (v : Value) (ws : List Int) (m : Int) (w : World) (hs : s.size ≤ 9223372036854775807) (hv : IntsAt w v ws) (hws : ws.length ≤ 1000000) :
    Calls Try.prog 15 #[.string s, v, .int .i64 m] w fun e w' => e = .returned (.tuple #[.int .i64 (Cd.wsum s.data.toList ws m).1, .int .i64 (Cd.wsum s.data.toList ws m).2]) ∧ w = w' := by
  have HV := Lib.hid (Cd.wsum.eq_1 s.data.toList ws m)
  rw [len_data] at HV
  generalize Cd.wsum s.data.toList ws m = r at *
  obtain ⟨a0, c0, n0, hvl, hlen⟩ : ∃ a c n, v = .slice a n c ∧ n = ws.length := by
    rcases hv with ⟨rfl, a, c, rfl⟩ | ⟨b, off, cap, rfl, _⟩
    · exact ⟨a, c, 0, rfl, rfl⟩
    · exact ⟨_, _, _, rfl, rfl⟩
  by_cases hm : m < 1 ∨ 65536 < m
  · rw [if_pos hm] at HV
    subst hvl
    clear hv
    by_cases h1 : m < 1
    · go_enter Try.func15, Try.ntmps15
      go_wp2
      go_ret2
      exact ⟨by rw [HV.out]; rfl, rfl⟩
    · have h2 : 65536 < m := by omega
      clear hm
      go_enter Try.func15, Try.ntmps15
      go_wp2
      go_ret2
      exact ⟨by rw [HV.out]; rfl, rfl⟩
  · rw [if_neg hm] at HV
    have hm1 : 1 ≤ m := by omega
    have hm2 : m ≤ 65536 := by omega
    clear hm
    by_cases he : ws = []
    · rw [if_pos he] at HV
      subst he hvl
      subst hlen
      clear hv
      go_enter Try.func15, Try.ntmps15
      go_wp2
      go_ret2
      exact ⟨by rw [HV.out]; rfl, rfl⟩
    · rw [if_neg he] at HV
      rcases hv with ⟨h0, _⟩ | ⟨b, off, cap, hvv, hb, hcell⟩
      · exact absurd h0 he
      clear hvl hlen
      subst hvv
      have hpos : 0 < ws.length := List.length_pos_iff.2 he
      have hne : ((ws.length : Int) == 0) = false := by simpa using he
      clear he
      by_cases hl : 4096 < s.size
      · rw [if_pos hl] at HV
        go_enter Try.func15, Try.ntmps15
        go_wp2
        go_ret2
        exact ⟨by rw [HV.out]; rfl, rfl⟩
      · rw [if_neg hl] at HV
        have hl' : s.size ≤ 4096 := by omega
        have HC := Lib.hid hcell
        clear hl hcell
        have HAD := Lib.hid (all_digit s w hs)
        cases hda : allDigB s
        · have hda' : (s.data.toList.all fun c => Cd.isDig c.toNat) = false := hda
          rw [if_pos hda'] at HV
          rw [hda] at HAD
          clear hda hda'
          go_enter Try.func15, Try.ntmps15
          go_wp2_with fail
          refine HAD.out.mono ?_
          rintro e w1 ⟨rfl, rfl⟩
          go_wp2
          go_ret2
          exact ⟨by rw [HV.out]; rfl, rfl⟩
        · have hda' : (s.data.toList.all fun c => Cd.isDig c.toNat) = true := hda
          have HD := Lib.hid (allDig_of (List.all_eq_true.1 hda'))
          rw [if_neg (by rw [hda']; exact Bool.noConfusion)] at HV
          rw [hda] at HAD
          clear hda hda'
          go_enter Try.func15, Try.ntmps15
          go_wp2_with fail
          refine HAD.out.mono ?_
          rintro e w1 ⟨rfl, rfl⟩
          go_wp2
          go_loop [8, 29] (fun t i => ∃ j : Nat, j ≤ s.size ∧ i = .int .i64 (j : Int) ∧ t = .int .i64 (Cd.wsP ws m (s.data.toList.drop (s.size - j)))) (fun _ i => s.size - (intOf i).toNat)
          case atStart => exact ⟨0, Nat.zero_le _, rfl, by rw [Nat.sub_zero, drop_all]; rfl⟩
          case round =>
            obtain ⟨j, hj, rfl, rfl⟩ := hrel
            have hb1 := Cd.wsP_bd ws m (s.data.toList.drop (s.size - j)) hm1
            by_cases hlt : j < s.size
            · obtain ⟨hx1, hx2⟩ := HD.out _ (mem_at s (s.size - 1 - j) (by omega))
              have hs1 : Cd.wsP ws m (s.data.toList.drop (s.size - (j + 1))) = (Cd.wsP ws m (s.data.toList.drop (s.size - j)) + Cd.dg (s[s.size - 1 - j]'(by omega)) * Cd.wt ws m j) % m := by
                have e1 : s.size - (j + 1) = s.size - 1 - j := by omega
                rw [e1, drop_cons s (s.size - 1 - j) (by omega)]
                have e2 : s.size - 1 - j + 1 = s.size - j := by omega
                rw [e2, Cd.wsP, len_drop, show s.size - (s.size - j) = j by omega]
              have hq : j % ws.length < ws.length := Nat.mod_lt _ hpos
              have hcell := HC.out (j % ws.length) hq
              have hwt : Cd.wt ws m j = ((ws.getD (j % ws.length) 0).tmod m + m) % m := rfl
              have hwb := Cd.wt_bd ws m j hm1
              rw [hwt] at hs1 hwb
              have ht := Cd.tmod_bd (ws.getD (j % ws.length) 0) m hm1
              generalize ws.getD (j % ws.length) 0 = x at *
              generalize Cd.wsP ws m (s.data.toList.drop (s.size - j)) = g at *
              have em : (x.tmod m + m) % m = x.tmod m % m := by simp
              rw [em] at hs1 hwb
              clear em
              have hp1 : 0 ≤ (((s[s.size - 1 - j]'(by omega)).toNat : Int) - 48) * (x.tmod m % m) := Int.mul_nonneg (by omega) hwb.1
              have hp2 : (((s[s.size - 1 - j]'(by omega)).toNat : Int) - 48) * (x.tmod m % m) ≤ 9 * 65536 := Int.mul_le_mul (by omega) (by omega) hwb.1 (by omega)
              have HS := Lib.hid hs1
              clear hs1 hwt
              obtain ⟨hb1a, hb1b⟩ := hb1
              obtain ⟨hta, htb⟩ := ht
              obtain ⟨hwa, hwb⟩ := hwb
              go_wp2
              go_round
              case rel => exact ⟨j + 1, by omega, by go_num, by rw [HS.out]; rfl⟩
              case measure => simp [intOf]; omega
            · obtain rfl : j = s.size := by omega
              rw [Nat.sub_self, List.drop_zero] at hb1 ⊢
              clear hj hlt
              go_wp2
              go_ret2
              exact ⟨by rw [HV.out]; rfl, rfl⟩
end Go.Proofs.Ytciogogpoiijcaa
