/-
  Weighted of the reference, and the law CheckdigitWeighs, walked.
  Conditions: the string is within the reach; the weights are readable.
-/
import Derived.Test.YtciogogpoiijcaaCdL2
namespace Go.Proofs.Ytciogogpoiijcaa
open Go.RowKit

set_option maxHeartbeats 400000 in
theorem value_at (s : ByteArray) (i : Nat) (w : World) (hs : s.size ≤ 9223372036854775807) (h : i < s.size) (hx1 : 48 ≤ (s[s.size - 1 - i]'(by omega)).toNat) (hx2 : (s[s.size - 1 - i]'(by omega)).toNat ≤ 57) :
    Calls Try.prog 41 #[.string s, .int .i64 (i : Int)] w fun e w' => e = .returned (.int .i64 (((s[s.size - 1 - i]'(by omega)).toNat : Int) - 48)) ∧ w = w' := by
  go_enter Try.func41, Try.ntmps41
  go_wp2
  go_ret
  exact ⟨rfl, rfl⟩

set_option maxRecDepth 100000 in
set_option maxHeartbeats 1000000 in
theorem rweighted_any (s : ByteArray) (v : Value) (ws : List Int) (m : Int) (w : World) (hs : s.size ≤ 9223372036854775807) (hv : IntsAt w v ws) (hws : ws.length ≤ 1000000) :
    Calls Try.prog 16 #[.string s, v, .int .i64 m] w fun e w' => e = .returned (.tuple #[.int .i64 (Cd.wsum s.data.toList ws m).1, .int .i64 (Cd.wsum s.data.toList ws m).2]) ∧ Ext w w' := by
  have HV := Lib.hid (Cd.wsum.eq_1 s.data.toList ws m)
  rw [len_data] at HV
  generalize Cd.wsum s.data.toList ws m = r at *
  obtain ⟨a0, c0, n0, hvl, hlen⟩ : ∃ a c n, v = .slice a n c ∧ n = ws.length := by
    rcases hv with ⟨rfl, a, c, rfl⟩ | ⟨b, off, cap, rfl, _⟩
    · exact ⟨a, c, 0, rfl, rfl⟩
    · exact ⟨_, _, _, rfl, rfl⟩
  by_cases hm : m < 1 ∨ 65536 < m
  · rw [if_pos hm] at HV
    subst hvl
    clear hv
    by_cases h1 : m < 1
    · go_enter Try.func16, Try.ntmps16
      go_wp2
      go_ret2
      exact ⟨by rw [HV.out]; rfl, Ext.refl _⟩
    · have h2 : 65536 < m := by omega
      clear hm
      go_enter Try.func16, Try.ntmps16
      go_wp2
      go_ret2
      exact ⟨by rw [HV.out]; rfl, Ext.refl _⟩
  · rw [if_neg hm] at HV
    have hm1 : 1 ≤ m := by omega
    have hm2 : m ≤ 65536 := by omega
    clear hm
    by_cases he : ws = []
    · rw [if_pos he] at HV
      subst he hvl
      subst hlen
      clear hv
      go_enter Try.func16, Try.ntmps16
      go_wp2
      go_ret2
      exact ⟨by rw [HV.out]; rfl, Ext.refl _⟩
    · rw [if_neg he] at HV
      rcases hv with ⟨h0, _⟩ | ⟨b, off, cap, hvv, hb, hcell⟩
      · exact absurd h0 he
      clear hvl hlen
      subst hvv
      have hpos : 0 < ws.length := List.length_pos_iff.2 he
      have hne : ((ws.length : Int) == 0) = false := by simpa using he
      clear he
      by_cases hl : 4096 < s.size
      · rw [if_pos hl] at HV
        go_enter Try.func16, Try.ntmps16
        go_wp2
        go_ret2
        exact ⟨by rw [HV.out]; rfl, Ext.refl _⟩
      · rw [if_neg hl] at HV
        have hl' : s.size ≤ 4096 := by omega
        have HC := Lib.hid hcell
        have HB := Lib.hid hb
        clear hl hcell hb
        go_enter Try.func16, Try.ntmps16
        go_wp2
        go_loopw [8, 9] (fun t i wr => ∃ j : Nat, j ≤ s.size ∧ i = .int .i64 (j : Int) ∧ t = .int .i64 (Cd.wsP ws m (s.data.toList.drop (s.size - j))) ∧ Hid ((s.data.toList.drop (s.size - j)).all (fun c => Cd.isDig c.toNat) = true) ∧ Ext w wr) (fun _ i _ => s.size - (intOf i).toNat)
        case atStart => exact ⟨0, Nat.zero_le _, rfl, by rw [Nat.sub_zero, drop_all]; rfl, by rw [Nat.sub_zero, drop_all]; rfl, Ext.refl _⟩
        case round =>
          obtain ⟨j, hj, rfl, rfl, hall, hxw⟩ := hrel
          have hb1 := Cd.wsP_bd ws m (s.data.toList.drop (s.size - j)) hm1
          by_cases hlt : j < s.size
          · have hdb := drop_back s j hlt
            have HR := Lib.hid (rdigit_any ((s[s.size - 1 - j]'(by omega)).toNat : Int))
            cases hdg : Cd.isDig ((s[s.size - 1 - j]'(by omega)).toNat : Int)
            · rw [hdg] at HR
              have hno : (s.data.toList.all fun c => Cd.isDig c.toNat) = false := all_false_at s (fun c => Cd.isDig c.toNat) (s.size - 1 - j) (by omega) hdg
              rw [if_pos hno] at HV
              clear hdb hno hdg
              go_wp2_with fail
              refine (HR.out _).mono ?_
              rintro e w1 ⟨rfl, rfl⟩
              go_wp2
              go_ret2
              exact ⟨by rw [HV.out]; rfl, hxw⟩
            · rw [hdg] at HR
              have hall2 : Hid ((s.data.toList.drop (s.size - (j + 1))).all (fun c => Cd.isDig c.toNat) = true) := by
                show _ = _; rw [hdb, List.all_cons, hall.out, hdg]; rfl
              have hbd : 48 ≤ (s[s.size - 1 - j]'(by omega)).toNat ∧ (s[s.size - 1 - j]'(by omega)).toNat ≤ 57 := by
                simp only [Cd.isDig, Bool.and_eq_true, decide_eq_true_eq] at hdg; omega
              obtain ⟨hx1, hx2⟩ := hbd
              have HVA := Lib.hid (fun w => value_at s j w hs hlt hx1 hx2)
              have hs1 : Cd.wsP ws m (s.data.toList.drop (s.size - (j + 1))) = (Cd.wsP ws m (s.data.toList.drop (s.size - j)) + Cd.dg (s[s.size - 1 - j]'(by omega)) * Cd.wt ws m j) % m := by
                rw [hdb, Cd.wsP, len_drop, show s.size - (s.size - j) = j by omega]
              have hq : j % ws.length < ws.length := Nat.mod_lt _ hpos
              have hcell : ∀ x : Ahead wr, x.at'.cell? ⟨b, off + j % ws.length, none⟩ = some (.int .i64 (ws.getD (j % ws.length) 0)) := fun x => by
                rw [(hxw.trans x.ext).cell (p := ⟨b, off + j % ws.length, none⟩) HB.out]; exact HC.out _ hq
              have hwt : Cd.wt ws m j = ((ws.getD (j % ws.length) 0).tmod m + m) % m := rfl
              have hwb := Cd.wt_bd ws m j hm1
              rw [hwt] at hs1 hwb
              have ht := Cd.tmod_bd (ws.getD (j % ws.length) 0) m hm1
              generalize ws.getD (j % ws.length) 0 = x at *
              generalize Cd.wsP ws m (s.data.toList.drop (s.size - j)) = g at *
              have em : (x.tmod m + m) % m = x.tmod m % m := by simp
              rw [em] at hs1 hwb
              clear em
              unfold Cd.dg at hs1
              generalize hdd : ((s[s.size - 1 - j]'(by omega)).toNat : Int) - 48 = d at *
              have hd1 : 0 ≤ d := by omega
              have hd2 : d ≤ 9 := by omega
              have HDD := Lib.hid hdd
              have hp1 : 0 ≤ d * (x.tmod m % m) := Int.mul_nonneg hd1 hwb.1
              have hp2 : d * (x.tmod m % m) ≤ 9 * 65536 := Int.mul_le_mul hd2 (by omega) hwb.1 (by omega)
              have HS := Lib.hid hs1
              clear hs1 hwt hdb hdg hdd
              obtain ⟨hb1a, hb1b⟩ := hb1
              obtain ⟨hta, htb⟩ := ht
              obtain ⟨hwa, hwb⟩ := hwb
              go_wp2_with fail
              refine (HR.out _).mono ?_
              rintro e w1 ⟨rfl, rfl⟩
              go_wp2
              refine wp_region_quiet (C := fun w' => ∃ x : Ahead wr, w' = x.at') (by kernel_rfl) (by kernel_rfl) (Ahead.drawn _) ?_
              try dsimp only
              repeat (first | go_big_quiet_step ((go_at_call 41; exact ahead_of ((HVA.out _).mono fun _ _ h => ⟨h.1, h.2 ▸ Ext.refl _⟩))) | quiet_step ((go_at_call 41; exact ahead_of ((HVA.out _).mono fun _ _ h => ⟨h.1, h.2 ▸ Ext.refl _⟩))))
              refine wpQuiet_nil ?_
              intro _ hx0
              obtain ⟨x0, hx0⟩ := hx0
              subst hx0
              obtain ⟨w3, hx3⟩ := x0
              try dsimp only
              go_wp2
              go_roundw
              case rel => exact ⟨j + 1, by omega, by go_num, by rw [HS.out], hall2, hxw.trans hx3⟩
              case measure => simp [intOf]; omega
          · obtain rfl : j = s.size := by omega
            rw [Nat.sub_self, List.drop_zero] at hb1 hall ⊢
            rw [if_neg (by rw [hall.out]; exact Bool.noConfusion)] at HV
            clear hj hlt
            go_wp2
            go_ret2
            exact ⟨by rw [HV.out]; rfl, hxw⟩

set_option maxRecDepth 100000 in
set_option maxHeartbeats 1000000 in
theorem law_weighs (s : ByteArray) (v : Value) (ws : List Int) (m : Int) (w : World) (hs : s.size ≤ 9223372036854775807) (hv : IntsAt w v ws) :
    Calls Try.prog 4 #[.string s, v, .int .i64 m] w fun e w' => e = .returned (.bool true) ∧ Ext w w' := by
  obtain ⟨a0, c0, n0, hvl, hlen⟩ : ∃ a c n, v = .slice a n c ∧ n = ws.length := by
    rcases hv with ⟨rfl, a, c, rfl⟩ | ⟨b, off, cap, rfl, _⟩
    · exact ⟨a, c, 0, rfl, rfl⟩
    · exact ⟨_, _, _, rfl, rfl⟩
  subst hvl
  by_cases hl : 300 < s.size
  · clear hv hlen
    go_enter Try.func4, Try.ntmps4
    go_wp2_with fail
    refine (examples_any _).mono ?_
    rintro e w1 ⟨rfl, hx1⟩
    go_wp2
    go_ret
    exact ⟨rfl, hx1⟩
  · by_cases hw : 100 < n0
    · clear hv hlen
      go_enter Try.func4, Try.ntmps4
      go_wp2_with fail
      refine (examples_any _).mono ?_
      rintro e w1 ⟨rfl, hx1⟩
      go_wp2
      go_ret
      exact ⟨rfl, hx1⟩
    · have H1 := Lib.hid (weighted_any s _ ws m w hs hv (by omega))
      have H2 := Lib.hid (fun w' hx => rweighted_any s _ ws m w' hs (IntsAt.ext hv hx) (by omega))
      generalize (Cd.wsum s.data.toList ws m).1 = x1 at *
      generalize (Cd.wsum s.data.toList ws m).2 = x2 at *
      have b1 := int_refl x1
      have b2 := int_refl x2
      have hw' : n0 ≤ 100 := by omega
      clear hv hlen hw
      go_enter Try.func4, Try.ntmps4
      go_wp2_with fail
      refine H1.out.mono ?_
      rintro e w1 ⟨rfl, rfl⟩
      go_wp2_with fail
      refine (H2.out _ (Ext.refl _)).mono ?_
      rintro e w2 ⟨rfl, hx2⟩
      go_wp2_with fail
      refine (examples_any _).mono ?_
      rintro e w3 ⟨rfl, hx3⟩
      go_wp2
      go_ret
      exact ⟨rfl, hx2.trans hx3⟩
end Go.Proofs.Ytciogogpoiijcaa
