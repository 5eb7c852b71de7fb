/-
  Chapter 12: the law TwowidthLimits, walked.
  No condition.
-/
import Derived.Test.YthjlnpcaclfopaaGreatTwL6
import Derived.Test.YthjlnpcaclfopaaGreatTwL1
import Derived.Test.YthjlnpcaclfopaaGreatTwR1
namespace Go.Proofs.YthjlnpcaclfopaaGreat
open Go.RowKit

def repS (c : UInt8) (n : Nat) : ByteArray := ⟨(List.replicate n c).toArray⟩
theorem repS_list (c : UInt8) (n : Nat) : (repS c n).data.toList = List.replicate n c := by simp [repS]
theorem repS_size (c : UInt8) (n : Nat) : (repS c n).size = n := by rw [← len_data, repS_list, List.length_replicate]
theorem repS_snoc (c : UInt8) (n : Nat) : repS c n ++ ⟨#[c]⟩ = repS c (n + 1) := bytes_ext (by rw [app2, repS_list, repS_list, List.replicate_succ'])

set_option maxHeartbeats 1000000 in
theorem repeated_any (c : UInt8) (n : Nat) (w : World) (hn : n ≤ 100000) :
    Calls Tryz.prog 13 #[.string ⟨#[c]⟩, .int .i64 (n : Int)] w fun e w' => e = .returned (.string (repS c n)) ∧ w = w' := by
  go_enter Tryz.func13, Tryz.ntmps13
  go_wp2
  go_loop [6, 5] (fun i x => ∃ j : Nat, j ≤ n ∧ i = .int .i64 (j : Int) ∧ x = .string (repS c j)) (fun i _ => n - (intOf i).toNat)
  case atStart => exact ⟨0, Nat.zero_le _, rfl, rfl⟩
  case round =>
    obtain ⟨j, hj, rfl, rfl⟩ := hrel
    have hsz := repS_size c j
    have HS := Lib.hid (repS_snoc c j)
    by_cases hlt : j < n
    · generalize repS c j = R at *
      go_wp2
      rw [HS.out]
      go_round
      case rel => exact ⟨j + 1, by omega, by go_num, rfl⟩
      case measure => simp [intOf]; omega
    · obtain rfl : j = n := by omega
      clear hj hlt
      go_wp2
      go_ret
      exact ⟨rfl, rfl⟩

theorem seven_only (n : Nat) : Tw.only (List.replicate n 55) Cd.syms = true := by
  rw [only_all, List.all_eq_true]
  intro c hc
  rw [List.eq_of_mem_replicate hc]
  decide
theorem enc_long (n : Nat) (check : Bool) (h : 1000 < n) : Tw.enc 5 (List.replicate n 55) 2 check = ([], 4) := by
  show Tw.encK 0 _ 2 check = _
  unfold Tw.encK
  rw [if_neg (by decide), if_neg (by intro e; have := congrArg List.length e; simp at this; omega), List.length_replicate, if_pos h]
theorem enc_short (n : Nat) (check : Bool) (h0 : 1 ≤ n) (h : n ≤ 1000) : (Tw.enc 5 (List.replicate n 55) 2 check).2 = 0 := by
  show (Tw.encK 0 _ 2 check).2 = _
  unfold Tw.encK
  have hc : (Tw.compK 0 (List.replicate n 55) check).2 = 0 := by
    show (Tw.comp39 _ check).2 = 0
    rw [comp39_err _ _ (by rw [List.length_replicate]; exact h0) (by rw [List.length_replicate]; exact h), if_pos (seven_only n)]
  rw [if_neg (by decide), if_neg (by intro e; have := congrArg List.length e; simp at this; omega), List.length_replicate, if_neg (by omega), if_neg (by rw [hc]; exact fun e => e rfl)]
theorem enc_back (n : Nat) (check : Bool) (h0 : 1 ≤ n) (h : n ≤ 1000) : Tw.dec 5 (Tw.enc 5 (List.replicate n 55) 2 check).1 check = (List.replicate n 55, 0) := by
  obtain ⟨k, chars, hk, hc, hws, hr, hsy⟩ := enc_sym 5 (List.replicate n 55) 2 check _ (Prod.ext rfl (enc_short n check h0 h) : Tw.enc 5 (List.replicate n 55) 2 check = ((Tw.enc 5 (List.replicate n 55) 2 check).1, 0))
  rw [dec_kind 5 k hk, hws]
  have hw := wide_scaled (Tw.drawK k chars) 2 1 hr ⟨by omega, by omega⟩ (hsy.both 0).1.1 (hsy.both 0).1.2
  have e1 : (Tw.widths 2 (Tw.drawK k chars)).map (· * 1) = Tw.widths 2 (Tw.drawK k chars) := by simp
  rw [e1] at hw
  exact dec_ok k _ check chars hsy hc _ hw (by simp [Tw.widths])

end Go.Proofs.YthjlnpcaclfopaaGreat
