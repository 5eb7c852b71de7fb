/-
  The law CheckdigitVerifies, walked.
  Condition: the string is within the reach.
-/
import Derived.Test.YtciogogpoiijcaaCdEx
import Derived.Test.YtciogogpoiijcaaCdR5
namespace Go.Proofs.Ytciogogpoiijcaa
open Go.RowKit

set_option maxHeartbeats 400000 in
theorem law_verifies (k : Int) (s : ByteArray) (w : World) (hs : s.size ≤ 9223372036854775807) :
    Calls Try.prog 3 #[.int .i64 k, .string s] w fun e w' => e = .returned (.bool true) ∧ Ext w w' := by
  by_cases hl : 300 < s.size
  · go_enter Try.func3, Try.ntmps3
    go_wp2_with fail
    refine (examples_any _).mono ?_
    rintro e w1 ⟨rfl, hx1⟩
    go_wp2
    go_ret
    exact ⟨rfl, hx1⟩
  · have hb : ∀ x : Int, (x == x) = true := fun x => beq_self_eq_true x
    have HB := hb (Cd.verI k s.data.toList)
    clear hb
    go_enter Try.func3, Try.ntmps3
    go_wp2_with fail
    refine (verify_any k s _ hs).mono ?_
    rintro e w1 ⟨rfl, hx1⟩
    go_wp2_with fail
    refine (rverify_any k s _ hs).mono ?_
    rintro e w2 ⟨rfl, hx2⟩
    go_wp2_with fail
    refine (examples_any _).mono ?_
    rintro e w3 ⟨rfl, hx3⟩
    go_wp2
    go_ret
    exact ⟨rfl, (hx1.trans hx2).trans hx3⟩
end Go.Proofs.Ytciogogpoiijcaa
