/-
  Chapter 51: Parse of a text that is too long: the program.
  No condition.
-/
import Derived.Test.YtkpfehfcgpapiaaGreatDoorFmVi
namespace Go.Proofs.YtkpfehfcgpapiaaGreatDoor
set_option linter.unusedVariables false
open Go.RowKit

set_option maxRecDepth 100000 in
set_option maxHeartbeats 1000000 in
theorem fparse_long (T : ByteArray) (w : World) (hs : 65536 < T.size) :
    Calls Tryz.prog 20 #[.string T] w fun e w' => e = .returned (.tuple #[.agg #[.string ⟨#[]⟩, .slice none 0 0, .slice none 0 0], .int .i64 4]) ∧ Ext w w' := by
  have z0 : (65536 : Int) < (T.size : Int) := by omega
  have rr := heap_alloc_new w (.cells #[.string ⟨#[]⟩, .slice none 0 0, .slice none 0 0] 25)
  have HRR := Lib.hid rr
  clear hs rr
  go_enter Tryz.func20, Tryz.ntmps20
  go_wp2_with fail
  refine bodyPost_ret (results_st Tryz.results20 rfl rfl (load_frm HRR.out)) rfl ?_
  exact ⟨rfl, (Ext.refl w).alloc _⟩
end Go.Proofs.YtkpfehfcgpapiaaGreatDoor
