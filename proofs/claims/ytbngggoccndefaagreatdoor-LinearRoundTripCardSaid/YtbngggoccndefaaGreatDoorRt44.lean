/-
  Laid.
-/
import Derived.Test.YtbngggoccndefaaGreatDoorRt36
set_option maxHeartbeats 8000000
set_option maxRecDepth 100000
set_option linter.all false
namespace Go.Proofs.YtbngggoccndefaaGreatDoor
open Go.Proofs.Tryz
section
open Go.RowKit
theorem FX (w:World) (k j:Int) (a b c d:ByteArray):(binOp .eql 33 (.agg #[.int .i64 k,.string a,.string b]) (.agg #[.int .i64 j,.string c,.string d])).run prog w=.ok (.bool (k==j&&(a.toList==c.toList&&b.toList==d.toList))) w:=by
 have u9:=underlying9;have a9:=Tryz.isAgg9;have z9:=Tryz.sizeOf9;have u8:=underlying22;have a8:=Tryz.isAgg22;have z8:=Tryz.sizeOf22;have hS:prog.underlying 33=some (.struct (prog.fieldsOf 33)):=Y0
 have hp:prog.stoodInHeld 33=false:=Y0
 rw[run_eql_struct,show(10000:Nat)=9999+1 from rfl,run_equalIn_agg w 9999 33 _ _ hS hp];simp only[Program.fieldsOf,underlying33];go_simp;by_cases h0:k=j<;>by_cases h1:a.toList=c.toList<;>by_cases h2:b.toList=d.toList<;>simp[h0,h1,h2]
end
end Go.Proofs.YtbngggoccndefaaGreatDoor
