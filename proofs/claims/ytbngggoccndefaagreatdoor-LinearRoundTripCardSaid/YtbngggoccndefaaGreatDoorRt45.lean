/-
  Laid.
-/
import Derived.Test.YtbngggoccndefaaGreatDoorRt24
import Derived.Test.YtbngggoccndefaaGreatDoorRt44
set_option maxHeartbeats 8000000
set_option maxRecDepth 100000
set_option linter.all false
section
namespace Go.Proofs.YtbngggoccndefaaGreatDoor
open Go.Proofs.Tryz
end Go.Proofs.YtbngggoccndefaaGreatDoor
namespace Go.Proofs.YtbngggoccndefaaGreatDoor
open Go.Proofs.Tryz
open Go.RowKit
theorem FZ {fn:Func} {p u z:Tmp} (h:fn.results= #[.cell p 33,.tmp u,.tmp z]) {tmps:Array Value} {w:World} {g:Nat} {t:TypeId} {x y q e f:Value}
 (hp:tmps.getD p undef=.pointer (some ⟨g,0,none⟩)) (hg:w.heap[g]? =some (.cells #[x,y,q] t (0,0))) (he:tmps.getD u undef=e) (hf:tmps.getD z undef=f):
 (results fn tmps).run prog w=.ok (.tuple #[.agg #[x,y,q],e,f]) w:=by
 have h1:(results fn tmps).run prog w=((asAddr (tmps.getD p undef)).run prog w).andThen fun a w₁=>((loadVar 33 a).run prog w₁).andThen fun v w₂=>.ok (.tuple #[v,tmps.getD u undef,tmps.getD z undef]) w₂:=by simp only[results,h];simp[SG,Result.andThen]
 rw[h1,hp,he,hf]
 simp only[asAddr,SH,SI]
 rw[JQ w g t _ #[x,y,q] (0,0) _ hg underlying33 rfl M0]
 rfl
end Go.Proofs.YtbngggoccndefaaGreatDoor
end
