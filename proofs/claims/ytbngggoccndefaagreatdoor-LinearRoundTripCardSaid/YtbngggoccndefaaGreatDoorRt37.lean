/-
  Laid.
-/
import Derived.Test.YtbngggoccndefaaGreatDoorRt13
import Derived.Test.YtbngggoccndefaaGreatDoorRt36
set_option maxHeartbeats 8000000
set_option maxRecDepth 100000
set_option linter.all false
namespace Go.Proofs.YtbngggoccndefaaGreatDoor
open Go.Proofs.Tryz
section
open Go.RowKit
theorem Own.off {T T2:TypeId} {w:World} {B g:Nat} {v:Value} {xs:List Value} {cs:Array Value} {fr:Nat×Nat} (h:Own T w B v xs) (hg:w.heap[g]? =some (.cells cs T2 fr)) (hne:T≠T2):v.ownBlock≠some g:=by
 intro e;rcases h.2 with⟨h1,_⟩|⟨k,cap,cur,h1,_,h2,_⟩;·rw[h1]at e;cases e
 ·rw[h1]at e;simp only[Value.ownBlock,A2]at e;subst e;rw[h2]at hg;simp only[A2,Obj.cells.injEq]at hg;exact hne hg.2.1
theorem Own.set {T T2:TypeId} {w:World} {B g:Nat} {v:Value} {xs:List Value} {cs:Array Value} {fr:Nat×Nat} (h:Own T w B v xs) (hg:w.heap[g]? =some (.cells cs T2 fr)) (hne:T≠T2) (i:Nat) (u:Value):Own T (w.setCell ⟨g,i,none⟩ u) B v xs:=
 h.kept (ZC w g i u) (.inr (h.off hg hne))
end
end Go.Proofs.YtbngggoccndefaaGreatDoor
