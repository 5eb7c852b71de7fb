/-
  Laid.
-/
import Derived.Test.YtbngggoccndefaaGreatDoorRt25
set_option maxHeartbeats 8000000
set_option maxRecDepth 100000
set_option linter.all false
namespace Go.Proofs.YtbngggoccndefaaGreatDoor
open Go.Proofs.Tryz
section
namespace Cc
theorem chOf_ge {v:Int} (h:0<=v) (s:Nat):0<=chOf v s:=by unfold chOf;exact L6
theorem step_ge {s s':Nat} {sh sh':Bool} {v:Int} {o:List Int} (h:stepC s sh v=some (s',sh',o)) (hv:0<=v):(∀c∈o,0<=c)∧o.length<=2:=by
 unfold stepC at h
 have one:∀ {a:Nat} {b:Bool} {x:Int},0<=x->some (a,b,[x])=some (s',sh',o)->(∀c∈o,0<=c)∧o.length<=2:=fun hx e=>by injection e with e;injection e with _ e;injection e with _ e;subst e;exact⟨fun c hc=>by rw[Y2]at hc;subst hc;exact hx,by simp⟩
 have non:∀ {a:Nat} {b:Bool},some (a,b,[])=some (s',sh',o)->(∀c∈o,0<=c)∧o.length<=2:=fun e=>by injection e with e;injection e with _ e;injection e with _ e;subst e;exact⟨(fun c hc=>by cases hc),by simp⟩
 cases sh with
 |true=>rw[G0 rfl]at h;split at h;(·cases h);·exact one (chOf_ge hv _) h
 |false=>rw[D0 J0]at h;split at h;(·cases h);split at h;(·exact one J0 h);split at h;(·injection h with h;injection h with _ h;injection h with _ h;subst h;refine⟨fun c hc=> ?_,by simp⟩;rcases U1.1 hc with rfl|hc;(·omega);·rw[Y2]at hc;subst hc;omega);split at h;(·exact one (chOf_ge hv _) h);split at h;(·exact one J0 h);split at h;(·exact one J0 h);split at h;(·exact non h);split at h;(·exact non h);split at h;(·exact non h);split at h;(·exact non h);exact one J0 h
theorem run_ge:∀(vs:List Int) (s:Nat) (sh:Bool) (out o:List Int),runC s sh out vs=some o->(∀v∈vs,0<=v)->(∀c∈out,0<=c)->(∀c∈o,0<=c)∧o.length<=out.length+2*vs.length
 | [],s,sh,out,o,h,hv,ho=>by rw[runC]at h;split at h;(·cases h);·injection h with h;subst h;exact⟨ho,by omega⟩
 |v::vs,s,sh,out,o,h,hv,ho=>by
  rw[runC]at h
  cases hs:stepC s sh v with
  |none=>rw[hs]at h;cases h
  |some t=>obtain⟨s',h',x⟩:=t;rw[hs]at h;obtain⟨h1,h2⟩:=step_ge hs (hv v (B1 ..));obtain⟨h3,h4⟩:=run_ge vs s' h' (out++x) o h (fun v hv'=>hv v (C1 _ hv')) (fun c hc=>by rcases M2.1 hc with hc|hc;(·exact ho c hc);·exact h1 c hc);refine⟨h3,?_⟩;rw[O0]at h4;rw[S0];omega
theorem chars_ge {vs cs:List Int} (h:chars vs=(cs,0)):(∀c∈cs,0<=c)∧cs.length<=2*vs.length:=by
 unfold chars at h;split at h;·exact D7
 rename_i h1;rw[XQ,S8]at h1;have hv:∀v∈vs,0<=v:=fun v hv=>by have:=h1 v hv;exact L7
 split at h;·exact D7
 split at h;·exact D7
 split at h;·exact D7
 split at h;·exact D7
 split at h;·exact D7
 ·rename_i o ho;injection h with h _;subst h;obtain⟨h2,h3⟩:=run_ge _ _ _ _ _ ho (fun v hv'=>hv v (L5 (X7 hv'))) (fun c hc=>by cases hc);refine⟨h2,?_⟩;rw[L2,L1,U2]at h3;omega
theorem vals_len:∀(n:Nat) (w l:List Int),valsGo n w=some l->l.length=n
 |0,w,l,h=>by injection h with h;subst h;rfl
 |n+1,w,l,h=>by
  rw[valsGo]at h;split at h;(·cases h)
  ·cases hr:valsGo n (w.drop 6)with
   |none=>rw[hr]at h;cases h
   |some r=>rw[hr]at h;injection h with h;subst h;rw[S0,vals_len n _ r hr]
theorem dec_ge {row:List Bool} {cs:List Int} (h:dec row=(cs,0)):(∀c∈cs,0<=c)∧cs.length<=(Rn.widths row).length:=by
 unfold dec at h;split at h;·exact D7
 split at h;·exact D7
 split at h;·exact D7
 rename_i hw;split at h;·exact D7
 split at h;·exact D7
 ·rename_i vs hv;obtain⟨h1,h2⟩:=chars_ge h;refine⟨h1,?_⟩;rw[O0,vals_len _ _ _ hv]at h2;simp only[S0,U2]at h2;omega
end Cc
end
section
open Go.RowKit Go.ChangeShapes Go.WideShapes Go.Deep Go.Joins
theorem sB:prog.globalNamed "strings.asciiSpace"=some 0:=Y0
theorem sC:(Rows.laid_strings_asciiSpace:DataW Unit)=Lib.tabData .u8 Lib.asciiSpaceTab:=Y0
theorem spaces_of {W:World} (h:laidMetH prog [("unicode.White_Space",Rows.laid_unicode_White_Space),("strings.asciiSpace",Rows.laid_strings_asciiSpace)] W):ZB W:=by
 have h1:=laidMetH.filter (fun p=>p.1== "strings.asciiSpace") h;have e:([("unicode.White_Space",Rows.laid_unicode_White_Space),("strings.asciiSpace",Rows.laid_strings_asciiSpace)]:List (String×DataW Unit)).filter (fun p=>p.1== "strings.asciiSpace")=[("strings.asciiSpace",Lib.tabData .u8 Lib.asciiSpaceTab)]:=by rw[<-sC];rfl
 rw[e]at h1;exact Lib.tabIs_of_head (rest:=[]) sB (t:=195) (e:=5) (n:=256) M0 underlying195 underlying5 M0 M0 h1
end
end Go.Proofs.YtbngggoccndefaaGreatDoor
