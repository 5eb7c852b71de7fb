/-
  Laid together.
-/
import Derived.Test.YtbngggoccndefaaGreatDoorDd18
import Derived.Test.YtbngggoccndefaaGreatDoorDd38
set_option maxHeartbeats 16000000
set_option maxRecDepth 100000
set_option linter.unusedVariables false
set_option linter.unusedSimpArgs false
set_option linter.ambiguousOpen false
namespace Go.Proofs.YtbngggoccndefaaGreatDoor
open Go.Proofs.Tryz
section
open Go.RowKit
theorem Zdb (w:World) (k j:Int) (a b c d:ByteArray):(binOp .eql 33 (.agg #[.int .i64 k,.string a,.string b]) (.agg #[.int .i64 j,.string c,.string d])).run prog w=.ok (.bool (k==j&&(a.toList==c.toList&&b.toList==d.toList))) w:=by
 have u9:=underlying9;have a9:=Tryz.isAgg9;have z9:=Tryz.sizeOf9;have u8:=underlying22;have a8:=Tryz.isAgg22;have z8:=Tryz.sizeOf22;have hS:prog.underlying 33=some (.struct (prog.fieldsOf 33)):=Qdu
 have hp:prog.stoodInHeld 33=false:=Qdu
 rw[run_eql_struct,show(10000:Nat)=9999+1 from rfl,run_equalIn_agg w 9999 33 _ _ hS hp];simp only[Program.fieldsOf,underlying33];go_simp;by_cases h0:k=j<;>by_cases h1:a.toList=c.toList<;>by_cases h2:b.toList=d.toList<;>simp[h0,h1,h2]
end
end Go.Proofs.YtbngggoccndefaaGreatDoor
section
namespace Go.Proofs.YtbngggoccndefaaGreatDoor
open Go.Proofs.Tryz
open Go.RowKit
theorem ZlW (m:List Bool) (j:Nat) (hj:j<=m.length) (h0:0<j) (h1:m[j-1]? =some true) (h2:∀t,j<=t->t<m.length->m[t]? =some false):Ea.trl m=m.length-j:=by
 have e:m=m.take (j-1)++[true]++Ea.lgt (m.length-j):=by apply ZoX;intro t;rcases Zq4 t (j-1)with h|h|h;(·rw[Znu,Zol QhS,Zog,ZmH h]);(·subst h;rw[h1,Znu,Zo0 QhS,ZmY,Zop QhN,ZnM];rfl);·rw[Zo0 QhY];have hl:(m.take (j-1)++[true]).length=j:=Qcm;rw[hl];by_cases ht:t<m.length;(·rw[h2 t QhN ht];unfold Ea.lgt;rw[Zpy,ZmH QhN]);·rw[Zot QhN];unfold Ea.lgt;rw[Zpy,ZmF QhN]
 have:=Ea.trl_lgt (m.length-j) (m.take (j-1));rw[<-e]at this;exact QeN
end Go.Proofs.YtbngggoccndefaaGreatDoor
namespace Go.Proofs.YtbngggoccndefaaGreatDoor
open Go.Proofs.Tryz
open Go.RowKit Go.ChangeShapes Go.WideShapes
theorem bools_slk {w:World} {a:Option Addr} {len cap:Nat}
 (h:(a=none∧len=0∧cap=0)∨∃x,a=some x∧len<=cap∧cap<=maxLen∧∃B:Nat->Bool,∀i,i<cap->w.cell? (x.add i)=some (.bool (B i))):
 ∃m:List Bool,SlK w (.slice a len cap) (m.map encT)∧m.length<=maxLen:=by
 rcases h with⟨rfl,rfl,rfl⟩|⟨x,rfl,hlc,hcm,B,hc⟩
 ·exact⟨[],⟨.inl ⟨rfl,none,0,rfl⟩,none,0,rfl,ZmK _⟩,ZmP _⟩
 ·have hl:(((List.range len).map B).map encT).length=len:=QhQ;refine⟨(List.range len).map B,⟨?_,some x,cap,by rw[hl],by rw[hl];exact hlc⟩,by simp;omega⟩;by_cases h0:len=0;(·subst h0;exact .inl ⟨rfl,some x,cap,rfl⟩)
  ·obtain⟨b,off,path⟩:=x;have hp:path=none:=by
    have:=hc 0 QhN
    cases path with
    |none=>rfl
    |some q=>exact absurd this (by unfold Addr.add World.cell?;split<;>simp)
   subst hp;refine .inr ⟨b,off,cap,by rw[hl],?_,fun i hi=> ?_⟩;(·have:=hc 0 QhN;rw[Zal]at this;rcases ZnY b w.heap.size with h|h;(·exact h);·simp[World.cell?,Zo3 h]at this);·rw[hl]at hi;have:=hc i QhN;rw[Zal]at this;rw[this,Znm,Znm,Zqp hi];rfl
end Go.Proofs.YtbngggoccndefaaGreatDoor
end
