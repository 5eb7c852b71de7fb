/-
  Laid.
-/
import Derived.Test.YtbngggoccndefaaGreatDoorUn24
set_option maxHeartbeats 16000000
set_option maxRecDepth 100000
set_option linter.all false
namespace Go.Proofs.YtbngggoccndefaaGreatDoor
open Go.Proofs.Tryz
section
open Go.RowKit Go.ChangeShapes Go.WideShapes
theorem Zmd {w:World} {x:Addr} {len cap:Nat} (xs:List Value) (hx:xs.length=len) (hlc:len<=cap) (hc:∀i,i<len->w.cell? (x.add i)=xs[i]?):SlK w (.slice (some x) len cap) xs:=by
 refine⟨?_,some x,cap,by rw[hx],by rw[hx];exact hlc⟩;by_cases h0:len=0;·subst h0;exact .inl ⟨L4 hx,some x,cap,rfl⟩
 ·obtain⟨b,off,path⟩:=x;have h9:=hc 0 B0;rw[M0 B0]at h9;have hp:path=none:=by
   cases path with
   |none=>rfl
   |some q=>exact absurd h9 lK
  subst hp;refine .inr ⟨b,off,cap,by rw[hx],?_,fun i hi=> ?_⟩;(·rw[U7]at h9;rcases P4 b w.heap.size with h|h;(·exact h);·simp[World.cell?,YC h]at h9);·rw[hx]at hi;have:=hc i hi;rw[U7]at this;exact F3
theorem rows_sl {w:World} {a:Option Addr} {len cap:Nat}
 (h:(a=none∧len=0∧cap=0)∨∃x,a=some x∧len<=cap∧cap<=maxLen∧∃(A:Nat->Option Addr) (L C:Nat->Nat) (B:Nat->Nat->Bool),∀r,r<cap->w.cell? (x.add r)=some (.slice (A r) (L r) (C r))∧L r<=C r∧C r<=maxLen∧(A r=none->C r=0)∧∀a',A r=some a'->∀c,c<C r->w.cell? (a'.add c)=some (.bool (B r c))):
 ∃rows:List (List Bool),J6 w (.slice a len cap) rows∧rows.length<=maxLen:=by
 rcases h with⟨rfl,rfl,rfl⟩|⟨x,rfl,hlc,hcm,A,L,C,B,hc⟩
 ·exact⟨[],⟨[],⟨.inl ⟨rfl,none,0,rfl⟩,none,0,rfl,K0 _⟩,rfl,fun i x r h=>by simp at h⟩,O0 _⟩
 ·have each:∀r,r<len->∃m:List Bool,SlK w (.slice (A r) (L r) (C r)) (m.map encT):=by
   intro r hr
   obtain⟨h1,h2,h3,h4,h5⟩:=hc r B0
   cases hA:A r with
   |none=>have h6:=h4 hA;obtain⟨m,hm,_⟩:=bools_slk (w:=w) (a:=none) (len:=L r) (cap:=C r) (.inl ⟨rfl,by omega,h6⟩);exact⟨m,hm⟩
   |some a'=>obtain⟨m,hm,_⟩:=bools_slk (w:=w) (a:=some a') (len:=L r) (cap:=C r) (.inr ⟨a',rfl,h2,h3,B r,h5 a' hA⟩);exact⟨m,hm⟩
  obtain⟨f,hf⟩:=Go.Deep.choose_lt each;refine⟨(List.range len).map f,⟨(List.range len).map fun r=>.slice (A r) (L r) (C r),Zmd _ L0 hlc (fun i hi=> ?_),by simp,?_⟩,by simp;omega⟩;(·rw[(hc i B0).1,J2,SJ hi];rfl);·intro i y r hy hr;have hi:i<len:=(by have:=(I1.1 hy).1;exact E9);rw[J2,SJ hi]at hy hr;cases hy;cases hr;exact hf i hi
end
end Go.Proofs.YtbngggoccndefaaGreatDoor
