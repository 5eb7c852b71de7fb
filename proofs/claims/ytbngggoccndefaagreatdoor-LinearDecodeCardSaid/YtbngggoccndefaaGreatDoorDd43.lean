/-
  Laid together.
-/
import Derived.Test.YtbngggoccndefaaGreatDoorDd21
import Derived.Test.YtbngggoccndefaaGreatDoorDd34
import Derived.Test.YtbngggoccndefaaGreatDoorDd39
set_option maxHeartbeats 16000000
set_option maxRecDepth 100000
set_option linter.unusedVariables false
set_option linter.unusedSimpArgs false
set_option linter.ambiguousOpen false
namespace Go.Proofs.YtbngggoccndefaaGreatDoor
open Go.Proofs.Tryz
section
open Go.RowKit
def RevTo (xs:List Int) (i:Nat) (L:List Int):Prop:=L.length=xs.length∧∀k,k<xs.length->L[k]? =if k<i∨xs.length-1-i<k then xs[xs.length-1-k]? else xs[k]?
theorem RevTo.zero (xs:List Int):RevTo xs 0 xs:=⟨rfl,fun k hk=>by rw[ZmF QhN]⟩
theorem RevTo.next {xs L:List Int} {i j:Nat} {x y:Int} (h:RevTo xs i L) (hj:j=xs.length-1-i) (hij:i<j) (hi:L[i]? =some x) (hy:L[j]? =some y):RevTo xs (i+1) ((L.set i y).set j x):=by
 have hx1:=h.2 i QhN;rw[ZmF QhN,hi]at hx1;have hy1:=h.2 j QhN;rw[ZmF QhN,hy]at hy1;have hll:=h.1;refine⟨by rw[Zov,Zov];exact h.1,fun k hk=> ?_⟩;by_cases e1:j=k;·subst e1;rw[Zoq (by rw[Zov,hll];exact hk),ZmH QhN,show xs.length-1-j=i by omega,hx1]
 ·rw[Zox e1];by_cases e2:i=k;(·subst e2;rw[Zoq (by rw[hll];exact hk),ZmH QhN,<-hj,hy1]);·rw[Zox e2,h.2 k hk];by_cases e3:k<i∨xs.length-1-i<k;(·rw[ZmH e3,ZmH QhN]);·rw[ZmF e3,ZmF QhN]
theorem RevTo.all {xs L:List Int} {i:Nat} (h:RevTo xs i L) (hi:xs.length-1<=2*i):L=xs.reverse:=by
 apply ZoX;intro k;by_cases hk:k<xs.length;·rw[h.2 k hk,ZoS hk];split;(·rfl);·congr 1;omega
 ·rw[Zot (by rw[h.1];omega),Zot (by rw[Zn9];omega)]
theorem ZgO (g n c B:Nat) (xs:List Int) (w:World) (hn:xs.length=n) (hl:n<=1000000) (hown:Own 3 w B (.slice (some ⟨g,0,none⟩) n c) (xs.map encI)):
 Calls prog 45 #[.slice (some ⟨g,0,none⟩) n c] w fun e w'=>e=.returned (.tuple #[])∧Own 3 w' B (.slice (some ⟨g,0,none⟩) n c) (xs.reverse.map encI)∧GB (some g) w w':=by
 have HO0:=ZmE hown
 have HN:=ZmE hn
 clear hown hn
 go_enter func45,ntmps45
 go_wp2_with fail
 go_loopw [2,3] (fun ti tj wr=>∃(i:Nat) (j:Int) (L:List Int),i<=n∧ti=.int .i64 (i:Int)∧tj=.int .i64 j∧j=(n:Int)-1-(i:Int)∧Hid (RevTo xs i L)∧Hid (Own 3 wr B (.slice (some ⟨g,0,none⟩) n c) (L.map encI))∧Hid (GB (some g) w wr)) (fun ti _ _=>n-(intOf ti).toNat)
 case atStart=>exact⟨0,_,xs,ZmP _,rfl,rfl,by omega,ZmE (RevTo.zero xs),HO0,ZmE (GB.refl _)⟩
 case round=>
 clear HO0
 obtain⟨i,jj,L,hi,rfl,rfl,hj,HR,HO,HG⟩:=hrel
 by_cases hlt:(i:Int)<jj
 ·obtain⟨j,rfl⟩:∃j:Nat,jj=(j:Int):=⟨jj.toNat,by omega⟩;have hjn:j<n:=QhN;have hin:i<n:=QhN;have hiI:(i:Int)<(n:Int):=QhN;have hjI:(j:Int)<(n:Int):=QhN;have hLl:L.length=n:=(by rw[HR.out.1,HN.out]);obtain⟨x,hx⟩:∃x,L[i]? =some x:=⟨_,ZmG QhN⟩;obtain⟨y,hy⟩:∃y,L[j]? =some y:=⟨_,ZmG QhN⟩;obtain⟨b1,o1,ha1,-,hc1⟩:=HO.out.slk.1.int_at (c:=c) (n:=n) (Ext.refl wr) hx;injection ha1 with ha1;injection ha1 with q1 q2;subst q1 q2;obtain⟨b1,o1,ha1,-,hc2⟩:=HO.out.slk.1.int_at (c:=c) (n:=n) (Ext.refl wr) hy;injection ha1 with ha1;injection ha1 with q1 q2;subst q1 q2;rw[Zoa]at hc1 hc2;obtain⟨_,_,f1⟩:=HO.out.intAt (i:=i) QhN;obtain⟨_,_,f2⟩:=HO.out.intAt (i:=j) QhN;have HR9:=ZmE (HR.out.next (by rw[HN.out];omega) QhN hx hy);have HO9:=ZmE (((HO.out.putI i y).1.putI j x).1);have HG9:=ZmE ((HG.out.trans (Z5 wr g i (.int .i64 y))).trans (Z5 _ g j (.int .i64 x)));have HJ2:Hid ((j:Int)-1=(n:Int)-1-((i+1:Nat):Int)):=ZmE QhN;clear hx hy hLl hj;go_wp2_with fail;go_region;go_wp2_with fail;go_roundw;(case rel=>exact⟨i+1,_,_,by omega,by go_num,rfl,HJ2.out,HR9,ZmE HO9.out.drew,ZmE HG9.out.drew⟩);case measure=>exact Qak
 ·have HF:Hid (L=xs.reverse):=ZmE (HR.out.all (by rw[HN.out];omega));have hO:=HO.out;rw[HF.out]at hO;have HO9:=ZmE hO;clear hO;go_wp2;go_end0;exact⟨rfl,by first|exact HO9.out|(rw[<-List.map_reverse];exact HO9.out),HG.out⟩
theorem Zi2 (b o n c:Nat) (xs:List Int) (w:World) (hn:xs.length=n) (h1:1<=n) (hl:n<=1000000) (hv:Sl w (.slice (some ⟨b,o,none⟩) n c) (xs.map encI)):
 Calls prog 44 #[.slice (some ⟨b,o,none⟩) n c] w fun e w'=>∃g c',e=.returned (.slice (some ⟨g,0,none⟩) n c')∧Own 3 w' w.heap.size (.slice (some ⟨g,0,none⟩) n c') (xs.map encI)∧Ext w w':=by
 have HV:=ZmE hv
 have HN:=ZmE hn
 have HO0:Hid (Own 3 (w.alloc (.cells #[] 3)) w.heap.size (.slice (some ⟨w.heap.size,0,none⟩) 0 0) []):=ZmE ⟨rfl,.inr ⟨w.heap.size,0,#[],rfl,ZmK _,Znx _ _,ZmK _,by decide,rfl,rfl⟩⟩
 have hbo:∀w:World,(binOp BinOp.eql 43 (.slice (some ⟨b,o,none⟩) n c) (.slice none 0 0)).run prog w=.ok (.bool false) w:=fun w=>by kernel_rfl
 clear hv hn
 go_enter func44,ntmps44
 go_wp2_with (at_builtin;refine Zab rfl _ _ 43 3 (.int .i64 0) 8 rfl underlying43 Zb8 rfl QhP w.heap.size _ [] rfl HO0.out b o n c (xs.map encI) rfl ?c1 ?c2 ?c3 ?c4 ?c5 ?_)
 case c1=>rw[ZmI];exact HN.out
 case c2=>intro j u hj;rcases HV.out.ext ((Ext.refl w).alloc (.cells #[] 3))with⟨h,_⟩|⟨b',o',cp,h,hb',hc⟩;(·rw[h]at hj;cases hj);·injection h with e1 e2 e3;injection e1 with e1;injection e1 with e1 e4;subst e1 e4;have hjl:=(ZmN.1 hj).1;rw[hc j hjl];exact hj
 case c3=>intro y hy;obtain⟨z,_,rfl⟩:=Zor.1 hy;rfl
 case c4=>exact Qcm
 case c5=>simp
 intro v' w5 hown5 hg5
 have hX5:Ext w w5:=((Ext.refl w).alloc _).ofGrown hg5 HO0.out.low
 have hown5:Own 3 w5 w.heap.size v' (xs.map encI):=hown5
 have hfm:∃g c',v'=.slice (some ⟨g,0,none⟩) n c':=by rcases hown5.2 with⟨_,h⟩|⟨g,cap,cur,h,_⟩;(·rw[ZmI]at h;exact Qe8);·rw[ZmI,HN.out]at h;exact⟨g,cap,h⟩
 obtain⟨g,c',rfl⟩:=hfm
 have HO5:=ZmE hown5
 have HX5:=ZmE hX5
 clear hown5 hg5 hX5
 go_wp2_with fail
 go_ret
 exact⟨g,c',rfl,HO5.out,HX5.out⟩
theorem Cc.run_at {s:Nat} {sh:Bool} {out ms:List Int} {j:Nat} {x:Int} (h:ms[j]? =some x):Cc.runC s sh out (ms.drop j)=match Cc.stepC s sh x with|none=>none|some (s',h',o)=>Cc.runC s' h' (out++o) (ms.drop (j+1)):=by obtain⟨h1,h2⟩:=ZmN.1 h;rw[Zn3 h1,h2,Cc.runC];cases Cc.stepC s sh x<;>rfl
theorem Cc.step_in {s:Nat} {sh:Bool} {x:Int} {r:Nat×Bool×List Int} (h:Cc.stepC s sh x=some r) (hs:s<=2) (hsh:sh=true->s<2):r.1<=2∧(r.2.1=true->r.1<2)∧r.2.2.length<=2:=by
 unfold Cc.stepC at h;split at h;·rename_i e;split at h;(·cases h);·exact QbD
 ·by_cases h0:102<x;(·exact QfZ);rw[ZmF h0]at h;by_cases h1:x=102;(·rw[ZmH h1]at h;exact QbD);rw[ZmF h1]at h;by_cases h2:s=2∧x<=99;(·rw[ZmH h2]at h;exact QbD);rw[ZmF h2]at h;by_cases h3:x<=95;(·rw[ZmH h3]at h;exact QbD);rw[ZmF h3]at h;by_cases h4:x=96;(·rw[ZmH h4]at h;exact QbD);rw[ZmF h4]at h;by_cases h5:x=97;(·rw[ZmH h5]at h;exact QbD);rw[ZmF h5]at h;by_cases h6:x=98;(·rw[ZmH h6]at h;injection h with h;subst h;exact⟨hs,(fun _=>by dsimp only;omega),by simp⟩);rw[ZmF h6]at h;by_cases h7:x=99;(·rw[ZmH h7]at h;exact QdJ);rw[ZmF h7]at h;by_cases h8:x=100∧s≠1;(·rw[ZmH h8]at h;exact QdJ);rw[ZmF h8]at h;by_cases h9:x=101∧s≠0;(·rw[ZmH h9]at h;exact QdJ);rw[ZmF h9]at h;exact QbD
def RdK (B:Nat) (out:List Int) (st:Option (Nat×Bool×List Int)) (p:Int) (q:Bool) (a':Option Addr) (n' c':Nat) (w:World):Prop:=match st with
 |none=>True
 |some (s',h',o)=>p=(s':Int)∧q=h'∧n'=out.length+o.length∧Own 3 w B (.slice a' n' c') ((out++o).map encI)
theorem RdK.on {B:Nat} {out:List Int} {st:Option (Nat×Bool×List Int)} {p:Int} {q:Bool} {a':Option Addr} {n' c':Nat} {w w':World} (h:RdK B out st p q a' n' c' w) (hx:Ext w w'):RdK B out st p q a' n' c' w':=by
 unfold RdK at*;split at h;·trivial
 ·obtain⟨h1,h2,h3,h4⟩:=h;exact⟨h1,h2,h3,h4.ext hx⟩
def RdV (B:Nat) (out:List Int) (st:Option (Nat×Bool×List Int)) (_:Bool):RG.Rel:=fun v w=>∃p q a' n' c',v=.tuple #[.agg #[.int .i64 p,.bool q,.slice a' n' c'],.bool st.isSome]∧RdK B out st p q a' n' c' w
def RdA (B:Nat) (out:List Int) (st:Option (Nat×Bool×List Int)):RG.Rel:=fun v w=>∃p q a' n' c',v=.agg #[.int .i64 p,.bool q,.slice a' n' c']∧RdK B out st p q a' n' c' w
theorem RdV.stable (B:Nat) (out:List Int) (st:Option (Nat×Bool×List Int)) (y:Bool):∀v w w',RdV B out st y v w->Ext w w'->RdV B out st y v w':=fun _ _ _ ⟨p,q,a,n,c,h1,h2⟩ hx=>⟨p,q,a,n,c,h1,h2.on hx⟩
theorem RdA.stable (B:Nat) (out:List Int) (st:Option (Nat×Bool×List Int)):∀v w w',RdA B out st v w->Ext w w'->RdA B out st v w':=fun _ _ _ ⟨p,q,a,n,c,h1,h2⟩ hx=>⟨p,q,a,n,c,h1,h2.on hx⟩
theorem RdC.to {B:Nat} {row:Option Nat} {out:List Int} {st:Option (Nat×Bool×List Int)} {w w':World} {e:Ending} {y:Bool} (h:RdC B row out st w e w'):∃v,e=.returned v∧GB row w w'∧RdV B out st y v w':=by
 obtain⟨h1,h2⟩:=h
 cases st with
 |none=>obtain⟨p,q,a',n',c',rfl⟩:=h2;exact⟨_,rfl,h1,p,q,a',n',c',rfl,trivial⟩
 |some t=>obtain⟨s',h',o⟩:=t;obtain⟨a',c',rfl,h3⟩:=h2;exact⟨_,rfl,h1,_,_,_,_,_,rfl,rfl,rfl,rfl,h3⟩
def newSt (row:Option Nat) (B:Nat):RG.Rel:=fun v w=>∃g,v=.pointer (some ⟨g,0,none⟩)∧B<=g∧row≠some g∧w.heap[g]? =some (.cells #[.int .i64 0,.bool false,.slice none 0 0] 278 (0,0))
theorem newSt.stable (row:Option Nat) (B:Nat):∀v w w',newSt row B v w->GB row w w'->newSt row B v w':=fun _ _ _ ⟨g,h1,h2,h3,h4⟩ hx=>⟨g,h1,h2,h3,hx.heap h4 h3⟩
def RdL (w:World) (RC:Option (List Int)) (ms:List Int) (k2:Nat) (t:Value) (wr:World):Prop:=∃(j s:Nat) (sh:Bool) (a:Option Addr) (c m:Nat) (out:List Int),1<=j∧j<=k2∧t=.int .i64 (j:Int)∧s<=2∧(sh=true->s<2)∧m<=2*j∧m=out.length∧Hid (RC=Cc.runC s sh out (ms.drop j))∧Hid (wr.heap[w.heap.size]? =some (.cells #[.int .i64 (s:Int),.bool sh,.slice a m c] 278 (0,0)))∧Hid (Own 3 wr w.heap.size (.slice a m c) (out.map encI))∧Hid (Ext w wr)
theorem ZcV {w w':World} {b:Nat} (h:Ext w w') (hb:w.heap.size<=b) (p q r:Value):Ext w (((w'.setCell ⟨b,0,none⟩ p).setCell ⟨b,1,none⟩ q).setCell ⟨b,2,none⟩ r):=((h.setCell hb _).setCell hb _).setCell hb _
theorem RdK.set {B:Nat} {out:List Int} {st:Option (Nat×Bool×List Int)} {p:Int} {q:Bool} {a':Option Addr} {n' c':Nat} {w:World} {g:Nat} {cs:Array Value} (h:RdK B out st p q a' n' c' w) (hg:w.heap[g]? =some (.cells cs 278 (0,0))) (x y z:Value):RdK B out st p q a' n' c' (((w.setCell ⟨g,0,none⟩ x).setCell ⟨g,1,none⟩ y).setCell ⟨g,2,none⟩ z):=by
 unfold RdK at*;split at h;·trivial
 ·obtain⟨h1,h2,h3,h4⟩:=h;exact⟨h1,h2,h3,((h4.set hg QhP _ _).set (Zk hg) QhP _ _).set (Zk (Zk hg)) QhP _ _⟩
theorem Cc.chkTo_ref {ms:List Int} {j:Nat} {t x:Int} (ht:t=if j=0 then 0 else Cc.chkTo ms j) (hx:ms[j]? =some x):(t+max 1 (j:Int)*x)%103=Cc.chkTo ms (j+1):=by
 have hg:ms.getD j 0=x:=by rw[ZmL,hx];rfl
 rw[Cc.chkTo,hg];by_cases h:j=0;·subst h;rw[ZmH rfl]at ht;subst ht;rw[Cc.chkTo,hg];have e:max (1:Int) ((0:Nat):Int)=1:=QhP;rw[e];simp
 ·rw[ZmF h]at ht;subst ht;have e:max (1:Int) (j:Int)=(j:Int):=QhN;rw[e]
theorem ZhP (v:Value) (vs:List Int) (w:World) (hv:Sl w v (vs.map encI)) (hl:vs.length<=400000):
 Calls prog 223 #[v] w (IntsE (Cc.chars vs) w):=by
 obtain⟨a,cv,rfl⟩:=hv.form
 rw[ZmI]at hv⊢
 obtain⟨n,hn⟩:∃n,n=vs.length:=⟨_,rfl⟩
 have HR:=ZmE (Cc.chars.eq_1 vs)
 rw[<-hn]at hv hl⊢
 rw[<-hn]at HR
 have HN:=ZmE hn
 have HV:=ZmE hv
 generalize Cc.chars vs=res at*
 clear hv hn
 go_enter func223,ntmps223
 go_wp2_with fail
 go_loop [5] (fun t=>∃j:Nat,j<=n∧t=.int .i64 (j:Int)∧Hid (∀x∈vs.take j,0<=x∧x<=106)) (fun t=>n-(intOf t).toNat)
 case atStart=>exact Qcy
 case round=>
 obtain⟨j,hj,rfl,HB⟩:=hrel
 by_cases hlt:j<n
 ·exact Qal
 obtain rfl:n=j:=by omega
 have HB3:Hid (∀x∈vs,0<=x∧x<=106):=ZmE (fun x hx=>HB.out x Qj9)
 have HR2:Hid (res=if n<3 then(([],7):List Int×Int)else if vs.getD 0 0<103∨105<vs.getD 0 0 then([],19)else if vs.getD (n-1) 0≠106 then([],20)else if vs.getD (n-2) 0≠Cc.chk (vs.take (n-2))then([],8)else match Cc.runC (vs.getD 0 0-103).toNat false [] ((vs.take (n-2)).drop 1)with|none=>([],22)|some o=>(o,0)):=ZmE Qip
 clear HR HB hlt hj
 by_cases h3:n<3
 ·exact Qhy
 rw[ZmF h3]at HR2
 have h3I:¬(n:Int)<3:=by omega
 obtain⟨x0,hx0⟩:∃x,vs[0]? =some x:=⟨_,ZmG QhW⟩
 obtain⟨b,o,ha,hb,hc0⟩:=HV.out.int_at (Ext.refl w) hx0
 subst ha
 rw[Zoc]at hc0
 have e0:vs.getD 0 0=x0:=by rw[ZmL,hx0];rfl
 rw[e0]at HR2
 have hb0:=HB3.out x0 (ZmT hx0)
 have hn0:(0:Int)<(n:Int):=by omega
 clear e0 hx0
 by_cases hs:x0<103∨105<x0
 ·exact QcF
 rw[ZmF hs]at HR2
 have hs1:¬x0<103:=by omega
 have hs2:¬105<x0:=by omega
 clear hs
 obtain⟨k1,hk1⟩:∃k,k=n-1:=⟨_,rfl⟩
 obtain⟨k2,hk2⟩:∃k,k=n-2:=⟨_,rfl⟩
 rw[<-hk1,<-hk2]at HR2
 have hk1I:(n:Int)-1=(k1:Int):=by omega
 have hk2I:(n:Int)-2=(k2:Int):=by omega
 obtain⟨x1,hx1⟩:∃x,vs[k1]? =some x:=⟨_,ZmG QhW⟩
 obtain⟨x2,hx2⟩:∃x,vs[k2]? =some x:=⟨_,ZmG QhW⟩
 obtain⟨b',o',ha,_,hc1⟩:=HV.out.int_at (Ext.refl w) hx1
 injection ha with ha
 injection ha with q1 q2
 subst q1 q2
 obtain⟨b',o',ha,_,hc2⟩:=HV.out.int_at (Ext.refl w) hx2
 injection ha with ha
 injection ha with q1 q2
 subst q1 q2
 have e1:vs.getD k1 0=x1:=by rw[ZmL,hx1];rfl
 have e2:vs.getD k2 0=x2:=by rw[ZmL,hx2];rfl
 rw[e1,e2]at HR2
 have hk1n:(k1:Int)<(n:Int):=by omega
 have hk2n:(k2:Int)<(n:Int):=by omega
 have hk10:k1<n:=by omega
 have hk20:k2<n:=by omega
 have hk21:1<=k2:=by omega
 clear e1 e2 hx1 hx2 hk1 hk2
 by_cases hst:x1≠106
 ·rw[ZmH hst]at HR2;have z1:(x1 !=106)=true:=(by simp[hst]);have z1d:decide (x1=106)=false:=ZmS hst;clear hst;exact Qbo
 rw[ZmF hst]at HR2
 obtain rfl:x1=106:=by omega
 clear hst
 obtain⟨ms,hms⟩:∃ms,ms=vs.take k2:=⟨_,rfl⟩
 rw[<-hms]at HR2
 have hml:ms.length=k2:=by rw[hms,ZmY,<-HN.out];omega
 have HMA:Hid (∀i,i<k2->ms[i]? =vs[i]?):=ZmE (fun i hi=>by rw[hms,Zog,ZmH hi])
 have HCI:Hid (∀i,0<=Cc.chkTo ms i∧Cc.chkTo ms i<=106):=ZmE (Cc.chkTo_in ms (fun x hx=>HB3.out x (Zn0 (hms▸hx))))
 have hchk:=Cc.chk_to ms
 rw[hml]at hchk
 rw[hchk]at HR2
 have HML:=ZmE hml
 clear hms hml hchk
 go_wp2_with fail
 go_loop [6,7] (fun s i=>∃(j:Nat) (t:Int),j<=k2∧i=.int .i64 (j:Int)∧s=.int .i64 t∧0<=t∧t<=106∧Hid (t=if j=0 then 0 else Cc.chkTo ms j)) (fun _ i=>k2-(intOf i).toNat)
 case atStart=>exact⟨0,0,ZmP _,rfl,rfl,by decide,by decide,ZmE rfl⟩
 case round=>
 obtain⟨j,t,hj,rfl,rfl,ht0,ht1,HT⟩:=hrel
 by_cases hlt:j<k2
 ·obtain⟨x,hxj⟩:∃x,vs[j]? =some x:=⟨_,ZmG QhW⟩;obtain⟨b',o',ha,hb',hcj⟩:=HV.out.int_at (Ext.refl w) hxj;injection ha with ha;injection ha with h1 h2;subst h1 h2;have hxb:=HB3.out x (ZmT hxj);have hjI:(j:Int)<(k2:Int):=QhN;have hjnI:(j:Int)<(n:Int):=QhN;obtain⟨mx,hmx⟩:∃mx,mx=max 1 (j:Int):=⟨_,rfl⟩;have hmx1:1<=mx:=QhN;have hmx2:mx<=400000:=QhN;obtain⟨p,hp⟩:∃p,p=mx*x:=⟨_,rfl⟩;have hp0:0<=p:=(by rw[hp];exact ZoC QhN hxb.1);have hp1:p<=400000*106:=(by rw[hp];exact Zo2 hmx2 hxb.2 hxb.1 QhN);obtain⟨t2,ht2⟩:∃t2,t2=(t+p)%103:=⟨_,rfl⟩;have HT2:Hid (t2=if j+1=0 then 0 else Cc.chkTo ms (j+1)):=ZmE (by rw[ZmF QhN,ht2,hp,hmx];exact Cc.chkTo_ref HT.out ((HMA.out j hlt).trans hxj));have hq:=ht2.symm;have hq0:0<=t2:=QhN;have hq1:t2<=106:=QhN;have hpe:=hp.symm;have hme:=hmx.symm;clear hxj hp ht2 hmx;exact Qdp
 obtain rfl:k2=j:=by omega
 have hT:Cc.chkTo ms k2=t:=(HT.out.trans (ZmF QhN)).symm
 rw[hT]at HR2
 clear HT hT hlt hj
 by_cases hck:x2≠t
 ·rw[ZmH hck]at HR2;have z2:(x2 !=t)=true:=(by simp[hck]);have z2d:decide (x2=t)=false:=ZmS hck;clear hck;exact Qbo
 rw[ZmF hck]at HR2
 obtain rfl:x2=t:=ZnH.1 hck
 clear hck
 obtain⟨s0,hs0⟩:∃s:Nat,s=(x0-103).toNat:=⟨_,rfl⟩
 have hs02:s0<=2:=by omega
 have hs0I:x0-103=(s0:Int):=by omega
 rw[<-hs0]at HR2
 obtain⟨RC,hRC⟩:∃RC,RC=Cc.runC s0 false [] (ms.drop 1):=⟨_,rfl⟩
 rw[<-hRC]at HR2
 have HRC:=ZmE hRC
 have HK2:=ZmE hk2I
 clear hs0 hRC
 go_wp2_with fail
 go_loopw [9] (fun t wr=>RdL w RC ms k2 t wr) (fun t _=>k2-(intOf t).toNat)
 case atStart=>exact⟨1,s0,false,none,0,0,[],ZmK _,hk21,rfl,hs02,(fun h=>by cases h),by omega,rfl,HRC,ZmE (Znx w _),ZmE (Own.nil _ _ _),ZmE ((Ext.refl w).alloc _)⟩
 case round=>
 clear HRC
 obtain⟨j,s,sh,a,c,m,out,hj1,hj,rfl,hs,hsh,hm,hmo,HC,HB,HO,HX⟩:=hrel
 have HMO:=ZmE hmo
 have HSH:=ZmE hsh
 clear hmo hsh
 by_cases hlt:j<k2
 ·obtain⟨x,hxj⟩:∃x,vs[j]? =some x:=⟨_,ZmG QhW⟩;have hxb:=HB3.out x (ZmT hxj);have hjI:(j:Int)<(k2:Int):=QhN;have hjnI:(j:Int)<(n:Int):=QhN;have hjn:j<n:=QhN;obtain⟨st,hst⟩:∃st,st=Cc.stepC s sh x:=⟨_,rfl⟩;have HSTE:=ZmE hst;obtain⟨row,hrow⟩:∃row,row=(Value.slice a m c).ownBlock:=⟨_,rfl⟩;have hoff:=HO.out.off HB.out QhP;have hlow:=HO.out.low;rw[<-hrow]at hoff hlow;have HLOW:=ZmE hlow;have HKB:=ZmE (fun w' (h:GB row wr w')=>GB.heap h HB.out hoff);have HKX:Hid (∀w',GB row wr w'->w'.cell? ⟨b,o+j,none⟩=some (.int .i64 x)):=ZmE (fun w' h=>by obtain⟨b',o',ha,_,hc⟩:=HV.out.int_at (HX.out.ofGrown h HLOW.out) hxj;injection ha with ha;injection ha with h1 h2;subst h1 h2;exact hc);have HLT:Hid (∀k,row=some k->k<wr.heap.size):=ZmE (fun k hk=>(Zoe HO.out k (by rw[<-hrow];exact hk)).2);have HRD:Hid (∀w',Ext wr w'->Calls prog 261 #[.agg #[.int .i64 (s:Int),.bool sh,.slice a m c],.int .i64 x] w' (RdC w.heap.size row out st w')):=ZmE (fun w' h=>by rw[hrow,hst];exact Zjo s sh a c m out x w.heap.size w' HMO.out.symm (HO.out.ext h) hs HSH.out hxb.1 hxb.2 QhN (ZnF HX.out.size h.size));have HXJ:Hid (ms[j]? =some x):=ZmE ((HMA.out j hlt).trans hxj);have hwlt:w.heap.size<wr.heap.size:=(Znn.1 HB.out).1;clear hxj hst hrow hoff hlow hxb;go_wp2_with fail;refine RG.wp_region_relC (row:=row) 5 [6,7,8] 10 2 8 rfl [84,85,86,87,88,89,83,90,91,10] [[],[],[],[1,2],[3],[0,4],[5],[6],[6],[]] QhO QhO QhO ?_;refine RG.relPlanC_by (RG.eqv (.agg #[.int .i64 (s:Int),.bool sh,.slice a m c])) (fun _ _ _ h _=>h) QhP ?_ ?_;(·intro V w' hx hf;(with_reducible refine RG.relAt_ops ?_);intro A ρ hA hρ hcst hfun;have h8:ρ (.tmp 8)=.pointer (some ⟨w.heap.size,0,none⟩):=(Znf hρ _).trans (RG.evalMiss hA 8 rfl);obtain⟨-,q0,q1,q2,-⟩:=Zf (HKB.out w' hx);simp[RG.relUpon,go_sem,Ext.refl,h8,q0,q1,q2];try rfl);apply RG.relPlanC_eq QhP;(·intro V w' hx hf;(with_reducible refine RG.relAt_ops ?_);intro A ρ hA hρ hcst hfun;have h0:ρ (.tmp 0)=.slice (some ⟨b,o,none⟩) n cv:=(Znf hρ _).trans (RG.evalMiss hA 0 rfl);exact RG.relUpon_move (hk:=by rw[h0];exact⟨Ext.refl _,rfl⟩));apply RG.relPlanC_eq QhP;(·intro V w' hx hf;(with_reducible refine RG.relAt_ops ?_);intro A ρ hA hρ hcst hfun;have h9:ρ (.tmp 9)=.int .i64 (j:Int):=(Znf hρ _).trans (RG.evalMiss hA 9 rfl);exact RG.relUpon_move (hk:=by rw[h9];exact⟨Ext.refl _,rfl⟩));refine RG.relPlanC_by (RG.eqv (.pointer (some ⟨b,o+j,none⟩))) (fun _ _ _ h _=>h) QhP ?_ ?_;(·intro V w' hx hf;(with_reducible refine RG.relAt_ops ?_);intro A ρ hA hρ hcst hfun;obtain⟨f85,f86,_⟩:=hf;have h85:ρ (.tmp 85)=_:=(Znf hρ _).trans ((RG.evalHit hA 85 rfl).trans f85);have h86:ρ (.tmp 86)=_:=(Znf hρ _).trans ((RG.evalHit hA 86 rfl).trans f86);simp[RG.relUpon,go_sem,hcst,↓IntWalk.iteOmega,Ext.refl,h85,h86,hjnI,hjn];try rfl);refine RG.relPlanC_by (RG.eqv (.int .i64 x)) (fun _ _ _ h _=>h) QhP ?_ ?_;(·intro V w' hx hf;(with_reducible refine RG.relAt_ops ?_);intro A ρ hA hρ hcst hfun;obtain⟨f87,_⟩:=hf;have h87:ρ (.tmp 87)=_:=(Znf hρ _).trans ((RG.evalHit hA 87 rfl).trans f87);have hcx:=HKX.out w' hx;simp[RG.relUpon,go_sem,Ext.refl,h87,hcx];try rfl);refine RG.relPlanC_call (RdV w.heap.size out st true) (RdV.stable _ _ _ _) rfl QhP ?_ ?_;(·intro V w' hx hf;(with_reducible refine RG.relAt_ops ?_);intro A ρ hA hρ hcst hfun;obtain⟨f84,f88,_⟩:=hf;have h84:ρ (.tmp 84)=_:=(Znf hρ _).trans ((RG.evalHit hA 84 rfl).trans f84);have h88:ρ (.tmp 88)=_:=(Znf hρ _).trans ((RG.evalHit hA 88 rfl).trans f88);simp[RG.relUpon,go_sem,hcst,hfun,h84,h88];exact(HRD.out w' hx).mono fun e w'' h=>RdC.to h);refine RG.relPlanC_late (RdV w.heap.size out st true) (RdV.stable _ _ _ _) QhP QhP ?_ ?_;(·intro V w' hx hf;(with_reducible refine RG.relAt_ops ?_);intro A ρ hA hρ hcst hfun;obtain⟨f89,_⟩:=hf;have h89:ρ (.tmp 89)=V 89:=(Znf hρ _).trans (RG.evalHit hA 89 rfl);exact RG.relUpon_move (hk:=by rw[h89];exact⟨Ext.refl _,f89⟩));refine RG.relPlanC_late (RdA w.heap.size out st) (RdA.stable _ _ _) QhP QhP ?_ ?_;(·intro V w' hx hf;(with_reducible refine RG.relAt_ops ?_);intro A ρ hA hρ hcst hfun;obtain⟨f83,_⟩:=hf;obtain⟨p,q,a',n',c',hv,hst⟩:=f83;have h83:ρ (.tmp 83)=_:=(Znf hρ _).trans ((RG.evalHit hA 83 rfl).trans hv);simp[RG.relUpon,go_sem,Ext.refl,h83];exact⟨p,q,a',n',c',rfl,hst⟩);refine RG.relPlanC_by (RG.eqv (.bool st.isSome)) (fun _ _ _ h _=>h) QhP ?_ ?_;(·intro V w' hx hf;(with_reducible refine RG.relAt_ops ?_);intro A ρ hA hρ hcst hfun;obtain⟨f83,_⟩:=hf;obtain⟨p,q,a',n',c',hv,hst⟩:=f83;have h83:ρ (.tmp 83)=_:=(Znf hρ _).trans ((RG.evalHit hA 83 rfl).trans hv);simp[RG.relUpon,go_sem,Ext.refl,h83];try rfl);refine RG.relPlanC_by (newSt row wr.heap.size) (newSt.stable _ _) QhP ?_ ?_;(·intro V w' hx hf;(with_reducible refine RG.relAt_ops ?_);intro A ρ hA hρ hcst hfun;simp[RG.relUpon,go_sem];refine⟨(Ext.refl _).alloc _,_,rfl,?_,?_,Znx _ _⟩;(·exact GB.size hx);·intro e;have h1:=HLT.out _ e;have h2:=GB.size hx;omega);refine⟨?_,?_⟩
  ·intro V wT hxT hf
   obtain⟨g84,g85,g86,g87,g88,g89,g83,g90,g91,g10,_⟩:=hf
   obtain⟨bc,e10,hbc,hbr,hc10⟩:=g10
   obtain⟨p,q,a9,n9,c9,e90,hK⟩:=g90
   have e10:V 10=_:=e10
   have e90:V 90=_:=e90
   have e91:V 91=.bool st.isSome:=g91
   simp only[RG.fillA,ZmX,Zni,Act.put,ZmO,ZmV,ZmU]
   rw[e10,e90,e91]
   obtain⟨c0,c1,c2,c3,c4,c5,c6,c7⟩:=Zf hc10
   clear g84 g85 g86 g87 g88 g89 g83 g91 e10 e90 e91
   refine Zas 10 QhO rfl (fun K hK=> ?_)
   go_simp
   refine hK _ _ ?_
   clear hK K
   refine Zas 11 QhO rfl (fun K hK=> ?_)
   go_simp
   refine hK _ _ ?_
   clear hK K
   refine wpAny_done QhO ?_ 0
   have hX9:=ZcV (HX.out.ofGrown hxT HLOW.out) (show w.heap.size<=bc by omega) (.int .i64 p) (.bool q) (.slice a9 n9 c9)
   have hB9:=Zq (i:=2) (u:=.slice a9 n9 c9) (show bc≠w.heap.size by omega) (Zq (i:=1) (u:=.bool q) (show bc≠w.heap.size by omega) (Zq (i:=0) (u:=.int .i64 p) (show bc≠w.heap.size by omega) (HKB.out wT hxT)))
   have hC9:=Zg (p:=.int .i64 p) (q:=.bool q) (r:=.slice a9 n9 c9) (ZmE hc10)
   have hK9:=hK.set hc10 (.int .i64 p) (.bool q) (.slice a9 n9 c9)
   generalize((wT.setCell ⟨bc,0,none⟩ (.int .i64 p)).setCell ⟨bc,1,none⟩ (.bool q)).setCell ⟨bc,2,none⟩ (.slice a9 n9 c9)=w9 at*
   obtain⟨d0,d1,d2,d3,d4,d5,d6,d7⟩:=Zf hC9
   clear c0 c1 c2 c3 c4 c5 c6 c7 hC9 hc10 hK
   cases st with
   |none=>exact Qb8
   |some t9=>exact QR
  ·intro V wT hxT hf;obtain⟨g84,g85,g86,g87,g88,g89,g83,g90,g10,_⟩:=hf;obtain⟨bc,e10,hbc,hbr,hc10⟩:=g10;obtain⟨p,q,a9,n9,c9,e90,hK⟩:=g90;obtain⟨p3,q3,a3,n3,c3,e83,_⟩:=g83;have e10:V 10=_:=e10;have e90:V 90=_:=e90;have e83:V 83=_:=e83;simp only[RG.fillA,ZmX,Zni,Act.put,ZmO,ZmV,ZmU];rw[e10,e90,e83];obtain⟨c0,c1,c2,c3,c4,c5,c6,c7⟩:=Zf hc10;clear g84 g85 g86 g87 g88 g89 e10 e90 e83;refine wpAny_ready (rs:=[8,10]) QhO QhQ (Zq3 rfl ?_ (Zq3 rfl ?_ AllReady.nil))
   ·intro K hK
    go_simp
    refine hK _ _ ?_
    clear hK K
    refine Zas 10 QhO rfl (fun K hK=> ?_)
    go_simp
    refine hK _ _ ?_
    clear hK K
    refine Zas 11 QhO rfl (fun K hK=> ?_)
    go_simp
    refine hK _ _ ?_
    clear hK K
    refine wpAny_done QhO ?_ 0
    have hX9:=ZcV (HX.out.ofGrown hxT HLOW.out) (show w.heap.size<=bc by omega) (.int .i64 p) (.bool q) (.slice a9 n9 c9)
    have hB9:=Zq (i:=2) (u:=.slice a9 n9 c9) (show bc≠w.heap.size by omega) (Zq (i:=1) (u:=.bool q) (show bc≠w.heap.size by omega) (Zq (i:=0) (u:=.int .i64 p) (show bc≠w.heap.size by omega) (HKB.out wT hxT)))
    have hC9:=Zg (p:=.int .i64 p) (q:=.bool q) (r:=.slice a9 n9 c9) (ZmE hc10)
    have hK9:=hK.set hc10 (.int .i64 p) (.bool q) (.slice a9 n9 c9)
    generalize((wT.setCell ⟨bc,0,none⟩ (.int .i64 p)).setCell ⟨bc,1,none⟩ (.bool q)).setCell ⟨bc,2,none⟩ (.slice a9 n9 c9)=w9 at*
    obtain⟨d0,d1,d2,d3,d4,d5,d6,d7⟩:=Zf hC9
    clear c0 c1 c2 c3 c4 c5 c6 c7 hC9 hc10 hK
    cases st with
    |none=>exact Qb8
    |some t9=>exact QR
   ·intro K hK
    go_simp
    refine hK _ _ ?_
    clear hK K
    refine Zas 8 QhO rfl (fun K hK=> ?_)
    go_simp
    refine hK _ _ ?_
    clear hK K
    refine Zas 11 QhO rfl (fun K hK=> ?_)
    go_simp
    refine hK _ _ ?_
    clear hK K
    refine wpAny_done QhO ?_ 0
    have hX9:=ZcV (HX.out.ofGrown hxT HLOW.out) (show w.heap.size<=bc by omega) (.int .i64 p) (.bool q) (.slice a9 n9 c9)
    have hB9:=Zq (i:=2) (u:=.slice a9 n9 c9) (show bc≠w.heap.size by omega) (Zq (i:=1) (u:=.bool q) (show bc≠w.heap.size by omega) (Zq (i:=0) (u:=.int .i64 p) (show bc≠w.heap.size by omega) (HKB.out wT hxT)))
    have hC9:=Zg (p:=.int .i64 p) (q:=.bool q) (r:=.slice a9 n9 c9) (ZmE hc10)
    have hK9:=hK.set hc10 (.int .i64 p) (.bool q) (.slice a9 n9 c9)
    generalize((wT.setCell ⟨bc,0,none⟩ (.int .i64 p)).setCell ⟨bc,1,none⟩ (.bool q)).setCell ⟨bc,2,none⟩ (.slice a9 n9 c9)=w9 at*
    obtain⟨d0,d1,d2,d3,d4,d5,d6,d7⟩:=Zf hC9
    clear c0 c1 c2 c3 c4 c5 c6 c7 hC9 hc10 hK
    cases st with
    |none=>exact Qb8
    |some t9=>exact QR
 ·obtain rfl:k2=j:=by omega
  obtain⟨e0,e1,e2,e3,e4,e5,e6,e7⟩:=Zf HB.out
  have hdr:ms.drop k2=[]:=List.drop_eq_nil_of_le (by rw[HML.out];exact ZmK _)
  have hrc:=HC.out
  rw[hdr,Cc.runC]at hrc
  have hx9:=HX.out
  have HK:=ZmE HO.out.slk
  cases sh with
  |true=>rw[ZmH rfl]at hrc;have HF:Hid (res=([],22)):=ZmE (by rw[HR2.out,hrc]);clear hrc hdr hlt hj;go_wp2;exact QcV
  |false=>rw[ZmF QhP]at hrc;have HF:Hid (res=(out,0)):=ZmE (by rw[HR2.out,hrc]);clear hrc hdr hlt hj;go_wp2;go_ret2;rw[HF.out];exact Qdh
end
end Go.Proofs.YtbngggoccndefaaGreatDoor
