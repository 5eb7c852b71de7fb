/-
  Laid.
-/
import Derived.Test.YtbngggoccndefaaGreatDoorUn23
set_option maxHeartbeats 16000000
set_option maxRecDepth 100000
set_option linter.all false
namespace Go.Proofs.YtbngggoccndefaaGreatDoor
open Go.Proofs.Tryz
section
open Go.RowKit
def Y9 (xs:List Int) (i:Nat) (L:List Int):Prop:=L.length=xs.length∧∀k,k<xs.length->L[k]? =if k<i∨xs.length-1-i<k then xs[xs.length-1-k]? else xs[k]?
theorem Y9.zero (xs:List Int):Y9 xs 0 xs:=⟨rfl,fun k hk=>by rw[C0 B0]⟩
theorem Y9.next {xs L:List Int} {i j:Nat} {x y:Int} (h:Y9 xs i L) (hj:j=xs.length-1-i) (hij:i<j) (hi:L[i]? =some x) (hy:L[j]? =some y):Y9 xs (i+1) ((L.set i y).set j x):=by
 have hx1:=h.2 i B0;rw[C0 B0,hi]at hx1;have hy1:=h.2 j B0;rw[C0 B0,hy]at hy1;have hll:=h.1;refine⟨by rw[U6,U6];exact h.1,fun k hk=> ?_⟩;by_cases e1:j=k;·subst e1;rw[YH (by rw[U6,hll];exact hk),D0 B0,show xs.length-1-j=i by omega,hx1]
 ·rw[YI e1];by_cases e2:i=k;(·subst e2;rw[YH (by rw[hll];exact hk),D0 B0,<-hj,hy1]);·rw[YI e2,h.2 k hk];by_cases e3:k<i∨xs.length-1-i<k;(·rw[D0 e3,D0 B0]);·rw[C0 e3,C0 B0]
theorem Y9.all {xs L:List Int} {i:Nat} (h:Y9 xs i L) (hi:xs.length-1<=2*i):L=xs.reverse:=by
 apply XQ;intro k;by_cases hk:k<xs.length;·rw[h.2 k hk,YZ hk];split;(·rfl);·congr 1;omega
 ·rw[YJ (by rw[h.1];omega),YJ (by rw[D4];omega)]
theorem ZiO (g n c B:Nat) (xs:List Int) (w:World) (hn:xs.length=n) (hl:n<=1000000) (hown:Own 3 w B (.slice (some ⟨g,0,none⟩) n c) (xs.map encI)):
 Calls prog 45 #[.slice (some ⟨g,0,none⟩) n c] w fun e w'=>e=.returned (.tuple #[])∧Own 3 w' B (.slice (some ⟨g,0,none⟩) n c) (xs.reverse.map encI)∧GB (some g) w w':=by
 have HO0:=A0 hown
 have HN:=A0 hn
 clear hown hn
 go_enter func45,ntmps45
 go_wp2_with fail
 go_loopw [2,3] (fun ti tj wr=>∃(i:Nat) (j:Int) (L:List Int),i<=n∧ti=.int .i64 (i:Int)∧tj=.int .i64 j∧j=(n:Int)-1-(i:Int)∧Hid (Y9 xs i L)∧Hid (Own 3 wr B (.slice (some ⟨g,0,none⟩) n c) (L.map encI))∧Hid (GB (some g) w wr)) (fun ti _ _=>n-(intOf ti).toNat)
 case atStart=>exact⟨0,_,xs,O0 _,rfl,rfl,by omega,A0 (Y9.zero xs),HO0,A0 (GB.refl _)⟩
 case round=>
 clear HO0
 obtain⟨i,jj,L,hi,rfl,rfl,hj,HR,HO,HG⟩:=hrel
 by_cases hlt:(i:Int)<jj
 ·obtain⟨j,rfl⟩:∃j:Nat,jj=(j:Int):=⟨jj.toNat,by omega⟩;have hjn:j<n:=B0;have hin:i<n:=B0;have hiI:(i:Int)<(n:Int):=B0;have hjI:(j:Int)<(n:Int):=B0;have hLl:L.length=n:=(by rw[HR.out.1,HN.out]);obtain⟨x,hx⟩:∃x,L[i]? =some x:=⟨_,M0 B0⟩;obtain⟨y,hy⟩:∃y,L[j]? =some y:=⟨_,M0 B0⟩;obtain⟨b1,o1,ha1,-,hc1⟩:=HO.out.slk.1.int_at (c:=c) (n:=n) (Ext.refl wr) hx;injection ha1 with ha1;injection ha1 with q1 q2;subst q1 q2;obtain⟨b1,o1,ha1,-,hc2⟩:=HO.out.slk.1.int_at (c:=c) (n:=n) (Ext.refl wr) hy;injection ha1 with ha1;injection ha1 with q1 q2;subst q1 q2;rw[T4]at hc1 hc2;obtain⟨_,_,f1⟩:=HO.out.intAt (i:=i) B0;obtain⟨_,_,f2⟩:=HO.out.intAt (i:=j) B0;have HR9:=A0 (HR.out.next (by rw[HN.out];omega) B0 hx hy);have HO9:=A0 (((HO.out.putI i y).1.putI j x).1);have HG9:=A0 ((HG.out.trans (ZI wr g i (.int .i64 y))).trans (ZI _ g j (.int .i64 x)));have HJ2:Hid ((j:Int)-1=(n:Int)-1-((i+1:Nat):Int)):=A0 B0;clear hx hy hLl hj;go_wp2_with fail;go_region;go_wp2_with fail;go_roundw;(case rel=>exact⟨i+1,_,_,by omega,by go_num,rfl,HJ2.out,HR9,A0 HO9.out.drew,A0 HG9.out.drew⟩);case measure=>exact C1
 ·have HF:Hid (L=xs.reverse):=A0 (HR.out.all (by rw[HN.out];omega));have hO:=HO.out;rw[HF.out]at hO;have HO9:=A0 hO;clear hO;go_wp2;go_end0;exact⟨rfl,by first|exact HO9.out|(rw[<-List.map_reverse];exact HO9.out),HG.out⟩
theorem ZkE (b o n c:Nat) (xs:List Int) (w:World) (hn:xs.length=n) (h1:1<=n) (hl:n<=1000000) (hv:Sl w (.slice (some ⟨b,o,none⟩) n c) (xs.map encI)):
 Calls prog 44 #[.slice (some ⟨b,o,none⟩) n c] w fun e w'=>∃g c',e=.returned (.slice (some ⟨g,0,none⟩) n c')∧Own 3 w' w.heap.size (.slice (some ⟨g,0,none⟩) n c') (xs.map encI)∧Ext w w':=by
 have HV:=A0 hv
 have HN:=A0 hn
 have HO0:Hid (Own 3 (w.alloc (.cells #[] 3)) w.heap.size (.slice (some ⟨w.heap.size,0,none⟩) 0 0) []):=A0 ⟨rfl,.inr ⟨w.heap.size,0,#[],rfl,K0 _,L2 _ _,K0 _,by decide,rfl,rfl⟩⟩
 have hbo:∀w:World,(binOp BinOp.eql 43 (.slice (some ⟨b,o,none⟩) n c) (.slice none 0 0)).run prog w=.ok (.bool false) w:=fun w=>by kernel_rfl
 clear hv hn
 go_enter func44,ntmps44
 go_wp2_with (at_builtin;refine OG rfl _ _ 43 3 (.int .i64 0) 8 rfl underlying43 OJ rfl I0 w.heap.size _ [] rfl HO0.out b o n c (xs.map encI) rfl ?c1 ?c2 ?c3 ?c4 ?c5 ?_)
 case c1=>rw[J0];exact HN.out
 case c2=>intro j u hj;rcases HV.out.ext ((Ext.refl w).alloc (.cells #[] 3))with⟨h,_⟩|⟨b',o',cp,h,hb',hc⟩;(·rw[h]at hj;cases hj);·injection h with e1 e2 e3;injection e1 with e1;injection e1 with e1 e4;subst e1 e4;have hjl:=(I1.1 hj).1;rw[hc j hjl];exact hj
 case c3=>intro y hy;obtain⟨z,_,rfl⟩:=E7.1 hy;rfl
 case c4=>exact S0
 case c5=>simp
 intro v' w5 hown5 hg5
 have hX5:Ext w w5:=((Ext.refl w).alloc _).ofGrown hg5 HO0.out.low
 have hown5:Own 3 w5 w.heap.size v' (xs.map encI):=hown5
 have hfm:∃g c',v'=.slice (some ⟨g,0,none⟩) n c':=by rcases hown5.2 with⟨_,h⟩|⟨g,cap,cur,h,_⟩;(·rw[J0]at h;exact I8);·rw[J0,HN.out]at h;exact⟨g,cap,h⟩
 obtain⟨g,c',rfl⟩:=hfm
 have HO5:=A0 hown5
 have HX5:=A0 hX5
 clear hown5 hg5 hX5
 go_wp2_with fail
 go_ret
 exact⟨g,c',rfl,HO5.out,HX5.out⟩
theorem Cc.run_at {s:Nat} {sh:Bool} {out ms:List Int} {j:Nat} {x:Int} (h:ms[j]? =some x):Cc.runC s sh out (ms.drop j)=match Cc.stepC s sh x with|none=>none|some (s',h',o)=>Cc.runC s' h' (out++o) (ms.drop (j+1)):=by obtain⟨h1,h2⟩:=I1.1 h;rw[C5 h1,h2,Cc.runC];cases Cc.stepC s sh x<;>rfl
theorem Cc.step_in {s:Nat} {sh:Bool} {x:Int} {r:Nat×Bool×List Int} (h:Cc.stepC s sh x=some r) (hs:s<=2) (hsh:sh=true->s<2):r.1<=2∧(r.2.1=true->r.1<2)∧r.2.2.length<=2:=by
 unfold Cc.stepC at h;split at h;·rename_i e;split at h;(·cases h);·exact WV
 ·by_cases h0:102<x;(·exact SW);rw[C0 h0]at h;by_cases h1:x=102;(·rw[D0 h1]at h;exact WV);rw[C0 h1]at h;by_cases h2:s=2∧x<=99;(·rw[D0 h2]at h;exact WV);rw[C0 h2]at h;by_cases h3:x<=95;(·rw[D0 h3]at h;exact WV);rw[C0 h3]at h;by_cases h4:x=96;(·rw[D0 h4]at h;exact WV);rw[C0 h4]at h;by_cases h5:x=97;(·rw[D0 h5]at h;exact WV);rw[C0 h5]at h;by_cases h6:x=98;(·rw[D0 h6]at h;injection h with h;subst h;exact⟨hs,(fun _=>by dsimp only;omega),by simp⟩);rw[C0 h6]at h;by_cases h7:x=99;(·rw[D0 h7]at h;exact AU);rw[C0 h7]at h;by_cases h8:x=100∧s≠1;(·rw[D0 h8]at h;exact AU);rw[C0 h8]at h;by_cases h9:x=101∧s≠0;(·rw[D0 h9]at h;exact AU);rw[C0 h9]at h;exact WV
def RdK (B:Nat) (out:List Int) (st:Option (Nat×Bool×List Int)) (p:Int) (q:Bool) (a':Option Addr) (n' c':Nat) (w:World):Prop:=match st with
 |none=>True
 |some (s',h',o)=>p=(s':Int)∧q=h'∧n'=out.length+o.length∧Own 3 w B (.slice a' n' c') ((out++o).map encI)
theorem RdK.on {B:Nat} {out:List Int} {st:Option (Nat×Bool×List Int)} {p:Int} {q:Bool} {a':Option Addr} {n' c':Nat} {w w':World} (h:RdK B out st p q a' n' c' w) (hx:Ext w w'):RdK B out st p q a' n' c' w':=by
 unfold RdK at*;split at h;·trivial
 ·obtain⟨h1,h2,h3,h4⟩:=h;exact⟨h1,h2,h3,h4.ext hx⟩
def RdV (B:Nat) (out:List Int) (st:Option (Nat×Bool×List Int)) (_:Bool):RG.Rel:=fun v w=>∃p q a' n' c',v=.tuple #[.agg #[.int .i64 p,.bool q,.slice a' n' c'],.bool st.isSome]∧RdK B out st p q a' n' c' w
def RdA (B:Nat) (out:List Int) (st:Option (Nat×Bool×List Int)):RG.Rel:=fun v w=>∃p q a' n' c',v=.agg #[.int .i64 p,.bool q,.slice a' n' c']∧RdK B out st p q a' n' c' w
theorem RdV.stable (B:Nat) (out:List Int) (st:Option (Nat×Bool×List Int)) (y:Bool):∀v w w',RdV B out st y v w->Ext w w'->RdV B out st y v w':=fun _ _ _ ⟨p,q,a,n,c,h1,h2⟩ hx=>⟨p,q,a,n,c,h1,h2.on hx⟩
theorem RdA.stable (B:Nat) (out:List Int) (st:Option (Nat×Bool×List Int)):∀v w w',RdA B out st v w->Ext w w'->RdA B out st v w':=fun _ _ _ ⟨p,q,a,n,c,h1,h2⟩ hx=>⟨p,q,a,n,c,h1,h2.on hx⟩
theorem RdC.to {B:Nat} {row:Option Nat} {out:List Int} {st:Option (Nat×Bool×List Int)} {w w':World} {e:Ending} {y:Bool} (h:RdC B row out st w e w'):∃v,e=.returned v∧GB row w w'∧RdV B out st y v w':=by
 obtain⟨h1,h2⟩:=h
 cases st with
 |none=>obtain⟨p,q,a',n',c',rfl⟩:=h2;exact⟨_,rfl,h1,p,q,a',n',c',rfl,trivial⟩
 |some t=>obtain⟨s',h',o⟩:=t;obtain⟨a',c',rfl,h3⟩:=h2;exact⟨_,rfl,h1,_,_,_,_,_,rfl,rfl,rfl,rfl,h3⟩
def PR (row:Option Nat) (B:Nat):RG.Rel:=fun v w=>∃g,v=.pointer (some ⟨g,0,none⟩)∧B<=g∧row≠some g∧w.heap[g]? =some (.cells #[.int .i64 0,.bool false,.slice none 0 0] 278 (0,0))
theorem PR.stable (row:Option Nat) (B:Nat):∀v w w',PR row B v w->GB row w w'->PR row B v w':=fun _ _ _ ⟨g,h1,h2,h3,h4⟩ hx=>⟨g,h1,h2,h3,hx.heap h4 h3⟩
def RdL (w:World) (RC:Option (List Int)) (ms:List Int) (k2:Nat) (t:Value) (wr:World):Prop:=∃(j s:Nat) (sh:Bool) (a:Option Addr) (c m:Nat) (out:List Int),1<=j∧j<=k2∧t=.int .i64 (j:Int)∧s<=2∧(sh=true->s<2)∧m<=2*j∧m=out.length∧Hid (RC=Cc.runC s sh out (ms.drop j))∧Hid (wr.heap[w.heap.size]? =some (.cells #[.int .i64 (s:Int),.bool sh,.slice a m c] 278 (0,0)))∧Hid (Own 3 wr w.heap.size (.slice a m c) (out.map encI))∧Hid (Ext w wr)
theorem KV {w w':World} {b:Nat} (h:Ext w w') (hb:w.heap.size<=b) (p q r:Value):Ext w (((w'.setCell ⟨b,0,none⟩ p).setCell ⟨b,1,none⟩ q).setCell ⟨b,2,none⟩ r):=((h.setCell hb _).setCell hb _).setCell hb _
theorem RdK.set {B:Nat} {out:List Int} {st:Option (Nat×Bool×List Int)} {p:Int} {q:Bool} {a':Option Addr} {n' c':Nat} {w:World} {g:Nat} {cs:Array Value} (h:RdK B out st p q a' n' c' w) (hg:w.heap[g]? =some (.cells cs 278 (0,0))) (x y z:Value):RdK B out st p q a' n' c' (((w.setCell ⟨g,0,none⟩ x).setCell ⟨g,1,none⟩ y).setCell ⟨g,2,none⟩ z):=by
 unfold RdK at*;split at h;·trivial
 ·obtain⟨h1,h2,h3,h4⟩:=h;exact⟨h1,h2,h3,((h4.set hg I0 _ _).set (Zp hg) I0 _ _).set (Zp (Zp hg)) I0 _ _⟩
theorem Cc.chkTo_ref {ms:List Int} {j:Nat} {t x:Int} (ht:t=if j=0 then 0 else Cc.chkTo ms j) (hx:ms[j]? =some x):(t+max 1 (j:Int)*x)%103=Cc.chkTo ms (j+1):=by
 have hg:ms.getD j 0=x:=by rw[U0,hx];rfl
 rw[Cc.chkTo,hg];by_cases h:j=0;·subst h;rw[D0 rfl]at ht;subst ht;rw[Cc.chkTo,hg];have e:max (1:Int) ((0:Nat):Int)=1:=I0;rw[e];simp
 ·rw[C0 h]at ht;subst ht;have e:max (1:Int) (j:Int)=(j:Int):=B0;rw[e]
theorem ZjV (v:Value) (vs:List Int) (w:World) (hv:Sl w v (vs.map encI)) (hl:vs.length<=400000):
 Calls prog 223 #[v] w (F5 (Cc.chars vs) w):=by
 obtain⟨a,cv,rfl⟩:=hv.form
 rw[J0]at hv⊢
 obtain⟨n,hn⟩:∃n,n=vs.length:=⟨_,rfl⟩
 have HR:=A0 (Cc.chars.eq_1 vs)
 rw[<-hn]at hv hl⊢
 rw[<-hn]at HR
 have HN:=A0 hn
 have HV:=A0 hv
 generalize Cc.chars vs=res at*
 clear hv hn
 go_enter func223,ntmps223
 go_wp2_with fail
 go_loop [5] (fun t=>∃j:Nat,j<=n∧t=.int .i64 (j:Int)∧Hid (∀x∈vs.take j,0<=x∧x<=106)) (fun t=>n-(intOf t).toNat)
 case atStart=>exact RI
 case round=>
 obtain⟨j,hj,rfl,HB⟩:=hrel
 by_cases hlt:j<n
 ·exact dV
 obtain rfl:n=j:=by omega
 have HB3:Hid (∀x∈vs,0<=x∧x<=106):=A0 (fun x hx=>HB.out x KF)
 have HR2:Hid (res=if n<3 then(([],7):List Int×Int)else if vs.getD 0 0<103∨105<vs.getD 0 0 then([],19)else if vs.getD (n-1) 0≠106 then([],20)else if vs.getD (n-2) 0≠Cc.chk (vs.take (n-2))then([],8)else match Cc.runC (vs.getD 0 0-103).toNat false [] ((vs.take (n-2)).drop 1)with|none=>([],22)|some o=>(o,0)):=A0 dW
 clear HR HB hlt hj
 by_cases h3:n<3
 ·exact dX
 rw[C0 h3]at HR2
 have h3I:¬(n:Int)<3:=by omega
 obtain⟨x0,hx0⟩:∃x,vs[0]? =some x:=⟨_,M0 G5⟩
 obtain⟨b,o,ha,hb,hc0⟩:=HV.out.int_at (Ext.refl w) hx0
 subst ha
 rw[Y4]at hc0
 have e0:vs.getD 0 0=x0:=by rw[U0,hx0];rfl
 rw[e0]at HR2
 have hb0:=HB3.out x0 (J1 hx0)
 have hn0:(0:Int)<(n:Int):=by omega
 clear e0 hx0
 by_cases hs:x0<103∨105<x0
 ·exact dY
 rw[C0 hs]at HR2
 have hs1:¬x0<103:=by omega
 have hs2:¬105<x0:=by omega
 clear hs
 obtain⟨k1,hk1⟩:∃k,k=n-1:=⟨_,rfl⟩
 obtain⟨k2,hk2⟩:∃k,k=n-2:=⟨_,rfl⟩
 rw[<-hk1,<-hk2]at HR2
 have hk1I:(n:Int)-1=(k1:Int):=by omega
 have hk2I:(n:Int)-2=(k2:Int):=by omega
 obtain⟨x1,hx1⟩:∃x,vs[k1]? =some x:=⟨_,M0 G5⟩
 obtain⟨x2,hx2⟩:∃x,vs[k2]? =some x:=⟨_,M0 G5⟩
 obtain⟨b',o',ha,_,hc1⟩:=HV.out.int_at (Ext.refl w) hx1
 injection ha with ha
 injection ha with q1 q2
 subst q1 q2
 obtain⟨b',o',ha,_,hc2⟩:=HV.out.int_at (Ext.refl w) hx2
 injection ha with ha
 injection ha with q1 q2
 subst q1 q2
 have e1:vs.getD k1 0=x1:=by rw[U0,hx1];rfl
 have e2:vs.getD k2 0=x2:=by rw[U0,hx2];rfl
 rw[e1,e2]at HR2
 have hk1n:(k1:Int)<(n:Int):=by omega
 have hk2n:(k2:Int)<(n:Int):=by omega
 have hk10:k1<n:=by omega
 have hk20:k2<n:=by omega
 have hk21:1<=k2:=by omega
 clear e1 e2 hx1 hx2 hk1 hk2
 by_cases hst:x1≠106
 ·rw[D0 hst]at HR2;have z1:(x1 !=106)=true:=(by simp[hst]);have z1d:decide (x1=106)=false:=X0 hst;clear hst;exact TI
 rw[C0 hst]at HR2
 obtain rfl:x1=106:=by omega
 clear hst
 obtain⟨ms,hms⟩:∃ms,ms=vs.take k2:=⟨_,rfl⟩
 rw[<-hms]at HR2
 have hml:ms.length=k2:=by rw[hms,M1,<-HN.out];omega
 have HMA:Hid (∀i,i<k2->ms[i]? =vs[i]?):=A0 (fun i hi=>by rw[hms,W6,D0 hi])
 have HCI:Hid (∀i,0<=Cc.chkTo ms i∧Cc.chkTo ms i<=106):=A0 (Cc.chkTo_in ms (fun x hx=>HB3.out x (G4 (hms▸hx))))
 have hchk:=Cc.chk_to ms
 rw[hml]at hchk
 rw[hchk]at HR2
 have HML:=A0 hml
 clear hms hml hchk
 go_wp2_with fail
 go_loop [6,7] (fun s i=>∃(j:Nat) (t:Int),j<=k2∧i=.int .i64 (j:Int)∧s=.int .i64 t∧0<=t∧t<=106∧Hid (t=if j=0 then 0 else Cc.chkTo ms j)) (fun _ i=>k2-(intOf i).toNat)
 case atStart=>exact⟨0,0,O0 _,rfl,rfl,by decide,by decide,A0 rfl⟩
 case round=>
 obtain⟨j,t,hj,rfl,rfl,ht0,ht1,HT⟩:=hrel
 by_cases hlt:j<k2
 ·obtain⟨x,hxj⟩:∃x,vs[j]? =some x:=⟨_,M0 G5⟩;obtain⟨b',o',ha,hb',hcj⟩:=HV.out.int_at (Ext.refl w) hxj;injection ha with ha;injection ha with h1 h2;subst h1 h2;have hxb:=HB3.out x (J1 hxj);have hjI:(j:Int)<(k2:Int):=B0;have hjnI:(j:Int)<(n:Int):=B0;obtain⟨mx,hmx⟩:∃mx,mx=max 1 (j:Int):=⟨_,rfl⟩;have hmx1:1<=mx:=B0;have hmx2:mx<=400000:=B0;obtain⟨p,hp⟩:∃p,p=mx*x:=⟨_,rfl⟩;have hp0:0<=p:=(by rw[hp];exact T7 B0 hxb.1);have hp1:p<=400000*106:=(by rw[hp];exact S8 hmx2 hxb.2 hxb.1 B0);obtain⟨t2,ht2⟩:∃t2,t2=(t+p)%103:=⟨_,rfl⟩;have HT2:Hid (t2=if j+1=0 then 0 else Cc.chkTo ms (j+1)):=A0 (by rw[C0 B0,ht2,hp,hmx];exact Cc.chkTo_ref HT.out ((HMA.out j hlt).trans hxj));have hq:=ht2.symm;have hq0:0<=t2:=B0;have hq1:t2<=106:=B0;have hpe:=hp.symm;have hme:=hmx.symm;clear hxj hp ht2 hmx;exact uV
 obtain rfl:k2=j:=by omega
 have hT:Cc.chkTo ms k2=t:=(HT.out.trans (C0 B0)).symm
 rw[hT]at HR2
 clear HT hT hlt hj
 by_cases hck:x2≠t
 ·rw[D0 hck]at HR2;have z2:(x2 !=t)=true:=(by simp[hck]);have z2d:decide (x2=t)=false:=X0 hck;clear hck;exact TI
 rw[C0 hck]at HR2
 obtain rfl:x2=t:=L5.1 hck
 clear hck
 obtain⟨s0,hs0⟩:∃s:Nat,s=(x0-103).toNat:=⟨_,rfl⟩
 have hs02:s0<=2:=by omega
 have hs0I:x0-103=(s0:Int):=by omega
 rw[<-hs0]at HR2
 obtain⟨RC,hRC⟩:∃RC,RC=Cc.runC s0 false [] (ms.drop 1):=⟨_,rfl⟩
 rw[<-hRC]at HR2
 have HRC:=A0 hRC
 have HK2:=A0 hk2I
 clear hs0 hRC
 go_wp2_with fail
 go_loopw [9] (fun t wr=>RdL w RC ms k2 t wr) (fun t _=>k2-(intOf t).toNat)
 case atStart=>exact⟨1,s0,false,none,0,0,[],K0 _,hk21,rfl,hs02,(fun h=>by cases h),by omega,rfl,HRC,A0 (L2 w _),A0 (Own.nil _ _ _),A0 ((Ext.refl w).alloc _)⟩
 case round=>
 clear HRC
 obtain⟨j,s,sh,a,c,m,out,hj1,hj,rfl,hs,hsh,hm,hmo,HC,HB,HO,HX⟩:=hrel
 have HMO:=A0 hmo
 have HSH:=A0 hsh
 clear hmo hsh
 by_cases hlt:j<k2
 ·obtain⟨x,hxj⟩:∃x,vs[j]? =some x:=⟨_,M0 G5⟩;have hxb:=HB3.out x (J1 hxj);have hjI:(j:Int)<(k2:Int):=B0;have hjnI:(j:Int)<(n:Int):=B0;have hjn:j<n:=B0;obtain⟨st,hst⟩:∃st,st=Cc.stepC s sh x:=⟨_,rfl⟩;have HSTE:=A0 hst;obtain⟨row,hrow⟩:∃row,row=(Value.slice a m c).ownBlock:=⟨_,rfl⟩;have hoff:=HO.out.off HB.out I0;have hlow:=HO.out.low;rw[<-hrow]at hoff hlow;have HLOW:=A0 hlow;have HKB:=A0 (fun w' (h:GB row wr w')=>GB.heap h HB.out hoff);have HKX:Hid (∀w',GB row wr w'->w'.cell? ⟨b,o+j,none⟩=some (.int .i64 x)):=A0 (fun w' h=>by obtain⟨b',o',ha,_,hc⟩:=HV.out.int_at (HX.out.ofGrown h HLOW.out) hxj;injection ha with ha;injection ha with h1 h2;subst h1 h2;exact hc);have HLT:Hid (∀k,row=some k->k<wr.heap.size):=A0 (fun k hk=>(U5 HO.out k (by rw[<-hrow];exact hk)).2);have HRD:Hid (∀w',Ext wr w'->Calls prog 261 #[.agg #[.int .i64 (s:Int),.bool sh,.slice a m c],.int .i64 x] w' (RdC w.heap.size row out st w')):=A0 (fun w' h=>by rw[hrow,hst];exact Zly s sh a c m out x w.heap.size w' HMO.out.symm (HO.out.ext h) hs HSH.out hxb.1 hxb.2 B0 (B4 HX.out.size h.size));have HXJ:Hid (ms[j]? =some x):=A0 ((HMA.out j hlt).trans hxj);have hwlt:w.heap.size<wr.heap.size:=(O3.1 HB.out).1;clear hxj hst hrow hoff hlow hxb;go_wp2_with fail;refine RG.wp_region_relC (row:=row) 5 [6,7,8] 10 2 8 rfl [84,85,86,87,88,89,83,90,91,10] [[],[],[],[1,2],[3],[0,4],[5],[6],[6],[]] G0 G0 G0 ?_;refine RG.relPlanC_by (RG.eqv (.agg #[.int .i64 (s:Int),.bool sh,.slice a m c])) (fun _ _ _ h _=>h) I0 ?_ ?_;(·intro V w' hx hf;(with_reducible refine RG.relAt_ops ?_);intro A ρ hA hρ hcst hfun;have h8:ρ (.tmp 8)=.pointer (some ⟨w.heap.size,0,none⟩):=(P0 hρ _).trans (RG.evalMiss hA 8 rfl);obtain⟨-,q0,q1,q2,-⟩:=Zj (HKB.out w' hx);simp[RG.relUpon,go_sem,Ext.refl,h8,q0,q1,q2];try rfl);apply RG.relPlanC_eq I0;(·intro V w' hx hf;(with_reducible refine RG.relAt_ops ?_);intro A ρ hA hρ hcst hfun;have h0:ρ (.tmp 0)=.slice (some ⟨b,o,none⟩) n cv:=(P0 hρ _).trans (RG.evalMiss hA 0 rfl);exact RG.relUpon_move (hk:=by rw[h0];exact⟨Ext.refl _,rfl⟩));apply RG.relPlanC_eq I0;(·intro V w' hx hf;(with_reducible refine RG.relAt_ops ?_);intro A ρ hA hρ hcst hfun;have h9:ρ (.tmp 9)=.int .i64 (j:Int):=(P0 hρ _).trans (RG.evalMiss hA 9 rfl);exact RG.relUpon_move (hk:=by rw[h9];exact⟨Ext.refl _,rfl⟩));refine RG.relPlanC_by (RG.eqv (.pointer (some ⟨b,o+j,none⟩))) (fun _ _ _ h _=>h) I0 ?_ ?_;(·intro V w' hx hf;(with_reducible refine RG.relAt_ops ?_);intro A ρ hA hρ hcst hfun;obtain⟨f85,f86,_⟩:=hf;have h85:ρ (.tmp 85)=_:=(P0 hρ _).trans ((RG.evalHit hA 85 rfl).trans f85);have h86:ρ (.tmp 86)=_:=(P0 hρ _).trans ((RG.evalHit hA 86 rfl).trans f86);simp[RG.relUpon,go_sem,hcst,↓IntWalk.iteOmega,Ext.refl,h85,h86,hjnI,hjn];try rfl);refine RG.relPlanC_by (RG.eqv (.int .i64 x)) (fun _ _ _ h _=>h) I0 ?_ ?_;(·intro V w' hx hf;(with_reducible refine RG.relAt_ops ?_);intro A ρ hA hρ hcst hfun;obtain⟨f87,_⟩:=hf;have h87:ρ (.tmp 87)=_:=(P0 hρ _).trans ((RG.evalHit hA 87 rfl).trans f87);have hcx:=HKX.out w' hx;simp[RG.relUpon,go_sem,Ext.refl,h87,hcx];try rfl);refine RG.relPlanC_call (RdV w.heap.size out st true) (RdV.stable _ _ _ _) rfl I0 ?_ ?_;(·intro V w' hx hf;(with_reducible refine RG.relAt_ops ?_);intro A ρ hA hρ hcst hfun;obtain⟨f84,f88,_⟩:=hf;have h84:ρ (.tmp 84)=_:=(P0 hρ _).trans ((RG.evalHit hA 84 rfl).trans f84);have h88:ρ (.tmp 88)=_:=(P0 hρ _).trans ((RG.evalHit hA 88 rfl).trans f88);simp[RG.relUpon,go_sem,hcst,hfun,h84,h88];exact(HRD.out w' hx).mono fun e w'' h=>RdC.to h);refine RG.relPlanC_late (RdV w.heap.size out st true) (RdV.stable _ _ _ _) I0 I0 ?_ ?_;(·intro V w' hx hf;(with_reducible refine RG.relAt_ops ?_);intro A ρ hA hρ hcst hfun;obtain⟨f89,_⟩:=hf;have h89:ρ (.tmp 89)=V 89:=(P0 hρ _).trans (RG.evalHit hA 89 rfl);exact RG.relUpon_move (hk:=by rw[h89];exact⟨Ext.refl _,f89⟩));refine RG.relPlanC_late (RdA w.heap.size out st) (RdA.stable _ _ _) I0 I0 ?_ ?_;(·intro V w' hx hf;(with_reducible refine RG.relAt_ops ?_);intro A ρ hA hρ hcst hfun;obtain⟨f83,_⟩:=hf;obtain⟨p,q,a',n',c',hv,hst⟩:=f83;have h83:ρ (.tmp 83)=_:=(P0 hρ _).trans ((RG.evalHit hA 83 rfl).trans hv);simp[RG.relUpon,go_sem,Ext.refl,h83];exact⟨p,q,a',n',c',rfl,hst⟩);refine RG.relPlanC_by (RG.eqv (.bool st.isSome)) (fun _ _ _ h _=>h) I0 ?_ ?_;(·intro V w' hx hf;(with_reducible refine RG.relAt_ops ?_);intro A ρ hA hρ hcst hfun;obtain⟨f83,_⟩:=hf;obtain⟨p,q,a',n',c',hv,hst⟩:=f83;have h83:ρ (.tmp 83)=_:=(P0 hρ _).trans ((RG.evalHit hA 83 rfl).trans hv);simp[RG.relUpon,go_sem,Ext.refl,h83];try rfl);refine RG.relPlanC_by (PR row wr.heap.size) (PR.stable _ _) I0 ?_ ?_;(·intro V w' hx hf;(with_reducible refine RG.relAt_ops ?_);intro A ρ hA hρ hcst hfun;simp[RG.relUpon,go_sem];refine⟨(Ext.refl _).alloc _,_,rfl,?_,?_,L2 _ _⟩;(·exact GB.size hx);·intro e;have h1:=HLT.out _ e;have h2:=GB.size hx;omega);refine⟨?_,?_⟩
  ·intro V wT hxT hf
   obtain⟨g84,g85,g86,g87,g88,g89,g83,g90,g91,g10,_⟩:=hf
   obtain⟨bc,e10,hbc,hbr,hc10⟩:=g10
   obtain⟨p,q,a9,n9,c9,e90,hK⟩:=g90
   have e10:V 10=_:=e10
   have e90:V 90=_:=e90
   have e91:V 91=.bool st.isSome:=g91
   simp only[RG.fillA,F1,O1,Act.put,V1,N1,L1]
   rw[e10,e90,e91]
   obtain⟨c0,c1,c2,c3,c4,c5,c6,c7⟩:=Zj hc10
   clear g84 g85 g86 g87 g88 g89 g83 g91 e10 e90 e91
   refine R9 10 G0 rfl (fun K hK=> ?_)
   go_simp
   refine hK _ _ ?_
   clear hK K
   refine R9 11 G0 rfl (fun K hK=> ?_)
   go_simp
   refine hK _ _ ?_
   clear hK K
   refine wpAny_done G0 ?_ 0
   have hX9:=KV (HX.out.ofGrown hxT HLOW.out) (show w.heap.size<=bc by omega) (.int .i64 p) (.bool q) (.slice a9 n9 c9)
   have hB9:=Zs (i:=2) (u:=.slice a9 n9 c9) (show bc≠w.heap.size by omega) (Zs (i:=1) (u:=.bool q) (show bc≠w.heap.size by omega) (Zs (i:=0) (u:=.int .i64 p) (show bc≠w.heap.size by omega) (HKB.out wT hxT)))
   have hC9:=Zk (p:=.int .i64 p) (q:=.bool q) (r:=.slice a9 n9 c9) (A0 hc10)
   have hK9:=hK.set hc10 (.int .i64 p) (.bool q) (.slice a9 n9 c9)
   generalize((wT.setCell ⟨bc,0,none⟩ (.int .i64 p)).setCell ⟨bc,1,none⟩ (.bool q)).setCell ⟨bc,2,none⟩ (.slice a9 n9 c9)=w9 at*
   obtain⟨d0,d1,d2,d3,d4,d5,d6,d7⟩:=Zj hC9
   clear c0 c1 c2 c3 c4 c5 c6 c7 hC9 hc10 hK
   cases st with
   |none=>exact AV
   |some t9=>exact QQ
  ·intro V wT hxT hf;obtain⟨g84,g85,g86,g87,g88,g89,g83,g90,g10,_⟩:=hf;obtain⟨bc,e10,hbc,hbr,hc10⟩:=g10;obtain⟨p,q,a9,n9,c9,e90,hK⟩:=g90;obtain⟨p3,q3,a3,n3,c3,e83,_⟩:=g83;have e10:V 10=_:=e10;have e90:V 90=_:=e90;have e83:V 83=_:=e83;simp only[RG.fillA,F1,O1,Act.put,V1,N1,L1];rw[e10,e90,e83];obtain⟨c0,c1,c2,c3,c4,c5,c6,c7⟩:=Zj hc10;clear g84 g85 g86 g87 g88 g89 e10 e90 e83;refine wpAny_ready (rs:=[8,10]) G0 L0 (TF rfl ?_ (TF rfl ?_ AllReady.nil))
   ·intro K hK
    go_simp
    refine hK _ _ ?_
    clear hK K
    refine R9 10 G0 rfl (fun K hK=> ?_)
    go_simp
    refine hK _ _ ?_
    clear hK K
    refine R9 11 G0 rfl (fun K hK=> ?_)
    go_simp
    refine hK _ _ ?_
    clear hK K
    refine wpAny_done G0 ?_ 0
    have hX9:=KV (HX.out.ofGrown hxT HLOW.out) (show w.heap.size<=bc by omega) (.int .i64 p) (.bool q) (.slice a9 n9 c9)
    have hB9:=Zs (i:=2) (u:=.slice a9 n9 c9) (show bc≠w.heap.size by omega) (Zs (i:=1) (u:=.bool q) (show bc≠w.heap.size by omega) (Zs (i:=0) (u:=.int .i64 p) (show bc≠w.heap.size by omega) (HKB.out wT hxT)))
    have hC9:=Zk (p:=.int .i64 p) (q:=.bool q) (r:=.slice a9 n9 c9) (A0 hc10)
    have hK9:=hK.set hc10 (.int .i64 p) (.bool q) (.slice a9 n9 c9)
    generalize((wT.setCell ⟨bc,0,none⟩ (.int .i64 p)).setCell ⟨bc,1,none⟩ (.bool q)).setCell ⟨bc,2,none⟩ (.slice a9 n9 c9)=w9 at*
    obtain⟨d0,d1,d2,d3,d4,d5,d6,d7⟩:=Zj hC9
    clear c0 c1 c2 c3 c4 c5 c6 c7 hC9 hc10 hK
    cases st with
    |none=>exact AV
    |some t9=>exact QQ
   ·intro K hK
    go_simp
    refine hK _ _ ?_
    clear hK K
    refine R9 8 G0 rfl (fun K hK=> ?_)
    go_simp
    refine hK _ _ ?_
    clear hK K
    refine R9 11 G0 rfl (fun K hK=> ?_)
    go_simp
    refine hK _ _ ?_
    clear hK K
    refine wpAny_done G0 ?_ 0
    have hX9:=KV (HX.out.ofGrown hxT HLOW.out) (show w.heap.size<=bc by omega) (.int .i64 p) (.bool q) (.slice a9 n9 c9)
    have hB9:=Zs (i:=2) (u:=.slice a9 n9 c9) (show bc≠w.heap.size by omega) (Zs (i:=1) (u:=.bool q) (show bc≠w.heap.size by omega) (Zs (i:=0) (u:=.int .i64 p) (show bc≠w.heap.size by omega) (HKB.out wT hxT)))
    have hC9:=Zk (p:=.int .i64 p) (q:=.bool q) (r:=.slice a9 n9 c9) (A0 hc10)
    have hK9:=hK.set hc10 (.int .i64 p) (.bool q) (.slice a9 n9 c9)
    generalize((wT.setCell ⟨bc,0,none⟩ (.int .i64 p)).setCell ⟨bc,1,none⟩ (.bool q)).setCell ⟨bc,2,none⟩ (.slice a9 n9 c9)=w9 at*
    obtain⟨d0,d1,d2,d3,d4,d5,d6,d7⟩:=Zj hC9
    clear c0 c1 c2 c3 c4 c5 c6 c7 hC9 hc10 hK
    cases st with
    |none=>exact AV
    |some t9=>exact QQ
 ·obtain rfl:k2=j:=by omega
  obtain⟨e0,e1,e2,e3,e4,e5,e6,e7⟩:=Zj HB.out
  have hdr:ms.drop k2=[]:=List.drop_eq_nil_of_le (by rw[HML.out];exact K0 _)
  have hrc:=HC.out
  rw[hdr,Cc.runC]at hrc
  have hx9:=HX.out
  have HK:=A0 HO.out.slk
  cases sh with
  |true=>rw[D0 rfl]at hrc;have HF:Hid (res=([],22)):=A0 (by rw[HR2.out,hrc]);clear hrc hdr hlt hj;go_wp2;exact AW
  |false=>rw[C0 I0]at hrc;have HF:Hid (res=(out,0)):=A0 (by rw[HR2.out,hrc]);clear hrc hdr hlt hj;go_wp2;go_ret2;rw[HF.out];exact MH
theorem Zhy (v:Nat) (w:World) (hv:v<=106):
 Calls prog 132 #[.int .i64 (v:Int)] w (F5 (Cc.widOf v,0) w):=by
 obtain⟨lo,hlo⟩:∃lo,lo=v*6:=⟨_,rfl⟩
 obtain⟨hi,hhi⟩:∃hi,hi=(v+1)*6:=⟨_,rfl⟩
 obtain⟨res,hres⟩:∃res,res=Cc.widOf v:=⟨_,rfl⟩
 rw[<-hres]
 have hv0:¬(v:Int)<0:=by omega
 have hv106:¬106<(v:Int):=by omega
 by_cases h6:v=106
 ·subst h6;obtain⟨ws,hws⟩:∃ws,ws=Cc.stopP:=⟨_,rfl⟩;have HRES:Hid (res=ws):=A0 (by rw[hres,hws];rfl);have hwl:ws.length=7:=(by rw[hws];rfl);have hdg:∀x∈ws,0<=x∧x<=9:=(by rw[hws];decide);have HXE0:Hid ((⟨#[50,51,51,49,49,49,50]⟩:ByteArray).data.toList=ws.map Cc.byt):=A0 (by rw[hws];rfl);clear hlo hhi hres hws;go_enter func132,ntmps132;go_wp2_with fail;generalize hX:(⟨#[50,51,51,49,49,49,50]⟩:ByteArray)=X at*;have hXE:X.data.toList=ws.map Cc.byt:=(by rw[<-hX];exact HXE0.out);clear hX;have HXE:=A0 hXE;have hXs:X.size=7:=MX;have HWL:=A0 hwl;have HDG:=A0 hdg;clear hXE hwl hdg;go_loopw [5,6] (fun u t wr=>∃i:Nat,i<=7∧t=.int .i64 (i:Int)∧Hid (Own 3 wr w.heap.size u ((ws.take i).map encI))∧Hid (Ext w wr)) (fun _ t _=>7-(intOf t).toNat);(case atStart=>exact UM);case round=>obtain⟨i,hi,rfl,HO,HX⟩:=hrel;by_cases hlt:i<7;(·have hiI:(i:Int)<7:=B0;exact lA);·obtain rfl:i=7:=B0;exact lB
 ·have hv105:(v:Int)<106:=B0;have hloI:6*(v:Int)=(lo:Int):=B0;have hhiI:(lo:Int)+6=(hi:Int):=B0;have hlh:lo<=hi:=B0;have hh9:hi<=636:=B0;have hlhI:(lo:Int)<=(hi:Int):=B0;have hh9I:(hi:Int)<=636:=B0;have hd6:hi-lo=6:=B0;obtain⟨ws,hws⟩:∃ws,ws=Cc.pats.getD v []:=⟨_,rfl⟩;have HRES:Hid (res=ws):=A0 (by rw[hres,hws,Cc.widOf,C0 h6]);obtain⟨hwl,hdg⟩:=Cc.pat_in v B0;rw[<-hws]at hwl hdg;have HPA:Hid ((Cc.patB.drop lo).take (hi-lo)=ws.map Cc.byt):=A0 (by rw[hd6,hlo,hws];exact Cc.pat_at v B0);clear hlo hhi h6 hres hws;go_enter func132,ntmps132;go_wp2_with fail;generalize hX:(_:ByteArray).extract lo hi=X at*;have hXE:X.data.toList=ws.map Cc.byt:=gY;clear hX;have HXE:=A0 hXE;have hXs:X.size=6:=MX;have HWL:=A0 hwl;have HDG:=A0 hdg;clear hXE hwl hdg;go_loopw [5,6] (fun u t wr=>∃i:Nat,i<=6∧t=.int .i64 (i:Int)∧Hid (Own 3 wr w.heap.size u ((ws.take i).map encI))∧Hid (Ext w wr)) (fun _ t _=>6-(intOf t).toNat);(case atStart=>exact UM);case round=>obtain⟨i,hi,rfl,HO,HX⟩:=hrel;by_cases hlt:i<6;(·have hiI:(i:Int)<6:=B0;exact lA);·obtain rfl:i=6:=B0;exact lB
def Cc.valG (ws:List Int):Int:=match(List.range 107).find? (fun v=>Cc.widOf v==ws)with|none=> -1|some v=>(v:Int)
theorem Cc.valG_hit {ws:List Int} {v:Nat} (hv:v<=106) (h:Cc.widOf v=ws) (hb:∀u,u<v->Cc.widOf u≠ws):Cc.valG ws=(v:Int):=by
 have:(List.range 107).find? (fun v=>Cc.widOf v==ws)=some v:=by rw[List.find?_range_eq_some];exact⟨Y0.2 h,M4.2 B0,fun j hj=>by simp[hb j hj]⟩
 rw[Cc.valG,this]
theorem Cc.valG_miss {ws:List Int} (hb:∀u,u<107->Cc.widOf u≠ws):Cc.valG ws= -1:=by
 have:(List.range 107).find? (fun v=>Cc.widOf v==ws)=none:=by rw[KW];intro x hx;rw[M4]at hx;simp[hb x hx]
 rw[Cc.valG,this]
theorem Cc.valG_six {ws:List Int} (h6:ws.length=6):Cc.valG ws=match Cc.valOf ws with|none=> -1|some v=>(v:Int):=by
 cases hv:Cc.valOf ws with
 |none=>refine Cc.valG_miss fun u hu e=> ?_;by_cases h:u=106;(·subst h;rw[<-e]at h6;exact absurd h6 I0);·rw[Cc.widOf,C0 h]at e;unfold Cc.valOf at hv;rw[CA]at hv;have hm:ws∈Cc.pats:=(by rw[<-e,U0,M0 (by rw[Cc.pats_len];omega)];exact OD);have:=hv ws hm;simp at this
 |some v=>unfold Cc.valOf at hv;rw[List.findIdx?_eq_some_iff_getElem]at hv;obtain⟨h1,h2,h3⟩:=hv;have hl:v<106:=h1;(have hw:∀(j:Nat) (hj:j<106),Cc.widOf j=Cc.pats[j]'(by rw[Cc.pats_len];exact hj):=fun j hj=>by rw[Cc.widOf,C0 B0,U0,M0 (by rw[Cc.pats_len];exact hj)];rfl);refine Cc.valG_hit B0 (by rw[hw v hl];exact Y0.1 h2) fun u hu e=> ?_;have:=h3 u hu;rw[hw u B0]at e;simp[e]at this
theorem Cc.wid_len:∀u:Nat,u<106->(Cc.widOf u).length=6:=E2
theorem Cc.valG_seven {ws:List Int} (h7:ws.length=7):Cc.valG ws=if ws=Cc.stopP then 106 else-1:=by
 have hne:∀u,u<106->Cc.widOf u≠ws:=fun u hu e=>by have:=Cc.wid_len u hu;rw[e]at this;omega
 by_cases h:ws=Cc.stopP;·rw[D0 h];exact Cc.valG_hit (v:=106) B0 h.symm hne
 ·rw[C0 h];refine Cc.valG_miss fun u hu e=> ?_;by_cases h2:u=106;(·subst h2;exact h e.symm);·exact hne u B0 e
theorem Cc.wid_le:∀u:Nat,u<107->(Cc.widOf u).length<=7:=E2
theorem lC (v:Value) (ws:List Int) (w:World) (hv:Sl w v (ws.map encI)) (hl:ws.length<=1000000):
 Calls prog 222 #[v] w fun e w'=>e=.returned (.int .i64 (Cc.valG ws))∧Ext w w':=by
 obtain⟨a,c,rfl⟩:=hv.form
 rw[J0]at hv⊢
 obtain⟨n,hn⟩:∃n,n=ws.length:=⟨_,rfl⟩
 rw[<-hn]at hv hl⊢
 have HN:=A0 hn
 have HV:=A0 hv
 have HG:=A0 (fun(v:Nat) (h1:v<=106) h2 h3=> @Cc.valG_hit ws v h1 h2 h3)
 have HM:=A0 (fun h=> @Cc.valG_miss ws h)
 generalize Cc.valG ws=res at*
 clear hv hn
 go_enter func222,ntmps222
 go_wp2_with fail
 go_loopw [3] (fun t wr=>∃k:Nat,k<=107∧t=.int .i64 (k:Int)∧Hid (∀u,u<k->Cc.widOf u≠ws)∧Hid (Ext w wr)) (fun t _=>107-(intOf t).toNat)
 case atStart=>exact⟨0,O0 _,rfl,A0 (fun u hu=>by omega),A0 (Ext.refl _)⟩
 case round=>
 obtain⟨k,hk,rfl,HB,HX⟩:=hrel
 by_cases hlt:k<107
 ·have hkI:(k:Int)<=106:=by omega
  have HP:=A0 (fun w=>Zhy k w B0)
  obtain⟨ps,hps⟩:∃ps,ps=Cc.widOf k:=⟨_,rfl⟩
  have hpl:=Cc.wid_le k hlt
  rw[<-hps]at HP hpl
  obtain⟨L,hL⟩:∃L,L=ps.length:=⟨_,rfl⟩
  rw[<-hL]at hpl
  have HPS:=A0 hps
  have HL:=A0 hL
  clear hps hL
  go_wp2_with fail
  refine(HP.out wr).mono ?_
  rintro e w2 ⟨u,rfl,⟨hu,a2,c2,rfl,-⟩,hx2⟩
  rw[J0,<-HL.out]at hu⊢
  have HU:=A0 hu
  have HX2:=A0 (HX.out.trans hx2)
  clear hu hx2 HP HX
  go_wp2_with fail
  go_loopw [6,7] (fun f t wr=>∃(b:Bool) (i:Nat),i<=L∧f=.bool b∧t=.int .i64 (i:Int)∧Hid (b=true->L=n∧ps.take i=ws.take i)∧Hid (b=false->ps≠ws)∧Hid (Ext w2 wr)) (fun _ t _=>L-(intOf t).toNat)
  case atStart=>exact⟨((L:Int)==(n:Int)),0,O0 _,rfl,rfl,A0 (fun h=>⟨by have:=Y0.1 h;omega,rfl⟩),A0 (fun h e=>by have:=N0.1 h;rw[HL.out,HN.out,e]at this;exact this rfl),A0 (Ext.refl _)⟩
  case round=>
  obtain⟨bb,i,hi,rfl,rfl,HT,HF,HX⟩:=hrel
  cases bb with
  |false=>have HB2:Hid (∀u,u<k+1->Cc.widOf u≠ws):=A0 (fun u hu=>by by_cases h:u=k;(·subst h;rw[<-HPS.out];exact HF.out rfl);·exact HB.out u B0);have HX3:=A0 (HX2.out.trans HX.out);clear HT HF HB HX HX2;go_wp2_with fail;go_roundw;(case rel=>exact⟨k+1,by omega,by go_num,HB2,HX3⟩);case measure=>exact C1
  |true=>by_cases hil:i<L;(·have hiI:(i:Int)<(L:Int):=B0;obtain⟨hLn,htk⟩:=HT.out rfl;have hinI:(i:Int)<(n:Int):=B0;have hin:i<n:=B0;obtain⟨x,hxi⟩:∃x,ps[i]? =some x:=⟨_,M0 (by rw[<-HL.out];exact hil)⟩;obtain⟨y,hyi⟩:∃y,ws[i]? =some y:=⟨_,M0 (by rw[<-HN.out];exact hin)⟩;obtain⟨b,o,ha,hb,hc⟩:=HU.out.int_at HX.out hxi;subst ha;obtain⟨b3,o3,ha3,hb3,hc3⟩:=HV.out.int_at (HX2.out.trans HX.out) hyi;subst ha3;have HT2:Hid ((x==y)=true->L=n∧ps.take (i+1)=ws.take (i+1)):=A0 (fun h=>⟨hLn,by rw[Zz hxi,Zz hyi,htk,Y0.1 h]⟩);have HF2:Hid ((x==y)=false->ps≠ws):=A0 (fun h e=>by have:=N0.1 h;rw[e,hyi]at hxi;exact this (MJ hxi).symm);clear hLn htk hxi hyi HT HF;go_wp2_with fail;go_quiet (fail);have hxq:Ext wr (wr.drewN nq):=(Ext.refl _).drewN _;have HX4:=A0 (HX.out.trans hxq);generalize wr.drewN nq=wq at*;clear hxq HX;go_wp2_with fail;go_roundw;(case rel=>exact⟨x==y,i+1,by omega,rfl,by go_num,HT2,HF2,HX4⟩);case measure=>exact C1);·obtain rfl:L=i:=B0;have HRES:Hid (res=(k:Int)):=A0 (by refine HG.out k B0 ?_ HB.out;obtain⟨h1,h2⟩:=HT.out rfl;rw[X1 (by rw[<-HL.out];exact K0 _),X1 (by rw[<-HN.out,<-h1];exact K0 _)]at h2;rw[<-HPS.out,h2]);have hx9:=HX2.out.trans HX.out;clear hi hil HT HF HB;exact lD
 ·obtain rfl:k=107:=B0;have HRES:Hid (res= -1):=A0 (HM.out HB.out);have hx9:=HX.out;clear hk hlt HB;exact lD
theorem Rn.widths_nil (m:List Bool):Rn.widths m=[]↔Rn.core m=[]:=by
 unfold Rn.widths Rn.widthsN
 cases h:Rn.core m with
 |nil=>simp
 |cons b r=>dsimp only;constructor;(·intro e;have:=Rn.runs_ne r b 1;exact absurd (List.map_eq_nil_iff.1 e) this);·intro e;cases e
theorem ZiF (v:Value) (m:List Bool) (w:World) (hv:SlK w v (m.map encT)) (hm:m.length<=400000):
 Calls prog 145 #[v] w (F5 (Cc.dec m) w):=by
 have HMG:=A0 (fun w' (h:Ext w w')=>EE v m w' (hv.ext h) B0)
 have HWD:=A0 (RL v m w hv B0)
 obtain⟨hwin,hwlen⟩:=Rn.widths_in m
 obtain⟨hsl,ca,cc,rfl,-⟩:=hv
 rw[J0]at hsl HMG HWD⊢
 obtain⟨A,hA⟩:∃A,A=Ea.ldg m:=⟨_,rfl⟩
 obtain⟨B,hB⟩:∃B,B=Ea.trl m:=⟨_,rfl⟩
 rw[<-hA,<-hB]at HMG
 have HR:=A0 (Cc.dec.eq_1 m)
 have hnil:=Rn.widths_nil m
 rw[<-hA,<-hB]at HR
 obtain⟨ws,hws⟩:∃ws,ws=Rn.widths m:=⟨_,rfl⟩
 rw[<-hws]at HR HWD hwin hwlen hnil
 generalize Cc.dec m=res at*
 generalize m.length=M at*
 obtain⟨n,hn⟩:∃n,n=ws.length:=⟨_,rfl⟩
 rw[<-hn]at HR hwlen
 have HNW:=A0 hn
 clear hA hB hws hsl
 by_cases h0:n=0
 ·have z0:((n:Int)==0)=true:=Y0.2 B0;have HF:Hid (res=([],5)):=A0 (by rw[HR.out,D0 (hnil.1 (L4 B0))]);clear HR hnil hn h0;exact PS
 have z0:((n:Int)==0)=false:=N0.2 B0
 have HR1:Hid (res=_):=A0 (HR.out.trans (C0 (fun h=>h0 (by rw[hn,hnil.2 h];rfl))))
 clear HR hnil hn
 by_cases hq:A<10∨B<10
 ·have HF:Hid (res=([],9)):=A0 (by rw[HR1.out,D0 hq]);clear HR1 h0;by_cases hA10:A<10;(·have hAI:(A:Int)<10:=B0;clear hq;exact PS);·have hAI:¬(A:Int)<10:=B0;have hBI:(B:Int)<10:=B0;clear hq;exact PS
 have HR2:Hid (res=_):=A0 (HR1.out.trans (C0 hq))
 have hAI:¬(A:Int)<10:=by omega
 have hBI:¬(B:Int)<10:=by omega
 clear HR1 hq
 by_cases hk:n<19∨(n-7)%6≠0
 ·have HF:Hid (res=([],7)):=A0 (by rw[HR2.out,D0 hk]);clear HR2;by_cases hn19:n<19;(·have hnI:(n:Int)-7<12:=B0;clear hk;exact PS);·obtain⟨k,hkk⟩:∃k,k=n-7:=⟨_,rfl⟩;have hkI:(n:Int)-7=(k:Int):=B0;obtain⟨r,hr⟩:∃r:Int,r=(k:Int)%6:=⟨_,rfl⟩;have hr2:=hr.symm;have hrI:r≠0:=B0;have hrb:(r !=0)=true:=(by simp[hrI]);have hrd:decide (r=0)=false:=X0 hrI;have hnI:¬(k:Int)<12:=B0;clear hk hkk hr;exact PS
 have HR3:Hid (res=_):=A0 (HR2.out.trans (C0 hk))
 obtain⟨k,hkk⟩:∃k,k=n-7:=⟨_,rfl⟩
 obtain⟨K,hK⟩:∃K,K=k/6:=⟨_,rfl⟩
 rw[<-hkk,<-hK]at HR3
 have hkI:(n:Int)-7=(k:Int):=by omega
 have hk12:¬(k:Int)<12:=by omega
 have hp6:(k:Int)%6=0:=by omega
 have hkK:k=6*K:=by omega
 have hk0I:(0:Int)<=(k:Int):=by omega
 have hkn:k<=n:=by omega
 have hknI:(k:Int)<=(n:Int):=by omega
 have hk7:n-k=7:=by omega
 have HKK:=A0 hkK
 clear HR2 hk hkk hK hkK
 go_enter func145,ntmps145
 go_wp2_with fail
 refine HWD.out.mono ?_
 rintro e w1 ⟨u,rfl,⟨hs,a,c,rfl,hc⟩,hx1⟩
 have hnw:=HNW.out
 rw[J0,<-hnw]at hs hc⊢
 obtain⟨x0,hx0⟩:∃x,ws[0]? =some x:=⟨_,M0 B0⟩
 obtain⟨b,o,ha,hb,-⟩:=hs.int_at (Ext.refl w1) hx0
 subst ha
 have HS:=A0 hs
 have hknc:k<=c:=by omega
 have hdl:(ws.drop k).length=7:=by rw[X2];omega
 have HV7:Hid (∀w',Ext w1 w'->Calls prog 222 #[.slice (some ⟨b,o+k,none⟩) 7 (c-k)] w' fun e w''=>e=.returned (.int .i64 (if ws.drop k=Cc.stopP then 106 else-1))∧Ext w' w''):=A0 (fun w' hx=>by have h1:=HS.out.part k n (c-k) A3 hkn;rw[<-I3,<-R3,X1 B0,hk7]at h1;have:=lC _ _ w' (h1.ext hx) B0;rw[Cc.valG_seven hdl]at this;exact this)
 clear hnw hx0 hs hdl
 go_wp2_with fail
 refine(HMG.out w1 hx1).mono ?_
 rintro e w2 ⟨rfl,rfl⟩
 go_wp2_with fail
 refine(HV7.out w1 (Ext.refl _)).mono ?_
 rintro e w3 ⟨rfl,hx3⟩
 have HX13:=A0 hx3
 by_cases hst:ws.drop k≠Cc.stopP
 ·have HF:Hid (res=([],20)):=A0 (HR3.out.trans (D0 hst));rw[C0 hst];have hx9:=hx1.trans hx3;clear HR3 hst;go_wp2;exact AW
 have HR4:Hid (res=_):=A0 (HR3.out.trans (C0 hst))
 rw[D0 (L5.1 hst)]
 have HXW:=A0 (hx1.trans hx3)
 clear HR3 hst HV7 HMG HWD hx3
 go_wp2_with fail
 go_loopw [8,9] (fun u t wq=>∃(j:Nat) (out:List Int),j<=K∧t=.int .i64 ((6*j:Nat):Int)∧out.length<=j∧Hid (Cc.valsGo K ws=(Cc.valsGo (K-j) (ws.drop (6*j))).map (out++·))∧Hid (Own 3 wq w3.heap.size u (out.map encI))∧Hid (Ext w3 wq)) (fun _ t _=>k-(intOf t).toNat)
 case atStart=>exact⟨0,[],O0 _,rfl,K0 _,A0 eD,A0 (Own.nil _ _ _),A0 (Ext.refl _)⟩
 case round=>
 obtain⟨j,out,hj,rfl,hol,HV,HO,HX⟩:=hrel
 obtain⟨p,hp⟩:∃p,p=6*j:=⟨_,rfl⟩
 rw[<-hp]at HV⊢
 have hkK:=HKK.out
 by_cases hlt:j<K
 ·obtain⟨q,hq⟩:∃q,q=p+6:=⟨_,rfl⟩
  have hqI:(p:Int)+6=(q:Int):=by omega
  have hqp:q-p=6:=by omega
  have hpk:(p:Int)<(k:Int):=by omega
  have hpq:p<=q:=by omega
  have hpqI:(p:Int)<=(q:Int):=by omega
  have hqc:q<=c:=by omega
  have hqcI:(q:Int)<=(c:Int):=by omega
  have hqk:q<=k:=by omega
  have hqn:q<=n:=by omega
  have h6:((ws.drop p).take 6).length=6:=by rw[M1,X2,<-HNW.out];omega
  have hdt:(ws.take q).drop p=(ws.drop p).take 6:=by rw[RE,hqp]
  have HV6:Hid (Calls prog 222 #[.slice (some ⟨b,o+p,none⟩) 6 (c-p)] wr fun e w''=>e=.returned (.int .i64 (match Cc.valOf ((ws.drop p).take 6)with|none=> -1|some v=>(v:Int)))∧Ext wr w''):=A0 (by have h1:=HS.out.part p q (c-p) (by rw[J0,<-HNW.out];exact hqn) hpq;rw[<-I3,<-R3,hdt,hqp]at h1;have:=lC _ _ wr (h1.ext (HX13.out.trans HX.out)) B0;rw[Cc.valG_six h6]at this;exact this)
  have hvs:Cc.valsGo (K-j) (ws.drop p)=match Cc.valOf ((ws.drop p).take 6)with|none=>none|some v=>(Cc.valsGo (K-(j+1)) (ws.drop q)).map fun l=>(v:Int)::l:=eF
  rw[hvs]at HV
  clear h6 hvs hdt
  cases hvo:Cc.valOf ((ws.drop p).take 6)with
  |none=>rw[hvo]at HV HV6;have HF:Hid (res=([],18)):=A0 (by rw[HR4.out,HV.out];rfl);clear HV HR4 hp hq hkK hj hol hlt hqk HO;go_wp2_with fail;refine HV6.out.mono ?_;rintro e w4 ⟨rfl,hx4⟩;have hx9:=HXW.out.trans (HX.out.trans hx4);exact MK
  |some v=>rw[hvo]at HV HV6;dsimp only at HV6;have HV2:Hid (Cc.valsGo K ws=(Cc.valsGo (K-(j+1)) (ws.drop q)).map ((out++[(v:Int)])++·)):=A0 eG;have hv0:¬(v:Int)<0:=B0;have hol2:(out++[(v:Int)]).length<=j+1:=YQ;have hol9:out.length<=400000:=B0;have hq6:6*(j+1)=q:=B0;have hmes:k-q<k-p:=B0;clear HV hp hq hkK hvo;go_wp2_with fail;refine HV6.out.mono ?_;rintro e w4 ⟨rfl,hx4⟩;have hown:=HO.out.ext hx4;have HX4:=A0 (HX.out.trans hx4);have hsz:=HX4.out.size;clear HX HO hx4;go_wp2_with (at_builtin;refine Zq rfl _ _ rfl w3.heap.size _ out rfl (hown.alloc _) _ (v:Int) rfl ?c1 ?c2 ?c3 ?_);(case c1=>exact L3);(case c2=>omega);(case c3=>exact Y2);intro v' w5 hown5 hg5;have HX5:=A0 ((HX4.out.alloc _).ofGrown hg5 hown.low);have HO5:Hid (Own 3 w5 w3.heap.size v' ((out++[(v:Int)]).map encI)):=A0 F6;clear hown hown5 hg5 hsz HX4;go_wp2_with fail;go_roundw;(case rel=>exact⟨j+1,_,by omega,by rw[hq6],hol2,by rw[hq6];exact HV2,HO5,HX5⟩);case measure=>exact C1
 ·obtain rfl:K=j:=B0;have HF:Hid (res=Cc.chars (out++[106])):=A0 eH;have hpk:¬(p:Int)<(k:Int):=B0;have hown:=HO.out;have hsz:=HX.out.size;have hol2:(out++[(106:Int)]).length<=400000:=YQ;have hol9:out.length<=400000:=B0;clear HV HR4 hp hkK HO hj hlt;go_wp2_with (at_builtin;refine Zq rfl _ _ rfl w3.heap.size _ out rfl (hown.alloc _) _ 106 rfl ?c1 ?c2 ?c3 ?_);(case c1=>exact L3);(case c2=>omega);(case c3=>exact Y2);intro v' w5 hown5 hg5;have HX5:=A0 (HXW.out.trans ((HX.out.alloc _).ofGrown hg5 hown.low));have hk5:SlK w5 v' ((out++[(106:Int)]).map encI):=(by have h:Own 3 w5 w3.heap.size v' ((out++[(106:Int)]).map encI):=L9;exact h.slk);have HCH:=A0 (ZjV v' (out++[106]) w5 hk5.1 hol2);clear hown hown5 hg5 hsz hk5;exact eI
theorem ZmL {P:Int->Prop} {l:List Int} (h:∀x∈l,P x):∀x∈l.reverse,P x:=fun x hx=>h x (SR.1 hx)
theorem KX (v:Value) (m:List Bool) (w:World) (hv:SlK w v (m.map encT)) (hm:m.length<=1000000) (ht:ZY w):
 Calls prog 15 #[v] w fun e w'=>e=.returned (gotV (Ln.read m))∧Ext w w':=by
 have HT:=A0 ht
 have HCT:=A0 (fun w' (h:Ext w w')=>fV v m w' (hv.ext h).1 hm)
 have HWD:=A0 (fun w' (h:Ext w w')=>EP v m w' (hv.ext h) hm)
 have HMG:=A0 (fun w' (h:Ext w w')=>MT v m w' (hv.ext h) hm)
 obtain⟨hwin,hwlen⟩:=Rn.widths_in m
 obtain⟨hlA,hlB⟩:=Rn.ldg_len m
 have hdk:=Ln.dark_core m
 have hwn:=Rn.widths_nil m
 have HD:=A0 (Ln.read.eq_1 m)
 have HRV:=A0 (Ln.readD_rev m)
 have HRD:=A0 (show Ln.readD m=Ln.try_ (Rn.widths m) (Ea.ldg m) (Ea.trl m)from rfl)
 generalize Ln.read m=res at*
 obtain⟨-,a,c,rfl,-⟩:=hv
 rw[J0]at HCT HWD HMG⊢
 generalize Ea.ldg m=A at*
 generalize Ea.trl m=B at*
 generalize Rn.widths m=ws at*
 generalize m.length=ml at*
 by_cases h4:65536<ml
 ·have h4I:65536<(ml:Int):=B0;rw[D0 h4]at HD;clear h4 HCT HWD HMG hdk hwn hwin hwlen hlA hlB;go_enter func15,ntmps15;exact lE
 have h4I:¬65536<(ml:Int):=by omega
 rw[C0 h4]at HD
 cases hdb:Ln.dark m with
 |false=>rw[hdb]at HCT HD;rw[D0 rfl]at HD;clear h4 HWD HMG hdk hwn hwin hwlen hlA hlB hdb;go_enter func15,ntmps15;go_wp2_with fail;refine(HCT.out _ Xf).mono ?_;rintro e w1 ⟨rfl,rfl⟩;exact lE
 |true=>
 have hne:ws≠ []:=fun e=>by have:=hdk.2 (hwn.1 e);rw[hdb]at this;cases this
 rw[hdb]at HCT HD
 rw[C0 I0]at HD
 have hw1:∀x∈ws,1<=x∧x<=65536:=fun x hx=>by have:=hwin x hx;omega
 have hpos:1<=ws.length:=T6.2 hne
 obtain⟨n,hn⟩:∃n,n=ws.length:=⟨_,rfl⟩
 have HN:=A0 hn
 have HTY:=A0 (fun v w' (h:Sl w' v (ws.map encI)) (h2:ZY w')=>iJ v ws A B w' h hne B0 hw1 B0 B0 h2)
 have HTZ:=A0 (fun v w' (h:Sl w' v (ws.reverse.map encI)) (h2:ZY w')=>iJ v ws.reverse B A w' h (by simpa using hne) (by rw[D4];omega) (ZmL hw1) B0 B0 h2)
 have hnl:n<=65536:=by omega
 have hn1:1<=n:=by omega
 clear h4 hdk hwn hwin hlA hlB hdb hw1 hne hpos hwlen hn
 go_enter func15,ntmps15
 go_wp2_with fail
 refine(HCT.out _ Xf).mono ?_
 rintro e w1 ⟨rfl,rfl⟩
 go_wp2_with fail
 refine(HWD.out _ Xf).mono ?_
 rintro e w2 ⟨u,rfl,hu,hx2⟩
 obtain⟨hsl,au,cu,rfl,-⟩:=hu
 rw[J0,<-HN.out]at hsl⊢
 obtain⟨x0,hx0⟩:∃x,ws[0]? =some x:=⟨_,M0 G5⟩
 obtain⟨b,o,ha,-,-⟩:=hsl.int_at (Ext.refl w2) hx0
 subst ha
 have HU:=A0 hsl
 have HX2:=A0 hx2.before
 have HB2:=A0 (Zv rfl hx2)
 clear hsl hx0 hx2
 go_wp2_with fail
 refine(HMG.out w2 HX2.out).mono ?_
 rintro e w3 ⟨rfl,rfl⟩
 go_wp2_with fail
 refine(HTY.out _ w2 HU.out (Z2 HT.out HX2.out)).mono ?_
 rintro e w4 ⟨⟨rk,rt,ra⟩,rfl,ho,hx4⟩
 obtain⟨o1,ho1⟩:∃o1,o1=Ln.try_ ws A B:=⟨_,rfl⟩
 rw[<-ho1]at ho HRD⊢
 rw[HRD.out]at HD
 have HX4:=A0 (HX2.out.trans hx4)
 have HB4:=A0 (Ze HB2.out hx4)
 have HU4:=A0 (HU.out.ext hx4)
 unfold linV
 dsimp only
 obtain⟨f0,f1,f2,f3,f4,f5,f6,f7⟩:=Zj HB4.out
 clear ho1 hx4
 cases o1 with
 |some y=>have HF:Hid (res=((rk,rt,ra),0)):=A0 lF;clear HD ho;dsimp only[Option.isSome];go_wp2_with fail;refine E1 (Zi results15 rfl (Ze (Zk f7) ((Ext.refl _).alloc _)) rfl) rfl ?_;rw[HF.out];exact⟨rfl,(Zo HX4.out (K0 _) _ _ _).alloc _⟩
 |none=>
  dsimp only at HD
  rw[HRV.out]at HD
  clear ho
  dsimp only[Option.isSome]
  go_wp2_with fail
  refine(ZkE b o n cu ws _ HN.out.symm hn1 B0 (HU4.out.ext ((Ext.refl _).alloc _))).mono ?_
  rintro e w5 ⟨g,c5,rfl,ho5,hx5⟩
  have HO5:=A0 ho5
  have hX5:=((Ext.refl w4).alloc (.cells #[.int .i64 rk,.string (Ea.bS rt),.string (Ea.bS ra)] 33)).trans hx5
  have HG5:Hid (w4.heap.size<=g):=A0 (by have:=ho5.low g rfl;simp at this;omega)
  have HX5:=A0 hX5
  clear ho5 hx5 hX5
  go_wp2_with fail
  refine(ZiO g n c5 _ ws w5 HN.out.symm B0 HO5.out).mono ?_
  rintro e w6 ⟨rfl,ho6,hg6⟩
  have HO6:=A0 ho6
  have HX6:Hid (Ext w4 w6):=A0 (HX5.out.ofGrown hg6 (fun k hk=>by injection hk with hk;subst hk;exact HG5.out))
  clear ho6 hg6
  go_wp2_with fail
  refine(HTZ.out _ w6 HO6.out.slk.1 (Z2 HT.out (HX4.out.trans HX6.out))).mono ?_
  rintro e w7 ⟨⟨sk,st,sa⟩,rfl,ho,hx7⟩
  obtain⟨o2,ho2⟩:∃o2,o2=Ln.try_ ws.reverse B A:=⟨_,rfl⟩
  rw[<-ho2]at ho HD⊢
  have HX7:=A0 ((HX4.out.trans HX6.out).trans hx7)
  obtain⟨g0,g1,g2,g3,g4,g5,g6,g7⟩:=Zj (Ze (Ze HB4.out HX6.out) hx7)
  unfold linV
  dsimp only
  clear ho2 hx7 f0 f1 f2 f3 f4 f5 f6 f7
  cases o2 with
  |some y=>have HF:Hid (res=((sk,st,sa),0)):=A0 lF;exact lG
  |none=>have HF:Hid (res=(Ln.zero,18)):=A0 HD.out;exact lG
end
section
namespace Ln
def Small (l:Lin):Prop:=0<=l.1∧l.1<=9∧l.2.1.length<=1000000∧l.2.2.length<=1000000
theorem full_len {k:Int} {l:List UInt8} (h:Ea.full k l=0):1<=k∧k<=4∧l.length<=13:=by
 unfold Ea.full at h;split at h;·cases h
 by_cases h0:Ea.size k=0;·unfold Ea.comp at h;exact SW
 have hk:=Ea.kinds h0;have hs:Ea.size k<=13:=by unfold Ea.size;exact M8
 refine⟨by omega,by omega,?_⟩;unfold Ea.comp at h;rw[C0 h0]at h;split at h;·cases h
 split at h;·cases h
 omega
theorem sym_len {n:Nat} {s:List Bool} (h:(Ea.rdSym n s).2=0):1<=(Ea.rdSym n s).1.1∧(Ea.rdSym n s).1.1<=4∧(Ea.rdSym n s).1.2.length<=13:=by
 unfold Ea.rdSym at h⊢
 split
 ·rename_i h1;exact VV
 rename_i h1
 rw[C0 h1]at h
 split
 ·exact EI
 rename_i h2
 rw[C0 h2]at h
 cases hr:Ea.rdK n s with
 |none=>rw[hr]at h;cases h
 |some l=>rw[hr]at h;dsimp only at h⊢;split;(·rename_i h3;rw[D0 h3]at h;cases h);rename_i h3;have:=full_len (L5.1 h3);split;(·simp only[X2];omega);·exact F3
theorem ean_small {row:List Bool} (h:(Ea.dec row).2=0):Small (Ea.dec row).1:=by
 have h1:=Ea.dec_ok h;rw[h1]at h⊢;obtain⟨⟨n,a⟩,p1,p2,p3,p4⟩:=Ea.decF_inv Ea.shapes 7 I0 (fun _ _ _ _=>trivial) h;rw[p4];dsimp only at p2 p3 p4⊢;have hna:(a=0∨a=2∨a=5):=by unfold Ea.shapes at p1;simp at p1;omega
 unfold Ea.rdShape at p3⊢;by_cases e1:(Ea.rdSym n ((Ea.trim row).take n)).2≠0;·rw[D0 e1]at p3;exact absurd p3 e1
 rw[C0 e1]at p3⊢;have hs:=sym_len (L5.1 e1);by_cases e2:a=0;·rw[D0 e2];exact⟨by dsimp only;omega,by dsimp only;omega,by dsimp only;omega,by simp⟩
 rw[C0 e2]at p3⊢;by_cases e3:(Ea.rdAdd a ((Ea.trim row).drop ((Ea.trim row).length-Ea.wAdd a))).2≠0;·rw[D0 e3]at p3;exact absurd p3 e3
 rw[C0 e3];have h5:=Ea.rdAdd_ok (n:=a) (s:=(Ea.trim row).drop ((Ea.trim row).length-Ea.wAdd a)) B0 (L5.1 e3);exact⟨by dsimp only;omega,by dsimp only;omega,by dsimp only;omega,by dsimp only;omega⟩
theorem read_len (cs ps edge inner:List UInt8) (z:Nat) (e:List UInt8):(Tw.read cs ps edge inner z e).1.length<=e.length+1:=by
 unfold Tw.read;split;·simp
 ·rw[J0,O6];exact Nat.div_le_self _ _
theorem readItf_len (e:List UInt8):(Tw.readItf e).1.length<=2*e.length:=by
 unfold Tw.readItf;split;·simp
 split;·simp
 split;·simp
 have:∀(l:List Nat),(l.flatMap fun i=>[(Tw.digA e i).1,(Tw.digB e i).1]).length=2*l.length:=by
  intro l
  induction l with
  |nil=>rfl
  |cons x l ih=>simp only[F8,T0,D1,O4,ih];omega
 rw[this,O6];have:=Nat.div_le_self (e.length-7) 10;omega
theorem P9 (ws:List Int):(Tw.wide ws).1.length<=ws.length:=by unfold Tw.wide;(repeat' split)<;>simp
theorem CE (k:Nat) (e:List UInt8):(Tw.readK k e).1.length<=2*e.length+1:=by
 unfold Tw.readK;split;·have:=read_len Tw.c39 Tw.p39 [42] Cd.syms 9 e;omega
 ·have:=read_len Tw.cCb Tw.pCb Tw.eCb Tw.dCb 7 e;omega
 ·have:=readItf_len e;omega
theorem CF (k:Nat) (l:List UInt8) (c:Bool):(Tw.textK k l c).length<=l.length+1:=by
 unfold Tw.textK;split;·unfold Tw.text39;exact GY
 ·unfold Tw.textCb;split;(·rw[T0,M1,X2];omega);·omega
 ·unfold Tw.textItf;split;(·exact WA);·omega
theorem decK_len (k:Nat) (ws:List Int) (c:Bool):(Tw.decK k ws c).1.length<=2*ws.length+2:=by
 have h1:=CF k (Tw.readK k (Tw.elems (Tw.wide ws).1)).1 c;have h2:=CE k (Tw.elems (Tw.wide ws).1);have h3:(Tw.elems (Tw.wide ws).1).length=(Tw.wide ws).1.length:=by unfold Tw.elems;simp
 have h4:=P9 ws;unfold Tw.decK;split;·simp
 split;·simp
 split;·simp
 split;·simp
 dsimp only;omega
theorem two_small {k:Int} {row:List Bool} {l:Lin} (hk:0<=k∧k<=9) (hr:row.length<=65536) (h:rTwo k row=some l):Small l:=by
 unfold rTwo at h;split at h;·injection h with h;subst h;refine⟨hk.1,hk.2,?_,by simp⟩;have h1:=(Rn.widths_in row).2;(have h2:∀j,(Tw.decK j (Rn.widths row) false).1.length<=1000000:=fun j=>by have:=decK_len j (Rn.widths row) false;omega);dsimp only;unfold Tw.dec;(repeat' split);(·exact h2 _);(·exact h2 _);(·exact h2 _);·simp
 ·cases h
theorem format_len {xs:List Gs.El} {s:List UInt8} (h:Gs.format xs=(s,0)):s.length<=4096:=by
 unfold Gs.format at h;split at h;·exact AC
 ·split at h;(·simp at h);·simp only[N3,X8]at h;subst h;omega
theorem r128_small {row:List Bool} {l:Lin} (hr:row.length<=65536) (h:r128 row=some l):Small l:=by
 unfold r128 at h;obtain⟨⟨cs,er⟩,hd⟩:∃r,r=Cc.dec row:=⟨_,rfl⟩;rw[<-hd]at h;unfold of128 at h;dsimp only at h;split at h;·cases h
 rename_i he;obtain rfl:er=0:=L5.1 he;have h1:=(Rn.widths_in row).2;have h2:=(Cc.dec_ge hd.symm).2;split at h;·split at h;(·cases h);split at h;(·cases h);rename_i h3 h4;injection h with h;subst h;obtain⟨⟨s,e3⟩,hf⟩:∃r,r=Gs.format (Gs.frChars cs).1:=⟨_,rfl⟩;rw[<-hf]at h4⊢;obtain rfl:e3=0:=L5.1 h4;have:=format_len hf.symm;refine⟨by dsimp only;omega,by dsimp only;omega,by dsimp only;omega,by simp⟩
 ·split at h;(·cases h);injection h with h;subst h;refine⟨by dsimp only;omega,by dsimp only;omega,by dsimp only;rw[J0];omega,by simp⟩
theorem reader_small {i:Nat} {row:List Bool} {l:Lin} (hr:row.length<=65536) (h:reader i row=some l):Small l:=by
 unfold reader at h;(repeat' split at h);·unfold rEan at h;split at h;(·rename_i h1;injection h with h;subst h;exact ean_small h1);·cases h
 ·exact r128_small hr h
 ·exact two_small B0 hr h
 ·exact two_small B0 hr h
 ·exact two_small B0 hr h
theorem zero_small:Small zero:=⟨by decide,by decide,by decide,by decide⟩
theorem found_small {row:List Bool} (hr:row.length<=65536):∀n,Small (found row n).2
 |0=>zero_small
 |n+1=>by
  unfold found
  cases h:reader n row with
  |none=>exact found_small hr n
  |some x=>exact reader_small hr h
theorem decode_small (row:List Bool):Small (decode row).1:=by
 unfold decode;split;·exact zero_small
 rename_i h1;split;·exact zero_small
 unfold outcome;split;·exact zero_small
 split;·exact zero_small
 exact found_small B0 5
theorem try_small {left right s:Int}:∀ {cs:List (List Int)} {l:Lin},tryGo left right s cs=some l->Small l
 | [],l,h=>by cases h
 |c::cs,l,h=>by unfold tryGo at h;split at h;(·injection h with h;subst h;exact decode_small _);·exact try_small h
theorem read_small (row:List Bool):Small (read row).1:=by
 unfold read
 split
 ·exact zero_small
 split
 ·exact zero_small
 cases h:readD row with
 |some x=>exact try_small h
 |none=>
  cases h2:readD row.reverse with
  |some x=>exact try_small h2
  |none=>exact zero_small
theorem good_small {rows:List (List Bool)}:∀l∈good rows,Small l:=by
 intro l hl;unfold good at hl;obtain⟨r,-,h⟩:=List.mem_filterMap.1 hl;split at h;·injection h with h;subst h;exact read_small r
 ·cases h
def ordGo (o:List Lin):List Lin->List Lin
 | []=>o
 |x::l=>ordGo (if x∈o then o else o++[x]) l
def ord (l:List Lin):List Lin:=ordGo [] l
theorem ord_snoc (l:List Lin) (x:Lin):ord (l++[x])=if x∈ord l then ord l else ord l++[x]:=by
 have h:∀(l o:List Lin),ordGo o (l++[x])=if x∈ordGo o l then ordGo o l else ordGo o l++[x]:=by
  intro l
  induction l with
  |nil=>intro o;rfl
  |cons y l ih=>intro o;exact ih _
 exact h l []
theorem ord_mem (l:List Lin) (x:Lin):x∈ord l↔x∈l:=by
 suffices h:∀(l o:List Lin),x∈ordGo o l↔x∈o∨x∈l by simpa[ord]using h l []
 intro l
 induction l with
 |nil=>intro o;simp[ordGo]
 |cons y l ih=>intro o;rw[ordGo,ih,V3];split;(·rename_i h;constructor;(·rintro(h1|h1);(·exact .inl h1);·exact .inr (.inr h1));·rintro(h1|h1|h1);(·exact .inl h1);(·subst h1;exact .inl h);·exact .inr h1);·rw[B5,U3];constructor;(·rintro((h1|h1)|h1);(·exact .inl h1);(·exact .inr (.inl h1));·exact .inr (.inr h1));·rintro(h1|h1|h1);(·exact .inl (.inl h1));(·exact .inl (.inr h1));·exact .inr h1
theorem ord_len (l:List Lin):(ord l).length<=l.length:=by
 suffices h:∀(l o:List Lin),(ordGo o l).length<=o.length+l.length by simpa[ord]using h l []
 intro l
 induction l with
 |nil=>intro o;simp[ordGo]
 |cons y l ih=>intro o;rw[ordGo,D1];split;(·have:=ih o;omega);·have:=ih (o++[y]);rw[T0,YS]at this;omega
theorem best_ord (all:List Lin):∀(l o:List Lin) (p q:Lin×Nat),bestGo all p o=q->(∀x∈o,all.count x<=q.2)->bestGo all p (ordGo o l)=bestGo all q l
 | [],o,p,q,h,_=>h
 |y::l,o,p,q,h,hq=>by
  have hap:∀(o:List Lin) (p:Lin×Nat),bestGo all p (o++[y])=(if(bestGo all p o).2<all.count y then(y,all.count y)else bestGo all p o):=by
   intro o
   induction o with
   |nil=>intro p;rfl
   |cons z o ih=>intro p;exact ih _
  rw[ordGo,bestGo];split;(·rename_i hy;rw[C0 (by have:=hq y hy;omega)];exact best_ord all l o p q h hq);·refine best_ord all l (o++[y]) p _ (by rw[hap,h]) ?_;intro x hx;rw[B5,U3]at hx;rcases hx with hx|rfl;(·have:=hq x hx;exact DY);·exact DY
theorem best_first (all l:List Lin):bestGo all (zero,0) (ord l)=bestGo all (zero,0) l:=best_ord all l [] _ _ rfl L0
end Ln
end
section
open Go.RowKit Go.Maps Go Go.WideMaps Go.ChangeMaps Go.ChangeMaps
theorem lH:KeyLaw prog 33:=deep_law_laid Cc.laid (m:=3) B0 (G6 G0) G0 (by rw[underlying33])
theorem KY:Keyed prog 33:=Keyed.of_law lH
theorem ZjI {k:Int} {s a:ByteArray} (hk:(Lit.int .i64 k).wf=true) (hs:s.size<=maxLen) (ha:a.size<=maxLen):∃l,keyOf prog 33 (.agg #[.int .i64 k,.string s,.string a])=some l:=by
 unfold keyOf;simp only[underlying33];have h1:prog.keyType 33=true:=B1
 have h2:(Value.agg #[.int .i64 k,.string s,.string a]).formed prog 33=true:=B1
 obtain⟨d,hd⟩:∃d,prog.types.size+1=d+1+1:=⟨prog.types.size-1,by kernel_rfl⟩;rw[h1,h2,hd];simp only[Bool.and_self,W4];have hc:prog.cellsOf 33=3:=B1
 have hi:prog.cellsOf 22=1:=B1
 have hst:prog.cellsOf 9=1:=B1
 have u1:prog.underlying 22=some (.int .i64):=B1
 have u2:prog.underlying 9=some .string:=B1
 have k1:prog.keyLits (d+1) 22 [.int .i64 k]=some [.int .i64 k]:=by unfold Program.keyLits;rw[u1];simp[hk]
 have k2:∀s:ByteArray,s.size<=maxLen->prog.keyLits (d+1) 9 [.string s]=some [.string s.data.toList]:=fun s hs=>by unfold Program.keyLits;rw[u2];simp[hs]
 have k3:=k2 s hs;have k4:=k2 a ha;have key:∃ls,prog.keyLits (d+1+1) 33 (Value.agg #[.int .i64 k,.string s,.string a]).cells.toList=some ls:=by generalize hd2:d+1=d2 at*;unfold Program.keyLits;simp only[underlying33,Value.cells];rw[D0 ⟨by rw[hc];rfl,by decide+kernel⟩];simp only[WM,List.mapM_nil];simp[hi,hst,k1,k3,k4]
 obtain⟨ls,hls⟩:=key;rw[hls];exact⟨_,rfl⟩
theorem ZfP {w:World} {b:Nat} {o:Obj} (hb:w.heap[b]? =some o):setBlock w b o=w:=by
 have h:w.heap.setIfInBounds b o=w.heap:=by apply GO;intro i;by_cases hi:b=i;(·subst hi;rw[Array.getElem?_setIfInBounds_self_of_lt (O3.1 hb).1,hb]);·rw[KZ hi]
 unfold setBlock;rw[h]
theorem Zfb (w:World) (b:Nat) (o o':Obj):setBlock (setBlock w b o) b o'=setBlock w b o':=by unfold setBlock;simp
theorem Zhm (w:World) (b:Nat) (o:Obj):w.grownBy (setBlock w b o) (some b):=by refine⟨rfl,rfl,rfl,by simp[setBlock],fun k hk hne=> ?_⟩;have:b≠k:=fun e=>hne (by rw[e]);simp[setBlock,KZ this]
section
variable {P:Program} {w:World} {k e:TypeId} {T:TypeId} {α:Type} {key:α->Value}
theorem MapV.entry [DecidableEq α] {b n:Nat} {f:α->Option Int} (h:MapV P k key w b n f) (KL:KeyLaw P k) (ht:P.underlying T=some (.map k e)) (hz:∀u:World,(zeroValue e).run P u=.ok (.int .i64 0) u) {v:α} {l:Lit} (hv:keyOf P k (key v)=some l) (hn:n<maxLen) (hinj:∀a b:α,key a=key b->a=b):
 ∃(st:Nat) (w1:World),(Instr.mapEntry T (.map (some b)) (key v)).run P w=.ok (.tuple #[.int .i64 ((f v).getD 0),goInt st]) w1∧w.grownBy w1 (some b)∧
  (Instr.lookup T (.map (some b)) (key v) false).run P w1=.ok (.int .i64 ((f v).getD 0)) w1∧
  ∀m:Int,∃w3,(Instr.entryStore T (.map (some b)) (goInt st) (.int .i64 m)).run P w1=.ok () w3∧MapV P k key w3 b (n+1) (fun x=>if x=v then some m else f x)∧w.grownBy w3 (some b):=by
 have K:Keyed P k:=Keyed.of_law KL
 have hget:=h.get1 (T:=T) (e:=e) K ht (hz w) hv
 have hput:=fun m=>h.put (T:=T) (e:=e) K ht hv m hn hinj
 obtain⟨D,ho,hat⟩:=h
 obtain⟨es,clock,hb,F,hsz,hD⟩:=ho
 obtain⟨v0,st,es1,clock1,hrun,_,hst⟩:=WideElems.entry_then_store KL ht hz hb F hv
 obtain⟨c,hc⟩:∃c,c=(f v).getD 0:=⟨_,rfl⟩
 rw[<-hc]at hget⊢
 have hbl:b<w.heap.size:=(O3.1 hb).1
 have key1:v0=.int .i64 c∧(Instr.lookup T (.map (some b)) (key v) false).run P (setBlock w b (.map es1 clock1))=.ok (.int .i64 c) (setBlock w b (.map es1 clock1)):=by rcases K.find w hv es.toList F.keys with⟨h1,h2⟩|⟨j,e0,h1,h2,h3⟩;(·have hr:(Instr.mapEntry T (.map (some b)) (key v)).run P w=.ok (.tuple #[.int .i64 0,goInt clock]) (setBlock w b (.map (es.push ⟨key v,.int .i64 0,clock⟩) (clock+1))):=(by simp[Instr.mapEntry,XR ht,PT hb,K.check w false hv,h1,hz,AX _ hb,Result.andThen,setBlock]);have hu:(Instr.mapUpdate T (.map (some b)) (key v) (.int .i64 0)).run P w=.ok () (setBlock w b (.map (es.push ⟨key v,.int .i64 0,clock⟩) (clock+1))):=(by simp[Instr.mapUpdate,XR ht,PT hb,K.check w false hv,h1,AX _ hb,Result.andThen,setBlock]);have hl:(Instr.lookup T (.map (some b)) (key v) false).run P w=.ok (.int .i64 0) w:=(by simp[Instr.lookup,XR ht,PT hb,K.check w es.isEmpty hv,h1,hz,Result.andThen]);rw[hl]at hget;injection hget with hget;injection hget with _ hc0;rw[hr]at hrun;injection hrun with hr1 hr2;injection hr1 with hr1;obtain⟨w',hp1,hp2,_⟩:=hput 0;rw[hu]at hp1;injection hp1 with _ hp1;rw[<-hr2];subst hp1;have hg:=hp2.get1 (T:=T) (e:=e) K ht (hz _) hv;(try dsimp only at hg);rw[D0 rfl]at hg;refine⟨?_,by rw[hg,<-hc0];rfl⟩;have:=R0 (fun l:Array Value=>l[0]?) hr1;simp at this;rw[<-this,hc0]);·have hj:es[j]? =some e0:=B8;have hs:es.modify j (fun e=> {e with key:=key v})=es:=(by apply GO;intro i;rw[VY];split;(·rename_i hij;subst hij;rw[hj,YF,<-h3]);·rfl);have hr:(Instr.mapEntry T (.map (some b)) (key v)).run P w=.ok (.tuple #[e0.val,goInt e0.born]) (setBlock w b (.map es clock)):=(by simp[Instr.mapEntry,XR ht,PT hb,K.check w false hv,h1,hj,h3,K.stays w hv,hs,AX _ hb,Result.andThen,setBlock]);have hl:(Instr.lookup T (.map (some b)) (key v) false).run P w=.ok e0.val w:=(by simp[Instr.lookup,XR ht,PT hb,K.check w es.isEmpty hv,h1,Result.andThen]);rw[hl]at hget;injection hget with hget;rw[hr]at hrun;injection hrun with hr1 hr2;injection hr1 with hr1;have hw:setBlock w b (.map es clock)=w:=ZfP hb;rw[<-hr2,hw];refine⟨?_,by rw[hl,hget]⟩;have:=R0 (fun l:Array Value=>l[0]?) hr1;simp at this;rw[<-this,hget]
 obtain⟨hv0,hlk⟩:=key1
 subst hv0
 refine⟨st,_,hrun,?_,hlk,fun m=> ?_⟩
 ·exact Zhm w b _
 ·obtain⟨es',clock',h1,h2⟩:=hst (setBlock w b (.map es1 clock1)) (.int .i64 m) (heap_setBlock_same hb _);obtain⟨w',hp1,hp2,hp3⟩:=hput m;rw[h2]at hp1;injection hp1 with _ hp1;have hss:setBlock (setBlock w b (.map es1 clock1)) b (.map es' clock')=setBlock w b (.map es' clock'):=Zfb w b _ _;rw[hss]at h1;subst hp1;exact⟨_,h1,hp2,hp3⟩
end
end
section
open Go.RowKit Go.Maps
abbrev Li:=Ln.Lin
def lnV (x:Li):Value:=.agg #[.int .i64 x.1,.string (Ea.bS x.2.1),.string (Ea.bS x.2.2)]
theorem ZmJ:∀a b:Li,lnV a=lnV b->a=b:=by rintro⟨k,s,a⟩ ⟨j,t,b⟩ h;unfold lnV at h;simp only[Value.agg.injEq,Array.mk.injEq,VE,Value.int.injEq,Value.string.injEq,true_and,X8]at h;obtain⟨rfl,h2,h3⟩:=h;rw[Ea.bS_inj.1 h2,Ea.bS_inj.1 h3]
theorem ZnB {n:Int} (h1: -9223372036854775808<=n) (h2:n<=9223372036854775807):(Lit.int .i64 n).wf=true:=by show(decide (_<=n)&&decide (n<=_))=true;rw[V0 (show IntKind.min .i64<=n from h1),V0 (show n<=IntKind.max .i64 from h2)];rfl
theorem lI {x:Li} (h:Ln.Small x):∃l,keyOf prog 33 (lnV x)=some l:=
 ZjI (ZnB (by have:=h.1;omega) (by have:=h.2.1;omega)) (by rw[Zf (Ea.bS_list _)];have:=h.2.2.1;unfold maxLen;omega) (by rw[Zf (Ea.bS_list _)];have:=h.2.2.2;unfold maxLen;omega)
def liC (xs:List Li):List Value:=xs.flatMap fun x=>[.int .i64 x.1,.string (Ea.bS x.2.1),.string (Ea.bS x.2.2)]
theorem Zlk (xs:List Li) (x:Li):liC (xs++[x])=liC xs++[.int .i64 x.1,.string (Ea.bS x.2.1),.string (Ea.bS x.2.2)]:=by simp[liC]
theorem ZnE (xs:List Li):∀(i:Nat) (x:Li),xs[i]? =some x->(liC xs)[i*3]? =some (.int .i64 x.1)∧(liC xs)[i*3+1]? =some (.string (Ea.bS x.2.1))∧(liC xs)[i*3+2]? =some (.string (Ea.bS x.2.2)):=by
 induction xs with
 |nil=>intro i x h;simp at h
 |cons y ys ih=>
  intro i x h
  cases i with
  |zero=>simp only[B3,I2]at h;subst h;exact⟨rfl,rfl,rfl⟩
  |succ i=>rw[D5]at h;have:=ih i x h;have e1:(i+1)*3=i*3+1+1+1:=B0;rw[e1];simp only[liC,F8,J3,P5,D5]at this⊢;exact F3
def LOwn (w:World) (B:Nat) (v:Value) (xs:List Li):Prop:=w.ownsRow B 33 3 v xs.length (liC xs)
section
variable {w w':World} {B:Nat} {v:Value} {xs:List Li}
theorem LOwn.nil (w:World) (B:Nat):LOwn w B (.slice none 0 0) []:=OF _ _ _ _
theorem LOwn.ext (h:LOwn w B v xs) (hx:Ext w w'):LOwn w' B v xs:=by
 refine XI h hx.asGrown ?_
 cases hv:v.ownBlock with
 |none=>exact .inl rfl
 |some k=>exact .inr L0
theorem LOwn.low (h:LOwn w B v xs):∀k,v.ownBlock=some k->B<=k:=fun k hk=>(U5 h k hk).1
theorem MapV.blk {P:Program} {k:TypeId} {α:Type} {key:α->Value} {w:World} {b n:Nat} {f:α->Option Int} (h:MapV P k key w b n f):∃es c,w.heap[b]? =some (.map es c):=by obtain⟨D,ho,-⟩:=h;obtain⟨es,clock,hb,-⟩:=ho;exact⟨es,clock,hb⟩
theorem LOwn.apart {P:Program} {k:TypeId} {α:Type} {key:α->Value} {b n:Nat} {f:α->Option Int} (h:LOwn w B v xs) (hm:MapV P k key w b n f):v.ownBlock≠some b:=by
 obtain⟨es,c,hb⟩:=hm.blk;rcases h.2 with⟨h1,_⟩|⟨g,cap,cur,h1,_,hg,_⟩;·rw[h1];simp[Value.ownBlock]
 ·rw[h1];intro e;simp only[Value.ownBlock,I2]at e;subst e;rw[hg]at hb;cases hb
theorem LOwn.kept {row:Option Nat} (h:LOwn w B v xs) (hg:w.grownBy w' row) (hne:v.ownBlock=none∨v.ownBlock≠row):LOwn w' B v xs:=XI h hg hne
theorem LOwn.form (h:LOwn w B v xs):(xs=[]∧v=.slice none 0 0)∨∃g c,v=.slice (some ⟨g,0,none⟩) xs.length c∧g<w.heap.size∧∀(i:Nat) (x:Li),xs[i]? =some x->w.cell? ⟨g,i*3,none⟩=some (.int .i64 x.1)∧w.cell? ⟨g,i*3+1,none⟩=some (.string (Ea.bS x.2.1))∧w.cell? ⟨g,i*3+2,none⟩=some (.string (Ea.bS x.2.2)):=by
 have hc:=h;rcases h.2 with⟨h1,h0⟩|⟨g,cap,cur,hv,hbase,hb,h1,h2,h3,h4⟩;·exact .inl ⟨L4 h0,h1⟩
 ·refine .inr ⟨g,cap,hv,(O3.1 hb).1,fun i x hi=> ?_⟩;unfold LOwn at hc;rw[hv]at hc;have hil:=(I1.1 hi).1;rw[hc.cellAt (i*3) B0,hc.cellAt (i*3+1) B0,hc.cellAt (i*3+2) B0];exact ZnE xs i x hi
end
theorem Zlf:(prog.info? 33).map (fun i=>(i.zero,i.size,i.bytes))=some (some (.agg #[.int .i64 0,.string ⟨#[]⟩,.string ⟨#[]⟩]),3,40):=B1
theorem lJ {w:World} {ops:Array Oper} {rest:List Oper} {o:Oper} {a:Act} {Q:Exit->Act->World->Prop} (hgd:o.guard=none) (s x:Operand)
 (ho:o.op=.call {callee:=.builtin .append,args:= #[s,x],argTypes:= #[113,113]})
 (B:Nat) (v:Value) (xs:List Li) (hs:a.eval s=v) (hown:LOwn w B v xs) (b:Nat) (u:Li) (hx:a.eval x=.slice (some ⟨b,0,none⟩) 1 1)
 (hc:w.cell? ⟨b,0,none⟩=some (.int .i64 u.1)) (hc1:w.cell? ⟨b,1,none⟩=some (.string (Ea.bS u.2.1))) (hc2:w.cell? ⟨b,2,none⟩=some (.string (Ea.bS u.2.2))) (hn:xs.length<=999999999) (hB:B<=w.heap.size)
 (h:∀v' w',LOwn w' B v' (xs++[u])->w.grownBy w' v.ownBlock->wpList prog ops Q rest (a.put o.dst v') w'):wpList prog ops Q (o::rest) a w:=by
 obtain⟨i0,hi,hz0,hz1,hz2⟩:=V5 Zlf
 refine VG _ hgd s x 113 ho B 33 i0 _ 3 40 underlying113 hi hz0 hz1 hz2 rfl I0 v xs.length (liC xs) hs hown ⟨b,0,none⟩ 1 1 [.int .i64 u.1,.string (Ea.bS u.2.1),.string (Ea.bS u.2.2)] hx rfl ?_ ?_ ?_ ?_ hB ?_
 ·intro j u' hj
  rw[VF]
  match j with
  |0=>simp only[B3,I2]at hj;subst hj;exact hc
  |1=>simp only[D5,B3,I2]at hj;subst hj;exact hc1
  |2=>simp only[D5,B3,I2]at hj;subst hj;exact hc2
  |j+3=>simp at hj
 ·intro u' hu;simp only[V3,D8,E8]at hu;rcases hu with rfl|rfl|rfl<;>rfl
 ·exact V7
 ·exact B4 (Nat.mul_le_mul_right 40 (show xs.length+1<=1000000000 by omega)) I0
 ·intro v' w' h1 h2 _;refine h v' w' ?_ h2;unfold LOwn;rw[T0,Zlk];exact h1
def J6 (w:World) (v:Value) (rows:List (List Bool)):Prop:=∃xs:List Value,SlK w v xs∧xs.length=rows.length∧∀(i:Nat) (x:Value) (r:List Bool),xs[i]? =some x->rows[i]? =some r->SlK w x (r.map encT)
theorem J6.ext {w w':World} {v:Value} {rows:List (List Bool)} (h:J6 w v rows) (hx:Ext w w'):J6 w' v rows:=by obtain⟨xs,h1,h2,h3⟩:=h;exact⟨xs,h1.ext hx,h2,fun i x r hi hr=>(h3 i x r hi hr).ext hx⟩
theorem J6.form {w:World} {v:Value} {rows:List (List Bool)} (h:J6 w v rows):∃a c,v=.slice a rows.length c:=by obtain⟨xs,⟨-,a,c,h1,-⟩,h2,-⟩:=h;exact⟨a,c,by rw[h1,h2]⟩
theorem J6.at_ {w w':World} {a:Option Addr} {n c:Nat} {rows:List (List Bool)} (h:J6 w (.slice a n c) rows) (hx:Ext w w') {i:Nat} {r:List Bool} (hi:rows[i]? =some r):
 ∃b o x y z,a=some ⟨b,o,none⟩∧b<w.heap.size∧w'.cell? ⟨b,o+i,none⟩=some (.slice x y z)∧SlK w' (.slice x y z) (r.map encT):=by
 obtain⟨xs,⟨h1,-⟩,h2,h3⟩:=h
 have hil:=(I1.1 hi).1
 obtain⟨b,o,ha,hb,hc⟩:=h1.at_ (k:=i) B0
 have h4:=h3 i (xs[i]' B0) r (M0 _) hi
 obtain⟨h5,x,z,h6,h7⟩:=h4
 refine⟨b,o,x,_,z,ha,hb,?_,h6▸(SlK.ext ⟨h5,x,z,h6,h7⟩ hx)⟩
 rw[hx.cell (p:=⟨b,o+i,none⟩) hb,hc,h6]
end
section
open Go.RowKit
theorem JA (w:World) (k j:Int) (a b c d:ByteArray):(binOp .eql 33 (.agg #[.int .i64 k,.string a,.string b]) (.agg #[.int .i64 j,.string c,.string d])).run prog w=.ok (.bool (k==j&&(a.toList==c.toList&&b.toList==d.toList))) w:=by
 have u9:=underlying9;have a9:=Tryz.isAgg9;have z9:=Tryz.sizeOf9;have u8:=underlying22;have a8:=Tryz.isAgg22;have z8:=Tryz.sizeOf22;have hS:prog.underlying 33=some (.struct (prog.fieldsOf 33)):=B1
 have hp:prog.stoodInHeld 33=false:=B1
 rw[run_eql_struct,show(10000:Nat)=9999+1 from rfl,run_equalIn_agg w 9999 33 _ _ hS hp];simp only[Program.fieldsOf,underlying33];go_simp;by_cases h0:k=j<;>by_cases h1:a.toList=c.toList<;>by_cases h2:b.toList=d.toList<;>simp[h0,h1,h2]
end
end Go.Proofs.YtbngggoccndefaaGreatDoor
section
namespace Go.Proofs.YtbngggoccndefaaGreatDoor
open Go.Proofs.Tryz
open Go.RowKit
theorem Zor (m:List Bool) (j:Nat) (hj:j<=m.length) (h0:0<j) (h1:m[j-1]? =some true) (h2:∀t,j<=t->t<m.length->m[t]? =some false):Ea.trl m=m.length-j:=by
 have e:m=m.take (j-1)++[true]++Ea.lgt (m.length-j):=by apply XQ;intro t;rcases JY t (j-1)with h|h|h;(·rw[M3,O7 X3,W6,D0 h]);(·subst h;rw[h1,M3,M9 X3,M1,X6 B0,I4];rfl);·rw[M9 N4];have hl:(m.take (j-1)++[true]).length=j:=S0;rw[hl];by_cases ht:t<m.length;(·rw[h2 t B0 ht];unfold Ea.lgt;rw[ND,D0 B0]);·rw[YJ B0];unfold Ea.lgt;rw[ND,C0 B0]
 have:=Ea.trl_lgt (m.length-j) (m.take (j-1));rw[<-e]at this;exact F3
end Go.Proofs.YtbngggoccndefaaGreatDoor
namespace Go.Proofs.YtbngggoccndefaaGreatDoor
open Go.Proofs.Tryz
open Go.RowKit Go.ChangeShapes Go.WideShapes
theorem bools_slk {w:World} {a:Option Addr} {len cap:Nat}
 (h:(a=none∧len=0∧cap=0)∨∃x,a=some x∧len<=cap∧cap<=maxLen∧∃B:Nat->Bool,∀i,i<cap->w.cell? (x.add i)=some (.bool (B i))):
 ∃m:List Bool,SlK w (.slice a len cap) (m.map encT)∧m.length<=maxLen:=by
 rcases h with⟨rfl,rfl,rfl⟩|⟨x,rfl,hlc,hcm,B,hc⟩
 ·exact⟨[],⟨.inl ⟨rfl,none,0,rfl⟩,none,0,rfl,K0 _⟩,O0 _⟩
 ·have hl:(((List.range len).map B).map encT).length=len:=L0;refine⟨(List.range len).map B,⟨?_,some x,cap,by rw[hl],by rw[hl];exact hlc⟩,by simp;omega⟩;by_cases h0:len=0;(·subst h0;exact .inl ⟨rfl,some x,cap,rfl⟩)
  ·obtain⟨b,off,path⟩:=x;have hp:path=none:=by
    have:=hc 0 B0
    cases path with
    |none=>rfl
    |some q=>exact absurd this lK
   subst hp;refine .inr ⟨b,off,cap,by rw[hl],?_,fun i hi=> ?_⟩;(·have:=hc 0 B0;rw[U7]at this;rcases P4 b w.heap.size with h|h;(·exact h);·simp[World.cell?,YC h]at this);·rw[hl]at hi;have:=hc i B0;rw[U7]at this;rw[this,J2,J2,SJ hi];rfl
end Go.Proofs.YtbngggoccndefaaGreatDoor
end
