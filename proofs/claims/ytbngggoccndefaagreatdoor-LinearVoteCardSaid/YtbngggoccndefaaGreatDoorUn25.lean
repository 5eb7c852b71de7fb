/-
  Laid.
-/
import Derived.Test.YtbngggoccndefaaGreatDoorUn13
import Derived.Test.YtbngggoccndefaaGreatDoorUn24
set_option maxHeartbeats 16000000
set_option maxRecDepth 100000
set_option linter.all false
section
namespace Go.Proofs.YtbngggoccndefaaGreatDoor
open Go.Proofs.Tryz
open Go.RowKit
theorem lV (v:Value) (m:List Bool) (w:World) (hv:SlK w v (m.map encT)) (hm:m.length<=1000000):
 Calls prog 219 #[v] w fun e w'=>e=.returned (.bool (m.any id))∧w=w':=by
 have HV:=A0 hv.1
 obtain⟨_,a,c,rfl,_⟩:=hv
 rw[J0]at HV⊢
 go_enter func219,ntmps219
 go_wp2
 go_loop [3] (fun i=>∃k:Nat,k<=m.length∧i=.int .i64 (k:Int)∧Hid (m.any id=(m.drop k).any id)) (fun i=>m.length-(intOf i).toNat)
 case atStart=>exact X4
 case round=>
  obtain⟨k,hk,rfl,hl⟩:=hrel;by_cases hlt:k<m.length
  ·obtain⟨bb0,off0,ha0,hbl0,hc00⟩:=HV.out.at_ (k:=k) XY
   subst ha0
   rw[E5]at hc00
   unfold encT at hc00
   obtain⟨b,hb⟩:∃b,m[k]=b:=⟨_,rfl⟩
   rw[hb]at hc00
   have hl2:=hl.out
   rw[C5 hlt,hb,List.any_cons]at hl2
   have hkd:decide ((k:Int)<(m.length:Int))=true:=V0 B0
   clear hb hl
   cases b with
   |true=>have HA:=A0 (show m.any id=true by rw[hl2];rfl);clear hl2;go_wp2;go_ret;exact AZ
   |false=>have HA:=A0 (show m.any id=(m.drop (k+1)).any id by rw[hl2];rfl);clear hl2;go_wp2;go_round;(case rel=>exact⟨k+1,by omega,by go_num,HA⟩);case measure=>exact Q8
  ·obtain rfl:k=m.length:=B0;have HA:=A0 (show m.any id=false by rw[hl.out,KH];rfl);have hkd:decide ((m.length:Int)<(m.length:Int))=false:=X0 B0;clear hk hlt hl;go_wp2;go_ret;exact AZ
theorem Zk1 (v:Value) (m:List Bool) (w:World) (hv:SlK w v (m.map encT)) (hm:m.length<=1000000):
 Calls prog 143 #[v] w fun e w'=>e=.returned (.tuple #[.int .i64 (Ea.ldg m:Int),.int .i64 ((Ea.ldg m+(m.length-Ea.trl m-Ea.ldg m):Nat):Int)])∧w=w':=by
 obtain⟨tt,ht⟩:∃t,Ea.ldg m+(m.length-Ea.trl m-Ea.ldg m)=t:=⟨_,rfl⟩
 obtain⟨ll,hll⟩:∃t,Ea.ldg m=t:=⟨_,rfl⟩
 rw[ht,hll]
 have HTT:=A0 ht
 have HLL:=A0 hll
 clear ht hll
 obtain⟨hsl,a,c,rfl,_⟩:=hv
 rw[J0]at hsl⊢
 have HV:=A0 hsl
 clear hsl
 go_enter func143,ntmps143
 go_wp2
 go_loop [4] (fun i=>∃k:Nat,k<=m.length∧i=.int .i64 (k:Int)∧Hid (Ea.ldg (m.drop k)+k=Ea.ldg m)) (fun i=>m.length-(intOf i).toNat)
 case atStart=>exact X4
 case round=>
  obtain⟨k,hk,rfl,hl⟩:=hrel;by_cases hlt:k<m.length
  ·obtain⟨bb0,off0,ha0,hbl0,hc00⟩:=HV.out.at_ (k:=k) XY
   subst ha0
   rw[E5]at hc00
   unfold encT at hc00
   obtain⟨b,hb⟩:∃b,m[k]=b:=⟨_,rfl⟩
   rw[hb]at hc00
   have hl2:=hl.out
   rw[C5 hlt,hb]at hl2
   have HL2:=A0 hl2
   have HB:=A0 hb
   have hkd:decide ((k:Int)<(m.length:Int))=true:=V0 B0
   clear hl2 hl hb
   cases b with
   |true=>
    have HL:Hid (Ea.ldg m=k):=A0 EF;clear HL2;go_wp2;go_loop [5] (fun i=>∃j:Nat,k<=j∧j<=m.length∧i=.int .i64 (j:Int)∧Hid (∀t,j<=t->t<m.length->m[t]? =some false)) (fun i=>(intOf i).toNat);(case atStart=>exact⟨m.length,hk,K0 _,rfl,A0 (fun t h1 h2=>by omega)⟩);case round=>
     obtain⟨j,hkj,hj,rfl,hr⟩:=hrel
     have hgt:k<j:=by rcases P4 k j with h|h;(·exact h);·have:=hr.out k B0 hlt;rw[M0 hlt,HB.out]at this;cases this
     obtain⟨q,hq⟩:∃q,j-1=q:=⟨_,rfl⟩
     have hqi:(j:Int)-1=(q:Int):=by omega
     have hqm:q<m.length:=by omega
     have HQ:Hid (q+1=j):=A0 B0
     obtain⟨bb,off,ha,hbl,hc0⟩:=HV.out.at_ (k:=q) (by rw[J0];exact hqm)
     simp only[I2,Addr.mk.injEq,X8]at ha
     obtain⟨rfl,rfl⟩:=ha
     rw[E5]at hc0
     unfold encT at hc0
     obtain⟨b,hb⟩:∃b,m[q]=b:=⟨_,rfl⟩
     rw[hb]at hc0
     have HB2:=A0 hb
     have hkd2:decide ((k:Int)<(j:Int))=true:=V0 B0
     clear hb hq
     cases b with
     |true=>have HT:Hid (Ea.trl m=m.length-j):=A0 (Zor m j hj B0 (by rw[show j-1=q by have:=HQ.out;omega,M0 hqm,HB2.out]) hr.out);go_wp2;go_ret2;have e1:tt=j:=(by have h1:=HTT.out;have h2:=HT.out;have h3:=HL.out;omega);have e2:ll=k:=(by rw[<-HLL.out];exact HL.out);subst e1 e2;exact V6
     |false=>have HR2:Hid (∀t,q<=t->t<m.length->m[t]? =some false):=A0 (fun t h1 h2=>by rcases P4 t j with h|h;(·have:t=q:=M7;subst this;rw[M0 hqm,HB2.out]);·exact hr.out t h h2);have hkq:k<=q:=M7;clear hr;go_wp2;go_round;(case rel=>exact⟨q,hkq,by omega,by first|rfl|(congr 1),HR2⟩);case measure=>have:=HQ.out;exact Q8
   |false=>have HL:Hid (Ea.ldg (m.drop (k+1))+(k+1)=Ea.ldg m):=A0 lW;clear HL2;go_wp2;go_round;(case rel=>exact⟨k+1,by omega,by go_num,HL⟩);case measure=>exact Q8
  ·obtain rfl:k=m.length:=B0;have HL:Hid (Ea.ldg m=m.length):=A0 (by have:=hl.out;rw[KH]at this;simp only[Ea.ldg]at this;omega);have hkd:decide ((m.length:Int)<(m.length:Int))=false:=X0 B0;clear hk hlt hl;go_wp2;go_loop [5] (fun i=>i=.int .i64 (m.length:Int)) (fun i=>(intOf i).toNat);(case atStart=>rfl);case round=>obtain rfl:=hrel;go_wp2;go_ret2;have e1:tt=m.length:=(by have h1:=HTT.out;have h3:=HL.out;omega);have e2:ll=m.length:=(by rw[<-HLL.out];exact HL.out);subst e1 e2;exact V6
end Go.Proofs.YtbngggoccndefaaGreatDoor
namespace Go.Proofs.YtbngggoccndefaaGreatDoor
open Go.Proofs.Tryz
open Go.RowKit
theorem Zk4 {m:List Bool} {n:Nat} (h:∀i,i+1<n->(m.drop (11+9*i)).take 2=Ea.gA):(List.range (n-1)).all (fun i=>(m.drop (11+9*i)).take 2==Ea.gA)=true:=by rw[U1];intro i hi;rw[Y0];exact h i (by have:=M4.1 hi;omega)
theorem Zjm {m:List Bool} {n i:Nat} (hi:i+1<n) (h:(m.drop (11+9*i)).take 2≠Ea.gA):(List.range (n-1)).all (fun i=>(m.drop (11+9*i)).take 2==Ea.gA)=false:=by rw[YG];exact⟨i,M4.2 B0,by simpa using h⟩
theorem lX (n:Nat) (hn:n=2∨n=5) (v:Value) (m:List Bool) (w:World) (hv:SlK w v (m.map encT)) (hm:m.length=Ea.wAdd n):
 Calls prog 221 #[v] w fun e w'=>e=.returned (addV (Ea.rdAdd n m))∧Ext w w':=by
 have hm2:m.length=9*n+2:=by rw[hm];rcases hn with rfl|rfl<;>rfl
 obtain⟨res,hres⟩:∃res,Ea.rdAdd n m=res:=⟨_,rfl⟩
 rw[hres]
 have HX:=A0 hres
 unfold Ea.rdAdd at HX
 obtain⟨p1,hp1,hq1⟩:=WQ hv 4 A3
 rw[<-I3]at hq1
 have HE1:=A0 (R7 (md:=Ea.sA) hq1 X3 I0)
 have HMA:=A0 (fun w=>ZB ⟨#[49,48,49,49]⟩ Ea.sA rfl I0 w)
 have HMG:=A0 (fun w=>ZB ⟨#[48,49]⟩ Ea.gA rfl I0 w)
 have HRD:=A0 (fun w' (h:Ext w w')=>TH v m 4 n 2 0 0 1 true w' (hv.ext h) B0 B0 B0 ⟨rfl,rfl⟩ B0 B0)
 have HV:=A0 hv
 obtain⟨_,a,c,rfl,hc⟩:=hv
 rw[J0]at hp1 HRD HV⊢
 rw[show((4:Nat):Int)=4 from rfl]at hp1 HRD
 rw[show((2:Nat):Int)=2 from rfl,show((0:Nat):Int)=0 from rfl,show((1:Nat):Int)=1 from rfl]at HRD
 have hn5:((m.length:Int)==47)=true∧n=5∨((m.length:Int)==47)=false∧n=2:=by rcases hn with rfl|rfl;(·exact .inr ⟨by rw[hm2];rfl,rfl⟩);·exact .inl ⟨by rw[hm2];rfl,rfl⟩
 have HLN:=A0 hm2
 have HW:Hid (Ext w w):=A0 (Ext.refl w)
 have HNN:Hid (n=2∨n=5):=A0 hn
 clear hq1 hres hc hm hm2 hn
 by_cases g1:m.take 4=Ea.sA
 ·rw[C0 (fun h=>h g1)]at HX;rw[V0 g1]at HE1;clear g1;rcases hn5 with⟨hb,rfl⟩|⟨hb,rfl⟩
  ·rw[show((5:Nat):Int)=5 from rfl]at HRD;go_enter func221,ntmps221;go_wp2_with fail;refine Zh 4 1 rfl [11,12,13,14] [[],[0],[],[1,2]] G0 G0 ?_;apply Za;(·exact Qa);apply Za;(·exact qA);refine Zc (fun v w=>Own 4 w 0 v (Ea.sA.map encT)) (fun _ _ _ h hx=>h.ext hx) ?_ ?_;(·exact qB);refine Zc (eqv (.bool true)) (Zg _) ?_ ?_;(·exact qC);intro V wT hxT hf;obtain⟨g11,g12,g13,g14,_⟩:=hf;simp only[fillA,F1,O1,Act.put,V1,N1,L1];have q14:V 14=_:=g14;rw[q14];have HW2:=A0 (HW.out.trans hxT);refine Zb 4 G0 rfl (fun K hK=> ?_);go_simp;refine hK _ _ ?_;clear hK K;refine⟨rfl,?_⟩;clear HW;have HW:=HW2;clear HW2;go_wp2_with fail;go_loopw [5] (fun v5 wr=>∃k:Nat,1<=k∧k<=5∧v5=.int .i64 (k:Int)∧Hid (∀i,i+1<k->(m.drop (11+9*i)).take 2=Ea.gA)∧Hid (Ext w wr)) (fun v5 _=>5-(intOf v5).toNat);(case atStart=>exact lY);case round=>
    clear HW;obtain⟨k,hk1,hk2,rfl,HG0,HW⟩:=hrel;by_cases hlt:k<5;(·obtain⟨x,hx⟩:∃x,9*k=x:=⟨_,rfl⟩;obtain⟨y,hy⟩:∃y,4+x=y:=⟨_,rfl⟩;obtain⟨z,hz⟩:∃z,y-2=z:=⟨_,rfl⟩;have e1:(9:Int)*(k:Int)=(x:Int):=B0;have e2:(4:Int)+(x:Int)=(y:Int):=B0;have e3:(y:Int)-2=(z:Int):=B0;have w1:IntKind.i64.wrap (x:Int)=(x:Int):=T3 _ B0;have w2:IntKind.i64.wrap (y:Int)=(y:Int):=T3 _ B0;have w3:IntKind.i64.wrap (z:Int)=(z:Int):=T3 _ B0;have hz2:z=11+9*(k-1):=B0;obtain⟨p2,hp2,hq2⟩:=ZV HV.out z y B0 (by rw[J0];have:=HLN.out;omega);rw[<-R3,<-I3,show y-z=2 by omega,hz2]at hq2;have HE2:=A0 (R7 (md:=Ea.gA) hq2 X3 I0);have hkd:decide ((k:Int)<5)=true:=V0 B0;exact Qd)
    ·obtain rfl:k=5:=by omega
     have HX2:=A0 HX.out
     rw[C0 lZ]at HX2
     obtain⟨lo,hlo⟩:∃lo,Ea.rcg true 0 2 5 (m.drop 4)=lo:=⟨_,rfl⟩
     have HLF:=A0 (fun l u (e:lo=some (l,u))=>WW B0 (hlo.trans e))
     rw[hlo]at HX2 HRD
     obtain⟨L,U,hLU,hLe,hLs,hL1,hL0⟩:=WX lo 5 B0 (fun l u e=>(HLF.out l u e).1)
     rw[hLU]at HRD
     clear hlo hLU hL0 HX HG0 hk1 hk2 hlt
     cases lo with
     |none=>exact mA
     |some q=>obtain⟨l,u⟩:=q;rw[show(some (l,u):Option (List UInt8×List Nat)).isNone=false from rfl]at hLe;obtain⟨hLl,hUl⟩:=hL1 l u rfl;obtain⟨f1,f2,f3,f4⟩:=HLF.out l u rfl;have hLz:L.size=5:=(by rw[Zf hLl,f1]);exact Q5
  ·rw[show((2:Nat):Int)=2 from rfl]at HRD;go_enter func221,ntmps221;go_wp2_with fail;refine Zh 4 1 rfl [11,12,13,14] [[],[0],[],[1,2]] G0 G0 ?_;apply Za;(·exact Qa);apply Za;(·exact qA);refine Zc (fun v w=>Own 4 w 0 v (Ea.sA.map encT)) (fun _ _ _ h hx=>h.ext hx) ?_ ?_;(·exact qB);refine Zc (eqv (.bool true)) (Zg _) ?_ ?_;(·exact qC);intro V wT hxT hf;obtain⟨g11,g12,g13,g14,_⟩:=hf;simp only[fillA,F1,O1,Act.put,V1,N1,L1];have q14:V 14=_:=g14;rw[q14];have HW2:=A0 (HW.out.trans hxT);refine Zb 4 G0 rfl (fun K hK=> ?_);go_simp;refine hK _ _ ?_;clear hK K;refine⟨rfl,?_⟩;clear HW;have HW:=HW2;clear HW2;go_wp2_with fail;go_loopw [5] (fun v5 wr=>∃k:Nat,1<=k∧k<=2∧v5=.int .i64 (k:Int)∧Hid (∀i,i+1<k->(m.drop (11+9*i)).take 2=Ea.gA)∧Hid (Ext w wr)) (fun v5 _=>2-(intOf v5).toNat);(case atStart=>exact lY);case round=>
    clear HW;obtain⟨k,hk1,hk2,rfl,HG0,HW⟩:=hrel;by_cases hlt:k<2;(·obtain⟨x,hx⟩:∃x,9*k=x:=⟨_,rfl⟩;obtain⟨y,hy⟩:∃y,4+x=y:=⟨_,rfl⟩;obtain⟨z,hz⟩:∃z,y-2=z:=⟨_,rfl⟩;have e1:(9:Int)*(k:Int)=(x:Int):=B0;have e2:(4:Int)+(x:Int)=(y:Int):=B0;have e3:(y:Int)-2=(z:Int):=B0;have w1:IntKind.i64.wrap (x:Int)=(x:Int):=T3 _ B0;have w2:IntKind.i64.wrap (y:Int)=(y:Int):=T3 _ B0;have w3:IntKind.i64.wrap (z:Int)=(z:Int):=T3 _ B0;have hz2:z=11+9*(k-1):=B0;obtain⟨p2,hp2,hq2⟩:=ZV HV.out z y B0 (by rw[J0];have:=HLN.out;omega);rw[<-R3,<-I3,show y-z=2 by omega,hz2]at hq2;have HE2:=A0 (R7 (md:=Ea.gA) hq2 X3 I0);have hkd:decide ((k:Int)<2)=true:=V0 B0;exact Qd)
    ·obtain rfl:k=2:=by omega
     have HX2:=A0 HX.out
     rw[C0 lZ]at HX2
     obtain⟨lo,hlo⟩:∃lo,Ea.rcg true 0 2 2 (m.drop 4)=lo:=⟨_,rfl⟩
     have HLF:=A0 (fun l u (e:lo=some (l,u))=>WW B0 (hlo.trans e))
     rw[hlo]at HX2 HRD
     obtain⟨L,U,hLU,hLe,hLs,hL1,hL0⟩:=WX lo 2 B0 (fun l u e=>(HLF.out l u e).1)
     rw[hLU]at HRD
     clear hlo hLU hL0 HX HG0 hk1 hk2 hlt
     cases lo with
     |none=>exact mA
     |some q=>obtain⟨l,u⟩:=q;rw[show(some (l,u):Option (List UInt8×List Nat)).isNone=false from rfl]at hLe;obtain⟨hLl,hUl⟩:=hL1 l u rfl;obtain⟨f1,f2,f3,f4⟩:=HLF.out l u rfl;have hLz:L.size=2:=(by rw[Zf hLl,f1]);exact Q5
 ·rw[D0 g1]at HX;rw[X0 g1]at HE1;clear g1;rcases hn5 with⟨hb,rfl⟩|⟨hb,rfl⟩;(·exact QR);·exact QR
end Go.Proofs.YtbngggoccndefaaGreatDoor
namespace Go.Proofs.YtbngggoccndefaaGreatDoor
open Go.Proofs.Tryz
open Go.RowKit
theorem qD (n:Nat) (hn:n=95∨n=67∨n=51) (v:Value) (m:List Bool) (w:World) (hv:SlK w v (m.map encT)) (hm:m.length=n):
 Calls prog 220 #[v] w fun e w'=>e=.returned (ZZ (Ea.rdSym n m))∧Ext w w':=by
 rcases hn with rfl|rfl|rfl
 ·exact Zjj v m w hv hm
 ·exact Zji v m w hv hm
 ·exact Zjh v m w hv hm
def L6 (f:Bool) (r:Ea.Got):Value:=if f=true then .tuple #[linV r.1.1 r.1.2.1 r.1.2.2,.int .i64 r.2,.bool true]else .tuple #[linV 0 [] [],.int .i64 0,.bool false]
theorem ZO {fn:Func} {p u z:Tmp} (h:fn.results= #[.cell p 33,.tmp u,.tmp z]) {tmps:Array Value} {w:World} {g:Nat} {t:TypeId} {x y q e f:Value}
 (hp:tmps.getD p undef=.pointer (some ⟨g,0,none⟩)) (hg:w.heap[g]? =some (.cells #[x,y,q] t (0,0))) (he:tmps.getD u undef=e) (hf:tmps.getD z undef=f):
 (results fn tmps).run prog w=.ok (.tuple #[.agg #[x,y,q],e,f]) w:=by
 have h1:(results fn tmps).run prog w=((asAddr (tmps.getD p undef)).run prog w).andThen fun a w₁=>((loadVar 33 a).run prog w₁).andThen fun v w₂=>.ok (.tuple #[v,tmps.getD u undef,tmps.getD z undef]) w₂:=by simp only[results,h];simp[OH,Result.andThen]
 rw[h1,hp,he,hf]
 simp only[asAddr,SE,SF]
 rw[LG w g t _ #[x,y,q] (0,0) _ hg underlying33 rfl G0]
 rfl
theorem ZiH {n:Nat} {s:List Bool} {k:Int} {t:List UInt8} {er:Int} (hr:Ea.rdSym n s=((k,t),er)) (h:er≠0):k=0∧t=[]:=by have:=LJ n s LK;exact LL
theorem ZhK (n:Nat) (hn:n=95∨n=67∨n=51) (v:Value) (m:List Bool) (w:World) (hv:SlK w v (m.map encT)) (hm:m.length<=65536):
 Calls prog 144 #[v,.int .i64 (n:Int),.int .i64 0] w fun e w'=>e=.returned (L6 (Ea.fits m n 0) (Ea.rdShape m n 0))∧Ext w w':=by
 have hn95:n<=95:=by omega
 have HF:Ea.fits m n 0=(m.length==n):=by unfold Ea.fits;rw[D0 rfl]
 obtain⟨G1,hG1⟩:∃G:Int,(m.length:Int)-(n:Int)=G:=⟨_,rfl⟩
 have hG2:G1-0=G1:=Int.sub_zero _
 by_cases hfit:m.length=n
 ·have hg0:(G1 !=0)=false:=FR;obtain⟨p1,hp1,hq1⟩:=WQ hv n A3;rw[<-I3]at hq1;have HS:=A0 (fun w' (h:Ext w w')=>qD n hn p1 (m.take n) w' (hq1.ext h) X3);rw[HF,show(m.length==n)=true from Y0.2 hfit];unfold L6 Ea.rdShape;rw[D0 rfl];obtain⟨⟨⟨k,t⟩,er⟩,hr⟩:∃r,Ea.rdSym n (m.take n)=r:=⟨_,rfl⟩;have HZ:=A0 (fun h=>ZiH hr h);rw[hr]at HS⊢;unfold ZZ at HS;dsimp only at HS⊢;rw[D0 rfl];obtain⟨T,hT⟩:∃T,Ea.bS t=T:=⟨_,rfl⟩;have HT:=A0 hT;rw[hT]at HS;obtain⟨_,a,c,rfl,hc⟩:=hv;rw[J0]at hp1⊢;clear hr hT hc hq1 hn HF hfit;by_cases h0:er=0;(·subst h0;rw[C0 (fun h=>h rfl)];go_enter func144,ntmps144;go_wp2_with fail;refine(HS.out _ Xf).mono ?_;rintro e w1 ⟨rfl,hx⟩;obtain⟨z0,z1,z2,z3,z4,z5,z6,HB⟩:=Zj (Zv rfl hx);have hxw:=hx.before;clear hx;go_wp2;refine E1 (ZO results144 rfl (Zk HB) rfl rfl) rfl ?_;exact⟨by unfold linV;dsimp only;rw[HT.out];rfl,((hxw.setCell (K0 _) _).setCell (K0 _) _).setCell (K0 _) _⟩);·rw[D0 h0];have hb:(er !=0)=true:=C3.2 h0;clear h0 HZ;go_enter func144,ntmps144;go_wp2_with fail;refine(HS.out _ Xf).mono ?_;rintro e w1 ⟨rfl,hx⟩;exact mB
 ·have hg0:(G1 !=0)=true:=NW;rw[HF,show(m.length==n)=false from N0.2 hfit];unfold L6;rw[C0 Bool.noConfusion];obtain⟨_,a,c,rfl,hc⟩:=hv;rw[J0];clear hc hn HF hfit;exact mC
theorem mD (l:List Bool):l.all (fun b=> !b)= !l.any id:=by
 induction l with
 |nil=>rfl
 |cons b l ih=>rw[LI,List.any_cons,ih];cases b<;>rfl
theorem Zjg (n:Nat) (hn:n=95∨n=67∨n=51) (v:Value) (m:List Bool) (w:World) (hv:SlK w v (m.map encT)) (hm:m.length<=65536):
 Calls prog 144 #[v,.int .i64 (n:Int),.int .i64 20] w fun e w'=>e=.returned (L6 (Ea.fits m n 2) (Ea.rdShape m n 2))∧Ext w w':=by
 have hn95:n<=95:=by omega
 have HF:Ea.fits m n 2=(decide (n+20+7<=m.length)&&decide (m.length<=n+20+12)&& !((m.drop n).take (m.length-n-20)).any id):=by unfold Ea.fits;rw[C0 I0,mD];rfl
 obtain⟨G1,hG1⟩:∃G:Int,(m.length:Int)-(n:Int)=G:=⟨_,rfl⟩
 by_cases h7:m.length<n+20+7
 ·obtain⟨G,hG⟩:∃G:Int,G1-20=G:=⟨_,rfl⟩;have hb7:decide (G<7)=true:=V0 B0;rw[HF,show decide (n+20+7<=m.length)=false from X0 B0,N8,N8];exact mF
 by_cases h12:n+20+12<m.length
 ·obtain⟨G,hG⟩:∃G:Int,G1-20=G:=⟨_,rfl⟩;have hb7:decide (G<7)=false:=X0 B0;have hb12:decide (12<G)=true:=V0 B0;rw[HF,show decide (m.length<=n+20+12)=false from X0 B0,Bool.and_false,N8];exact mG
 obtain⟨g,hg⟩:∃g,m.length-n-20=g:=⟨_,rfl⟩
 have hgi:G1-20=(g:Int):=by omega
 obtain⟨e,he⟩:∃e,n+g=e:=⟨_,rfl⟩
 have hei:(n:Int)+(g:Int)=(e:Int):=by omega
 obtain⟨p3,hp3,hq3⟩:=ZV hv n e B0 A3
 rw[<-R3,<-I3,show e-n=g by omega]at hq3
 have HD:=A0 (fun w' (h:Ext w w')=>lV p3 ((m.drop n).take g) w' (hq3.ext h) mH)
 have hb7:decide ((g:Int)<7)=false:=X0 B0
 have hb12:decide (12<(g:Int))=false:=X0 B0
 rw[HF,show decide (n+20+7<=m.length)=true from V0 B0,show decide (m.length<=n+20+12)=true from V0 B0,hg,WH,WH]
 have hg12:g<=12:=by omega
 have hem:e<=m.length:=by omega
 cases hdk:((m.drop n).take g).any id with
 |true=>exact mI
 |false=>rw[hdk]at HD;obtain⟨p1,hp1,hq1⟩:=WQ hv n A3;rw[<-I3]at hq1;have HS:=A0 (fun w' (h:Ext w w')=>qD n hn p1 (m.take n) w' (hq1.ext h) X3);obtain⟨p2,hp2,hq2⟩:=PM hv e A3;rw[<-R3]at hq2;have HA:=A0 (fun w' (h:Ext w w')=>lX 2 I0 p2 (m.drop e) w' (hq2.ext h) (by rw[X2];show _=20;omega));unfold L6 Ea.rdShape;rw[D0 (show(!false)=true from rfl)];have e2:m.length-Ea.wAdd 2=e:=(by show m.length-20=e;omega);rw[e2];obtain⟨⟨⟨k,t⟩,er⟩,hr⟩:∃r,Ea.rdSym n (m.take n)=r:=⟨_,rfl⟩;rw[hr]at HS⊢;unfold ZZ at HS;obtain⟨⟨al,ae⟩,hra⟩:∃r,Ea.rdAdd 2 (m.drop e)=r:=⟨_,rfl⟩;rw[hra]at HA⊢;unfold addV at HA;dsimp only at HS HA⊢;rw[C0 (show¬2=0 by decide)];exact QK
theorem ZhJ (n:Nat) (hn:n=95∨n=67∨n=51) (v:Value) (m:List Bool) (w:World) (hv:SlK w v (m.map encT)) (hm:m.length<=65536):
 Calls prog 144 #[v,.int .i64 (n:Int),.int .i64 47] w fun e w'=>e=.returned (L6 (Ea.fits m n 5) (Ea.rdShape m n 5))∧Ext w w':=by
 have hn95:n<=95:=by omega
 have HF:Ea.fits m n 5=(decide (n+47+7<=m.length)&&decide (m.length<=n+47+12)&& !((m.drop n).take (m.length-n-47)).any id):=by unfold Ea.fits;rw[C0 I0,mD];rfl
 obtain⟨G1,hG1⟩:∃G:Int,(m.length:Int)-(n:Int)=G:=⟨_,rfl⟩
 by_cases h7:m.length<n+47+7
 ·obtain⟨G,hG⟩:∃G:Int,G1-47=G:=⟨_,rfl⟩;have hb7:decide (G<7)=true:=V0 B0;rw[HF,show decide (n+47+7<=m.length)=false from X0 B0,N8,N8];exact mF
 by_cases h12:n+47+12<m.length
 ·obtain⟨G,hG⟩:∃G:Int,G1-47=G:=⟨_,rfl⟩;have hb7:decide (G<7)=false:=X0 B0;have hb12:decide (12<G)=true:=V0 B0;rw[HF,show decide (m.length<=n+47+12)=false from X0 B0,Bool.and_false,N8];exact mG
 obtain⟨g,hg⟩:∃g,m.length-n-47=g:=⟨_,rfl⟩
 have hgi:G1-47=(g:Int):=by omega
 obtain⟨e,he⟩:∃e,n+g=e:=⟨_,rfl⟩
 have hei:(n:Int)+(g:Int)=(e:Int):=by omega
 obtain⟨p3,hp3,hq3⟩:=ZV hv n e B0 A3
 rw[<-R3,<-I3,show e-n=g by omega]at hq3
 have HD:=A0 (fun w' (h:Ext w w')=>lV p3 ((m.drop n).take g) w' (hq3.ext h) mH)
 have hb7:decide ((g:Int)<7)=false:=X0 B0
 have hb12:decide (12<(g:Int))=false:=X0 B0
 rw[HF,show decide (n+47+7<=m.length)=true from V0 B0,show decide (m.length<=n+47+12)=true from V0 B0,hg,WH,WH]
 have hg12:g<=12:=by omega
 have hem:e<=m.length:=by omega
 cases hdk:((m.drop n).take g).any id with
 |true=>exact mI
 |false=>rw[hdk]at HD;obtain⟨p1,hp1,hq1⟩:=WQ hv n A3;rw[<-I3]at hq1;have HS:=A0 (fun w' (h:Ext w w')=>qD n hn p1 (m.take n) w' (hq1.ext h) X3);obtain⟨p2,hp2,hq2⟩:=PM hv e A3;rw[<-R3]at hq2;have HA:=A0 (fun w' (h:Ext w w')=>lX 5 I0 p2 (m.drop e) w' (hq2.ext h) (by rw[X2];show _=47;omega));unfold L6 Ea.rdShape;rw[D0 (show(!false)=true from rfl)];have e2:m.length-Ea.wAdd 5=e:=(by show m.length-47=e;omega);rw[e2];obtain⟨⟨⟨k,t⟩,er⟩,hr⟩:∃r,Ea.rdSym n (m.take n)=r:=⟨_,rfl⟩;rw[hr]at HS⊢;unfold ZZ at HS;obtain⟨⟨al,ae⟩,hra⟩:∃r,Ea.rdAdd 5 (m.drop e)=r:=⟨_,rfl⟩;rw[hra]at HA⊢;unfold addV at HA;dsimp only at HS HA⊢;rw[C0 (show¬5=0 by decide)];exact QK
theorem Zjf (n a:Nat) (hn:n=95∨n=67∨n=51) (ha:a=0∨a=2∨a=5) (v:Value) (m:List Bool) (w:World) (hv:SlK w v (m.map encT)) (hm:m.length<=65536):
 Calls prog 144 #[v,.int .i64 (n:Int),.int .i64 (Ea.wAdd a:Int)] w fun e w'=>e=.returned (L6 (Ea.fits m n a) (Ea.rdShape m n a))∧Ext w w':=by
 rcases ha with rfl|rfl|rfl
 ·exact ZhK n hn v m w hv hm
 ·exact Zjg n hn v m w hv hm
 ·exact ZhJ n hn v m w hv hm
end Go.Proofs.YtbngggoccndefaaGreatDoor
namespace Go.Proofs.YtbngggoccndefaaGreatDoor
open Go.Proofs.Tryz
open Go.RowKit
theorem Zi9 {l:List Bool} (h:Ea.ldg l≠l.length):Ea.ldg l+Ea.trl l<l.length:=aY
def mrL:List Nat:=[0,20,47]
theorem Zo9 {i:Nat} (h:i<3):mrL.getD i 0=Ea.wAdd (dsL.getD i 0):=by
 have h':i=0∨i=1∨i=2:=by omega
 rcases h' with rfl|rfl|rfl<;>rfl
theorem ZgT (v:Value) (m:List Bool) (w:World) (hv:SlK w v (m.map encT)) (hm:m.length<=9223372036854775807) (hl:65536<m.length):
 Calls prog 82 #[v] w fun e w'=>e=.returned (gotV (Ea.dec m))∧Ext w w':=by
 have HX:Hid (Ea.dec m=((0,[],[]),4)):=A0 (by unfold Ea.dec;rw[D0 hl])
 obtain⟨_,a,c,rfl,_⟩:=hv
 rw[J0]
 rw[HX.out]
 go_enter func82,ntmps82
 go_wp2
 refine E1 (Zi results82 rfl (L2 _ _) rfl) rfl ?_
 exact⟨rfl,Xf⟩
theorem ZhF (v:Value) (m:List Bool) (w:World) (hv:SlK w v (m.map encT)) (hm6:m.length<=65536):
 Calls prog 82 #[v] w fun e w'=>e=.returned (gotV (Ea.dec m))∧Ext w w':=by
 obtain⟨res,hres⟩:∃res,Ea.dec m=res:=⟨_,rfl⟩
 rw[hres]
 have HX:=A0 hres
 unfold Ea.dec at HX
 rw[C0 B0]at HX
 have HM:=A0 (fun w' (h:Ext w w')=>Zk1 v m w' (hv.ext h) B0)
 have HV:=A0 hv
 obtain⟨a,c,rfl,hc⟩:=hv.2
 rw[J0]at HM HV⊢
 clear hres hv hc
 have hlt1:Ea.ldg m≠m.length->Ea.ldg m+Ea.trl m<m.length:=Zi9
 have hle1:=Ea.ldg_le m
 obtain⟨L,hL⟩:∃L,Ea.ldg m=L:=⟨_,rfl⟩
 obtain⟨R,hR⟩:∃R,Ea.trl m=R:=⟨_,rfl⟩
 rw[hL,hR]at HX HM hlt1
 rw[hL]at hle1
 obtain⟨t,ht⟩:∃t,L+(m.length-R-L)=t:=⟨_,rfl⟩
 rw[ht]at HM
 by_cases h2:L=m.length
 ·rw[D0 h2]at HX;have b2:((L:Int)==(t:Int))=true:=Y0.2 B0;clear hL hR h2 ht hlt1 hle1;go_enter func82,ntmps82;go_wp2_with fail;refine(HM.out _ Xf).mono ?_;rintro e w1 ⟨rfl,rfl⟩;go_wp2;refine E1 (Zi results82 rfl (L2 _ _) rfl) rfl ?_;exact⟨by rw[<-HX.out];rfl,Xf⟩
 ·rw[C0 h2]at HX;have hlt:=hlt1 h2;have b2:((L:Int)==(t:Int))=false:=N0.2 B0;have hti:(m.length:Int)-(t:Int)=(R:Int):=B0;by_cases h3:L<7∨R<7;(·rw[D0 h3]at HX;have b3:(decide ((L:Int)<7)=true)∨(decide ((L:Int)<7)=false∧decide ((R:Int)<7)=true):=bA;clear hL hR h2 h3 ht hlt1;rcases b3 with b3|⟨b3,b4⟩;all_goals go_enter func82,ntmps82;go_wp2_with fail;refine(HM.out _ Xf).mono ?_;rintro e w1 ⟨rfl,rfl⟩;go_wp2;refine E1 (Zi results82 rfl (L2 _ _) rfl) rfl ?_;exact⟨by rw[<-HX.out];rfl,Xf⟩);·rw[C0 h3]at HX;have b3:decide ((L:Int)<7)=false:=X0 B0;have b4:decide ((R:Int)<7)=false:=X0 B0;obtain⟨S,hS⟩:∃S,(m.drop L).take (m.length-R-L)=S:=⟨_,rfl⟩;rw[hS]at HX;have hSl:S.length<=65536:=bB;obtain⟨v',hv1,hv2⟩:=ZV HV.out L t B0 A3;rw[<-R3,<-I3,show t-L=m.length-R-L by omega,hS]at hv2;have HS2:=A0 hv2;have HSL:=A0 hSl;have htm:t<=m.length:=B0;clear hL hR h2 h3 hS hv2 hSl ht hlt1 hlt hle1;go_enter func82,ntmps82;go_wp2_with fail;refine(HM.out _ Xf).mono ?_;rintro e w1 ⟨rfl,rfl⟩;obtain⟨w1,hw1⟩:∃w1,w.alloc (.cells #[.int .i64 0,.string ⟨#[]⟩,.string ⟨#[]⟩] 33)=w1:=⟨_,rfl⟩;rw[hw1];have HB0:=A0 (Zv rfl (by rw[hw1];exact Ext.refl w1):w1.heap[w.heap.size]? =some (.cells #[.int .i64 0,.string ⟨#[]⟩,.string ⟨#[]⟩] 33 (0,0)));have hxw:Ext w w1:=(by rw[<-hw1];exact(Ext.refl w).alloc _);clear HM hw1;go_wp2_with fail;clear b2 b3 b4 hti;have HC3:=A0 (fun(w':World) (x:Ext (w1.alloc (.cells #[.int .i64 95,.int .i64 67,.int .i64 51] 3)) w') (i:Nat) (hi:i<3)=>LM (f:=fun i=>((wsL.getD i 0:Nat):Int)) rfl rfl rfl x hi);go_loopw [6,39] (fun v6 v39 wr=>∃(i:Nat) (fe:Int),i<=3∧v39=.int .i64 (i:Int)∧v6=.int .i64 fe∧Hid (res=Ea.decF S fe (H5 i 0))∧Ext (w1.alloc (.cells #[.int .i64 95,.int .i64 67,.int .i64 51] 3)) wr) (fun _ v39 _=>3-(intOf v39).toNat);(case atStart=>exact bC);case round=>obtain⟨i,fe,hi,rfl,rfl,HR,hxr⟩:=hrel;by_cases hlt:i<3;(·have hcell:=HC3.out wr hxr i hlt;obtain⟨wo,rfl⟩:∃wo:World,wo=wr:=⟨_,rfl⟩;have HW3:=A0 (aU hlt);have HLA:=A0 (fun j (hj:j<3)=>aT i j hlt hj);obtain⟨n,hn⟩:∃n,wsL.getD i 0=n:=⟨_,rfl⟩;rw[hn]at HW3 HLA hcell;have hi3:decide ((i:Int)<3)=true:=V0 B0;clear hn;go_wp2_with fail;have HD3:=A0 (fun(w':World) (x:Ext (wo.alloc (.cells #[.int .i64 0,.int .i64 20,.int .i64 47] 3)) w') (i:Nat) (hi:i<3)=>LM (f:=fun i=>((mrL.getD i 0:Nat):Int)) rfl rfl rfl x hi);go_loopw [6,45] (fun v6 v45 wq=>∃(j:Nat) (fe:Int),j<=3∧v45=.int .i64 (j:Int)∧v6=.int .i64 fe∧Hid (res=Ea.decF S fe (H5 i j))∧Ext (wo.alloc (.cells #[.int .i64 0,.int .i64 20,.int .i64 47] 3)) wq) (fun _ v45 _=>3-(intOf v45).toNat);(case atStart=>exact⟨0,fe,by omega,rfl,rfl,HR,Ext.refl _⟩);case round=>clear HR;obtain⟨j,fe,hj,rfl,rfl,HR,hxq⟩:=hrel;by_cases hjt:j<3;(·have hcel2:=HD3.out wr hxq j hjt;rw[Zo9 hjt]at hcel2;have HA3:=A0 (aW hjt);have HLJ:=A0 (HLA.out j hjt);obtain⟨a2,ha2⟩:∃a2,dsL.getD j 0=a2:=⟨_,rfl⟩;rw[ha2]at HA3 HLJ hcel2;have HST:Hid (res=if Ea.fits S n a2=false then Ea.decF S fe (H5 i (j+1))else if(Ea.rdShape S n a2).2=0 then Ea.rdShape S n a2 else Ea.decF S (if fe=7 then(Ea.rdShape S n a2).2 else fe) (H5 i (j+1))):=A0 (by rw[HR.out,HLJ.out];rfl);have hxo:=hxw.trans ((Ext.before hxr).trans (Ext.before hxq));have HSH:=A0 (fun w' (h:Ext w w')=>Zjf n a2 HW3.out HA3.out v' S w' (HS2.out.ext h) HSL.out);obtain⟨q2,hq2⟩:∃q,Ea.wAdd a2=q:=⟨_,rfl⟩;rw[hq2]at HSH hcel2;clear ha2 hq2;have HXQ:=A0 hxq;have HXO:=A0 hxo;cases hf:Ea.fits S n a2;(·rw[hf,show L6 false (Ea.rdShape S n a2)=.tuple #[.agg #[.int .i64 0,.string ⟨#[]⟩,.string ⟨#[]⟩],.int .i64 0,.bool false]from rfl]at HSH;have HST2:Hid (res=Ea.decF S fe (H5 i (j+1))):=A0 (by rw[HST.out,D0 hf]);clear hf HST HR HLJ hxq hxo;go_wp2_with fail;refine(HSH.out _ HXO.out).mono ?_;rintro e w4 ⟨rfl,hx4⟩;have HXX:=A0 ((HXQ.out.trans hx4).alloc (.cells #[.int .i64 0,.string ⟨#[]⟩,.string ⟨#[]⟩] 33));clear hx4;exact DV);·rw[hf]at HSH;have HST2:=A0 (HST.out);rw[C0 (by rw[hf];exact Bool.noConfusion)]at HST2;obtain⟨⟨⟨k,t,al⟩,er⟩,hr⟩:∃r,Ea.rdShape S n a2=r:=⟨_,rfl⟩;rw[hr]at HSH HST2;rw[show L6 true ((k,t,al),er)=.tuple #[.agg #[.int .i64 k,.string (Ea.bS t),.string (Ea.bS al)],.int .i64 er,.bool true]from rfl]at HSH;dsimp only at HST2;obtain⟨TB,hTB⟩:∃TB,Ea.bS t=TB:=⟨_,rfl⟩;obtain⟨AB,hAB⟩:∃AB,Ea.bS al=AB:=⟨_,rfl⟩;have HTA:=A0 (And.intro hTB hAB);rw[hTB,hAB]at HSH;clear hf HST HR HLJ hxq hr hTB hAB;by_cases h0:er=0;(·have HG:Hid (res=((k,t,al),0)):=A0 (by rw[HST2.out,D0 h0,h0]);subst h0;clear HST2;go_wp2_with fail;refine(HSH.out _ HXO.out).mono ?_;rintro e w4 ⟨rfl,hx4⟩;have HB1:=A0 (Ze HB0.out ((Ext.before hxr).trans ((Ext.before HXQ.out).trans hx4)));obtain⟨z0,z1,z2,z3,z4,z5,z6,HB⟩:=Zj HB1.out;have HXX:=A0 (HXO.out.trans hx4);clear HB0 HB1 hx4 hxr hxo;go_wp2;refine E1 (Zi results82 rfl (Ze (Zk HB) ((Ext.refl _).alloc _)) rfl) rfl ?_;exact bD);·rw[C0 h0]at HST2;have hb0:(er==0)=false:=N0.2 h0;by_cases h7:fe=7;(·rw[D0 h7]at HST2;have hb7:(fe==7)=true:=Y0.2 h7;clear h0 h7 hxo;go_wp2_with fail;refine(HSH.out _ HXO.out).mono ?_;rintro e w4 ⟨rfl,hx4⟩;have HXX:=A0 ((HXQ.out.trans hx4).alloc (.cells #[.int .i64 k,.string TB,.string AB] 33));clear hx4;exact bE);·rw[C0 h7]at HST2;have hb7:(fe==7)=false:=N0.2 h7;clear h0 h7 hxo;go_wp2_with fail;refine(HSH.out _ HXO.out).mono ?_;rintro e w4 ⟨rfl,hx4⟩;have HXX:=A0 ((HXQ.out.trans hx4).alloc (.cells #[.int .i64 k,.string TB,.string AB] 33));clear hx4;exact DV);·exact bF);·obtain rfl:i=3:=B0;have HG:Hid (res=((0,[],[]),fe)):=A0 (by rw[HR.out];rfl);have hxx:=hxw.trans (Ext.before hxr);have HB1:=A0 (Ze HB0.out (Ext.before hxr));obtain⟨z0,z1,z2,z3,z4,z5,z6,HB⟩:=Zj HB1.out;clear hi hlt HB0 HB1;go_wp2;refine E1 (Zi results82 rfl (Zk HB) rfl) rfl ?_;exact bG
theorem ZhE (v:Value) (m:List Bool) (w:World) (hv:SlK w v (m.map encT)) (hm:m.length<=9223372036854775807):
 Calls prog 82 #[v] w fun e w'=>e=.returned (gotV (Ea.dec m))∧Ext w w':=by
 by_cases hl:65536<m.length
 ·exact ZgT v m w hv hm hl
 ·exact ZhF v m w hv B0
end Go.Proofs.YtbngggoccndefaaGreatDoor
end
