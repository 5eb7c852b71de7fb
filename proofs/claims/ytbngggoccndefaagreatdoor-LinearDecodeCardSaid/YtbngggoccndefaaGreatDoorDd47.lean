/-
  Laid together.
-/
import Derived.Test.YtbngggoccndefaaGreatDoorDd23
import Derived.Test.YtbngggoccndefaaGreatDoorDd46
set_option maxHeartbeats 16000000
set_option maxRecDepth 100000
set_option linter.unusedVariables false
set_option linter.unusedSimpArgs false
set_option linter.ambiguousOpen false
section
namespace Go.Proofs.YtbngggoccndefaaGreatDoor
open Go.Proofs.Tryz
open Go.RowKit
theorem Zeb (v:Value) (m:List Bool) (w:World) (hv:SlK w v (m.map encT)) (hm:m.length<=1000000):
 Calls prog 219 #[v] w fun e w'=>e=.returned (.bool (m.any id))∧w=w':=by
 have HV:=ZmE hv.1
 obtain⟨_,a,c,rfl,_⟩:=hv
 rw[ZmI]at HV⊢
 go_enter func219,ntmps219
 go_wp2
 go_loop [3] (fun i=>∃k:Nat,k<=m.length∧i=.int .i64 (k:Int)∧Hid (m.any id=(m.drop k).any id)) (fun i=>m.length-(intOf i).toNat)
 case atStart=>exact QaF
 case round=>
  obtain⟨k,hk,rfl,hl⟩:=hrel;by_cases hlt:k<m.length
  ·obtain⟨bb0,off0,ha0,hbl0,hc00⟩:=HV.out.at_ (k:=k) Qia
   subst ha0
   rw[ZnO]at hc00
   unfold encT at hc00
   obtain⟨b,hb⟩:∃b,m[k]=b:=⟨_,rfl⟩
   rw[hb]at hc00
   have hl2:=hl.out
   rw[Zn3 hlt,hb,List.any_cons]at hl2
   have hkd:decide ((k:Int)<(m.length:Int))=true:=ZmR QhN
   clear hb hl
   cases b with
   |true=>have HA:=ZmE (show m.any id=true by rw[hl2];rfl);clear hl2;go_wp2;go_ret;exact QhF
   |false=>have HA:=ZmE (show m.any id=(m.drop (k+1)).any id by rw[hl2];rfl);clear hl2;go_wp2;go_round;(case rel=>exact⟨k+1,by omega,by go_num,HA⟩);case measure=>exact Q8
  ·obtain rfl:k=m.length:=QhN;have HA:=ZmE (show m.any id=false by rw[hl.out,Zqa];rfl);have hkd:decide ((m.length:Int)<(m.length:Int))=false:=ZmS QhN;clear hk hlt hl;go_wp2;go_ret;exact QhF
theorem Ziq (v:Value) (m:List Bool) (w:World) (hv:SlK w v (m.map encT)) (hm:m.length<=1000000):
 Calls prog 143 #[v] w fun e w'=>e=.returned (.tuple #[.int .i64 (Ea.ldg m:Int),.int .i64 ((Ea.ldg m+(m.length-Ea.trl m-Ea.ldg m):Nat):Int)])∧w=w':=by
 obtain⟨tt,ht⟩:∃t,Ea.ldg m+(m.length-Ea.trl m-Ea.ldg m)=t:=⟨_,rfl⟩
 obtain⟨ll,hll⟩:∃t,Ea.ldg m=t:=⟨_,rfl⟩
 rw[ht,hll]
 have HTT:=ZmE ht
 have HLL:=ZmE hll
 clear ht hll
 obtain⟨hsl,a,c,rfl,_⟩:=hv
 rw[ZmI]at hsl⊢
 have HV:=ZmE hsl
 clear hsl
 go_enter func143,ntmps143
 go_wp2
 go_loop [4] (fun i=>∃k:Nat,k<=m.length∧i=.int .i64 (k:Int)∧Hid (Ea.ldg (m.drop k)+k=Ea.ldg m)) (fun i=>m.length-(intOf i).toNat)
 case atStart=>exact QaF
 case round=>
  obtain⟨k,hk,rfl,hl⟩:=hrel;by_cases hlt:k<m.length
  ·obtain⟨bb0,off0,ha0,hbl0,hc00⟩:=HV.out.at_ (k:=k) Qia
   subst ha0
   rw[ZnO]at hc00
   unfold encT at hc00
   obtain⟨b,hb⟩:∃b,m[k]=b:=⟨_,rfl⟩
   rw[hb]at hc00
   have hl2:=hl.out
   rw[Zn3 hlt,hb]at hl2
   have HL2:=ZmE hl2
   have HB:=ZmE hb
   have hkd:decide ((k:Int)<(m.length:Int))=true:=ZmR QhN
   clear hl2 hl hb
   cases b with
   |true=>
    have HL:Hid (Ea.ldg m=k):=ZmE Qiu;clear HL2;go_wp2;go_loop [5] (fun i=>∃j:Nat,k<=j∧j<=m.length∧i=.int .i64 (j:Int)∧Hid (∀t,j<=t->t<m.length->m[t]? =some false)) (fun i=>(intOf i).toNat);(case atStart=>exact⟨m.length,hk,ZmK _,rfl,ZmE (fun t h1 h2=>by omega)⟩);case round=>
     obtain⟨j,hkj,hj,rfl,hr⟩:=hrel
     have hgt:k<j:=by rcases ZnY k j with h|h;(·exact h);·have:=hr.out k QhN hlt;rw[ZmG hlt,HB.out]at this;cases this
     obtain⟨q,hq⟩:∃q,j-1=q:=⟨_,rfl⟩
     have hqi:(j:Int)-1=(q:Int):=by omega
     have hqm:q<m.length:=by omega
     have HQ:Hid (q+1=j):=ZmE QhN
     obtain⟨bb,off,ha,hbl,hc0⟩:=HV.out.at_ (k:=q) (by rw[ZmI];exact hqm)
     simp only[Znl,Addr.mk.injEq,ZpJ]at ha
     obtain⟨rfl,rfl⟩:=ha
     rw[ZnO]at hc0
     unfold encT at hc0
     obtain⟨b,hb⟩:∃b,m[q]=b:=⟨_,rfl⟩
     rw[hb]at hc0
     have HB2:=ZmE hb
     have hkd2:decide ((k:Int)<(j:Int))=true:=ZmR QhN
     clear hb hq
     cases b with
     |true=>have HT:Hid (Ea.trl m=m.length-j):=ZmE (ZlW m j hj QhN (by rw[show j-1=q by have:=HQ.out;omega,ZmG hqm,HB2.out]) hr.out);go_wp2;go_ret2;have e1:tt=j:=(by have h1:=HTT.out;have h2:=HT.out;have h3:=HL.out;omega);have e2:ll=k:=(by rw[<-HLL.out];exact HL.out);subst e1 e2;exact Qbg
     |false=>have HR2:Hid (∀t,q<=t->t<m.length->m[t]? =some false):=ZmE (fun t h1 h2=>by rcases ZnY t j with h|h;(·have:t=q:=Qe7;subst this;rw[ZmG hqm,HB2.out]);·exact hr.out t h h2);have hkq:k<=q:=Qe7;clear hr;go_wp2;go_round;(case rel=>exact⟨q,hkq,by omega,by first|rfl|(congr 1),HR2⟩);case measure=>have:=HQ.out;exact Q8
   |false=>have HL:Hid (Ea.ldg (m.drop (k+1))+(k+1)=Ea.ldg m):=ZmE Qi0;clear HL2;go_wp2;go_round;(case rel=>exact⟨k+1,by omega,by go_num,HL⟩);case measure=>exact Q8
  ·obtain rfl:k=m.length:=QhN;have HL:Hid (Ea.ldg m=m.length):=ZmE (by have:=hl.out;rw[Zqa]at this;simp only[Ea.ldg]at this;omega);have hkd:decide ((m.length:Int)<(m.length:Int))=false:=ZmS QhN;clear hk hlt hl;go_wp2;go_loop [5] (fun i=>i=.int .i64 (m.length:Int)) (fun i=>(intOf i).toNat);(case atStart=>rfl);case round=>obtain rfl:=hrel;go_wp2;go_ret2;have e1:tt=m.length:=(by have h1:=HTT.out;have h3:=HL.out;omega);have e2:ll=m.length:=(by rw[<-HLL.out];exact HL.out);subst e1 e2;exact Qbg
end Go.Proofs.YtbngggoccndefaaGreatDoor
namespace Go.Proofs.YtbngggoccndefaaGreatDoor
open Go.Proofs.Tryz
open Go.RowKit
theorem Zis {m:List Bool} {n:Nat} (h:∀i,i+1<n->(m.drop (11+9*i)).take 2=Ea.gA):(List.range (n-1)).all (fun i=>(m.drop (11+9*i)).take 2==Ea.gA)=true:=by rw[Znd];intro i hi;rw[Znj];exact h i (by have:=ZnK.1 hi;omega)
theorem Zhk {m:List Bool} {n i:Nat} (hi:i+1<n) (h:(m.drop (11+9*i)).take 2≠Ea.gA):(List.range (n-1)).all (fun i=>(m.drop (11+9*i)).take 2==Ea.gA)=false:=by rw[ZoE];exact⟨i,ZnK.2 QhN,by simpa using h⟩
theorem Zb1 (n:Nat) (hn:n=2∨n=5) (v:Value) (m:List Bool) (w:World) (hv:SlK w v (m.map encT)) (hm:m.length=Ea.wAdd n):
 Calls prog 221 #[v] w fun e w'=>e=.returned (addV (Ea.rdAdd n m))∧Ext w w':=by
 have hm2:m.length=9*n+2:=by rw[hm];rcases hn with rfl|rfl<;>rfl
 obtain⟨res,hres⟩:∃res,Ea.rdAdd n m=res:=⟨_,rfl⟩
 rw[hres]
 have HX:=ZmE hres
 unfold Ea.rdAdd at HX
 obtain⟨p1,hp1,hq1⟩:=ZI hv 4 QhR
 rw[<-Zn5]at hq1
 have HE1:=ZmE (ZK (md:=Ea.sA) hq1 QhS QhP)
 have HMA:=ZmE (fun w=>Z1 ⟨#[49,48,49,49]⟩ Ea.sA rfl QhP w)
 have HMG:=ZmE (fun w=>Z1 ⟨#[48,49]⟩ Ea.gA rfl QhP w)
 have HRD:=ZmE (fun w' (h:Ext w w')=>Zat v m 4 n 2 0 0 1 true w' (hv.ext h) QhN QhN QhN ⟨rfl,rfl⟩ QhN QhN)
 have HV:=ZmE hv
 obtain⟨_,a,c,rfl,hc⟩:=hv
 rw[ZmI]at hp1 HRD HV⊢
 rw[show((4:Nat):Int)=4 from rfl]at hp1 HRD
 rw[show((2:Nat):Int)=2 from rfl,show((0:Nat):Int)=0 from rfl,show((1:Nat):Int)=1 from rfl]at HRD
 have hn5:((m.length:Int)==47)=true∧n=5∨((m.length:Int)==47)=false∧n=2:=by rcases hn with rfl|rfl;(·exact .inr ⟨by rw[hm2];rfl,rfl⟩);·exact .inl ⟨by rw[hm2];rfl,rfl⟩
 have HLN:=ZmE hm2
 have HW:Hid (Ext w w):=ZmE (Ext.refl w)
 have HNN:Hid (n=2∨n=5):=ZmE hn
 clear hq1 hres hc hm hm2 hn
 by_cases g1:m.take 4=Ea.sA
 ·rw[ZmF (fun h=>h g1)]at HX;rw[ZmR g1]at HE1;clear g1;rcases hn5 with⟨hb,rfl⟩|⟨hb,rfl⟩
  ·rw[show((5:Nat):Int)=5 from rfl]at HRD;go_enter func221,ntmps221;go_wp2_with fail;refine wp_region_rel 4 1 rfl [11,12,13,14] [[],[0],[],[1,2]] QhO QhO ?_;apply relPlan_eq';(·exact Qa);apply relPlan_eq';(·exact QaN);refine relPlan_by (fun v w=>Own 4 w 0 v (Ea.sA.map encT)) (fun _ _ _ h hx=>h.ext hx) ?_ ?_;(·exact QaX);refine relPlan_by (eqv (.bool true)) (eqv_stable _) ?_ ?_;(·exact Qae);intro V wT hxT hf;obtain⟨g11,g12,g13,g14,_⟩:=hf;simp only[fillA,ZmX,Zni,Act.put,ZmO,ZmV,ZmU];have q14:V 14=_:=g14;rw[q14];have HW2:=ZmE (HW.out.trans hxT);refine Za 4 QhO rfl (fun K hK=> ?_);go_simp;refine hK _ _ ?_;clear hK K;refine⟨rfl,?_⟩;clear HW;have HW:=HW2;clear HW2;go_wp2_with fail;go_loopw [5] (fun v5 wr=>∃k:Nat,1<=k∧k<=5∧v5=.int .i64 (k:Int)∧Hid (∀i,i+1<k->(m.drop (11+9*i)).take 2=Ea.gA)∧Hid (Ext w wr)) (fun v5 _=>5-(intOf v5).toNat);(case atStart=>exact QeV);case round=>
    clear HW;obtain⟨k,hk1,hk2,rfl,HG0,HW⟩:=hrel;by_cases hlt:k<5;(·obtain⟨x,hx⟩:∃x,9*k=x:=⟨_,rfl⟩;obtain⟨y,hy⟩:∃y,4+x=y:=⟨_,rfl⟩;obtain⟨z,hz⟩:∃z,y-2=z:=⟨_,rfl⟩;have e1:(9:Int)*(k:Int)=(x:Int):=QhN;have e2:(4:Int)+(x:Int)=(y:Int):=QhN;have e3:(y:Int)-2=(z:Int):=QhN;have w1:IntKind.i64.wrap (x:Int)=(x:Int):=ZnB _ QhN;have w2:IntKind.i64.wrap (y:Int)=(y:Int):=ZnB _ QhN;have w3:IntKind.i64.wrap (z:Int)=(z:Int):=ZnB _ QhN;have hz2:z=11+9*(k-1):=QhN;obtain⟨p2,hp2,hq2⟩:=Z7 HV.out z y QhN (by rw[ZmI];have:=HLN.out;omega);rw[<-Zn6,<-Zn5,show y-z=2 by omega,hz2]at hq2;have HE2:=ZmE (ZK (md:=Ea.gA) hq2 QhS QhP);have hkd:decide ((k:Int)<5)=true:=ZmR QhN;exact Qd)
    ·obtain rfl:k=5:=by omega
     have HX2:=ZmE HX.out
     rw[ZmF QjX]at HX2
     obtain⟨lo,hlo⟩:∃lo,Ea.rcg true 0 2 5 (m.drop 4)=lo:=⟨_,rfl⟩
     have HLF:=ZmE (fun l u (e:lo=some (l,u))=>ZY QhN (hlo.trans e))
     rw[hlo]at HX2 HRD
     obtain⟨L,U,hLU,hLe,hLs,hL1,hL0⟩:=ZO lo 5 QhN (fun l u e=>(HLF.out l u e).1)
     rw[hLU]at HRD
     clear hlo hLU hL0 HX HG0 hk1 hk2 hlt
     cases lo with
     |none=>exact Qb7
     |some q=>obtain⟨l,u⟩:=q;rw[show(some (l,u):Option (List UInt8×List Nat)).isNone=false from rfl]at hLe;obtain⟨hLl,hUl⟩:=hL1 l u rfl;obtain⟨f1,f2,f3,f4⟩:=HLF.out l u rfl;have hLz:L.size=5:=(by rw[Zc hLl,f1]);exact Q6
  ·rw[show((2:Nat):Int)=2 from rfl]at HRD;go_enter func221,ntmps221;go_wp2_with fail;refine wp_region_rel 4 1 rfl [11,12,13,14] [[],[0],[],[1,2]] QhO QhO ?_;apply relPlan_eq';(·exact Qa);apply relPlan_eq';(·exact QaN);refine relPlan_by (fun v w=>Own 4 w 0 v (Ea.sA.map encT)) (fun _ _ _ h hx=>h.ext hx) ?_ ?_;(·exact QaX);refine relPlan_by (eqv (.bool true)) (eqv_stable _) ?_ ?_;(·exact Qae);intro V wT hxT hf;obtain⟨g11,g12,g13,g14,_⟩:=hf;simp only[fillA,ZmX,Zni,Act.put,ZmO,ZmV,ZmU];have q14:V 14=_:=g14;rw[q14];have HW2:=ZmE (HW.out.trans hxT);refine Za 4 QhO rfl (fun K hK=> ?_);go_simp;refine hK _ _ ?_;clear hK K;refine⟨rfl,?_⟩;clear HW;have HW:=HW2;clear HW2;go_wp2_with fail;go_loopw [5] (fun v5 wr=>∃k:Nat,1<=k∧k<=2∧v5=.int .i64 (k:Int)∧Hid (∀i,i+1<k->(m.drop (11+9*i)).take 2=Ea.gA)∧Hid (Ext w wr)) (fun v5 _=>2-(intOf v5).toNat);(case atStart=>exact QeV);case round=>
    clear HW;obtain⟨k,hk1,hk2,rfl,HG0,HW⟩:=hrel;by_cases hlt:k<2;(·obtain⟨x,hx⟩:∃x,9*k=x:=⟨_,rfl⟩;obtain⟨y,hy⟩:∃y,4+x=y:=⟨_,rfl⟩;obtain⟨z,hz⟩:∃z,y-2=z:=⟨_,rfl⟩;have e1:(9:Int)*(k:Int)=(x:Int):=QhN;have e2:(4:Int)+(x:Int)=(y:Int):=QhN;have e3:(y:Int)-2=(z:Int):=QhN;have w1:IntKind.i64.wrap (x:Int)=(x:Int):=ZnB _ QhN;have w2:IntKind.i64.wrap (y:Int)=(y:Int):=ZnB _ QhN;have w3:IntKind.i64.wrap (z:Int)=(z:Int):=ZnB _ QhN;have hz2:z=11+9*(k-1):=QhN;obtain⟨p2,hp2,hq2⟩:=Z7 HV.out z y QhN (by rw[ZmI];have:=HLN.out;omega);rw[<-Zn6,<-Zn5,show y-z=2 by omega,hz2]at hq2;have HE2:=ZmE (ZK (md:=Ea.gA) hq2 QhS QhP);have hkd:decide ((k:Int)<2)=true:=ZmR QhN;exact Qd)
    ·obtain rfl:k=2:=by omega
     have HX2:=ZmE HX.out
     rw[ZmF QjX]at HX2
     obtain⟨lo,hlo⟩:∃lo,Ea.rcg true 0 2 2 (m.drop 4)=lo:=⟨_,rfl⟩
     have HLF:=ZmE (fun l u (e:lo=some (l,u))=>ZY QhN (hlo.trans e))
     rw[hlo]at HX2 HRD
     obtain⟨L,U,hLU,hLe,hLs,hL1,hL0⟩:=ZO lo 2 QhN (fun l u e=>(HLF.out l u e).1)
     rw[hLU]at HRD
     clear hlo hLU hL0 HX HG0 hk1 hk2 hlt
     cases lo with
     |none=>exact Qb7
     |some q=>obtain⟨l,u⟩:=q;rw[show(some (l,u):Option (List UInt8×List Nat)).isNone=false from rfl]at hLe;obtain⟨hLl,hUl⟩:=hL1 l u rfl;obtain⟨f1,f2,f3,f4⟩:=HLF.out l u rfl;have hLz:L.size=2:=(by rw[Zc hLl,f1]);exact Q6
 ·rw[ZmH g1]at HX;rw[ZmS g1]at HE1;clear g1;rcases hn5 with⟨hb,rfl⟩|⟨hb,rfl⟩;(·exact QS);·exact QS
end Go.Proofs.YtbngggoccndefaaGreatDoor
namespace Go.Proofs.YtbngggoccndefaaGreatDoor
open Go.Proofs.Tryz
open Go.RowKit
theorem ZcN (n:Nat) (hn:n=95∨n=67∨n=51) (v:Value) (m:List Bool) (w:World) (hv:SlK w v (m.map encT)) (hm:m.length=n):
 Calls prog 220 #[v] w fun e w'=>e=.returned (xsymV (Ea.rdSym n m))∧Ext w w':=by
 rcases hn with rfl|rfl|rfl
 ·exact Zhi v m w hv hm
 ·exact Zhh v m w hv hm
 ·exact Zhg v m w hv hm
def shapeV (f:Bool) (r:Ea.Got):Value:=if f=true then .tuple #[linV r.1.1 r.1.2.1 r.1.2.2,.int .i64 r.2,.bool true]else .tuple #[linV 0 [] [],.int .i64 0,.bool false]
theorem ZD {fn:Func} {p u z:Tmp} (h:fn.results= #[.cell p 33,.tmp u,.tmp z]) {tmps:Array Value} {w:World} {g:Nat} {t:TypeId} {x y q e f:Value}
 (hp:tmps.getD p undef=.pointer (some ⟨g,0,none⟩)) (hg:w.heap[g]? =some (.cells #[x,y,q] t (0,0))) (he:tmps.getD u undef=e) (hf:tmps.getD z undef=f):
 (results fn tmps).run prog w=.ok (.tuple #[.agg #[x,y,q],e,f]) w:=by
 have h1:(results fn tmps).run prog w=((asAddr (tmps.getD p undef)).run prog w).andThen fun a w₁=>((loadVar 33 a).run prog w₁).andThen fun v w₂=>.ok (.tuple #[v,tmps.getD u undef,tmps.getD z undef]) w₂:=by simp only[results,h];simp[Zq6,Result.andThen]
 rw[h1,hp,he,hf]
 simp only[asAddr,Zqf,Zp6]
 rw[Zql w g t _ #[x,y,q] (0,0) _ hg underlying33 rfl QhO]
 rfl
theorem ZgJ {n:Nat} {s:List Bool} {k:Int} {t:List UInt8} {er:Int} (hr:Ea.rdSym n s=((k,t),er)) (h:er≠0):k=0∧t=[]:=by have:=Zbl n s QjD;exact Qdr
theorem ZfS (n:Nat) (hn:n=95∨n=67∨n=51) (v:Value) (m:List Bool) (w:World) (hv:SlK w v (m.map encT)) (hm:m.length<=65536):
 Calls prog 144 #[v,.int .i64 (n:Int),.int .i64 0] w fun e w'=>e=.returned (shapeV (Ea.fits m n 0) (Ea.rdShape m n 0))∧Ext w w':=by
 have hn95:n<=95:=by omega
 have HF:Ea.fits m n 0=(m.length==n):=by unfold Ea.fits;rw[ZmH rfl]
 obtain⟨G1,hG1⟩:∃G:Int,(m.length:Int)-(n:Int)=G:=⟨_,rfl⟩
 have hG2:G1-0=G1:=Int.sub_zero _
 by_cases hfit:m.length=n
 ·have hg0:(G1 !=0)=false:=Qjg;obtain⟨p1,hp1,hq1⟩:=ZI hv n QhR;rw[<-Zn5]at hq1;have HS:=ZmE (fun w' (h:Ext w w')=>ZcN n hn p1 (m.take n) w' (hq1.ext h) QhS);rw[HF,show(m.length==n)=true from Znj.2 hfit];unfold shapeV Ea.rdShape;rw[ZmH rfl];obtain⟨⟨⟨k,t⟩,er⟩,hr⟩:∃r,Ea.rdSym n (m.take n)=r:=⟨_,rfl⟩;have HZ:=ZmE (fun h=>ZgJ hr h);rw[hr]at HS⊢;unfold xsymV at HS;dsimp only at HS⊢;rw[ZmH rfl];obtain⟨T,hT⟩:∃T,Ea.bS t=T:=⟨_,rfl⟩;have HT:=ZmE hT;rw[hT]at HS;obtain⟨_,a,c,rfl,hc⟩:=hv;rw[ZmI]at hp1⊢;clear hr hT hc hq1 hn HF hfit;by_cases h0:er=0;(·subst h0;rw[ZmF (fun h=>h rfl)];go_enter func144,ntmps144;go_wp2_with fail;refine(HS.out _ Xf).mono ?_;rintro e w1 ⟨rfl,hx⟩;obtain⟨z0,z1,z2,z3,z4,z5,z6,HB⟩:=Zf (Zo rfl hx);have hxw:=hx.before;clear hx;go_wp2;refine Zng (ZD results144 rfl (Zg HB) rfl rfl) rfl ?_;exact⟨by unfold linV;dsimp only;rw[HT.out];rfl,((hxw.setCell (ZmK _) _).setCell (ZmK _) _).setCell (ZmK _) _⟩);·rw[ZmH h0];have hb:(er !=0)=true:=ZnA.2 h0;clear h0 HZ;go_enter func144,ntmps144;go_wp2_with fail;refine(HS.out _ Xf).mono ?_;rintro e w1 ⟨rfl,hx⟩;exact Qg4
 ·have hg0:(G1 !=0)=true:=Qi4;rw[HF,show(m.length==n)=false from ZmJ.2 hfit];unfold shapeV;rw[ZmF Bool.noConfusion];obtain⟨_,a,c,rfl,hc⟩:=hv;rw[ZmI];clear hc hn HF hfit;exact QgF
theorem ZfT (l:List Bool):l.all (fun b=> !b)= !l.any id:=by
 induction l with
 |nil=>rfl
 |cons b l ih=>rw[Zq1,List.any_cons,ih];cases b<;>rfl
theorem Zhf (n:Nat) (hn:n=95∨n=67∨n=51) (v:Value) (m:List Bool) (w:World) (hv:SlK w v (m.map encT)) (hm:m.length<=65536):
 Calls prog 144 #[v,.int .i64 (n:Int),.int .i64 20] w fun e w'=>e=.returned (shapeV (Ea.fits m n 2) (Ea.rdShape m n 2))∧Ext w w':=by
 have hn95:n<=95:=by omega
 have HF:Ea.fits m n 2=(decide (n+20+7<=m.length)&&decide (m.length<=n+20+12)&& !((m.drop n).take (m.length-n-20)).any id):=by unfold Ea.fits;rw[ZmF QhP,ZfT];rfl
 obtain⟨G1,hG1⟩:∃G:Int,(m.length:Int)-(n:Int)=G:=⟨_,rfl⟩
 by_cases h7:m.length<n+20+7
 ·obtain⟨G,hG⟩:∃G:Int,G1-20=G:=⟨_,rfl⟩;have hb7:decide (G<7)=true:=ZmR QhN;rw[HF,show decide (n+20+7<=m.length)=false from ZmS QhN,ZoD,ZoD];exact QhI
 by_cases h12:n+20+12<m.length
 ·obtain⟨G,hG⟩:∃G:Int,G1-20=G:=⟨_,rfl⟩;have hb7:decide (G<7)=false:=ZmS QhN;have hb12:decide (12<G)=true:=ZmR QhN;rw[HF,show decide (m.length<=n+20+12)=false from ZmS QhN,Bool.and_false,ZoD];exact QgE
 obtain⟨g,hg⟩:∃g,m.length-n-20=g:=⟨_,rfl⟩
 have hgi:G1-20=(g:Int):=by omega
 obtain⟨e,he⟩:∃e,n+g=e:=⟨_,rfl⟩
 have hei:(n:Int)+(g:Int)=(e:Int):=by omega
 obtain⟨p3,hp3,hq3⟩:=Z7 hv n e QhN QhR
 rw[<-Zn6,<-Zn5,show e-n=g by omega]at hq3
 have HD:=ZmE (fun w' (h:Ext w w')=>Zeb p3 ((m.drop n).take g) w' (hq3.ext h) QjY)
 have hb7:decide ((g:Int)<7)=false:=ZmS QhN
 have hb12:decide (12<(g:Int))=false:=ZmS QhN
 rw[HF,show decide (n+20+7<=m.length)=true from ZmR QhN,show decide (m.length<=n+20+12)=true from ZmR QhN,hg,Zpz,Zpz]
 have hg12:g<=12:=by omega
 have hem:e<=m.length:=by omega
 cases hdk:((m.drop n).take g).any id with
 |true=>exact Qgj
 |false=>rw[hdk]at HD;obtain⟨p1,hp1,hq1⟩:=ZI hv n QhR;rw[<-Zn5]at hq1;have HS:=ZmE (fun w' (h:Ext w w')=>ZcN n hn p1 (m.take n) w' (hq1.ext h) QhS);obtain⟨p2,hp2,hq2⟩:=Zae hv e QhR;rw[<-Zn6]at hq2;have HA:=ZmE (fun w' (h:Ext w w')=>Zb1 2 QhP p2 (m.drop e) w' (hq2.ext h) (by rw[Znr];show _=20;omega));unfold shapeV Ea.rdShape;rw[ZmH (show(!false)=true from rfl)];have e2:m.length-Ea.wAdd 2=e:=(by show m.length-20=e;omega);rw[e2];obtain⟨⟨⟨k,t⟩,er⟩,hr⟩:∃r,Ea.rdSym n (m.take n)=r:=⟨_,rfl⟩;rw[hr]at HS⊢;unfold xsymV at HS;obtain⟨⟨al,ae⟩,hra⟩:∃r,Ea.rdAdd 2 (m.drop e)=r:=⟨_,rfl⟩;rw[hra]at HA⊢;unfold addV at HA;dsimp only at HS HA⊢;rw[ZmF (show¬2=0 by decide)];exact QK
theorem ZfR (n:Nat) (hn:n=95∨n=67∨n=51) (v:Value) (m:List Bool) (w:World) (hv:SlK w v (m.map encT)) (hm:m.length<=65536):
 Calls prog 144 #[v,.int .i64 (n:Int),.int .i64 47] w fun e w'=>e=.returned (shapeV (Ea.fits m n 5) (Ea.rdShape m n 5))∧Ext w w':=by
 have hn95:n<=95:=by omega
 have HF:Ea.fits m n 5=(decide (n+47+7<=m.length)&&decide (m.length<=n+47+12)&& !((m.drop n).take (m.length-n-47)).any id):=by unfold Ea.fits;rw[ZmF QhP,ZfT];rfl
 obtain⟨G1,hG1⟩:∃G:Int,(m.length:Int)-(n:Int)=G:=⟨_,rfl⟩
 by_cases h7:m.length<n+47+7
 ·obtain⟨G,hG⟩:∃G:Int,G1-47=G:=⟨_,rfl⟩;have hb7:decide (G<7)=true:=ZmR QhN;rw[HF,show decide (n+47+7<=m.length)=false from ZmS QhN,ZoD,ZoD];exact QhI
 by_cases h12:n+47+12<m.length
 ·obtain⟨G,hG⟩:∃G:Int,G1-47=G:=⟨_,rfl⟩;have hb7:decide (G<7)=false:=ZmS QhN;have hb12:decide (12<G)=true:=ZmR QhN;rw[HF,show decide (m.length<=n+47+12)=false from ZmS QhN,Bool.and_false,ZoD];exact QgE
 obtain⟨g,hg⟩:∃g,m.length-n-47=g:=⟨_,rfl⟩
 have hgi:G1-47=(g:Int):=by omega
 obtain⟨e,he⟩:∃e,n+g=e:=⟨_,rfl⟩
 have hei:(n:Int)+(g:Int)=(e:Int):=by omega
 obtain⟨p3,hp3,hq3⟩:=Z7 hv n e QhN QhR
 rw[<-Zn6,<-Zn5,show e-n=g by omega]at hq3
 have HD:=ZmE (fun w' (h:Ext w w')=>Zeb p3 ((m.drop n).take g) w' (hq3.ext h) QjY)
 have hb7:decide ((g:Int)<7)=false:=ZmS QhN
 have hb12:decide (12<(g:Int))=false:=ZmS QhN
 rw[HF,show decide (n+47+7<=m.length)=true from ZmR QhN,show decide (m.length<=n+47+12)=true from ZmR QhN,hg,Zpz,Zpz]
 have hg12:g<=12:=by omega
 have hem:e<=m.length:=by omega
 cases hdk:((m.drop n).take g).any id with
 |true=>exact Qgj
 |false=>rw[hdk]at HD;obtain⟨p1,hp1,hq1⟩:=ZI hv n QhR;rw[<-Zn5]at hq1;have HS:=ZmE (fun w' (h:Ext w w')=>ZcN n hn p1 (m.take n) w' (hq1.ext h) QhS);obtain⟨p2,hp2,hq2⟩:=Zae hv e QhR;rw[<-Zn6]at hq2;have HA:=ZmE (fun w' (h:Ext w w')=>Zb1 5 QhP p2 (m.drop e) w' (hq2.ext h) (by rw[Znr];show _=47;omega));unfold shapeV Ea.rdShape;rw[ZmH (show(!false)=true from rfl)];have e2:m.length-Ea.wAdd 5=e:=(by show m.length-47=e;omega);rw[e2];obtain⟨⟨⟨k,t⟩,er⟩,hr⟩:∃r,Ea.rdSym n (m.take n)=r:=⟨_,rfl⟩;rw[hr]at HS⊢;unfold xsymV at HS;obtain⟨⟨al,ae⟩,hra⟩:∃r,Ea.rdAdd 5 (m.drop e)=r:=⟨_,rfl⟩;rw[hra]at HA⊢;unfold addV at HA;dsimp only at HS HA⊢;rw[ZmF (show¬5=0 by decide)];exact QK
theorem Zhe (n a:Nat) (hn:n=95∨n=67∨n=51) (ha:a=0∨a=2∨a=5) (v:Value) (m:List Bool) (w:World) (hv:SlK w v (m.map encT)) (hm:m.length<=65536):
 Calls prog 144 #[v,.int .i64 (n:Int),.int .i64 (Ea.wAdd a:Int)] w fun e w'=>e=.returned (shapeV (Ea.fits m n a) (Ea.rdShape m n a))∧Ext w w':=by
 rcases ha with rfl|rfl|rfl
 ·exact ZfS n hn v m w hv hm
 ·exact Zhf n hn v m w hv hm
 ·exact ZfR n hn v m w hv hm
end Go.Proofs.YtbngggoccndefaaGreatDoor
namespace Go.Proofs.YtbngggoccndefaaGreatDoor
open Go.Proofs.Tryz
open Go.RowKit
theorem ZgC {l:List Bool} (h:Ea.ldg l≠l.length):Ea.ldg l+Ea.trl l<l.length:=Qby
def mrL:List Nat:=[0,20,47]
theorem Zml {i:Nat} (h:i<3):mrL.getD i 0=Ea.wAdd (dsL.getD i 0):=by
 have h':i=0∨i=1∨i=2:=by omega
 rcases h' with rfl|rfl|rfl<;>rfl
theorem Zfh (v:Value) (m:List Bool) (w:World) (hv:SlK w v (m.map encT)) (hm:m.length<=9223372036854775807) (hl:65536<m.length):
 Calls prog 82 #[v] w fun e w'=>e=.returned (gotV (Ea.dec m))∧Ext w w':=by
 have HX:Hid (Ea.dec m=((0,[],[]),4)):=ZmE (by unfold Ea.dec;rw[ZmH hl])
 obtain⟨_,a,c,rfl,_⟩:=hv
 rw[ZmI]
 rw[HX.out]
 go_enter func82,ntmps82
 go_wp2
 refine Zng (Ze results82 rfl (Znx _ _) rfl) rfl ?_
 exact⟨rfl,Xf⟩
theorem ZfN (v:Value) (m:List Bool) (w:World) (hv:SlK w v (m.map encT)) (hm6:m.length<=65536):
 Calls prog 82 #[v] w fun e w'=>e=.returned (gotV (Ea.dec m))∧Ext w w':=by
 obtain⟨res,hres⟩:∃res,Ea.dec m=res:=⟨_,rfl⟩
 rw[hres]
 have HX:=ZmE hres
 unfold Ea.dec at HX
 rw[ZmF QhN]at HX
 have HM:=ZmE (fun w' (h:Ext w w')=>Ziq v m w' (hv.ext h) QhN)
 have HV:=ZmE hv
 obtain⟨a,c,rfl,hc⟩:=hv.2
 rw[ZmI]at HM HV⊢
 clear hres hv hc
 have hlt1:Ea.ldg m≠m.length->Ea.ldg m+Ea.trl m<m.length:=ZgC
 have hle1:=Ea.ldg_le m
 obtain⟨L,hL⟩:∃L,Ea.ldg m=L:=⟨_,rfl⟩
 obtain⟨R,hR⟩:∃R,Ea.trl m=R:=⟨_,rfl⟩
 rw[hL,hR]at HX HM hlt1
 rw[hL]at hle1
 obtain⟨t,ht⟩:∃t,L+(m.length-R-L)=t:=⟨_,rfl⟩
 rw[ht]at HM
 by_cases h2:L=m.length
 ·rw[ZmH h2]at HX;have b2:((L:Int)==(t:Int))=true:=Znj.2 QhN;clear hL hR h2 ht hlt1 hle1;go_enter func82,ntmps82;go_wp2_with fail;refine(HM.out _ Xf).mono ?_;rintro e w1 ⟨rfl,rfl⟩;go_wp2;refine Zng (Ze results82 rfl (Znx _ _) rfl) rfl ?_;exact⟨by rw[<-HX.out];rfl,Xf⟩
 ·rw[ZmF h2]at HX;have hlt:=hlt1 h2;have b2:((L:Int)==(t:Int))=false:=ZmJ.2 QhN;have hti:(m.length:Int)-(t:Int)=(R:Int):=QhN;by_cases h3:L<7∨R<7;(·rw[ZmH h3]at HX;have b3:(decide ((L:Int)<7)=true)∨(decide ((L:Int)<7)=false∧decide ((R:Int)<7)=true):=QdP;clear hL hR h2 h3 ht hlt1;rcases b3 with b3|⟨b3,b4⟩;all_goals go_enter func82,ntmps82;go_wp2_with fail;refine(HM.out _ Xf).mono ?_;rintro e w1 ⟨rfl,rfl⟩;go_wp2;refine Zng (Ze results82 rfl (Znx _ _) rfl) rfl ?_;exact⟨by rw[<-HX.out];rfl,Xf⟩);·rw[ZmF h3]at HX;have b3:decide ((L:Int)<7)=false:=ZmS QhN;have b4:decide ((R:Int)<7)=false:=ZmS QhN;obtain⟨S,hS⟩:∃S,(m.drop L).take (m.length-R-L)=S:=⟨_,rfl⟩;rw[hS]at HX;have hSl:S.length<=65536:=QjG;obtain⟨v',hv1,hv2⟩:=Z7 HV.out L t QhN QhR;rw[<-Zn6,<-Zn5,show t-L=m.length-R-L by omega,hS]at hv2;have HS2:=ZmE hv2;have HSL:=ZmE hSl;have htm:t<=m.length:=QhN;clear hL hR h2 h3 hS hv2 hSl ht hlt1 hlt hle1;go_enter func82,ntmps82;go_wp2_with fail;refine(HM.out _ Xf).mono ?_;rintro e w1 ⟨rfl,rfl⟩;obtain⟨w1,hw1⟩:∃w1,w.alloc (.cells #[.int .i64 0,.string ⟨#[]⟩,.string ⟨#[]⟩] 33)=w1:=⟨_,rfl⟩;rw[hw1];have HB0:=ZmE (Zo rfl (by rw[hw1];exact Ext.refl w1):w1.heap[w.heap.size]? =some (.cells #[.int .i64 0,.string ⟨#[]⟩,.string ⟨#[]⟩] 33 (0,0)));have hxw:Ext w w1:=(by rw[<-hw1];exact(Ext.refl w).alloc _);clear HM hw1;go_wp2_with fail;clear b2 b3 b4 hti;have HC3:=ZmE (fun(w':World) (x:Ext (w1.alloc (.cells #[.int .i64 95,.int .i64 67,.int .i64 51] 3)) w') (i:Nat) (hi:i<3)=>Zey (f:=fun i=>((wsL.getD i 0:Nat):Int)) rfl rfl rfl x hi);go_loopw [6,39] (fun v6 v39 wr=>∃(i:Nat) (fe:Int),i<=3∧v39=.int .i64 (i:Int)∧v6=.int .i64 fe∧Hid (res=Ea.decF S fe (leftS i 0))∧Ext (w1.alloc (.cells #[.int .i64 95,.int .i64 67,.int .i64 51] 3)) wr) (fun _ v39 _=>3-(intOf v39).toNat);(case atStart=>exact QfN);case round=>obtain⟨i,fe,hi,rfl,rfl,HR,hxr⟩:=hrel;by_cases hlt:i<3;(·have hcell:=HC3.out wr hxr i hlt;obtain⟨wo,rfl⟩:∃wo:World,wo=wr:=⟨_,rfl⟩;have HW3:=ZmE (ZjY hlt);have HLA:=ZmE (fun j (hj:j<3)=>ZeI i j hlt hj);obtain⟨n,hn⟩:∃n,wsL.getD i 0=n:=⟨_,rfl⟩;rw[hn]at HW3 HLA hcell;have hi3:decide ((i:Int)<3)=true:=ZmR QhN;clear hn;go_wp2_with fail;have HD3:=ZmE (fun(w':World) (x:Ext (wo.alloc (.cells #[.int .i64 0,.int .i64 20,.int .i64 47] 3)) w') (i:Nat) (hi:i<3)=>Zey (f:=fun i=>((mrL.getD i 0:Nat):Int)) rfl rfl rfl x hi);go_loopw [6,45] (fun v6 v45 wq=>∃(j:Nat) (fe:Int),j<=3∧v45=.int .i64 (j:Int)∧v6=.int .i64 fe∧Hid (res=Ea.decF S fe (leftS i j))∧Ext (wo.alloc (.cells #[.int .i64 0,.int .i64 20,.int .i64 47] 3)) wq) (fun _ v45 _=>3-(intOf v45).toNat);(case atStart=>exact⟨0,fe,by omega,rfl,rfl,HR,Ext.refl _⟩);case round=>clear HR;obtain⟨j,fe,hj,rfl,rfl,HR,hxq⟩:=hrel;by_cases hjt:j<3;(·have hcel2:=HD3.out wr hxq j hjt;rw[Zml hjt]at hcel2;have HA3:=ZmE (ZjT hjt);have HLJ:=ZmE (HLA.out j hjt);obtain⟨a2,ha2⟩:∃a2,dsL.getD j 0=a2:=⟨_,rfl⟩;rw[ha2]at HA3 HLJ hcel2;have HST:Hid (res=if Ea.fits S n a2=false then Ea.decF S fe (leftS i (j+1))else if(Ea.rdShape S n a2).2=0 then Ea.rdShape S n a2 else Ea.decF S (if fe=7 then(Ea.rdShape S n a2).2 else fe) (leftS i (j+1))):=ZmE (by rw[HR.out,HLJ.out];rfl);have hxo:=hxw.trans ((Ext.before hxr).trans (Ext.before hxq));have HSH:=ZmE (fun w' (h:Ext w w')=>Zhe n a2 HW3.out HA3.out v' S w' (HS2.out.ext h) HSL.out);obtain⟨q2,hq2⟩:∃q,Ea.wAdd a2=q:=⟨_,rfl⟩;rw[hq2]at HSH hcel2;clear ha2 hq2;have HXQ:=ZmE hxq;have HXO:=ZmE hxo;cases hf:Ea.fits S n a2;(·rw[hf,show shapeV false (Ea.rdShape S n a2)=.tuple #[.agg #[.int .i64 0,.string ⟨#[]⟩,.string ⟨#[]⟩],.int .i64 0,.bool false]from rfl]at HSH;have HST2:Hid (res=Ea.decF S fe (leftS i (j+1))):=ZmE (by rw[HST.out,ZmH hf]);clear hf HST HR HLJ hxq hxo;go_wp2_with fail;refine(HSH.out _ HXO.out).mono ?_;rintro e w4 ⟨rfl,hx4⟩;have HXX:=ZmE ((HXQ.out.trans hx4).alloc (.cells #[.int .i64 0,.string ⟨#[]⟩,.string ⟨#[]⟩] 33));clear hx4;exact Qcx);·rw[hf]at HSH;have HST2:=ZmE (HST.out);rw[ZmF (by rw[hf];exact Bool.noConfusion)]at HST2;obtain⟨⟨⟨k,t,al⟩,er⟩,hr⟩:∃r,Ea.rdShape S n a2=r:=⟨_,rfl⟩;rw[hr]at HSH HST2;rw[show shapeV true ((k,t,al),er)=.tuple #[.agg #[.int .i64 k,.string (Ea.bS t),.string (Ea.bS al)],.int .i64 er,.bool true]from rfl]at HSH;dsimp only at HST2;obtain⟨TB,hTB⟩:∃TB,Ea.bS t=TB:=⟨_,rfl⟩;obtain⟨AB,hAB⟩:∃AB,Ea.bS al=AB:=⟨_,rfl⟩;have HTA:=ZmE (And.intro hTB hAB);rw[hTB,hAB]at HSH;clear hf HST HR HLJ hxq hr hTB hAB;by_cases h0:er=0;(·have HG:Hid (res=((k,t,al),0)):=ZmE (by rw[HST2.out,ZmH h0,h0]);subst h0;clear HST2;go_wp2_with fail;refine(HSH.out _ HXO.out).mono ?_;rintro e w4 ⟨rfl,hx4⟩;have HB1:=ZmE (Zd HB0.out ((Ext.before hxr).trans ((Ext.before HXQ.out).trans hx4)));obtain⟨z0,z1,z2,z3,z4,z5,z6,HB⟩:=Zf HB1.out;have HXX:=ZmE (HXO.out.trans hx4);clear HB0 HB1 hx4 hxr hxo;go_wp2;refine Zng (Ze results82 rfl (Zd (Zg HB) ((Ext.refl _).alloc _)) rfl) rfl ?_;exact Qc0);·rw[ZmF h0]at HST2;have hb0:(er==0)=false:=ZmJ.2 h0;by_cases h7:fe=7;(·rw[ZmH h7]at HST2;have hb7:(fe==7)=true:=Znj.2 h7;clear h0 h7 hxo;go_wp2_with fail;refine(HSH.out _ HXO.out).mono ?_;rintro e w4 ⟨rfl,hx4⟩;have HXX:=ZmE ((HXQ.out.trans hx4).alloc (.cells #[.int .i64 k,.string TB,.string AB] 33));clear hx4;exact QdZ);·rw[ZmF h7]at HST2;have hb7:(fe==7)=false:=ZmJ.2 h7;clear h0 h7 hxo;go_wp2_with fail;refine(HSH.out _ HXO.out).mono ?_;rintro e w4 ⟨rfl,hx4⟩;have HXX:=ZmE ((HXQ.out.trans hx4).alloc (.cells #[.int .i64 k,.string TB,.string AB] 33));clear hx4;exact Qcx);·exact QbV);·obtain rfl:i=3:=QhN;have HG:Hid (res=((0,[],[]),fe)):=ZmE (by rw[HR.out];rfl);have hxx:=hxw.trans (Ext.before hxr);have HB1:=ZmE (Zd HB0.out (Ext.before hxr));obtain⟨z0,z1,z2,z3,z4,z5,z6,HB⟩:=Zf HB1.out;clear hi hlt HB0 HB1;go_wp2;refine Zng (Ze results82 rfl (Zg HB) rfl) rfl ?_;exact Qd6
theorem ZfM (v:Value) (m:List Bool) (w:World) (hv:SlK w v (m.map encT)) (hm:m.length<=9223372036854775807):
 Calls prog 82 #[v] w fun e w'=>e=.returned (gotV (Ea.dec m))∧Ext w w':=by
 by_cases hl:65536<m.length
 ·exact Zfh v m w hv hm hl
 ·exact ZfN v m w hv QhN
end Go.Proofs.YtbngggoccndefaaGreatDoor
end
