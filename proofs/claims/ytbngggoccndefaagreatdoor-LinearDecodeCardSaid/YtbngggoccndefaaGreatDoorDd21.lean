/-
  Laid together.
-/
import Derived.Test.YtbngggoccndefaaGreatDoorDd20
set_option maxHeartbeats 16000000
set_option maxRecDepth 100000
set_option linter.unusedVariables false
set_option linter.unusedSimpArgs false
set_option linter.ambiguousOpen false
namespace Go.Proofs.YtbngggoccndefaaGreatDoor
open Go.Proofs.Tryz
section
open Go.RowKit Go.WideMaps Go.Maps
theorem Zjh {c:List Int} {x:Gs.El} {k:Nat} (hc:c.all Gs.okCh=true) (h:Gs.next c=(x,k,0)):0<k∧k<=c.length:=⟨(ZcF hc h).2.1,(ZcF hc h).2.2.1⟩
theorem ZcG (c:Int):Gs.okCh c=true↔(c=256∨(0<=c∧c<=127)):=by unfold Gs.okCh;simp
theorem ZiM (v:Value) (cs:List Int) (w:World) (hv:SlK w v (cs.map encI)) (hn:cs.length<=9223372036854775807) (ht:Spaces w):
 Calls prog 80 #[v] w (ElsR (Gs.frChars cs) w):=by
 have HV:=ZmE hv
 obtain⟨hsl,av,cv,rfl,hcv⟩:=hv
 rw[ZmI]at hcv hsl HV⊢
 have HI:=ZmE (Zbh w ht)
 have HR:=ZmE (Gs.frChars.eq_1 cs)
 generalize Gs.frChars cs=res at*
 obtain⟨N,hN⟩:∃N,cs.length=N:=⟨_,rfl⟩
 have HN:=ZmE hN
 have HSL:=ZmE hsl
 rw[hN]at hn hcv HR HV HSL⊢
 clear ht hsl hN
 by_cases h1:4096<N
 ·rw[ZmH h1]at HR;go_enter func80,ntmps80;go_wp2;go_ret2;rw[HR.out];exact ElsR.err _ (Ext.refl _)
 rw[ZmF h1]at HR
 have hn1:N<=4096:=by omega
 clear h1 hn
 obtain⟨res1,res2⟩:=res
 go_enter func80,ntmps80
 go_wp2
 go_loop [17] (fun t=>∃k:Nat,k<=N∧t=.int .i64 (k:Int)∧Hid ((cs.take k).all Gs.okCh=true)) (fun t=>N-(intOf t).toNat)
 case atStart=>exact QaF
 case round=>
  obtain⟨k,hk,rfl,hall⟩:=hrel;by_cases hlt:k<N;(·obtain⟨c,hck⟩:∃c,cs[k]? =some c:=⟨_,ZmG Qif⟩;obtain⟨bb,off,ha,hb,hcell⟩:=HSL.out.at_ (k:=k) Qh5;subst ha;have e1:(cs.map encI)[k]' Qh5=.int .i64 c:=Qdm;rw[e1]at hcell;have HTK:Hid (cs.take (k+1)=cs.take k++[c]):=ZmE (ZaN hck);by_cases hc:Gs.okCh c=true;(·exact Qa2);·have HF:Hid ((res1,res2)=([],6)):=ZmE (by rw[HR.out,ZmH];rw[ZoE];exact⟨c,ZmT hck,hc⟩);rw[ZcG]at hc;have h256:(c !=256)=true:=Qcm;have hr:=HF.out;simp only[Zn4]at hr;obtain⟨rfl,rfl⟩:=hr;clear hck e1 hall HTK HF HR;exact QcK)
  ·obtain rfl:k=N:=QhN;have HA:Hid (cs.all Gs.okCh=true):=ZmE Qkf;rw[ZmF (by rw[HA.out];exact Bool.noConfusion)]at HR;clear hk hlt hall;by_cases h0:k=0;(·subst h0;have hnil:cs=[]:=Znq HN.out;rw[hnil,ZmH QhQ]at HR;have hr:=HR.out;exact Qhs)
   ·obtain⟨c,cr,hcs⟩:∃c cr,cs=c::cr:=by
     cases cs with
     |nil=>exact absurd HN.out.symm h0
     |cons c cr=>exact⟨c,cr,rfl⟩
    obtain⟨bb,off,ha,hb,hcell⟩:=HSL.out.at_ (k:=0) Qh4;subst ha;have e1:(cs.map encI)[0]' Qh4=.int .i64 c:=(by rw[ZnO];simp[hcs,encI]);rw[e1,Zoc]at hcell;have hk0:((k:Int)==0)=false:=Qai;have hk1:0<k:=QhN;have e2:cs.headD 0=c:=(by rw[hcs];rfl);have e3:cs.drop 1=cr:=(by rw[hcs];rfl);rw[e2,e3]at HR;have HCR:Hid (cr.all Gs.okCh=true∧cr.length+1=k):=ZmE ⟨by have:=HA.out;rw[hcs,Zq1,Zno]at this;exact this.2,by have:=HN.out;rw[hcs]at this;exact this⟩;by_cases h256:c=256;(·subst h256;rw[ZmF QhQ]at HR;have hv1:=Zdm QiE 1 Qh4;obtain⟨v1,hs1,hsl1⟩:=hv1;rw[<-Zn6,e3]at hsl1;clear e1 e2 e3 hcs HA;have hsl1':=hsl1;obtain⟨_,a1,c1,rfl,_⟩:=hsl1';rw[ZmI]at hs1 hsl1;rw[HN.out]at hs1;obtain⟨M,hM⟩:∃M,cr.length=M:=⟨_,rfl⟩;rw[hM]at hs1 hsl1 HCR;have HS1:Hid (∀w',(Instr.slice 43 (.slice (some ⟨bb,off,none⟩) k cv) (some (.int .i64 1)) none none).run prog w'=.ok (.slice a1 M c1) w'):=ZmE hs1;have hs2:=HS1.out;clear hs1;by_cases hM0:M=0;(·have hkk:k=1:=QjM;rw[ZmH hkk]at HR;have hr:=HR.out;simp only[Zn4]at hr;obtain⟨rfl,rfl⟩:=hr;subst hM0;clear hkk hcv hn1;exact QbI);·have hkk:¬k=1:=QjM;rw[ZmF hkk]at HR;have hM1:((M:Int)==0)=false:=Qai;have hM2:M<=4096:=QjM;have HSL1:=ZmE hsl1;have HMM:=ZmE hM;clear hkk hsl1 hM hcv;go_wp2_with fail;refine HI.out.mono ?_;rintro e W ⟨b,rfl,hd,hbb,hxW⟩;have HNX:=ZmE (fun(w':World) (hx:Ext W w') (v:Value) (l:List Int) (h1:SlK w' v (l.map encI)) (h2:l.length<=4096) (h3:l.all Gs.okCh=true) (h4:l≠ [])=>Zjg v l b w' (Dir.ext hd hx) h1 h2 h3 h4);have HSL2:=ZmE (HSL1.out.ext hxW);clear hd hs2 HI hbb hcell;go_wp2;go_loopw [6,8] (fun r v wr=>∃(l:List Int) (acc:List Gs.El) (n:Nat),SlK W r (l.map encI)∧l.length+acc.length<=4096∧EOwn wr W.heap.size v acc∧Hid (l.all Gs.okCh=true∧l.length<=n∧(res1,res2)=Gs.fromF n l acc)∧Ext W wr) (fun r _ _=>match r with| .slice _ n _=>n|_=>0);(case atStart=>exact⟨cr,[],k,HSL2.out,by have:=HMM.out;simp;omega,EOwn.nil _ _,ZmE ⟨HCR.out.1,by have:=HCR.out.2;have:=HMM.out;omega,HR.out⟩,Ext.refl W⟩);case round=>obtain⟨l,acc,n,hsl,hsz,hown,hpf,hx⟩:=hrel;have HK:=ZmE hsl;have HK2:=ZmE (hsl.ext hx);obtain⟨_,ar,cc,rfl,hcap⟩:=hsl;obtain⟨ao,co,rfl⟩:=hown.sl.form;rw[ZmI]at hcap HK HK2⊢;clear HR HSL1 HSL2 HMM;by_cases h00:l=[];(·subst h00;have HF:Hid ((res1,res2)=(acc,0)):=ZmE (by rw[hpf.out.2.2,ZdK]);have hr:=HF.out;simp only[Zn4]at hr;obtain⟨rfl,rfl⟩:=hr;clear hpf HF;go_wp2;go_ret2;exact⟨_,rfl,hown.sl,hxW.trans hx⟩);·have hL0:0<l.length:=Zob.2 h00;obtain⟨p1,p2,p3⟩:=hpf.out;have H1:=ZmE (HNX.out wr hx _ l HK2.out QhN p1 h00);obtain⟨n',rfl⟩:∃n',n=n'+1:=⟨n-1,by omega⟩;rw[Gs.fromF,ZmF h00]at p3;have HP3:=ZmE p3;have HP1:=ZmE p1;have HPN:=ZmE p2;have HNP:=ZmE (fun x k h=>Zjh (c:=l) (x:=x) (k:=k) p1 h);clear p1 p2 p3 hpf;have HNE:=ZmE (Eq.refl (Gs.next l));obtain⟨nx,hnx⟩:∃nx,Gs.next l=nx:=⟨_,rfl⟩;rw[hnx]at H1 HP3 HNP;clear HNE;obtain⟨⟨xa,xd⟩,q,z⟩:=nx;dsimp only at HP3;by_cases hz:z=0;(·subst hz;rw[ZmF QhQ]at HP3;obtain⟨q0,q1⟩:=HNP.out _ _ rfl;obtain⟨v2,hs2,hsl2⟩:=Zdm HK.out q (by rw[ZmI];exact q1);rw[<-Zn6]at hsl2;have HSL2:=ZmE hsl2;obtain⟨_,a2,c2,rfl,_⟩:=hsl2;rw[ZmI]at hs2 HSL2;have HLD:Hid ((l.drop q).length=l.length-q):=ZmE (Znr);have HOK:Hid ((l.drop q).all Gs.okCh=true):=ZmE (Znd.2 fun b hb=>Znd.1 HP1.out b (Zof hb));obtain⟨l2,hl2⟩:∃l2,l.drop q=l2:=⟨_,rfl⟩;rw[hl2]at hs2 HSL2 HLD HOK HP3;have HQ:=ZmE (And.intro q0 q1);have hq2:(0:Int)<=(q:Int):=QhN;clear HNP hnx q0 q1 hl2 HNX;go_wp2_with fail;refine H1.out.mono ?_;rintro e w3 ⟨rfl,hx3⟩;simp only[encS];have hownA:=hown.ext hx3;have hx3W:=hx.trans hx3;clear hx3 hown hx H1;go_wp2_with (at_builtin;go_loud (refine Zbc rfl _ _ rfl W.heap.size _ _ rfl ((hownA.ext ((Ext.refl w3).alloc _)).ext ((Ext.refl _).alloc _)) _ (xa,xd) rfl ?_ ?_ QhN ?_ ?_));(·rfl);(·rfl);(·have:=hx3W.size;exact Qcm);intro v5 w5 hown5 hg5;have hx5:Ext W w5:=((hx3W.alloc _).alloc _).ofGrown hg5 hownA.low;clear hg5 hownA;go_wp2;go_roundw;(case rel=>exact⟨l2,acc++[(xa,xd)],n',HSL2.out,by have:=HLD.out;have:=HQ.out;rw[ZmM];simp;omega,hown5,ZmE ⟨HOK.out,by have:=HLD.out;have:=HQ.out;have:=HPN.out;omega,HP3.out⟩,hx5⟩);case measure=>have h8:=HLD.out;have h9:=HQ.out;show l2.length<l.length;omega);·rw[ZmH hz]at HP3;have hr:=HP3.out;simp only[Zn4]at hr;obtain⟨rfl,rfl⟩:=hr;have hz1:(res2==0)=false:=Qi2;clear hz HP3 HNP hnx;go_wp2_with fail;refine H1.out.mono ?_;rintro e w3 ⟨rfl,hx3⟩;simp only[encS];go_wp2;go_ret2;exact ElsR.err _ (hxW.trans ((hx.trans hx3).alloc _)));·rw[ZmH h256]at HR;have hr:=HR.out;simp only[Zn4]at hr;obtain⟨rfl,rfl⟩:=hr;have h2:(c !=256)=true:=(by simpa using h256);clear e1 e2 e3 hcs HR HA;exact QbI
end
end Go.Proofs.YtbngggoccndefaaGreatDoor
namespace Go.Proofs.YtbngggoccndefaaGreatDoor
open Go.Proofs.Tryz
section
namespace Cc
theorem chOf_ge {v:Int} (h:0<=v) (s:Nat):0<=chOf v s:=by unfold chOf;exact QhE
theorem step_ge {s s':Nat} {sh sh':Bool} {v:Int} {o:List Int} (h:stepC s sh v=some (s',sh',o)) (hv:0<=v):(∀c∈o,0<=c)∧o.length<=2:=by
 unfold stepC at h
 have one:∀ {a:Nat} {b:Bool} {x:Int},0<=x->some (a,b,[x])=some (s',sh',o)->(∀c∈o,0<=c)∧o.length<=2:=fun hx e=>by injection e with e;injection e with _ e;injection e with _ e;subst e;exact⟨fun c hc=>by rw[Znz]at hc;subst hc;exact hx,by simp⟩
 have non:∀ {a:Nat} {b:Bool},some (a,b,[])=some (s',sh',o)->(∀c∈o,0<=c)∧o.length<=2:=fun e=>by injection e with e;injection e with _ e;injection e with _ e;subst e;exact⟨(fun c hc=>by cases hc),by simp⟩
 cases sh with
 |true=>rw[ZmH rfl]at h;split at h;(·cases h);·exact one (chOf_ge hv _) h
 |false=>rw[ZmF QhP]at h;split at h;(·cases h);split at h;(·exact one QhP h);split at h;(·injection h with h;injection h with _ h;injection h with _ h;subst h;refine⟨fun c hc=> ?_,by simp⟩;rcases Zn8.1 hc with rfl|hc;(·omega);·rw[Znz]at hc;subst hc;omega);split at h;(·exact one (chOf_ge hv _) h);split at h;(·exact one QhP h);split at h;(·exact one QhP h);split at h;(·exact non h);split at h;(·exact non h);split at h;(·exact non h);split at h;(·exact non h);exact one QhP h
theorem run_ge:∀(vs:List Int) (s:Nat) (sh:Bool) (out o:List Int),runC s sh out vs=some o->(∀v∈vs,0<=v)->(∀c∈out,0<=c)->(∀c∈o,0<=c)∧o.length<=out.length+2*vs.length
 | [],s,sh,out,o,h,hv,ho=>by rw[runC]at h;split at h;(·cases h);·injection h with h;subst h;exact⟨ho,by omega⟩
 |v::vs,s,sh,out,o,h,hv,ho=>by
  rw[runC]at h
  cases hs:stepC s sh v with
  |none=>rw[hs]at h;cases h
  |some t=>obtain⟨s',h',x⟩:=t;rw[hs]at h;obtain⟨h1,h2⟩:=step_ge hs (hv v (Znh ..));obtain⟨h3,h4⟩:=run_ge vs s' h' (out++x) o h (fun v hv'=>hv v (Zne _ hv')) (fun c hc=>by rcases ZnR.1 hc with hc|hc;(·exact ho c hc);·exact h1 c hc);refine⟨h3,?_⟩;rw[ZmM]at h4;rw[ZmQ];omega
theorem chars_ge {vs cs:List Int} (h:chars vs=(cs,0)):(∀c∈cs,0<=c)∧cs.length<=2*vs.length:=by
 unfold chars at h;split at h;·exact QcL
 rename_i h1;rw[ZpE,ZpT]at h1;have hv:∀v∈vs,0<=v:=fun v hv=>by have:=h1 v hv;exact Qdx
 split at h;·exact QcL
 split at h;·exact QcL
 split at h;·exact QcL
 split at h;·exact QcL
 split at h;·exact QcL
 ·rename_i o ho;injection h with h _;subst h;obtain⟨h2,h3⟩:=run_ge _ _ _ _ _ ho (fun v hv'=>hv v (Zn0 (Zof hv'))) (fun c hc=>by cases hc);refine⟨h2,?_⟩;rw[Znr,ZmY,ZnE]at h3;omega
theorem vals_len:∀(n:Nat) (w l:List Int),valsGo n w=some l->l.length=n
 |0,w,l,h=>by injection h with h;subst h;rfl
 |n+1,w,l,h=>by
  rw[valsGo]at h;split at h;(·cases h)
  ·cases hr:valsGo n (w.drop 6)with
   |none=>rw[hr]at h;cases h
   |some r=>rw[hr]at h;injection h with h;subst h;rw[ZmQ,vals_len n _ r hr]
theorem dec_ge {row:List Bool} {cs:List Int} (h:dec row=(cs,0)):(∀c∈cs,0<=c)∧cs.length<=(Rn.widths row).length:=by
 unfold dec at h;split at h;·exact QcL
 split at h;·exact QcL
 split at h;·exact QcL
 rename_i hw;split at h;·exact QcL
 split at h;·exact QcL
 ·rename_i vs hv;obtain⟨h1,h2⟩:=chars_ge h;refine⟨h1,?_⟩;rw[ZmM,vals_len _ _ _ hv]at h2;simp only[ZmQ,ZnE]at h2;omega
end Cc
namespace RG
open Go.RowKit
variable {row:Option Nat} {c:Nat} {late:List Nat}
def listedL (n m l:Nat):Array Bool:=(listedTo n m).setIfInBounds l false
def relCheckL (ops:Array Oper) (m l:Nat) (ds:List Nat) (deps:List (List Nat)):Bool:=
 decide (m<ops.size)&&decide (ds.length=m)&&decide ds.Nodup&&
 ((
  List.range m).all fun i=>match ops[i]? with
  |some o=>o.guard.isNone&&o.dst==some (ds.getD i 0)&&(deps.getD i []).all fun j=>decide (j<i)&&hasEdge ops i j
  |none=>false)&&
 ((
  List.range ops.size).all fun i=>match ops[i]? with
  |some o=>o.after.all fun e=> !Region.binds .any e || decide (e.on<i)
  |none=>false)&&
 ((List.range m).all fun i=>i==l || (List.range (m+1)).any fun k=>decide (i<k)&&(k !=l)&&hasEdge ops k i)&&
 ((List.range ops.size).all fun i=>decide (i<=m) || (List.range ops.size).any fun k=>decide (m<=k)&&hasEdge ops i k)&&
 decide (cnt ops.size (listedTo ops.size m)=ops.size-m)&&decide (cnt ops.size (Array.replicate ops.size false)=ops.size)&&decide (l<m)&&decide (cnt ops.size (listedL ops.size m l)=ops.size-m+1)
def lt (c:Nat) (late:List Nat) (i:Nat):Bool:=i==c || late.contains i
def lateCheck (ops:Array Oper) (c:Nat) (late:List Nat):Bool:=late.all fun i=>decide (i<ops.size)&&(List.range i).any fun j=>lt c late j&&hasEdge ops i j
structure RelInvC (row:Option Nat) (c:Nat) (ops:Array Oper) (W:World) (a:Act) (m:Nat) (ds:List Nat) (R:Nat->Value->World->Prop) (listed:Array Bool) (b:Act) (w:World) (V:Nat->Value):Prop where
 size:listed.size=ops.size
 fill:b=fillA V ds a
 ext:GB row W w
 pre:listed.getD c false=false->Ext W w
 tail:∀i,i<ops.size->listed.getD i false=true->i<m
 fact:∀i,i<m->listed.getD i false=true->R i (V (ds.getD i 0)) w
 down:∀k i,k<ops.size->listed.getD k false=true->hasEdge ops k i=true->listed.getD i false=true
theorem RelInvC.after {row:Option Nat} {c:Nat} {late:List Nat} {ops:Array Oper} {W:World} {a:Act} {m:Nat} {ds:List Nat} {R:Nat->Value->World->Prop} {listed:Array Bool} {b:Act} {w:World} {V:Nat->Value} (I:RelInvC row c ops W a m ds R listed b w V) (hlate:lateCheck ops c late=true):
 ∀k,k<ops.size->lt c late k=true->listed.getD k false=true->listed.getD c false=true:=by
 unfold lateCheck at hlate
 rw[Znd]at hlate
 intro k
 induction k using Nat.strongRecOn with
 |_ k ih=>intro hk hlt hl;unfold lt at hlt;rw[Zou,Znj]at hlt;rcases hlt with rfl|hlt;(·exact hl);·have h:=hlate k (by simpa using hlt);rw[Zno,ZoL]at h;obtain⟨_,j,hj,h2⟩:=h;rw[ZnK]at hj;rw[Zno]at h2;exact ih j hj QhN h2.1 (I.down k j hk hl h2.2)
theorem getD_set_self_true {l:Array Bool} {i:Nat} (h:i<l.size):(l.setIfInBounds i true).getD i false=true:=by simp[h]
section
variable {P:Program} {ops:Array Oper} {Q:Exit->Act->World->Prop} {W:World} {a:Act} {m l:Nat} {ds:List Nat} {deps:List (List Nat)} {R:Nat->Value->World->Prop}
theorem wpAny_relL (hchk:relCheckL ops m l ds deps=true)
 (hlate:lateCheck ops c late=true) (hst:∀i v w w',R i v w->GB row w w'->(lt c late i=true->Ext w w')->R i v w')
 (hstep:∀i o,i<m->ops[i]? =some o->∀V w,GB row W w->(i=c->Ext W w)->(∀j∈deps.getD i [],R j (V (ds.getD j 0)) w)->relAt P o (fillA V ds a) w fun v w'=>GB row w w'∧(i≠c->Ext w w')∧R i v w')
 (hend:∀V w,GB row W w->(∀j,j<m->R j (V (ds.getD j 0)) w)->wpAny P .any ops Q (ops.size-m) (listedTo ops.size m) (fillA V ds a) w)
 (hend2:∀V w,GB row W w->(∀j,j<m->j≠l->R j (V (ds.getD j 0)) w)->wpAny P .any ops Q (ops.size-m+1) (listedL ops.size m l) (fillA V ds a) w):
 ∀(fuel:Nat) (listed:Array Bool) (b:Act) (w:World) (V:Nat->Value),cnt ops.size listed=fuel->RelInvC row c ops W a m ds R listed b w V->wpAny P .any ops Q fuel listed b w:=by
 simp only[relCheckL,Zno,Zna]at hchk
 obtain⟨⟨⟨⟨⟨⟨⟨⟨⟨⟨c1,c2⟩,c3⟩,c4⟩,c5⟩,c6⟩,c7⟩,c8⟩,c9⟩,c10⟩,c11⟩:=hchk
 rw[Znd]at c4 c5 c6 c7
 intro fuel
 induction fuel with
 |zero=>exact Qbc
 |succ fuel ih=>
  intro listed b w V hc I;have hall:m∈Region.ready .any ops listed->listed=listedTo ops.size m∨listed=listedL ops.size m l:=fun hr=>by
   obtain⟨hmf,o,ho,hdep⟩:=Zqy.1 hr
   have hl:∀d i,i<m->i≠l->m-i=d->listed.getD i false=true:=by
    intro d
    induction d using Nat.strongRecOn with
    |_ d ihd=>exact Qa8
   have hrest:∀i,i<ops.size->¬i<m->listed.getD i false=false:=fun i h1' him=>by
    cases h:listed.getD i false with
    |false=>rfl
    |true=>exact absurd (I.tail i h1' h) him
   cases hll:listed.getD l false with
   |true=>exact Qbv
   |false=>right;apply Zqw;(·rw[I.size];simp[listedL,listedTo];omega);·intro i h1 h2;have h1':i<ops.size:=QiP;by_cases e:l=i;(·subst e;simp[h1]at hll;simp[listedL,hll]);·by_cases him:i<m;(·have:=hl _ i him (fun h=>e h.symm) rfl;simp[h1]at this;simp[listedL,listedTo,e,him,this]);·have:=hrest i h1' him;simp[h1]at this;simp[listedL,listedTo,e,Zqq,him,this]
  have hmf:listed.getD m false=false:=by
   cases h:listed.getD m false with
   |false=>rfl
   |true=>exact absurd (I.tail m c1 h) (Zq2 _)
  have hsome:Region.ready .any ops listed≠ []:=Q1;by_cases hmr:m∈Region.ready .any ops listed;(·exact Qbk);refine⟨fun h=>absurd h hsome,fun i hi=> ?_⟩;obtain⟨hiu,o,ho,hdep⟩:=Zqy.1 hi;have hin:i<ops.size:=(Znn.1 ho).1;have him:i<m:=Qas;have h4:=c4 i (ZnK.2 him);rw[ho]at h4;simp only[Zno,Znj,Znd,Zna]at h4;obtain⟨⟨hg,hd⟩,hdd⟩:=h4;have hgn:o.guard=none:=by cases h:o.guard with
   |none=>rfl
   |some x=>rw[h]at hg;cases hg
  have hw:Region.wanted o (yielded ops b.tmps)=true:=(by simp[Region.wanted,hgn]);unfold wpOp;rw[ho];simp only[hw,ZoG];refine .inl ?_;have hiu2:listed.getD i false=false:=(by rw[<-getD_tf QjT];exact hiu);have hs:=hstep i o him ho V w I.ext (fun e=>I.pre (by rw[<-e];exact hiu2)) (fun j hj=>by obtain⟨h1,h2⟩:=hdd j hj;obtain⟨e,he,hb,hon⟩:=hasEdge_on ho h2;exact I.fact j QhN Qjh);rw[I.fill];refine wp_of_relAt hs (fun v w' ⟨hx,hy,hR⟩=> ?_);have hmem:ds.getD i 0∈ds:=Qc4;rw[hd,fillA_hit V _ v ds a c3 hmem];refine ih _ _ _ _ ?_ ⟨?_,rfl,I.ext.trans hx,?_,?_,?_,?_⟩;(·have:=cnt_set I.size hiu;omega);(·rw[Array.size_setIfInBounds];exact I.size);(·intro hl;(have hic:i≠c:=fun e=>by subst e;rw[getD_set_self_true QjT]at hl;cases hl);rw[ZpW false hic]at hl;exact(I.pre hl).trans (hy hic));(·exact QcU);(·intro k hk hl;by_cases hki:i=k;(·subst hki;rw[ZmH rfl];exact hR);·rw[ZpW false hki]at hl;have hne:ds.getD k 0≠ds.getD i 0:=Qbb;rw[ZmF hne];refine hst k _ _ _ (I.fact k hk hl) hx (fun hlt=>hy (fun e=> ?_));have:=I.after hlate k QhN hlt hl;rw[<-e,hiu2]at this;cases this);·exact Qbj
theorem wp_region_relL0 {id:Nat} (hm:P.follows .mixedOrders=true) (hchk:relCheckL ops m l ds deps=true)
 (hlate:lateCheck ops c late=true) (hst:∀i v w w',R i v w->GB row w w'->(lt c late i=true->Ext w w')->R i v w')
 (hstep:∀i o,i<m->ops[i]? =some o->∀V w,GB row W w->(i=c->Ext W w)->(∀j∈deps.getD i [],R j (V (ds.getD j 0)) w)->relAt P o (fillA V ds a) w fun v w'=>GB row w w'∧(i≠c->Ext w w')∧R i v w')
 (hend:∀V w,GB row W w->(∀j,j<m->R j (V (ds.getD j 0)) w)->wpAny P .any ops Q (ops.size-m) (listedTo ops.size m) (fillA V ds a) w)
 (hend2:∀V w,GB row W w->(∀j,j<m->j≠l->R j (V (ds.getD j 0)) w)->wpAny P .any ops Q (ops.size-m+1) (listedL ops.size m l) (fillA V ds a) w):
 (Code.region id ops true).wp P Q a W:=by
 refine wp_region_any hm ?_
 have hc:cnt ops.size (Array.replicate ops.size false)=ops.size:=Qe5
 have hf:∀i,(Array.replicate ops.size false).getD i false=false:=fun i=>QdS
 refine wpAny_relL hchk hlate hst hstep hend hend2 _ _ _ _ (fun d=>a.tmps.getD d undef) hc ⟨by simp,(fillA_self ds a).symm,GB.ext (Ext.refl W).drew,fun _=>(Ext.refl W).drew,?_,?_,?_⟩
 ·exact Qd1
 ·exact Qd1
 ·exact Qga
end
def relPlanC (row:Option Nat) (c:Nat) (late:List Nat) (P:Program) (W:World) (a:Act) (ds:List Nat) (deps:List (List Nat)) (fin:List Rel->Prop):List Oper->Nat->List Rel->Prop
 | [],_,acc=>fin acc
 |o::rest,k,acc=>∃R:Rel,(∀v w w',R v w->GB row w w'->(lt c late k=true->Ext w w')->R v w')∧(∀V w,GB row W w->(k=c->Ext W w)->factsOf acc k ds V w (deps.getD k [])->relAt P o (fillA V ds a) w fun v w'=>GB row w w'∧(k≠c->Ext w w')∧R v w')∧relPlanC row c late P W a ds deps fin rest (k+1) (R::acc)
theorem relPlanC_get {P:Program} {W:World} {a:Act} {ds:List Nat} {deps:List (List Nat)} {fin:List Rel->Prop}:∀(l:List Oper) (k:Nat) (acc:List Rel),acc.length=k->(∀i R,acc.reverse[i]? =some R->∀v w w',R v w->GB row w w'->(lt c late i=true->Ext w w')->R v w')->relPlanC row c late P W a ds deps fin l k acc->
 ∃all:List Rel,all.length=k+l.length∧(∀i,i<k->all[i]? =acc.reverse[i]?)∧(∀i R,all[i]? =some R->∀v w w',R v w->GB row w w'->(lt c late i=true->Ext w w')->R v w')∧fin all.reverse∧
  ∀i o,l[i]? =some o->∀V w,GB row W w->(k+i=c->Ext W w)->(∀j∈deps.getD (k+i) [],j<k+i∧(all.getD j fun _ _=>True) (V (ds.getD j 0)) w)->relAt P o (fillA V ds a) w fun v w'=>GB row w w'∧(k+i≠c->Ext w w')∧(all.getD (k+i) fun _ _=>True) v w'
 | [],k,acc,hk,hs,h=>⟨acc.reverse,by simpa using hk,fun _ _=>rfl,hs,by rw[ZpC];exact h,fun i o hi=>by simp at hi⟩
 |o::rest,k,acc,hk,hs,h=>by
  obtain⟨R,hR,h1,h2⟩:=h;obtain⟨all,a1,a2,a3,a4,a5⟩:=relPlanC_get rest (k+1) (R::acc) (by rw[ZmQ,hk]) (fun i X hX=>by rw[Zo5]at hX;by_cases hik:i<k;(·rw[Zol (by rw[Zn9,hk];exact hik)]at hX;exact hs i X hX);·have hle:i<acc.reverse.length+1:=(by have:=(ZmN.1 hX).1;exact QfH);have hik2:i=k:=(by rw[Zn9,hk]at hle;omega);subst hik2;rw[Zo0 (by rw[Zn9,hk];exact ZmK _),Zn9,hk,ZnM]at hX;simp only[Znp,Znl]at hX;rw[<-hX];exact hR) h2;rw[Zo5]at a2;have hlr:acc.reverse.length=k:=(by rw[Zn9,hk]);refine⟨all,by rw[a1,ZmQ];omega,fun i hi=> ?_,a3,a4,fun i o' hi V w hx hpre hf=> ?_⟩;(·exact Qf9)
  ·cases i with
   |zero=>simp only[Znp,Znl]at hi;subst hi;have hget:all[k]? =some R:=QfA;rw[Zoc]at hf hpre;have:=h1 V w hx hpre (factsOf_mem.2 fun j hj=>by obtain⟨hjk,hh⟩:=hf j hj;rw[ZmL,a2 j QhN,Zol QhN,ZoS QhN,hk]at hh;rw[ZmL];exact hh);exact QhD
   |succ i=>rw[Zn2]at hi;have:=a5 i o' hi V w hx (by rw[show k+1+i=k+(i+1) by omega];exact hpre) Qj7;rw[show k+1+i=k+(i+1) by omega]at this;exact QeN
theorem wp_region_relC (c:Nat) (late:List Nat) {P:Program} {Q:Exit->Act->World->Prop} {W:World} {a:Act} {id:Nat} {ops:Array Oper} (m n l:Nat) (hn:ops.size=m+n) (ds:List Nat) (deps:List (List Nat)) (hm:P.follows .mixedOrders=true) (hchk:relCheckL ops m l ds deps=true) (hlate:lateCheck ops c late=true)
 (h:relPlanC row c late P W a ds deps (fun acc=>(∀V w,GB row W w->factsOf acc m ds V w (List.range m)->wpAny P .any ops Q n (listedTo (m+n) m) (fillA V ds a) w)∧(∀V w,GB row W w->factsOf acc m ds V w ((List.range m).filter (· !=l))->wpAny P .any ops Q (n+1) (listedL (m+n) m l) (fillA V ds a) w)) (ops.toList.take m) 0 []):
 (Code.region id ops true).wp P Q a W:=by
 obtain⟨all,a1,_,a3,a4,a5⟩:=relPlanC_get _ 0 [] rfl (fun i R h=>by simp at h) h
 have hmz:m<ops.size:=by simp only[relCheckL,Zno,Zna]at hchk;exact hchk.1.1.1.1.1.1.1.1.1.1
 have hlen:all.length=m:=by rw[a1,ZmY,Zpc];omega
 have hdm:∀i,i<m->∀j∈deps.getD i [],j<i:=by
  simp only[relCheckL,Zno,Zna]at hchk
  have c4:=hchk.1.1.1.1.1.1.1.2
  rw[Znd]at c4
  intro i hi j hj
  have h4:=c4 i (ZnK.2 hi)
  cases ho:ops[i]? with
  |none=>rw[ho]at h4;cases h4
  |some o=>exact QeD
 refine wp_region_relL0 (row:=row) (c:=c) (l:=l) (R:=fun i=>all.getD i fun _ _=>True) (m:=m) (ds:=ds) (deps:=deps) hm hchk hlate ?_ ?_ ?_ ?_
 ·intro i v w w' h hx hl
  rw[ZmL]at h⊢
  cases hi:all[i]? with
  |none=>rw[hi]at h;trivial
  |some R=>rw[hi]at h;exact a3 i R hi v w w' h hx hl
 ·intro i o hi ho V w hx hpre hf;have h1:(ops.toList.take m)[i]? =some o:=QfJ;have:=a5 i o h1 V w hx (by rw[Zoa];exact hpre) Qi7;rw[Zoa]at this;exact QeN
 ·intro V w hx hf;have h0:=a4.1 V w hx Qka;rw[hn,show m+n-m=n by omega];exact h0
 ·intro V w hx hf;have h0:=a4.2 V w hx (by rw[factsOf_mem];intro j hj;obtain⟨hj1,hj2⟩:=List.mem_filter.1 hj;have hjm:=ZnK.1 hj1;have:=hf j hjm (by simpa using hj2);rw[ZmL]at this⊢;rw[ZoS QhN,hlen,show m-1-(m-1-j)=j by omega];exact this);rw[hn,show m+n-m+1=n+1 by omega];exact h0
theorem relAt_mono {P:Program} {o:Oper} {a:Act} {w:World} {K K':Value->World->Prop} (h:relAt P o a w K) (hk:∀v w',K v w'->K' v w'):relAt P o a w K':=by
 unfold relAt at*
 generalize(execOp a.eval o).run P w=r at*
 cases r with
 |ok n w'=>cases n<;>simp only[relUpon]at h⊢;(case value u=>exact hk _ _ h);(case skip=>exact hk _ _ h);case enter f args=>exact h.mono fun e w'' ⟨v,he,hv⟩=>⟨v,he,hk _ _ hv⟩
 |halt x w'=>simp only[relUpon]at h
section
variable {P:Program} {W:World} {a:Act} {ds:List Nat} {deps:List (List Nat)} {fin:List Rel->Prop} {o:Oper} {rest:List Oper} {k:Nat} {acc:List Rel}
theorem relPlanC_eq {t:Value} (hkc:k≠c) (h1:∀V w,GB row W w->factsOf acc k ds V w (deps.getD k [])->relAt P o (fillA V ds a) w fun v w'=>Ext w w'∧v=t) (h2:relPlanC row c late P W a ds deps fin rest (k+1) (eqv t::acc)):relPlanC row c late P W a ds deps fin (o::rest) k acc:=
 ⟨eqv t,fun _ _ _ h _ _=>h,fun V w hx _ hf=>relAt_mono (h1 V w hx hf) fun v w' ⟨h,e⟩=>⟨GB.ext h,fun _=>h,e⟩,h2⟩
theorem relPlanC_by (R:Rel) (hR:∀v w w',R v w->GB row w w'->R v w') (hkc:k≠c) (h1:∀V w,GB row W w->factsOf acc k ds V w (deps.getD k [])->relAt P o (fillA V ds a) w fun v w'=>Ext w w'∧R v w') (h2:relPlanC row c late P W a ds deps fin rest (k+1) (R::acc)):relPlanC row c late P W a ds deps fin (o::rest) k acc:=
 ⟨R,fun v w w' h hg _=>hR v w w' h hg,fun V w hx _ hf=>relAt_mono (h1 V w hx hf) fun v w' ⟨h,e⟩=>⟨GB.ext h,fun _=>h,e⟩,h2⟩
theorem relPlanC_late (R:Rel) (hR:∀v w w',R v w->Ext w w'->R v w') (hkc:k≠c) (hl:lt c late k=true) (h1:∀V w,GB row W w->factsOf acc k ds V w (deps.getD k [])->relAt P o (fillA V ds a) w fun v w'=>Ext w w'∧R v w') (h2:relPlanC row c late P W a ds deps fin rest (k+1) (R::acc)):relPlanC row c late P W a ds deps fin (o::rest) k acc:=
 ⟨R,fun v w w' h _ he=>hR v w w' h (he hl),fun V w hx _ hf=>relAt_mono (h1 V w hx hf) fun v w' ⟨h,e⟩=>⟨GB.ext h,fun _=>h,e⟩,h2⟩
theorem relPlanC_call (R:Rel) (hR:∀v w w',R v w->Ext w w'->R v w') (hkc:k=c) (hl:lt c late k=true) (h1:∀V w,Ext W w->factsOf acc k ds V w (deps.getD k [])->relAt P o (fillA V ds a) w fun v w'=>GB row w w'∧R v w') (h2:relPlanC row c late P W a ds deps fin rest (k+1) (R::acc)):relPlanC row c late P W a ds deps fin (o::rest) k acc:=
 ⟨R,fun v w w' h _ he=>hR v w w' h (he hl),fun V w _ hp hf=>relAt_mono (h1 V w (hp hkc) hf) fun v w' ⟨h,e⟩=>⟨h,fun h'=>absurd hkc h',e⟩,h2⟩
end
end RG
end
end Go.Proofs.YtbngggoccndefaaGreatDoor
