/-
  Laid together.
-/
import Derived.Test.YtbngggoccndefaaGreatDoorDd18
set_option maxHeartbeats 16000000
set_option maxRecDepth 100000
set_option linter.unusedVariables false
set_option linter.unusedSimpArgs false
set_option linter.ambiguousOpen false
namespace Go.Proofs.YtbngggoccndefaaGreatDoor
open Go.Proofs.Tryz
section
open Go.RowKit
theorem Sl.part {w:World} {b o n c:Nat} {l:List Value} (h:Sl w (.slice (some ⟨b,o,none⟩) n c) l) (i k c':Nat) (hk:k<=l.length) (hi:i<=k):Sl w (.slice (some ⟨b,o+i,none⟩) (k-i) c') ((l.take k).drop i):=by
 have hlen:((l.take k).drop i).length=k-i:=by rw[Znr,ZmY];omega
 by_cases h0:k-i=0;·exact .inl ⟨Znq (by rw[hlen,h0]),_,_,by rw[h0]⟩
 ·rcases h with⟨rfl,_⟩|⟨b',o',cap,he,hb,hc⟩;(·simp at hk;omega);·injection he with h1 h2 h3;injection h1 with h1;injection h1 with h1 h4;subst h1 h4;refine .inr ⟨b,o+i,c',by rw[hlen],hb,fun j hj=> ?_⟩;rw[hlen]at hj;rw[Nat.add_assoc,hc (i+j) QhN,Zp3,Zog,ZmH QhN]
theorem Zi0 (v:Value) (vs:List Int) (w:World) (hv:SlK w v (vs.map encI)) (hl:vs.length<=400000):
 Calls prog 141 #[v] w (IntsE (Cc.chars vs) w):=by
 obtain⟨hsl,a,c,rfl,hcap⟩:=hv
 rw[ZmI]at hsl hcap⊢
 obtain⟨n,hn⟩:∃n,n=vs.length:=⟨_,rfl⟩
 have HR:=ZmE (Cc.chars.eq_1 vs)
 rw[<-hn]at hsl hl hcap⊢
 rw[<-hn]at HR
 have HN:=ZmE hn
 have HV:=ZmE hsl
 generalize Cc.chars vs=res at*
 clear hsl hn
 go_enter func141,ntmps141
 go_wp2_with fail
 go_loop [9] (fun t=>∃j:Nat,j<=n∧t=.int .i64 (j:Int)∧Hid (∀x∈vs.take j,0<=x∧x<=106)) (fun t=>n-(intOf t).toNat)
 case atStart=>exact Qcy
 case round=>
 obtain⟨j,hj,rfl,HB⟩:=hrel
 by_cases hlt:j<n
 ·exact Qal
 obtain rfl:n=j:=by omega
 have HB3:Hid (∀x∈vs,0<=x∧x<=106):=ZmE (fun x hx=>HB.out x Qj9)
 have HR2:Hid (res=if n<3 then(([],7):List Int×Int)else if vs.getD 0 0<103∨105<vs.getD 0 0 then([],19)else if vs.getD (n-1) 0≠106 then([],20)else if vs.getD (n-2) 0≠Cc.chk (vs.take (n-2))then([],8)else match Cc.runC (vs.getD 0 0-103).toNat false [] ((vs.take (n-2)).drop 1)with|none=>([],22)|some o=>(o,0)):=ZmE Qip
 clear HR HB hlt hj
 by_cases h3:n<3
 ·exact Qhy
 rw[ZmF h3]at HR2
 have h3I:¬(n:Int)<3:=by omega
 obtain⟨x0,hx0⟩:∃x,vs[0]? =some x:=⟨_,ZmG QhW⟩
 obtain⟨b,o,ha,hb,hc0⟩:=HV.out.int_at (Ext.refl w) hx0
 subst ha
 rw[Zoc]at hc0
 have e0:vs.getD 0 0=x0:=by rw[ZmL,hx0];rfl
 rw[e0]at HR2
 have hb0:=HB3.out x0 (ZmT hx0)
 have hn0:(0:Int)<(n:Int):=by omega
 have hne0:n≠0:=by omega
 clear e0 hx0
 by_cases hs:x0<103∨105<x0
 ·exact QcF
 rw[ZmF hs]at HR2
 have hs1:¬x0<103:=by omega
 have hs2:¬105<x0:=by omega
 clear hs
 obtain⟨k1,hk1⟩:∃k,k=n-1:=⟨_,rfl⟩
 obtain⟨k2,hk2⟩:∃k,k=n-2:=⟨_,rfl⟩
 rw[<-hk1,<-hk2]at HR2
 have hk1I:(n:Int)-1=(k1:Int):=by omega
 have hk2I:(n:Int)-2=(k2:Int):=by omega
 obtain⟨x1,hx1⟩:∃x,vs[k1]? =some x:=⟨_,ZmG QhW⟩
 obtain⟨x2,hx2⟩:∃x,vs[k2]? =some x:=⟨_,ZmG QhW⟩
 obtain⟨b',o',ha,_,hc1⟩:=HV.out.int_at (Ext.refl w) hx1
 injection ha with ha
 injection ha with q1 q2
 subst q1 q2
 obtain⟨b',o',ha,_,hc2⟩:=HV.out.int_at (Ext.refl w) hx2
 injection ha with ha
 injection ha with q1 q2
 subst q1 q2
 have e1:vs.getD k1 0=x1:=by rw[ZmL,hx1];rfl
 have e2:vs.getD k2 0=x2:=by rw[ZmL,hx2];rfl
 rw[e1,e2]at HR2
 have hb2:=HB3.out x2 (ZmT hx2)
 have hk1n:(k1:Int)<(n:Int):=by omega
 have hk2n:(k2:Int)<(n:Int):=by omega
 have hk10:k1<n:=by omega
 have hk20:k2<n:=by omega
 have hk2c:k2<=c:=by omega
 have hk21:1<=k2:=by omega
 clear e1 e2 hx1 hx2 hk1 hk2
 by_cases hst:x1≠106
 ·rw[ZmH hst]at HR2;have z1:(x1==106)=false:=ZmJ.2 hst;clear hst;exact Qbo
 rw[ZmF hst]at HR2
 obtain rfl:x1=106:=by omega
 clear hst
 have hSL:Sl w (.slice (some ⟨b,o,none⟩) k2 c) ((vs.take k2).map encI):=by have:=HV.out.part 0 k2 c (by rw[ZmI,<-HN.out];omega) (ZmP _);rw[Zoh,<-Zn5]at this;exact QeN
 have HSL:=ZmE hSL
 have hCV:=ZmE (fun w' (hx:Ext w w')=>Zeg (.slice (some ⟨b,o,none⟩) k2 c) (vs.take k2) w' (hSL.ext hx) QhS (by rw[ZmY,<-HN.out];omega) (fun x hx=>HB3.out x (Zn0 hx)))
 clear hSL
 obtain⟨ck,hck⟩:∃ck,ck=Cc.chk (vs.take k2):=⟨_,rfl⟩
 rw[<-hck]at HR2 hCV
 clear hck
 have HCV2:=ZmE (fun k=>(hCV.out (w.drewN k) ((Ext.refl _).drewN _)))
 by_cases hck:x2≠ck
 ·rw[ZmH hck]at HR2;have z2:(x2==ck)=false:=ZmJ.2 hck;clear hck;go_wp2_with fail;go_quiet ((go_at_call 187;exact Calls.quiet_of_same ((HCV2.out _).mono fun _ _ h=>⟨h.1,h.2.symm⟩)));have hxq:Ext w (w.drewN nq):=(Ext.refl _).drewN _;generalize w.drewN nq=wq at*;go_wp2_with fail;go_ret2;rw[HR2.out];exact IntsE.bad _ _ _ hxq
 rw[ZmF hck]at HR2
 obtain rfl:x2=ck:=ZnH.1 hck
 clear hck
 obtain⟨s0,hs0⟩:∃s:Nat,s=(x0-103).toNat:=⟨_,rfl⟩
 have hs02:s0<=2:=by omega
 have hs0I:2+x0-103=(s0:Int)+2:=by omega
 rw[<-hs0]at HR2
 obtain⟨ms,hms⟩:∃ms,ms=(vs.take k2).drop 1:=⟨_,rfl⟩
 rw[<-hms]at HR2
 have hSM:Sl w (.slice (some ⟨b,o+1,none⟩) (k2-1) (c-1)) (ms.map encI):=by have:=HV.out.part 1 k2 (c-1) (by rw[ZmI,<-HN.out];omega) hk21;rw[<-Zn5,<-Zn6,<-hms]at this;exact QeN
 have hST:=ZmE (fun w'=>ZfH x0 w' QhN)
 obtain⟨r2,hr2⟩:∃r2,r2=(match Cc.runC s0 false [] ms with|none=>(([],22):List Int×Int)|some o=>(o,0)):=⟨_,rfl⟩
 have HR3:Hid (res=r2):=ZmE (HR2.out.trans (by rw[hr2]))
 have hIN:Hid (∀w',Ext w w'->Calls prog 216 #[.slice (some ⟨b,o+1,none⟩) (k2-1) (c-1),.int .i64 (2+x0-103)] w' (IntsE r2 w')):=ZmE (fun w' hx=>by rw[hr2,hs0I];exact ZeG (.slice (some ⟨b,o+1,none⟩) (k2-1) (c-1)) ms s0 w' (hSM.ext hx) (by rw[hms,Znr,ZmY];omega) hs02 (fun x hx=>HB3.out x (Zn0 (Zof (hms▸hx)))))
 clear hms hs0 hr2 hSM HR2
 go_wp2_with fail
 go_quiet ((go_at_call 187;exact Calls.quiet_of_same ((HCV2.out _).mono fun _ _ h=>⟨h.1,h.2.symm⟩)))
 have hxq:Ext w (w.drewN nq):=(Ext.refl _).drewN _
 generalize w.drewN nq=wq at*
 have hcq:=(hxq.cell (p:=⟨b,o,none⟩) hb).trans hc0
 have HC0:Hid (∀w',Ext wq w'->w'.cell? ⟨b,o,none⟩=some (.int .i64 x0)):=ZmE (fun w' hx=>(hx.cell (p:=⟨b,o,none⟩) (Znc hb hxq.size)).trans hcq)
 go_wp2_with fail
 have hkm:((k2:Int)-1).toNat=k2-1:=by omega
 have hk2I1:(1:Int)<=(k2:Int):=by omega
 have hk2I0:¬(k2:Int)<1:=by omega
 have hk2cI:(k2:Int)<=(c:Int):=by omega
 have hwk:IntKind.i64.wrap (k2:Int)=(k2:Int):=ZnB _ QhN
 have hmx0:max (k2:Int) 0=(k2:Int):=by omega
 refine wp_region_rel 12 1 rfl [55,56,57,58,59,60,61,62,63,64,65,2] [[],[],[1],[0,2],[],[4],[5],[6],[3,7],[8],[8],[9]] QhO QhO ?_
 apply relPlan_eq'
 ·exact Qgy
 apply relPlan_eq'
 ·intro V w' hx hf;(with_reducible refine relAt_ops ?_);intro A ρ hA hρ hcst hfun;have h6:ρ (.tmp 6)=.int .i64 (n:Int):=(Znf hρ _).trans (evalMiss hA 6 rfl);exact QQ
 apply relPlan_eq'
 ·intro V w' hx hf;(with_reducible refine relAt_ops ?_);intro A ρ hA hρ hcst hfun;obtain⟨f56,_⟩:=hf;have h56:ρ (.tmp 56)=_:=(Znf hρ _).trans ((evalHit hA 56 rfl).trans f56);simp[relUpon,go_sem,hcst,↓IntWalk.iteOmega,Ext.refl,h56,hk2I];rfl
 refine relPlan_by (eqv (.slice (some ⟨b,o+1,none⟩) (k2-1) (c-1))) (eqv_stable _) ?_ ?_
 ·intro V w' hx hf;(with_reducible refine relAt_ops ?_);intro A ρ hA hρ hcst hfun;obtain⟨f55,f57,_⟩:=hf;have h55:ρ (.tmp 55)=_:=(Znf hρ _).trans ((evalHit hA 55 rfl).trans f55);have h57:ρ (.tmp 57)=_:=(Znf hρ _).trans ((evalHit hA 57 rfl).trans f57);simp[relUpon,go_sem,hcst,↓IntWalk.iteOmega,Ext.refl,h55,h57,hkm,hk2I1,hk2I0,hk2cI];show Value.slice _ _ _=Value.slice _ _ _;rw[hwk];rfl
 apply relPlan_eq'
 ·exact Qgy
 refine relPlan_by (eqv (.pointer (some ⟨b,o,none⟩))) (eqv_stable _) ?_ ?_
 ·intro V w' hx hf;(with_reducible refine relAt_ops ?_);intro A ρ hA hρ hcst hfun;obtain⟨f59,_⟩:=hf;have h59:ρ (.tmp 59)=_:=(Znf hρ _).trans ((evalHit hA 59 rfl).trans f59);simp[relUpon,go_sem,hcst,↓IntWalk.iteOmega,Ext.refl,h59,hn0,hne0];rfl
 refine relPlan_by (eqv (.int .i64 x0)) (eqv_stable _) ?_ ?_
 ·intro V w' hx hf;(with_reducible refine relAt_ops ?_);intro A ρ hA hρ hcst hfun;obtain⟨f60,_⟩:=hf;have h60:ρ (.tmp 60)=_:=(Znf hρ _).trans ((evalHit hA 60 rfl).trans f60);have hcw:=HC0.out w' hx;simp[relUpon,go_sem,hcst,↓IntWalk.iteOmega,Ext.refl,h60,hcw];rfl
 refine relPlan_by (eqv (.int .i64 (2+x0-103))) (eqv_stable _) ?_ ?_
 ·intro V w' hx hf;(with_reducible refine relAt_ops ?_);intro A ρ hA hρ hcst hfun;obtain⟨f61,_⟩:=hf;have h61:ρ (.tmp 61)=_:=(Znf hρ _).trans ((evalHit hA 61 rfl).trans f61);simp[relUpon,go_sem,hcst,hfun,h61];exact(hST.out w').mono fun e w'' ⟨he,hw⟩=>⟨_,he,hw▸Ext.refl _,rfl⟩
 refine relPlan_by (fun v w=>∃u,v=.tuple #[u,.int .i64 r2.2]∧SlK w u (r2.1.map encI)) (fun _ _ _ ⟨u,h1,h2⟩ hx=>⟨u,h1,h2.ext hx⟩) ?_ ?_
 ·intro V w' hx hf;(with_reducible refine relAt_ops ?_);intro A ρ hA hρ hcst hfun;obtain⟨f58,f62,_⟩:=hf;have h58:ρ (.tmp 58)=_:=(Znf hρ _).trans ((evalHit hA 58 rfl).trans f58);have h62:ρ (.tmp 62)=_:=(Znf hρ _).trans ((evalHit hA 62 rfl).trans f62);simp[relUpon,go_sem,hcst,hfun,h58,h62];exact(hIN.out w' (hxq.trans hx)).mono fun e w'' ⟨u,he,hs,hy⟩=>⟨_,he,hy,u,rfl,hs⟩
 refine relPlan_by (fun v w=>SlK w v (r2.1.map encI)) (fun _ _ _ h hx=>h.ext hx) ?_ ?_
 ·intro V w' hx hf;(with_reducible refine relAt_ops ?_);intro A ρ hA hρ hcst hfun;obtain⟨f63,_⟩:=hf;obtain⟨u,hu,hs⟩:=f63;have h63:ρ (.tmp 63)=_:=(Znf hρ _).trans ((evalHit hA 63 rfl).trans hu);simp[relUpon,go_sem,hcst,Ext.refl,h63];exact hs
 refine relPlan_by (eqv (.int .i64 r2.2)) (eqv_stable _) ?_ ?_
 ·intro V w' hx hf;(with_reducible refine relAt_ops ?_);intro A ρ hA hρ hcst hfun;obtain⟨f63,_⟩:=hf;obtain⟨u,hu,hs⟩:=f63;have h63:ρ (.tmp 63)=_:=(Znf hρ _).trans ((evalHit hA 63 rfl).trans hu);simp[relUpon,go_sem,hcst,Ext.refl,h63];rfl
 refine relPlan_by (fun v w=>SlK w v (r2.1.map encI)) (fun _ _ _ h hx=>h.ext hx) ?_ ?_
 ·intro V w' hx hf;(with_reducible refine relAt_ops ?_);intro A ρ hA hρ hcst hfun;obtain⟨f64,_⟩:=hf;have h64:ρ (.tmp 64)=V 64:=(Znf hρ _).trans (evalHit hA 64 rfl);exact relUpon_move (hk:=by rw[h64];exact⟨Ext.refl _,f64⟩)
 intro V wT hxT hf
 obtain⟨-,-,-,-,-,-,-,-,-,-,g65,g2,-⟩:=hf
 simp only[fillA,ZmX,Zni,Act.put,ZmO,ZmV,ZmU]
 have q65:V 65=_:=g65
 rw[q65]
 refine Za 12 QhO rfl (fun K hK=> ?_)
 go_simp
 refine hK _ _ ?_
 clear hK K
 refine⟨rfl,?_⟩
 have k2':SlK wT (V 2) (r2.1.map encI):=g2
 have hxT2:=hxq.trans hxT
 clear g65 g2 q65 hxT
 go_wp2
 go_ret2
 rw[HR3.out];exact⟨_,rfl,k2',hxT2⟩
theorem Zb4 {l:List UInt8} {r:Gs.Rule} (h:Gs.find l=some r):((l,r)∈Gs.dir∧r.2.2.2=0)∨∃k c,l=k++[c]∧(k,r)∈Gs.dir∧r.2.2.2≠0∧48<=c.toNat∧c.toNat<=r.2.2.2.toNat:=by
 have key2:l≠ []->∀r',Gs.find2 l=some r'->∃k c,l=k++[c]∧(k,r')∈Gs.dir∧r'.2.2.2≠0∧48<=c.toNat∧c.toNat<=r'.2.2.2.toNat:=by intro hne r' h';unfold Gs.find2 at h';split at h';(·rename_i r1 h1;split at h';(·simp at h');·rename_i h2;simp only[Znl]at h';subst h';rw[not_or,not_or]at h2;obtain⟨h3,h4,h5⟩:=h2;refine⟨l.take (l.length-1),l.getD (l.length-1) 0,?_,Zby h1,h3,?_,?_⟩;(·have e1:l.dropLast++[l.getLast hne]=l:=Zp7 hne;have e2:l.getD (l.length-1) 0=l.getLast hne:=(by rw[ZmL,List.getLast_eq_getElem,ZmG (by have:=Zob.2 hne;omega)];rfl);rw[e2,<-List.dropLast_eq_take];exact e1.symm);(·rw[ZaC]at h4;have:(48:UInt8).toNat=48:=rfl;omega);·rw[ZaC]at h5;omega);·simp at h'
 unfold Gs.find at h;split at h;·rename_i r1 h1;have hne:l≠ []:=(by intro e;rw[e,Zgb]at h1;simp at h1);split at h;(·rename_i h0;simp only[Znl]at h;subst h;exact .inl ⟨Zby h1,h0⟩);·exact .inr (key2 hne _ h)
 ·split at h;(·simp at h);·rename_i hne;exact .inr (key2 hne _ h)
def Gs.sfx:List UInt8:=[48,49,50,51,52,53,54,55,56,57]
theorem Zgl (c:UInt8) (h1:48<=c.toNat) (h2:c.toNat<=57):c∈Gs.sfx:=by
 have e:c=UInt8.ofNat c.toNat:=by simp
 have:c.toNat=48∨c.toNat=49∨c.toNat=50∨c.toNat=51∨c.toNat=52∨c.toNat=53∨c.toNat=54∨c.toNat=55∨c.toNat=56∨c.toNat=57:=by omega
 rw[e];rcases this with h|h|h|h|h|h|h|h|h|h<;>rw[h]<;>decide
def Gs.allAi (P:List UInt8->Gs.Rule->Bool):Bool:=Gs.dir.all fun p=>if p.2.2.2.2=0 then P p.1 p.2 else Gs.sfx.all fun c=>decide (p.2.2.2.2.toNat<c.toNat) || P (p.1++[c]) p.2
theorem Zkj:∀p∈Gs.dir,p.2.2.2.2.toNat<=57:=Qct
theorem Zkc (P:List UInt8->Gs.Rule->Bool) (hP:Gs.allAi P=true) {l:List UInt8} {r:Gs.Rule} (h:Gs.find l=some r):P l r=true:=by
 unfold Gs.allAi at hP;rw[Znd]at hP;rcases Zb4 h with⟨h1,h2⟩|⟨k,c,rfl,h1,h2,h3,h4⟩;·have:=hP _ h1;rw[ZmH h2]at this;exact QeN
 ·have:=hP _ h1;rw[ZmF h2,Znd]at this;have h5:=this c (Zgl c h3 (ZnF h4 (Zkj _ h1)));simp only[Zou,Zna]at h5;rcases h5 with h5|h5;(·omega);·exact h5
def Gs.aiOk (l:List UInt8):Bool:=decide (2<=l.length)&&decide (l.length<=4)&&l.all (fun c=>Cd.isDig c.toNat)&&(decide (l.length<=2) || (Gs.find (l.take 2)).isNone)&&(decide (l.length<=3) || (Gs.find (l.take 3)).isNone)
theorem Zld:Gs.allAi (fun l _=>Gs.aiOk l)=true:=Qct
theorem ZaK {l:List UInt8} {r:Gs.Rule} (h:Gs.find l=some r):2<=l.length∧l.length<=4∧Cd.AllDig l∧(2<l.length->Gs.find (l.take 2)=none)∧(3<l.length->Gs.find (l.take 3)=none):=by have:=Zkc _ Zld h;unfold Gs.aiOk at this;simp only[Zno,Zou,Zna,Znd,Option.isNone_iff_eq_none]at this;obtain⟨⟨⟨⟨h1,h2⟩,h3⟩,h4⟩,h5⟩:=this;refine⟨h1,h2,fun c hc=> ?_,fun h=>h4.resolve_left QhN,fun h=>h5.resolve_left QhN⟩;have:=h3 c hc;simp[Cd.isDig]at this;omega
theorem ZcM {a d:List UInt8} (h:Gs.ver a d=0):∃r,Gs.find a=some r∧Gs.verR r d=0:=by
 unfold Gs.ver at h;split at h;·simp at h
 ·rename_i r hr;exact⟨r,hr,h⟩
theorem Zha {r:Gs.Rule} {d:List UInt8} (h:Gs.verR r d=0):r.2.1<=(d.length:Int)∧(d.length:Int)<=r.2.2.1∧d.all (Gs.okc r.1)=true:=by
 unfold Gs.verR at h;split at h;·simp at h
 ·split at h;(·simp at h);·rename_i h1 h2;exact⟨by omega,by omega,by simpa using h2⟩
theorem ZdY {x:Gs.El} {xs:List Gs.El} (h:Gs.verL (x::xs)=0):Gs.ver x.1 x.2=0∧Gs.verL xs=0:=by
 unfold Gs.verL at h;split at h;·rename_i h0;exact⟨h0,h⟩
 ·rename_i h0;exact absurd h h0
theorem Zb0 (l:List Int):(∀b∈Gs.run l,b≠256∧b∈l)∧((Gs.run l=l)∨∃r,l=Gs.run l++256::r):=by
 induction l with
 |nil=>exact⟨by simp[Gs.run],.inl rfl⟩
 |cons b l ih=>by_cases h:b=256;(·subst h;simp[Gs.run]);·simp only[Gs.run,ZmF h];refine⟨fun x hx=> ?_,?_⟩;(·rcases Zn8.1 hx with rfl|hx;(·exact⟨h,Znh ..⟩);·exact⟨(ih.1 x hx).1,Zne _ (ih.1 x hx).2⟩);·rcases ih.2 with e|⟨r,e⟩;(·left;rw[e]);·right;exact⟨r,by rw[Zny,<-e]⟩
theorem Zd8 (l:List Int):(Gs.run l).length<=l.length:=by
 rcases(Zb0 l).2 with e|⟨r,e⟩;·rw[e];exact Qd0
 ·exact Qe2
theorem ZjO (a b:List Int):Gs.text (a++b)=Gs.text a++Gs.text b:=Zn1
theorem ZeH (a:List UInt8):(Gs.ints a).length=a.length:=ZmI _
theorem ZP (a:List Int):(Gs.text a).length=a.length:=ZmI _
theorem ZhA (l:List Int) (h:∀b∈l,0<=b∧b<=127):Gs.ints (Gs.text l)=l:=by
 unfold Gs.text Gs.ints;rw[Zos];conv=>rhs;rw[<-List.map_id l]
 refine Zpd fun c hc=> ?_;obtain⟨h1,h2⟩:=h c hc;simp only[Function.comp,Gs.byte,id];rw[Int.emod_eq_of_lt h1 QhN];exact Qfi
theorem Zcs {l a:List UInt8} {r:Gs.Rule} (h:Gs.pre l=some (a,r)):Gs.find a=some r∧l.take a.length=a∧a.length<=l.length:=by
 have key:∀n,Gs.preN l n=some (a,r)->Gs.find a=some r∧l.take a.length=a∧a.length<=l.length:=by intro n hn;unfold Gs.preN at hn;split at hn;(·rename_i hle;rw[ZoI]at hn;obtain⟨r',h1,h2⟩:=hn;simp only[Zn4]at h2;obtain⟨rfl,rfl⟩:=h2;refine⟨h1,?_,by rw[ZmY];omega⟩;rw[ZmY,Zop hle]);·simp at hn
 unfold Gs.pre at h;rw[Option.or_eq_some_iff,Option.or_eq_some_iff]at h;rcases h with h|⟨_,h|⟨_,h⟩⟩;all_goals exact key _ h
theorem Zlk {xs:List Gs.El} (hv:Gs.verL xs=0) (h:xs≠ []):Gs.chG xs≠ []:=by
 cases xs with
 |nil=>exact absurd rfl h
 |cons x xs=>obtain⟨h0,_⟩:=ZdY hv;obtain⟨r,h1,_⟩:=ZcM h0;have:=(ZaK h1).1;intro e;have:=Znb List.length e;simp only[Gs.chG,ZmM,ZeH,ZnE]at this;omega
theorem ZdK (n:Nat) (acc:List Gs.El):Gs.fromF n [] acc=(acc,0):=by cases n<;>rfl
theorem ZcH {c:List Int} (h:c.all Gs.okCh=true):∀b∈Gs.run c,0<=b∧b<=127:=by intro b hb;obtain⟨h1,h2⟩:=(Zb0 c).1 b hb;have:=Znd.1 h b h2;simp[Gs.okCh]at this;omega
theorem ZcF {c:List Int} {x:Gs.El} {k:Nat} (hc:c.all Gs.okCh=true) (h:Gs.next c=(x,k,0)):
 Gs.ver x.1 x.2=0∧0<k∧k<=c.length∧c=Gs.ints (x.1++x.2)++((if Gs.fixed x.1 || (c.drop k).isEmpty then []else [256])++c.drop k):=by
 have hrt:=ZcH hc
 obtain⟨_,rc⟩:=Zb0 c
 have rl:=Zd8 c
 unfold Gs.next at h
 split at h
 ·simp at h
 ·rename_i hpos;split at h;(·simp at h)
  ·rename_i a r hp;obtain⟨p1,p2,p3⟩:=Zcs hp;obtain⟨ro1,ro2,ro3,ro4,ro5,ro6,ro7,ro8⟩:=Za1 p1;have hal:=(ZaK p1).1;have hfx:Gs.fixed a=Gs.isFix r:=(by unfold Gs.fixed;rw[p1]);rw[ZP]at p3;have hit:Gs.ints (Gs.text (Gs.run c))=Gs.run c:=ZhA _ hrt;have hcat:a++(Gs.text (Gs.run c)).drop a.length=Gs.text (Gs.run c):=(by(conv=>lhs;rw[<-p2]);rw[ZmY,ZP,Zop p3,ZnX]);split at h;(·rename_i hf;split at h;(·simp at h);·rename_i hlen;split at h;(·exact QfM);·rename_i hv;simp only[Zn4,ZpJ]at h;obtain⟨rfl,rfl⟩:=h;dsimp only;refine⟨ZnT hv,by omega,by omega,?_⟩;rw[hfx,hf];simp only[Bool.true_or,ZoG,Zod];have e1:a++((Gs.text (Gs.run c)).drop a.length).take r.2.2.1.toNat=(Gs.text (Gs.run c)).take (a.length+r.2.2.1.toNat):=(by rw[List.take_add,p2]);have e2:Gs.ints ((Gs.text (Gs.run c)).take (a.length+r.2.2.1.toNat))=(Gs.run c).take (a.length+r.2.2.1.toNat):=(by unfold Gs.ints at hit⊢;rw[Zn5,hit]);rw[e1,e2];have e3:(Gs.run c).take (a.length+r.2.2.1.toNat)=c.take (a.length+r.2.2.1.toNat):=(by rcases rc with e|⟨q,e⟩;(·rw[e]);·(conv=>rhs;rw[e]);rw[Zo9 QhN]);rw[e3,ZnX])
   ·rename_i hf;split at h;(·exact QfM)
    ·rename_i hv;split at h;(·simp at h)
     ·rename_i hend;simp only[Zn4,ZpJ]at h;obtain⟨rfl,rfl⟩:=h;dsimp only;refine⟨ZnT hv,by omega,by omega,?_⟩;rw[hfx,hcat,hit];have hf':Gs.isFix r=false:=(by simpa using hf);rw[hf'];rcases rc with e|⟨q,e⟩;(·rw[e];have:min (c.length+1) c.length=c.length:=QhN;rw[this,Zqa];simp)
      ·have hl:c.length=(Gs.run c).length+1+q.length:=Qe2
       have hq:c.drop (min ((Gs.run c).length+1) c.length)=q:=by rw[Zop QhN];have h5:(Gs.run c++256::q).drop ((Gs.run c).length+1)=q:=(by rw[<-Zoi,List.drop_left];rfl);exact(Znb (List.drop ((Gs.run c).length+1)) e).trans h5
       rw[hq]
       cases q with
       |nil=>simp at hl;omega
       |cons y ys=>simp;exact e
theorem ZiN (n:Nat):∀(c:List Int) (acc res:List Gs.El),c.all Gs.okCh=true->c.length<=n->Gs.fromF n c acc=(res,0)->∃xs,res=acc++xs∧Gs.verL xs=0∧Gs.chG xs=c:=by
 induction n with
 |zero=>intro c acc res _ hl h;obtain rfl:=Znq (by omega:c.length=0);simp only[Gs.fromF,Zn4,ZpJ]at h;exact⟨[],by simp[h],rfl,rfl⟩
 |succ n ih=>
  intro c acc res hc hl h;rw[Gs.fromF]at h;split at h;(·rename_i h0;simp only[Zn4,ZpJ]at h;exact⟨[],by simp[h],rfl,by rw[h0];rfl⟩)
  ·rename_i h0;split at h;(·exact Qd9)
   ·rename_i h1;have h1:=ZnT h1;generalize hn:Gs.next c=nx at*;obtain⟨x,k,e⟩:=nx;dsimp only at h h1;subst h1;obtain⟨v0,k0,k1,hcat⟩:=ZcF hc hn;obtain⟨xs,x1,x2,x3⟩:=ih (c.drop k) _ res (Znd.2 fun b hb=>Znd.1 hc b (Zof hb)) Qh0 h;refine⟨x::xs,by rw[x1,Znu];rfl,by simp only[Gs.verL];rw[ZmH v0];exact x2,?_⟩;have hemp:xs.isEmpty=(c.drop k).isEmpty:=by
     cases xs with
     |nil=>rw[<-x3];rfl
     |cons y ys=>
      have:=Zlk x2 QhQ
      rw[x3]at this
      cases hd:c.drop k with
      |nil=>exact absurd hd this
      |cons _ _=>rfl
    simp only[Gs.chG];rw[hemp,x3];exact hcat.symm
theorem Zef {xs:List Gs.El} {c:List Int} (h:Gs.frChars c=(xs,0)):Gs.chars xs=(c,0):=by
 unfold Gs.frChars at h;split at h;·simp at h
 ·split at h;(·simp at h)
  ·split at h;(·simp at h)
   ·split at h;(·simp at h)
    ·rename_i h1 h2 h3 h4
     cases c with
     |nil=>simp at h3
     |cons b c=>have h3:b=256:=ZnT h3;subst h3;have h2:(256::c).all Gs.okCh=true:=QfS;rw[Zq1,Zno]at h2;obtain⟨ys,y1,y2,y3⟩:=ZiN _ c [] xs h2.2 (by rw[ZmQ];omega) h;rw[Zod]at y1;subst y1;have hne:xs≠ []:=fun e=>h4 (by rw[<-y3,e];rfl);unfold Gs.chars Gs.verAll;rw[ZmF hne,ZmF (by simpa using y2),y3,ZmF h1]
end
end Go.Proofs.YtbngggoccndefaaGreatDoor
