/-
  Laid together.
-/
import Derived.Test.YtbngggoccndefaaGreatDoorDd02
set_option maxHeartbeats 16000000
set_option maxRecDepth 100000
set_option linter.unusedVariables false
set_option linter.unusedSimpArgs false
set_option linter.ambiguousOpen false
section
namespace Go.Proofs.YtbngggoccndefaaGreatDoor
open Go.Proofs.Tryz
open Go.RowKit
def relUpon (P:Program) (K:Value->World->Prop):Result Next->Prop
 | .ok (.value v) w'=>K v w'
 | .ok .skip w'=>K undef w'
 | .ok (.enter f args) w'=>Calls P f args w' fun e w''=>∃v,e=.returned v∧K v w''
 |_=>False
def relAt (P:Program) (o:Oper) (a:Act) (w:World) (K:Value->World->Prop):Prop:=relUpon P K ((execOp a.eval o).run P w)
theorem wp_of_relAt {P:Program} {o:Oper} {a:Act} {w:World} {K:Value->World->Prop} {K':Act->World->Prop} {Q:Exit->Act->World->Prop}
 (h:relAt P o a w K) (hk:∀v w',K v w'->K' (a.put o.dst v) w'):o.wp P a w K' Q:=by
 unfold relAt at h
 unfold Oper.wp
 generalize(execOp a.eval o).run P w=r at*
 cases r with
 |ok n w'=>exact QcN
 |halt x w'=>simp only[relUpon]at h
def fillA (V:Nat->Value) (ds:List Nat) (a:Act):Act:=ds.foldl (fun a d=>a.put (some d) (V d)) a
theorem put_self (a:Act) (d:Nat):a.put (some d) (a.tmps.getD d undef)=a:=by
 cases a with
 |mk t df=>exact QcX
theorem put_put (a:Act) (d:Nat) (u v:Value):(a.put (some d) u).put (some d) v=a.put (some d) v:=by unfold Act.put;simp[ZpV]
theorem fillA_self (ds:List Nat):∀a:Act,fillA (fun d=>a.tmps.getD d undef) ds a=a:=Qb2
theorem fillA_miss (V:Nat->Value) (d:Nat) (v:Value):∀(ds:List Nat) (a:Act),d∉ds->(fillA V ds a).put (some d) v=fillA (fun x=>if x=d then v else V x) ds (a.put (some d) v):=by
 intro ds
 induction ds with
 |nil=>intro a _;rfl
 |cons c ds ih=>exact QbF
theorem fillA_hit (V:Nat->Value) (d:Nat) (v:Value):∀(ds:List Nat) (a:Act),ds.Nodup->d∈ds->(fillA V ds a).put (some d) v=fillA (fun x=>if x=d then v else V x) ds a:=by
 intro ds
 induction ds with
 |nil=>intro a _ h;cases h
 |cons c ds ih=>exact Qbq
def hasEdge (ops:Array Oper) (k i:Nat):Bool:=match ops[k]? with
 |some o=>o.after.any fun e=>Region.binds .any e&&e.on==i
 |none=>false
def listedTo (n m:Nat):Array Bool:=(List.replicate m true++List.replicate (n-m) false).toArray
def cnt (n:Nat) (l:Array Bool):Nat:=(List.range n).countP fun i=> !l.getD i true
def relCheck (ops:Array Oper) (m:Nat) (ds:List Nat) (deps:List (List Nat)):Bool:=
 decide (m<ops.size)&&decide (ds.length=m)&&decide ds.Nodup&&
 ((
  List.range m).all fun i=>match ops[i]? with
  |some o=>o.guard.isNone&&o.dst==some (ds.getD i 0)&&(deps.getD i []).all fun j=>decide (j<i)&&hasEdge ops i j
  |none=>false)&&
 ((
  List.range ops.size).all fun i=>match ops[i]? with
  |some o=>o.after.all fun e=> !Region.binds .any e || decide (e.on<i)
  |none=>false)&&
 ((List.range m).all fun i=>(List.range (m+1)).any fun k=>decide (i<k)&&hasEdge ops k i)&&
 ((List.range ops.size).all fun i=>decide (i<=m) || (List.range ops.size).any fun k=>decide (m<=k)&&hasEdge ops i k)&&
 decide (cnt ops.size (listedTo ops.size m)=ops.size-m)&&decide (cnt ops.size (Array.replicate ops.size false)=ops.size)
theorem countP_one {l:List Nat} (hn:l.Nodup) {p q:Nat->Bool} {i:Nat} (hi:i∈l) (hp:p i=true) (hq:q i=false) (h:∀j,j≠i->q j=p j):l.countP q+1=l.countP p:=by
 induction l with
 |nil=>cases hi
 |cons c l ih=>exact QbH
theorem cnt_set {n:Nat} {l:Array Bool} {i:Nat} (hs:l.size=n) (h:l.getD i true=false):cnt n (l.setIfInBounds i true)+1=cnt n l:=Qb5
theorem hasEdge_on {ops:Array Oper} {k i:Nat} {o:Oper} (ho:ops[k]? =some o) (h:hasEdge ops k i=true):∃e∈o.after,Region.binds .any e=true∧e.on=i:=QdM
section
variable {P:Program} {ops:Array Oper} {Q:Exit->Act->World->Prop} {W:World} {a:Act} {m:Nat} {ds:List Nat} {deps:List (List Nat)} {R:Nat->Value->World->Prop}
structure RelInv (ops:Array Oper) (W:World) (a:Act) (m:Nat) (ds:List Nat) (R:Nat->Value->World->Prop) (listed:Array Bool) (b:Act) (w:World) (V:Nat->Value):Prop where
 size:listed.size=ops.size
 fill:b=fillA V ds a
 ext:Ext W w
 tail:∀i,i<ops.size->listed.getD i false=true->i<m
 fact:∀i,i<m->listed.getD i false=true->R i (V (ds.getD i 0)) w
 down:∀k i,k<ops.size->listed.getD k false=true->hasEdge ops k i=true->listed.getD i false=true
theorem getD_tf {l:Array Bool} {i:Nat} (h:i<l.size):l.getD i true=l.getD i false:=by simp[h]
theorem wpAny_rel (hchk:relCheck ops m ds deps=true)
 (hst:∀i v w w',R i v w->Ext w w'->R i v w')
 (hstep:∀i o,i<m->ops[i]? =some o->∀V w,Ext W w->(∀j∈deps.getD i [],R j (V (ds.getD j 0)) w)->relAt P o (fillA V ds a) w fun v w'=>Ext w w'∧R i v w')
 (hend:∀V w,Ext W w->(∀j,j<m->R j (V (ds.getD j 0)) w)->wpAny P .any ops Q (ops.size-m) (listedTo ops.size m) (fillA V ds a) w):
 ∀(fuel:Nat) (listed:Array Bool) (b:Act) (w:World) (V:Nat->Value),cnt ops.size listed=fuel->RelInv ops W a m ds R listed b w V->wpAny P .any ops Q fuel listed b w:=by
 simp only[relCheck,Zno,Zna]at hchk
 obtain⟨⟨⟨⟨⟨⟨⟨⟨c1,c2⟩,c3⟩,c4⟩,c5⟩,c6⟩,c7⟩,c8⟩,c9⟩:=hchk
 rw[Znd]at c4 c5 c6 c7
 intro fuel
 induction fuel with
 |zero=>exact Qbc
 |succ fuel ih=>
  intro listed b w V hc I;have hall:m∈Region.ready .any ops listed->listed=listedTo ops.size m:=fun hr=>by
   obtain⟨hmf,o,ho,hdep⟩:=Zqy.1 hr;have hl:∀d i,i<m->m-i=d->listed.getD i false=true:=by
    intro d
    induction d using Nat.strongRecOn with
    |_ d ihd=>intro i hi hd;have h6:=c6 i (ZnK.2 hi);rw[ZoL]at h6;obtain⟨k,hk,hik⟩:=h6;rw[ZnK]at hk;rw[Zno,Zna]at hik;by_cases hkm:k=m;(·exact Qdf);·have hk':listed.getD k false=true:=ihd (m-k) QhN k QhN rfl;exact I.down k i QhN hk' hik.2
   apply Zqw;(·rw[I.size];simp[listedTo];omega)
   ·intro i h1 h2;have h1':i<ops.size:=QiP;by_cases him:i<m;(·have:=hl _ i him rfl;simp[h1]at this;simp[listedTo,him,this])
    ·have:listed.getD i false=false:=by
      cases h:listed.getD i false with
      |false=>rfl
      |true=>exact absurd (I.tail i h1' h) him
     exact Qef
  have hmf:listed.getD m false=false:=by
   cases h:listed.getD m false with
   |false=>rfl
   |true=>exact absurd (I.tail m c1 h) (Zq2 _)
  have hsome:Region.ready .any ops listed≠ []:=Q1;by_cases hmr:m∈Region.ready .any ops listed;(·have he:=hall hmr;exact Qb3);exact QJ
theorem wp_region_rel0 {id:Nat} (hm:P.follows .mixedOrders=true) (hchk:relCheck ops m ds deps=true)
 (hst:∀i v w w',R i v w->Ext w w'->R i v w')
 (hstep:∀i o,i<m->ops[i]? =some o->∀V w,Ext W w->(∀j∈deps.getD i [],R j (V (ds.getD j 0)) w)->relAt P o (fillA V ds a) w fun v w'=>Ext w w'∧R i v w')
 (hend:∀V w,Ext W w->(∀j,j<m->R j (V (ds.getD j 0)) w)->wpAny P .any ops Q (ops.size-m) (listedTo ops.size m) (fillA V ds a) w):
 (Code.region id ops true).wp P Q a W:=by
 refine wp_region_any hm ?_
 have hc:cnt ops.size (Array.replicate ops.size false)=ops.size:=by simp only[relCheck,Zno,Zna]at hchk;exact hchk.2
 have hf:∀i,(Array.replicate ops.size false).getD i false=false:=fun i=>QdS
 refine wpAny_rel hchk hst hstep hend _ _ _ _ (fun d=>a.tmps.getD d undef) hc ⟨by simp,(fillA_self ds a).symm,(Ext.refl W).drew,?_,?_,?_⟩
 ·exact Qd1
 ·exact Qd1
 ·exact Qga
end
abbrev Rel:=Value->World->Prop
def eqv (t:Value):Rel:=fun v _=>v=t
def Rel.Stable (R:Rel):Prop:=∀v w w',R v w->Ext w w'->R v w'
theorem eqv_stable (t:Value):Rel.Stable (eqv t):=fun _ _ _ h _=>h
def factsOf (acc:List Rel) (k:Nat) (ds:List Nat) (V:Nat->Value) (w:World):List Nat->Prop
 | []=>True
 |j::l=>(acc.getD (k-1-j) fun _ _=>True) (V (ds.getD j 0)) w∧factsOf acc k ds V w l
theorem factsOf_mem {acc:List Rel} {k:Nat} {ds:List Nat} {V:Nat->Value} {w:World} {l:List Nat}:factsOf acc k ds V w l↔∀j∈l,(acc.getD (k-1-j) fun _ _=>True) (V (ds.getD j 0)) w:=by
 induction l with
 |nil=>simp[factsOf]
 |cons j l ih=>simp[factsOf,ih]
def relPlan (P:Program) (W:World) (a:Act) (ds:List Nat) (deps:List (List Nat)) (fin:List Rel->Prop):List Oper->Nat->List Rel->Prop
 | [],_,acc=>fin acc
 |o::rest,k,acc=>∃R:Rel,R.Stable∧(∀V w,Ext W w->factsOf acc k ds V w (deps.getD k [])->relAt P o (fillA V ds a) w fun v w'=>Ext w w'∧R v w')∧relPlan P W a ds deps fin rest (k+1) (R::acc)
theorem relPlan_get {P:Program} {W:World} {a:Act} {ds:List Nat} {deps:List (List Nat)} {fin:List Rel->Prop}:∀(l:List Oper) (k:Nat) (acc:List Rel),acc.length=k->(∀R∈acc,Rel.Stable R)->relPlan P W a ds deps fin l k acc->
 ∃all:List Rel,all.length=k+l.length∧(∀i,i<k->all[i]? =acc.reverse[i]?)∧(∀R∈all,Rel.Stable R)∧fin all.reverse∧
  ∀i o,l[i]? =some o->∀V w,Ext W w->(∀j∈deps.getD (k+i) [],j<k+i∧(all.getD j fun _ _=>True) (V (ds.getD j 0)) w)->relAt P o (fillA V ds a) w fun v w'=>Ext w w'∧(all.getD (k+i) fun _ _=>True) v w'
 | [],k,acc,hk,hs,h=>⟨acc.reverse,by simpa using hk,fun _ _=>rfl,fun R hR=>hs R (Zq8.1 hR),by rw[ZpC];exact h,fun i o hi=>by simp at hi⟩
 |o::rest,k,acc,hk,hs,h=>by
  obtain⟨R,hR,h1,h2⟩:=h;obtain⟨all,a1,a2,a3,a4,a5⟩:=relPlan_get rest (k+1) (R::acc) (by rw[ZmQ,hk]) (fun X hX=>by rcases Zn8.1 hX with h|h;(·rw[h];exact hR);·exact hs X h) h2;rw[Zo5]at a2;have hlr:acc.reverse.length=k:=(by rw[Zn9,hk]);refine⟨all,by rw[a1,ZmQ];omega,fun i hi=> ?_,a3,a4,fun i o' hi V w hx hf=> ?_⟩;(·exact Qf9)
  ·cases i with
   |zero=>simp only[Znp,Znl]at hi;subst hi;have hget:all[k]? =some R:=QfA;rw[Zoc]at hf;have:=h1 V w hx (factsOf_mem.2 fun j hj=>by obtain⟨hjk,hh⟩:=hf j hj;rw[ZmL,a2 j QhN,Zol QhN,ZoS QhN,hk]at hh;rw[ZmL];exact hh);exact QhD
   |succ i=>rw[Zn2]at hi;have:=a5 i o' hi V w hx Qj7;rw[show k+1+i=k+(i+1) by omega]at this;exact QeN
theorem wp_region_rel {P:Program} {Q:Exit->Act->World->Prop} {W:World} {a:Act} {id:Nat} {ops:Array Oper} (m n:Nat) (hn:ops.size=m+n) (ds:List Nat) (deps:List (List Nat)) (hm:P.follows .mixedOrders=true) (hchk:relCheck ops m ds deps=true)
 (h:relPlan P W a ds deps (fun acc=>∀V w,Ext W w->factsOf acc m ds V w (List.range m)->wpAny P .any ops Q n (listedTo (m+n) m) (fillA V ds a) w) (ops.toList.take m) 0 []):
 (Code.region id ops true).wp P Q a W:=by
 obtain⟨all,a1,_,a3,a4,a5⟩:=relPlan_get _ 0 [] rfl (fun R h=>by cases h) h
 have hmz:m<ops.size:=by simp only[relCheck,Zno,Zna]at hchk;exact hchk.1.1.1.1.1.1.1.1
 have hlen:all.length=m:=by rw[a1,ZmY,Zpc];omega
 have hdm:∀i,i<m->∀j∈deps.getD i [],j<i:=by
  simp only[relCheck,Zno,Zna]at hchk
  have c4:=hchk.1.1.1.1.1.2
  rw[Znd]at c4
  intro i hi j hj
  have h4:=c4 i (ZnK.2 hi)
  cases ho:ops[i]? with
  |none=>rw[ho]at h4;cases h4
  |some o=>exact QeD
 refine wp_region_rel0 (R:=fun i=>all.getD i fun _ _=>True) (m:=m) (ds:=ds) (deps:=deps) hm hchk ?_ ?_ ?_
 ·intro i v w w' h hx
  rw[ZmL]at h⊢
  cases hi:all[i]? with
  |none=>rw[hi]at h;trivial
  |some R=>rw[hi]at h;exact a3 R (ZmT hi) v w w' h hx
 ·intro i o hi ho V w hx hf;have h1:(ops.toList.take m)[i]? =some o:=QfJ;have:=a5 i o h1 V w hx Qi7;rw[Zoa]at this;exact QeN
 ·intro V w hx hf;have h0:=a4 V w hx Qka;rw[hn,show m+n-m=n by omega];exact h0
theorem relPlan_eq' {P:Program} {W:World} {a:Act} {ds:List Nat} {deps:List (List Nat)} {fin:List Rel->Prop} {o:Oper} {rest:List Oper} {k:Nat} {acc:List Rel} {t:Value}
 (h1:∀V w,Ext W w->factsOf acc k ds V w (deps.getD k [])->relAt P o (fillA V ds a) w fun v w'=>Ext w w'∧v=t) (h2:relPlan P W a ds deps fin rest (k+1) (eqv t::acc)):relPlan P W a ds deps fin (o::rest) k acc:=
 ⟨eqv t,eqv_stable t,h1,h2⟩
theorem relPlan_by {P:Program} {W:World} {a:Act} {ds:List Nat} {deps:List (List Nat)} {fin:List Rel->Prop} {o:Oper} {rest:List Oper} {k:Nat} {acc:List Rel} (R:Rel) (hR:R.Stable)
 (h1:∀V w,Ext W w->factsOf acc k ds V w (deps.getD k [])->relAt P o (fillA V ds a) w fun v w'=>Ext w w'∧R v w') (h2:relPlan P W a ds deps fin rest (k+1) (R::acc)):relPlan P W a ds deps fin (o::rest) k acc:=
 ⟨R,hR,h1,h2⟩
theorem fillA_other (V:Nat->Value) (d:Nat):∀(ds:List Nat) (a:Act),ds.contains d=false->(fillA V ds a).tmps.getD d undef=a.tmps.getD d undef:=by
 intro ds
 induction ds with
 |nil=>intro a _;rfl
 |cons c ds ih=>exact Qcd
theorem fillA_here (V:Nat->Value) (d:Nat):∀(ds:List Nat) (a:Act),ds.contains d=true->d<a.tmps.size->(fillA V ds a).tmps.getD d undef=V d:=by
 intro ds
 induction ds with
 |nil=>intro a h;cases h
 |cons c ds ih=>exact QbL
theorem evalHit {A:Act} {V:Nat->Value} {ds:List Nat} {a:Act} (hA:A=fillA V ds a) (d:Nat) (h:(ds.contains d&&decide (d<a.tmps.size))=true):A.eval (.tmp d)=V d:=QeS
theorem evalMiss {A:Act} {V:Nat->Value} {ds:List Nat} {a:Act} (hA:A=fillA V ds a) (d:Nat) (h:ds.contains d=false):A.eval (.tmp d)=a.eval (.tmp d):=by subst hA;exact fillA_other V d ds a h
theorem relAt_ops {P:Program} {o:Oper} {V:Nat->Value} {ds:List Nat} {a:Act} {w:World} {K:Value->World->Prop}
 (h:∀(A:Act) (ρ:Operand->Value),A=fillA V ds a->ρ=A.eval->(∀v,ρ (.const v)=v)->(∀f,ρ (.func f)=.func (.func f) #[] #[])->relUpon P K ((execOp ρ o).run P w)):relAt P o (fillA V ds a) w K:=
 h _ _ rfl rfl (fun _=>rfl) (fun _=>rfl)
theorem relUpon_move {P:Program} {o:Oper} {ρ:Operand->Value} {w:World} {K:Value->World->Prop} {x:Operand} (h:o.op=.move x∨o.op=.assign x:=by first|exact .inl rfl|exact .inr rfl) (hk:K (ρ x) w):relUpon P K ((execOp ρ o).run P w):=QcS
theorem relAt_move {P:Program} {o:Oper} {a:Act} {w:World} {K:Value->World->Prop} {x:Operand} (h:o.op=.move x∨o.op=.assign x:=by first|exact .inl rfl|exact .inr rfl) (hk:K (a.eval x) w):relAt P o a w K:=by unfold relAt;exact QcS
theorem wpAny_tail {P:Program} {ops:Array Oper} {Q:Exit->Act->World->Prop} {fuel:Nat} {listed:Array Bool} {a:Act} {w:World} (i:Nat) (o:Oper) (hr:Region.ready .any ops listed=[i]) (ho:ops[i]? =some o) (hg:o.guard=none)
 (h:o.wp P a w (wpAny P .any ops Q fuel (listed.setIfInBounds i true)) Q):wpAny P .any ops Q (fuel+1) listed a w:=by
 refine⟨fun h=>(by rw[hr]at h;cases h),fun j hj=> ?_⟩
 rw[hr,Znz]at hj
 subst hj
 unfold wpOp
 rw[ho]
 simp only[show Region.wanted o (yielded ops a.tmps)=true by simp[Region.wanted,hg],ZoG]
 exact .inl h
theorem wpAny_tail1 {P:Program} {ops:Array Oper} {Q:Exit->Act->World->Prop} {listed:Array Bool} {V:Nat->Value} {ds:List Nat} {a:Act} {w:World} (i d d2:Nat) (p:Oper) (hr:Region.ready .any ops listed=[i]) (hp:ops[i]? =some p) (hgp:p.guard=none)
 (hpx:p.op=.move (.tmp d)∨p.op=.assign (.tmp d)) (hr3:Region.ready .any ops (listed.setIfInBounds i true)=[]) (hpd:p.dst=some d2) (hsz:(ds.contains d&&decide (d<a.tmps.size))=true)
 (h:Q .normal ((fillA V ds a).put (some d2) (V d)) w):wpAny P .any ops Q 1 listed (fillA V ds a) w:=by
 refine wpAny_tail (fuel:=0) i p hr hp hgp ?_
 refine wp_of_relAt (K:=fun u x=>u=V d∧x=w) (relAt_move (x:=.tmp d) hpx ⟨evalHit rfl d hsz,rfl⟩) (fun u x ⟨hv,hu⟩=>⟨hr3,?_⟩)
 subst hv;subst hu
 rw[hpd];exact h
end Go.Proofs.YtbngggoccndefaaGreatDoor
namespace Go.Proofs.YtbngggoccndefaaGreatDoor
open Go.Proofs.Tryz
open Go.RowKit
def listedL (n m l:Nat):Array Bool:=(listedTo n m).setIfInBounds l false
def relCheckL (ops:Array Oper) (m l:Nat) (ds:List Nat) (deps:List (List Nat)):Bool:=
 decide (m<ops.size)&&decide (ds.length=m)&&decide ds.Nodup&&
 ((
  List.range m).all fun i=>match ops[i]? with
  |some o=>o.guard.isNone&&o.dst==some (ds.getD i 0)&&(deps.getD i []).all fun j=>decide (j<i)&&hasEdge ops i j
  |none=>false)&&
 ((
  List.range ops.size).all fun i=>match ops[i]? with
  |some o=>o.after.all fun e=> !Region.binds .any e || decide (e.on<i)
  |none=>false)&&
 ((List.range m).all fun i=>i==l || (List.range (m+1)).any fun k=>decide (i<k)&&(k !=l)&&hasEdge ops k i)&&
 ((List.range ops.size).all fun i=>decide (i<=m) || (List.range ops.size).any fun k=>decide (m<=k)&&hasEdge ops i k)&&
 decide (cnt ops.size (listedTo ops.size m)=ops.size-m)&&decide (cnt ops.size (Array.replicate ops.size false)=ops.size)&&decide (l<m)&&decide (cnt ops.size (listedL ops.size m l)=ops.size-m+1)
section
variable {P:Program} {ops:Array Oper} {Q:Exit->Act->World->Prop} {W:World} {a:Act} {m l:Nat} {ds:List Nat} {deps:List (List Nat)} {R:Nat->Value->World->Prop}
theorem wpAny_relL (hchk:relCheckL ops m l ds deps=true)
 (hst:∀i v w w',R i v w->Ext w w'->R i v w')
 (hstep:∀i o,i<m->ops[i]? =some o->∀V w,Ext W w->(∀j∈deps.getD i [],R j (V (ds.getD j 0)) w)->relAt P o (fillA V ds a) w fun v w'=>Ext w w'∧R i v w')
 (hend:∀V w,Ext W w->(∀j,j<m->R j (V (ds.getD j 0)) w)->wpAny P .any ops Q (ops.size-m) (listedTo ops.size m) (fillA V ds a) w)
 (hend2:∀V w,Ext W w->(∀j,j<m->j≠l->R j (V (ds.getD j 0)) w)->wpAny P .any ops Q (ops.size-m+1) (listedL ops.size m l) (fillA V ds a) w):
 ∀(fuel:Nat) (listed:Array Bool) (b:Act) (w:World) (V:Nat->Value),cnt ops.size listed=fuel->RelInv ops W a m ds R listed b w V->wpAny P .any ops Q fuel listed b w:=by
 simp only[relCheckL,Zno,Zna]at hchk
 obtain⟨⟨⟨⟨⟨⟨⟨⟨⟨⟨c1,c2⟩,c3⟩,c4⟩,c5⟩,c6⟩,c7⟩,c8⟩,c9⟩,c10⟩,c11⟩:=hchk
 rw[Znd]at c4 c5 c6 c7
 intro fuel
 induction fuel with
 |zero=>exact Qbc
 |succ fuel ih=>
  intro listed b w V hc I;have hall:m∈Region.ready .any ops listed->listed=listedTo ops.size m∨listed=listedL ops.size m l:=fun hr=>by
   obtain⟨hmf,o,ho,hdep⟩:=Zqy.1 hr
   have hl:∀d i,i<m->i≠l->m-i=d->listed.getD i false=true:=by
    intro d
    induction d using Nat.strongRecOn with
    |_ d ihd=>exact Qa8
   have hrest:∀i,i<ops.size->¬i<m->listed.getD i false=false:=fun i h1' him=>by
    cases h:listed.getD i false with
    |false=>rfl
    |true=>exact absurd (I.tail i h1' h) him
   cases hll:listed.getD l false with
   |true=>exact Qbv
   |false=>right;apply Zqw;(·rw[I.size];simp[listedL,listedTo];omega);·intro i h1 h2;have h1':i<ops.size:=QiP;by_cases e:l=i;(·subst e;simp[h1]at hll;simp[listedL,hll]);·by_cases him:i<m;(·have:=hl _ i him (fun h=>e h.symm) rfl;simp[h1]at this;simp[listedL,listedTo,ZpB,e,him,this]);·have:=hrest i h1' him;simp[h1]at this;simp[listedL,listedTo,ZpB,e,Zqq,him,this]
  have hmf:listed.getD m false=false:=by
   cases h:listed.getD m false with
   |false=>rfl
   |true=>exact absurd (I.tail m c1 h) (Zq2 _)
  have hsome:Region.ready .any ops listed≠ []:=Q1;by_cases hmr:m∈Region.ready .any ops listed;(·exact Qbk);exact QJ
theorem wp_region_relL0 {id:Nat} (hm:P.follows .mixedOrders=true) (hchk:relCheckL ops m l ds deps=true)
 (hst:∀i v w w',R i v w->Ext w w'->R i v w')
 (hstep:∀i o,i<m->ops[i]? =some o->∀V w,Ext W w->(∀j∈deps.getD i [],R j (V (ds.getD j 0)) w)->relAt P o (fillA V ds a) w fun v w'=>Ext w w'∧R i v w')
 (hend:∀V w,Ext W w->(∀j,j<m->R j (V (ds.getD j 0)) w)->wpAny P .any ops Q (ops.size-m) (listedTo ops.size m) (fillA V ds a) w)
 (hend2:∀V w,Ext W w->(∀j,j<m->j≠l->R j (V (ds.getD j 0)) w)->wpAny P .any ops Q (ops.size-m+1) (listedL ops.size m l) (fillA V ds a) w):
 (Code.region id ops true).wp P Q a W:=by
 refine wp_region_any hm ?_
 have hc:cnt ops.size (Array.replicate ops.size false)=ops.size:=Qe5
 have hf:∀i,(Array.replicate ops.size false).getD i false=false:=fun i=>QdS
 refine wpAny_relL hchk hst hstep hend hend2 _ _ _ _ (fun d=>a.tmps.getD d undef) hc ⟨by simp,(fillA_self ds a).symm,(Ext.refl W).drew,?_,?_,?_⟩
 ·exact Qd1
 ·exact Qd1
 ·exact Qga
end
end Go.Proofs.YtbngggoccndefaaGreatDoor
namespace Go.Proofs.YtbngggoccndefaaGreatDoor
open Go.Proofs.Tryz
open Go.RowKit
theorem Zas {P:Program} {ops:Array Oper} {Q:Exit->Act->World->Prop} {fuel:Nat} {listed:Array Bool} {a:Act} {w:World} (i:Nat) {o:Oper} (hr:Region.ready .any ops listed=[i]) (ho:ops[i]? =some o)
 (h:∀K':Act->World->Prop,(∀a w,wpAny P .any ops Q fuel (listed.setIfInBounds i true) a w->K' a w)->if Region.wanted o (yielded ops a.tmps)=true then Oper.wp P o a w K' Q else K' (a.put o.dst undef) w):wpAny P .any ops Q (fuel+1) listed a w:=
 wpAny_ready hr QhQ (Zq3 ho h AllReady.nil)
end Go.Proofs.YtbngggoccndefaaGreatDoor
end
