/-
  Laid.
-/
import Derived.Test.YtbngggoccndefaaGreatDoorRt13
import Derived.Test.YtbngggoccndefaaGreatDoorRt18
set_option maxHeartbeats 8000000
set_option maxRecDepth 100000
set_option linter.all false
namespace Go.Proofs.YtbngggoccndefaaGreatDoor
open Go.Proofs.Tryz
section
open Go.RowKit
def Zv (P:Program) (K:Value->World->Prop):Result Next->Prop
 | .ok (.value v) w'=>K v w'
 | .ok .skip w'=>K undef w'
 | .ok (.enter f args) w'=>Calls P f args w' fun e w''=>∃v,e=.returned v∧K v w''
 |_=>False
def K8 (P:Program) (o:Oper) (a:Act) (w:World) (K:Value->World->Prop):Prop:=Zv P K ((execOp a.eval o).run P w)
theorem nV {P:Program} {o:Oper} {a:Act} {w:World} {K:Value->World->Prop} {K':Act->World->Prop} {Q:Exit->Act->World->Prop}
 (h:K8 P o a w K) (hk:∀v w',K v w'->K' (a.put o.dst v) w'):o.wp P a w K' Q:=by
 unfold K8 at h
 unfold Oper.wp
 generalize(execOp a.eval o).run P w=r at*
 cases r with
 |ok n w'=>cases n<;>simp only[Zv]at h<;>simp only[Oper.upon];(case value u=>exact hk _ _ h);(case skip=>exact hk _ _ h);case enter f args=>exact h.mono fun e w'' ⟨v,he,hv⟩=>by subst he;exact hk _ _ hv
 |halt x w'=>simp only[Zv]at h
def Zy (V:Nat->Value) (ds:List Nat) (a:Act):Act:=ds.foldl (fun a d=>a.put (some d) (V d)) a
theorem nW (a:Act) (d:Nat):a.put (some d) (a.tmps.getD d undef)=a:=by
 cases a with
 |mk t df=>unfold Act.put;simp only;congr 1;apply Array.ext;(·simp);·intro i h1 h2;rw[Array.getElem_setIfInBounds];split;(·rename_i he;subst he;simp at h1;simp[h1]);·rfl
theorem nX (a:Act) (d:Nat) (u v:Value):(a.put (some d) u).put (some d) v=a.put (some d) v:=by unfold Act.put;simp[Array.setIfInBounds_setIfInBounds]
theorem nY (ds:List Nat):∀a:Act,Zy (fun d=>a.tmps.getD d undef) ds a=a:=by
 intro a;have:∀(ds:List Nat) (b:Act),b=a->ds.foldl (fun b d=>b.put (some d) (a.tmps.getD d undef)) b=a:=by
  intro ds
  induction ds with
  |nil=>intro b hb;exact hb
  |cons d ds ih=>intro b hb;rw[I3];apply ih;subst hb;exact nW _ d
 exact this ds a rfl
theorem nZ (V:Nat->Value) (d:Nat) (v:Value):∀(ds:List Nat) (a:Act),d∉ds->(Zy V ds a).put (some d) v=Zy (fun x=>if x=d then v else V x) ds (a.put (some d) v):=by
 intro ds
 induction ds with
 |nil=>intro a _;rfl
 |cons c ds ih=>intro a hd;simp only[U1,not_or]at hd;show(Zy V ds (a.put (some c) (V c))).put (some d) v=Zy _ ds ((a.put (some d) v).put (some c) (if c=d then v else V c));rw[ih _ hd.2,D0 (fun h=>hd.1 h.symm),Act.put_comm a (x:=some c) (y:=some d) (V c) v (fun x hx=>by injection hx with hx;subst hx;intro h;injection h with h;exact hd.1 h)]
theorem oA (V:Nat->Value) (d:Nat) (v:Value):∀(ds:List Nat) (a:Act),ds.Nodup->d∈ds->(Zy V ds a).put (some d) v=Zy (fun x=>if x=d then v else V x) ds a:=by
 intro ds
 induction ds with
 |nil=>intro a _ h;cases h
 |cons c ds ih=>intro a hn hd;rw[RO]at hn;rcases U1.1 hd with rfl|hd;(·show(Zy V ds (a.put (some d) (V d))).put (some d) v=Zy _ ds (a.put (some d) (if d=d then v else V d));rw[nZ V d v ds _ hn.1,nX,G0 rfl]);·have hne:c≠d:=fun h=>hn.1 (h▸hd);show(Zy V ds (a.put (some c) (V c))).put (some d) v=Zy _ ds (a.put (some c) (if c=d then v else V c));rw[ih _ hn.2 hd,D0 hne]
def WW (ops:Array Oper) (k i:Nat):Bool:=match ops[k]? with
 |some o=>o.after.any fun e=>Region.binds .any e&&e.on==i
 |none=>false
def L8 (n m:Nat):Array Bool:=(List.replicate m true++List.replicate (n-m) false).toArray
def cnt (n:Nat) (l:Array Bool):Nat:=(List.range n).countP fun i=> !l.getD i true
def YV (ops:Array Oper) (m:Nat) (ds:List Nat) (deps:List (List Nat)):Bool:=
 decide (m<ops.size)&&decide (ds.length=m)&&decide ds.Nodup&&
 ((
  List.range m).all fun i=>match ops[i]? with
  |some o=>o.guard.isNone&&o.dst==some (ds.getD i 0)&&(deps.getD i []).all fun j=>decide (j<i)&&WW ops i j
  |none=>false)&&
 ((
  List.range ops.size).all fun i=>match ops[i]? with
  |some o=>o.after.all fun e=> !Region.binds .any e || decide (e.on<i)
  |none=>false)&&
 ((List.range m).all fun i=>(List.range (m+1)).any fun k=>decide (i<k)&&WW ops k i)&&
 ((List.range ops.size).all fun i=>decide (i<=m) || (List.range ops.size).any fun k=>decide (m<=k)&&WW ops i k)&&
 decide (cnt ops.size (L8 ops.size m)=ops.size-m)&&decide (cnt ops.size (Array.replicate ops.size false)=ops.size)
theorem oB {l:List Nat} (hn:l.Nodup) {p q:Nat->Bool} {i:Nat} (hi:i∈l) (hp:p i=true) (hq:q i=false) (h:∀j,j≠i->q j=p j):l.countP q+1=l.countP p:=by
 induction l with
 |nil=>cases hi
 |cons c l ih=>rw[RO]at hn;rcases U1.1 hi with rfl|hi;(·rw[OV,OV,hp,hq];have:l.countP q=l.countP p:=List.countP_congr (fun x hx=>by rw[h x (fun e=>hn.1 (e▸hx))]);simp[this]);·have hc:c≠i:=fun e=>hn.1 (e▸hi);have:=ih hn.2 hi;rw[OV,OV,h c hc];omega
theorem jH {n:Nat} {l:Array Bool} {i:Nat} (hs:l.size=n) (h:l.getD i true=false):cnt n (l.setIfInBounds i true)+1=cnt n l:=by
 have hi:i<n:=by rcases N5 i n with h'|h';(·exact h');·rw[<-hs]at h';simp[XY h']at h
 refine oB List.nodup_range (N4.2 hi) (by rw[h];rfl) ?_ ?_;·simp[hs,hi]
 ·intro j hj;rw[OW true (Ne.symm hj)]
theorem OX {ops:Array Oper} {k i:Nat} {o:Oper} (ho:ops[k]? =some o) (h:WW ops k i=true):∃e∈o.after,Region.binds .any e=true∧e.on=i:=by unfold WW at h;rw[ho]at h;simp only[Array.any_eq_true',N1,C2]at h;obtain⟨e,he,hb,h⟩:=h;exact⟨e,he,hb,h⟩
section
variable {P:Program} {ops:Array Oper} {Q:Exit->Act->World->Prop} {W:World} {a:Act} {m:Nat} {ds:List Nat} {deps:List (List Nat)} {R:Nat->Value->World->Prop}
structure oC (ops:Array Oper) (W:World) (a:Act) (m:Nat) (ds:List Nat) (R:Nat->Value->World->Prop) (listed:Array Bool) (b:Act) (w:World) (V:Nat->Value):Prop where
 size:listed.size=ops.size
 fill:b=Zy V ds a
 ext:Ext W w
 tail:∀i,i<ops.size->listed.getD i false=true->i<m
 fact:∀i,i<m->listed.getD i false=true->R i (V (ds.getD i 0)) w
 down:∀k i,k<ops.size->listed.getD k false=true->WW ops k i=true->listed.getD i false=true
theorem jI {l:Array Bool} {i:Nat} (h:i<l.size):l.getD i true=l.getD i false:=by simp[h]
theorem oD (hchk:YV ops m ds deps=true)
 (hst:∀i v w w',R i v w->Ext w w'->R i v w')
 (hstep:∀i o,i<m->ops[i]? =some o->∀V w,Ext W w->(∀j∈deps.getD i [],R j (V (ds.getD j 0)) w)->K8 P o (Zy V ds a) w fun v w'=>Ext w w'∧R i v w')
 (hend:∀V w,Ext W w->(∀j,j<m->R j (V (ds.getD j 0)) w)->wpAny P .any ops Q (ops.size-m) (L8 ops.size m) (Zy V ds a) w):
 ∀(fuel:Nat) (listed:Array Bool) (b:Act) (w:World) (V:Nat->Value),cnt ops.size listed=fuel->oC ops W a m ds R listed b w V->wpAny P .any ops Q fuel listed b w:=by
 simp only[YV,N1,V1]at hchk
 obtain⟨⟨⟨⟨⟨⟨⟨⟨c1,c2⟩,c3⟩,c4⟩,c5⟩,c6⟩,c7⟩,c8⟩,c9⟩:=hchk
 rw[S1]at c4 c5 c6 c7
 intro fuel
 induction fuel with
 |zero=>
  intro listed b w V hc I;exfalso;have hm:listed.getD m true=false:=by
   rw[jI (by rw[I.size];exact c1)]
   cases h:listed.getD m false with
   |false=>rfl
   |true=>exact absurd (I.tail m c1 h) (Nat.lt_irrefl _)
  have:=jH I.size hm;omega
 |succ fuel ih=>
  intro listed b w V hc I;have hall:m∈Region.ready .any ops listed->listed=L8 ops.size m:=fun hr=>by
   obtain⟨hmf,o,ho,hdep⟩:=mem_ready.1 hr;have hl:∀d i,i<m->m-i=d->listed.getD i false=true:=by
    intro d
    induction d using Nat.strongRecOn with
    |_ d ihd=>intro i hi hd;have h6:=c6 i (N4.2 hi);rw[J8]at h6;obtain⟨k,hk,hik⟩:=h6;rw[N4]at hk;rw[N1,V1]at hik;by_cases hkm:k=m;(·subst hkm;obtain⟨e,he,hb,hon⟩:=OX ho hik.2;rw[<-hon];exact hdep e he hb);·have hk':listed.getD k false=true:=ihd (m-k) C0 k C0 rfl;exact I.down k i C0 hk' hik.2
   apply Array.ext;(·rw[I.size];simp[L8];omega)
   ·intro i h1 h2;have h1':i<ops.size:=(by rw[<-I.size];exact h1);by_cases him:i<m;(·have:=hl _ i him rfl;simp[h1]at this;simp[L8,him,this])
    ·have:listed.getD i false=false:=by
      cases h:listed.getD i false with
      |false=>rfl
      |true=>exact absurd (I.tail i h1' h) him
     simp[h1]at this;simp[L8,List.getElem_append,him,this]
  have hmf:listed.getD m false=false:=by
   cases h:listed.getD m false with
   |false=>rfl
   |true=>exact absurd (I.tail m c1 h) (Nat.lt_irrefl _)
  have hsome:Region.ready .any ops listed≠ []:=by
   intro hnil;have key:∀i,i<=m->listed.getD i false=true:=by
    intro i
    induction i using Nat.strongRecOn with
    |_ i ihi=>
     intro him
     cases h:listed.getD i false with
     |true=>rfl
     |false=>exfalso;have hin:i<ops.size:=C0;have h5:=c5 i (N4.2 hin);obtain⟨o,ho⟩:∃o,ops[i]? =some o:=⟨_,Array.getElem?_eq_getElem hin⟩;rw[ho]at h5;simp only[Array.all_eq_true_iff_forall_mem,F8,Bool.not_eq_true',V1]at h5;have:i∈Region.ready .any ops listed:=(by rw[mem_ready];refine⟨by rw[jI (by rw[I.size];exact hin)];exact h,o,ho,fun e he hb=> ?_⟩;rcases h5 e he with h5|h5;(·rw[hb]at h5;cases h5);·exact ihi e.on h5 C0);rw[hnil]at this;cases this
   rw[key m (I0 _)]at hmf;cases hmf
  by_cases hmr:m∈Region.ready .any ops listed;(·have he:=hall hmr;subst he;rw[<-hc,c8,I.fill];refine hend V w I.ext (fun j hj=>I.fact j hj ?_);have:j<ops.size:=C0;simp[L8,List.getElem?_append,hj]);refine⟨fun h=>absurd h hsome,fun i hi=> ?_⟩;obtain⟨hiu,o,ho,hdep⟩:=mem_ready.1 hi;have hin:i<ops.size:=(F3.1 ho).1;have him:i<m:=(by rcases Nat.lt_trichotomy i m with h|h|h;(·exact h);(·exact absurd (h▸hi) hmr);·exfalso;have h7:=c7 i (N4.2 hin);rw[F8,V1,J8]at h7;rcases h7 with h7|⟨k,hk,hik⟩;(·omega);·rw[N4]at hk;rw[N1,V1]at hik;obtain⟨e,he,hb,hon⟩:=OX ho hik.2;have:=hdep e he hb;rw[hon]at this;exact absurd (I.tail k hk this) C0);have h4:=c4 i (N4.2 him);rw[ho]at h4;simp only[N1,C2,S1,V1]at h4;obtain⟨⟨hg,hd⟩,hdd⟩:=h4;have hgn:o.guard=none:=by cases h:o.guard with
   |none=>rfl
   |some x=>rw[h]at hg;cases hg
  have hw:Region.wanted o (yielded ops b.tmps)=true:=(by simp[Region.wanted,hgn]);unfold wpOp;rw[ho];simp only[hw,R4];refine .inl ?_;have hs:=hstep i o him ho V w I.ext (fun j hj=>by obtain⟨h1,h2⟩:=hdd j hj;obtain⟨e,he,hb,hon⟩:=OX ho h2;exact I.fact j C0 (by rw[<-hon];exact hdep e he hb));rw[I.fill];refine nV hs (fun v w' ⟨hx,hR⟩=> ?_);have hmem:ds.getD i 0∈ds:=(by rw[A1,P0 C0];exact K4 _);rw[hd,oA V _ v ds a c3 hmem];refine ih _ _ _ _ ?_ ⟨?_,rfl,I.ext.trans hx,?_,?_,?_⟩;(·have:=jH I.size hiu;omega);(·rw[Array.size_setIfInBounds];exact I.size);(·intro k hk hl;by_cases hki:i=k;(·omega);·rw[OW false hki]at hl;exact I.tail k hk hl);(·intro k hk hl;by_cases hki:i=k;(·subst hki;rw[G0 rfl];exact hR);·rw[OW false hki]at hl;have hne:ds.getD k 0≠ds.getD i 0:=(by rw[A1,A1,P0 (show k<ds.length by omega),P0 (show i<ds.length by omega)];simp only[Option.getD_some];intro h;exact hki ((List.getElem_inj c3).1 h).symm);rw[D0 hne];exact hst k _ _ _ (I.fact k hk hl) hx);·intro k j hk hl hj;by_cases hki:i=k;(·subst hki;obtain⟨e,he,hb,hon⟩:=OX ho hj;exact getD_set_true (by rw[<-hon];exact hdep e he hb));·rw[OW false hki]at hl;exact getD_set_true (I.down k j hk hl hj)
theorem oE {id:Nat} (hm:P.follows .mixedOrders=true) (hchk:YV ops m ds deps=true)
 (hst:∀i v w w',R i v w->Ext w w'->R i v w')
 (hstep:∀i o,i<m->ops[i]? =some o->∀V w,Ext W w->(∀j∈deps.getD i [],R j (V (ds.getD j 0)) w)->K8 P o (Zy V ds a) w fun v w'=>Ext w w'∧R i v w')
 (hend:∀V w,Ext W w->(∀j,j<m->R j (V (ds.getD j 0)) w)->wpAny P .any ops Q (ops.size-m) (L8 ops.size m) (Zy V ds a) w):
 (Code.region id ops true).wp P Q a W:=by
 refine wp_region_any hm ?_
 have hc:cnt ops.size (Array.replicate ops.size false)=ops.size:=by simp only[YV,N1,V1]at hchk;exact hchk.2
 have hf:∀i,(Array.replicate ops.size false).getD i false=false:=fun i=>by rw[BW,Array.getElem?_replicate];split<;>rfl
 refine oD hchk hst hstep hend _ _ _ _ (fun d=>a.tmps.getD d undef) hc ⟨by simp,(nY ds a).symm,(Ext.refl W).drew,?_,?_,?_⟩
 ·intro i _ h;rw[hf]at h;cases h
 ·intro i _ h;rw[hf]at h;cases h
 ·intro k i _ h;rw[hf]at h;cases h
end
abbrev Rel:=Value->World->Prop
def eqv (t:Value):Rel:=fun v _=>v=t
def Rel.Stable (R:Rel):Prop:=∀v w w',R v w->Ext w w'->R v w'
theorem Zw (t:Value):Rel.Stable (eqv t):=fun _ _ _ h _=>h
def P9 (acc:List Rel) (k:Nat) (ds:List Nat) (V:Nat->Value) (w:World):List Nat->Prop
 | []=>True
 |j::l=>(acc.getD (k-1-j) fun _ _=>True) (V (ds.getD j 0)) w∧P9 acc k ds V w l
theorem jJ {acc:List Rel} {k:Nat} {ds:List Nat} {V:Nat->Value} {w:World} {l:List Nat}:P9 acc k ds V w l↔∀j∈l,(acc.getD (k-1-j) fun _ _=>True) (V (ds.getD j 0)) w:=by
 induction l with
 |nil=>simp[P9]
 |cons j l ih=>simp[P9,ih]
def YW (P:Program) (W:World) (a:Act) (ds:List Nat) (deps:List (List Nat)) (fin:List Rel->Prop):List Oper->Nat->List Rel->Prop
 | [],_,acc=>fin acc
 |o::rest,k,acc=>∃R:Rel,R.Stable∧(∀V w,Ext W w->P9 acc k ds V w (deps.getD k [])->K8 P o (Zy V ds a) w fun v w'=>Ext w w'∧R v w')∧YW P W a ds deps fin rest (k+1) (R::acc)
theorem jK {P:Program} {W:World} {a:Act} {ds:List Nat} {deps:List (List Nat)} {fin:List Rel->Prop}:∀(l:List Oper) (k:Nat) (acc:List Rel),acc.length=k->(∀R∈acc,Rel.Stable R)->YW P W a ds deps fin l k acc->
 ∃all:List Rel,all.length=k+l.length∧(∀i,i<k->all[i]? =acc.reverse[i]?)∧(∀R∈all,Rel.Stable R)∧fin all.reverse∧
  ∀i o,l[i]? =some o->∀V w,Ext W w->(∀j∈deps.getD (k+i) [],j<k+i∧(all.getD j fun _ _=>True) (V (ds.getD j 0)) w)->K8 P o (Zy V ds a) w fun v w'=>Ext w w'∧(all.getD (k+i) fun _ _=>True) v w'
 | [],k,acc,hk,hs,h=>⟨acc.reverse,by simpa using hk,fun _ _=>rfl,fun R hR=>hs R (SF.1 hR),by rw[SE];exact h,fun i o hi=>by simp at hi⟩
 |o::rest,k,acc,hk,hs,h=>by
  obtain⟨R,hR,h1,h2⟩:=h;obtain⟨all,a1,a2,a3,a4,a5⟩:=jK rest (k+1) (R::acc) (by rw[S0,hk]) (fun X hX=>by rcases U1.1 hX with h|h;(·rw[h];exact hR);·exact hs X h) h2;rw[R8]at a2;have hlr:acc.reverse.length=k:=(by rw[P4,hk]);refine⟨all,by rw[a1,S0];omega,fun i hi=> ?_,a3,a4,fun i o' hi V w hx hf=> ?_⟩;(·rw[a2 i C0,YA C0])
  ·cases i with
   |zero=>simp only[E3,A2]at hi;subst hi;have hget:all[k]? =some R:=(by rw[a2 k C0,XE C0,hlr];simp);rw[G6]at hf;have:=h1 V w hx (jJ.2 fun j hj=>by obtain⟨hjk,hh⟩:=hf j hj;rw[A1,a2 j C0,YA C0,OY C0,hk]at hh;rw[A1];exact hh);rw[G6,A1,hget];exact R2
   |succ i=>rw[R3]at hi;have:=a5 i o' hi V w hx (by rw[show k+1+i=k+(i+1) by omega];exact hf);rw[show k+1+i=k+(i+1) by omega]at this;exact R2
theorem FI {P:Program} {Q:Exit->Act->World->Prop} {W:World} {a:Act} {id:Nat} {ops:Array Oper} (m n:Nat) (hn:ops.size=m+n) (ds:List Nat) (deps:List (List Nat)) (hm:P.follows .mixedOrders=true) (hchk:YV ops m ds deps=true)
 (h:YW P W a ds deps (fun acc=>∀V w,Ext W w->P9 acc m ds V w (List.range m)->wpAny P .any ops Q n (L8 (m+n) m) (Zy V ds a) w) (ops.toList.take m) 0 []):
 (Code.region id ops true).wp P Q a W:=by
 obtain⟨all,a1,_,a3,a4,a5⟩:=jK _ 0 [] rfl (fun R h=>by cases h) h
 have hmz:m<ops.size:=by simp only[YV,N1,V1]at hchk;exact hchk.1.1.1.1.1.1.1.1
 have hlen:all.length=m:=by rw[a1,L1,VB];omega
 have hdm:∀i,i<m->∀j∈deps.getD i [],j<i:=by
  simp only[YV,N1,V1]at hchk
  have c4:=hchk.1.1.1.1.1.2
  rw[S1]at c4
  intro i hi j hj
  have h4:=c4 i (N4.2 hi)
  cases ho:ops[i]? with
  |none=>rw[ho]at h4;cases h4
  |some o=>rw[ho]at h4;simp only[N1,S1,V1]at h4;exact(h4.2 j hj).1
 refine oE (R:=fun i=>all.getD i fun _ _=>True) (m:=m) (ds:=ds) (deps:=deps) hm hchk ?_ ?_ ?_
 ·intro i v w w' h hx
  rw[A1]at h⊢
  cases hi:all[i]? with
  |none=>rw[hi]at h;trivial
  |some R=>rw[hi]at h;exact a3 R (I1 hi) v w w' h hx
 ·intro i o hi ho V w hx hf;have h1:(ops.toList.take m)[i]? =some o:=(by rw[XX,G0 hi,Array.getElem?_toList];exact ho);have:=a5 i o h1 V w hx (by intro j hj;rw[P3]at hj⊢;exact⟨hdm i hi j hj,hf j hj⟩);rw[P3]at this;exact R2
 ·intro V w hx hf;have h0:=a4 V w hx (by rw[jJ];intro j hj;have hjm:=N4.1 hj;have:=hf j hjm;rw[A1]at this⊢;rw[OY C0,hlen,show m-1-(m-1-j)=j by omega];exact this);rw[hn,show m+n-m=n by omega];exact h0
theorem Z8 {P:Program} {W:World} {a:Act} {ds:List Nat} {deps:List (List Nat)} {fin:List Rel->Prop} {o:Oper} {rest:List Oper} {k:Nat} {acc:List Rel} {t:Value}
 (h1:∀V w,Ext W w->P9 acc k ds V w (deps.getD k [])->K8 P o (Zy V ds a) w fun v w'=>Ext w w'∧v=t) (h2:YW P W a ds deps fin rest (k+1) (eqv t::acc)):YW P W a ds deps fin (o::rest) k acc:=
 ⟨eqv t,Zw t,h1,h2⟩
theorem Zl {P:Program} {W:World} {a:Act} {ds:List Nat} {deps:List (List Nat)} {fin:List Rel->Prop} {o:Oper} {rest:List Oper} {k:Nat} {acc:List Rel} (R:Rel) (hR:R.Stable)
 (h1:∀V w,Ext W w->P9 acc k ds V w (deps.getD k [])->K8 P o (Zy V ds a) w fun v w'=>Ext w w'∧R v w') (h2:YW P W a ds deps fin rest (k+1) (R::acc)):YW P W a ds deps fin (o::rest) k acc:=
 ⟨R,hR,h1,h2⟩
theorem jL (V:Nat->Value) (d:Nat):∀(ds:List Nat) (a:Act),ds.contains d=false->(Zy V ds a).tmps.getD d undef=a.tmps.getD d undef:=by
 intro ds
 induction ds with
 |nil=>intro a _;rfl
 |cons c ds ih=>intro a h;simp only[List.contains_cons,KQ,V0]at h;show(Zy V ds (a.put (some c) (V c))).tmps.getD d undef=_;rw[ih _ (by simpa using h.2)];unfold Act.put;simp[FJ (show c≠d from fun e=>h.1 e.symm)]
theorem oF (V:Nat->Value) (d:Nat):∀(ds:List Nat) (a:Act),ds.contains d=true->d<a.tmps.size->(Zy V ds a).tmps.getD d undef=V d:=by
 intro ds
 induction ds with
 |nil=>intro a h;cases h
 |cons c ds ih=>intro a h hs;show(Zy V ds (a.put (some c) (V c))).tmps.getD d undef=_;by_cases hd:ds.contains d=true;(·exact ih _ hd (by simp[Act.put];exact hs));·have hd':ds.contains d=false:=(by simpa using hd);rw[jL V d ds _ hd'];simp only[List.contains_cons,hd',Bool.or_false,C2]at h;subst h;simp[Act.put,hs]
theorem Zo {A:Act} {V:Nat->Value} {ds:List Nat} {a:Act} (hA:A=Zy V ds a) (d:Nat) (h:(ds.contains d&&decide (d<a.tmps.size))=true):A.eval (.tmp d)=V d:=by rw[N1,V1]at h;subst hA;exact oF V d ds a h.1 h.2
theorem M8 {A:Act} {V:Nat->Value} {ds:List Nat} {a:Act} (hA:A=Zy V ds a) (d:Nat) (h:ds.contains d=false):A.eval (.tmp d)=a.eval (.tmp d):=by subst hA;exact jL V d ds a h
theorem Zg {P:Program} {o:Oper} {V:Nat->Value} {ds:List Nat} {a:Act} {w:World} {K:Value->World->Prop}
 (h:∀(A:Act) (ρ:Operand->Value),A=Zy V ds a->ρ=A.eval->(∀v,ρ (.const v)=v)->(∀f,ρ (.func f)=.func (.func f) #[] #[])->Zv P K ((execOp ρ o).run P w)):K8 P o (Zy V ds a) w K:=
 h _ _ rfl rfl (fun _=>rfl) (fun _=>rfl)
theorem ZM {P:Program} {o:Oper} {ρ:Operand->Value} {w:World} {K:Value->World->Prop} {x:Operand} (h:o.op=.move x∨o.op=.assign x:=by first|exact .inl rfl|exact .inr rfl) (hk:K (ρ x) w):Zv P K ((execOp ρ o).run P w):=by
 rcases h with h|h;·rw[BigFrame.run_move x h];exact hk
 ·rw[BigFrame.run_assign x h];exact hk
end
end Go.Proofs.YtbngggoccndefaaGreatDoor
section
namespace Go.Proofs.YtbngggoccndefaaGreatDoor
open Go.Proofs.Tryz
end Go.Proofs.YtbngggoccndefaaGreatDoor
namespace Go.Proofs.YtbngggoccndefaaGreatDoor
open Go.Proofs.Tryz
open Go.RowKit
theorem sym_len {k:Int} {l:List UInt8} (h:Ea.full k l=0):(Ea.sym k l).length<=95:=by
 obtain⟨h1,h2,h3,h4,_⟩:=Ea.full_ok h;rcases Ea.kinds h1 with rfl|rfl|rfl|rfl;·show(Ea.sym13 l).length<=95;rw[Ea.sym13_len h2 h3];omega
 ·show(Ea.sym8 l).length<=95;rw[Ea.sym8_len h2 h3];omega
 ·show(Ea.sym13 (48::l)).length<=95;rw[Ea.sym13_len (Ea.digs_cons J0 h2) PH];omega
 ·show(Ea.symE l).length<=95;rw[Ea.symE_len h2 h3 (Ea.dv2 h2 (by rw[h3];decide) (h4 rfl))];omega
end Go.Proofs.YtbngggoccndefaaGreatDoor
end
namespace Go.Proofs.YtbngggoccndefaaGreatDoor
open Go.Proofs.Tryz
section
open Go.RowKit
theorem FK {P:Program} {ops:Array Oper} {Q:Exit->Act->World->Prop} {fuel:Nat} {listed:Array Bool} {a:Act} {w:World} (i:Nat) {o:Oper} (hr:Region.ready .any ops listed=[i]) (ho:ops[i]? =some o)
 (h:∀K':Act->World->Prop,(∀a w,wpAny P .any ops Q fuel (listed.setIfInBounds i true) a w->K' a w)->if Region.wanted o (yielded ops a.tmps)=true then Oper.wp P o a w K' Q else K' (a.put o.dst undef) w):wpAny P .any ops Q (fuel+1) listed a w:=
 wpAny_ready hr L0 (AllReady.cons ho h AllReady.nil)
theorem Sl.part {w:World} {b o n c:Nat} {l:List Value} (h:Sl w (.slice (some ⟨b,o,none⟩) n c) l) (i k c':Nat) (hk:k<=l.length) (hi:i<=k):Sl w (.slice (some ⟨b,o+i,none⟩) (k-i) c') ((l.take k).drop i):=by
 have hlen:((l.take k).drop i).length=k-i:=by rw[L2,L1];omega
 by_cases h0:k-i=0;·exact .inl ⟨V2 (by rw[hlen,h0]),_,_,by rw[h0]⟩
 ·rcases h with⟨rfl,_⟩|⟨b',o',cap,he,hb,hc⟩;(·simp at hk;omega);·injection he with h1 h2 h3;injection h1 with h1;injection h1 with h1 h4;subst h1 h4;refine .inr ⟨b,o+i,c',by rw[hlen],hb,fun j hj=> ?_⟩;rw[hlen]at hj;rw[Nat.add_assoc,hc (i+j) C0,YJ,XX,G0 C0]
theorem oG (v:Value) (vs:List Int) (w:World) (hv:SlK w v (vs.map encI)) (hl:vs.length<=400000):
 Calls prog 141 #[v] w (V4 (Cc.chars vs) w):=by
 obtain⟨hsl,a,c,rfl,hcap⟩:=hv
 rw[N0]at hsl hcap⊢
 obtain⟨n,hn⟩:∃n,n=vs.length:=⟨_,rfl⟩
 have HR:=B0 (Cc.chars.eq_1 vs)
 rw[<-hn]at hsl hl hcap⊢
 rw[<-hn]at HR
 have HN:=B0 hn
 have HV:=B0 hsl
 generalize Cc.chars vs=res at*
 clear hsl hn
 go_enter func141,ntmps141
 go_wp2_with fail
 go_loop [9] (fun t=>∃j:Nat,j<=n∧t=.int .i64 (j:Int)∧Hid (∀x∈vs.take j,0<=x∧x<=106)) (fun t=>n-(intOf t).toNat)
 case atStart=>exact LD
 case round=>
 obtain⟨j,hj,rfl,HB⟩:=hrel
 by_cases hlt:j<n
 ·obtain⟨x,hxj⟩:∃x,vs[j]? =some x:=⟨_,P0 U3⟩;obtain⟨b,o,ha,hb,hc⟩:=HV.out.int_at (Ext.refl w) hxj;subst ha;have hjI:(j:Int)<(n:Int):=C0;have hmem:=I1 hxj;by_cases hx:0<=x∧x<=106;(·have HB2:Hid (∀y∈vs.take (j+1),0<=y∧y<=106):=B0 (fun y hy=>by rw[Z2 hxj]at hy;rcases M2.1 hy with h|h;(·exact HB.out y h);·rw[Y2]at h;subst h;exact hx);obtain⟨hx1,hx2⟩:=hx;clear hxj hmem;exact jM);·have HF:Hid (res=([],3)):=B0 (by rw[HR.out,G0];rw[J8];exact⟨x,hmem,by simp;omega⟩);by_cases h1:x<0;(·clear hx hxj hmem;exact jN);·have h2:106<x:=C0;clear hx hxj hmem;exact jN
 obtain rfl:n=j:=by omega
 have HB3:Hid (∀x∈vs,0<=x∧x<=106):=B0 (fun x hx=>HB.out x FL)
 have HR2:Hid (res=if n<3 then(([],7):List Int×Int)else if vs.getD 0 0<103∨105<vs.getD 0 0 then([],19)else if vs.getD (n-1) 0≠106 then([],20)else if vs.getD (n-2) 0≠Cc.chk (vs.take (n-2))then([],8)else match Cc.runC (vs.getD 0 0-103).toNat false [] ((vs.take (n-2)).drop 1)with|none=>([],22)|some o=>(o,0)):=B0 (by refine HR.out.trans ((D0 ?_).trans rfl);rw[XQ,S8];intro x hx;have:=HB3.out x hx;simp;omega)
 clear HR HB hlt hj
 by_cases h3:n<3
 ·rw[G0 h3]at HR2;have h3I:(n:Int)<3:=C0;exact OZ
 rw[D0 h3]at HR2
 have h3I:¬(n:Int)<3:=by omega
 obtain⟨x0,hx0⟩:∃x,vs[0]? =some x:=⟨_,P0 R7⟩
 obtain⟨b,o,ha,hb,hc0⟩:=HV.out.int_at (Ext.refl w) hx0
 subst ha
 rw[G6]at hc0
 have e0:vs.getD 0 0=x0:=by rw[A1,hx0];rfl
 rw[e0]at HR2
 have hb0:=HB3.out x0 (I1 hx0)
 have hn0:(0:Int)<(n:Int):=by omega
 have hne0:n≠0:=by omega
 clear e0 hx0
 by_cases hs:x0<103∨105<x0
 ·rw[G0 hs]at HR2;rcases hs with hs|hs;(·exact OZ);·have hs2:¬x0<103:=C0;exact OZ
 rw[D0 hs]at HR2
 have hs1:¬x0<103:=by omega
 have hs2:¬105<x0:=by omega
 clear hs
 obtain⟨k1,hk1⟩:∃k,k=n-1:=⟨_,rfl⟩
 obtain⟨k2,hk2⟩:∃k,k=n-2:=⟨_,rfl⟩
 rw[<-hk1,<-hk2]at HR2
 have hk1I:(n:Int)-1=(k1:Int):=by omega
 have hk2I:(n:Int)-2=(k2:Int):=by omega
 obtain⟨x1,hx1⟩:∃x,vs[k1]? =some x:=⟨_,P0 R7⟩
 obtain⟨x2,hx2⟩:∃x,vs[k2]? =some x:=⟨_,P0 R7⟩
 obtain⟨b',o',ha,_,hc1⟩:=HV.out.int_at (Ext.refl w) hx1
 injection ha with ha
 injection ha with q1 q2
 subst q1 q2
 obtain⟨b',o',ha,_,hc2⟩:=HV.out.int_at (Ext.refl w) hx2
 injection ha with ha
 injection ha with q1 q2
 subst q1 q2
 have e1:vs.getD k1 0=x1:=by rw[A1,hx1];rfl
 have e2:vs.getD k2 0=x2:=by rw[A1,hx2];rfl
 rw[e1,e2]at HR2
 have hb2:=HB3.out x2 (I1 hx2)
 have hk1n:(k1:Int)<(n:Int):=by omega
 have hk2n:(k2:Int)<(n:Int):=by omega
 have hk10:k1<n:=by omega
 have hk20:k2<n:=by omega
 have hk2c:k2<=c:=by omega
 have hk21:1<=k2:=by omega
 clear e1 e2 hx1 hx2 hk1 hk2
 by_cases hst:x1≠106
 ·rw[G0 hst]at HR2;have z1:(x1==106)=false:=V0.2 hst;clear hst;exact OZ
 rw[D0 hst]at HR2
 obtain rfl:x1=106:=by omega
 clear hst
 have hSL:Sl w (.slice (some ⟨b,o,none⟩) k2 c) ((vs.take k2).map encI):=by have:=HV.out.part 0 k2 c (by rw[N0,<-HN.out];omega) (U0 _);rw[I4,<-G8]at this;exact R2
 have HSL:=B0 hSL
 have hCV:=B0 (fun w' (hx:Ext w w')=>AU (.slice (some ⟨b,o,none⟩) k2 c) (vs.take k2) w' (hSL.ext hx) O5 (by rw[L1,<-HN.out];omega) (fun x hx=>HB3.out x (L5 hx)))
 clear hSL
 obtain⟨ck,hck⟩:∃ck,ck=Cc.chk (vs.take k2):=⟨_,rfl⟩
 rw[<-hck]at HR2 hCV
 clear hck
 have HCV2:=B0 (fun k=>(hCV.out (w.drewN k) ((Ext.refl _).drewN _)))
 by_cases hck:x2≠ck
 ·rw[G0 hck]at HR2;have z2:(x2==ck)=false:=V0.2 hck;clear hck;go_wp2_with fail;go_quiet ((go_at_call 187;exact Calls.quiet_of_same ((HCV2.out _).mono fun _ _ h=>⟨h.1,h.2.symm⟩)));have hxq:Ext w (w.drewN nq):=(Ext.refl _).drewN _;generalize w.drewN nq=wq at*;go_wp2_with fail;go_ret2;rw[HR2.out];exact V4.bad _ _ _ hxq
 rw[D0 hck]at HR2
 obtain rfl:x2=ck:=V7.1 hck
 clear hck
 obtain⟨s0,hs0⟩:∃s:Nat,s=(x0-103).toNat:=⟨_,rfl⟩
 have hs02:s0<=2:=by omega
 have hs0I:2+x0-103=(s0:Int)+2:=by omega
 rw[<-hs0]at HR2
 obtain⟨ms,hms⟩:∃ms,ms=(vs.take k2).drop 1:=⟨_,rfl⟩
 rw[<-hms]at HR2
 have hSM:Sl w (.slice (some ⟨b,o+1,none⟩) (k2-1) (c-1)) (ms.map encI):=by have:=HV.out.part 1 k2 (c-1) (by rw[N0,<-HN.out];omega) hk21;rw[<-G8,<-S7,<-hms]at this;exact R2
 have hST:=B0 (fun w'=>RT x0 w' C0)
 obtain⟨r2,hr2⟩:∃r2,r2=(match Cc.runC s0 false [] ms with|none=>(([],22):List Int×Int)|some o=>(o,0)):=⟨_,rfl⟩
 have HR3:Hid (res=r2):=B0 (HR2.out.trans (by rw[hr2]))
 have hIN:Hid (∀w',Ext w w'->Calls prog 216 #[.slice (some ⟨b,o+1,none⟩) (k2-1) (c-1),.int .i64 (2+x0-103)] w' (V4 r2 w')):=B0 (fun w' hx=>by rw[hr2,hs0I];exact dE (.slice (some ⟨b,o+1,none⟩) (k2-1) (c-1)) ms s0 w' (hSM.ext hx) (by rw[hms,L2,L1];omega) hs02 (fun x hx=>HB3.out x (L5 (X7 (hms▸hx)))))
 clear hms hs0 hr2 hSM HR2
 go_wp2_with fail
 go_quiet ((go_at_call 187;exact Calls.quiet_of_same ((HCV2.out _).mono fun _ _ h=>⟨h.1,h.2.symm⟩)))
 have hxq:Ext w (w.drewN nq):=(Ext.refl _).drewN _
 generalize w.drewN nq=wq at*
 have hcq:=(hxq.cell (p:=⟨b,o,none⟩) hb).trans hc0
 have HC0:Hid (∀w',Ext wq w'->w'.cell? ⟨b,o,none⟩=some (.int .i64 x0)):=B0 (fun w' hx=>(hx.cell (p:=⟨b,o,none⟩) (M1 hb hxq.size)).trans hcq)
 go_wp2_with fail
 have hkm:((k2:Int)-1).toNat=k2-1:=by omega
 have hk2I1:(1:Int)<=(k2:Int):=by omega
 have hk2I0:¬(k2:Int)<1:=by omega
 have hk2cI:(k2:Int)<=(c:Int):=by omega
 have hwk:IntKind.i64.wrap (k2:Int)=(k2:Int):=WX _ C0
 have hmx0:max (k2:Int) 0=(k2:Int):=by omega
 refine FI 12 1 rfl [55,56,57,58,59,60,61,62,63,64,65,2] [[],[],[1],[0,2],[],[4],[5],[6],[3,7],[8],[8],[9]] M0 M0 ?_
 apply Z8
 ·exact jO
 apply Z8
 ·intro V w' hx hf;(with_reducible refine Zg ?_);intro A ρ hA hρ hcst hfun;have h6:ρ (.tmp 6)=.int .i64 (n:Int):=(X1 hρ _).trans (M8 hA 6 rfl);exact jP
 apply Z8
 ·intro V w' hx hf;(with_reducible refine Zg ?_);intro A ρ hA hρ hcst hfun;obtain⟨f56,_⟩:=hf;have h56:ρ (.tmp 56)=_:=(X1 hρ _).trans ((Zo hA 56 rfl).trans f56);simp[Zv,go_sem,hcst,↓IntWalk.iteOmega,Ext.refl,h56,hk2I];rfl
 refine Zl (eqv (.slice (some ⟨b,o+1,none⟩) (k2-1) (c-1))) (Zw _) ?_ ?_
 ·intro V w' hx hf;(with_reducible refine Zg ?_);intro A ρ hA hρ hcst hfun;obtain⟨f55,f57,_⟩:=hf;have h55:ρ (.tmp 55)=_:=(X1 hρ _).trans ((Zo hA 55 rfl).trans f55);have h57:ρ (.tmp 57)=_:=(X1 hρ _).trans ((Zo hA 57 rfl).trans f57);simp[Zv,go_sem,hcst,↓IntWalk.iteOmega,Ext.refl,h55,h57,hkm,hk2I1,hk2I0,hk2cI];show Value.slice _ _ _=Value.slice _ _ _;rw[hwk];rfl
 apply Z8
 ·exact jO
 refine Zl (eqv (.pointer (some ⟨b,o,none⟩))) (Zw _) ?_ ?_
 ·intro V w' hx hf;(with_reducible refine Zg ?_);intro A ρ hA hρ hcst hfun;obtain⟨f59,_⟩:=hf;have h59:ρ (.tmp 59)=_:=(X1 hρ _).trans ((Zo hA 59 rfl).trans f59);simp[Zv,go_sem,hcst,↓IntWalk.iteOmega,Ext.refl,h59,hn0,hne0];rfl
 refine Zl (eqv (.int .i64 x0)) (Zw _) ?_ ?_
 ·intro V w' hx hf;(with_reducible refine Zg ?_);intro A ρ hA hρ hcst hfun;obtain⟨f60,_⟩:=hf;have h60:ρ (.tmp 60)=_:=(X1 hρ _).trans ((Zo hA 60 rfl).trans f60);have hcw:=HC0.out w' hx;simp[Zv,go_sem,hcst,↓IntWalk.iteOmega,Ext.refl,h60,hcw];rfl
 refine Zl (eqv (.int .i64 (2+x0-103))) (Zw _) ?_ ?_
 ·intro V w' hx hf;(with_reducible refine Zg ?_);intro A ρ hA hρ hcst hfun;obtain⟨f61,_⟩:=hf;have h61:ρ (.tmp 61)=_:=(X1 hρ _).trans ((Zo hA 61 rfl).trans f61);simp[Zv,go_sem,hcst,hfun,h61];exact(hST.out w').mono fun e w'' ⟨he,hw⟩=>⟨_,he,hw▸Ext.refl _,rfl⟩
 refine Zl (fun v w=>∃u,v=.tuple #[u,.int .i64 r2.2]∧SlK w u (r2.1.map encI)) (fun _ _ _ ⟨u,h1,h2⟩ hx=>⟨u,h1,h2.ext hx⟩) ?_ ?_
 ·intro V w' hx hf;(with_reducible refine Zg ?_);intro A ρ hA hρ hcst hfun;obtain⟨f58,f62,_⟩:=hf;have h58:ρ (.tmp 58)=_:=(X1 hρ _).trans ((Zo hA 58 rfl).trans f58);have h62:ρ (.tmp 62)=_:=(X1 hρ _).trans ((Zo hA 62 rfl).trans f62);simp[Zv,go_sem,hcst,hfun,h58,h62];exact(hIN.out w' (hxq.trans hx)).mono fun e w'' ⟨u,he,hs,hy⟩=>⟨_,he,hy,u,rfl,hs⟩
 refine Zl (fun v w=>SlK w v (r2.1.map encI)) (fun _ _ _ h hx=>h.ext hx) ?_ ?_
 ·intro V w' hx hf;(with_reducible refine Zg ?_);intro A ρ hA hρ hcst hfun;obtain⟨f63,_⟩:=hf;obtain⟨u,hu,hs⟩:=f63;have h63:ρ (.tmp 63)=_:=(X1 hρ _).trans ((Zo hA 63 rfl).trans hu);simp[Zv,go_sem,hcst,Ext.refl,h63];exact hs
 refine Zl (eqv (.int .i64 r2.2)) (Zw _) ?_ ?_
 ·intro V w' hx hf;(with_reducible refine Zg ?_);intro A ρ hA hρ hcst hfun;obtain⟨f63,_⟩:=hf;obtain⟨u,hu,hs⟩:=f63;have h63:ρ (.tmp 63)=_:=(X1 hρ _).trans ((Zo hA 63 rfl).trans hu);simp[Zv,go_sem,hcst,Ext.refl,h63];rfl
 refine Zl (fun v w=>SlK w v (r2.1.map encI)) (fun _ _ _ h hx=>h.ext hx) ?_ ?_
 ·intro V w' hx hf;(with_reducible refine Zg ?_);intro A ρ hA hρ hcst hfun;obtain⟨f64,_⟩:=hf;have h64:ρ (.tmp 64)=V 64:=(X1 hρ _).trans (Zo hA 64 rfl);exact ZM (hk:=by rw[h64];exact⟨Ext.refl _,f64⟩)
 intro V wT hxT hf
 obtain⟨-,-,-,-,-,-,-,-,-,-,g65,g2,-⟩:=hf
 simp only[Zy,I3,YY,Act.put,FM,XA,Y9]
 have q65:V 65=_:=g65
 rw[q65]
 refine FK 12 M0 rfl (fun K hK=> ?_)
 go_simp
 refine hK _ _ ?_
 clear hK K
 refine⟨rfl,?_⟩
 have k2':SlK wT (V 2) (r2.1.map encI):=g2
 have hxT2:=hxq.trans hxT
 clear g65 g2 q65 hxT
 go_wp2
 go_ret2
 rw[HR3.out];exact⟨_,rfl,k2',hxT2⟩
end
end Go.Proofs.YtbngggoccndefaaGreatDoor
