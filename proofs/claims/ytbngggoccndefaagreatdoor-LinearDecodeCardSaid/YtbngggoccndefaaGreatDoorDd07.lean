/-
  Laid together.
-/
import Derived.Test.YtbngggoccndefaaGreatDoorDd02
set_option maxHeartbeats 16000000
set_option maxRecDepth 100000
set_option linter.unusedVariables false
set_option linter.unusedSimpArgs false
set_option linter.ambiguousOpen false
namespace Go.Proofs.YtbngggoccndefaaGreatDoor
open Go.Proofs.Tryz
section
namespace Hp
section
variable {α:Type} (lt:α->α->Bool)
def swap (l:List α) (i j:Nat):List α:=match l[i]?,l[j]? with
 |some a,some b=>(l.set i b).set j a
 |_,_=>l
theorem swap_len (l:List α) (i j:Nat):(swap l i j).length=l.length:=by unfold swap;split<;>simp
theorem swap_at {l:List α} {i j:Nat} {a b:α} (hi:l[i]? =some a) (hj:l[j]? =some b) (k:Nat):(swap l i j)[k]? =if k=j then some a else if k=i then some b else l[k]? :=by
 unfold swap;rw[hi,hj];have h1:=(ZmN.1 hi).1;have h2:=(ZmN.1 hj).1;dsimp only;by_cases hkj:k=j;·subst hkj;rw[ZmH rfl,Zoq Qie]
 ·rw[ZmF hkj,Zox (fun e=>hkj e.symm)];by_cases hki:k=i;(·subst hki;rw[ZmH rfl,Zoq h1]);·rw[ZmF hki,Zox (fun e=>hki e.symm)]
theorem swap_perm {l:List α} {i j:Nat} {a b:α} (hi:l[i]? =some a) (hj:l[j]? =some b):(swap l i j).Perm l:=by obtain⟨h1,e1⟩:=ZmN.1 hi;obtain⟨h2,e2⟩:=ZmN.1 hj;unfold swap;rw[hi,hj];dsimp only;subst e1 e2;exact List.set_set_perm h1 h2
def NL (l:List α) (c k:Nat):Prop:=∀a b,l[c]? =some a->l[k]? =some b->lt a b=false
structure Near (l:List α) (k0 i:Nat):Prop where
 up:∀k c,k0<=k->k≠i->(c=2*k+1∨c=2*k+2)->NL lt l c k
 over:∀k c,k0<=k->(i=2*k+1∨i=2*k+2)->(c=2*i+1∨c=2*i+2)->NL lt l c k
def Heap (l:List α) (k0:Nat):Prop:=∀k c,k0<=k->(c=2*k+1∨c=2*k+2)->NL lt l c k
theorem Heap.last (l:List α) {k0:Nat} (h:l.length<=2*k0+1):Heap lt l k0:=by intro k c hk hc a b ha;have:=(ZmN.1 ha).1;omega
theorem Heap.near {l:List α} {k0:Nat} (h:Heap lt l (k0+1)):Near lt l k0 k0:=
 ⟨fun k c hk hne hc=>h k c QhN hc,fun k c hk hi hc=>by omega⟩
theorem Heap.set {l:List α} {k0:Nat} (h:Heap lt l (k0+1)) (x:α):Heap lt (l.set k0 x) (k0+1):=by intro k c hk hc a b ha hb;rw[Zox QhN]at ha hb;exact h k c hk hc a b ha hb
theorem Heap.weak {l:List α} {k0 k1:Nat} (h:Heap lt l k0) (hk:k0<=k1):Heap lt l k1:=fun k c h1 hc=>h k c QhN hc
variable {lt}
theorem Near.done {l:List α} {k0 i:Nat} (h:Near lt l k0 i) (hi:∀c,(c=2*i+1∨c=2*i+2)->NL lt l c i):Heap lt l k0:=by
 intro k c hk hc;by_cases e:k=i;·subst e;exact hi c hc
 ·exact h.up k c hk e hc
theorem Near.step (tr:∀a b c,lt a b=false->lt b c=false->lt a c=false) (asx:∀a b,lt a b=true->lt b a=false) {l:List α} {k0 i j:Nat} (h:Near lt l k0 i) (hki:k0<=i) (hj:j=2*i+1∨j=2*i+2) {a b:α} (hi:l[i]? =some a) (hb:l[j]? =some b) (hlt:lt b a=true)
 (hmin:∀c,(c=2*i+1∨c=2*i+2)->∀x,l[c]? =some x->lt x b=false):Near lt (swap l i j) k0 j:=by
 have hs:=swap_at hi hb
 have hij:i≠j:=by omega
 constructor
 ·intro k c hk hkj hc x y hx hy;rw[hs]at hx hy;rw[ZmF hkj]at hy;by_cases hki2:k=i;(·subst hki2;rw[ZmH rfl]at hy;injection hy with hy;subst hy;by_cases hcj:c=j;(·rw[ZmH hcj]at hx;injection hx with hx;subst hx;exact asx _ _ hlt);·rw[ZmF hcj,ZmF QhN]at hx;exact hmin c hc x hx);·rw[ZmF hki2]at hy;by_cases hci:c=i;(·subst hci;rw[ZmF hij,ZmH rfl]at hx;injection hx with hx;subst hx;exact h.over k j hk hc hj _ _ hb hy);·by_cases hcj:c=j;(·omega);·rw[ZmF hcj,ZmF hci]at hx;exact h.up k c hk hki2 hc x y hx hy
 ·intro k c hk hkk hc x y hx hy;have e:k=i:=QhN;subst e;rw[hs,ZmF QhN,ZmF QhN]at hx;rw[hs,ZmF hij,ZmH rfl]at hy;injection hy with hy;subst hy;exact h.up j c QhN QhN hc x b hx hb
theorem Heap.root (tr:∀a b c,lt a b=false->lt b c=false->lt a c=false) (ir:∀a,lt a a=false) {l:List α} (h:Heap lt l 0) {r:α} (hr:l[0]? =some r):∀(n k:Nat),k<=n->∀x,l[k]? =some x->lt x r=false:=by
 intro n
 induction n with
 |zero=>intro k hk x hx;obtain rfl:k=0:=QhN;rw[hr]at hx;injection hx with hx;subst hx;exact ir _
 |succ n ih=>intro k hk x hx;by_cases h0:k=0;(·subst h0;rw[hr]at hx;injection hx with hx;subst hx;exact ir _);·have hkl:=(ZmN.1 hx).1;have hp:(k-1)/2<l.length:=QhN;have h1:=h ((k-1)/2) k (ZmP _) QhN x _ hx (ZmG hp);exact tr _ _ _ h1 (ih ((k-1)/2) QhN _ (ZmG hp))
end
theorem nodup_le {α:Type} [DecidableEq α]:∀(l m:List α),l.Nodup->(∀x∈l,x∈m)->l.length<=m.length
 | [],_,_,_=>ZmP _
 |x::l,m,hn,hs=>by rw[Zqg]at hn;have hx:=hs x (Znh ..);have:=nodup_le l (m.erase x) hn.2 fun y hy=>(List.mem_erase_of_ne (fun e=>hn.1 (by rw[<-e];exact hy))).2 (hs y (Zne _ hy));rw[List.length_erase_of_mem hx]at this;have hp:0<m.length:=List.length_pos_of_mem hx;rw[ZmQ];omega
structure Sh where
 ix:Int
 md:Int
 ct:Int
def lessS (a b:Sh):Bool:=if a.ct=b.ct then decide (a.ix<b.ix)else decide (a.ct<b.ct)
theorem lessS_tr (a b c:Sh) (h1:lessS a b=false) (h2:lessS b c=false):lessS a c=false:=by unfold lessS at*;split at h1<;>split at h2<;>split<;>simp at* <;>omega
theorem lessS_as (a b:Sh) (h:lessS a b=true):lessS b a=false:=by unfold lessS at*;split at h<;>split<;>simp at* <;>omega
theorem lessS_ir (a:Sh):lessS a a=false:=by unfold lessS;simp
structure Que (s t:Int) (ws ms:List Int) (q:List Sh):Prop where
 len:q.length=ws.length
 ml:ms.length=ws.length
 nod:(q.map (·.ix)).Nodup
 at_:∀x∈q,∃(k:Nat) (m w:Int),x.ix=(k:Int)∧ms[k]? =some m∧ws[k]? =some w∧x.md=m∧x.ct=2*Rn.need s t m w+s
theorem Que.perm {s t:Int} {ws ms:List Int} {q q':List Sh} (h:Que s t ws ms q) (hp:q'.Perm q):Que s t ws ms q':=
 ⟨hp.length_eq.trans h.len,h.ml,(hp.map _).nodup_iff.2 h.nod,fun x hx=>h.at_ x (hp.mem_iff.1 hx)⟩
theorem Que.has {s t:Int} {ws ms:List Int} {q:List Sh} (h:Que s t ws ms q) {k:Nat} (hk:k<ws.length):∃x∈q,x.ix=(k:Int):=by
 have key:∀(l:List Int) (n:Nat),l.Nodup->l.length=n->(∀x∈l,0<=x∧x<(n:Int))->∀k:Nat,k<n->(k:Int)∈l:=by intro l n hn hl hb k hk;by_cases hm:(k:Int)∈l;(·exact hm);·exfalso;have hkm:(k:Int)∈(List.range n).map (fun(i:Nat)=>(i:Int)):=Zor.2 ⟨k,ZnK.2 hk,rfl⟩;have h1:=nodup_le l (((List.range n).map (fun(i:Nat)=>(i:Int))).erase (k:Int)) hn (fun x hx=>by have:=hb x hx;refine(List.mem_erase_of_ne (fun e=>hm (by rw[<-e];exact hx))).2 (Zor.2 ⟨x.toNat,ZnK.2 QhN,by omega⟩));rw[List.length_erase_of_mem hkm,ZmI,Zoj]at h1;omega
 have hm:=key (q.map (·.ix)) ws.length h.nod (by rw[ZmI,h.len]) (fun x hx=>by obtain⟨y,hy,rfl⟩:=Zor.1 hx;obtain⟨k,m,w,e,h1,h2,_⟩:=h.at_ y hy;have:=(ZmN.1 h2).1;omega) k hk;obtain⟨x,hx,e⟩:=Zor.1 hm;exact⟨x,hx,e⟩
theorem Que.least {s t:Int} {ws ms:List Int} {q:List Sh} (h:Que s t ws ms q) {r:Sh} (hr:q[0]? =some r) (hh:Heap lessS q 0):∃(k:Nat) (m w:Int),r.ix=(k:Int)∧Rn.least s t ms ws=k∧ms[k]? =some m∧ws[k]? =some w∧r.md=m∧r.ct=2*Rn.need s t m w+s:=by
 obtain⟨k,m,w,e1,e2,e3,e4,e5⟩:=h.at_ r (ZmT hr);have key:∀(j:Nat) (m' w':Int),ms[j]? =some m'->ws[j]? =some w'->∃x,lessS x r=false∧x.ix=(j:Int)∧x.ct=2*Rn.need s t m' w'+s:=by intro j m' w' hm hw;obtain⟨x,hx,hix⟩:=h.has (ZmN.1 hw).1;obtain⟨j2,m2,w2,f1,f2,f3,f4,f5⟩:=h.at_ x hx;have:j2=j:=QhN;subst this;rw[hm]at f2;rw[hw]at f3;injection f2 with f2;injection f3 with f3;subst f2 f3;obtain⟨i,hi⟩:=Zqh hx;exact⟨x,hh.root lessS_tr lessS_ir hr i i (ZmK _) x hi,f1,f5⟩
 refine⟨k,m,w,e1,Rn.least_is h.ml e2 e3 ?_ ?_,e2,e3,e4,e5⟩;·intro j m' w' hm hw;exact QeK
 ·intro j m' w' hj hm hw;exact QeK
theorem Que.give {s t:Int} {ws ms:List Int} {q:List Sh} (h:Que s t ws ms q) {r:Sh} (hr:q[0]? =some r) {k:Nat} {m:Int} (hk:r.ix=(k:Int)) (hm:ms[k]? =some m):
 Que s t ws (ms.set k (m+1)) (q.set 0 ⟨r.ix,r.md+1,r.ct+2*s⟩):=by
 obtain⟨q',rfl⟩:∃q',q=r::q':=by
  cases q with
  |nil=>simp at hr
  |cons a q'=>simp at hr;subst hr;exact⟨q',rfl⟩
 refine⟨by rw[Zov];exact h.len,by rw[Zov];exact h.ml,?_,?_⟩
 ·have:=h.nod;exact QfH
 ·intro x hx;simp only[ZmU,Zn8]at hx;have hnd:=h.nod;rw[ZnU,Zqg]at hnd;rcases hx with rfl|hx;(·obtain⟨k2,m2,w2,e1,e2,e3,e4,e5⟩:=h.at_ r (Znh ..);have:k2=k:=QhN;subst this;rw[hm]at e2;injection e2 with e2;subst e2;refine⟨k2,m+1,w2,hk,Zoq (ZmN.1 hm).1,e3,by dsimp only;omega,?_⟩;dsimp only;unfold Rn.need at*;rw[e5,Int.mul_add];omega);·obtain⟨k2,m2,w2,e1,e2,e3,e4,e5⟩:=h.at_ x (Zne _ hx);have hne:k≠k2:=(by intro e;subst e;exact hnd.1 (Zor.2 ⟨x,hx,by rw[e1,hk]⟩));exact⟨k2,m2,w2,e1,by rw[Zox hne];exact e2,e3,e4,e5⟩
end Hp
namespace Rn
def modsN:Bool->List Nat->List Bool
 |_,[]=>[]
 |b,x::r=>List.replicate x b++modsN (!b) r
theorem mods_nat:∀(b:Bool) (l:List Nat),mods b (l.map fun(n:Nat)=>(n:Int))=modsN b l
 |_,[]=>rfl
 |b,x::l=>by rw[ZnU,mods,modsN,mods_nat (!b) l];rfl
theorem runs_mods:∀(r:List Bool) (c:Bool) (n:Nat),modsN c (runsGo c n r)=List.replicate n c++r
 | [],c,n=>by rw[runsGo,modsN,modsN]
 |b::r,c,n=>by rw[runsGo];by_cases h:b=c;(·rw[ZmH h,runs_mods r c (n+1),h,ZoW];simp);·have e:=runs_mods r b 1;have hb:(!c)=b:=(by cases b<;>cases c<;>simp_all);rw[ZmF h,modsN,hb,e];rfl
theorem runs_pos:∀(r:List Bool) (c:Bool) (n:Nat),1<=n->∀x∈runsGo c n r,1<=x
 | [],c,n,hn,x,hx=>by rw[runsGo,Znz]at hx;omega
 |b::r,c,n,hn,x,hx=>by rw[runsGo]at hx;split at hx;(·exact runs_pos r c (n+1) QhN x hx);·rcases Zn8.1 hx with rfl|hx;(·exact hn);·exact runs_pos r b 1 QhN x hx
theorem runs_ne (r:List Bool) (c:Bool) (n:Nat):runsGo c n r≠ []:=by
 induction r generalizing c n with
 |nil=>simp[runsGo]
 |cons b r ih=>rw[runsGo];split;(·exact ih c (n+1));·simp
theorem mods_runs:∀(l:List Nat) (c:Bool) (n x:Nat),(∀y∈l,1<=y)->runsGo c n (List.replicate x c++modsN (!c) l)=(n+x)::l
 | [],c,n,x,_=>by rw[modsN,runsGo_app];rfl
 |y::l,c,n,x,h=>by obtain⟨y',rfl⟩:∃y',y=y'+1:=⟨y-1,by have:=h y (Znh ..);omega⟩;rw[runsGo_app,modsN,ZnG,Zny,runsGo,ZmF (by cases c<;>decide)];rw[mods_runs l (!c) 1 y' fun z hz=>h z (Zne _ hz)];congr 2;omega
def lastB (c:Bool) (n:Nat):Bool:=if n%2=1 then c else !c
theorem modsN_app:∀(l m:List Nat) (c:Bool),modsN c (l++m)=modsN c l++modsN (if l.length%2=0 then c else !c) m
 | [],m,c=>rfl
 |x::l,m,c=>by rw[Zny,modsN,modsN,modsN_app l m (!c),Znu,ZmQ];exact Qd4
theorem modsN_rev:∀(l:List Nat) (c:Bool),(modsN c l).reverse=modsN (lastB c l.length) l.reverse
 | [],c=>rfl
 |x::l,c=>by rw[modsN,ZnP,modsN_rev l (!c),Zo5,modsN_app,ZnV,Zn9,ZmQ];have h1:lastB (!c) l.length=lastB c (l.length+1):=(by unfold lastB;by_cases h:l.length%2=1;(·rw[ZmH h,ZmF QhN]);·rw[ZmF h,ZmH QhN,Bool.not_not]);rw[h1];congr 1;have h2:(if l.length%2=0 then lastB c (l.length+1)else !lastB c (l.length+1))=c:=(by unfold lastB;by_cases h:l.length%2=0;(·rw[ZmH h,ZmH QhN]);·rw[ZmF h,ZmF QhN,Bool.not_not]);rw[h2,modsN,modsN,ZnC]
theorem ldg_rep (n:Nat) (r:List Bool):Ea.ldg (List.replicate n false++r)=n+Ea.ldg r:=by
 induction n with
 |zero=>simp
 |succ n ih=>rw[ZnG,Zny];show Ea.ldg (false::_)=_;rw[show Ea.ldg (false::(List.replicate n false++r))=Ea.ldg (List.replicate n false++r)+1 from rfl,ih];omega
theorem ldg_split:∀(s:List Bool),s=List.replicate (Ea.ldg s) false++s.drop (Ea.ldg s)
 | []=>rfl
 |true::r=>rfl
 |false::r=>by have:=ldg_split r;rw[show Ea.ldg (false::r)=Ea.ldg r+1 from rfl,ZnG,Zny,Zpb,<-this]
theorem ldg_le:∀(s:List Bool),Ea.ldg s<=s.length
 | []=>ZmK _
 |true::r=>ZmP _
 |false::r=>by have:=ldg_le r;rw[show Ea.ldg (false::r)=Ea.ldg r+1 from rfl,ZmQ];omega
theorem ldg_next:∀(s:List Bool),s.drop (Ea.ldg s)=[]∨∃r,s.drop (Ea.ldg s)=true::r
 | []=>.inl rfl
 |true::r=>.inr ⟨r,rfl⟩
 |false::r=>by rw[show Ea.ldg (false::r)=Ea.ldg r+1 from rfl,Zpb];exact ldg_next r
theorem row_split (s:List Bool):(core s=[]∧s=List.replicate s.length false∧Ea.ldg s=s.length∧Ea.trl s=s.length)∨
 (∃m,core s=true::m∧(∃m',core s=m'++[true])∧s=List.replicate (Ea.ldg s) false++core s++List.replicate (Ea.trl s) false):=by
 rcases ldg_next s with h|⟨r,h⟩
 ·left;have hs:=ldg_split s;rw[h,ZnC]at hs;have hl:Ea.ldg s=s.length:=(by have:=Znb List.length hs;rw[Zns]at this;exact this.symm);refine⟨by unfold core;rw[h,List.take_nil],by rw[<-hl];exact hs,hl,?_⟩;unfold Ea.trl;rw[hs,ZnV];have:=ldg_rep (Ea.ldg s) [];rw[ZnC]at this;rw[this,Zns];rfl
 ·right;have hs:=ldg_split s;rw[h]at hs;have hr:s.reverse=(true::r).reverse++List.replicate (Ea.ldg s) false:=(by have:=Znb List.reverse hs;rw[ZnP,ZnV]at this;exact QeN);have key:∀(l k:List Bool),Ea.ldg (l++true::k)<=l.length:=by
   intro l k
   induction l with
   |nil=>exact ZmK _
   |cons b l ih=>
    cases b with
    |true=>exact ZmP _
    |false=>rw[Zny,show Ea.ldg (false::(l++true::k))=Ea.ldg (l++true::k)+1 from rfl,ZmQ];omega
  have htl:Ea.trl s<=r.length:=(by unfold Ea.trl;rw[hr,Zo5,Znu];have:=key r.reverse (List.replicate (Ea.ldg s) false);rw[Zn9]at this;exact QeN);have hlen:=Znb List.length hs;rw[ZmM,Zns,ZmQ]at hlen;have hcore:core s=(true::r).take (r.length+1-Ea.trl s):=(by unfold core;rw[h];congr 1;omega);obtain⟨d,hd⟩:∃d,r.length+1-Ea.trl s=d+1:=⟨r.length-Ea.trl s,by omega⟩;have hrd:(true::r).drop (d+1)=List.replicate (Ea.trl s) false:=(by have h1:=ldg_split s.reverse;have h2:s.reverse.take (Ea.trl s)=List.replicate (Ea.trl s) false:=(by have h3:=Znb (List.take (Ea.trl s)) h1;rw[h3];unfold Ea.trl;rw[Zo9 Qh3,ZmW Qh3]);have h4:s.drop (s.length-Ea.trl s)=List.replicate (Ea.trl s) false:=(by have h5:=Znb List.reverse h2;rw[ZnV,List.reverse_take,ZpC,Zn9]at h5;exact h5);rw[<-h4];have h6:s.length-Ea.trl s=Ea.ldg s+(d+1):=QhN;rw[h6,<-h,Zoi]);have hcs:core s=true::r.take d:=(by rw[hcore,hd,Zpw]);refine⟨r.take d,hcs,?_,?_⟩
  ·have h1:=ldg_next s.reverse;have h2:s.reverse.drop (Ea.trl s)=(core s).reverse++List.replicate (Ea.ldg s) false:=(by have h3:s=List.replicate (Ea.ldg s) false++core s++List.replicate (Ea.trl s) false:=QeR;have h4:=Znb List.reverse h3;rw[ZnP,ZnP,ZnV,ZnV]at h4;rw[h4,Zqn Qh3,ZnD Qh3,Zod]);unfold Ea.trl at h2;rw[h2]at h1;rcases h1 with h1|⟨q,h1⟩;(·rw[hcs]at h1;simp at h1)
   ·cases hc:(core s).reverse with
    |nil=>rw[hcs]at hc;simp at hc
    |cons x y=>rw[hc]at h1;injection h1 with h1;subst h1;refine⟨y.reverse,?_⟩;have:=Znb List.reverse hc;rw[ZpC,Zo5]at this;exact QeN
  ·exact QeR
theorem row_parts (a b:Nat) (m:List Bool) (h1:∃k,m=true::k) (h2:∃k,m=k++[true]):Ea.ldg (List.replicate a false++m++List.replicate b false)=a∧Ea.trl (List.replicate a false++m++List.replicate b false)=b∧core (List.replicate a false++m++List.replicate b false)=m:=by
 obtain⟨k,rfl⟩:=h1;have e1:Ea.ldg (List.replicate a false++(true::k)++List.replicate b false)=a:=by rw[Znu,ldg_rep];rfl
 have e2:Ea.trl (List.replicate a false++(true::k)++List.replicate b false)=b:=by unfold Ea.trl;rw[ZnP,ZnP,ZnV,ZnV,ldg_rep];obtain⟨k2,h2⟩:=h2;rw[h2,ZnP];rfl
 refine⟨e1,e2,?_⟩;unfold core;rw[e1,e2];rw[Znu,Zqn Qh3,ZnD Qh3,Zod];rw[Zo9 QhY];rw[ZmW];exact Qcm
theorem widthsN_mods (s:List Bool):modsN true (widthsN s)=core s:=by
 unfold widthsN;rcases row_split s with⟨h,_⟩|⟨m,h,_⟩;·rw[h];rfl
 ·rw[h];exact runs_mods m true 1
theorem widthsN_pos (s:List Bool):∀x∈widthsN s,1<=x:=by
 unfold widthsN;rcases row_split s with⟨h,_⟩|⟨m,h,_⟩;·rw[h];intro x hx;cases hx
 ·rw[h];exact runs_pos m true 1 (ZmK _)
theorem runs_of (l:List Nat) (h:∀x∈l,1<=x) (s:List Bool) (hs:core s=modsN true l):widthsN s=l:=by
 unfold widthsN
 cases l with
 |nil=>rw[hs];rfl
 |cons x l=>obtain⟨y,rfl⟩:∃y,x=y+1:=⟨x-1,by have:=h x (Znh ..);omega⟩;rw[hs,modsN,ZnG,Zny];show runsGo true 1 _=_;rw[mods_runs l true 1 y fun z hz=>h z (Zne _ hz)];congr 1;omega
theorem widthsN_odd (s:List Bool):core s=[]∨(widthsN s).length%2=1:=by
 rcases row_split s with⟨h,_⟩|⟨m,h,⟨m',h2⟩,_⟩;·exact .inl h
 ·right
  have h3:=modsN_rev (widthsN s) true
  rw[widthsN_mods,h2,ZnP]at h3
  have hne:widthsN s≠ []:=by intro e;have:=widthsN_mods s;rw[e,h]at this;cases this
  cases hr:(widthsN s).reverse with
  |nil=>exact absurd (by simpa using hr) hne
  |cons x r=>have hx:1<=x:=widthsN_pos s x (by have:x∈(widthsN s).reverse:=(by rw[hr];exact Znh ..);simpa using this);rw[hr,modsN]at h3;obtain⟨y,rfl⟩:∃y,x=y+1:=⟨x-1,by omega⟩;rw[ZnG,Zny,List.reverse_singleton,List.singleton_append]at h3;injection h3 with h3 _;unfold lastB at h3;by_cases h:(widthsN s).length%2=1;(·exact h);·rw[ZmF h]at h3;cases h3
theorem turned (s:List Bool):core s.reverse=(core s).reverse∧Ea.ldg s.reverse=Ea.trl s∧Ea.trl s.reverse=Ea.ldg s∧widthsN s.reverse=(widthsN s).reverse:=by
 have hw:core s.reverse=(core s).reverse->widthsN s.reverse=(widthsN s).reverse:=by intro hc;refine runs_of _ (fun x hx=>widthsN_pos s x (by simpa using hx)) _ ?_;rw[hc,<-widthsN_mods s,modsN_rev];rcases widthsN_odd s with h|h;(·have:widthsN s=[]:=(by unfold widthsN;rw[h]);rw[this];rfl);·unfold lastB;rw[ZmH h]
 rcases row_split s with⟨h1,h2,h3,h4⟩|⟨m,h1,⟨m',h2⟩,h3⟩;·have hr:s.reverse=s:=(by have e:=Znb List.reverse h2;rw[ZnV,<-h2]at e;exact e);have hc:core s.reverse=(core s).reverse:=(by rw[hr,h1];rfl);exact⟨hc,rfl,by rw[hr,h4,h3],hw hc⟩
 ·have hr:s.reverse=List.replicate (Ea.trl s) false++(core s).reverse++List.replicate (Ea.ldg s) false:=(by have e:=Znb List.reverse h3;rw[ZnP,ZnP,ZnV,ZnV,<-Znu]at e;exact e);obtain⟨p1,p2,p3⟩:=row_parts (Ea.trl s) (Ea.ldg s) (core s).reverse ⟨m'.reverse,by rw[h2,ZnP];rfl⟩ ⟨m.reverse,by rw[h1,Zo5]⟩;rw[<-hr]at p1 p2 p3;exact⟨p3,p1,p2,hw p3⟩
end Rn
namespace Rn
theorem sum_from:∀(l:List Int) (a:Int),l.foldl (·+·) a=a+sum l
 | [],a=>by simp[sum]
 |x::l,a=>by unfold sum;rw[ZmX,ZmX,sum_from l (a+x),sum_from l (0+x)];omega
theorem sum_nil:sum []=0:=rfl
theorem sum_cons (x:Int) (l:List Int):sum (x::l)=x+sum l:=by unfold sum;rw[ZmX,sum_from];unfold sum;omega
theorem sum_app (l m:List Int):sum (l++m)=sum l+sum m:=by
 induction l with
 |nil=>rw[Zod,sum_nil];omega
 |cons x l ih=>rw[Zny,sum_cons,sum_cons,ih];omega
theorem sum_set:∀(l:List Int) (k:Nat) (m x:Int),l[k]? =some m->sum (l.set k x)=sum l-m+x
 | [],k,m,x,h=>by simp at h
 |y::l,0,m,x,h=>by simp at h;subst h;rw[ZmU,sum_cons,sum_cons];omega
 |y::l,k+1,m,x,h=>by rw[ZmV,sum_cons,sum_cons,sum_set l k m x Qh1];omega
theorem sum_pos:∀(l:List Int),(∀x∈l,1<=x)->(l.length:Int)<=sum l
 | [],_=>by rw[sum_nil];simp
 |x::l,h=>by have h1:=h x (Znh ..);have h2:=sum_pos l fun y hy=>h y (Zne _ hy);rw[sum_cons,ZmQ];omega
theorem leastGo_lt (s t:Int):∀(ms ws:List Int) (i b:Nat) (v:Int),b<i->leastGo s t i b v ms ws<i+ms.length
 | [],ws,i,b,v,h=>by unfold leastGo;omega
 |m::ms,[],i,b,v,h=>by unfold leastGo;rw[ZmQ];omega
 |m::ms,w::ws,i,b,v,h=>by rw[leastGo,ZmQ];split;(·have:=leastGo_lt s t ms ws (i+1) i (need s t m w) QhN;omega);·have:=leastGo_lt s t ms ws (i+1) b v QhN;omega
theorem least_lt (s t:Int) (ms ws:List Int) (h:ms≠ []):least s t ms ws<ms.length:=by
 cases ms with
 |nil=>exact absurd rfl h
 |cons m ms=>unfold least;have:=leastGo_lt s t ((m::ms).drop 1) (ws.drop 1) 1 0 (need s t ((m::ms).getD 0 0) (ws.getD 0 0)) QhN;rw[Zpb,Zoh]at this;rw[Zpb,Zoh,ZmQ];omega
theorem give_sum (s t:Int) (ws:List Int):∀(n:Nat) (ms:List Int),ms≠ []->sum (give s t ws n ms)=sum ms+n∧(give s t ws n ms).length=ms.length
 |0,ms,_=>⟨by unfold give;omega,rfl⟩
 |n+1,ms,h=>by have hl:=least_lt s t ms ws h;have hg:ms[least s t ms ws]? =some (ms.getD (least s t ms ws) 0):=(by rw[ZmL,ZmG hl];rfl);(have hne:ms.set (least s t ms ws) (ms.getD (least s t ms ws) 0+1)≠ []:=fun e=>by have:=Znb List.length e;rw[Zov]at this;exact h (Znq this));obtain⟨h1,h2⟩:=give_sum s t ws n _ hne;unfold give;rw[h1,h2,sum_set _ _ _ _ hg,Zov];exact⟨by omega,rfl⟩
theorem sum_ones (n:Nat):sum (List.replicate n 1)=(n:Int):=by
 induction n with
 |zero=>rfl
 |succ n ih=>rw[ZnG,sum_cons,ih];omega
theorem quant_sum {ws:List Int} {t:Int} (h:(quant ws t).2=0):sum (quant ws t).1=t∧(quant ws t).1.length=ws.length∧ws≠ []∧ws.length<=65536∧Tw.inRng ws=true∧(ws.length:Int)<=t∧t<=65536:=by
 unfold quant at h⊢
 by_cases h0:ws.length=0
 ·exact QfZ
 rw[ZmF h0]at h⊢
 by_cases h1:65536<ws.length
 ·exact Qfc
 rw[ZmF h1]at h⊢
 by_cases h2:Tw.inRng ws=false∨t<ws.length∨65536<t
 ·rw[ZmH h2]at h;cases h
 rw[ZmF h2]
 have hne:List.replicate ws.length (1:Int)≠ []:=fun e=>h0 (by have:=Znb List.length e;rw[Zns]at this;exact this)
 obtain⟨a,b⟩:=give_sum (sum ws) t ws (t.toNat-ws.length) _ hne
 dsimp only
 rw[a,b,sum_ones,Zns]
 refine⟨by omega,rfl,fun e=>h0 (by rw[e];rfl),by omega,?_,by omega,by omega⟩
 cases hr:Tw.inRng ws with
 |true=>rfl
 |false=>exact absurd (.inl hr) h2
theorem gcdGo_is:∀(l:List Int) (g:Nat),(∀x∈l,1<=x)->∃u:Nat,gcdGo g l=(u:Int)∧u∣g∧(∀x∈l,(u:Int)∣x)∧(∀d:Nat,d∣g->(∀x∈l,(d:Int)∣x)->d∣u)
 | [],g,_=>⟨g,rfl,Nat.dvd_refl _,fun x hx=>(by cases hx),fun d hd _=>hd⟩
 |x::l,g,h=>by have hx:=h x (Znh ..);obtain⟨u,h1,h2,h3,h4⟩:=gcdGo_is l (Nat.gcd g x.toNat) fun y hy=>h y (Zne _ hy);have ex:x=(x.toNat:Int):=QhN;refine⟨u,by unfold gcdGo;rw[ZmF QhN];exact h1,Nat.dvd_trans h2 (Nat.gcd_dvd_left _ _),?_,?_⟩;(·intro y hy;rcases Zn8.1 hy with rfl|hy;(·rw[ex];exact Int.natCast_dvd_natCast.2 (Nat.dvd_trans h2 (Nat.gcd_dvd_right _ _)));·exact h3 y hy);·intro d hd hl;refine h4 d (Nat.dvd_gcd hd ?_) fun y hy=>hl y (Zne _ hy);have:=hl x (Znh ..);rw[ex]at this;exact Int.natCast_dvd_natCast.1 this
theorem unit_is {ws:List Int} (h:∀x∈ws,1<=x) (hne:ws≠ []):1<=unit ws∧∀x∈ws,unit ws∣x:=by
 obtain⟨u,h1,h2,h3,h4⟩:=gcdGo_is ws 0 h
 unfold unit
 rw[h1]
 refine⟨?_,h3⟩
 cases ws with
 |nil=>exact absurd rfl hne
 |cons x l=>have hx:=h x (Znh ..);have hd:=h3 x (Znh ..);rcases Zp1 u with e|e;(·subst e;have:=Int.zero_dvd.1 hd;omega);·omega
theorem sum_div {u:Int} (hu:1<=u):∀(l:List Int),(∀x∈l,u∣x)->sum (l.map fun x=>x/u)*u=sum l
 | [],_=>by rw[ZoU,sum_nil];omega
 |x::l,h=>by have h1:=Int.ediv_mul_cancel (h x (Znh ..));have h2:=sum_div hu l fun y hy=>h y (Zne _ hy);rw[ZnU,sum_cons,sum_cons,Int.add_mul,h1,h2]
theorem sum_unit {ws:List Int} (h:∀x∈ws,1<=x) (hne:ws≠ []):sum ws/unit ws=sum (ws.map fun x=>x/unit ws):=by obtain⟨h1,h2⟩:=unit_is h hne;rw[<-sum_div h1 ws h2];exact Int.mul_ediv_cancel _ QhN
theorem widths_pos (s:List Bool):∀x∈widths s,1<=x:=by intro x hx;unfold widths at hx;obtain⟨n,hn,rfl⟩:=Zor.1 hx;have:=widthsN_pos s n hn;omega
theorem mods_widths (s:List Bool):mods true (widths s)=core s:=by unfold widths;rw[mods_nat,widthsN_mods]
theorem mods_len:∀(l:List Int) (b:Bool),(∀x∈l,1<=x)->((mods b l).length:Int)=sum l
 | [],b,_=>rfl
 |x::l,b,h=>by have h1:=h x (Znh ..);rw[mods,ZmM,Zns,sum_cons,<-mods_len l (!b) fun y hy=>h y (Zne _ hy)];omega
theorem core_le (s:List Bool):(core s).length<=s.length:=by unfold core;exact Qe9
end Rn
namespace Hp
def start (s t:Int) (ws:List Int):List Sh:=(List.range ws.length).map fun(i:Nat)=>⟨(i:Int),1,3*s-2*t*ws.getD i 0⟩
theorem start_len (s t:Int) (ws:List Int):(start s t ws).length=ws.length:=by unfold start;rw[ZmI,Zoj]
theorem start_at (s t:Int) {ws:List Int} {i:Nat} {w:Int} (h:ws[i]? =some w):(start s t ws)[i]? =some ⟨(i:Int),1,3*s-2*t*w⟩:=by have hl:=(ZmN.1 h).1;unfold start;rw[Znm,Zqp hl,ZoV,ZmL,h];rfl
theorem nodup_cast (n:Nat):((List.range n).map fun(i:Nat)=>(i:Int)).Nodup:=by rw[List.nodup_iff_pairwise_ne,List.pairwise_map];exact List.nodup_range.imp (fun h e=>h QhN)
theorem Que.start (s t:Int) (ws:List Int):Que s t ws (List.replicate ws.length 1) (start s t ws):=by
 refine⟨start_len s t ws,Zns,?_,?_⟩;·unfold Hp.start;rw[Zos];exact nodup_cast ws.length
 ·intro x hx;obtain⟨i,hi⟩:=Zqh hx;have hl:i<ws.length:=(by have:=(ZmN.1 hi).1;rw[start_len]at this;exact QeN);rw[start_at s t (ZmG hl)]at hi;injection hi with hi;subst hi;refine⟨i,1,ws[i],rfl,?_,ZmG hl,rfl,?_⟩;(·rw[Zpy,ZmH hl]);·dsimp only;unfold Rn.need;have:2*t*ws[i]=2*(t*ws[i]):=Int.mul_assoc ..;omega
def Got (ms:List Int) (q:List Sh) (j:Nat) (out:List Int):Prop:=out.length=ms.length∧∀(i:Nat) (x:Sh) (k:Nat),i<j->q[i]? =some x->x.ix=(k:Int)->out[k]? =ms[k]?
theorem Got.zero {ms:List Int} {q:List Sh} {out:List Int} (h:out.length=ms.length):Got ms q 0 out:=⟨h,fun i x k hi=>by omega⟩
theorem Got.next {ms:List Int} {q:List Sh} {j:Nat} {out:List Int} (h:Got ms q j out) {x:Sh} (hx:q[j]? =some x) {k:Nat} (hk:x.ix=(k:Int)) (hm:ms[k]? =some x.md):Got ms q (j+1) (out.set k x.md):=by
 refine⟨by rw[Zov];exact h.1,fun i y k2 hi hy hk2=> ?_⟩;by_cases e:k=k2;·subst e;have:=(ZmN.1 hm).1;rw[Zoq (by rw[h.1];exact this),hm]
 ·rw[Zox e];by_cases hij:i=j;(·subst hij;rw[hx]at hy;injection hy with hy;subst hy;omega);·exact h.2 i y k2 QhN hy hk2
theorem Got.all {s t:Int} {ws ms:List Int} {q:List Sh} (hq:Que s t ws ms q) {j:Nat} {out:List Int} (h:Got ms q j out) (hj:q.length<=j):out=ms:=by
 apply ZoX;intro k;by_cases hk:k<ws.length;·obtain⟨x,hx,e⟩:=hq.has hk;obtain⟨i,hi⟩:=Zqh hx;have:=(ZmN.1 hi).1;exact h.2 i x k QhN hi e
 ·rw[Zot (by rw[h.1,hq.ml];omega),Zot (by rw[hq.ml];omega)]
theorem give_last (s t:Int) (ws:List Int):∀(n:Nat) (ms:List Int),Rn.give s t ws (n+1) ms=(fun l=>l.set (Rn.least s t l ws) (l.getD (Rn.least s t l ws) 0+1)) (Rn.give s t ws n ms)
 |0,ms=>rfl
 |n+1,ms=>by rw[Rn.give,give_last s t ws n];rfl
def Few (n:Nat) (ms:List Int):Prop:=∀m∈ms,1<=m∧m<=(n:Int)+1
theorem Few.ones (n:Nat):Few 0 (List.replicate n 1):=fun m hm=>by obtain rfl:=(List.mem_replicate.1 hm).2;omega
theorem Few.give {n:Nat} {ms:List Int} (h:Few n ms) {k:Nat} {m:Int} (hm:ms[k]? =some m):Few (n+1) (ms.set k (m+1)):=fun x hx=>by
 have h1:=h m (ZmT hm);rcases List.mem_or_eq_of_mem_set hx with hx|rfl;·have:=h x hx;omega
 ·omega
end Hp
end
end Go.Proofs.YtbngggoccndefaaGreatDoor
