/-
  Laid.
-/
import Derived.Test.YtbngggoccndefaaGreatDoorRt02
set_option maxHeartbeats 8000000
set_option maxRecDepth 100000
set_option linter.all false
namespace Go.Proofs.YtbngggoccndefaaGreatDoor
open Go.Proofs.Tryz
section
namespace Cs
def okC (c:Int):Prop:=(0<=c∧c<=127)∨(256<=c∧c<=259)
def far:Nat:=1099511627776
def useS (c:Int) (st n:Nat):Nat:=if(own c st).isSome then n+1 else n+2
def useC (c:Int) (pr:Bool) (n p:Nat):Nat:=if c=256 then n+1 else if pr then p+1 else far
def comb (u v w:Nat):Nat×Nat×Nat:=(min u (min (v+1) (w+1)),min v (min (u+1) (w+1)),min w (min (u+1) (v+1)))
def least:List Int->Nat×Nat×Nat
 | []=>(0,0,0)
 | [c]=>comb (useS c 2 0) (useS c 3 0) (useC c false 0 0)
 |c::d::r=>comb (useS c 2 (least (d::r)).1) (useS c 3 (least (d::r)).2.1) (useC c (pairV c d).isSome (least (d::r)).2.2 (least r).2.2)
def setsB (c:Int):Bool:=
 match(valOf c 2).isSome,(valOf c 3).isSome,(own c 2).isSome,(own c 3).isSome,(own c 4).isSome,decide (c=256),dig c with
 |true,false,true,false,false,false,false=>true
 |true,true,true,true,false,false,_=>true
 |false,true,false,true,false,false,false=>true
 |false,false,true,true,true,true,false=>true
 |false,false,true,true,false,false,false=>true
 |_,_,_,_,_,_,_=>false
theorem sets (c:Int) (h:okC c):
 ((valOf c 2).isSome=true∧(valOf c 3).isSome=false∧(own c 2).isSome=true∧(own c 3).isSome=false∧(own c 4).isSome=false∧c≠256∧dig c=false)∨
 ((valOf c 2).isSome=true∧(valOf c 3).isSome=true∧(own c 2).isSome=true∧(own c 3).isSome=true∧(own c 4).isSome=false∧c≠256)∨
 ((valOf c 2).isSome=false∧(valOf c 3).isSome=true∧(own c 2).isSome=false∧(own c 3).isSome=true∧(own c 4).isSome=false∧c≠256∧dig c=false)∨
 ((valOf c 2).isSome=false∧(valOf c 3).isSome=false∧(own c 2).isSome=true∧(own c 3).isSome=true∧(own c 4).isSome=true∧c=256∧dig c=false)∨
 ((valOf c 2).isSome=false∧(valOf c 3).isSome=false∧(own c 2).isSome=true∧(own c 3).isSome=true∧(own c 4).isSome=false∧c≠256∧dig c=false):=by
 have all:(List.range 260).all (fun n=>(decide (127<n)&&decide (n<256)) || setsB n)=true:=Y1
 obtain⟨n,rfl⟩:∃n:Nat,c=(n:Int):=⟨c.toNat,by unfold okC at h;omega⟩
 have h1:=S1.1 all n (N4.2 (by unfold okC at h;omega))
 have h2:(decide (127<n)&&decide (n<256))=false:=EJ
 rw[h2,Bool.false_or]at h1
 unfold setsB at h1
 have e:(decide ((n:Int)=256)=true)↔(n:Int)=256:=decide_eq_true_iff
 cases a1:(valOf n 2).isSome<;>cases a2:(valOf n 3).isSome<;>cases a3:(own n 2).isSome<;>cases a4:(own n 3).isSome<;>cases a5:(own n 4).isSome<;>cases a6:dig n<;>cases a7:decide ((n:Int)=256)<;>
  (
   rw[a1,a2,a3,a4,a5,a6,a7]at h1
   first
   |(cases h1;done)
   |(have a8:=SC a7;simp[a8])
   |(have a8:=N3 a7;simp[a8]))
theorem pair_dig {a b:Int} (h:(pairV a b).isSome=true):dig a=true:=by
 unfold pairV at h;split at h;·rename_i h2;simp only[N1]at h2;exact h2.1
 ·cases h
theorem omin_none (a:Option Nat):omin none a=a:=by cases a<;>rfl
theorem omin_same (a:Option Nat):omin a a=a:=by cases a<;>simp[omin]
theorem omin_turn {x r:Option Nat} {u:Nat} (h:omin x r=some u) (v y z:Option Nat):omin (omin (omin (omin v x) y) z) r=omin (some u) (omin v (omin y z)):=by rw[<-h];cases v<;>cases x<;>cases y<;>cases z<;>cases r<;>simp[omin]<;>omega
theorem omin_turn4 {p r:Option Nat} {o:Option Nat} (h:omin p r=o) (v x y:Option Nat):omin (omin (omin (omin v x) y) p) r=omin o (omin v (omin x y)):=by rw[<-h];cases v<;>cases x<;>cases y<;>cases p<;>cases r<;>simp[omin]<;>omega
theorem rnd_step {q0 q1 q2 q3 qp q4:Option Nat} {ua ub:Nat} (ha:omin (inc q1) q2=some ua) (hb:omin (inc q0) q3=some ub) {oc:Option Nat} (hoc:omin qp q4=oc) {v0 v1 v2 v3 v4 w2 w3 w4:Option Nat} (h0:omin v0 q0=q0) (h1:omin v1 q1=q1)
 (h2:omin (some ua) (omin v2 (omin (inc v4) (inc v3)))=w2) (h3:omin (some ub) (omin v3 (omin (inc v4) (inc w2)))=w3) (h4:omin oc (omin v4 (omin (inc w3) (inc w2)))=w4):rnd q0 q1 q2 q3 qp q4 (v0,v1,v2,v3,v4)=(q0,q1,w2,w3,w4):=by
 unfold rnd
 dsimp only
 rw[h0,h1,omin_turn ha,omin_turn hb,omin_turn4 hoc,h2,h3,h4]
theorem min_1 {b x y:Nat} (h:b=min x y):(b=x∧x<=y)∨(b=y∧y<=x):=by omega
theorem twice_nums {ua ub uc b1 c1 a2 b2:Nat} (h1:b1=min ub (ua+1)) (h2:(c1=min uc (min (b1+1) (ua+1)))∨(c1=min (b1+1) (ua+1)∧ua+1<uc∧ub+1<uc)) (h3:a2=min ua (min (c1+1) (b1+1))) (h4:b2=min ub (min (c1+1) (a2+1))):
 a2=min ua (min (ub+1) (uc+1))∧b2=min ub (min (ua+1) (uc+1))∧min uc (min c1 (min (b2+1) (a2+1)))=min uc (min (ua+1) (ub+1)):=by
 have hc:c1=min uc (min (b1+1) (ua+1)):=by rcases h2 with h2|⟨h2,h5,h6⟩;(·exact h2);·rw[h2];clear h3 h4;omega
 clear h2
 obtain⟨m,hm⟩:∃m,m=min (b1+1) (ua+1):=⟨_,rfl⟩
 obtain⟨n,hn⟩:∃n,n=min (c1+1) (b1+1):=⟨_,rfl⟩
 rw[<-hm]at hc
 rw[<-hn]at h3
 rcases min_1 h1 with⟨k1,g1⟩|⟨k1,g1⟩<;>rcases min_1 hm with⟨k2,g2⟩|⟨k2,g2⟩<;>rcases min_1 hc with⟨k3,g3⟩|⟨k3,g3⟩<;>rcases min_1 hn with⟨k4,g4⟩|⟨k4,g4⟩<;>rcases min_1 h3 with⟨k5,g5⟩|⟨k5,g5⟩<;>clear h1 hm hc hn h3<;>
  (
   refine⟨?_,?_,?_⟩
   ·clear h4;omega
   ·omega
   ·omega)
theorem rnd_twice {q0 q1 q2 q3 qp q4:Option Nat} {ua ub:Nat} (ha:omin (inc q1) q2=some ua) (hb:omin (inc q0) q3=some ub) (oc:Option Nat) (hoc:omin qp q4=oc) (uc:Nat) (hc:oc=some uc∨(oc=none∧ua+1<uc∧ub+1<uc)):
 rnd q0 q1 q2 q3 qp q4 (rnd q0 q1 q2 q3 qp q4 (none,none,none,none,none))=(q0,q1,some (comb ua ub uc).1,some (comb ua ub uc).2.1,some (comb ua ub uc).2.2):=by
 have hs:∀a b:Nat,omin (some a) (some b)=some (min a b):=fun _ _=>rfl
 have hi:∀a:Nat,inc (some a)=some (a+1):=fun _=>rfl
 have i0:inc none=none:=rfl
 have on:∀a:Option Nat,omin a none=a:=fun a=>by cases a<;>rfl
 unfold comb
 obtain⟨b1,hb1⟩:∃b1,b1=min ub (ua+1):=⟨_,rfl⟩
 have m2:∀x y:Nat,min x (min x y)=min x y:=fun x y=>by omega
 have s1:∀o:Option Nat,∀w4,omin oc (omin none (omin (inc (some b1)) (inc (some ua))))=w4->rnd q0 q1 q2 q3 qp q4 (none,none,none,none,none)=(q0,q1,some ua,some b1,w4):=fun _ w4 h=>rnd_step ha hb hoc (omin_none _) (omin_none _) (by rw[i0,omin_none,omin_none,on]) (by rw[i0,omin_none,omin_none,hi,hs,<-hb1]) h
 have fin:∀c1:Nat,(c1=min uc (min (b1+1) (ua+1))∨(c1=min (b1+1) (ua+1)∧ua+1<uc∧ub+1<uc))->∀(h5:∀x:Nat,omin oc (some (min c1 x))=some (min uc (min c1 x))),rnd q0 q1 q2 q3 qp q4 (q0,q1,some ua,some b1,some c1)=(q0,q1,some (min ua (min (ub+1) (uc+1))),some (min ub (min (ua+1) (uc+1))),some (min uc (min (ua+1) (ub+1)))):=by intro c1 h1 h5;obtain⟨a2,ha2⟩:∃a2,a2=min ua (min (c1+1) (b1+1)):=⟨_,rfl⟩;obtain⟨b2,hb2⟩:∃b2,b2=min ub (min (c1+1) (a2+1)):=⟨_,rfl⟩;obtain⟨e1,e2,e3⟩:=twice_nums hb1 h1 ha2 hb2;rw[<-e1,<-e2,<-e3];refine rnd_step ha hb hoc (omin_same _) (omin_same _) ?_ ?_ ?_;(·rw[hi,hi,hs,hs,hs,ha2,m2]);(·rw[hi,hi,hs,hs,hs,hb2];congr 1;have:a2<=ua:=(by clear e1 e2 e3 hb2 h1 hb1;omega);clear e1 e2 e3 ha2 hb2 h1;omega);·rw[hi,hi,hs,hs,h5]
 rcases hc with rfl|⟨rfl,h1,h2⟩
 ·rw[s1 none _ rfl,omin_none,hi,hi,hs,hs];exact fin _ (.inl rfl) fun x=>hs _ _
 ·rw[s1 none _ rfl,omin_none,omin_none,hi,hi,hs];refine fin _ (.inr ⟨rfl,h1,h2⟩) fun x=> ?_;rw[omin_none];congr 1;clear fin s1 hb hb1;omega
theorem two_rounds {c:Int} (hc:okC c) (n2 n3 n4:Nat) (pv:Option Int) (p:Option Nat) (b2:n2<=1000000) (b3:n3<=1000000) (hp:pv.isSome=true->dig c=true∧∃n,p=some n):
 rnd (q (valOf c 2) (some n3)) (q (valOf c 3) (some n2)) (q (own c 2) (some n2)) (q (own c 3) (some n3)) (q pv p) (q (own c 4) (some n4)) (rnd (q (valOf c 2) (some n3)) (q (valOf c 3) (some n2)) (q (own c 2) (some n2)) (q (own c 3) (some n3)) (q pv p) (q (own c 4) (some n4)) (none,none,none,none,none))=
  (q (valOf c 2) (some n3),q (valOf c 3) (some n2),some (comb (useS c 2 n2) (useS c 3 n3) (useC c pv.isSome n4 (p.getD 0))).1,some (comb (useS c 2 n2) (useS c 3 n3) (useC c pv.isSome n4 (p.getD 0))).2.1,some (comb (useS c 2 n2) (useS c 3 n3) (useC c pv.isSome n4 (p.getD 0))).2.2):=by
 have hf:3000000<=far:=by unfold far;exact NJ rfl
 have hpv:pv.isSome=false∨(pv.isSome=true∧dig c=true∧∃n,p=some n):=by
  cases h:pv.isSome with
  |false=>exact .inl rfl
  |true=>exact .inr ⟨rfl,hp h⟩
 have hm:∀n:Nat,min (n+1+1) (n+1)=n+1:=fun n=>by omega
 refine rnd_twice (oc:=omin (q pv p) (q (own c 4) (some n4))) ?_ ?_ rfl _ ?_
 ·unfold useS q;rcases sets c hc with⟨h1,h2,h3,h4,h5,h6,h7⟩|⟨h1,h2,h3,h4,h5,h6⟩|⟨h1,h2,h3,h4,h5,h6,h7⟩|⟨h1,h2,h3,h4,h5,h6,h7⟩|⟨h1,h2,h3,h4,h5,h6,h7⟩<;>simp[h2,h3,omin,inc,hm]
 ·unfold useS q;rcases sets c hc with⟨h1,h2,h3,h4,h5,h6,h7⟩|⟨h1,h2,h3,h4,h5,h6⟩|⟨h1,h2,h3,h4,h5,h6,h7⟩|⟨h1,h2,h3,h4,h5,h6,h7⟩|⟨h1,h2,h3,h4,h5,h6,h7⟩<;>simp[h1,h4,omin,inc,hm]
 ·have hu:useS c 2 n2<=n2+2∧useS c 3 n3<=n3+2:=by unfold useS;constructor<;>split<;>omega
  unfold useC q
  rcases sets c hc with⟨h1,h2,h3,h4,h5,h6,h7⟩|⟨h1,h2,h3,h4,h5,h6⟩|⟨h1,h2,h3,h4,h5,h6,h7⟩|⟨h1,h2,h3,h4,h5,h6,h7⟩|⟨h1,h2,h3,h4,h5,h6,h7⟩<;>
  rcases hpv with hpv|⟨hpv,hd,pn,rfl⟩<;>
  first
  |(rw[h7]at hd;cases hd;done)
  |(left;rw[h5,hpv,G0 h6];rfl)
  |(left;simp[h5,h6,hpv,omin,inc];done)
  |(right;rw[h5,hpv,D0 h6,D0 VG,D0 VG,D0 VG];exact⟨rfl,by omega,by omega⟩)
theorem least_le:∀(l:List Int),(least l).1<=3*l.length∧(least l).2.1<=3*l.length∧(least l).2.2<=3*l.length
 | []=>by simp[least]
 | [c]=>by unfold least comb useS useC;generalize far=F;simp only[S0,U2];exact M5
 |c::d::r=>by have h1:=least_le (d::r);have h2:=least_le r;unfold least comb useS useC;generalize far=F;simp only[S0]at h1⊢;exact M5
structure Full (cs:List Int) (T:Tab) (i:Nat):Prop where
 set2:∀j,i<=j->j<=cs.length->T (j,2)=some (least (cs.drop j)).1
 set3:∀j,i<=j->j<=cs.length->T (j,3)=some (least (cs.drop j)).2.1
 set4:∀j,i<=j->j<=cs.length->T (j,4)=some (least (cs.drop j)).2.2
 sh0:∀j,i<=j->j<cs.length->T (j,0)=q (valOf (cs.getD j 0) 2) (some (least (cs.drop (j+1))).2.1)
 sh1:∀j,i<=j->j<cs.length->T (j,1)=q (valOf (cs.getD j 0) 3) (some (least (cs.drop (j+1))).1)
 low:∀j s,j<i->T (j,s)=none
 end_:T (cs.length,0)=none∧T (cs.length,1)=none
theorem least_at {cs:List Int} {i:Nat} (h:i<cs.length):least (cs.drop i)=comb (useS (cs.getD i 0) 2 (least (cs.drop (i+1))).1) (useS (cs.getD i 0) 3 (least (cs.drop (i+1))).2.1) (useC (cs.getD i 0) (pairAt cs i).isSome (least (cs.drop (i+1))).2.2 (if i+1<cs.length then(least (cs.drop (i+2))).2.2 else 0)):=by
 have e:cs.drop i=cs.getD i 0::cs.drop (i+1):=EK
 unfold pairAt;by_cases h2:i+1<cs.length;·have e2:cs.drop (i+1)=cs.getD (i+1) 0::cs.drop (i+2):=(by rw[G4 h2,A1,P0 h2];rfl);rw[e,e2,G0 h2,G0 h2];rfl
 ·have e2:cs.drop (i+1)=[]:=J5 C0;rw[e,e2,D0 h2,D0 h2];rfl
theorem full_tabs (cs:List Int) (hc:∀c∈cs,okC c) (hl:cs.length<=4096):∀k,k<=cs.length->Full cs (tabs cs k) (cs.length-k)
 |0,_=>by(have hn:∀j,cs.length-0<=j->j<=cs.length->j=cs.length:=fun j h1 h2=>by omega);refine⟨fun j h1 h2=> ?_,fun j h1 h2=> ?_,fun j h1 h2=> ?_,fun j h1 h2=>by omega,fun j h1 h2=>by omega,fun j s h=> ?_,?_⟩;(·exact NK);(·exact NK);(·exact NK);(·simp[tabs,tab0];omega);·simp[tabs,tab0]
 |k+1,hk=>by have F:=full_tabs cs hc hl k C0;obtain⟨i,hi⟩:∃i,i=cs.length-1-k:=⟨_,rfl⟩;have hi1:cs.length-(k+1)=i:=C0;have hi2:cs.length-k=i+1:=C0;rw[hi2]at F;have hil:i<cs.length:=C0;rw[hi1];show Full cs (round cs (cs.length-1-k) (round cs (cs.length-1-k) (tabs cs k))) i;rw[<-hi];generalize tabs cs k=T at F⊢;have hcc:okC (cs.getD i 0):=hc _ (by rw[A1,P0 hil];exact K4 hil);have hb1:=least_le (cs.drop (i+1));have hb2:(cs.drop (i+1)).length<=4096:=E7;have e2:=F.set2 (i+1) C0 C0;have e3:=F.set3 (i+1) C0 C0;have e4:=F.set4 (i+1) C0 C0;(have ne:∀x:Nd,x.1≠i->round cs i (round cs i T) x=T x:=fun x h=>by rw[round_ne h,round_ne h]);have hv0:vals T i=(none,none,none,none,none):=(by unfold vals;rw[F.low i 0 C0,F.low i 1 C0,F.low i 2 C0,F.low i 3 C0,F.low i 4 C0]);(have hpp:(pairAt cs i).isSome=true->dig (cs.getD i 0)=true∧∃n,T (i+2,4)=some n:=fun h=>by unfold pairAt at h;split at h;(·exact⟨pair_dig h,_,F.set4 (i+2) C0 C0⟩);·cases h);have key:=two_rounds hcc (least (cs.drop (i+1))).1 (least (cs.drop (i+1))).2.1 (least (cs.drop (i+1))).2.2 (pairAt cs i) (T (i+2,4)) C0 C0 hpp;have hv:vals (round cs i (round cs i T)) i=(q (valOf (cs.getD i 0) 2) (some (least (cs.drop (i+1))).2.1),q (valOf (cs.getD i 0) 3) (some (least (cs.drop (i+1))).1),some (least (cs.drop i)).1,some (least (cs.drop i)).2.1,some (least (cs.drop i)).2.2):=(by rw[round_vals,round_vals,round_ne (x:=(i+1,3)) L0,round_ne (x:=(i+1,2)) L0,round_ne (x:=(i+1,4)) L0,round_ne (x:=(i+2,4)) L0,e2,e3,e4,hv0,key,least_at hil];have hu:useC (cs.getD i 0) (pairAt cs i).isSome (least (cs.drop (i+1))).2.2 ((T (i+2,4)).getD 0)=useC (cs.getD i 0) (pairAt cs i).isSome (least (cs.drop (i+1))).2.2 (if i+1<cs.length then(least (cs.drop (i+2))).2.2 else 0):=(by by_cases h2:i+1<cs.length;(·rw[F.set4 (i+2) C0 C0,G0 h2];rfl);·have:pairAt cs i=none:=(by unfold pairAt;rw[D0 h2]);rw[this];rfl);rw[hu]);unfold vals at hv;simp only[A3]at hv;obtain⟨v0,v1,v2,v3,v4⟩:=hv;refine⟨fun j h1 h2=> ?_,fun j h1 h2=> ?_,fun j h1 h2=> ?_,fun j h1 h2=> ?_,fun j h1 h2=> ?_,fun j s h=> ?_,?_⟩;(·by_cases hj:j=i;(·subst hj;exact v2);·rw[ne _ hj];exact F.set2 j C0 h2);(·by_cases hj:j=i;(·subst hj;exact v3);·rw[ne _ hj];exact F.set3 j C0 h2);(·by_cases hj:j=i;(·subst hj;exact v4);·rw[ne _ hj];exact F.set4 j C0 h2);(·by_cases hj:j=i;(·subst hj;exact v0);·rw[ne _ hj];exact F.sh0 j C0 h2);(·by_cases hj:j=i;(·subst hj;exact v1);·rw[ne _ hj];exact F.sh1 j C0 h2);(·rw[ne _ I2];exact F.low j s C0);·rw[ne _ I2,ne _ I2];exact F.end_
theorem full_table (cs:List Int) (hc:∀c∈cs,okC c) (hl:cs.length<=4096):Full cs (table cs) 0:=by have:=full_tabs cs hc hl cs.length (I0 _);rw[O3]at this;exact R2
end Cs
namespace Cs
theorem at_okC {cs:List Int} (hc:∀c∈cs,okC c) {i:Nat} (h:i<cs.length):okC (cs.getD i 0):=
 hc _ (by rw[A1,P0 h];exact K4 h)
theorem one_mem {v:Option Int} (nd:Nd) (h:v.isSome=true):∃x,(x,nd)∈one v nd:=by
 cases v with
 |none=>cases h
 |some x=>exact⟨x,by simp[one]⟩
theorem q_some {v:Option Int} {n b:Nat} (h:q v (some n)=some b):v.isSome=true∧n+1=b:=by
 unfold q at h;split at h;·rename_i h2;exact⟨h2,by simpa[inc]using h⟩
 ·cases h
theorem q_of {v:Option Int} {n:Nat} (h:v.isSome=true):q v (some n)=some (n+1):=by unfold q;rw[G0 h];rfl
theorem consistent {cs:List Int} {T:Tab} (F:Full cs T 0) (hc:∀c∈cs,okC c) (hl:cs.length<=4096) {i s b:Nat} (hi:i<cs.length) (hs:s<=4) (h:T (i,s)=some b):∃m∈moves cs i s,∃r,T m.2=some r∧r+1=b:=by
 have hcc:=at_okC hc hi;have t2:=F.set2 i C0 C0;have t3:=F.set3 i C0 C0;have t4:=F.set4 i C0 C0;have s0:=F.sh0 i C0 hi;have s1:=F.sh1 i C0 hi;have n2:=F.set2 (i+1) C0 C0;have n3:=F.set3 (i+1) C0 C0;have n4:=F.set4 (i+1) C0 C0;have hb:=least_le (cs.drop (i+1));have hbl:(cs.drop (i+1)).length<=4096:=by rw[L2];omega
 have hf:3000000<=far:=by unfold far;exact NJ rfl
 have hp:(pairAt cs i).isSome=true->∃p,p=(if i+1<cs.length then(least (cs.drop (i+2))).2.2 else 0)∧T (i+2,4)=some p:=fun h=>by unfold pairAt at h;split at h;(·rename_i h2;exact⟨_,rfl,by rw[G0 h2];exact F.set4 (i+2) C0 C0⟩);·cases h
 rw[least_at hi]at t2 t3 t4;obtain⟨l,hle⟩:∃l,l=least (cs.drop (i+1)):=⟨_,rfl⟩;rw[<-hle]at t2 t3 t4 s0 s1 n2 n3 n4 hb;obtain⟨a,b',c'⟩:=l;dsimp only at t2 t3 t4 s0 s1 n2 n3 n4 hb;obtain⟨u,hu⟩:∃u,u=useS (cs.getD i 0) 2 a:=⟨_,rfl⟩;obtain⟨v,hv⟩:∃v,v=useS (cs.getD i 0) 3 b':=⟨_,rfl⟩;obtain⟨w,hw⟩:∃w,w=useC (cs.getD i 0) (pairAt cs i).isSome c' (if i+1<cs.length then(least (cs.drop (i+2))).2.2 else 0):=⟨_,rfl⟩;rw[<-hu,<-hv,<-hw]at t2 t3 t4;unfold comb at t2 t3 t4;dsimp only at t2 t3 t4;have ub:u<=a+2∧v<=b'+2:=by rw[hu,hv];unfold useS;constructor<;>split<;>omega
 have h5:s=0∨s=1∨s=2∨s=3∨s=4:=by omega
 rcases h5 with rfl|rfl|rfl|rfl|rfl;·rw[s0]at h;obtain⟨h1,h2⟩:=q_some h;obtain⟨x,hx⟩:=one_mem (i+1,3) h1;exact⟨_,hx,_,n3,h2⟩
 ·rw[s1]at h;obtain⟨h1,h2⟩:=q_some h;obtain⟨x,hx⟩:=one_mem (i+1,2) h1;exact⟨_,hx,_,n2,h2⟩
 ·rw[t2]at h;injection h with h;have e:moves cs i 2=[((98:Int),i,1),(99,i,4),(100,i,3)]++one (own (cs.getD i 0) 2) (i+1,2):=rfl;rw[e];have hcase:b=u∨(b=v+1∧min v (min (u+1) (w+1))=v)∨(b=w+1∧min w (min (u+1) (v+1))=w):=C0;rcases hcase with rfl|⟨rfl,h2⟩|⟨rfl,h2⟩;(·by_cases ho:(own (cs.getD i 0) 2).isSome=true;(·obtain⟨x,hx⟩:=one_mem (i+1,2) ho;exact⟨_,VH _ hx,_,n2,by rw[hu];unfold useS;rw[G0 ho]⟩);·have h3:(valOf (cs.getD i 0) 3).isSome=true:=(by rcases sets _ hcc with g|g|g|g|g;(·exact absurd g.2.2.1 ho);(·exact absurd g.2.2.1 ho);(·exact g.2.1);(·exact absurd g.2.2.1 ho);·exact absurd g.2.2.1 ho);exact⟨(98,i,1),by simp,_,by rw[s1,q_of h3],by rw[hu];unfold useS;rw[D0 ho]⟩);(·exact⟨(100,i,3),by simp,_,by rw[t3,h2],rfl⟩);·exact⟨(99,i,4),by simp,_,by rw[t4,h2],rfl⟩
 ·rw[t3]at h;injection h with h;have e:moves cs i 3=[((98:Int),i,0),(99,i,4),(101,i,2)]++one (own (cs.getD i 0) 3) (i+1,3):=rfl;rw[e];have hcase:b=v∨(b=u+1∧min u (min (v+1) (w+1))=u)∨(b=w+1∧min w (min (u+1) (v+1))=w):=C0;rcases hcase with rfl|⟨rfl,h2⟩|⟨rfl,h2⟩;(·by_cases ho:(own (cs.getD i 0) 3).isSome=true;(·obtain⟨x,hx⟩:=one_mem (i+1,3) ho;exact⟨_,VH _ hx,_,n3,by rw[hv];unfold useS;rw[G0 ho]⟩);·have h3:(valOf (cs.getD i 0) 2).isSome=true:=(by rcases sets _ hcc with g|g|g|g|g;(·exact g.1);(·exact g.1);(·exact absurd g.2.2.2.1 ho);(·exact absurd g.2.2.2.1 ho);·exact absurd g.2.2.2.1 ho);exact⟨(98,i,0),by simp,_,by rw[s0,q_of h3],by rw[hv];unfold useS;rw[D0 ho]⟩);(·exact⟨(101,i,2),by simp,_,by rw[t2,h2],rfl⟩);·exact⟨(99,i,4),by simp,_,by rw[t4,h2],rfl⟩
 ·rw[t4]at h;injection h with h;have e:moves cs i 4=([((100:Int),i,3),(101,i,2)]++one (pairAt cs i) (i+2,4))++one (own (cs.getD i 0) 4) (i+1,4):=rfl;rw[e];have hcase:(b=w∧w<=u+1)∨(b=v+1∧min v (min (u+1) (w+1))=v)∨(b=u+1∧min u (min (v+1) (w+1))=u):=C0;rcases hcase with⟨rfl,hwu⟩|⟨rfl,h2⟩|⟨rfl,h2⟩;(·unfold useC at hw;by_cases hc6:cs.getD i 0=256;(·have h4:(own (cs.getD i 0) 4).isSome=true:=(by rcases sets _ hcc with g|g|g|g|g;(·exact absurd hc6 g.2.2.2.2.2.1);(·exact absurd hc6 g.2.2.2.2.2);(·exact absurd hc6 g.2.2.2.2.2.1);(·exact g.2.2.2.2.1);·exact absurd hc6 g.2.2.2.2.2.1);obtain⟨x,hx⟩:=one_mem (i+1,4) h4;rw[G0 hc6]at hw;exact⟨_,VH _ hx,_,n4,hw.symm⟩);·rw[D0 hc6]at hw;by_cases hpp:(pairAt cs i).isSome=true;(·rw[G0 hpp]at hw;obtain⟨p,hp1,hp2⟩:=hp hpp;obtain⟨x,hx⟩:=one_mem (i+2,4) hpp;exact⟨_,List.mem_append_left _ (VH _ hx),_,hp2,by rw[hw,hp1]⟩);·rw[D0 hpp]at hw;exfalso;clear t2 t3 t4 h;omega);(·exact⟨(100,i,3),by simp,_,by rw[t3,h2],rfl⟩);·exact⟨(101,i,2),by simp,_,by rw[t2,h2],rfl⟩
def Good (T:Tab) (fr:Nd) (m:Mv):Prop:=∃r,T m.2=some r∧r+1=(T fr).getD 0
theorem takes_good {T:Tab} {fr:Nd} {b:Option Mv} {m:Mv} (h:takes T fr b m=true):Good T fr m:=by
 unfold takes at h
 cases h2:T m.2 with
 |none=>rw[h2]at h;cases h
 |some r=>rw[h2]at h;dsimp only at h;rw[N1]at h;exact⟨r,h2,N3 h.1⟩
theorem takes_first {T:Tab} {fr:Nd} {m:Mv} (h:Good T fr m):takes T fr none m=true:=by obtain⟨r,h1,h2⟩:=h;unfold takes;rw[h1];dsimp only;rw[F1 h2];rfl
theorem pick_fold (T:Tab) (fr:Nd):∀(l:List Mv) (b:Option Mv),(∀x,b=some x->Good T fr x)->
 (∀x,l.foldl (fun b m=>if takes T fr b m then some m else b) b=some x->Good T fr x∧(x∈l∨b=some x))∧(l.foldl (fun b m=>if takes T fr b m then some m else b) b=none->b=none∧∀m∈l,¬Good T fr m)
 | [],b,hb=>⟨fun x h=>⟨hb x h,.inr h⟩,fun h=>⟨h,fun m hm=>by cases hm⟩⟩
 |m::l,b,hb=>by rw[I3];by_cases ht:takes T fr b m=true;(·rw[G0 ht];obtain⟨h1,h2⟩:=pick_fold T fr l (some m) (fun x hx=>by injection hx with hx;rw[<-hx];exact takes_good ht);refine⟨fun x hx=> ?_,fun h=> ?_⟩;(·obtain⟨g1,g2⟩:=h1 x hx;refine⟨g1,.inl ?_⟩;rcases g2 with g2|g2;(·exact C1 _ g2);·injection g2 with g2;rw[g2];exact B1 ..);·have:=(h2 h).1;cases this);·rw[D0 ht];obtain⟨h1,h2⟩:=pick_fold T fr l b hb;refine⟨fun x hx=> ?_,fun h=> ?_⟩;(·obtain⟨g1,g2⟩:=h1 x hx;exact⟨g1,g2.imp (C1 _) id⟩);·obtain⟨g1,g2⟩:=h2 h;refine⟨g1,fun y hy=> ?_⟩;rcases U1.1 hy with rfl|hy;(·intro hg;rw[g1]at ht;exact ht (takes_first hg));·exact g2 y hy
theorem pick_is {T:Tab} {fr:Nd} {l:List Mv} (h:∃m∈l,Good T fr m):∃m,pick T fr l=some m∧m∈l∧Good T fr m:=by
 obtain⟨h1,h2⟩:=pick_fold T fr l none (fun x hx=>by cases hx)
 unfold pick
 cases hp:l.foldl (fun b m=>if takes T fr b m then some m else b) none with
 |none=>obtain⟨m,hm,hg⟩:=h;exact absurd hg ((h2 hp).2 m hm)
 |some x=>obtain⟨g1,g2⟩:=h1 x hp;exact⟨x,rfl,g2.resolve_right L0,g1⟩
def setOf (s:Nat):Nat:=if s=0 then 1 else if s=1 then 0 else s-2
def shOf (s:Nat):Bool:=decide (s<2)
def okV (v:Int):Bool:=decide (0<=v)&&decide (v<=102)
theorem steps_own:(List.range 260).all (fun n=>(decide (127<n)&&decide (n<256)) ||
 ([2,3,4].all (fun s=>match own n s with
  |none=>true
  |some v=>decide (Cc.stepC (setOf s) false v=some (setOf s,false,[(n:Int)]))&&okV v)&&
 (match valOf n 2 with
  |none=>true
  |some v=>decide (Cc.stepC 1 true v=some (1,false,[(n:Int)]))&&okV v)&&
 (match valOf n 3 with
  |none=>true
  |some v=>decide (Cc.stepC 0 true v=some (0,false,[(n:Int)]))&&okV v)))=true:=by decide+kernel
theorem okV_is {v:Int} (h:okV v=true):0<=v∧v<=102:=by unfold okV at h;rw[N1]at h;exact⟨N3 h.1,N3 h.2⟩
theorem step_own {c:Int} (h:okC c):(∀s v,2<=s->s<=4->own c s=some v->Cc.stepC (setOf s) false v=some (setOf s,false,[c])∧0<=v∧v<=102)∧(∀v,valOf c 2=some v->Cc.stepC 1 true v=some (1,false,[c])∧0<=v∧v<=102)∧(∀v,valOf c 3=some v->Cc.stepC 0 true v=some (0,false,[c])∧0<=v∧v<=102):=by
 obtain⟨n,rfl⟩:∃n:Nat,c=(n:Int):=⟨c.toNat,by unfold okC at h;omega⟩;have h1:=S1.1 steps_own n (N4.2 (by unfold okC at h;omega));have h2:(decide (127<n)&&decide (n<256))=false:=EJ
 rw[h2,Bool.false_or,N1,N1]at h1;obtain⟨⟨k1,k2⟩,k3⟩:=h1;refine⟨fun s v h2 h4 hv=> ?_,fun v hv=> ?_,fun v hv=> ?_⟩;·have:=S1.1 k1 s I2;rw[hv,N1]at this;exact⟨N3 this.1,okV_is this.2⟩
 ·rw[hv,N1]at k2;exact⟨N3 k2.1,okV_is k2.2⟩
 ·rw[hv,N1]at k3;exact⟨N3 k3.1,okV_is k3.2⟩
theorem step_pair {a b v:Int} (h:pairV a b=some v):Cc.stepC 2 false v=some (2,false,[a,b])∧0<=v∧v<=102:=by
 unfold pairV at h;split at h;·rename_i h2;simp only[dig,N1,V1]at h2;injection h with h;subst h;unfold Cc.stepC;rw[D0 VG,D0 C0,D0 C0,G0 ⟨rfl,by omega⟩];refine⟨?_,by omega,by omega⟩;congr 4;(·omega);·congr 1;omega
 ·cases h
theorem drop_one {cs:List Int} {i:Nat} (h:i<cs.length):(cs.drop i).take 1=[cs.getD i 0]:=EK
theorem drop_two {cs:List Int} {i:Nat} (h:i+1<cs.length):(cs.drop i).take 2=[cs.getD i 0,cs.getD (i+1) 0]:=by rw[G4 C0,G4 h,A1,P0 C0,A1,P0 h];rfl
structure MoveOk (cs:List Int) (i s:Nat) (m:Mv):Prop where
 step:Cc.stepC (setOf s) (shOf s) m.1=some (setOf m.2.2,shOf m.2.2,(cs.drop i).take (m.2.1-i))
 le:i<=m.2.1
 end_:m.2.1<=cs.length
 st:m.2.2<=4
 val0:0<=m.1
 val1:m.1<=102
theorem move_ok {cs:List Int} (hc:∀c∈cs,okC c) {i s:Nat} (hi:i<cs.length) (hs:s<=4) {m:Mv} (hm:m∈moves cs i s):MoveOk cs i s m:=by
 obtain⟨k1,k2,k3⟩:=step_own (at_okC hc hi);obtain⟨x,j,t⟩:=m;have one1:i+1-i=1:=by omega
 have z0:(cs.drop i).take (i-i)=[]:=by rw[O3,W9]
 have h5:s=0∨s=1∨s=2∨s=3∨s=4:=by omega
 rcases h5 with rfl|rfl|rfl|rfl|rfl;·obtain⟨h1,h2⟩:=mem_one (v:=valOf (cs.getD i 0) 2) (nd:=(i+1,3)) hm;injection h1 with h1 h3;subst h1 h3;obtain⟨g1,g2,g3⟩:=k2 _ h2;exact QP
 ·obtain⟨h1,h2⟩:=mem_one (v:=valOf (cs.getD i 0) 3) (nd:=(i+1,2)) hm;injection h1 with h1 h3;subst h1 h3;obtain⟨g1,g2,g3⟩:=k3 _ h2;exact QP
 ·replace hm:(x,j,t)∈[((98:Int),i,1),(99,i,4),(100,i,3)]++one (own (cs.getD i 0) 2) (i+1,2):=hm;rcases M2.1 hm with hm|hm;(·exact EL);·obtain⟨h1,h2⟩:=mem_one hm;injection h1 with h1 h3;subst h1 h3;obtain⟨g1,g2,g3⟩:=k1 2 _ C0 C0 h2;exact QP
 ·replace hm:(x,j,t)∈[((98:Int),i,0),(99,i,4),(101,i,2)]++one (own (cs.getD i 0) 3) (i+1,3):=hm;rcases M2.1 hm with hm|hm;(·exact EL);·obtain⟨h1,h2⟩:=mem_one hm;injection h1 with h1 h3;subst h1 h3;obtain⟨g1,g2,g3⟩:=k1 3 _ C0 C0 h2;exact QP
 ·replace hm:(x,j,t)∈([((100:Int),i,3),(101,i,2)]++one (pairAt cs i) (i+2,4))++one (own (cs.getD i 0) 4) (i+1,4):=hm;rcases M2.1 hm with hm|hm;(·rcases M2.1 hm with hm|hm;(·simp only[U1,L4,M4,A3]at hm;rcases hm with⟨rfl,rfl,rfl⟩|⟨rfl,rfl,rfl⟩<;>exact⟨by dsimp only;rw[z0];rfl,I0 _,by dsimp only;omega,by dsimp only;omega,by dsimp only;omega,by dsimp only;omega⟩);·obtain⟨h1,h2⟩:=mem_one hm;injection h1 with h1 h3;subst h1 h3;unfold pairAt at h2;split at h2;(·rename_i h4;obtain⟨g1,g2,g3⟩:=step_pair h2;exact⟨by dsimp only;rw[show i+2-i=2 by omega,drop_two h4];exact g1,by dsimp only;omega,by dsimp only;omega,by dsimp only;omega,g2,g3⟩);·cases h2);·obtain⟨h1,h2⟩:=mem_one hm;injection h1 with h1 h3;subst h1 h3;obtain⟨g1,g2,g3⟩:=k1 4 _ C0 C0 h2;exact QP
theorem path_run {cs:List Int} {T:Tab} (F:Full cs T 0) (hc:∀c∈cs,okC c) (hl:cs.length<=4096):∀(k i s:Nat),T (i,s)=some k->i<=cs.length->s<=4->(∀out,Cc.runC (setOf s) (shOf s) out (path cs T k (i,s))=some (out++cs.drop i))∧(path cs T k (i,s)).length=k∧∀v∈path cs T k (i,s),0<=v∧v<=102:=by
 intro k
 induction k with
 |zero=>intro i s h hi hs;(have hlt:¬i<cs.length:=fun hlt=>by obtain⟨m,_,r,_,hr⟩:=consistent F hc hl hlt hs h;omega);obtain rfl:i=cs.length:=C0;have hsh:shOf s=false:=(by unfold shOf;refine D1 fun h2=> ?_;have:s=0∨s=1:=C0;rcases this with rfl|rfl;(·rw[F.end_.1]at h;cases h);·rw[F.end_.2]at h;cases h);refine⟨fun out=> ?_,rfl,fun v hv=>by cases hv⟩;rw[hsh,M6,B3];rfl
 |succ k ih=>
  intro i s h hi hs;have hlt:i<cs.length:=(by rcases N5 i cs.length with h2|h2;(·exact h2);·exfalso;obtain rfl:i=cs.length:=C0;have z:=least_le (cs.drop cs.length);have h5:s=0∨s=1∨s=2∨s=3∨s=4:=C0;rw[M6]at z;rcases h5 with rfl|rfl|rfl|rfl|rfl;(·rw[F.end_.1]at h;cases h);(·rw[F.end_.2]at h;cases h);(·rw[F.set2 _ C0 C0,M6]at h;cases h);(·rw[F.set3 _ C0 C0,M6]at h;cases h);·rw[F.set4 _ C0 C0,M6]at h;cases h);obtain⟨m0,hm0,r0,hr0,hr1⟩:=consistent F hc hl hlt hs h;obtain⟨m,hp,hm,r,hr,hr2⟩:=pick_is (T:=T) (fr:=(i,s)) ⟨m0,hm0,r0,hr0,by rw[h];exact hr1⟩;rw[h]at hr2;obtain rfl:r=k:=(by simpa using hr2);have M:=move_ok hc hlt hs hm;have e:path cs T (r+1) (i,s)=m.1::path cs T r m.2:=by
   show(if i<cs.length then match pick T (i,s) (moves cs i s)with
    |none=>[]
    |some m=>m.1::path cs T r m.2 else [])=_
   rw[G0 hlt,hp]
  obtain⟨x,j,t⟩:=m;obtain⟨g1,g2,g3⟩:=ih j t hr M.end_ M.st;rw[e];refine⟨fun out=> ?_,?_,?_⟩;(·unfold Cc.runC;have h1:=M.step;dsimp only at h1⊢;rw[h1];dsimp only;rw[g1,G1];congr 2;have h2:cs.drop j=(cs.drop i).drop (j-i):=(by rw[Y3];congr 1;have:=M.le;dsimp only at this;omega);rw[h2,C6]);(·rw[S0,g2]);·intro v hv;rcases U1.1 hv with rfl|hv;(·exact⟨M.val0,M.val1⟩);·exact g3 v hv
theorem startOf_is (T:Tab):startOf T=2∨startOf T=3∨startOf T=4:=by unfold startOf;dsimp only;split<;>split<;>simp
theorem body_is {cs:List Int} (hc:∀c∈cs,okC c) (hl:cs.length<=4096):∃(s:Nat) (p:List Int),2<=s∧s<=4∧body cs=((s:Int)+101)::p∧Cc.runC (s-2) false [] p=some cs∧p.length<=3*cs.length∧∀v∈p,0<=v∧v<=102:=by
 have F:=full_table cs hc hl;obtain⟨s,hs⟩:∃s,s=startOf (table cs):=⟨_,rfl⟩;have hs3:=startOf_is (table cs);rw[<-hs]at hs3;have hle:=least_le (cs.drop 0);rw[I4]at hle;obtain⟨k,hk,hk3⟩:∃k,table cs (0,s)=some k∧k<=3*cs.length:=by rcases hs3 with h|h|h<;>rw[h];(·exact⟨_,F.set2 0 (I0 _) (U0 _),hle.1⟩);(·exact⟨_,F.set3 0 (I0 _) (U0 _),hle.2.1⟩);·exact⟨_,F.set4 0 (I0 _) (U0 _),hle.2.2⟩
 obtain⟨g1,g2,g3⟩:=path_run F hc hl k 0 s hk (U0 _) C0;refine⟨s,path cs (table cs) k (0,s),by omega,by omega,?_,?_,by omega,g3⟩;·unfold body;rw[<-hs,hk];rfl
 ·have:=g1 [];rw[E4,I4]at this;rw[<-this];congr 1;(·unfold setOf;rw[D0 C0,D0 C0]);·unfold shOf;exact(D1 C0).symm
end Cs
end
end Go.Proofs.YtbngggoccndefaaGreatDoor
