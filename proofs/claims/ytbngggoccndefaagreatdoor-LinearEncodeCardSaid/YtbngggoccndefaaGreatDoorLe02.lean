/-
  Laid.
-/
import Derived.Test.YtbngggoccndefaaGreatDoorLe01
set_option maxHeartbeats 8000000
set_option maxRecDepth 100000
set_option linter.all false
namespace Go.Proofs.Enc
open Go.Proofs.Tryz
section
namespace Cs
def valOf(c:Int)(st:Nat):Option Int:=
 if st=2/\c<32 then some (c+64)else if(st=2/\c<=95)\/(st=3/\32<=c/\c<128)then some (c-32)else none
def fnOf(c:Int)(st:Nat):Option Int:=
 if c=256 then some 102 else if st=4 then none else if c=257 then some 97 else if c=258 then some 96 else if st=2 then some 101 else some 100
def own(c:Int)(st:Nat):Option Int:=if 256<=c then fnOf c st else valOf c st
def dig(c:Int):Bool:=decide (48<=c)&&decide (c<=57)
abbrev Nd:=Nat×Nat
abbrev Mv:=Int×Nd
def one(v:Option Int)(nd:Nd):List Mv:=match v with
 |none=>[]
 |some x=>[(x,nd)]
def No(a b:Int):Option Int:=if dig a&&dig b then some (10*(a-48)+b-48)else none
def IM(cs:List Int)(i:Nat):Option Int:=if i+1<cs.length then No (cs.getD i 0) (cs.getD (i+1) 0)else none
def Au(cs:List Int)(i st:Nat):List Mv:=
 if st=0 then one (valOf (cs.getD i 0) 2) (i+1,3)
 else if st=1 then one (valOf (cs.getD i 0) 3) (i+1,2)
 else(if st=2 then [(98,i,1),(99,i,4),(100,i,3)]else if st=3 then [(98,i,0),(99,i,4),(101,i,2)]else [(100,i,3),(101,i,2)]++one (IM cs i) (i+2,4))++one (own (cs.getD i 0) st) (i+1,st)
abbrev Tab:=Nd->Option Nat
def better(o:Option Nat)(r:Nat):Bool:=match o with
 |none=>true
 |some b=>decide (r<b)
def Kq(fr:Nd)(T:Tab)(m:Mv):Tab:=match T m.2 with
 |none=>T
 |some r=>if better (T fr) (r+1)then λx=>if x=fr then some (r+1)else T x else T
def node(cs:List Int)(i:Nat)(T:Tab)(st:Nat):Tab:=(Au cs i st).foldl (Kq (i,st)) T
def round(cs:List Int)(i:Nat)(T:Tab):Tab:=[0,1,2,3,4].foldl (node cs i) T
def tab0(n:Nat):Tab:=λx=>if x.1=n/\2<=x.2/\x.2<=4 then some 0 else none
def tabs(cs:List Int):Nat->Tab
 |0=>tab0 cs.length
 |k+1=>round cs (cs.length-1-k) (round cs (cs.length-1-k) (tabs cs k))
def table(cs:List Int):Tab:=tabs cs cs.length
def takes(T:Tab)(fr:Nd)(b:Option Mv)(m:Mv):Bool:=match T m.2 with
 |none=>false
 |some r=>decide (r+1=(T fr).getD 0)&&(match b with
  |none=>true
  |some x=>decide (m.1<x.1))
def pick(T:Tab)(fr:Nd)(l:List Mv):Option Mv:=l.foldl (λb m=>if takes T fr b m then some m else b) none
def path(cs:List Int)(T:Tab):Nat->Nd->List Int
 |0,_=>[]
 |k+1,fr=>if fr.1<cs.length then match pick T fr (Au cs fr.1 fr.2)with
  |none=>[]
  |some m=>m.1::path cs T k m.2
  else []
def Pw(T:Tab):Nat:=
 let a:=if(T (0,3)).getD 0<(T (0,2)).getD 0 then 3 else 2
 if(T (0,4)).getD 0<(T (0,a)).getD 0 then 4 else a
def body(cs:List Int):List Int:=((Pw (table cs):Int)+101)::path cs (table cs) ((table cs (0,Pw (table cs))).getD 0) (0,Pw (table cs))
def values(cs:List Int):List Int:=body cs++[Cc.Bk (body cs),106]
def omin:Option Nat->Option Nat->Option Nat
 |none,b=>b
 |some a,none=>some a
 |some a,some b=>some (min a b)
def inc(o:Option Nat):Option Nat:=o.map (·+1)
def relax_at(fr:Nd)(T:Tab)(m:Mv):Kq fr T m fr=omin (T fr) (inc (T m.2)):=by
 unfold Kq;cases h:T m.2 with
 |none=>cases h2:T fr<;>simp[h2,omin,inc]
 |some r=>
  dsimp only
  cases h2:T fr with
  |none=>simp[better,omin,inc]
  |some b=>by_cases h3:r+1<b;(·simp[better,omin,inc,h3];omega);·simp[better,omin,inc,h3,h2];omega
def aE6{fr x:Nd}(T:Tab)(m:Mv)(h:x≠fr):Kq fr T m x=T x:=by
 unfold Kq;cases T m.2 with
 |none=>rfl
 |some r=>dsimp only;split;(·exact D0 h);·rfl
def fold_ne{fr x:Nd}(h:x≠fr):∀(l:List Mv)(T:Tab),l.foldl (Kq fr) T x=T x
 | [],T=>rfl
 |m::l,T=>by rw[N3,fold_ne h l,aE6 T m h]
def fold_at(fr:Nd):∀(l:List Mv)(T:Tab),(∀m∈l,m.2≠fr)->l.foldl (Kq fr) T fr=l.foldl (λa m=>omin a (inc (T m.2))) (T fr)
 | [],T,_=>rfl
 |m::l,T,h=>by
  rw[N3,N3,fold_at fr l _ λx hx=>h x (Y1 _ hx),relax_at];have key:∀(l':List Mv)(a:Option Nat),(∀x∈l',x.2≠fr)->l'.foldl (λa m'=>omin a (inc (Kq fr T m m'.2))) a=l'.foldl (λa m'=>omin a (inc (T m'.2))) a:=by
   intro l'
   induction l' with
   |nil=>intro a _;rfl
   |cons y l' ih=>intro a hl;rw[N3,N3,aE6 T m (hl y (C2 ..))];exact ih _ λx hx=>hl x (Y1 _ hx)
  exact key l _ λx hx=>h x (Y1 _ hx)
def mem_one{v:Option Int}{nd:Nd}{m:Mv}(h:m∈one v nd):m.2=nd/\v=some m.1:=by
 unfold one at h;cases v with
 |none=>cases h
 |some x=>simp only[D3]at h;subst h;exact⟨rfl,rfl⟩
def moves_ne{cs:List Int}{i st:Nat}(hs:st<=4):∀m∈Au cs i st,m.2≠(i,st):=by
 intro m hm;have key:∀(v:Option Int)(j t:Nat),m∈one v (j,t)->i<j->m.2≠(i,st):=λv j t h hj=>by rw[(mem_one h).1];intro e;injection e with e;omega
 have h5:st=0\/st=1\/st=2\/st=3\/st=4:=by omega
 rcases h5 with rfl|rfl|rfl|rfl|rfl;·exact SU
 .exact SU
 .replace hm:m∈[((98:Int),i,1),(99,i,4),(100,i,3)]++one (own (cs.getD i 0) 2) (i+1,2):=hm;exact vJ
 .replace hm:m∈[((98:Int),i,0),(99,i,4),(101,i,2)]++one (own (cs.getD i 0) 3) (i+1,3):=hm;exact vJ
 .replace hm:m∈([((100:Int),i,3),(101,i,2)]++one (IM cs i) (i+2,4))++one (own (cs.getD i 0) 4) (i+1,4):=hm;rcases E3.1 hm with hm|hm;(·rcases E3.1 hm with hm|hm;(·simp only[E2,J4,F4]at hm;rcases hm with rfl|rfl<;>simp);·exact SU);·exact SU
def aAj{cs:List Int}{i st:Nat}{T:Tab}{x:Nd}(h:x≠(i,st)):node cs i T st x=T x:=fold_ne h _ _
def aBP{cs:List Int}{i st:Nat}{T:Tab}(hs:st<=4):node cs i T st (i,st)=(Au cs i st).foldl (λa m=>omin a (inc (T m.2))) (T (i,st)):=fold_at _ _ _ (moves_ne hs)
def aAx(T:Tab)(v:Option Int)(nd:Nd)(a:Option Nat):(one v nd).foldl (λa m=>omin a (inc (T m.2))) a=omin a (if v.isSome then inc (T nd)else none):=by
 cases v with
 |none=>cases a<;>rfl
 |some x=>rfl
abbrev V5:=Option Nat×Option Nat×Option Nat×Option Nat×Option Nat
def aA2(T:Tab)(i:Nat):V5:=(T (i,0),T (i,1),T (i,2),T (i,3),T (i,4))
def Un(q0 q1 q2 q3 qp q4:Option Nat)(v:V5):V5:=
 let w0:=omin v.1 q0
 let w1:=omin v.2.1 q1
 let w2:=omin (omin (omin (omin v.2.2.1 (inc w1)) (inc v.2.2.2.2)) (inc v.2.2.2.1)) q2
 let w3:=omin (omin (omin (omin v.2.2.2.1 (inc w0)) (inc v.2.2.2.2)) (inc w2)) q3
 let w4:=omin (omin (omin (omin v.2.2.2.2 (inc w3)) (inc w2)) qp) q4
 (w0,w1,w2,w3,w4)
def q(v:Option Int)(n:Option Nat):Option Nat:=if v.isSome then inc n else none
def aAm{cs:List Int}{i:Nat}{T:Tab}{x:Nd}(h:x.1≠i):round cs i T x=T x:=by unfold round;simp only[N3,B6];have hx:∀s,x≠(i,s):=λs e=>h (by rw[e]);rw[aAj (hx _),aAj (hx _),aAj (hx _),aAj (hx _),aAj (hx _)]
def round_vals(cs:List Int)(i:Nat)(T:Tab):aA2 (round cs i T) i=Un (q (valOf (cs.getD i 0) 2) (T (i+1,3))) (q (valOf (cs.getD i 0) 3) (T (i+1,2))) (q (own (cs.getD i 0) 2) (T (i+1,2))) (q (own (cs.getD i 0) 3) (T (i+1,3))) (q (IM cs i) (T (i+2,4))) (q (own (cs.getD i 0) 4) (T (i+1,4))) (aA2 T i):=by
 obtain⟨T1,h1⟩:∃T1,T1=node cs i T 0:=⟨_,rfl⟩;obtain⟨T2,h2⟩:∃T2,T2=node cs i T1 1:=⟨_,rfl⟩;obtain⟨T3,h3⟩:∃T3,T3=node cs i T2 2:=⟨_,rfl⟩;obtain⟨T4,h4⟩:∃T4,T4=node cs i T3 3:=⟨_,rfl⟩;obtain⟨T5,h5⟩:∃T5,T5=node cs i T4 4:=⟨_,rfl⟩;have e:round cs i T=T5:=by subst h5 h4 h3 h2 h1;rfl
 have ne:∀(T T':Tab)(s:Nat),T'=node cs i T s->∀j t,(j≠i\/t≠s)->T' (j,t)=T (j,t):=by intro T T' s h j t ht;rw[h];refine aAj λe=> ?_;injection e with e1 e2;rcases ht with ht|ht;(·exact ht e1);·exact ht e2
 have a1:T1 (i,0)=omin (T (i,0)) (q (valOf (cs.getD i 0) 2) (T (i+1,3))):=by rw[h1,aBP C0];exact aAx T _ _ _
 have a2:T2 (i,1)=omin (T1 (i,1)) (q (valOf (cs.getD i 0) 3) (T1 (i+1,2))):=by rw[h2,aBP C0];exact aAx T1 _ _ _
 have a3:T3 (i,2)=omin (omin (omin (omin (T2 (i,2)) (inc (T2 (i,1)))) (inc (T2 (i,4)))) (inc (T2 (i,3)))) (q (own (cs.getD i 0) 2) (T2 (i+1,2))):=by rw[h3,aBP C0];exact vK
 have a4:T4 (i,3)=omin (omin (omin (omin (T3 (i,3)) (inc (T3 (i,0)))) (inc (T3 (i,4)))) (inc (T3 (i,2)))) (q (own (cs.getD i 0) 3) (T3 (i+1,3))):=by rw[h4,aBP C0];exact vK
 have a5:T5 (i,4)=omin (omin (omin (omin (T4 (i,4)) (inc (T4 (i,3)))) (inc (T4 (i,2)))) (q (IM cs i) (T4 (i+2,4)))) (q (own (cs.getD i 0) 4) (T4 (i+1,4))):=by rw[h5,aBP C0];show List.foldl _ _ (([_,_]++one _ _)++one _ _)=_;rw[WI,WI,aAx,aAx];rfl
 have n1:=ne T T1 0 h1;have n2:=ne T1 T2 1 h2;have n3:=ne T2 T3 2 h3;have n4:=ne T3 T4 3 h4;have n5:=ne T4 T5 4 h5;rw[e];unfold aA2 Un;dsimp only;have b0:T5 (i,0)=T1 (i,0):=by rw[n5 _ _ (.inr C0),n4 _ _ (.inr C0),n3 _ _ (.inr C0),n2 _ _ (.inr C0)]
 have b1:T5 (i,1)=T2 (i,1):=by rw[n5 _ _ (.inr C0),n4 _ _ (.inr C0),n3 _ _ (.inr C0)]
 have b2:T5 (i,2)=T3 (i,2):=by rw[n5 _ _ (.inr C0),n4 _ _ (.inr C0)]
 have b3:T5 (i,3)=T4 (i,3):=by rw[n5 _ _ (.inr C0)]
 have c1:T1 (i,1)=T (i,1):=n1 _ _ (.inr C0);have c1':∀t,T1 (i+1,t)=T (i+1,t):=λt=>n1 _ _ (.inl C0);have c2:T2 (i,2)=T (i,2):=FB
 have c2':∀t,T2 (i+1,t)=T (i+1,t):=λt=>by rw[n2 _ _ (.inl C0),c1']
 have c3:T2 (i,3)=T (i,3):=FB;have c4:T2 (i,4)=T (i,4):=FB;have d0:T3 (i,0)=T1 (i,0):=by rw[n3 _ _ (.inr C0),n2 _ _ (.inr C0)]
 have d3:T3 (i,3)=T (i,3):=by rw[n3 _ _ (.inr C0),c3]
 have d4:T3 (i,4)=T (i,4):=by rw[n3 _ _ (.inr C0),c4]
 have d':∀t,T3 (i+1,t)=T (i+1,t):=λt=>by rw[n3 _ _ (.inl C0),c2']
 have e4:T4 (i,4)=T (i,4):=by rw[n4 _ _ (.inr C0),d4]
 have e2:T4 (i,2)=T3 (i,2):=n4 _ _ (.inr C0);have e':∀t,T4 (i+1,t)=T (i+1,t):=λt=>by rw[n4 _ _ (.inl C0),d']
 have e'':∀t,T4 (i+2,t)=T (i+2,t):=λt=>by rw[n4 _ _ (.inl C0),n3 _ _ (.inl C0),n2 _ _ (.inl C0),n1 _ _ (.inl C0)]
 simp only[b0,b1,b2,b3,a5,a4,a3,a2,a1,c1,c1',c2,c2',c3,c4,d0,d3,d4,d',e4,e2,e',e'']
end Cs
namespace Cs
def Ab(c:Int):Prop:=(0<=c/\c<=127)\/(256<=c/\c<=259)
def Pa:Nat:=1099511627776
def Br(c:Int)(st n:Nat):Nat:=if(own c st).isSome then n+1 else n+2
def Fy(c:Int)(pr:Bool)(n p:Nat):Nat:=if c=256 then n+1 else if pr then p+1 else Pa
def comb(u v w:Nat):Nat×Nat×Nat:=(min u (min (v+1) (w+1)),min v (min (u+1) (w+1)),min w (min (u+1) (v+1)))
def least:List Int->Nat×Nat×Nat
 | []=>(0,0,0)
 | [c]=>comb (Br c 2 0) (Br c 3 0) (Fy c false 0 0)
 |c::d::r=>comb (Br c 2 (least (d::r)).1) (Br c 3 (least (d::r)).2.1) (Fy c (No c d).isSome (least (d::r)).2.2 (least r).2.2)
def setsB(c:Int):Bool:=
 match(valOf c 2).isSome,(valOf c 3).isSome,(own c 2).isSome,(own c 3).isSome,(own c 4).isSome,decide (c=256),dig c with
 |true,false,true,false,false,false,false=>true
 |true,true,true,true,false,false,_=>true
 |false,true,false,true,false,false,false=>true
 |false,false,true,true,true,true,false=>true
 |false,false,true,true,false,false,false=>true
 |_,_,_,_,_,_,_=>false
def sets(c:Int)(h:Ab c):
 ((valOf c 2).isSome=true/\(valOf c 3).isSome=false/\(own c 2).isSome=true/\(own c 3).isSome=false/\(own c 4).isSome=false/\c≠256/\dig c=false)\/
 ((valOf c 2).isSome=true/\(valOf c 3).isSome=true/\(own c 2).isSome=true/\(own c 3).isSome=true/\(own c 4).isSome=false/\c≠256)\/
 ((valOf c 2).isSome=false/\(valOf c 3).isSome=true/\(own c 2).isSome=false/\(own c 3).isSome=true/\(own c 4).isSome=false/\c≠256/\dig c=false)\/
 ((valOf c 2).isSome=false/\(valOf c 3).isSome=false/\(own c 2).isSome=true/\(own c 3).isSome=true/\(own c 4).isSome=true/\c=256/\dig c=false)\/
 ((valOf c 2).isSome=false/\(valOf c 3).isSome=false/\(own c 2).isSome=true/\(own c 3).isSome=true/\(own c 4).isSome=false/\c≠256/\dig c=false):=by
 have all:(List.range 260).all (λn=>(decide (127<n)&&decide (n<256)) || setsB n)=true:=L2;obtain⟨n,rfl⟩:∃n:Nat,c=(n:Int):=⟨c.toNat,by unfold Ab at h;omega⟩;have h1:=M1.1 all n (P5.2 FC);have h2:(decide (127<n)&&decide (n<256))=false:=FD;rw[h2,WJ]at h1;unfold setsB at h1;have e:(decide ((n:Int)=256)=true)↔(n:Int)=256:=decide_eq_true_iff;cases a1:(valOf n 2).isSome<;>cases a2:(valOf n 3).isSome<;>cases a3:(own n 2).isSome<;>cases a4:(own n 3).isSome<;>cases a5:(own n 4).isSome<;>cases a6:dig n<;>cases a7:decide ((n:Int)=256)<;>
  (
   rw[a1,a2,a3,a4,a5,a6,a7]at h1
   first
   |(cases h1;done)
   |(have a8:=OW a7;simp[a8])
   |(have a8:=D4 a7;simp[a8]))
def aHJ{a b:Int}(h:(No a b).isSome=true):dig a=true:=by
 unfold No at h;split at h;·rename_i h2;simp only[P1]at h2;exact h2.1
 .cases h
def Um(a:Option Nat):omin none a=a:=by cases a<;>rfl
def aET(a:Option Nat):omin a a=a:=by cases a<;>simp[omin]
def omin_turn{x r:Option Nat}{u:Nat}(h:omin x r=some u)(v y z:Option Nat):omin (omin (omin (omin v x) y) z) r=omin (some u) (omin v (omin y z)):=by rw[<-h];cases v<;>cases x<;>cases y<;>cases z<;>cases r<;>simp[omin]<;>omega
def omin_turn4{p r:Option Nat}{o:Option Nat}(h:omin p r=o)(v x y:Option Nat):omin (omin (omin (omin v x) y) p) r=omin o (omin v (omin x y)):=by rw[<-h];cases v<;>cases x<;>cases y<;>cases p<;>cases r<;>simp[omin]<;>omega
def aE8{q0 q1 q2 q3 qp q4:Option Nat}{ua ub:Nat}(ha:omin (inc q1) q2=some ua)(hb:omin (inc q0) q3=some ub){oc:Option Nat}(hoc:omin qp q4=oc){v0 v1 v2 v3 v4 w2 w3 w4:Option Nat}(h0:omin v0 q0=q0)(h1:omin v1 q1=q1)
 (h2:omin (some ua) (omin v2 (omin (inc v4) (inc v3)))=w2)(h3:omin (some ub) (omin v3 (omin (inc v4) (inc w2)))=w3)(h4:omin oc (omin v4 (omin (inc w3) (inc w2)))=w4):Un q0 q1 q2 q3 qp q4 (v0,v1,v2,v3,v4)=(q0,q1,w2,w3,w4):=by
 unfold Un;dsimp only;rw[h0,h1,omin_turn ha,omin_turn hb,omin_turn4 hoc,h2,h3,h4]
def min_1{b x y:Nat}(h:b=min x y):(b=x/\x<=y)\/(b=y/\y<=x):=by omega
def twice_nums{ua ub uc b1 c1 a2 b2:Nat}(h1:b1=min ub (ua+1))(h2:(c1=min uc (min (b1+1) (ua+1)))\/(c1=min (b1+1) (ua+1)/\ua+1<uc/\ub+1<uc))(h3:a2=min ua (min (c1+1) (b1+1)))(h4:b2=min ub (min (c1+1) (a2+1))):
 a2=min ua (min (ub+1) (uc+1))/\b2=min ub (min (ua+1) (uc+1))/\min uc (min c1 (min (b2+1) (a2+1)))=min uc (min (ua+1) (ub+1)):=by
 have hc:c1=min uc (min (b1+1) (ua+1)):=by rcases h2 with h2|⟨h2,h5,h6⟩;(·exact h2);·rw[h2];clear h3 h4;omega
 clear h2;obtain⟨m,hm⟩:∃m,m=min (b1+1) (ua+1):=⟨_,rfl⟩;obtain⟨n,hn⟩:∃n,n=min (c1+1) (b1+1):=⟨_,rfl⟩;rw[<-hm]at hc;rw[<-hn]at h3;rcases min_1 h1 with⟨k1,g1⟩|⟨k1,g1⟩<;>rcases min_1 hm with⟨k2,g2⟩|⟨k2,g2⟩<;>rcases min_1 hc with⟨k3,g3⟩|⟨k3,g3⟩<;>rcases min_1 hn with⟨k4,g4⟩|⟨k4,g4⟩<;>rcases min_1 h3 with⟨k5,g5⟩|⟨k5,g5⟩<;>clear h1 hm hc hn h3<;>
  (
   refine⟨?_,?_,?_⟩
   .clear h4;omega
   .omega
   .omega)
def rnd_twice{q0 q1 q2 q3 qp q4:Option Nat}{ua ub:Nat}(ha:omin (inc q1) q2=some ua)(hb:omin (inc q0) q3=some ub)(oc:Option Nat)(hoc:omin qp q4=oc)(uc:Nat)(hc:oc=some uc\/(oc=none/\ua+1<uc/\ub+1<uc)):
 Un q0 q1 q2 q3 qp q4 (Un q0 q1 q2 q3 qp q4 (none,none,none,none,none))=(q0,q1,some (comb ua ub uc).1,some (comb ua ub uc).2.1,some (comb ua ub uc).2.2):=by
 have hs:∀a b:Nat,omin (some a) (some b)=some (min a b):=λ_ _=>rfl
 have hi:∀a:Nat,inc (some a)=some (a+1):=λ_=>rfl
 have i0:inc none=none:=rfl;have on:∀a:Option Nat,omin a none=a:=λa=>by cases a<;>rfl
 unfold comb;obtain⟨b1,o8⟩:∃b1,b1=min ub (ua+1):=⟨_,rfl⟩;have m2:∀x y:Nat,min x (min x y)=min x y:=λx y=>by omega
 have s1:∀o:Option Nat,∀w4,omin oc (omin none (omin (inc (some b1)) (inc (some ua))))=w4->Un q0 q1 q2 q3 qp q4 (none,none,none,none,none)=(q0,q1,some ua,some b1,w4):=λ_ w4 h=>aE8 ha hb hoc (Um _) (Um _) (by rw[i0,Um,Um,on]) (by rw[i0,Um,Um,hi,hs,<-o8]) h
 have fin:∀c1:Nat,(c1=min uc (min (b1+1) (ua+1))\/(c1=min (b1+1) (ua+1)/\ua+1<uc/\ub+1<uc))->∀(h5:∀x:Nat,omin oc (some (min c1 x))=some (min uc (min c1 x))),Un q0 q1 q2 q3 qp q4 (q0,q1,some ua,some b1,some c1)=(q0,q1,some (min ua (min (ub+1) (uc+1))),some (min ub (min (ua+1) (uc+1))),some (min uc (min (ua+1) (ub+1)))):=by intro c1 h1 h5;obtain⟨a2,IB⟩:∃a2,a2=min ua (min (c1+1) (b1+1)):=⟨_,rfl⟩;obtain⟨b2,n7⟩:∃b2,b2=min ub (min (c1+1) (a2+1)):=⟨_,rfl⟩;obtain⟨e1,e2,e3⟩:=twice_nums o8 h1 IB n7;rw[<-e1,<-e2,<-e3];refine aE8 ha hb hoc (aET _) (aET _) ?_ ?_ ?_;(·rw[hi,hi,hs,hs,hs,IB,m2]);(·rw[hi,hi,hs,hs,hs,n7];congr 1;have:a2<=ua:=(by clear e1 e2 e3 n7 h1 o8;omega);clear e1 e2 e3 IB n7 h1;omega);·rw[hi,hi,hs,hs,h5]
 rcases hc with rfl|⟨rfl,h1,h2⟩
 .rw[s1 none _ rfl,Um,hi,hi,hs,hs];exact fin _ (.inl rfl) λx=>hs _ _
 .rw[s1 none _ rfl,Um,Um,hi,hi,hs];refine fin _ (.inr ⟨rfl,h1,h2⟩) λx=> ?_;rw[Um];congr 1;clear fin s1 hb o8;omega
def two_rounds{c:Int}(hc:Ab c)(n2 n3 n4:Nat)(pv:Option Int)(p:Option Nat)(b2:n2<=1000000)(b3:n3<=1000000)(hp:pv.isSome=true->dig c=true/\∃n,p=some n):
 Un (q (valOf c 2) (some n3)) (q (valOf c 3) (some n2)) (q (own c 2) (some n2)) (q (own c 3) (some n3)) (q pv p) (q (own c 4) (some n4)) (Un (q (valOf c 2) (some n3)) (q (valOf c 3) (some n2)) (q (own c 2) (some n2)) (q (own c 3) (some n3)) (q pv p) (q (own c 4) (some n4)) (none,none,none,none,none))=
  (q (valOf c 2) (some n3),q (valOf c 3) (some n2),some (comb (Br c 2 n2) (Br c 3 n3) (Fy c pv.isSome n4 (p.getD 0))).1,some (comb (Br c 2 n2) (Br c 3 n3) (Fy c pv.isSome n4 (p.getD 0))).2.1,some (comb (Br c 2 n2) (Br c 3 n3) (Fy c pv.isSome n4 (p.getD 0))).2.2):=by
 have hf:3000000<=Pa:=OX
 have hpv:pv.isSome=false\/(pv.isSome=true/\dig c=true/\∃n,p=some n):=by
  cases h:pv.isSome with
  |false=>exact .inl rfl
  |true=>exact .inr ⟨rfl,hp h⟩
 have hm:∀n:Nat,min (n+1+1) (n+1)=n+1:=λn=>by omega
 refine rnd_twice (oc:=omin (q pv p) (q (own c 4) (some n4))) ?_ ?_ rfl _ ?_
 .unfold Br q;rcases sets c hc with⟨h1,h2,h3,h4,h5,h6,h7⟩|⟨h1,h2,h3,h4,h5,h6⟩|⟨h1,h2,h3,h4,h5,h6,h7⟩|⟨h1,h2,h3,h4,h5,h6,h7⟩|⟨h1,h2,h3,h4,h5,h6,h7⟩<;>simp[h2,h3,omin,inc,hm]
 .unfold Br q;rcases sets c hc with⟨h1,h2,h3,h4,h5,h6,h7⟩|⟨h1,h2,h3,h4,h5,h6⟩|⟨h1,h2,h3,h4,h5,h6,h7⟩|⟨h1,h2,h3,h4,h5,h6,h7⟩|⟨h1,h2,h3,h4,h5,h6,h7⟩<;>simp[h1,h4,omin,inc,hm]
 .have hu:Br c 2 n2<=n2+2/\Br c 3 n3<=n3+2:=by unfold Br;constructor<;>split<;>omega
  unfold Fy q
  rcases sets c hc with⟨h1,h2,h3,h4,h5,h6,h7⟩|⟨h1,h2,h3,h4,h5,h6⟩|⟨h1,h2,h3,h4,h5,h6,h7⟩|⟨h1,h2,h3,h4,h5,h6,h7⟩|⟨h1,h2,h3,h4,h5,h6,h7⟩<;>
  rcases hpv with hpv|⟨hpv,hd,pn,rfl⟩<;>
  first
  |(rw[h7]at hd;cases hd;done)
  |(left;rw[h5,hpv,G0 h6];rfl)
  |(left;simp[h5,h6,hpv,omin,inc];done)
  |(right;rw[h5,hpv,D0 h6,D0 SV,D0 SV,D0 SV];exact⟨rfl,by omega,by omega⟩)
def least_le:∀(l:List Int),(least l).1<=3*l.length/\(least l).2.1<=3*l.length/\(least l).2.2<=3*l.length
 | []=>by simp[least]
 | [c]=>by unfold least comb Br Fy;generalize Pa=F;simp only[B1,I3];exact R5
 |c::d::r=>by have h1:=least_le (d::r);have h2:=least_le r;unfold least comb Br Fy;generalize Pa=F;simp only[B1]at h1⊢;exact R5
structure Full (cs:List Int) (T:Tab) (i:Nat):Prop where
 Tj:∀j,i<=j->j<=cs.length->T (j,2)=some (least (cs.drop j)).1
 Tk:∀j,i<=j->j<=cs.length->T (j,3)=some (least (cs.drop j)).2.1
 Mt:∀j,i<=j->j<=cs.length->T (j,4)=some (least (cs.drop j)).2.2
 sh0:∀j,i<=j->j<cs.length->T (j,0)=q (valOf (cs.getD j 0) 2) (some (least (cs.drop (j+1))).2.1)
 sh1:∀j,i<=j->j<cs.length->T (j,1)=q (valOf (cs.getD j 0) 3) (some (least (cs.drop (j+1))).1)
 low:∀j s,j<i->T (j,s)=none
 end_:T (cs.length,0)=none/\T (cs.length,1)=none
def least_at{cs:List Int}{i:Nat}(h:i<cs.length):least (cs.drop i)=comb (Br (cs.getD i 0) 2 (least (cs.drop (i+1))).1) (Br (cs.getD i 0) 3 (least (cs.drop (i+1))).2.1) (Fy (cs.getD i 0) (IM cs i).isSome (least (cs.drop (i+1))).2.2 (if i+1<cs.length then(least (cs.drop (i+2))).2.2 else 0)):=by
 have e:cs.drop i=cs.getD i 0::cs.drop (i+1):=vL;unfold IM;by_cases h2:i+1<cs.length;·have e2:cs.drop (i+1)=cs.getD (i+1) 0::cs.drop (i+2):=(by rw[F5 h2,F1,P0 h2];rfl);rw[e,e2,G0 h2,G0 h2];rfl
 .have e2:cs.drop (i+1)=[]:=O5 C0;rw[e,e2,D0 h2,D0 h2];rfl
def full_tabs(cs:List Int)(hc:∀c∈cs,Ab c)(hl:cs.length<=4096):∀k,k<=cs.length->Full cs (tabs cs k) (cs.length-k)
 |0,_=>by(have hn:∀j,cs.length-0<=j->j<=cs.length->j=cs.length:=λj h1 h2=>by omega);refine⟨λj h1 h2=> ?_,λj h1 h2=> ?_,λj h1 h2=> ?_,λj h1 h2=>by omega,λj h1 h2=>by omega,λj s h=> ?_,?_⟩;(·exact FE);(·exact FE);(·exact FE);(·simp[tabs,tab0];omega);·simp[tabs,tab0]
 |k+1,hk=>by have F:=full_tabs cs hc hl k C0;obtain⟨i,hi⟩:∃i,i=cs.length-1-k:=⟨_,rfl⟩;have Gh:cs.length-(k+1)=i:=C0;have So:cs.length-k=i+1:=C0;rw[So]at F;have Ev:i<cs.length:=C0;rw[Gh];show Full cs (round cs (cs.length-1-k) (round cs (cs.length-1-k) (tabs cs k))) i;rw[<-hi];generalize tabs cs k=T at F⊢;have Eg:Ab (cs.getD i 0):=hc _ (by rw[F1,P0 Ev];exact YL Ev);have o8:=least_le (cs.drop (i+1));have n7:(cs.drop (i+1)).length<=4096:=YO;have e2:=F.Tj (i+1) C0 C0;have e3:=F.Tk (i+1) C0 C0;have e4:=F.Mt (i+1) C0 C0;(have ne:∀x:Nd,x.1≠i->round cs i (round cs i T) x=T x:=λx h=>by rw[aAm h,aAm h]);have Jw:aA2 T i=(none,none,none,none,none):=(by unfold aA2;rw[F.low i 0 C0,F.low i 1 C0,F.low i 2 C0,F.low i 3 C0,F.low i 4 C0]);(have Bh:(IM cs i).isSome=true->dig (cs.getD i 0)=true/\∃n,T (i+2,4)=some n:=λh=>by unfold IM at h;split at h;(·exact⟨aHJ h,_,F.Mt (i+2) C0 C0⟩);·cases h);have key:=two_rounds Eg (least (cs.drop (i+1))).1 (least (cs.drop (i+1))).2.1 (least (cs.drop (i+1))).2.2 (IM cs i) (T (i+2,4)) C0 C0 Bh;have hv:aA2 (round cs i (round cs i T)) i=(q (valOf (cs.getD i 0) 2) (some (least (cs.drop (i+1))).2.1),q (valOf (cs.getD i 0) 3) (some (least (cs.drop (i+1))).1),some (least (cs.drop i)).1,some (least (cs.drop i)).2.1,some (least (cs.drop i)).2.2):=(by rw[round_vals,round_vals,aAm (x:=(i+1,3)) L0,aAm (x:=(i+1,2)) L0,aAm (x:=(i+1,4)) L0,aAm (x:=(i+2,4)) L0,e2,e3,e4,Jw,key,least_at Ev];have hu:Fy (cs.getD i 0) (IM cs i).isSome (least (cs.drop (i+1))).2.2 ((T (i+2,4)).getD 0)=Fy (cs.getD i 0) (IM cs i).isSome (least (cs.drop (i+1))).2.2 (if i+1<cs.length then(least (cs.drop (i+2))).2.2 else 0):=(by by_cases h2:i+1<cs.length;(·rw[F.Mt (i+2) C0 C0,G0 h2];rfl);·have:IM cs i=none:=(by unfold IM;rw[D0 h2]);rw[this];rfl);rw[hu]);unfold aA2 at hv;simp only[Y2]at hv;obtain⟨v0,v1,v2,v3,v4⟩:=hv;refine⟨λj h1 h2=> ?_,λj h1 h2=> ?_,λj h1 h2=> ?_,λj h1 h2=> ?_,λj h1 h2=> ?_,λj s h=> ?_,?_⟩;(·by_cases hj:j=i;(·subst hj;exact v2);·rw[ne _ hj];exact F.Tj j C0 h2);(·by_cases hj:j=i;(·subst hj;exact v3);·rw[ne _ hj];exact F.Tk j C0 h2);(·by_cases hj:j=i;(·subst hj;exact v4);·rw[ne _ hj];exact F.Mt j C0 h2);(·by_cases hj:j=i;(·subst hj;exact v0);·rw[ne _ hj];exact F.sh0 j C0 h2);(·by_cases hj:j=i;(·subst hj;exact v1);·rw[ne _ hj];exact F.sh1 j C0 h2);(·rw[ne _ J3];exact F.low j s C0);·rw[ne _ J3,ne _ J3];exact F.end_
def aA9(cs:List Int)(hc:∀c∈cs,Ab c)(hl:cs.length<=4096):Full cs (table cs) 0:=by have:=full_tabs cs hc hl cs.length (J0 _);rw[Y3]at this;exact L3
end Cs
namespace Cs
def Xl{cs:List Int}(hc:∀c∈cs,Ab c){i:Nat}(h:i<cs.length):Ab (cs.getD i 0):=
 hc _ (by rw[F1,P0 h];exact YL h)
def aAk{v:Option Int}(nd:Nd)(h:v.isSome=true):∃x,(x,nd)∈one v nd:=by
 cases v with
 |none=>cases h
 |some x=>exact⟨x,by simp[one]⟩
def aBp{v:Option Int}{n b:Nat}(h:q v (some n)=some b):v.isSome=true/\n+1=b:=by
 unfold q at h;split at h;·rename_i h2;exact⟨h2,by simpa[inc]using h⟩
 .cases h
def aBo{v:Option Int}{n:Nat}(h:v.isSome=true):q v (some n)=some (n+1):=by unfold q;rw[G0 h];rfl
def consistent{cs:List Int}{T:Tab}(F:Full cs T 0)(hc:∀c∈cs,Ab c)(hl:cs.length<=4096){i s b:Nat}(hi:i<cs.length)(hs:s<=4)(h:T (i,s)=some b):∃m∈Au cs i s,∃r,T m.2=some r/\r+1=b:=by
 have Eg:=Xl hc hi;have t2:=F.Tj i C0 C0;have t3:=F.Tk i C0 C0;have t4:=F.Mt i C0 C0;have s0:=F.sh0 i C0 hi;have s1:=F.sh1 i C0 hi;have n2:=F.Tj (i+1) C0 C0;have n3:=F.Tk (i+1) C0 C0;have n4:=F.Mt (i+1) C0 C0;have hb:=least_le (cs.drop (i+1));have Ce:(cs.drop (i+1)).length<=4096:=by rw[X1];omega
 have hf:3000000<=Pa:=OX;have hp:(IM cs i).isSome=true->∃p,p=(if i+1<cs.length then(least (cs.drop (i+2))).2.2 else 0)/\T (i+2,4)=some p:=λh=>by unfold IM at h;split at h;(·rename_i h2;exact⟨_,rfl,by rw[G0 h2];exact F.Mt (i+2) C0 C0⟩);·cases h
 rw[least_at hi]at t2 t3 t4;obtain⟨l,hle⟩:∃l,l=least (cs.drop (i+1)):=⟨_,rfl⟩;rw[<-hle]at t2 t3 t4 s0 s1 n2 n3 n4 hb;obtain⟨a,b',c'⟩:=l;dsimp only at t2 t3 t4 s0 s1 n2 n3 n4 hb;obtain⟨u,hu⟩:∃u,u=Br (cs.getD i 0) 2 a:=⟨_,rfl⟩;obtain⟨v,hv⟩:∃v,v=Br (cs.getD i 0) 3 b':=⟨_,rfl⟩;obtain⟨w,hw⟩:∃w,w=Fy (cs.getD i 0) (IM cs i).isSome c' (if i+1<cs.length then(least (cs.drop (i+2))).2.2 else 0):=⟨_,rfl⟩;rw[<-hu,<-hv,<-hw]at t2 t3 t4;unfold comb at t2 t3 t4;dsimp only at t2 t3 t4;have ub:u<=a+2/\v<=b'+2:=by rw[hu,hv];unfold Br;constructor<;>split<;>omega
 have h5:s=0\/s=1\/s=2\/s=3\/s=4:=by omega
 rcases h5 with rfl|rfl|rfl|rfl|rfl;·rw[s0]at h;obtain⟨h1,h2⟩:=aBp h;obtain⟨x,hx⟩:=aAk (i+1,3) h1;exact⟨_,hx,_,n3,h2⟩
 .rw[s1]at h;obtain⟨h1,h2⟩:=aBp h;obtain⟨x,hx⟩:=aAk (i+1,2) h1;exact⟨_,hx,_,n2,h2⟩
 .rw[t2]at h;injection h with h;have e:Au cs i 2=[((98:Int),i,1),(99,i,4),(100,i,3)]++one (own (cs.getD i 0) 2) (i+1,2):=rfl;rw[e];have Ob:b=u\/(b=v+1/\min v (min (u+1) (w+1))=v)\/(b=w+1/\min w (min (u+1) (v+1))=w):=C0;rcases Ob with rfl|⟨rfl,h2⟩|⟨rfl,h2⟩;(·by_cases ho:(own (cs.getD i 0) 2).isSome=true;(·obtain⟨x,hx⟩:=aAk (i+1,2) ho;exact⟨_,SW _ hx,_,n2,by rw[hu];unfold Br;rw[G0 ho]⟩);·have h3:(valOf (cs.getD i 0) 3).isSome=true:=(by rcases sets _ Eg with g|g|g|g|g;(·exact absurd g.2.2.1 ho);(·exact absurd g.2.2.1 ho);(·exact g.2.1);(·exact absurd g.2.2.1 ho);·exact absurd g.2.2.1 ho);exact⟨(98,i,1),by simp,_,by rw[s1,aBo h3],by rw[hu];unfold Br;rw[D0 ho]⟩);(·exact⟨(100,i,3),by simp,_,by rw[t3,h2],rfl⟩);·exact⟨(99,i,4),by simp,_,by rw[t4,h2],rfl⟩
 .rw[t3]at h;injection h with h;have e:Au cs i 3=[((98:Int),i,0),(99,i,4),(101,i,2)]++one (own (cs.getD i 0) 3) (i+1,3):=rfl;rw[e];have Ob:b=v\/(b=u+1/\min u (min (v+1) (w+1))=u)\/(b=w+1/\min w (min (u+1) (v+1))=w):=C0;rcases Ob with rfl|⟨rfl,h2⟩|⟨rfl,h2⟩;(·by_cases ho:(own (cs.getD i 0) 3).isSome=true;(·obtain⟨x,hx⟩:=aAk (i+1,3) ho;exact⟨_,SW _ hx,_,n3,by rw[hv];unfold Br;rw[G0 ho]⟩);·have h3:(valOf (cs.getD i 0) 2).isSome=true:=(by rcases sets _ Eg with g|g|g|g|g;(·exact g.1);(·exact g.1);(·exact absurd g.2.2.2.1 ho);(·exact absurd g.2.2.2.1 ho);·exact absurd g.2.2.2.1 ho);exact⟨(98,i,0),by simp,_,by rw[s0,aBo h3],by rw[hv];unfold Br;rw[D0 ho]⟩);(·exact⟨(101,i,2),by simp,_,by rw[t2,h2],rfl⟩);·exact⟨(99,i,4),by simp,_,by rw[t4,h2],rfl⟩
 .rw[t4]at h;injection h with h;have e:Au cs i 4=([((100:Int),i,3),(101,i,2)]++one (IM cs i) (i+2,4))++one (own (cs.getD i 0) 4) (i+1,4):=rfl;rw[e];have Ob:(b=w/\w<=u+1)\/(b=v+1/\min v (min (u+1) (w+1))=v)\/(b=u+1/\min u (min (v+1) (w+1))=u):=C0;rcases Ob with⟨rfl,hwu⟩|⟨rfl,h2⟩|⟨rfl,h2⟩;(·unfold Fy at hw;by_cases hc6:cs.getD i 0=256;(·have h4:(own (cs.getD i 0) 4).isSome=true:=(by rcases sets _ Eg with g|g|g|g|g;(·exact absurd hc6 g.2.2.2.2.2.1);(·exact absurd hc6 g.2.2.2.2.2);(·exact absurd hc6 g.2.2.2.2.2.1);(·exact g.2.2.2.2.1);·exact absurd hc6 g.2.2.2.2.2.1);obtain⟨x,hx⟩:=aAk (i+1,4) h4;rw[G0 hc6]at hw;exact⟨_,SW _ hx,_,n4,hw.symm⟩);·rw[D0 hc6]at hw;by_cases Bh:(IM cs i).isSome=true;(·rw[G0 Bh]at hw;obtain⟨p,Jd,Oh⟩:=hp Bh;obtain⟨x,hx⟩:=aAk (i+2,4) Bh;exact⟨_,List.mem_append_left _ (SW _ hx),_,Oh,by rw[hw,Jd]⟩);·rw[D0 Bh]at hw;exfalso;clear t2 t3 t4 h;omega);(·exact⟨(100,i,3),by simp,_,by rw[t3,h2],rfl⟩);·exact⟨(101,i,2),by simp,_,by rw[t2,h2],rfl⟩
def Good(T:Tab)(fr:Nd)(m:Mv):Prop:=∃r,T m.2=some r/\r+1=(T fr).getD 0
def aEf{T:Tab}{fr:Nd}{b:Option Mv}{m:Mv}(h:takes T fr b m=true):Good T fr m:=by
 unfold takes at h;cases h2:T m.2 with
 |none=>rw[h2]at h;cases h
 |some r=>rw[h2]at h;dsimp only at h;rw[P1]at h;exact⟨r,h2,D4 h.1⟩
def aEe{T:Tab}{fr:Nd}{m:Mv}(h:Good T fr m):takes T fr none m=true:=by obtain⟨r,h1,h2⟩:=h;unfold takes;rw[h1];dsimp only;rw[C1 h2];rfl
def pick_fold(T:Tab)(fr:Nd):∀(l:List Mv)(b:Option Mv),(∀x,b=some x->Good T fr x)->
 (∀x,l.foldl (λb m=>if takes T fr b m then some m else b) b=some x->Good T fr x/\(x∈l\/b=some x))/\(l.foldl (λb m=>if takes T fr b m then some m else b) b=none->b=none/\∀m∈l,¬Good T fr m)
 | [],b,hb=>⟨λx h=>⟨hb x h,.inr h⟩,λh=>⟨h,λm hm=>by cases hm⟩⟩
 |m::l,b,hb=>by rw[N3];by_cases ht:takes T fr b m=true;(·rw[G0 ht];obtain⟨h1,h2⟩:=pick_fold T fr l (some m) (λx hx=>by injection hx with hx;rw[<-hx];exact aEf ht);refine⟨λx hx=> ?_,λh=> ?_⟩;(·obtain⟨g1,g2⟩:=h1 x hx;refine⟨g1,.inl ?_⟩;rcases g2 with g2|g2;(·exact Y1 _ g2);·injection g2 with g2;rw[g2];exact C2 ..);·have:=(h2 h).1;cases this);·rw[D0 ht];obtain⟨h1,h2⟩:=pick_fold T fr l b hb;refine⟨λx hx=> ?_,λh=> ?_⟩;(·obtain⟨g1,g2⟩:=h1 x hx;exact⟨g1,g2.imp (Y1 _) id⟩);·obtain⟨g1,g2⟩:=h2 h;refine⟨g1,λy hy=> ?_⟩;rcases E2.1 hy with rfl|hy;(·intro hg;rw[g1]at ht;exact ht (aEe hg));·exact g2 y hy
def aCq{T:Tab}{fr:Nd}{l:List Mv}(h:∃m∈l,Good T fr m):∃m,pick T fr l=some m/\m∈l/\Good T fr m:=by
 obtain⟨h1,h2⟩:=pick_fold T fr l none (λx hx=>by cases hx);unfold pick;cases hp:l.foldl (λb m=>if takes T fr b m then some m else b) none with
 |none=>obtain⟨m,hm,hg⟩:=h;exact absurd hg ((h2 hp).2 m hm)
 |some x=>obtain⟨g1,g2⟩:=h1 x hp;exact⟨x,rfl,g2.resolve_right L0,g1⟩
def setOf(s:Nat):Nat:=if s=0 then 1 else if s=1 then 0 else s-2
def aAo(s:Nat):Bool:=decide (s<2)
def okV(v:Int):Bool:=decide (0<=v)&&decide (v<=102)
def steps_own:(List.range 260).all (λn=>(decide (127<n)&&decide (n<256)) ||
 ([2,3,4].all (λs=>match own n s with
  |none=>true
  |some v=>decide (Cc.stepC (setOf s) false v=some (setOf s,false,[(n:Int)]))&&okV v)&&
 (match valOf n 2 with
  |none=>true
  |some v=>decide (Cc.stepC 1 true v=some (1,false,[(n:Int)]))&&okV v)&&
 (match valOf n 3 with
  |none=>true
  |some v=>decide (Cc.stepC 0 true v=some (0,false,[(n:Int)]))&&okV v)))=true:=by decide+kernel
def aCn{v:Int}(h:okV v=true):0<=v/\v<=102:=by unfold okV at h;rw[P1]at h;exact⟨D4 h.1,D4 h.2⟩
def step_own{c:Int}(h:Ab c):(∀s v,2<=s->s<=4->own c s=some v->Cc.stepC (setOf s) false v=some (setOf s,false,[c])/\0<=v/\v<=102)/\(∀v,valOf c 2=some v->Cc.stepC 1 true v=some (1,false,[c])/\0<=v/\v<=102)/\(∀v,valOf c 3=some v->Cc.stepC 0 true v=some (0,false,[c])/\0<=v/\v<=102):=by
 obtain⟨n,rfl⟩:∃n:Nat,c=(n:Int):=⟨c.toNat,by unfold Ab at h;omega⟩;have h1:=M1.1 steps_own n (P5.2 FC);have h2:(decide (127<n)&&decide (n<256))=false:=FD;rw[h2,WJ,P1,P1]at h1;obtain⟨⟨k1,k2⟩,k3⟩:=h1;refine⟨λs v h2 h4 hv=> ?_,λv hv=> ?_,λv hv=> ?_⟩;·have:=M1.1 k1 s J3;rw[hv,P1]at this;exact⟨D4 this.1,aCn this.2⟩
 .rw[hv,P1]at k2;exact⟨D4 k2.1,aCn k2.2⟩
 .rw[hv,P1]at k3;exact⟨D4 k3.1,aCn k3.2⟩
def step_pair{a b v:Int}(h:No a b=some v):Cc.stepC 2 false v=some (2,false,[a,b])/\0<=v/\v<=102:=by
 unfold No at h;split at h;·rename_i h2;simp only[dig,P1,G2]at h2;injection h with h;subst h;unfold Cc.stepC;rw[D0 SV,D0 C0,D0 C0,G0 ⟨rfl,by omega⟩];refine⟨?_,by omega,by omega⟩;congr 4;(·omega);·congr 1;omega
 .cases h
def drop_one{cs:List Int}{i:Nat}(h:i<cs.length):(cs.drop i).take 1=[cs.getD i 0]:=vL
def drop_two{cs:List Int}{i:Nat}(h:i+1<cs.length):(cs.drop i).take 2=[cs.getD i 0,cs.getD (i+1) 0]:=by rw[F5 C0,F5 h,F1,P0 C0,F1,P0 h];rfl
structure MoveOk (cs:List Int) (i s:Nat) (m:Mv):Prop where
 step:Cc.stepC (setOf s) (aAo s) m.1=some (setOf m.2.2,aAo m.2.2,(cs.drop i).take (m.2.1-i))
 le:i<=m.2.1
 end_:m.2.1<=cs.length
 st:m.2.2<=4
 aHj:0<=m.1
 aHk:m.1<=102
def move_ok{cs:List Int}(hc:∀c∈cs,Ab c){i s:Nat}(hi:i<cs.length)(hs:s<=4){m:Mv}(hm:m∈Au cs i s):MoveOk cs i s m:=by
 obtain⟨k1,k2,k3⟩:=step_own (Xl hc hi);obtain⟨x,j,t⟩:=m;have aHI:i+1-i=1:=by omega
 have z0:(cs.drop i).take (i-i)=[]:=by rw[Y3,YP]
 have h5:s=0\/s=1\/s=2\/s=3\/s=4:=by omega
 rcases h5 with rfl|rfl|rfl|rfl|rfl;·obtain⟨h1,h2⟩:=mem_one (v:=valOf (cs.getD i 0) 2) (nd:=(i+1,3)) hm;injection h1 with h1 h3;subst h1 h3;obtain⟨g1,g2,g3⟩:=k2 _ h2;exact SX
 .obtain⟨h1,h2⟩:=mem_one (v:=valOf (cs.getD i 0) 3) (nd:=(i+1,2)) hm;injection h1 with h1 h3;subst h1 h3;obtain⟨g1,g2,g3⟩:=k3 _ h2;exact SX
 .replace hm:(x,j,t)∈[((98:Int),i,1),(99,i,4),(100,i,3)]++one (own (cs.getD i 0) 2) (i+1,2):=hm;rcases E3.1 hm with hm|hm;(·exact vM);·obtain⟨h1,h2⟩:=mem_one hm;injection h1 with h1 h3;subst h1 h3;obtain⟨g1,g2,g3⟩:=k1 2 _ C0 C0 h2;exact SX
 .replace hm:(x,j,t)∈[((98:Int),i,0),(99,i,4),(101,i,2)]++one (own (cs.getD i 0) 3) (i+1,3):=hm;rcases E3.1 hm with hm|hm;(·exact vM);·obtain⟨h1,h2⟩:=mem_one hm;injection h1 with h1 h3;subst h1 h3;obtain⟨g1,g2,g3⟩:=k1 3 _ C0 C0 h2;exact SX
 .replace hm:(x,j,t)∈([((100:Int),i,3),(101,i,2)]++one (IM cs i) (i+2,4))++one (own (cs.getD i 0) 4) (i+1,4):=hm;rcases E3.1 hm with hm|hm;(·rcases E3.1 hm with hm|hm;(·simp only[E2,J4,F4,Y2]at hm;rcases hm with⟨rfl,rfl,rfl⟩|⟨rfl,rfl,rfl⟩<;>exact⟨by dsimp only;rw[z0];rfl,J0 _,by dsimp only;omega,by dsimp only;omega,by dsimp only;omega,by dsimp only;omega⟩);·obtain⟨h1,h2⟩:=mem_one hm;injection h1 with h1 h3;subst h1 h3;unfold IM at h2;split at h2;(·rename_i h4;obtain⟨g1,g2,g3⟩:=step_pair h2;exact⟨by dsimp only;rw[show i+2-i=2 by omega,drop_two h4];exact g1,by dsimp only;omega,by dsimp only;omega,by dsimp only;omega,g2,g3⟩);·cases h2);·obtain⟨h1,h2⟩:=mem_one hm;injection h1 with h1 h3;subst h1 h3;obtain⟨g1,g2,g3⟩:=k1 4 _ C0 C0 h2;exact SX
def path_run{cs:List Int}{T:Tab}(F:Full cs T 0)(hc:∀c∈cs,Ab c)(hl:cs.length<=4096):∀(k i s:Nat),T (i,s)=some k->i<=cs.length->s<=4->(∀out,Cc.runC (setOf s) (aAo s) out (path cs T k (i,s))=some (out++cs.drop i))/\(path cs T k (i,s)).length=k/\∀v∈path cs T k (i,s),0<=v/\v<=102:=by
 intro k
 induction k with
 |zero=>intro i s h hi hs;(have hlt:¬i<cs.length:=λhlt=>by obtain⟨m,_,r,_,hr⟩:=consistent F hc hl hlt hs h;omega);obtain rfl:i=cs.length:=C0;have hsh:aAo s=false:=(by unfold aAo;refine G1 λh2=> ?_;have:s=0\/s=1:=C0;rcases this with rfl|rfl;(·rw[F.end_.1]at h;cases h);·rw[F.end_.2]at h;cases h);refine⟨λout=> ?_,rfl,λv hv=>by cases hv⟩;rw[hsh,C6,A3];rfl
 |succ k ih=>
  intro i s h hi hs;have hlt:i<cs.length:=(by rcases H5 i cs.length with h2|h2;(·exact h2);·exfalso;obtain rfl:i=cs.length:=C0;have z:=least_le (cs.drop cs.length);have h5:s=0\/s=1\/s=2\/s=3\/s=4:=C0;rw[C6]at z;rcases h5 with rfl|rfl|rfl|rfl|rfl;(·rw[F.end_.1]at h;cases h);(·rw[F.end_.2]at h;cases h);(·rw[F.Tj _ C0 C0,C6]at h;cases h);(·rw[F.Tk _ C0 C0,C6]at h;cases h);·rw[F.Mt _ C0 C0,C6]at h;cases h);obtain⟨m0,Km,r0,Ey,IZ⟩:=consistent F hc hl hlt hs h;obtain⟨m,hp,hm,r,hr,Aa⟩:=aCq (T:=T) (fr:=(i,s)) ⟨m0,Km,r0,Ey,by rw[h];exact IZ⟩;rw[h]at Aa;obtain rfl:r=k:=(by simpa using Aa);have M:=move_ok hc hlt hs hm;have e:path cs T (r+1) (i,s)=m.1::path cs T r m.2:=by
   show(if i<cs.length then match pick T (i,s) (Au cs i s)with
    |none=>[]
    |some m=>m.1::path cs T r m.2 else [])=_
   rw[G0 hlt,hp]
  obtain⟨x,j,t⟩:=m;obtain⟨g1,g2,g3⟩:=ih j t hr M.end_ M.st;rw[e];refine⟨λout=> ?_,?_,?_⟩;(·unfold Cc.runC;have h1:=M.step;dsimp only at h1⊢;rw[h1];dsimp only;rw[g1,V1];congr 2;have h2:cs.drop j=(cs.drop i).drop (j-i):=(by rw[P4];congr 1;have:=M.le;dsimp only at this;omega);rw[h2,G7]);(·rw[B1,g2]);·intro v hv;rcases E2.1 hv with rfl|hv;(·exact⟨M.aHj,M.aHk⟩);·exact g3 v hv
def aHd(T:Tab):Pw T=2\/Pw T=3\/Pw T=4:=by unfold Pw;dsimp only;split<;>split<;>simp
def body_is{cs:List Int}(hc:∀c∈cs,Ab c)(hl:cs.length<=4096):∃(s:Nat)(p:List Int),2<=s/\s<=4/\body cs=((s:Int)+101)::p/\Cc.runC (s-2) false [] p=some cs/\p.length<=3*cs.length/\∀v∈p,0<=v/\v<=102:=by
 have F:=aA9 cs hc hl;obtain⟨s,hs⟩:∃s,s=Pw (table cs):=⟨_,rfl⟩;have Pr:=aHd (table cs);rw[<-hs]at Pr;have hle:=least_le (cs.drop 0);rw[B5]at hle;obtain⟨k,hk,Jb⟩:∃k,table cs (0,s)=some k/\k<=3*cs.length:=by rcases Pr with h|h|h<;>rw[h];(·exact vN);(·exact vO);·exact vP
 obtain⟨g1,g2,g3⟩:=path_run F hc hl k 0 s hk (R0 _) C0;refine⟨s,path cs (table cs) k (0,s),by omega,by omega,?_,?_,by omega,g3⟩;·unfold body;rw[<-hs,hk];rfl
 .have:=g1 [];rw[G4,B5]at this;rw[<-this];congr 1;(·unfold setOf;exact FF);·unfold aAo;exact(G1 C0).symm
end Cs
end
end Go.Proofs.Enc
