/-
  Laid.
-/
import Derived.Test.YtbngggoccndefaaGreatDoorLe02
set_option maxHeartbeats 8000000
set_option maxRecDepth 100000
set_option linter.all false
namespace Go.Proofs.Enc
open Go.Proofs.Tryz
section
namespace Rn
def modsN:Bool->List Nat->List Bool
 |_,[]=>[]
 |b,x::r=>List.replicate x b++modsN (!b) r
def mods_nat:∀(b:Bool)(l:List Nat),mods b (l.map λ(n:Nat)=>(n:Int))=modsN b l
 |_,[]=>rfl
 |b,x::l=>by rw[M4,mods,modsN,mods_nat (!b) l];rfl
def runs_mods:∀(r:List Bool)(c:Bool)(n:Nat),modsN c (runsGo c n r)=List.replicate n c++r
 | [],c,n=>by rw[runsGo,modsN,modsN]
 |b::r,c,n=>by rw[runsGo];by_cases h:b=c;(·rw[G0 h,runs_mods r c (n+1),h,WK];simp);·have e:=runs_mods r b 1;have hb:(!c)=b:=(by cases b<;>cases c<;>simp_all);rw[D0 h,modsN,hb,e];rfl
def runs_pos:∀(r:List Bool)(c:Bool)(n:Nat),1<=n->∀x∈runsGo c n r,1<=x
 | [],c,n,hn,x,hx=>by rw[runsGo,D3]at hx;omega
 |b::r,c,n,hn,x,hx=>by rw[runsGo]at hx;split at hx;(·exact runs_pos r c (n+1) C0 x hx);·rcases E2.1 hx with rfl|hx;(·exact hn);·exact runs_pos r b 1 C0 x hx
def aH4(r:List Bool)(c:Bool)(n:Nat):runsGo c n r≠ []:=by
 induction r generalizing c n with
 |nil=>simp[runsGo]
 |cons b r ih=>rw[runsGo];split;(·exact ih c (n+1));·simp
def mods_runs:∀(l:List Nat)(c:Bool)(n x:Nat),(∀y∈l,1<=y)->runsGo c n (List.replicate x c++modsN (!c) l)=(n+x)::l
 | [],c,n,x,_=>by rw[modsN,runsGo_app];rfl
 |y::l,c,n,x,h=>by obtain⟨y',rfl⟩:∃y',y=y'+1:=⟨y-1,by have:=h y (C2 ..);omega⟩;rw[runsGo_app,modsN,G5,C3,runsGo,D0 (by cases c<;>decide)];rw[mods_runs l (!c) 1 y' λz hz=>h z (Y1 _ hz)];congr 2;omega
def Wn(c:Bool)(n:Nat):Bool:=if n%2=1 then c else !c
def modsN_app:∀(l m:List Nat)(c:Bool),modsN c (l++m)=modsN c l++modsN (if l.length%2=0 then c else !c) m
 | [],m,c=>rfl
 |x::l,m,c=>by rw[C3,modsN,modsN,modsN_app l m (!c),V1,B1];exact FG
def modsN_rev:∀(l:List Nat)(c:Bool),(modsN c l).reverse=modsN (Wn c l.length) l.reverse
 | [],c=>rfl
 |x::l,c=>by rw[modsN,N6,modsN_rev l (!c),WL,modsN_app,A8,D6,B1];have h1:Wn (!c) l.length=Wn c (l.length+1):=(by unfold Wn;by_cases h:l.length%2=1;(·rw[G0 h,D0 C0]);·rw[D0 h,G0 C0,Bool.not_not]);rw[h1];congr 1;have h2:(if l.length%2=0 then Wn c (l.length+1)else !Wn c (l.length+1))=c:=(by unfold Wn;by_cases h:l.length%2=0;(·rw[G0 h,G0 C0]);·rw[D0 h,D0 C0,Bool.not_not]);rw[h2,modsN,modsN,A3]
def ldg_rep(n:Nat)(r:List Bool):Ea.ldg (List.replicate n false++r)=n+Ea.ldg r:=by
 induction n with
 |zero=>simp
 |succ n ih=>rw[G5,C3];show Ea.ldg (false::_)=_;rw[show Ea.ldg (false::(List.replicate n false++r))=Ea.ldg (List.replicate n false++r)+1 from rfl,ih];omega
def ldg_split:∀(s:List Bool),s=List.replicate (Ea.ldg s) false++s.drop (Ea.ldg s)
 | []=>rfl
 |true::r=>rfl
 |false::r=>by have:=ldg_split r;rw[show Ea.ldg (false::r)=Ea.ldg r+1 from rfl,G5,C3,SS,<-this]
def ldg_le:∀(s:List Bool),Ea.ldg s<=s.length
 | []=>J0 _
 |true::r=>R0 _
 |false::r=>by have:=ldg_le r;rw[show Ea.ldg (false::r)=Ea.ldg r+1 from rfl,B1];omega
def ldg_next:∀(s:List Bool),s.drop (Ea.ldg s)=[]\/∃r,s.drop (Ea.ldg s)=true::r
 | []=>.inl rfl
 |true::r=>.inr ⟨r,rfl⟩
 |false::r=>by rw[show Ea.ldg (false::r)=Ea.ldg r+1 from rfl,SS];exact ldg_next r
def row_split(s:List Bool):(core s=[]/\s=List.replicate s.length false/\Ea.ldg s=s.length/\Ea.Ac s=s.length)\/
 (∃m,core s=true::m/\(∃m',core s=m'++[true])/\s=List.replicate (Ea.ldg s) false++core s++List.replicate (Ea.Ac s) false):=by
 rcases ldg_next s with h|⟨r,h⟩
 .left;have hs:=ldg_split s;rw[h,A3]at hs;have hl:Ea.ldg s=s.length:=(by have:=V0 List.length hs;rw[M2]at this;exact this.symm);refine⟨by unfold core;rw[h,List.take_nil],by rw[<-hl];exact hs,hl,?_⟩;unfold Ea.Ac;rw[hs,A8];have:=ldg_rep (Ea.ldg s) [];rw[A3]at this;rw[this,M2];rfl
 .right;have hs:=ldg_split s;rw[h]at hs;have hr:s.reverse=(true::r).reverse++List.replicate (Ea.ldg s) false:=(by have:=V0 List.reverse hs;rw[N6,A8]at this;exact L3);have key:∀(l k:List Bool),Ea.ldg (l++true::k)<=l.length:=by
   intro l k
   induction l with
   |nil=>exact J0 _
   |cons b l ih=>
    cases b with
    |true=>exact R0 _
    |false=>rw[C3,show Ea.ldg (false::(l++true::k))=Ea.ldg (l++true::k)+1 from rfl,B1];omega
  have Oj:Ea.Ac s<=r.length:=(by unfold Ea.Ac;rw[hr,WL,V1];have:=key r.reverse (List.replicate (Ea.ldg s) false);rw[D6]at this;exact L3);have hlen:=V0 List.length hs;rw[S0,M2,B1]at hlen;have aAS:core s=(true::r).take (r.length+1-Ea.Ac s):=(by unfold core;rw[h];congr 1;omega);obtain⟨d,hd⟩:∃d,r.length+1-Ea.Ac s=d+1:=⟨r.length-Ea.Ac s,by omega⟩;have hrd:(true::r).drop (d+1)=List.replicate (Ea.Ac s) false:=(by have h1:=ldg_split s.reverse;have h2:s.reverse.take (Ea.Ac s)=List.replicate (Ea.Ac s) false:=(by have h3:=V0 (List.take (Ea.Ac s)) h1;rw[h3];unfold Ea.Ac;rw[SY VX,S1 VX]);have h4:s.drop (s.length-Ea.Ac s)=List.replicate (Ea.Ac s) false:=(by have h5:=V0 List.reverse h2;rw[A8,List.reverse_take,FH,D6]at h5;exact h5);rw[<-h4];have h6:s.length-Ea.Ac s=Ea.ldg s+(d+1):=C0;rw[h6,<-h,P4]);have Ar:core s=true::r.take d:=(by rw[aAS,hd,OY]);refine⟨r.take d,Ar,?_,?_⟩
  .have h1:=ldg_next s.reverse;have h2:s.reverse.drop (Ea.Ac s)=(core s).reverse++List.replicate (Ea.ldg s) false:=(by have h3:s=List.replicate (Ea.ldg s) false++core s++List.replicate (Ea.Ac s) false:=vQ;have h4:=V0 List.reverse h3;rw[N6,N6,A8,A8]at h4;rw[h4,vR VX,O5 VX,G4]);unfold Ea.Ac at h2;rw[h2]at h1;rcases h1 with h1|⟨q,h1⟩;(·rw[Ar]at h1;simp at h1)
   .cases hc:(core s).reverse with
    |nil=>rw[Ar]at hc;simp at hc
    |cons x y=>rw[hc]at h1;injection h1 with h1;subst h1;refine⟨y.reverse,?_⟩;have:=V0 List.reverse hc;rw[FH,WL]at this;exact L3
  .exact vQ
def row_parts(a b:Nat)(m:List Bool)(h1:∃k,m=true::k)(h2:∃k,m=k++[true]):Ea.ldg (List.replicate a false++m++List.replicate b false)=a/\Ea.Ac (List.replicate a false++m++List.replicate b false)=b/\core (List.replicate a false++m++List.replicate b false)=m:=by
 obtain⟨k,rfl⟩:=h1;have e1:Ea.ldg (List.replicate a false++(true::k)++List.replicate b false)=a:=by rw[V1,ldg_rep];rfl
 have e2:Ea.Ac (List.replicate a false++(true::k)++List.replicate b false)=b:=by unfold Ea.Ac;rw[N6,N6,A8,A8,ldg_rep];obtain⟨k2,h2⟩:=h2;rw[h2,N6];rfl
 refine⟨e1,e2,?_⟩;unfold core;rw[e1,e2];rw[V1,vR VX,O5 VX,G4];rw[SY J3];rw[S1];exact X0
def aBr(s:List Bool):modsN true (widthsN s)=core s:=by
 unfold widthsN;rcases row_split s with⟨h,_⟩|⟨m,h,_⟩;·rw[h];rfl
 .rw[h];exact runs_mods m true 1
def aCy(s:List Bool):∀x∈widthsN s,1<=x:=by
 unfold widthsN;rcases row_split s with⟨h,_⟩|⟨m,h,_⟩;·rw[h];intro x hx;cases hx
 .rw[h];exact runs_pos m true 1 (J0 _)
def aH5(l:List Nat)(h:∀x∈l,1<=x)(s:List Bool)(hs:core s=modsN true l):widthsN s=l:=by
 unfold widthsN;cases l with
 |nil=>rw[hs];rfl
 |cons x l=>obtain⟨y,rfl⟩:∃y,x=y+1:=⟨x-1,by have:=h x (C2 ..);omega⟩;rw[hs,modsN,G5,C3];show runsGo true 1 _=_;rw[mods_runs l true 1 y λz hz=>h z (Y1 _ hz)];congr 1;omega
def widthsN_odd(s:List Bool):core s=[]\/(widthsN s).length%2=1:=by
 rcases row_split s with⟨h,_⟩|⟨m,h,⟨m',h2⟩,_⟩;·exact .inl h
 .right
  have h3:=modsN_rev (widthsN s) true
  rw[aBr,h2,N6]at h3
  have k7:widthsN s≠ []:=by intro e;have:=aBr s;rw[e,h]at this;cases this
  cases hr:(widthsN s).reverse with
  |nil=>exact absurd (by simpa using hr) k7
  |cons x r=>have hx:1<=x:=aCy s x (by have:x∈(widthsN s).reverse:=(by rw[hr];exact C2 ..);simpa using this);rw[hr,modsN]at h3;obtain⟨y,rfl⟩:∃y,x=y+1:=⟨x-1,by omega⟩;rw[G5,C3,List.reverse_singleton,List.singleton_append]at h3;injection h3 with h3 _;unfold Wn at h3;by_cases h:(widthsN s).length%2=1;(·exact h);·rw[D0 h]at h3;cases h3
def aEh(s:List Bool):core s.reverse=(core s).reverse/\Ea.ldg s.reverse=Ea.Ac s/\Ea.Ac s.reverse=Ea.ldg s/\widthsN s.reverse=(widthsN s).reverse:=by
 have hw:core s.reverse=(core s).reverse->widthsN s.reverse=(widthsN s).reverse:=by intro hc;refine aH5 _ (λx hx=>aCy s x (by simpa using hx)) _ ?_;rw[hc,<-aBr s,modsN_rev];rcases widthsN_odd s with h|h;(·have:widthsN s=[]:=(by unfold widthsN;rw[h]);rw[this];rfl);·unfold Wn;rw[G0 h]
 rcases row_split s with⟨h1,h2,h3,h4⟩|⟨m,h1,⟨m',h2⟩,h3⟩;·have hr:s.reverse=s:=(by have e:=V0 List.reverse h2;rw[A8,<-h2]at e;exact e);have hc:core s.reverse=(core s).reverse:=(by rw[hr,h1];rfl);exact⟨hc,rfl,by rw[hr,h4,h3],hw hc⟩
 .have hr:s.reverse=List.replicate (Ea.Ac s) false++(core s).reverse++List.replicate (Ea.ldg s) false:=(by have e:=V0 List.reverse h3;rw[N6,N6,A8,A8,<-V1]at e;exact e);obtain⟨p1,p2,p3⟩:=row_parts (Ea.Ac s) (Ea.ldg s) (core s).reverse ⟨m'.reverse,by rw[h2,N6];rfl⟩ ⟨m.reverse,by rw[h1,WL]⟩;rw[<-hr]at p1 p2 p3;exact⟨p3,p1,p2,hw p3⟩
end Rn
namespace Rn
def sum_from:∀(l:List Int)(a:Int),l.foldl (·+·) a=a+sum l
 | [],a=>by simp[sum]
 |x::l,a=>by unfold sum;rw[N3,N3,sum_from l (a+x),sum_from l (0+x)];omega
def sum_nil:sum []=0:=rfl
def sum_cons(x:Int)(l:List Int):sum (x::l)=x+sum l:=by unfold sum;rw[N3,sum_from];unfold sum;omega
def sum_app(l m:List Int):sum (l++m)=sum l+sum m:=by
 induction l with
 |nil=>rw[G4,sum_nil];omega
 |cons x l ih=>rw[C3,sum_cons,sum_cons,ih];omega
def sum_set:∀(l:List Int)(k:Nat)(m x:Int),l[k]? =some m->sum (l.set k x)=sum l-m+x
 | [],k,m,x,h=>by simp at h
 |y::l,0,m,x,h=>by simp at h;subst h;rw[E6,sum_cons,sum_cons];omega
 |y::l,k+1,m,x,h=>by rw[O6,sum_cons,sum_cons,sum_set l k m x Y4];omega
def sum_pos:∀(l:List Int),(∀x∈l,1<=x)->(l.length:Int)<=sum l
 | [],_=>by rw[sum_nil];simp
 |x::l,h=>by have h1:=h x (C2 ..);have h2:=sum_pos l λy hy=>h y (Y1 _ hy);rw[sum_cons,B1];omega
def leastGo_lt(s t:Int):∀(ms ws:List Int)(i b:Nat)(v:Int),b<i->leastGo s t i b v ms ws<i+ms.length
 | [],ws,i,b,v,h=>by unfold leastGo;omega
 |m::ms,[],i,b,v,h=>by unfold leastGo;rw[B1];omega
 |m::ms,w::ws,i,b,v,h=>by rw[leastGo,B1];split;(·have:=leastGo_lt s t ms ws (i+1) i (Fx s t m w) C0;omega);·have:=leastGo_lt s t ms ws (i+1) b v C0;omega
def least_lt(s t:Int)(ms ws:List Int)(h:ms≠ []):least s t ms ws<ms.length:=by
 cases ms with
 |nil=>exact absurd rfl h
 |cons m ms=>unfold least;have:=leastGo_lt s t ((m::ms).drop 1) (ws.drop 1) 1 0 (Fx s t ((m::ms).getD 0 0) (ws.getD 0 0)) C0;rw[SS,B5]at this;rw[SS,B5,B1];omega
def give_sum(s t:Int)(ws:List Int):∀(n:Nat)(ms:List Int),ms≠ []->sum (give s t ws n ms)=sum ms+n/\(give s t ws n ms).length=ms.length
 |0,ms,_=>⟨by unfold give;omega,rfl⟩
 |n+1,ms,h=>by have hl:=least_lt s t ms ws h;have hg:ms[least s t ms ws]? =some (ms.getD (least s t ms ws) 0):=(by rw[F1,P0 hl];rfl);(have k7:ms.set (least s t ms ws) (ms.getD (least s t ms ws) 0+1)≠ []:=λe=>by have:=V0 List.length e;rw[P6]at this;exact h (U3 this));obtain⟨h1,h2⟩:=give_sum s t ws n _ k7;unfold give;rw[h1,h2,sum_set _ _ _ _ hg,P6];exact⟨by omega,rfl⟩
def sum_ones(n:Nat):sum (List.replicate n 1)=(n:Int):=by
 induction n with
 |zero=>rfl
 |succ n ih=>rw[G5,sum_cons,ih];omega
def quant_sum{ws:List Int}{t:Int}(h:(quant ws t).2=0):sum (quant ws t).1=t/\(quant ws t).1.length=ws.length/\ws≠ []/\ws.length<=65536/\Tw.inRng ws=true/\(ws.length:Int)<=t/\t<=65536:=by
 unfold quant at h⊢;by_cases h0:ws.length=0
 .rw[G0 h0]at h;cases h
 rw[D0 h0]at h⊢;by_cases h1:65536<ws.length
 .exact VY
 rw[D0 h1]at h⊢;by_cases h2:Tw.inRng ws=false\/t<ws.length\/65536<t
 .exact SZ
 rw[D0 h2];have k7:List.replicate ws.length (1:Int)≠ []:=λe=>h0 (by have:=V0 List.length e;rw[M2]at this;exact this)
 obtain⟨a,b⟩:=give_sum (sum ws) t ws (t.toNat-ws.length) _ k7;dsimp only;rw[a,b,sum_ones,M2];refine⟨by omega,rfl,λe=>h0 (by rw[e];rfl),by omega,?_,by omega,by omega⟩;cases hr:Tw.inRng ws with
 |true=>rfl
 |false=>exact absurd (.inl hr) h2
def gcdGo_is:∀(l:List Int)(g:Nat),(∀x∈l,1<=x)->∃u:Nat,gcdGo g l=(u:Int)/\u∣g/\(∀x∈l,(u:Int)∣x)/\(∀d:Nat,d∣g->(∀x∈l,(d:Int)∣x)->d∣u)
 | [],g,_=>⟨g,rfl,Nat.dvd_refl _,λx hx=>(by cases hx),λd hd _=>hd⟩
 |x::l,g,h=>by have hx:=h x (C2 ..);obtain⟨u,h1,h2,h3,h4⟩:=gcdGo_is l (Nat.gcd g x.toNat) λy hy=>h y (Y1 _ hy);have ex:x=(x.toNat:Int):=C0;refine⟨u,by unfold gcdGo;rw[D0 C0];exact h1,Nat.dvd_trans h2 (Nat.gcd_dvd_left _ _),?_,?_⟩;(·intro y hy;rcases E2.1 hy with rfl|hy;(·rw[ex];exact Int.natCast_dvd_natCast.2 (Nat.dvd_trans h2 (Nat.gcd_dvd_right _ _)));·exact h3 y hy);·intro d hd hl;refine h4 d (Nat.dvd_gcd hd ?_) λy hy=>hl y (Y1 _ hy);have:=hl x (C2 ..);rw[ex]at this;exact Int.natCast_dvd_natCast.1 this
def unit_is{ws:List Int}(h:∀x∈ws,1<=x)(k7:ws≠ []):1<=unit ws/\∀x∈ws,unit ws∣x:=by
 obtain⟨u,h1,h2,h3,h4⟩:=gcdGo_is ws 0 h;unfold unit;rw[h1];refine⟨?_,h3⟩;cases ws with
 |nil=>exact absurd rfl k7
 |cons x l=>have hx:=h x (C2 ..);have hd:=h3 x (C2 ..);rcases OZ u with e|e;(·subst e;have:=Int.zero_dvd.1 hd;omega);·omega
def sum_div{u:Int}(hu:1<=u):∀(l:List Int),(∀x∈l,u∣x)->sum (l.map λx=>x/u)*u=sum l
 | [],_=>by rw[H7,sum_nil];omega
 |x::l,h=>by have h1:=Int.ediv_mul_cancel (h x (C2 ..));have h2:=sum_div hu l λy hy=>h y (Y1 _ hy);rw[M4,sum_cons,sum_cons,Int.add_mul,h1,h2]
def sum_unit{ws:List Int}(h:∀x∈ws,1<=x)(k7:ws≠ []):sum ws/unit ws=sum (ws.map λx=>x/unit ws):=by obtain⟨h1,h2⟩:=unit_is h k7;rw[<-sum_div h1 ws h2];exact Int.mul_ediv_cancel _ C0
def widths_pos(s:List Bool):∀x∈widths s,1<=x:=by intro x hx;unfold widths at hx;obtain⟨n,hn,rfl⟩:=I5.1 hx;have:=aCy s n hn;omega
def aHD(s:List Bool):mods true (widths s)=core s:=by unfold widths;rw[mods_nat,aBr]
def mods_len:∀(l:List Int)(b:Bool),(∀x∈l,1<=x)->((mods b l).length:Int)=sum l
 | [],b,_=>rfl
 |x::l,b,h=>by have h1:=h x (C2 ..);rw[mods,S0,M2,sum_cons,<-mods_len l (!b) λy hy=>h y (Y1 _ hy)];omega
def core_le(s:List Bool):(core s).length<=s.length:=by unfold core;exact FI
end Rn
namespace Cs
def quiet(m:List Bool)(a b:Nat):List Bool:=List.replicate a false++m++List.replicate b false
def Fk(v:Int):List Int:=if v=106 then Cc.Wr else Cc.Gu.getD v.toNat []
def pats_ok:(List.range 106).all (λn=>decide ((Fk n).length=6)&&(Fk n).all (λx=>decide (1<=x)&&decide (x<=4))&&decide (Cc.valOf (Fk n)=some n)&&decide ((Fk n).foldl (·+·) 0=11))=true:=L2
def pat_ok{v:Int}(h0:0<=v)(h1:v<=105):(Fk v).length=6/\(∀x∈Fk v,1<=x/\x<=4)/\Cc.valOf (Fk v)=some v.toNat/\Rn.sum (Fk v)=11:=by obtain⟨n,rfl⟩:∃n:Nat,v=(n:Int):=⟨v.toNat,by omega⟩;have h2:=M1.1 pats_ok n (P5.2 C0);rw[P1,P1,P1]at h2;obtain⟨⟨⟨k1,k2⟩,k3⟩,k4⟩:=h2;refine⟨D4 k1,λx hx=> ?_,D4 k3,D4 k4⟩;have:=M1.1 k2 x hx;rw[P1]at this;exact⟨D4 this.1,D4 this.2⟩
def allW(vs:List Int):List Int:=vs.flatMap Fk
def allW_len:∀(vs:List Int),(∀v∈vs,0<=v/\v<=105)->(allW vs).length=6*vs.length
 | [],_=>rfl
 |v::vs,h=>by have h1:=h v (C2 ..);show(Fk v++allW vs).length=_;rw[S0,(pat_ok h1.1 h1.2).1,allW_len vs λx hx=>h x (Y1 _ hx),B1];omega
def allW_pos:∀(vs:List Int),(∀v∈vs,0<=v/\v<=106)->∀x∈allW vs,1<=x/\x<=4:=by
 intro vs h x hx;obtain⟨v,hv,hx⟩:=List.mem_flatMap.1 hx;have h1:=h v hv;by_cases h6:v=106;·subst h6;have:∀x∈Fk 106,1<=x/\x<=4:=I0;exact this x hx
 .exact(pat_ok h1.1 C0).2.1 x hx
def allW_sum:∀(vs:List Int),(∀v∈vs,0<=v/\v<=105)->Rn.sum (allW vs)=11*vs.length
 | [],_=>rfl
 |v::vs,h=>by have h1:=h v (C2 ..);show Rn.sum (Fk v++allW vs)=_;rw[Rn.sum_app,(pat_ok h1.1 h1.2).2.2.2,allW_sum vs λx hx=>h x (Y1 _ hx),B1];omega
def chkGo_rng:∀(l:List Int)(i:Nat)(s:Int),0<=s->s<=105->0<=Cc.chkGo i s l/\Cc.chkGo i s l<=105
 | [],_,s,h0,h1=>⟨h0,h1⟩
 |v::r,i,s,_,_=>by unfold Cc.chkGo;exact chkGo_rng r _ _ (Int.emod_nonneg _ C0) (by have:=Int.emod_lt_of_pos (s+(i:Int)*v) (show(0:Int)<103 by omega);omega)
def values_is{cs:List Int}(hc:∀c∈cs,Ab c)(hl:cs.length<=4096):∃vs:List Int,values cs=vs++[106]/\2<=vs.length/\vs.length<=3*cs.length+2/\(∀v∈vs,0<=v/\v<=105)/\(cs≠ []->3<=(values cs).length)/\Cc.chars (values cs)=(cs,0):=by
 obtain⟨s,p,h2,h4,hb,Cm,hlen,aG9⟩:=body_is hc hl;have Sc:∀v∈body cs,0<=v/\v<=105:=by rw[hb];intro v hv;rcases E2.1 hv with rfl|hv;(·omega);·have:=aG9 v hv;omega
 have Sb:(body cs).getD 0 0=(s:Int)+101:=by rw[hb];rfl
 have Aq:0<=Cc.Bk (body cs)/\Cc.Bk (body cs)<=105:=by unfold Cc.Bk;rw[Sb];exact chkGo_rng _ _ _ C0 C0
 have Ce:(body cs).length=p.length+1:=by rw[hb];rfl
 have hv:values cs=(body cs++[Cc.Bk (body cs)])++[106]:=by unfold values;rw[V1];rfl
 have Ff:∀v∈body cs++[Cc.Bk (body cs)],0<=v/\v<=105:=by intro v hv;rcases E3.1 hv with hv|hv;(·exact Sc v hv);·rw[D3]at hv;subst hv;exact Aq
 have Wm:(values cs).length=p.length+3:=by rw[hv];simp[Ce]
 refine⟨body cs++[Cc.Bk (body cs)],hv,by simp[Ce],by simp[Ce];omega,Ff,λ_=>by omega,?_⟩;unfold Cc.chars;have aB5:(values cs).any (λv=>decide (v<0) || decide (106<v))=false:=by rw[WM];intro v Ez;rw[hv]at Ez;have:0<=v/\v<=106:=(by rcases E3.1 Ez with h|h;(·have:=Ff v h;omega);·rw[D3]at h;omega);rw[G1 C0,G1 C0];simp
 have Vt:(values cs).getD 0 0=(s:Int)+101:=by rw[hv,hb];rfl
 have Kk:(values cs).getD ((values cs).length-1) 0=106:=by rw[Wm,hv,F1,VZ (by simp[Ce])];simp[Ce]
 have Cw:(values cs).getD ((values cs).length-2) 0=Cc.Bk (body cs):=by rw[Wm,hv,F1,WN (by simp[Ce]),VZ (by simp[Ce])];simp[Ce]
 have Vu:(values cs).take ((values cs).length-2)=body cs:=by rw[Wm,hv,V1,SY C0,S1 C0]
 rw[D0 (by rw[aB5];exact SV),D0 C0,Vt,D0 C0,Kk,D0 L0,Cw,Vu,D0 L0,hb];have e:((s:Int)+101-103).toNat=s-2:=by omega
 rw[e];show(match Cc.runC (s-2) false [] p with
  |none=>(([]:List Int),(22:Int))
  |some o=>(o,0))=_
 rw[Cm]
def row(cs:List Int):List Bool:=quiet (Rn.mods true (allW (values cs))) 10 10
end Cs
end
section
open Go.RowKit
def optV(o:Option Int):Value:=.tuple #[.int .i64 (o.getD 0),.bool o.isSome]
def FK(c p:Int)(s:Nat)(w:World)(hp:p=(s:Int))(hs:s=2\/s=3\/s=4)(h0:0<=c)(h1:c<=259):
 Calls prog 243 #[.int .i64 c,.int .i64 p] w λe w'=>e=.returned (optV (Cs.valOf c s))/\w=w':=by
 rcases hs with rfl|rfl|rfl
 .obtain rfl:p=2:=hp;by_cases a:c<32;(·have HF:Hid (Cs.valOf c 2=some (c+64)):=B0 (by unfold Cs.valOf;rw[G0 ⟨rfl,a⟩]);exact UC);·by_cases b:c<=95;(·have HF:Hid (Cs.valOf c 2=some (c-32)):=B0 (by unfold Cs.valOf;rw[D0 (λh=>a h.2),G0 (.inl ⟨rfl,b⟩)]);exact UC);·have HF:Hid (Cs.valOf c 2=none):=B0 (by unfold Cs.valOf;rw[D0 (λh=>a h.2),D0 C0]);exact UC
 .obtain rfl:p=3:=hp;by_cases a:32<=c;(·by_cases b:c<128;(·have HF:Hid (Cs.valOf c 3=some (c-32)):=B0 (by unfold Cs.valOf;rw[D0 C0,G0 (.inr ⟨rfl,a,b⟩)]);exact UC);·exact vS);·exact vS
 .obtain rfl:p=4:=hp;have HF:Hid (Cs.valOf c 4=none):=B0 vT;exact UC
def wA(c p:Int)(s:Nat)(w:World)(hp:p=(s:Int))(hs:s=2\/s=3\/s=4):
 Calls prog 245 #[.int .i64 c,.int .i64 p] w λe w'=>e=.returned (optV (Cs.fnOf c s))/\w=w':=by
 have HF:=B0 (Cs.fnOf.eq_1 c s);generalize Cs.fnOf c s=res at*;by_cases a:c=256
 .subst a;rw[G0 rfl]at HF;exact RA
 rw[D0 a]at HF;have z6:(c==256)=false:=O0.2 a;by_cases Wi:s=4
 .subst Wi;obtain rfl:p=4:=hp;rw[G0 rfl]at HF;clear a;exact RA
 rw[D0 Wi]at HF;have z4:(p==4)=false:=O0.2 C0;by_cases b:c=257
 .subst b;rw[G0 rfl]at HF;clear a Wi hp;exact RA
 rw[D0 b]at HF;have z7:(c==257)=false:=O0.2 b;by_cases d:c=258
 .subst d;rw[G0 rfl]at HF;clear a b Wi hp;exact RA
 rw[D0 d]at HF;have z8:(c==258)=false:=O0.2 d;by_cases Cz:s=2
 .subst Cz;obtain rfl:p=2:=hp;rw[G0 rfl]at HF;clear a b d Wi z4;exact RA
 obtain rfl:s=3:=by omega
 obtain rfl:p=3:=hp;rw[D0 Cz]at HF;clear a b d Wi z4 Cz;go_enter func245,ntmps245;go_wp2;go_ret2;exact⟨by rw[HF.out];rfl,rfl⟩
def FL(c:Int)(w:World):
 Calls prog 244 #[.int .i64 c] w λe w'=>e=.returned (.bool (Cs.dig c))/\w=w':=by
 by_cases a:48<=c
 .by_cases b:c<=57;(·have HF:Hid (Cs.dig c=true):=B0 vU;exact FM);·have HF:Hid (Cs.dig c=false):=B0 vV;exact FM
 .have HF:Hid (Cs.dig c=false):=B0 (by unfold Cs.dig;rw[G1 a];rfl);exact FM
def UD(b j:Nat):(⟨b,0,none⟩:Addr).add j=⟨b,j,none⟩:=vW
def UE(b o j:Nat):(⟨b,o,none⟩:Addr).add j=⟨b,o+j,none⟩:=vW
def Own(t:TypeId)(w:World)(B:Nat)(v:Value)(xs:List Value):Prop:=w.ownsRow B t 1 v xs.length xs
def Ext.l8{a w w':World}{row:Option Nat}(h:Ext a w)(hg:w.grownBy w' row)(hr:∀k,row=some k->a.heap.size<=k):Ext a w':=Below.grown h hg h.size hr
def Ext.Hl{w w':World}(h:Ext w w'):w.grownBy w' none:=⟨h.os,h.tape,h.output,h.size,λi hi _=>h.block i hi⟩
def Own.nil(t:TypeId)(w:World)(B:Nat):Own t w B (.slice none 0 0) []:=RB _ _ _ _
section
variable {t:TypeId} {w w':World} {B:Nat} {v:Value} {xs:List Value}
def Own.ext(h:Own t w B v xs)(hx:Ext w w'):Own t w' B v xs:=by
 refine YQ h hx.Hl ?_;cases hv:v.ownBlock with
 |none=>exact .inl rfl
 |some k=>exact .inr L0
def Own.alloc(h:Own t w B v xs)(o:Obj):Own t (w.alloc o) B v xs:=World.ownsRow.alloc h o
def Own.drew(h:Own t w B v xs):Own t w.drew B v xs:=h
def Own.low(h:Own t w B v xs):∀k,v.ownBlock=some k->B<=k:=λk hk=>(R4 h k hk).1
def Own.mono{B':Nat}(h:Own t w B v xs)(hB:B'<=B):Own t w B' v xs:=vX
def Own.kept{row:Option Nat}(h:Own t w B v xs)(hg:w.grownBy w' row)(k7:v.ownBlock=none\/v.ownBlock≠row):Own t w' B v xs:=YQ h hg k7
end
def ZS{w:World}{ops:Array Oper}{rest:List Oper}{o:Oper}{a:Act}{Q:Exit->Act->World->Prop}(IG:o.guard=none)(s x:Operand)(T t:TypeId)(z:Value)(bytes:Nat)
 (ho:o.op=.call {callee:=.builtin .append,args:= #[s,x],argTypes:= #[T,T]})
 (hT:prog.underlying T=some (.slice t))(hi:(prog.info? t).map (λi=>(i.zero,i.size,i.bytes))=some (some z,1,bytes))(hz:z.cells.size=1)(Iz:bytes<=16)
 (B:Nat)(v:Value)(xs:List Value)(hs:a.eval s=v)(b8:Own t w B v xs)(b off m c:Nat)(news:List Value)(hx:a.eval x=.slice (some ⟨b,off,none⟩) m c)(hm:news.length=m)
 (hc:∀j u,news[j]? =some u->w.cell? ⟨b,off+j,none⟩=some u)(h1:∀u∈news,u.oneCell'=true)(hn:xs.length+m<=1000000000)(hB:B<=w.heap.size)
 (h:∀v' w',Own t w' B v' (xs++news)->w.grownBy w' v.ownBlock->wpList prog ops Q rest (a.put o.dst v') w'):wpList prog ops Q (o::rest) a w:=by
 obtain⟨i0,hi,An,p8,x9⟩:=C5 hi;refine RD _ IG s x T ho B t i0 z 1 bytes hT hi An p8 x9 hz I0 v xs.length xs hs b8 ⟨b,off,none⟩ m c news hx (by rw[hm,G6]) ?_ h1 ?_ ?_ hB ?_
 .intro j u hj;rw[UE];exact hc j u hj
 .exact B8
 .exact F3 (O9 hn Iz) I0
 .intro v' w' h1 h2 _;refine h v' w' ?_ h2;unfold Own;rw[S0,hm];exact h1
def OwnG(t:TypeId)(w:World)(B:Nat)(v:Value)(xs:List Value):Prop:=
 Own t w B v xs\/∃b,v=.slice (some ⟨b,0,none⟩) xs.length xs.length/\B<=b/\b<w.heap.size/\∀j u,xs[j]? =some u->w.cell? ⟨b,j,none⟩=some u
def OwnG.ext{t:TypeId}{w w':World}{B:Nat}{v:Value}{xs:List Value}(h:OwnG t w B v xs)(hx:Ext w w'):OwnG t w' B v xs:=by
 rcases h with h|⟨b,h1,h2,h3,h4⟩;·exact .inl (h.ext hx)
 .exact .inr ⟨b,h1,h2,W1 h3 hx.size,λj u hu=>by rw[hx.cell (p:=⟨b,j,none⟩) h3];exact h4 j u hu⟩
def OwnG.low{t:TypeId}{w:World}{B:Nat}{v:Value}{xs:List Value}(h:OwnG t w B v xs):∀k,v.ownBlock=some k->B<=k:=by
 rcases h with h|⟨b,rfl,h2,h3,h4⟩;·exact h.low
 .intro k hk;have:b=k:=(by simpa[Value.ownBlock]using hk);omega
def vY{w:World}(T t:TypeId)(z:Value)(bytes:Nat)
 (hT:prog.underlying T=some (.slice t))(hi:(prog.info? t).map (λi=>(i.zero,i.size,i.bytes))=some (some z,1,bytes))(hz:z.cells.size=1)(Iz:bytes<=16)
 (B:Nat)(v:Value)(xs:List Value)(b8:OwnG t w B v xs)(b off m c:Nat)(news:List Value)(hm:news.length=m)(Ju:0<m)
 (hc:∀j u,news[j]? =some u->w.cell? ⟨b,off+j,none⟩=some u)(h1:∀u∈news,u.oneCell'=true)(hn:xs.length+m<=1000000000)(hB:B<=w.heap.size):
 ∃v' w',(Builtin.append_ #[T,T] T #[v,.slice (some ⟨b,off,none⟩) m c]).run prog w=.ok v' w'/\Own t w' B v' (xs++news)/\w.grownBy w' v.ownBlock:=by
 obtain⟨i0,hi,An,p8,x9⟩:=C5 hi;have Gz:xs.length+m<=maxLen:=B8;have Mm:(xs.length+m)*bytes<=140737488355328:=F3 (O9 hn Iz) I0;have Wg:∀j u,news[j]? =some u->w.cell? ((⟨b,off,none⟩:Addr).add j)=some u:=λj u hj=>by rw[UE];exact hc j u hj
 have hlen:(xs++news).length=xs.length+m:=by rw[S0,hm]
 rcases b8 with b8|⟨b',rfl,o8,n7,hb3⟩
 .obtain⟨v',w',h2,h3,h4,_⟩:=run_append_own (P:=prog) w B T T t i0 z 1 bytes hT hi An p8 x9 hz I0 v xs.length xs b8 ⟨b,off,none⟩ m c news C0 Wg h1 Gz Mm hB;refine⟨v',w',h2,?_,h4⟩;unfold Own;rw[hlen];exact h3
 .obtain⟨v',w',h2,h3,h4⟩:=run_append_arg_grows (P:=prog) w T T t i0 z 1 bytes hT hi An p8 x9 hz I0 ⟨b',0,none⟩ xs.length xs.length xs C0 (λj u hj=>by rw[UD];exact hb3 j u hj) ⟨b,off,none⟩ m c news C0 Wg C0 Gz Mm;refine⟨v',w',h2,?_,⟨h4.1,h4.2,h4.3,h4.4,λi hi _=>h4.5 i hi L0⟩⟩;have h5:Own t w' w.heap.size v' (xs++news):=(by unfold Own;rw[hlen];exact h3);exact h5.mono hB
def vZ{w:World}{ops:Array Oper}{o:Oper}{a:Act}{K:Act->World->Prop}{Q:Exit->Act->World->Prop}{E:Prop}(IG:o.guard=none)(s x:Operand)(T:TypeId)
 (ho:o.op=.call {callee:=.builtin .append,args:= #[s,x],argTypes:= #[T,T]})(ht:o.type=T)(v v1:Value)(hs:a.eval s=v)(hx:a.eval x=v1)
 (v':Value)(w':World)(Cm:(Builtin.append_ #[T,T] T #[v,v1]).run prog w=.ok v' w')(h:K (a.put o.dst v') w'):
 if Region.wanted o (yielded ops a.tmps)=true then Oper.wp prog o a w K Q else E:=by
 have hw:Region.wanted o (yielded ops a.tmps)=true:=by simp[Region.wanted,IG]
 rw[G0 hw];rw[<-ht]at Cm;unfold Oper.wp execOp;simp only[ho,<-ht,resolve,invoke,builtin,UF,UG,UH,FN,M4,H7,hs,hx,Cm];exact h
def Sl(w:World)(v:Value)(xs:List Value):Prop:=
 (xs=[]/\∃a c,v=.slice a 0 c)\/∃b off cap,v=.slice (some ⟨b,off,none⟩) xs.length cap/\b<w.heap.size/\∀i,i<xs.length->w.cell? ⟨b,off+i,none⟩=xs[i]?
def Sl.ext{w w':World}{v:Value}{xs:List Value}(h:Sl w v xs)(hx:Ext w w'):Sl w' v xs:=by
 rcases h with h|⟨b,off,cap,h1,h2,h3⟩;·exact .inl h
 .exact .inr ⟨b,off,cap,h1,W1 h2 hx.size,λi hi=>by rw[hx.cell (p:=⟨b,off+i,none⟩) h2];exact h3 i hi⟩
def Own.sl{t:TypeId}{w:World}{B:Nat}{v:Value}{xs:List Value}(h:Own t w B v xs):Sl w v xs:=by
 rcases h.2 with⟨By,h0⟩|⟨g,cap,cur,hv,Ki,hb,h1,h2,h3,h4⟩;·exact kA
 .refine .inr ⟨g,0,cap,hv,(V3.1 hb).1,λi hi=> ?_⟩;have hh:=h;unfold Own at hh;rw[hv]at hh;rw[Nat.zero_add,hh.cellAt i C0]
def Sl.form{w:World}{v:Value}{xs:List Value}(h:Sl w v xs):∃a c,v=.slice a xs.length c:=FO
def Sl.at_{w:World}{a:Option Addr}{n c:Nat}{xs:List Value}(h:Sl w (.slice a n c) xs){k:Nat}(hk:k<xs.length):
 ∃b off,a=some ⟨b,off,none⟩/\b<w.heap.size/\w.cell? ⟨b,off+k,none⟩=some xs[k]:=by
 rcases h with⟨rfl,_⟩|⟨b,off,cap,he,hb,hc⟩
 .exact absurd hk (U4 _)
 .injection he with h1 h2 h3;exact⟨b,off,h1,hb,by rw[hc k hk,P0 hk]⟩
def Sl.row{w:World}{b:Nat}{t:TypeId}{n:Nat}{f:Nat->Value}(h:w.rowIs b t n f):Sl w (.slice (some ⟨b,0,none⟩) n n) ((List.range n).map f):=by refine .inr ⟨b,0,n,by simp,h.lt,λi hi=> ?_⟩;simp only[M0,R6]at hi;rw[Nat.zero_add,h.cell hi];simp[hi]
def OwnG.sl{t:TypeId}{w:World}{B:Nat}{v:Value}{xs:List Value}(h:OwnG t w B v xs):Sl w v xs:=by
 rcases h with h|⟨b,rfl,h2,h3,h4⟩;·exact h.sl
 .exact .inr ⟨b,0,_,rfl,h3,λi hi=>by rw[Nat.zero_add,h4 i _ (P0 hi),P0 hi]⟩
def Sl.congr{w:World}{v:Value}{xs ys:List Value}(h:Sl w v xs)(e:xs=ys):Sl w v ys:=e▸h
def encB(c:UInt8):Value:=.int .u8 (c.toNat:Int)
def encI(n:Int):Value:=.int .i64 n
def encT(b:Bool):Value:=.bool b
def Zp{w:World}{v:Value}{l:List UInt8}(h:Sl w v (l.map encB)):
 (convert 90 9 v).run prog w=.ok (.string ⟨l.toArray⟩) w:=by
 rcases h with⟨h0,a,c,rfl⟩|⟨b,off,cap,rfl,hb,hc⟩
 .have h0:l=[]:=by simpa using h0
  subst h0
  cases a with
  |none=>exact run_convert_bytes_nil (P:=prog) w 90 5 underlying90 underlying5 0 c 9 underlying9
  |some a=>exact run_convert_bytes_back (P:=prog) w 90 9 5 a c [] underlying90 underlying5 underlying9 (λj hj=>absurd hj (U4 _))
 .have:=run_convert_bytes_back (P:=prog) w 90 9 5 ⟨b,off,none⟩ cap l underlying90 underlying5 underlying9 (λj hj=>by rw[UE,hc j (by simpa using hj)];simp[hj,encB]);rw[M0];exact L3
def FP{w:World}{ops:Array Oper}{rest:List Oper}{o:Oper}{a:Act}{Q:Exit->Act->World->Prop}(IG:o.guard=none)(s x:Operand)(T t:TypeId)(z:Value)(bytes:Nat)
 (ho:o.op=.call {callee:=.builtin .append,args:= #[s,x],argTypes:= #[T,T]})
 (hT:prog.underlying T=some (.slice t))(hi:(prog.info? t).map (λi=>(i.zero,i.size,i.bytes))=some (some z,1,bytes))(hz:z.cells.size=1)(Iz:bytes<=16)
 (B:Nat)(v:Value)(xs:List Value)(hs:a.eval s=v)(b8:Own t w B v xs)(b:Nat)(u:Value)(hx:a.eval x=.slice (some ⟨b,0,none⟩) 1 1)
 (hc:w.cell? ⟨b,0,none⟩=some u)(h1:u.oneCell'=true)(hn:xs.length<=999999999)(hB:B<=w.heap.size)
 (h:∀v' w',Own t w' B v' (xs++[u])->w.grownBy w' v.ownBlock->wpList prog ops Q rest (a.put o.dst v') w'):wpList prog ops Q (o::rest) a w:=by
 refine ZS IG s x T t z bytes ho hT hi hz Iz B v xs hs b8 b 0 1 1 [u] hx rfl ?_ ?_ C0 hB h
 .intro j u' hj
  cases j with
  |zero=>simp only[List.getElem?_cons_zero,P2]at hj;subst hj;exact hc
  |succ j=>simp at hj
 .intro u' hu;simp only[D3]at hu;subst hu;exact h1
def UI:(prog.info? 5).map (λi=>(i.zero,i.size,i.bytes))=some (some (.int .u8 0),1,1):=D1
def kB{w:World}{ops:Array Oper}{rest:List Oper}{o:Oper}{a:Act}{Q:Exit->Act->World->Prop}(IG:o.guard=none)(s x:Operand)
 (ho:o.op=.call {callee:=.builtin .append,args:= #[s,x],argTypes:= #[90,90]})
 (B:Nat)(v:Value)(l:List UInt8)(hs:a.eval s=v)(b8:Own 5 w B v (l.map encB))(b:Nat)(u:UInt8)(hx:a.eval x=.slice (some ⟨b,0,none⟩) 1 1)
 (hc:w.cell? ⟨b,0,none⟩=some (encB u))(hn:l.length<=999999999)(hB:B<=w.heap.size)
 (h:∀v' w',Own 5 w' B v' ((l++[u]).map encB)->w.grownBy w' v.ownBlock->wpList prog ops Q rest (a.put o.dst v') w'):wpList prog ops Q (o::rest) a w:=
 FP IG s x 90 5 (.int .u8 0) 1 ho underlying90 UI rfl I0 B v _ hs b8 b (encB u) hx hc rfl FQ hB
  (λv' w' h1 h2=>h v' w' WO h2)
def WP:(prog.info? 3).map (λi=>(i.zero,i.size,i.bytes))=some (some (.int .i64 0),1,8):=D1
def Zy{w:World}{ops:Array Oper}{rest:List Oper}{o:Oper}{a:Act}{Q:Exit->Act->World->Prop}(IG:o.guard=none)(s x:Operand)
 (ho:o.op=.call {callee:=.builtin .append,args:= #[s,x],argTypes:= #[43,43]})
 (B:Nat)(v:Value)(l:List Int)(hs:a.eval s=v)(b8:Own 3 w B v (l.map encI))(b:Nat)(u:Int)(hx:a.eval x=.slice (some ⟨b,0,none⟩) 1 1)
 (hc:w.cell? ⟨b,0,none⟩=some (encI u))(hn:l.length<=999999999)(hB:B<=w.heap.size)
 (h:∀v' w',Own 3 w' B v' ((l++[u]).map encI)->w.grownBy w' v.ownBlock->wpList prog ops Q rest (a.put o.dst v') w'):wpList prog ops Q (o::rest) a w:=
 FP IG s x 43 3 (.int .i64 0) 8 ho underlying43 WP rfl I0 B v _ hs b8 b (encI u) hx hc rfl FQ hB
  (λv' w' h1 h2=>h v' w' WO h2)
def UJ:(prog.info? 4).map (λi=>(i.zero,i.size,i.bytes))=some (some (.bool false),1,1):=D1
def UK{w:World}{ops:Array Oper}{rest:List Oper}{o:Oper}{a:Act}{Q:Exit->Act->World->Prop}(IG:o.guard=none)(s x:Operand)
 (ho:o.op=.call {callee:=.builtin .append,args:= #[s,x],argTypes:= #[26,26]})
 (B:Nat)(v:Value)(l:List Bool)(hs:a.eval s=v)(b8:Own 4 w B v (l.map encT))(b:Nat)(u:Bool)(hx:a.eval x=.slice (some ⟨b,0,none⟩) 1 1)
 (hc:w.cell? ⟨b,0,none⟩=some (encT u))(hn:l.length<=999999999)(hB:B<=w.heap.size)
 (h:∀v' w',Own 4 w' B v' ((l++[u]).map encT)->w.grownBy w' v.ownBlock->wpList prog ops Q rest (a.put o.dst v') w'):wpList prog ops Q (o::rest) a w:=
 FP IG s x 26 4 (.bool false) 1 ho underlying26 UJ rfl I0 B v _ hs b8 b (encT u) hx hc rfl FQ hB
  (λv' w' h1 h2=>h v' w' WO h2)
def encS(l:List UInt8):Value:=.string ⟨l.toArray⟩
def wC:(prog.info? 9).map (λi=>(i.zero,i.size,i.bytes))=some (some (.string ⟨#[]⟩),1,16):=D1
def NA{w:World}{ops:Array Oper}{rest:List Oper}{o:Oper}{a:Act}{Q:Exit->Act->World->Prop}(IG:o.guard=none)(s x:Operand)(T t:TypeId)(z:Value)(bytes:Nat)
 (ho:o.op=.call {callee:=.builtin .append,args:= #[s,x],argTypes:= #[T,T]})
 (hT:prog.underlying T=some (.slice t))(hi:(prog.info? t).map (λi=>(i.zero,i.size,i.bytes))=some (some z,1,bytes))(hz:z.cells.size=1)(Iz:bytes<=16)
 (B:Nat)(v:Value)(xs:List Value)(hs:a.eval s=v)(b8:Own t w B v xs)(b off m c:Nat)(news:List Value)(hx:a.eval x=.slice (some ⟨b,off,none⟩) m c)(hm:news.length=m)
 (hc:∀j u,news[j]? =some u->w.cell? ⟨b,off+j,none⟩=some u)(h1:∀u∈news,u.oneCell'=true)(hn:xs.length+m<=1000000000)(hB:B<=w.heap.size)
 (h:∀v' w',Own t w' B v' (xs++news)->w.grownBy w' v.ownBlock->(v'.ownBlock=v.ownBlock\/v'.ownBlock=some w.heap.size)->wpList prog ops Q rest (a.put o.dst v') w'):wpList prog ops Q (o::rest) a w:=by
 obtain⟨i0,hi,An,p8,x9⟩:=C5 hi;refine wpList_append_own_at _ IG s x T ho B t i0 z 1 bytes hT hi An p8 x9 hz I0 v xs.length xs hs b8 ⟨b,off,none⟩ m c news hx (by rw[hm,G6]) ?_ h1 ?_ ?_ hB ?_
 .intro j u hj;rw[UE];exact hc j u hj
 .exact B8
 .exact F3 (O9 hn Iz) I0
 .intro v' w' h1 h2 _ h4;refine h v' w' ?_ h2 h4;unfold Own;rw[S0,hm];exact h1
def kC{w:World}{ops:Array Oper}{rest:List Oper}{o:Oper}{a:Act}{Q:Exit->Act->World->Prop}(IG:o.guard=none)(s x:Operand)
 (ho:o.op=.call {callee:=.builtin .append,args:= #[s,x],argTypes:= #[90,90]})
 (B:Nat)(v:Value)(l:List UInt8)(hs:a.eval s=v)(b8:Own 5 w B v (l.map encB))(b:Nat)(u:UInt8)(hx:a.eval x=.slice (some ⟨b,0,none⟩) 1 1)
 (hc:w.cell? ⟨b,0,none⟩=some (encB u))(hn:l.length<=999999999)(hB:B<=w.heap.size)
 (h:∀v' w',Own 5 w' B v' (l.map encB++[encB u])->w.grownBy w' v.ownBlock->(v'.ownBlock=v.ownBlock\/v'.ownBlock=some w.heap.size)->wpList prog ops Q rest (a.put o.dst v') w'):wpList prog ops Q (o::rest) a w:=
 NA IG s x 90 5 (.int .u8 0) 1 ho underlying90 UI rfl I0 B v _ hs b8 b 0 1 1 [encB u] hx rfl
  (λj u' hj=>by
   match j with
   |0=>simp only[List.getElem?_cons_zero,P2]at hj;subst hj;exact hc
   |j+1=>simp at hj)
  (λu' hu=>by simp only[D3]at hu;subst hu;rfl) J5 hB h
def wD{w:World}{ops:Array Oper}{rest:List Oper}{o:Oper}{a:Act}{Q:Exit->Act->World->Prop}(IG:o.guard=none)(s x:Operand)
 (ho:o.op=.call {callee:=.builtin .append,args:= #[s,x],argTypes:= #[90,90]})
 (B:Nat)(v:Value)(l:List UInt8)(hs:a.eval s=v)(b8:Own 5 w B v (l.map encB))(b:Nat)(u u1:UInt8)(hx:a.eval x=.slice (some ⟨b,0,none⟩) 2 2)
 (hc:w.cell? ⟨b,0,none⟩=some (encB u))(Am:w.cell? ⟨b,1,none⟩=some (encB u1))(hn:l.length<=999999998)(hB:B<=w.heap.size)
 (h:∀v' w',Own 5 w' B v' (l.map encB++[encB u,encB u1])->w.grownBy w' v.ownBlock->(v'.ownBlock=v.ownBlock\/v'.ownBlock=some w.heap.size)->wpList prog ops Q rest (a.put o.dst v') w'):wpList prog ops Q (o::rest) a w:=
 NA IG s x 90 5 (.int .u8 0) 1 ho underlying90 UI rfl I0 B v _ hs b8 b 0 2 2 [encB u,encB u1] hx rfl
  (λj u' hj=>by
   match j with
   |0=>simp only[List.getElem?_cons_zero,P2]at hj;subst hj;exact hc
   |1=>simp only[List.getElem?_cons_succ,List.getElem?_cons_zero,P2]at hj;subst hj;exact Am
   |j+2=>simp at hj)
  (λu' hu=>by simp only[E2,J4,F4]at hu;rcases hu with rfl|rfl<;>rfl) J5 hB h
def Z2(v u:Value):Prop:=v.ownBlock=none\/v.ownBlock≠u.ownBlock
def Z2.aHE(u:Value):Z2 (.slice none 0 0) u:=.inl rfl
def Z2.symm{v u:Value}(h:Z2 v u):Z2 u v:=by
 cases hv:u.ownBlock with
 |none=>exact .inl hv
 |some k=>rcases h with h|h;(·exact .inr (by rw[h,hv];simp));·exact .inr (by rw[hv];rw[hv]at h;exactλe=>h e.symm)
def Z2.grow{t:TypeId}{w:World}{B:Nat}{v v' u:Value}{xs:List Value}(h:Z2 v u)(hu:Own t w B u xs)(n:Nat)(hn:w.heap.size<=n)(La:v'.ownBlock=v.ownBlock\/v'.ownBlock=some n):Z2 v' u:=by
 rcases La with e|e;·unfold Z2;rw[e];exact h
 .refine .inr ?_;rw[e];intro h1;have:=(R4 hu n h1.symm).2;omega
def Own.beside{t:TypeId}{w w':World}{B:Nat}{v u:Value}{xs:List Value}(h:Own t w B u xs)(hg:w.grownBy w' v.ownBlock)(ha:Z2 v u):Own t w' B u xs:=by
 refine h.kept hg ?_;rcases ha.symm with e|e;·exact .inl e
 .exact .inr e
section
variable {α:Type} {enc:α->List Value} {k:Nat}
def ZB(enc:α->List Value)(xs:List α):List Value:=xs.flatMap enc
def wE(hk:∀x,(enc x).length=k)(xs:List α):(ZB enc xs).length=xs.length*k:=by
 induction xs with
 |nil=>simp[ZB]
 |cons x xs ih=>have:ZB enc (x::xs)=enc x++ZB enc xs:=rfl;rw[this,S0,ih,hk,B1,RE,RF,Nat.add_comm]
def wF(xs ys:List α):ZB enc (xs++ys)=ZB enc xs++ZB enc ys:=by simp[ZB]
def wG(hk:∀x,(enc x).length=k)(xs:List α):∀(i:Nat)(x:α),xs[i]? =some x->∀c,c<k->(ZB enc xs)[i*k+c]? =(enc x)[c]? :=by
 induction xs with
 |nil=>intro i x h;simp at h
 |cons y ys ih=>
  intro i x h c hc
  have e:ZB enc (y::ys)=enc y++ZB enc ys:=rfl
  cases i with
  |zero=>simp only[List.getElem?_cons_zero,P2]at h;subst h;rw[e,Nat.zero_mul,Nat.zero_add,WN (by rw[hk];exact hc)]
  |succ i=>rw[List.getElem?_cons_succ]at h;have h2:(i+1)*k+c=(enc y).length+(i*k+c):=(by rw[hk,RE,RF];omega);rw[e,h2,VZ (Nat.le_add_right _ _),RG];exact ih i x h c hc
def wH(h1:∀x,∀u∈enc x,u.oneCell'=true)(xs:List α):∀u∈ZB enc xs,u.oneCell'=true:=by intro u hu;obtain⟨x,_,h⟩:=List.mem_flatMap.1 hu;exact h1 x u h
def KOwn(T:TypeId)(k:Nat)(enc:α->List Value)(w:World)(B:Nat)(v:Value)(xs:List α):Prop:=w.ownsRow B T k v xs.length (ZB enc xs)
variable {T:TypeId} {w w':World} {B:Nat} {v:Value} {xs:List α}
def KOwn.nil(T:TypeId)(k:Nat)(enc:α->List Value)(w:World)(B:Nat):KOwn T k enc w B (.slice none 0 0) []:=RB _ _ _ _
def KOwn.ext(h:KOwn T k enc w B v xs)(hx:Ext w w'):KOwn T k enc w' B v xs:=by
 refine YQ h hx.Hl ?_;cases hv:v.ownBlock with
 |none=>exact .inl rfl
 |some k=>exact .inr L0
def KOwn.low(h:KOwn T k enc w B v xs):∀b,v.ownBlock=some b->B<=b:=λb hb=>(R4 h b hb).1
def KOwn.mono{B':Nat}(h:KOwn T k enc w B v xs)(hB:B'<=B):KOwn T k enc w B' v xs:=vX
def KOwn.congr{ys:List α}(h:KOwn T k enc w B v xs)(e:xs=ys):KOwn T k enc w B v ys:=e▸h
def KSl(k:Nat)(enc:α->List Value)(w:World)(v:Value)(xs:List α):Prop:=
 (xs=[]/\∃a c,v=.slice a 0 c)\/∃b off cap,v=.slice (some ⟨b,off,none⟩) xs.length cap/\b<w.heap.size/\∀i x,xs[i]? =some x->∀c,c<k->w.cell? ⟨b,off+i*k+c,none⟩=(enc x)[c]?
def KOwn.form(h:KOwn T k enc w B v xs):(xs=[]/\v=.slice none 0 0)\/∃g cap,v=.slice (some ⟨g,0,none⟩) xs.length cap/\B<=g/\g<w.heap.size:=by
 rcases h.2 with⟨By,h0⟩|⟨g,cap,cur,hv,Ki,hb,_⟩;·exact .inl ⟨U3 h0,By⟩
 .exact .inr ⟨g,cap,hv,Ki,(V3.1 hb).1⟩
def KOwn.sl(hk:∀x,(enc x).length=k)(h:KOwn T k enc w B v xs):KSl k enc w v xs:=by
 rcases h.form with⟨h0,h1⟩|⟨g,cap,hv,_,hg⟩;·exact .inl ⟨h0,_,_,h1⟩
 .refine .inr ⟨g,0,cap,hv,hg,λi x hi c hc=> ?_⟩;have hh:=h;unfold KOwn at hh;rw[hv]at hh;have Ev:i<xs.length:=kD;have hle:(i+1)*k<=xs.length*k:=FR k Ev;rw[Nat.zero_add,hh.cellAt (i*k+c) (by rw[RE,RF]at hle;omega)];exact wG hk xs i x hi c hc
def KSl.form(h:KSl k enc w v xs):∃a c,v=.slice a xs.length c:=FO
def KSl.at_{a:Option Addr}{n cp:Nat}(h:KSl k enc w (.slice a n cp) xs){i:Nat}{x:α}(hi:xs[i]? =some x):
 ∃b off,a=some ⟨b,off,none⟩/\b<w.heap.size/\∀c,c<k->w.cell? ⟨b,off+i*k+c,none⟩=(enc x)[c]? :=by
 rcases h with⟨rfl,_⟩|⟨b,off,cap,he,hb,hc⟩
 .simp at hi
 .injection he with h1 h2 h3;exact⟨b,off,h1,hb,hc i x hi⟩
def KOwn.stored{g n cap:Nat}{xs:List α}(hk:∀x,(enc x).length=k)(h:KOwn T k enc w B (.slice (some ⟨g,0,none⟩) n cap) xs){i c:Nat}{x y:α}(hi:xs[i]? =some x)(hc:c<k)(u:Value)(hy:enc y=(enc x).set c u):
 KOwn T k enc (w.setCell ⟨g,i*k+c,none⟩ u) B (.slice (some ⟨g,0,none⟩) n cap) (xs.set i y)/\w.grownBy (w.setCell ⟨g,i*k+c,none⟩ u) (some g):=by
 have hn:xs.length=n:=by rcases h.form with⟨_,h1⟩|⟨g',c',h1,_⟩;(·simp at h1);·injection h1 with _ h2;exact h2.symm
 have hh:=h;unfold KOwn at hh;subst hn;obtain⟨h1,h2⟩:=hh.stored (i*k+c) u;refine⟨?_,h2⟩;unfold KOwn;rw[P6];have e:ZB enc (xs.set i y)=(ZB enc xs).set (i*k+c) u:=by
  have Ev:i<xs.length:=(N1.1 hi).1
  clear h1 h2 hh h
  induction xs generalizing i with
  |nil=>simp at hi
  |cons z zs ih=>
   have ez:∀l,ZB enc (z::l)=enc z++ZB enc l:=λ_=>rfl
   cases i with
   |zero=>simp only[List.getElem?_cons_zero,P2]at hi;subst hi;show ZB enc (y::zs)=_;rw[ez,Nat.zero_mul,Nat.zero_add,List.set_append_left _ _ (by rw[hk];exact hc),<-hy];rfl
   |succ i=>rw[List.getElem?_cons_succ]at hi;have e2:(i+1)*k+c=(enc z).length+(i*k+c):=(by rw[hk,RE,RF];omega);show ZB enc (z::zs.set i y)=_;rw[ez,ez,e2,RH _ _ (Nat.le_add_right _ _),RG,ih hi (by simpa using Ev)]
 rw[e];exact h1
end
end
end Go.Proofs.Enc
