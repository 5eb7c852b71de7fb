/-
  Laid.
-/
import Derived.Test.YtbngggoccndefaaGreatDoorRt03
set_option maxHeartbeats 8000000
set_option maxRecDepth 100000
set_option linter.all false
namespace Go.Proofs.YtbngggoccndefaaGreatDoor
open Go.Proofs.Tryz
section
namespace Rn
def modsN:Bool->List Nat->List Bool
 |_,[]=>[]
 |b,x::r=>List.replicate x b++modsN (!b) r
theorem mods_nat:∀(b:Bool) (l:List Nat),mods b (l.map fun(n:Nat)=>(n:Int))=modsN b l
 |_,[]=>rfl
 |b,x::l=>by rw[Y4,mods,modsN,mods_nat (!b) l];rfl
theorem runs_mods:∀(r:List Bool) (c:Bool) (n:Nat),modsN c (runsGo c n r)=List.replicate n c++r
 | [],c,n=>by rw[runsGo,modsN,modsN]
 |b::r,c,n=>by rw[runsGo];by_cases h:b=c;(·rw[G0 h,runs_mods r c (n+1),h,NM];simp);·have e:=runs_mods r b 1;have hb:(!c)=b:=(by cases b<;>cases c<;>simp_all);rw[D0 h,modsN,hb,e];rfl
theorem runs_pos:∀(r:List Bool) (c:Bool) (n:Nat),1<=n->∀x∈runsGo c n r,1<=x
 | [],c,n,hn,x,hx=>by rw[runsGo,Y2]at hx;omega
 |b::r,c,n,hn,x,hx=>by rw[runsGo]at hx;split at hx;(·exact runs_pos r c (n+1) C0 x hx);·rcases U1.1 hx with rfl|hx;(·exact hn);·exact runs_pos r b 1 C0 x hx
theorem runs_ne (r:List Bool) (c:Bool) (n:Nat):runsGo c n r≠ []:=by
 induction r generalizing c n with
 |nil=>simp[runsGo]
 |cons b r ih=>rw[runsGo];split;(·exact ih c (n+1));·simp
theorem mods_runs:∀(l:List Nat) (c:Bool) (n x:Nat),(∀y∈l,1<=y)->runsGo c n (List.replicate x c++modsN (!c) l)=(n+x)::l
 | [],c,n,x,_=>by rw[modsN,runsGo_app];rfl
 |y::l,c,n,x,h=>by obtain⟨y',rfl⟩:∃y',y=y'+1:=⟨y-1,by have:=h y (B1 ..);omega⟩;rw[runsGo_app,modsN,D4,P2,runsGo,D0 (by cases c<;>decide)];rw[mods_runs l (!c) 1 y' fun z hz=>h z (C1 _ hz)];congr 2;omega
def lastB (c:Bool) (n:Nat):Bool:=if n%2=1 then c else !c
theorem modsN_app:∀(l m:List Nat) (c:Bool),modsN c (l++m)=modsN c l++modsN (if l.length%2=0 then c else !c) m
 | [],m,c=>rfl
 |x::l,m,c=>by rw[P2,modsN,modsN,modsN_app l m (!c),G1,S0];exact EM
theorem modsN_rev:∀(l:List Nat) (c:Bool),(modsN c l).reverse=modsN (lastB c l.length) l.reverse
 | [],c=>rfl
 |x::l,c=>by rw[modsN,O4,modsN_rev l (!c),R8,modsN_app,N6,P4,S0];have h1:lastB (!c) l.length=lastB c (l.length+1):=(by unfold lastB;by_cases h:l.length%2=1;(·rw[G0 h,D0 C0]);·rw[D0 h,G0 C0,Bool.not_not]);rw[h1];congr 1;have h2:(if l.length%2=0 then lastB c (l.length+1)else !lastB c (l.length+1))=c:=(by unfold lastB;by_cases h:l.length%2=0;(·rw[G0 h,G0 C0]);·rw[D0 h,D0 C0,Bool.not_not]);rw[h2,modsN,modsN,B3]
theorem ldg_rep (n:Nat) (r:List Bool):Ea.ldg (List.replicate n false++r)=n+Ea.ldg r:=by
 induction n with
 |zero=>simp
 |succ n ih=>rw[D4,P2];show Ea.ldg (false::_)=_;rw[show Ea.ldg (false::(List.replicate n false++r))=Ea.ldg (List.replicate n false++r)+1 from rfl,ih];omega
theorem ldg_split:∀(s:List Bool),s=List.replicate (Ea.ldg s) false++s.drop (Ea.ldg s)
 | []=>rfl
 |true::r=>rfl
 |false::r=>by have:=ldg_split r;rw[show Ea.ldg (false::r)=Ea.ldg r+1 from rfl,D4,P2,U9,<-this]
theorem ldg_le:∀(s:List Bool),Ea.ldg s<=s.length
 | []=>I0 _
 |true::r=>U0 _
 |false::r=>by have:=ldg_le r;rw[show Ea.ldg (false::r)=Ea.ldg r+1 from rfl,S0];omega
theorem ldg_next:∀(s:List Bool),s.drop (Ea.ldg s)=[]∨∃r,s.drop (Ea.ldg s)=true::r
 | []=>.inl rfl
 |true::r=>.inr ⟨r,rfl⟩
 |false::r=>by rw[show Ea.ldg (false::r)=Ea.ldg r+1 from rfl,U9];exact ldg_next r
theorem row_split (s:List Bool):(core s=[]∧s=List.replicate s.length false∧Ea.ldg s=s.length∧Ea.trl s=s.length)∨
 (∃m,core s=true::m∧(∃m',core s=m'++[true])∧s=List.replicate (Ea.ldg s) false++core s++List.replicate (Ea.trl s) false):=by
 rcases ldg_next s with h|⟨r,h⟩
 ·left;have hs:=ldg_split s;rw[h,B3]at hs;have hl:Ea.ldg s=s.length:=(by have:=R0 List.length hs;rw[C3]at this;exact this.symm);refine⟨by unfold core;rw[h,List.take_nil],by rw[<-hl];exact hs,hl,?_⟩;unfold Ea.trl;rw[hs,N6];have:=ldg_rep (Ea.ldg s) [];rw[B3]at this;rw[this,C3];rfl
 ·right;have hs:=ldg_split s;rw[h]at hs;have hr:s.reverse=(true::r).reverse++List.replicate (Ea.ldg s) false:=(by have:=R0 List.reverse hs;rw[O4,N6]at this;exact R2);have key:∀(l k:List Bool),Ea.ldg (l++true::k)<=l.length:=by
   intro l k
   induction l with
   |nil=>exact I0 _
   |cons b l ih=>
    cases b with
    |true=>exact U0 _
    |false=>rw[P2,show Ea.ldg (false::(l++true::k))=Ea.ldg (l++true::k)+1 from rfl,S0];omega
  have htl:Ea.trl s<=r.length:=(by unfold Ea.trl;rw[hr,R8,G1];have:=key r.reverse (List.replicate (Ea.ldg s) false);rw[P4]at this;exact R2);have hlen:=R0 List.length hs;rw[O0,C3,S0]at hlen;have hcore:core s=(true::r).take (r.length+1-Ea.trl s):=(by unfold core;rw[h];congr 1;omega);obtain⟨d,hd⟩:∃d,r.length+1-Ea.trl s=d+1:=⟨r.length-Ea.trl s,by omega⟩;have hrd:(true::r).drop (d+1)=List.replicate (Ea.trl s) false:=(by have h1:=ldg_split s.reverse;have h2:s.reverse.take (Ea.trl s)=List.replicate (Ea.trl s) false:=(by have h3:=R0 (List.take (Ea.trl s)) h1;rw[h3];unfold Ea.trl;rw[X9 YZ,P1 YZ]);have h4:s.drop (s.length-Ea.trl s)=List.replicate (Ea.trl s) false:=(by have h5:=R0 List.reverse h2;rw[N6,List.reverse_take,SE,P4]at h5;exact h5);rw[<-h4];have h6:s.length-Ea.trl s=Ea.ldg s+(d+1):=C0;rw[h6,<-h,Y3]);have hcs:core s=true::r.take d:=(by rw[hcore,hd,VI]);refine⟨r.take d,hcs,?_,?_⟩
  ·have h1:=ldg_next s.reverse;have h2:s.reverse.drop (Ea.trl s)=(core s).reverse++List.replicate (Ea.ldg s) false:=(by have h3:s=List.replicate (Ea.ldg s) false++core s++List.replicate (Ea.trl s) false:=EN;have h4:=R0 List.reverse h3;rw[O4,O4,N6,N6]at h4;rw[h4,NN YZ,J5 YZ,E4]);unfold Ea.trl at h2;rw[h2]at h1;rcases h1 with h1|⟨q,h1⟩;(·rw[hcs]at h1;simp at h1)
   ·cases hc:(core s).reverse with
    |nil=>rw[hcs]at hc;simp at hc
    |cons x y=>rw[hc]at h1;injection h1 with h1;subst h1;refine⟨y.reverse,?_⟩;have:=R0 List.reverse hc;rw[SE,R8]at this;exact R2
  ·exact EN
theorem row_parts (a b:Nat) (m:List Bool) (h1:∃k,m=true::k) (h2:∃k,m=k++[true]):Ea.ldg (List.replicate a false++m++List.replicate b false)=a∧Ea.trl (List.replicate a false++m++List.replicate b false)=b∧core (List.replicate a false++m++List.replicate b false)=m:=by
 obtain⟨k,rfl⟩:=h1;have e1:Ea.ldg (List.replicate a false++(true::k)++List.replicate b false)=a:=by rw[G1,ldg_rep];rfl
 have e2:Ea.trl (List.replicate a false++(true::k)++List.replicate b false)=b:=by unfold Ea.trl;rw[O4,O4,N6,N6,ldg_rep];obtain⟨k2,h2⟩:=h2;rw[h2,O4];rfl
 refine⟨e1,e2,?_⟩;unfold core;rw[e1,e2];rw[G1,NN YZ,J5 YZ,E4];rw[X9 I2];rw[P1];exact E1
theorem widthsN_mods (s:List Bool):modsN true (widthsN s)=core s:=by
 unfold widthsN;rcases row_split s with⟨h,_⟩|⟨m,h,_⟩;·rw[h];rfl
 ·rw[h];exact runs_mods m true 1
theorem widthsN_pos (s:List Bool):∀x∈widthsN s,1<=x:=by
 unfold widthsN;rcases row_split s with⟨h,_⟩|⟨m,h,_⟩;·rw[h];intro x hx;cases hx
 ·rw[h];exact runs_pos m true 1 (I0 _)
theorem runs_of (l:List Nat) (h:∀x∈l,1<=x) (s:List Bool) (hs:core s=modsN true l):widthsN s=l:=by
 unfold widthsN
 cases l with
 |nil=>rw[hs];rfl
 |cons x l=>obtain⟨y,rfl⟩:∃y,x=y+1:=⟨x-1,by have:=h x (B1 ..);omega⟩;rw[hs,modsN,D4,P2];show runsGo true 1 _=_;rw[mods_runs l true 1 y fun z hz=>h z (C1 _ hz)];congr 1;omega
theorem widthsN_odd (s:List Bool):core s=[]∨(widthsN s).length%2=1:=by
 rcases row_split s with⟨h,_⟩|⟨m,h,⟨m',h2⟩,_⟩;·exact .inl h
 ·right
  have h3:=modsN_rev (widthsN s) true
  rw[widthsN_mods,h2,O4]at h3
  have hne:widthsN s≠ []:=by intro e;have:=widthsN_mods s;rw[e,h]at this;cases this
  cases hr:(widthsN s).reverse with
  |nil=>exact absurd (by simpa using hr) hne
  |cons x r=>have hx:1<=x:=widthsN_pos s x (by have:x∈(widthsN s).reverse:=(by rw[hr];exact B1 ..);simpa using this);rw[hr,modsN]at h3;obtain⟨y,rfl⟩:∃y,x=y+1:=⟨x-1,by omega⟩;rw[D4,P2,List.reverse_singleton,List.singleton_append]at h3;injection h3 with h3 _;unfold lastB at h3;by_cases h:(widthsN s).length%2=1;(·exact h);·rw[D0 h]at h3;cases h3
theorem turned (s:List Bool):core s.reverse=(core s).reverse∧Ea.ldg s.reverse=Ea.trl s∧Ea.trl s.reverse=Ea.ldg s∧widthsN s.reverse=(widthsN s).reverse:=by
 have hw:core s.reverse=(core s).reverse->widthsN s.reverse=(widthsN s).reverse:=by intro hc;refine runs_of _ (fun x hx=>widthsN_pos s x (by simpa using hx)) _ ?_;rw[hc,<-widthsN_mods s,modsN_rev];rcases widthsN_odd s with h|h;(·have:widthsN s=[]:=(by unfold widthsN;rw[h]);rw[this];rfl);·unfold lastB;rw[G0 h]
 rcases row_split s with⟨h1,h2,h3,h4⟩|⟨m,h1,⟨m',h2⟩,h3⟩;·have hr:s.reverse=s:=(by have e:=R0 List.reverse h2;rw[N6,<-h2]at e;exact e);have hc:core s.reverse=(core s).reverse:=(by rw[hr,h1];rfl);exact⟨hc,rfl,by rw[hr,h4,h3],hw hc⟩
 ·have hr:s.reverse=List.replicate (Ea.trl s) false++(core s).reverse++List.replicate (Ea.ldg s) false:=(by have e:=R0 List.reverse h3;rw[O4,O4,N6,N6,<-G1]at e;exact e);obtain⟨p1,p2,p3⟩:=row_parts (Ea.trl s) (Ea.ldg s) (core s).reverse ⟨m'.reverse,by rw[h2,O4];rfl⟩ ⟨m.reverse,by rw[h1,R8]⟩;rw[<-hr]at p1 p2 p3;exact⟨p3,p1,p2,hw p3⟩
end Rn
namespace Rn
theorem sum_from:∀(l:List Int) (a:Int),l.foldl (·+·) a=a+sum l
 | [],a=>by simp[sum]
 |x::l,a=>by unfold sum;rw[I3,I3,sum_from l (a+x),sum_from l (0+x)];omega
theorem sum_nil:sum []=0:=rfl
theorem sum_cons (x:Int) (l:List Int):sum (x::l)=x+sum l:=by unfold sum;rw[I3,sum_from];unfold sum;omega
theorem sum_app (l m:List Int):sum (l++m)=sum l+sum m:=by
 induction l with
 |nil=>rw[E4,sum_nil];omega
 |cons x l ih=>rw[P2,sum_cons,sum_cons,ih];omega
theorem sum_set:∀(l:List Int) (k:Nat) (m x:Int),l[k]? =some m->sum (l.set k x)=sum l-m+x
 | [],k,m,x,h=>by simp at h
 |y::l,0,m,x,h=>by simp at h;subst h;rw[Y9,sum_cons,sum_cons];omega
 |y::l,k+1,m,x,h=>by rw[XA,sum_cons,sum_cons,sum_set l k m x A6];omega
theorem sum_pos:∀(l:List Int),(∀x∈l,1<=x)->(l.length:Int)<=sum l
 | [],_=>by rw[sum_nil];simp
 |x::l,h=>by have h1:=h x (B1 ..);have h2:=sum_pos l fun y hy=>h y (C1 _ hy);rw[sum_cons,S0];omega
theorem leastGo_lt (s t:Int):∀(ms ws:List Int) (i b:Nat) (v:Int),b<i->leastGo s t i b v ms ws<i+ms.length
 | [],ws,i,b,v,h=>by unfold leastGo;omega
 |m::ms,[],i,b,v,h=>by unfold leastGo;rw[S0];omega
 |m::ms,w::ws,i,b,v,h=>by rw[leastGo,S0];split;(·have:=leastGo_lt s t ms ws (i+1) i (need s t m w) C0;omega);·have:=leastGo_lt s t ms ws (i+1) b v C0;omega
theorem least_lt (s t:Int) (ms ws:List Int) (h:ms≠ []):least s t ms ws<ms.length:=by
 cases ms with
 |nil=>exact absurd rfl h
 |cons m ms=>unfold least;have:=leastGo_lt s t ((m::ms).drop 1) (ws.drop 1) 1 0 (need s t ((m::ms).getD 0 0) (ws.getD 0 0)) C0;rw[U9,I4]at this;rw[U9,I4,S0];omega
theorem give_sum (s t:Int) (ws:List Int):∀(n:Nat) (ms:List Int),ms≠ []->sum (give s t ws n ms)=sum ms+n∧(give s t ws n ms).length=ms.length
 |0,ms,_=>⟨by unfold give;omega,rfl⟩
 |n+1,ms,h=>by have hl:=least_lt s t ms ws h;have hg:ms[least s t ms ws]? =some (ms.getD (least s t ms ws) 0):=(by rw[A1,P0 hl];rfl);(have hne:ms.set (least s t ms ws) (ms.getD (least s t ms ws) 0+1)≠ []:=fun e=>by have:=R0 List.length e;rw[O6]at this;exact h (V2 this));obtain⟨h1,h2⟩:=give_sum s t ws n _ hne;unfold give;rw[h1,h2,sum_set _ _ _ _ hg,O6];exact⟨by omega,rfl⟩
theorem sum_ones (n:Nat):sum (List.replicate n 1)=(n:Int):=by
 induction n with
 |zero=>rfl
 |succ n ih=>rw[D4,sum_cons,ih];omega
theorem quant_sum {ws:List Int} {t:Int} (h:(quant ws t).2=0):sum (quant ws t).1=t∧(quant ws t).1.length=ws.length∧ws≠ []∧ws.length<=65536∧Tw.inRng ws=true∧(ws.length:Int)<=t∧t<=65536:=by
 unfold quant at h⊢
 by_cases h0:ws.length=0
 ·rw[G0 h0]at h;cases h
 rw[D0 h0]at h⊢
 by_cases h1:65536<ws.length
 ·exact XB
 rw[D0 h1]at h⊢
 by_cases h2:Tw.inRng ws=false∨t<ws.length∨65536<t
 ·exact ZZ
 rw[D0 h2]
 have hne:List.replicate ws.length (1:Int)≠ []:=fun e=>h0 (by have:=R0 List.length e;rw[C3]at this;exact this)
 obtain⟨a,b⟩:=give_sum (sum ws) t ws (t.toNat-ws.length) _ hne
 dsimp only
 rw[a,b,sum_ones,C3]
 refine⟨by omega,rfl,fun e=>h0 (by rw[e];rfl),by omega,?_,by omega,by omega⟩
 cases hr:Tw.inRng ws with
 |true=>rfl
 |false=>exact absurd (.inl hr) h2
theorem gcdGo_is:∀(l:List Int) (g:Nat),(∀x∈l,1<=x)->∃u:Nat,gcdGo g l=(u:Int)∧u∣g∧(∀x∈l,(u:Int)∣x)∧(∀d:Nat,d∣g->(∀x∈l,(d:Int)∣x)->d∣u)
 | [],g,_=>⟨g,rfl,Nat.dvd_refl _,fun x hx=>(by cases hx),fun d hd _=>hd⟩
 |x::l,g,h=>by have hx:=h x (B1 ..);obtain⟨u,h1,h2,h3,h4⟩:=gcdGo_is l (Nat.gcd g x.toNat) fun y hy=>h y (C1 _ hy);have ex:x=(x.toNat:Int):=C0;refine⟨u,by unfold gcdGo;rw[D0 C0];exact h1,Nat.dvd_trans h2 (Nat.gcd_dvd_left _ _),?_,?_⟩;(·intro y hy;rcases U1.1 hy with rfl|hy;(·rw[ex];exact Int.natCast_dvd_natCast.2 (Nat.dvd_trans h2 (Nat.gcd_dvd_right _ _)));·exact h3 y hy);·intro d hd hl;refine h4 d (Nat.dvd_gcd hd ?_) fun y hy=>hl y (C1 _ hy);have:=hl x (B1 ..);rw[ex]at this;exact Int.natCast_dvd_natCast.1 this
theorem unit_is {ws:List Int} (h:∀x∈ws,1<=x) (hne:ws≠ []):1<=unit ws∧∀x∈ws,unit ws∣x:=by
 obtain⟨u,h1,h2,h3,h4⟩:=gcdGo_is ws 0 h
 unfold unit
 rw[h1]
 refine⟨?_,h3⟩
 cases ws with
 |nil=>exact absurd rfl hne
 |cons x l=>have hx:=h x (B1 ..);have hd:=h3 x (B1 ..);rcases NO u with e|e;(·subst e;have:=Int.zero_dvd.1 hd;omega);·omega
theorem sum_div {u:Int} (hu:1<=u):∀(l:List Int),(∀x∈l,u∣x)->sum (l.map fun x=>x/u)*u=sum l
 | [],_=>by rw[XC,sum_nil];omega
 |x::l,h=>by have h1:=Int.ediv_mul_cancel (h x (B1 ..));have h2:=sum_div hu l fun y hy=>h y (C1 _ hy);rw[Y4,sum_cons,sum_cons,Int.add_mul,h1,h2]
theorem sum_unit {ws:List Int} (h:∀x∈ws,1<=x) (hne:ws≠ []):sum ws/unit ws=sum (ws.map fun x=>x/unit ws):=by obtain⟨h1,h2⟩:=unit_is h hne;rw[<-sum_div h1 ws h2];exact Int.mul_ediv_cancel _ C0
theorem widths_pos (s:List Bool):∀x∈widths s,1<=x:=by intro x hx;unfold widths at hx;obtain⟨n,hn,rfl⟩:=J3.1 hx;have:=widthsN_pos s n hn;omega
theorem mods_widths (s:List Bool):mods true (widths s)=core s:=by unfold widths;rw[mods_nat,widthsN_mods]
theorem mods_len:∀(l:List Int) (b:Bool),(∀x∈l,1<=x)->((mods b l).length:Int)=sum l
 | [],b,_=>rfl
 |x::l,b,h=>by have h1:=h x (B1 ..);rw[mods,O0,C3,sum_cons,<-mods_len l (!b) fun y hy=>h y (C1 _ hy)];omega
theorem core_le (s:List Bool):(core s).length<=s.length:=by unfold core;exact NP
end Rn
namespace Cs
def quiet (m:List Bool) (a b:Nat):List Bool:=List.replicate a false++m++List.replicate b false
theorem widths_quiet {ws:List Int} (h1:∀x∈ws,1<=x) (ho:ws.length%2=1) (a b:Nat):Rn.widths (quiet (Rn.mods true ws) a b)=ws∧Ea.ldg (quiet (Rn.mods true ws) a b)=a∧Ea.trl (quiet (Rn.mods true ws) a b)=b∧Rn.core (quiet (Rn.mods true ws) a b)≠ []:=by
 obtain⟨l,hl⟩:∃l:List Nat,ws=l.map fun(n:Nat)=>(n:Int):=⟨ws.map Int.toNat,by rw[D6];refine(XD _).symm.trans (A8 fun x hx=> ?_);have:=h1 x hx;show x=((x.toNat:Nat):Int);omega⟩;have hp:∀x∈l,1<=x:=fun x hx=>by have:=h1 (x:Int) (by rw[hl];exact J3.2 ⟨x,hx,rfl⟩);omega
 have hlo:l.length%2=1:=by rw[hl,N0]at ho;exact ho
 rw[hl,Rn.mods_nat];have begins:∀l:List Nat,(∀x∈l,1<=x)->l.length%2=1->∃k,Rn.modsN true l=true::k:=by
  intro l hp ho
  cases l with
  |nil=>simp at ho
  |cons x l=>obtain⟨y,rfl⟩:∃y,x=y+1:=⟨x-1,by have:=hp x (B1 ..);omega⟩;exact⟨_,by rw[Rn.modsN,D4,P2]⟩
 obtain⟨k,hk⟩:=begins l hp hlo;have hk2:∃k,Rn.modsN true l=k++[true]:=by obtain⟨k2,hk2⟩:=begins l.reverse (fun x hx=>hp x (SF.1 hx)) (by rw[P4];exact hlo);have:=Rn.modsN_rev l true;unfold Rn.lastB at this;rw[G0 hlo,hk2]at this;refine⟨k2.reverse,?_⟩;have h3:=R0 List.reverse this;rw[SE,R8]at h3;exact h3
 obtain⟨g1,g2,g3⟩:=Rn.row_parts a b (Rn.modsN true l) ⟨k,hk⟩ hk2;refine⟨?_,g1,g2,?_⟩;·show(Rn.widthsN _).map _=_;rw[Rn.runs_of l hp (quiet (Rn.modsN true l) a b) g3]
 ·intro h;have h2:Rn.core (quiet (Rn.modsN true l) a b)=Rn.modsN true l:=g3;rw[h2,hk]at h;cases h
def widthsOf (v:Int):List Int:=if v=106 then Cc.stopP else Cc.pats.getD v.toNat []
theorem pats_ok:(List.range 106).all (fun n=>decide ((widthsOf n).length=6)&&(widthsOf n).all (fun x=>decide (1<=x)&&decide (x<=4))&&decide (Cc.valOf (widthsOf n)=some n)&&decide ((widthsOf n).foldl (·+·) 0=11))=true:=Y1
theorem pat_ok {v:Int} (h0:0<=v) (h1:v<=105):(widthsOf v).length=6∧(∀x∈widthsOf v,1<=x∧x<=4)∧Cc.valOf (widthsOf v)=some v.toNat∧Rn.sum (widthsOf v)=11:=by obtain⟨n,rfl⟩:∃n:Nat,v=(n:Int):=⟨v.toNat,by omega⟩;have h2:=S1.1 pats_ok n (N4.2 C0);rw[N1,N1,N1]at h2;obtain⟨⟨⟨k1,k2⟩,k3⟩,k4⟩:=h2;refine⟨N3 k1,fun x hx=> ?_,N3 k3,N3 k4⟩;have:=S1.1 k2 x hx;rw[N1]at this;exact⟨N3 this.1,N3 this.2⟩
def allW (vs:List Int):List Int:=vs.flatMap widthsOf
theorem allW_len:∀(vs:List Int),(∀v∈vs,0<=v∧v<=105)->(allW vs).length=6*vs.length
 | [],_=>rfl
 |v::vs,h=>by have h1:=h v (B1 ..);show(widthsOf v++allW vs).length=_;rw[O0,(pat_ok h1.1 h1.2).1,allW_len vs fun x hx=>h x (C1 _ hx),S0];omega
theorem allW_pos:∀(vs:List Int),(∀v∈vs,0<=v∧v<=106)->∀x∈allW vs,1<=x∧x<=4:=by
 intro vs h x hx;obtain⟨v,hv,hx⟩:=List.mem_flatMap.1 hx;have h1:=h v hv;by_cases h6:v=106;·subst h6;have:∀x∈widthsOf 106,1<=x∧x<=4:=J0;exact this x hx
 ·exact(pat_ok h1.1 C0).2.1 x hx
theorem allW_sum:∀(vs:List Int),(∀v∈vs,0<=v∧v<=105)->Rn.sum (allW vs)=11*vs.length
 | [],_=>rfl
 |v::vs,h=>by have h1:=h v (B1 ..);show Rn.sum (widthsOf v++allW vs)=_;rw[Rn.sum_app,(pat_ok h1.1 h1.2).2.2.2,allW_sum vs fun x hx=>h x (C1 _ hx),S0];omega
theorem vals_go:∀(vs:List Int) (r:List Int),(∀v∈vs,0<=v∧v<=105)->Cc.valsGo vs.length (allW vs++r)=some vs
 | [],r,_=>rfl
 |v::vs,r,h=>by have h1:=h v (B1 ..);obtain⟨k1,_,k3,_⟩:=pat_ok h1.1 h1.2;show Cc.valsGo (vs.length+1) ((widthsOf v++allW vs)++r)=_;rw[G1];unfold Cc.valsGo;have e1:(widthsOf v++(allW vs++r)).take 6=widthsOf v:=(by rw[<-k1];exact P6);have e2:(widthsOf v++(allW vs++r)).drop 6=allW vs++r:=(by rw[<-k1];exact B5);rw[e1,e2,k3];dsimp only;rw[vals_go vs r fun x hx=>h x (C1 _ hx)];show some (((v.toNat:Nat):Int)::vs)=_;rw[Int.toNat_of_nonneg h1.1]
theorem chkGo_rng:∀(l:List Int) (i:Nat) (s:Int),0<=s->s<=105->0<=Cc.chkGo i s l∧Cc.chkGo i s l<=105
 | [],_,s,h0,h1=>⟨h0,h1⟩
 |v::r,i,s,_,_=>by unfold Cc.chkGo;exact chkGo_rng r _ _ (Int.emod_nonneg _ C0) (by have:=Int.emod_lt_of_pos (s+(i:Int)*v) (show(0:Int)<103 by omega);omega)
theorem values_is {cs:List Int} (hc:∀c∈cs,okC c) (hl:cs.length<=4096):∃vs:List Int,values cs=vs++[106]∧2<=vs.length∧vs.length<=3*cs.length+2∧(∀v∈vs,0<=v∧v<=105)∧(cs≠ []->3<=(values cs).length)∧Cc.chars (values cs)=(cs,0):=by
 obtain⟨s,p,h2,h4,hb,hrun,hlen,hrng⟩:=body_is hc hl;have hbr:∀v∈body cs,0<=v∧v<=105:=by rw[hb];intro v hv;rcases U1.1 hv with rfl|hv;(·omega);·have:=hrng v hv;omega
 have hb0:(body cs).getD 0 0=(s:Int)+101:=by rw[hb];rfl
 have hck:0<=Cc.chk (body cs)∧Cc.chk (body cs)<=105:=by unfold Cc.chk;rw[hb0];exact chkGo_rng _ _ _ C0 C0
 have hbl:(body cs).length=p.length+1:=by rw[hb];rfl
 have hv:values cs=(body cs++[Cc.chk (body cs)])++[106]:=by unfold values;rw[G1];rfl
 have hall:∀v∈body cs++[Cc.chk (body cs)],0<=v∧v<=105:=by intro v hv;rcases M2.1 hv with hv|hv;(·exact hbr v hv);·rw[Y2]at hv;subst hv;exact hck
 have hvl:(values cs).length=p.length+3:=by rw[hv];simp[hbl]
 refine⟨body cs++[Cc.chk (body cs)],hv,by simp[hbl],by simp[hbl];omega,hall,fun _=>by omega,?_⟩;unfold Cc.chars;have hany:(values cs).any (fun v=>decide (v<0) || decide (106<v))=false:=by rw[S8];intro v hv2;rw[hv]at hv2;have:0<=v∧v<=106:=(by rcases M2.1 hv2 with h|h;(·have:=hall v h;omega);·rw[Y2]at h;omega);rw[D1 C0,D1 C0];simp
 have hg0:(values cs).getD 0 0=(s:Int)+101:=by rw[hv,hb];rfl
 have hg1:(values cs).getD ((values cs).length-1) 0=106:=by rw[hvl,hv,A1,XE (by simp[hbl])];simp[hbl]
 have hg2:(values cs).getD ((values cs).length-2) 0=Cc.chk (body cs):=by rw[hvl,hv,A1,YA (by simp[hbl]),XE (by simp[hbl])];simp[hbl]
 have hg3:(values cs).take ((values cs).length-2)=body cs:=by rw[hvl,hv,G1,X9 C0,P1 C0]
 rw[D0 (by rw[hany];exact VG),D0 C0,hg0,D0 C0,hg1,D0 L0,hg2,hg3,D0 L0,hb];have e:((s:Int)+101-103).toNat=s-2:=by omega
 rw[e];show(match Cc.runC (s-2) false [] p with
  |none=>(([]:List Int),(22:Int))
  |some o=>(o,0))=_
 rw[hrun]
def row (cs:List Int):List Bool:=quiet (Rn.mods true (allW (values cs))) 10 10
theorem row_dec {cs:List Int} (hc:∀c∈cs,okC c) (hl:cs.length<=4096):Cc.dec (row cs)=(cs,0):=by
 obtain⟨vs,hv,h2,_,hall,_,hch⟩:=values_is hc hl;have e0:allW (values cs)=allW vs++Cc.stopP:=by rw[hv];unfold allW;rw[VJ];congr 1
 have hpos:∀x∈allW (values cs),1<=x:=fun x hx=>(allW_pos _ (by intro v h;rw[hv]at h;rcases M2.1 h with h|h;(·have:=hall v h;omega);·rw[Y2]at h;omega) x hx).1;have hlen:(allW (values cs)).length=6*vs.length+7:=by rw[e0,O0,allW_len vs hall];rfl
 obtain⟨g1,g2,g3,g4⟩:=widths_quiet hpos C0 10 10;unfold Cc.dec row;rw[D0 g4,g1,g2,g3,hlen];have e1:6*vs.length+7-7=6*vs.length:=by omega
 rw[D0 C0,D0 C0,e1,e0];have e2:(allW vs++Cc.stopP).drop (6*vs.length)=Cc.stopP:=by rw[<-allW_len vs hall];exact B5
 have e3:6*vs.length/6=vs.length:=by omega
 rw[e2,D0 L0,e3,vals_go vs _ hall];dsimp only;rw[<-hv,hch]
end Cs
end
section
open Go.RowKit
def optV (o:Option Int):Value:=.tuple #[.int .i64 (o.getD 0),.bool o.isSome]
theorem NQ (c p:Int) (s:Nat) (w:World) (hp:p=(s:Int)) (hs:s=2∨s=3∨s=4) (h0:0<=c) (h1:c<=259):
 Calls prog 243 #[.int .i64 c,.int .i64 p] w fun e w'=>e=.returned (optV (Cs.valOf c s))∧w=w':=by
 rcases hs with rfl|rfl|rfl
 ·obtain rfl:p=2:=hp;by_cases a:c<32;(·have HF:Hid (Cs.valOf c 2=some (c+64)):=B0 (by unfold Cs.valOf;rw[G0 ⟨rfl,a⟩]);exact QO);·by_cases b:c<=95;(·have HF:Hid (Cs.valOf c 2=some (c-32)):=B0 (by unfold Cs.valOf;rw[D0 (fun h=>a h.2),G0 (.inl ⟨rfl,b⟩)]);exact QO);·have HF:Hid (Cs.valOf c 2=none):=B0 (by unfold Cs.valOf;rw[D0 (fun h=>a h.2),D0 C0]);exact QO
 ·obtain rfl:p=3:=hp;by_cases a:32<=c;(·by_cases b:c<128;(·have HF:Hid (Cs.valOf c 3=some (c-32)):=B0 (by unfold Cs.valOf;rw[D0 C0,G0 (.inr ⟨rfl,a,b⟩)]);exact QO);·exact EO);·exact EO
 ·obtain rfl:p=4:=hp;have HF:Hid (Cs.valOf c 4=none):=B0 EP;exact QO
theorem gH (c p:Int) (s:Nat) (w:World) (hp:p=(s:Int)) (hs:s=2∨s=3∨s=4):
 Calls prog 245 #[.int .i64 c,.int .i64 p] w fun e w'=>e=.returned (optV (Cs.fnOf c s))∧w=w':=by
 have HF:=B0 (Cs.fnOf.eq_1 c s)
 generalize Cs.fnOf c s=res at*
 by_cases a:c=256
 ·subst a;rw[G0 rfl]at HF;exact VK
 rw[D0 a]at HF
 have z6:(c==256)=false:=V0.2 a
 by_cases hs4:s=4
 ·subst hs4;obtain rfl:p=4:=hp;rw[G0 rfl]at HF;clear a;exact VK
 rw[D0 hs4]at HF
 have z4:(p==4)=false:=V0.2 C0
 by_cases b:c=257
 ·subst b;rw[G0 rfl]at HF;clear a hs4 hp;exact VK
 rw[D0 b]at HF
 have z7:(c==257)=false:=V0.2 b
 by_cases d:c=258
 ·subst d;rw[G0 rfl]at HF;clear a b hs4 hp;exact VK
 rw[D0 d]at HF
 have z8:(c==258)=false:=V0.2 d
 by_cases hs2:s=2
 ·subst hs2;obtain rfl:p=2:=hp;rw[G0 rfl]at HF;clear a b d hs4 z4;exact VK
 obtain rfl:s=3:=by omega
 obtain rfl:p=3:=hp
 rw[D0 hs2]at HF
 clear a b d hs4 z4 hs2
 go_enter func245,ntmps245
 go_wp2
 go_ret2
 exact⟨by rw[HF.out];rfl,rfl⟩
theorem NR (c:Int) (w:World):
 Calls prog 244 #[.int .i64 c] w fun e w'=>e=.returned (.bool (Cs.dig c))∧w=w':=by
 by_cases a:48<=c
 ·by_cases b:c<=57;(·have HF:Hid (Cs.dig c=true):=B0 (by unfold Cs.dig;rw[F1 a,F1 b];rfl);exact NS);·have HF:Hid (Cs.dig c=false):=B0 (by unfold Cs.dig;rw[D1 b,Bool.and_false]);exact NS
 ·have HF:Hid (Cs.dig c=false):=B0 (by unfold Cs.dig;rw[D1 a];rfl);exact NS
end
end Go.Proofs.YtbngggoccndefaaGreatDoor
