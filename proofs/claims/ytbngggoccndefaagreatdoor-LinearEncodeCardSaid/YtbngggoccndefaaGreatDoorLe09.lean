/-
  Laid.
-/
import Derived.Test.YtbngggoccndefaaGreatDoorLe08
set_option maxHeartbeats 8000000
set_option maxRecDepth 100000
set_option linter.all false
namespace Go.Proofs.Enc
open Go.Proofs.Tryz
section
namespace Hp
section
variable {α:Type} (lt:α->α->Bool)
def swap(l:List α)(i j:Nat):List α:=match l[i]?,l[j]? with
 |some a,some b=>(l.set i b).set j a
 |_,_=>l
def aEc(l:List α)(i j:Nat):(swap l i j).length=l.length:=by unfold swap;split<;>simp
def aHf{l:List α}{i j:Nat}{a b:α}(hi:l[i]? =some a)(hj:l[j]? =some b)(k:Nat):(swap l i j)[k]? =if k=j then some a else if k=i then some b else l[k]? :=by
 unfold swap;rw[hi,hj];have h1:=(N1.1 hi).1;have h2:=(N1.1 hj).1;dsimp only;by_cases Uf:k=j;·subst Uf;rw[G0 rfl,XD YU]
 .rw[D0 Uf,XE (λe=>Uf e.symm)];by_cases Oe:k=i;(·subst Oe;rw[G0 rfl,XD h1]);·rw[D0 Oe,XE (λe=>Oe e.symm)]
def swap_perm{l:List α}{i j:Nat}{a b:α}(hi:l[i]? =some a)(hj:l[j]? =some b):(swap l i j).Perm l:=by obtain⟨h1,e1⟩:=N1.1 hi;obtain⟨h2,e2⟩:=N1.1 hj;unfold swap;rw[hi,hj];dsimp only;subst e1 e2;exact List.set_set_perm h1 h2
def NL(l:List α)(c k:Nat):Prop:=∀a b,l[c]? =some a->l[k]? =some b->lt a b=false
structure Near (l:List α) (k0 i:Nat):Prop where
 up:∀k c,k0<=k->k≠i->(c=2*k+1\/c=2*k+2)->NL lt l c k
 over:∀k c,k0<=k->(i=2*k+1\/i=2*k+2)->(c=2*i+1\/c=2*i+2)->NL lt l c k
def Heap(l:List α)(k0:Nat):Prop:=∀k c,k0<=k->(c=2*k+1\/c=2*k+2)->NL lt l c k
def Heap.last(l:List α){k0:Nat}(h:l.length<=2*k0+1):Heap lt l k0:=by intro k c hk hc a b ha;have:=(N1.1 ha).1;omega
def Heap.near{l:List α}{k0:Nat}(h:Heap lt l (k0+1)):Near lt l k0 k0:=
 ⟨λk c hk k7 hc=>h k c C0 hc,λk c hk hi hc=>by omega⟩
def Heap.set{l:List α}{k0:Nat}(h:Heap lt l (k0+1))(x:α):Heap lt (l.set k0 x) (k0+1):=by intro k c hk hc a b ha hb;rw[XE C0]at ha hb;exact h k c hk hc a b ha hb
def Heap.weak{l:List α}{k0 k1:Nat}(h:Heap lt l k0)(hk:k0<=k1):Heap lt l k1:=λk c h1 hc=>h k c C0 hc
variable {lt}
def Near.done{l:List α}{k0 i:Nat}(h:Near lt l k0 i)(hi:∀c,(c=2*i+1\/c=2*i+2)->NL lt l c i):Heap lt l k0:=by
 intro k c hk hc;by_cases e:k=i;·subst e;exact hi c hc
 .exact h.up k c hk e hc
def Near.step(tr:∀a b c,lt a b=false->lt b c=false->lt a c=false)(asx:∀a b,lt a b=true->lt b a=false){l:List α}{k0 i j:Nat}(h:Near lt l k0 i)(Oe:k0<=i)(hj:j=2*i+1\/j=2*i+2){a b:α}(hi:l[i]? =some a)(hb:l[j]? =some b)(hlt:lt b a=true)
 (Jq:∀c,(c=2*i+1\/c=2*i+2)->∀x,l[c]? =some x->lt x b=false):Near lt (swap l i j) k0 j:=by
 have hs:=aHf hi hb;have Sp:i≠j:=by omega
 constructor
 .intro k c hk Uf hc x y hx hy;rw[hs]at hx hy;rw[D0 Uf]at hy;by_cases aCS:k=i;(·subst aCS;rw[G0 rfl]at hy;injection hy with hy;subst hy;by_cases Nf:c=j;(·rw[G0 Nf]at hx;injection hx with hx;subst hx;exact asx _ _ hlt);·rw[D0 Nf,D0 C0]at hx;exact Jq c hc x hx);·rw[D0 aCS]at hy;by_cases hci:c=i;(·subst hci;rw[D0 Sp,G0 rfl]at hx;injection hx with hx;subst hx;exact h.over k j hk hc hj _ _ hb hy);·by_cases Nf:c=j;(·omega);·rw[D0 Nf,D0 hci]at hx;exact h.up k c hk aCS hc x y hx hy
 .intro k c hk Ah hc x y hx hy;have e:k=i:=C0;subst e;rw[hs,D0 C0,D0 C0]at hx;rw[hs,D0 Sp,G0 rfl]at hy;injection hy with hy;subst hy;exact h.up j c C0 C0 hc x b hx hb
def Heap.root(tr:∀a b c,lt a b=false->lt b c=false->lt a c=false)(ir:∀a,lt a a=false){l:List α}(h:Heap lt l 0){r:α}(hr:l[0]? =some r):∀(n k:Nat),k<=n->∀x,l[k]? =some x->lt x r=false:=by
 intro n
 induction n with
 |zero=>intro k hk x hx;obtain rfl:k=0:=C0;rw[hr]at hx;injection hx with hx;subst hx;exact ir _
 |succ n ih=>intro k hk x hx;by_cases h0:k=0;(·subst h0;rw[hr]at hx;injection hx with hx;subst hx;exact ir _);·have Jo:=(N1.1 hx).1;have hp:(k-1)/2<l.length:=C0;have h1:=h ((k-1)/2) k (R0 _) C0 x _ hx (P0 hp);exact tr _ _ _ h1 (ih ((k-1)/2) C0 _ (P0 hp))
end
def nodup_le{α:Type} [DecidableEq α]:∀(l m:List α),l.Nodup->(∀x∈l,x∈m)->l.length<=m.length
 | [],_,_,_=>R0 _
 |x::l,m,hn,hs=>by rw[MH]at hn;have hx:=hs x (C2 ..);have:=nodup_le l (m.erase x) hn.2 λy hy=>(List.mem_erase_of_ne (λe=>hn.1 (by rw[<-e];exact hy))).2 (hs y (Y1 _ hy));rw[List.length_erase_of_mem hx]at this;have hp:0<m.length:=List.length_pos_of_mem hx;exact DP
structure Sh where
 ix:Int
 md:Int
 ct:Int
def Cn(a b:Sh):Bool:=if a.ct=b.ct then decide (a.ix<b.ix)else decide (a.ct<b.ct)
def lessS_tr(a b c:Sh)(h1:Cn a b=false)(h2:Cn b c=false):Cn a c=false:=by unfold Cn at*;split at h1<;>split at h2<;>split<;>simp at* <;>omega
def lessS_as(a b:Sh)(h:Cn a b=true):Cn b a=false:=by unfold Cn at*;split at h<;>split<;>simp at* <;>omega
def aER(a:Sh):Cn a a=false:=by unfold Cn;simp
structure Que (s t:Int) (ws ms:List Int) (q:List Sh):Prop where
 len:q.length=ws.length
 ml:ms.length=ws.length
 nod:(q.map (·.ix)).Nodup
 at_:∀x∈q,∃(k:Nat)(m w:Int),x.ix=(k:Int)/\ms[k]? =some m/\ws[k]? =some w/\x.md=m/\x.ct=2*Rn.Fx s t m w+s
def Que.perm{s t:Int}{ws ms:List Int}{q q':List Sh}(h:Que s t ws ms q)(hp:q'.Perm q):Que s t ws ms q':=
 ⟨hp.length_eq.trans h.len,h.ml,(hp.map _).nodup_iff.2 h.nod,λx hx=>h.at_ x (hp.mem_iff.1 hx)⟩
def Que.has{s t:Int}{ws ms:List Int}{q:List Sh}(h:Que s t ws ms q){k:Nat}(hk:k<ws.length):∃x∈q,x.ix=(k:Int):=by
 have key:∀(l:List Int)(n:Nat),l.Nodup->l.length=n->(∀x∈l,0<=x/\x<(n:Int))->∀k:Nat,k<n->(k:Int)∈l:=by intro l n hn hl hb k hk;by_cases hm:(k:Int)∈l;(·exact hm);·exfalso;have hkm:(k:Int)∈(List.range n).map (λ(i:Nat)=>(i:Int)):=I5.2 ⟨k,P5.2 hk,rfl⟩;have h1:=nodup_le l (((List.range n).map (λ(i:Nat)=>(i:Int))).erase (k:Int)) hn (λx hx=>by have:=hb x hx;refine(List.mem_erase_of_ne (λe=>hm (by rw[<-e];exact hx))).2 (I5.2 ⟨x.toNat,P5.2 C0,by omega⟩));rw[List.length_erase_of_mem hkm,M0,R6]at h1;omega
 have hm:=key (q.map (·.ix)) ws.length h.nod (by rw[M0,h.len]) (λx hx=>by obtain⟨y,hy,rfl⟩:=I5.1 hx;obtain⟨k,m,w,e,h1,h2,_⟩:=h.at_ y hy;have:=(N1.1 h2).1;omega) k hk;obtain⟨x,hx,e⟩:=I5.1 hm;exact⟨x,hx,e⟩
def Que.least{s t:Int}{ws ms:List Int}{q:List Sh}(h:Que s t ws ms q){r:Sh}(hr:q[0]? =some r)(hh:Heap Cn q 0):∃(k:Nat)(m w:Int),r.ix=(k:Int)/\Rn.least s t ms ws=k/\ms[k]? =some m/\ws[k]? =some w/\r.md=m/\r.ct=2*Rn.Fx s t m w+s:=by
 obtain⟨k,m,w,e1,e2,e3,e4,e5⟩:=h.at_ r (L1 hr);have key:∀(j:Nat)(m' w':Int),ms[j]? =some m'->ws[j]? =some w'->∃x,Cn x r=false/\x.ix=(j:Int)/\x.ct=2*Rn.Fx s t m' w'+s:=by intro j m' w' hm hw;obtain⟨x,hx,Ue⟩:=h.has (N1.1 hw).1;obtain⟨j2,m2,w2,f1,f2,f3,f4,f5⟩:=h.at_ x hx;have:j2=j:=C0;subst this;rw[hm]at f2;rw[hw]at f3;injection f2 with f2;injection f3 with f3;subst f2 f3;obtain⟨i,hi⟩:=DQ hx;exact⟨x,hh.root lessS_tr aER hr i i (J0 _) x hi,f1,f5⟩
 refine⟨k,m,w,e1,Rn.least_is h.ml e2 e3 ?_ ?_,e2,e3,e4,e5⟩;·intro j m' w' hm hw;exact rE
 .intro j m' w' hj hm hw;exact rE
def Que.give{s t:Int}{ws ms:List Int}{q:List Sh}(h:Que s t ws ms q){r:Sh}(hr:q[0]? =some r){k:Nat}{m:Int}(hk:r.ix=(k:Int))(hm:ms[k]? =some m):
 Que s t ws (ms.set k (m+1)) (q.set 0 ⟨r.ix,r.md+1,r.ct+2*s⟩):=by
 obtain⟨q',rfl⟩:∃q',q=r::q':=by
  cases q with
  |nil=>simp at hr
  |cons a q'=>simp at hr;subst hr;exact⟨q',rfl⟩
 refine⟨by rw[P6];exact h.len,by rw[P6];exact h.ml,?_,?_⟩
 .have:=h.nod;exact I6
 .intro x hx;simp only[E6,E2]at hx;have hnd:=h.nod;rw[M4,MH]at hnd;rcases hx with rfl|hx;(·obtain⟨k2,m2,w2,e1,e2,e3,e4,e5⟩:=h.at_ r (C2 ..);have:k2=k:=C0;subst this;rw[hm]at e2;injection e2 with e2;subst e2;refine⟨k2,m+1,w2,hk,XD (N1.1 hm).1,e3,by dsimp only;omega,?_⟩;dsimp only;unfold Rn.Fx at*;rw[e5,Int.mul_add];omega);·obtain⟨k2,m2,w2,e1,e2,e3,e4,e5⟩:=h.at_ x (Y1 _ hx);have k7:k≠k2:=(by intro e;subst e;exact hnd.1 (I5.2 ⟨x,hx,by rw[e1,hk]⟩));exact⟨k2,m2,w2,e1,by rw[XE k7];exact e2,e3,e4,e5⟩
end Hp
namespace Hp
def start(s t:Int)(ws:List Int):List Sh:=(List.range ws.length).map λ(i:Nat)=>⟨(i:Int),1,3*s-2*t*ws.getD i 0⟩
def aBV(s t:Int)(ws:List Int):(start s t ws).length=ws.length:=by unfold start;rw[M0,R6]
def aEb(s t:Int){ws:List Int}{i:Nat}{w:Int}(h:ws[i]? =some w):(start s t ws)[i]? =some ⟨(i:Int),1,3*s-2*t*w⟩:=by have hl:=(N1.1 h).1;unfold start;rw[B3,EA hl,YS,F1,h];rfl
def nodup_cast(n:Nat):((List.range n).map λ(i:Nat)=>(i:Int)).Nodup:=by rw[List.nodup_iff_pairwise_ne,List.pairwise_map];exact List.nodup_range.imp (λh e=>h C0)
def Que.start(s t:Int)(ws:List Int):Que s t ws (List.replicate ws.length 1) (start s t ws):=by
 refine⟨aBV s t ws,M2,?_,?_⟩;·unfold Hp.start;rw[K7];exact nodup_cast ws.length
 .intro x hx;obtain⟨i,hi⟩:=DQ hx;have hl:i<ws.length:=(by have:=(N1.1 hi).1;rw[aBV]at this;exact L3);rw[aEb s t (P0 hl)]at hi;injection hi with hi;subst hi;refine⟨i,1,ws[i],rfl,?_,P0 hl,rfl,?_⟩;(·rw[MI,G0 hl]);·dsimp only;unfold Rn.Fx;have:2*t*ws[i]=2*(t*ws[i]):=Int.mul_assoc ..;omega
def Got(ms:List Int)(q:List Sh)(j:Nat)(out:List Int):Prop:=out.length=ms.length/\∀(i:Nat)(x:Sh)(k:Nat),i<j->q[i]? =some x->x.ix=(k:Int)->out[k]? =ms[k]?
def Got.zero{ms:List Int}{q:List Sh}{out:List Int}(h:out.length=ms.length):Got ms q 0 out:=⟨h,λi x k hi=>by omega⟩
def Got.next{ms:List Int}{q:List Sh}{j:Nat}{out:List Int}(h:Got ms q j out){x:Sh}(hx:q[j]? =some x){k:Nat}(hk:x.ix=(k:Int))(hm:ms[k]? =some x.md):Got ms q (j+1) (out.set k x.md):=by
 refine⟨by rw[P6];exact h.1,λi y k2 hi hy Dy=> ?_⟩;by_cases e:k=k2;·subst e;have:=(N1.1 hm).1;rw[XD (by rw[h.1];exact this),hm]
 .rw[XE e];by_cases Sp:i=j;(·subst Sp;rw[hx]at hy;injection hy with hy;subst hy;omega);·exact h.2 i y k2 C0 hy Dy
def Got.all{s t:Int}{ws ms:List Int}{q:List Sh}(hq:Que s t ws ms q){j:Nat}{out:List Int}(h:Got ms q j out)(hj:q.length<=j):out=ms:=by
 apply Y8;intro k;by_cases hk:k<ws.length;·obtain⟨x,hx,e⟩:=hq.has hk;obtain⟨i,hi⟩:=DQ hx;have:=(N1.1 hi).1;exact h.2 i x k C0 hi e
 .rw[Y6 (by rw[h.1,hq.ml];omega),Y6 (by rw[hq.ml];omega)]
def give_last(s t:Int)(ws:List Int):∀(n:Nat)(ms:List Int),Rn.give s t ws (n+1) ms=(λl=>l.set (Rn.least s t l ws) (l.getD (Rn.least s t l ws) 0+1)) (Rn.give s t ws n ms)
 |0,ms=>rfl
 |n+1,ms=>by rw[Rn.give,give_last s t ws n];rfl
def Few(n:Nat)(ms:List Int):Prop:=∀m∈ms,1<=m/\m<=(n:Int)+1
def Few.ones(n:Nat):Few 0 (List.replicate n 1):=λm hm=>by obtain rfl:=(List.mem_replicate.1 hm).2;omega
def Few.give{n:Nat}{ms:List Int}(h:Few n ms){k:Nat}{m:Int}(hm:ms[k]? =some m):Few (n+1) (ms.set k (m+1)):=λx hx=>by
 have h1:=h m (L1 hm);rcases List.mem_or_eq_of_mem_set hx with hx|rfl;·have:=h x hx;omega
 .omega
end Hp
end
section
open Go.RowKit
def Rn.rest(n:Nat):List Bool->List Nat
 | []=>[]
 |c::r=>Rn.runsGo c (n+1) r
def Rn.aHY(n:Nat)(c:Bool):Rn.rest n [c]=[n+1]:=rfl
def Rn.aHZ(n:Nat)(c d:Bool)(r:List Bool):Rn.rest n (c::d::r)=if d=c then Rn.rest (n+1) (d::r)else(n+1)::Rn.rest 0 (d::r):=by
 show Rn.runsGo c (n+1) (d::r)=if d=c then Rn.runsGo d (n+1+1) r else(n+1)::Rn.runsGo d (0+1) r;rw[Rn.runsGo];by_cases h:d=c;·rw[G0 h,G0 h,h]
 .rw[D0 h,D0 h]
def Rn.aHX(m:List Bool):Rn.widthsN m=Rn.rest 0 ((m.take (m.length-Ea.Ac m)).drop (Ea.ldg m)):=by
 have e:(m.take (m.length-Ea.Ac m)).drop (Ea.ldg m)=Rn.core m:=by unfold Rn.core;rw[NV]
 rw[e];unfold Rn.widthsN Rn.rest;cases Rn.core m<;>rfl
def Rn.aEQ(m:List Bool):Ea.ldg m<=m.length/\Ea.Ac m<=m.length:=by refine⟨Rn.ldg_le m,?_⟩;unfold Ea.Ac;have:=Rn.ldg_le m.reverse;rwa[D6]at this
def rM(v:Int)(s:Nat)(w:World)(hv: -1000<=v/\v<=1000)(hs:s<=2):
 Calls prog 255 #[.int .i64 v,.int .i64 ((s:Int)+2)] w λe w'=>e=.returned (.int .i64 (Cc.chOf v s))/\w=w':=by
 obtain⟨res,j7⟩:∃res,res=Cc.chOf v s:=⟨_,rfl⟩;rw[<-j7];unfold Cc.chOf at j7;obtain⟨p,hp⟩:∃p:Int,p=(s:Int)+2:=⟨_,rfl⟩;rw[<-hp];by_cases h0:s=0
 .have z0:(p==2)=true:=I1.2 C0;by_cases h6:64<=v;(·rw[G0 ⟨h0,h6⟩]at j7;exact rN);·rw[D0 C0]at j7;have HR:=B0 j7;have h7:v<64:=C0;clear j7 h0 hp h6;go_enter func255,ntmps255;exact MO
 .have z0:(p==2)=false:=O0.2 C0;rw[D0 C0]at j7;exact rN
def MP(v:Int)(w:World)(hv: -1000<=v/\v<=1000):
 Calls prog 185 #[.int .i64 v] w λe w'=>e=.returned (.int .i64 (2+v-103))/\w=w':=by
 go_enter func185,ntmps185;go_wp2;go_ret;exact⟨rfl,rfl⟩
def Cc.chkTo(vs:List Int):Nat->Int
 |0=>vs.getD 0 0
 |i+1=>(Cc.chkTo vs i+(i:Int)*vs.getD i 0)%103
def Cc.chkGo_to(vs:List Int):∀(r:List Int)(i:Nat)(s:Int),s=Cc.chkTo vs i->r=vs.drop i->i<=vs.length->Cc.chkGo i s r=Cc.chkTo vs vs.length
 | [],i,s,hs,hr,hi=>by have:vs.length=i:=(by have:=V0 List.length hr;exact W6);rw[Cc.chkGo,hs,this]
 |v::r,i,s,hs,hr,hi=>by have Ev:i<vs.length:=(by have:=V0 List.length hr;exact W6);rw[F5 Ev]at hr;injection hr with h1 h2;rw[Cc.chkGo];refine Cc.chkGo_to vs r (i+1) _ ?_ h2 Ev;rw[hs,Cc.chkTo,h1,F1,P0 Ev];rfl
def Cc.aDT(vs:List Int):Cc.Bk vs=Cc.chkTo vs vs.length:=Cc.chkGo_to vs vs 0 _ rfl rfl (R0 _)
def Cc.chkTo_in(vs:List Int)(h:∀v∈vs,0<=v/\v<=106):∀i,0<=Cc.chkTo vs i/\Cc.chkTo vs i<=106
 |0=>by
  rw[Cc.chkTo]
  cases vs with
  |nil=>exact⟨by decide,by decide⟩
  |cons v r=>exact h v (C2 ..)
 |i+1=>by rw[Cc.chkTo];omega
def rO(v:Value)(vs:List Int)(w:World)(hv:Sl w v (vs.map encI))(hl:vs.length<=1000000)(k7:0<vs.length)(hb:∀v∈vs,0<=v/\v<=106):
 Calls prog 187 #[v] w λe w'=>e=.returned (.int .i64 (Cc.Bk vs))/\w=w':=by
 obtain⟨a,c,rfl⟩:=hv.form;rw[M0]at hv⊢;obtain⟨n,hn⟩:∃n,n=vs.length:=⟨_,rfl⟩;rw[<-hn]at hv hl k7⊢;obtain⟨x0,n9⟩:∃x,vs[0]? =some x:=⟨_,P0 (by rw[<-hn];exact k7)⟩;obtain⟨b,o,ha,Ce,hc⟩:=Sl.Af hv (Ext.refl w) n9;subst ha;rw[Nat.add_zero]at hc;have hbx:=hb x0 (L1 n9);have HN:=B0 hn;have HV:=B0 hv;have HB:=B0 hb;have Ia:=B0 (Cc.chkTo_in vs hb);have Cj:Hid (x0=Cc.chkTo vs 0):=B0 rP;have We:(0:Int)<(n:Int):=by omega
 have HR:=B0 (Cc.aDT vs);rw[<-hn]at HR;generalize Cc.Bk vs=res at*;clear hv hn n9 hb;go_enter func187,ntmps187;go_wp2_with fail;go_loop [3,11] (λs i=>∃(j:Nat)(t:Int),j<=n/\i=.int .i64 (j:Int)/\s=.int .i64 t/\0<=t/\t<=106/\Hid (t=Cc.chkTo vs j)) (λ_ i=>n-(intOf i).toNat)
 case atStart=>exact⟨0,x0,R0 _,rfl,rfl,hbx.1,hbx.2,Cj⟩
 case round=>obtain⟨j,t,hj,rfl,rfl,Ko,Je,HT⟩:=hrel;by_cases hlt:j<n;(·obtain⟨x,l9⟩:∃x,vs[j]? =some x:=⟨_,P0 X3⟩;obtain⟨b',o',ha,Kh,Nf⟩:=HV.out.Af (Ext.refl w) l9;injection ha with ha;injection ha with h1 h2;subst h1 h2;have Lh:=HB.out x (L1 l9);have Bx:(j:Int)<(n:Int):=C0;obtain⟨p,hp⟩:∃p,p=(j:Int)*x:=⟨_,rfl⟩;have hp0:0<=p:=(by rw[hp];exact S8 C0 Lh.1);have Jd:p<=106000000:=(by rw[hp];have h1:(j:Int)*x<=(j:Int)*106:=rQ Lh.2 C0;omega);have Yp:=hp.symm;obtain⟨t2,Uj⟩:∃t2,t2=(t+p)%103:=⟨_,rfl⟩;have Ad:Hid (t2=Cc.chkTo vs (j+1)):=B0 (by rw[Uj,Cc.chkTo,<-HT.out,hp,F1,l9];rfl);have hq:=Uj.symm;have Ht:0<=t2:=C0;have Ii:t2<=106:=C0;clear l9 hp Uj;go_wp2;go_round;(case rel=>exact⟨j+1,t2,by omega,by go_num,by first|rfl|(rw[<-hq])|(simp[hq]),Ht,Ii,Ad⟩);case measure=>exact Qr);·obtain rfl:j=n:=C0;have HE:Hid (res=t):=B0 (by rw[HR.out,HT.out]);clear hj hlt;exact TG
def ZiB(v u:Value)(xs ys:List Int)(w:World)(hv:Sl w v (xs.map encI))(hu:Sl w u (ys.map encI))(hl:xs.length<=1000000)(Ni:ys.length<=1000000):
 Calls prog 140 #[v,u] w λe w'=>e=.returned (.bool (decide (xs=ys)))/\∃n,w'=w.drewN n:=by
 obtain⟨a,c,rfl⟩:=hv.form;obtain⟨a2,c2,rfl⟩:=hu.form;simp only[M0]at hv hu⊢;obtain⟨n,hn⟩:∃n,n=xs.length:=⟨_,rfl⟩;obtain⟨m,hm⟩:∃m,m=ys.length:=⟨_,rfl⟩;rw[<-hn]at hv hl⊢;rw[<-hm]at hu Ni⊢;have HN:=B0 hn;have HM:=B0 hm;have HV:=B0 hv;have HU:=B0 hu;obtain⟨res,j7⟩:∃res,res=decide (xs=ys):=⟨_,rfl⟩;rw[<-j7];have HR:=B0 j7;clear hv hu hn hm j7;by_cases hnm:n=m
 .subst hnm;go_enter func140,ntmps140;go_wp2;go_loopw [13] (λi wr=>∃j:Nat,j<=n/\i=.int .i64 (j:Int)/\Hid (xs.take j=ys.take j)/\Hid (∃q,wr=w.drewN q)) (λi _=>n-(intOf i).toNat);(case atStart=>exact⟨0,R0 _,rfl,B0 rfl,B0 ⟨0,rfl⟩⟩);case round=>obtain⟨j,hj,rfl,HT,HQ⟩:=hrel;have n8:Ext w wr:=(by obtain⟨q,h⟩:=HQ.out;rw[h];exact(Ext.refl _).drewN _);have Ee:Hid (∀k,∃q,wr.drewN k=w.drewN q):=B0 (λk=>by obtain⟨q,h⟩:=HQ.out;exact⟨q+k,by rw[h,World.drewN_drewN]⟩);by_cases hlt:j<n;(·obtain⟨x,l9⟩:∃x,xs[j]? =some x:=⟨_,P0 X3⟩;obtain⟨y,Ul⟩:∃y,ys[j]? =some y:=⟨_,P0 (by rw[<-HM.out];exact hlt)⟩;obtain⟨b,o,ha,hb,hc⟩:=HV.out.Af n8 l9;subst ha;obtain⟨b2,o2,IB,n7,IS⟩:=HU.out.Af n8 Ul;subst IB;have Bx:(j:Int)<(n:Int):=C0;by_cases hxy:x=y;(·subst hxy;have Ad:Hid (xs.take (j+1)=ys.take (j+1)):=B0 (by rw[Z5 l9,Z5 Ul,HT.out]);clear l9 Ul HT;go_wp2_with fail;go_quiet (fail);go_wp2_with fail;go_roundw;(case rel=>exact⟨j+1,by omega,by go_num,Ad,B0 (Ee.out nq)⟩);case measure=>exact Qr);·have zx:(x==y)=false:=O0.2 hxy;have HF:Hid (res=false):=B0 (by rw[HR.out];refine G1 λe=>hxy ?_;rw[e,Ul]at l9;exact(DM l9).symm);clear l9 Ul HT hxy;go_wp2_with fail;go_quiet (fail);go_wp2_with fail;go_ret;exact⟨Zn HF.out.symm,Ee.out nq⟩);·obtain rfl:j=n:=C0;have HF:Hid (res=true):=B0 (by have h:=HT.out;rw[S1 P7,S1 (by rw[<-HM.out];exact J0 _)]at h;rw[HR.out];exact C1 h);clear hj hlt HT;go_wp2_with fail;go_ret;exact⟨Zn HF.out.symm,HQ.out⟩
 .have zn:((n:Int)==(m:Int))=false:=O0.2 C0;have HF:Hid (res=false):=B0 (by rw[HR.out];refine G1 λe=>hnm ?_;rw[HN.out,HM.out,e]);clear hnm;go_enter func140,ntmps140;go_wp2;go_ret;exact⟨Zn HF.out.symm,0,rfl⟩
def Rn.gcd_snoc{ws:List Int}{j:Nat}{x:Nat}(h:ws[j]? =some (x:Int))(hx:1<=x)(g:Nat):Rn.gcdGo g (ws.drop j)=Rn.gcdGo (Nat.gcd g x) (ws.drop (j+1)):=by obtain⟨h1,h2⟩:=N1.1 h;rw[F5 h1,h2,Rn.gcdGo,D0 C0];rfl
def Zm0(v:Value)(ws:List Int)(w:World)(hv:Sl w v (ws.map encI))(hl:ws.length<=1000000)(hw:∀x∈ws,1<=x/\x<=65536):
 Calls prog 153 #[v] w λe w'=>e=.returned (.int .i64 (Rn.unit ws))/\Ext w w':=by
 obtain⟨a,c,rfl⟩:=hv.form;rw[M0]at hv⊢;obtain⟨n,hn⟩:∃n,n=ws.length:=⟨_,rfl⟩;rw[<-hn]at hv hl⊢;have HN:=B0 hn;have HV:=B0 hv;have HW:=B0 hw;have HR:Hid (Rn.unit ws=Rn.gcdGo 0 (ws.drop 0)):=B0 rfl;generalize Rn.unit ws=res at*;clear hv hn hw;go_enter func153,ntmps153;go_wp2;go_loopw [3,8] (λu i wr=>∃(j g:Nat),j<=n/\i=.int .i64 (j:Int)/\u=.int .i64 (g:Int)/\g<=65536/\Hid (res=Rn.gcdGo g (ws.drop j))/\Hid (Ext w wr)) (λ_ i _=>n-(intOf i).toNat)
 case atStart=>exact⟨0,0,R0 _,rfl,rfl,by omega,HR,B0 (Ext.refl _)⟩
 case round=>obtain⟨j,g,hj,rfl,rfl,hg,HG,HX⟩:=hrel;by_cases hlt:j<n;(·obtain⟨x,l9⟩:∃x,ws[j]? =some x:=⟨_,P0 X3⟩;have hx:=HW.out x (L1 l9);obtain⟨m,rfl⟩:∃m:Nat,x=(m:Int):=⟨x.toNat,by omega⟩;obtain⟨b,o,ha,hb,hc⟩:=HV.out.Af HX.out l9;subst ha;have Bx:(j:Int)<(n:Int):=C0;have Be:1<=m:=C0;have Cl:m<=65536:=C0;have Rb:=B0 (HG.out.trans (Rn.gcd_snoc l9 Be g));obtain⟨G,hG⟩:∃G,G=Nat.gcd g m:=⟨_,rfl⟩;have hG9:G<=65536:=(by rw[hG];exact F3 (Nat.gcd_le_right g C0) Cl);rw[<-hG]at Rb;have HGG:=B0 hG;have hmI:¬(m:Int)<1:=C0;clear l9 hx hG;obtain⟨W0,hW0⟩:∃W0,W0=wr:=⟨_,rfl⟩;subst hW0;go_wp2_with fail;go_loopw [3,5] (λu y wq=>∃(p q:Nat),u=.int .i64 (p:Int)/\y=.int .i64 (q:Int)/\p<=65536/\q<=65536/\Hid (Nat.gcd p q=G)/\Hid (Ext w wq)) (λ_ y _=>(intOf y).toNat);(case atStart=>exact⟨g,m,rfl,rfl,hg,Cl,B0 HGG.out.symm,HX⟩);case round=>clear HX;obtain⟨p,q,rfl,rfl,hp,hq,HPQ,HX⟩:=hrel;by_cases Ht:0<q;(·have hqI:(0:Int)<(q:Int):=C0;have hqb:decide (0<q)=true:=C1 Ht;have hqn:(q:Int)≠0:=C0;have hqz:((q:Int)==0)=false:=O0.2 hqn;obtain⟨r,hr⟩:∃r,r=p%q:=⟨_,rfl⟩;have hrI:(p:Int)%(q:Int)=(r:Int):=(by rw[hr];rfl);have hrT:Int.tmod (p:Int) (q:Int)=(r:Int):=(by rw[hr];rfl);have hrq:r<q:=(by rw[hr];exact WZ _ Ht);have aEt:Hid (Nat.gcd q r=G):=B0 (by rw[<-HPQ.out,hr,Nat.gcd_comm p q,Nat.gcd_rec q p,Nat.gcd_comm]);clear hr;go_wp2_with fail;go_quiet (fail);go_wp2_with fail;go_roundw;(case rel=>exact⟨q,r,rfl,rfl,by omega,by omega,aEt,B0 (HX.out.drewN _)⟩);case measure=>exact Qr);·obtain rfl:q=0:=C0;have HPG:Hid (p=G):=B0 (by have h:=HPQ.out;rwa[Nat.gcd_zero_right]at h);clear Ht;go_wp2_with fail;go_roundw;(case rel=>exact⟨j+1,G,by omega,by go_num,by rw[HPG.out],hG9,Rb,HX⟩);case measure=>exact Qr);·obtain rfl:j=n:=C0;have HF:Hid (res=(g:Int)):=B0 (by have h:=HG.out;rw[O5 P7]at h;exact h);have Bj:=HX.out;clear hlt hj;go_wp2_with fail;go_ret;exact⟨Zo HF.out.symm,Bj⟩
def D5(r:List Int×Int)(w:World)(e:Ending)(w':World):Prop:=∃u,e=.returned (.tuple #[u,.int .i64 r.2])/\SlK w' u (r.1.map encI)/\Ext w w'
def D5.bad(c:Int)(w w':World)(h:Ext w w'):D5 ([],c) w (.returned (.tuple #[.slice none 0 0,.int .i64 c])) w':=
 ⟨_,rfl,⟨.inl ⟨rfl,_,_,rfl⟩,none,0,rfl,J0 _⟩,h⟩
def Cc.Uo{s s':Nat}{v:Int}{o:List Int}(h:Cc.stepC s false v=some (s',false,o))(out r:List Int):Cc.runC s false out (v::r)=Cc.runC s' false (out++o) r:=by rw[Cc.runC,h]
def Cc.aH2{s:Nat}{v:Int}(h:102<v)(out r:List Int):Cc.runC s false out (v::r)=none:=by rw[Cc.runC,Cc.stepC,D0 I0,G0 h]
def Cc.run_shift(s:Nat)(hs:s≠2)(out r:List Int):Cc.runC s false out (98::r)=Cc.runC s true out r:=by rw[Cc.runC,Cc.stepC,D0 I0,D0 I0,D0 I0,D0 C0,D0 I0,D0 I0,D0 I0,G0 rfl];dsimp only;rw[A3]
def Cc.aH3(s:Nat)(v:Int)(out r:List Int):Cc.runC s true out (v::r)=if 95<v then none else Cc.runC s false (out++[Cc.chOf v (1-s)]) r:=by
 rw[Cc.runC,Cc.stepC,G0 rfl];by_cases h:95<v;·rw[G0 h,G0 h]
 .rw[D0 h,D0 h]
def Cc.aHe(s:Nat):Cc.stepC s false 102=some (s,false,[256]):=by rw[Cc.stepC,D0 I0,D0 I0,G0 rfl]
def Cc.step_dig(v:Int)(h:v<=99):Cc.stepC 2 false v=some (2,false,[48+v/10,48+v%10]):=by rw[Cc.stepC,D0 I0,D0 C0,D0 C0,G0 ⟨rfl,h⟩]
def Cc.step_ch(s:Nat)(hs:s≠2)(v:Int)(h:v<=95):Cc.stepC s false v=some (s,false,[Cc.chOf v s]):=by rw[Cc.stepC,D0 I0,D0 C0,D0 C0,D0 C0,G0 h]
def Cc.step_96(s:Nat)(hs:s≠2):Cc.stepC s false 96=some (s,false,[258]):=by rw[Cc.stepC,D0 I0,D0 C0,D0 C0,D0 C0,D0 I0,G0 rfl]
def Cc.step_97(s:Nat)(hs:s≠2):Cc.stepC s false 97=some (s,false,[257]):=by rw[Cc.stepC,D0 I0,D0 C0,D0 C0,D0 C0,D0 I0,D0 I0,G0 rfl]
def Cc.step_99(s:Nat)(hs:s≠2):Cc.stepC s false 99=some (2,false,[]):=by rw[Cc.stepC,D0 I0,D0 C0,D0 C0,D0 C0,D0 I0,D0 I0,D0 I0,D0 I0,G0 rfl]
def Cc.step_100(s:Nat):Cc.stepC s false 100=some (if s≠1 then(1,false,[])else(s,false,[259])):=by
 rw[Cc.stepC,D0 I0,D0 C0,D0 C0,D0 C0,D0 I0,D0 I0,D0 I0,D0 I0,D0 I0];by_cases h:s≠1;·rw[G0 ⟨rfl,h⟩,G0 h]
 .rw[D0 (λx=>h x.2),D0 C0,D0 h]
def Cc.step_101(s:Nat):Cc.stepC s false 101=some (if s≠0 then(0,false,[])else(s,false,[259])):=by
 rw[Cc.stepC,D0 I0,D0 C0,D0 C0,D0 C0,D0 I0,D0 I0,D0 I0,D0 I0,D0 I0,D0 C0];by_cases h:s≠0;·rw[G0 ⟨rfl,h⟩,G0 h]
 .rw[D0 (λx=>h x.2),D0 h]
def DY{w:World}{ops:Array Oper}{rest:List Oper}{o:Oper}{a:Act}{Q:Exit->Act->World->Prop}(IG:o.guard=none)(s x:Operand)
 (ho:o.op=.call {callee:=.builtin .append,args:= #[s,x],argTypes:= #[43,43]})
 (B:Nat)(v:Value)(l:List Int)(hs:a.eval s=v)(b8:Own 3 w B v (l.map encI))(b:Nat)(u1 u2:Int)(hx:a.eval x=.slice (some ⟨b,0,none⟩) 2 2)
 (Am:w.cell? ⟨b,0,none⟩=some (encI u1))(IS:w.cell? ⟨b,1,none⟩=some (encI u2))(hn:l.length<=999999990)(hB:B<=w.heap.size)
 (h:∀v' w',Own 3 w' B v' ((l++[u1,u2]).map encI)->w.grownBy w' v.ownBlock->wpList prog ops Q rest (a.put o.dst v') w'):wpList prog ops Q (o::rest) a w:=
 ZS IG s x 43 3 (.int .i64 0) 8 ho underlying43 WP rfl I0 B v _ hs b8 b 0 2 2 [encI u1,encI u2] hx rfl
  (λj u hu=>by
   match j,hu with
   |0,hu=>simp at hu;subst hu;exact Am
   |1,hu=>simp at hu;subst hu;exact IS) (λu hu=>by simp at hu;rcases hu with rfl|rfl<;>rfl) J5 hB
  (λv' w' h1 h2=>h v' w' WO h2)
def Zg4(v:Value)(vs:List Int)(s0:Nat)(w:World)(hv:Sl w v (vs.map encI))(hl:vs.length<=400000)(IC:s0<=2)(hb:∀v∈vs,0<=v/\v<=106):
 Calls prog 216 #[v,.int .i64 ((s0:Int)+2)] w (D5 (match Cc.runC s0 false [] vs with|none=>([],22)|some o=>(o,0)) w):=by
 obtain⟨a,c,rfl⟩:=hv.form;rw[M0]at hv⊢;obtain⟨n,hn⟩:∃n,n=vs.length:=⟨_,rfl⟩;rw[<-hn]at hv hl⊢;obtain⟨p0,hp0⟩:∃p:Int,p=(s0:Int)+2:=⟨_,rfl⟩;rw[<-hp0];have HN:=B0 hn;have HV:=B0 hv;have HB:=B0 hb;obtain⟨RC,hRC⟩:∃RC,RC=Cc.runC s0 false [] vs:=⟨_,rfl⟩;rw[<-hRC];have H0:Hid (RC=Cc.runC s0 false [] (vs.drop 0)):=B0 hRC;obtain⟨res,j7⟩:∃res,res=(match RC with|none=>([],22)|some o=>(o,(0:Int))):=⟨_,rfl⟩;rw[<-j7];have HR:=B0 j7;clear hv hn hb hRC j7;go_enter func216,ntmps216;go_wp2_with fail;go_loopw [1,6,7] (λpv u t wr=>∃(i s:Nat)(out:List Int),i<=n/\s<=2/\t=.int .i64 (i:Int)/\pv=.int .i64 ((s:Int)+2)/\out.length<=2*i/\Hid (RC=Cc.runC s false out (vs.drop i))/\Hid (Own 3 wr w.heap.size u (out.map encI))/\Hid (Ext w wr)) (λ_ _ t _=>n-(intOf t).toNat)
 case atStart=>exact⟨0,s0,[],R0 _,IC,rfl,by rw[hp0],R0 _,H0,B0 (Own.nil _ _ _),B0 (Ext.refl _)⟩
 case round=>clear hp0 IC H0;obtain⟨i,s,out,hi,hs,rfl,rfl,Nj,HC,HO,HX⟩:=hrel;obtain⟨p,hp⟩:∃p:Int,p=(s:Int)+2:=⟨_,rfl⟩;rw[<-hp];by_cases hlt:i<n;(·have Kl:(i:Int)<(n:Int):=C0;obtain⟨x,IY⟩:∃x,vs[i]? =some x:=⟨_,P0 X3⟩;obtain⟨b,o,ha,Ce,hc⟩:=HV.out.Af HX.out IY;subst ha;obtain⟨n9,b7⟩:=HB.out x (L1 IY);have HD:Hid (vs.drop i=x::vs.drop (i+1)):=B0 (by obtain⟨h1,h2⟩:=N1.1 IY;rw[F5 h1,h2]);rw[HD.out]at HC;clear IY HD;have hlp:3<=7:=I0;by_cases aF7:102<x;(·have HF:Hid (res=([],22)):=B0 (by rw[HR.out,HC.out,Cc.aH2 aF7]);have Bj:=HX.out;clear hp HC;exact DZ);have aId:x<=102:=C0;by_cases aDn:x=102;(·subst aDn;have IE:Hid (RC=Cc.runC s false (out++[256]) (vs.drop (i+1))):=B0 (by rw[HC.out];exact Cc.Uo (Cc.aHe s) _ _);have b8:=HO.out;have o4:=HX.out.size;have Ta:((s:Int)+2)=p:=hp.symm;have Lf:(out++[256]).length<=2*(i+1):=S7;clear hp HC HO;go_wp2_with (at_builtin;refine Zy rfl _ _ rfl w.heap.size _ out rfl (b8.alloc _) _ (256) rfl ?c1 ?c2 ?c3 ?_);(case c1=>exact V2);(case c2=>omega);(case c3=>exact L4);intro v' w5 l6 j6;have p7:=B0 ((HX.out.alloc _).l8 j6 b8.low);have s6:Hid (Own 3 w5 w.heap.size v' ((out++[256]).map encI)):=B0 F8;exact Q7);have aJS:(x==102)=false:=O0.2 aDn;by_cases Jn:s=2/\x<=99;(·obtain⟨rfl,h99⟩:=Jn;obtain rfl:p=4:=hp;have IE:Hid (RC=Cc.runC 2 false (out++[48+x/10,48+x%10]) (vs.drop (i+1))):=B0 (by rw[HC.out];exact Cc.Uo (Cc.step_dig x h99) _ _);have b8:=HO.out;have o4:=HX.out.size;have Lf:(out++[48+x/10,48+x%10]).length<=2*(i+1):=S7;clear HC HO;go_wp2_with (at_builtin;refine DY rfl _ _ rfl w.heap.size _ out rfl (b8.alloc _) _ (48+x/10) (48+x%10) rfl ?c1 ?c4 ?c2 ?c3 ?_);(case c1=>exact V2);(case c4=>exact V2);(case c2=>omega);(case c3=>exact L4);intro v' w5 l6 j6;have p7:=B0 ((HX.out.alloc _).l8 j6 b8.low);have s6:Hid (Own 3 w5 w.heap.size v' ((out++[48+x/10,48+x%10]).map encI)):=B0 F8;clear b8 l6 j6 o4;go_wp2_with fail;go_roundw;(case rel=>exact⟨i+1,2,_,by omega,by omega,by go_num,by first|rfl|exact V0 (Value.int .i64) Ta.symm|go_num,Lf,IE,s6,p7⟩);case measure=>exact Qr);by_cases h95:x<=95;(·have Cz:s≠2:=C0;have IE:Hid (RC=Cc.runC s false (out++[Cc.chOf x s]) (vs.drop (i+1))):=B0 (by rw[HC.out];exact Cc.Uo (Cc.step_ch s Cz x h95) _ _);have z4:(p==4)=false:=O0.2 C0;have Fl:=B0 (λw=>rM x s w C0 hs);rw[<-hp]at Fl;have b8:=HO.out;have o4:=HX.out.size;have Ta:((s:Int)+2)=p:=hp.symm;have Lf:(out++[Cc.chOf x s]).length<=2*(i+1):=S7;clear hp HC HO;generalize Cc.chOf x s=ch at*;go_wp2_with fail;refine(Fl.out _).mono ?_;rintro e w1 ⟨rfl,rfl⟩;go_wp2_with (at_builtin;refine Zy rfl _ _ rfl w.heap.size _ out rfl (b8.alloc _) _ (ch) rfl ?c1 ?c2 ?c3 ?_);(case c1=>exact V2);(case c2=>omega);(case c3=>exact L4);intro v' w5 l6 j6;have p7:=B0 ((HX.out.alloc _).l8 j6 b8.low);have s6:Hid (Own 3 w5 w.heap.size v' ((out++[ch]).map encI)):=B0 F8;exact Q7);have h96:95<x:=C0;by_cases e96:x=96;(·subst e96;have Cz:s≠2:=C0;have IE:Hid (RC=Cc.runC s false (out++[258]) (vs.drop (i+1))):=B0 (by rw[HC.out];exact Cc.Uo (Cc.step_96 s Cz) _ _);have z4:(p==4)=false:=O0.2 C0;have b8:=HO.out;have o4:=HX.out.size;have Ta:((s:Int)+2)=p:=hp.symm;have Lf:(out++[258]).length<=2*(i+1):=S7;clear hp HC HO;go_wp2_with (at_builtin;refine Zy rfl _ _ rfl w.heap.size _ out rfl (b8.alloc _) _ (258) rfl ?c1 ?c2 ?c3 ?_);(case c1=>exact V2);(case c2=>omega);(case c3=>exact L4);intro v' w5 l6 j6;have p7:=B0 ((HX.out.alloc _).l8 j6 b8.low);have s6:Hid (Own 3 w5 w.heap.size v' ((out++[258]).map encI)):=B0 F8;exact Q7);by_cases e97:x=97;(·subst e97;have Cz:s≠2:=C0;have IE:Hid (RC=Cc.runC s false (out++[257]) (vs.drop (i+1))):=B0 (by rw[HC.out];exact Cc.Uo (Cc.step_97 s Cz) _ _);have z4:(p==4)=false:=O0.2 C0;have b8:=HO.out;have o4:=HX.out.size;have Ta:((s:Int)+2)=p:=hp.symm;have Lf:(out++[257]).length<=2*(i+1):=S7;clear hp HC HO;go_wp2_with (at_builtin;refine Zy rfl _ _ rfl w.heap.size _ out rfl (b8.alloc _) _ (257) rfl ?c1 ?c2 ?c3 ?_);(case c1=>exact V2);(case c2=>omega);(case c3=>exact L4);intro v' w5 l6 j6;have p7:=B0 ((HX.out.alloc _).l8 j6 b8.low);have s6:Hid (Own 3 w5 w.heap.size v' ((out++[257]).map encI)):=B0 F8;exact Q7);by_cases e98:x=98;(·subst e98;have Cz:s≠2:=C0;have z4:(p==4)=false:=O0.2 C0;rw[Cc.run_shift s Cz]at HC;obtain⟨j,hj⟩:∃j,j=i+1:=⟨_,rfl⟩;have Bx:(i:Int)+1=(j:Int):=C0;rw[<-hj]at HC;by_cases Vx:j=n;(·have zn:((j:Int)==(n:Int))=true:=I1.2 C0;have HF:Hid (res=([],22)):=B0 (by rw[HR.out,HC.out,O5 G8];rfl);have Bj:=HX.out;clear hp HC hj Vx;exact DZ);have zn:((j:Int)==(n:Int))=false:=O0.2 C0;have aFy:j<n:=C0;have aI0:(j:Int)<(n:Int):=C0;obtain⟨y,Ul⟩:∃y,vs[j]? =some y:=⟨_,P0 (by rw[<-HN.out];exact aFy)⟩;obtain⟨b',o',ha',aIL,Dd⟩:=HV.out.Af HX.out Ul;injection ha' with ha';injection ha' with h1 h2;subst h1 h2;obtain⟨hy0,Yy⟩:=HB.out y (L1 Ul);have HD:Hid (vs.drop j=y::vs.drop (j+1)):=B0 (by obtain⟨h1,h2⟩:=N1.1 Ul;rw[F5 h1,h2]);rw[HD.out,Cc.aH3]at HC;clear Ul HD Vx;by_cases aDd:95<y;(·have HF:Hid (res=([],22)):=B0 (by rw[HR.out,HC.out,G0 aDd]);have Bj:=HX.out;clear hp HC hj;exact DZ);rw[D0 aDd]at HC;have Fl:=B0 (λw=>rM y (1-s) w C0 C0);rw[show(((1-s:Nat):Int)+2)=5-p by omega]at Fl;generalize Cc.chOf y (1-s)=ch at*;have b8:=HO.out;have o4:=HX.out.size;have Ta:((s:Int)+2)=p:=hp.symm;have Lf:(out++[ch]).length<=2*(j+1):=S7;have hji:i<j:=C0;clear hp HO hj;go_wp2_with fail;refine(Fl.out _).mono ?_;rintro e w1 ⟨rfl,rfl⟩;go_wp2_with (at_builtin;refine Zy rfl _ _ rfl w.heap.size _ out rfl (b8.alloc _) _ (ch) rfl ?c1 ?c2 ?c3 ?_);(case c1=>exact V2);(case c2=>omega);(case c3=>exact L4);intro v' w5 l6 j6;have p7:=B0 ((HX.out.alloc _).l8 j6 b8.low);have s6:Hid (Own 3 w5 w.heap.size v' ((out++[ch]).map encI)):=B0 F8;clear b8 l6 j6 o4;go_wp2_with fail;go_roundw;(case rel=>exact⟨j+1,s,_,by omega,by omega,by go_num,by first|rfl|exact V0 (Value.int .i64) Ta.symm|go_num,Lf,HC,s6,p7⟩);case measure=>exact Qr);by_cases e99:x=99;(·subst e99;have Cz:s≠2:=C0;have IE:Hid (RC=Cc.runC 2 false out (vs.drop (i+1))):=B0 (by rw[HC.out,Cc.Uo (Cc.step_99 s Cz) _ _,A3]);have z4:(p==4)=false:=O0.2 C0;clear hp HC;go_wp2_with fail;all_goals go_roundw;(case rel=>exact⟨i+1,2,out,by omega,by decide,by go_num,rfl,by omega,IE,HO,HX⟩);case measure=>exact Qr);by_cases aFW:x=100;(·subst aFW;by_cases h1:s=1;(·subst h1;obtain rfl:p=3:=hp;have IE:Hid (RC=Cc.runC 1 false (out++[259]) (vs.drop (i+1))):=B0 (by rw[HC.out];exact Cc.Uo (Cc.step_100 1) _ _);have b8:=HO.out;have o4:=HX.out.size;have Lf:(out++[259]).length<=2*(i+1):=S7;clear HC HO;go_wp2_with (at_builtin;refine Zy rfl _ _ rfl w.heap.size _ out rfl (b8.alloc _) _ (259) rfl ?c1 ?c2 ?c3 ?_);(case c1=>exact V2);(case c2=>omega);(case c3=>exact L4);intro v' w5 l6 j6;have p7:=B0 ((HX.out.alloc _).l8 j6 b8.low);have s6:Hid (Own 3 w5 w.heap.size v' ((out++[259]).map encI)):=B0 F8;clear b8 l6 j6 o4;go_wp2_with fail;go_roundw;(case rel=>exact⟨i+1,1,_,by omega,by omega,by go_num,by first|rfl|exact V0 (Value.int .i64) Ta.symm|go_num,Lf,IE,s6,p7⟩);case measure=>exact Qr);·have IE:Hid (RC=Cc.runC 1 false out (vs.drop (i+1))):=B0 (by rw[HC.out,Cc.Uo ((by rw[Cc.step_100,G0 h1])) _ _,A3]);have z3:(p==3)=false:=O0.2 C0;clear hp HC;go_wp2_with fail;all_goals go_roundw;(case rel=>exact⟨i+1,1,out,by omega,by decide,by go_num,rfl,by omega,IE,HO,HX⟩);case measure=>exact Qr);obtain rfl:x=101:=C0;by_cases h1:s=0;(·subst h1;obtain rfl:p=2:=hp;have IE:Hid (RC=Cc.runC 0 false (out++[259]) (vs.drop (i+1))):=B0 (by rw[HC.out];exact Cc.Uo (Cc.step_101 0) _ _);have b8:=HO.out;have o4:=HX.out.size;have Lf:(out++[259]).length<=2*(i+1):=S7;clear HC HO;go_wp2_with (at_builtin;refine Zy rfl _ _ rfl w.heap.size _ out rfl (b8.alloc _) _ (259) rfl ?c1 ?c2 ?c3 ?_);(case c1=>exact V2);(case c2=>omega);(case c3=>exact L4);intro v' w5 l6 j6;have p7:=B0 ((HX.out.alloc _).l8 j6 b8.low);have s6:Hid (Own 3 w5 w.heap.size v' ((out++[259]).map encI)):=B0 F8;clear b8 l6 j6 o4;go_wp2_with fail;go_roundw;(case rel=>exact⟨i+1,0,_,by omega,by omega,by go_num,by first|rfl|exact V0 (Value.int .i64) Ta.symm|go_num,Lf,IE,s6,p7⟩);case measure=>exact Qr);·have IE:Hid (RC=Cc.runC 0 false out (vs.drop (i+1))):=B0 (by rw[HC.out,Cc.Uo ((by rw[Cc.step_101,G0 h1])) _ _,A3]);have z2:(p==2)=false:=O0.2 C0;clear hp HC;go_wp2_with fail;all_goals go_roundw;(case rel=>exact⟨i+1,0,out,by omega,by decide,by go_num,rfl,by omega,IE,HO,HX⟩);case measure=>exact Qr);·obtain rfl:i=n:=C0;have HF:Hid (res=(out,0)):=B0 (by rw[HR.out,HC.out,O5 P7];rfl);have HK:=B0 HO.out.IW;have Bj:=HX.out;clear hi hlt HC hp;go_wp2_with fail;go_ret2;rw[HF.out];exact⟨_,rfl,HK.out,Bj⟩
end
section
open Go.RowKit Go.WideMaps Go.Maps
abbrev Gs.y7:=Int×Int×Int×UInt8
def Gs.base:List (List UInt8×Gs.y7):=[([48,48],(1,18,18,0)),([50,48],(0,2,2,0)),([56,48,50,48],(3,1,25,0))]
def Gs.lists:List (List UInt8×Gs.y7):=[
 ([48,49,32,48,50],(1,14,14,0)),
 ([49,49,32,49,50,32,49,51,32,49,53,32,49,54,32,49,55],(2,6,6,0)),
 ([51,49,48,32,51,49,49,32,51,49,50,32,51,49,51,32,51,49,52,32,51,49,53,32,51,49,54],(0,6,6,53)),
 ([51,50,48,32,51,50,49,32,51,50,50,32,51,50,51,32,51,50,52,32,51,50,53,32,51,50,54,32,51,50,55,32,51,50,56,32,51,50,57],(0,6,6,53)),
 ([51,51,48,32,51,51,49,32,51,51,50,32,51,51,51,32,51,51,52,32,51,51,53,32,51,51,54,32,51,51,55],(0,6,6,53)),
 ([52,49,48,32,52,49,49,32,52,49,50,32,52,49,51,32,52,49,52,32,52,49,53,32,52,49,54,32,52,49,55],(1,13,13,0)),
 ([51,48,32,51,55],(0,1,8,0)),
 ([51,57,48,32,51,57,50],(0,1,15,57)),
 ([49,48,32,50,49,32,50,50,32,50,53,52],(3,1,20,0)),
 ([50,52,48,32,50,52,49,32,50,53,48,32,50,53,49,32,52,48,48,32,52,48,49,32,52,48,51,32,57,48],(3,1,30,0)),
 ([57,49,32,57,50,32,57,51,32,57,52,32,57,53,32,57,54,32,57,55,32,57,56,32,57,57],(3,1,90,0))]
def Gs.words(p:List UInt8×Gs.y7):List (List UInt8×Gs.y7):=(Lib.fields p.1).map λk=>(k,p.2)
def Gs.Xo(n:Nat):List (List UInt8×Gs.y7):=Gs.base++(Gs.lists.take n).flatMap Gs.words
def ZjM(n:Nat)(p:List UInt8×Gs.y7)(h:Gs.lists[n]? =some p):Gs.Xo (n+1)=Gs.Xo n++Gs.words p:=by unfold Gs.Xo;rw[M5,h,NU];simp
def ZI(r:Gs.y7):Value:=.agg #[.int .i64 r.1,.int .i64 r.2.1,.int .i64 r.2.2.1,.int .u8 (r.2.2.2.toNat:Int)]
def W9(r:Gs.y7):DataW Unit:=.agg [.lit (.int .i64 r.1),.lit (.int .i64 r.2.1),.lit (.int .i64 r.2.2.1),.lit (.int .u8 (r.2.2.2.toNat:Int))]
def H8(v:Value):Option (DataW Unit×List MemPlace):=match v with
 | .agg ⟨[.int .i64 a,.int .i64 b,.int .i64 c,.int .u8 d]⟩=>some (.agg [.lit (.int .i64 a),.lit (.int .i64 b),.lit (.int .i64 c),.lit (.int .u8 d)],[])
 |_=>none
def MQ(r:Gs.y7):H8 (ZI r)=some (W9 r,[]):=rfl
def rR{v:Value}{r:Gs.y7}{ps:List MemPlace}(h:H8 v=some (W9 r,ps)):v=ZI r:=by
 unfold H8 at h;split at h;·unfold W9 at h;simp only[P2,Y2,DataW.agg.injEq,RZ,DataW.lit.injEq,Lit.int.injEq,W5,true_and]at h;obtain⟨⟨rfl,rfl,rfl,rfl⟩,_⟩:=h;rfl
 .simp at h
def Gs.tabOf(l:List (List UInt8×Gs.y7)):DataW Unit:=l.foldl (λm p=>m.put (.string p.1) (W9 p.2)) (.map [])
def rS(l:List (List UInt8×Gs.y7))(p:List UInt8×Gs.y7):Gs.tabOf (l++[p])=(Gs.tabOf l).put (.string p.1) (W9 p.2):=by simp[Gs.tabOf]
def rT(l:List (List UInt8×Gs.y7)):IsMap (Gs.tabOf l):=by
 unfold Gs.tabOf;have:∀(l:List (List UInt8×Gs.y7))(m:DataW Unit),IsMap m->IsMap (l.foldl (λm p=>m.put (.string p.1) (W9 p.2)) m):=by
  intro l
  induction l with
  |nil=>intro m h;exact h
  |cons p l ih=>intro m h;exact ih _ (h.put _ _)
 exact this l _ isMap_empty
def Gs.get(l:List (List UInt8×Gs.y7))(k:List UInt8):Option Gs.y7:=(l.reverse.find? λp=>p.1==k).map (·.2)
def Zlv(l:List (List UInt8×Gs.y7))(p:List UInt8×Gs.y7)(k:List UInt8):Gs.get (l++[p]) k=if p.1=k then some p.2 else Gs.get l k:=by
 unfold Gs.get;rw[N6];simp only[WL,List.reverse_nil,G4,List.singleton_append,List.find?_cons];by_cases h:p.1=k;·simp[h]
 .have:(p.1==k)=false:=Y4;simp[h,this]
def ZkC(l:List (List UInt8×Gs.y7))(k:List UInt8):Maps.has (Gs.tabOf l) (.string k)=(Gs.get l k).isSome/\∀z r,Gs.get l k=some r->(Gs.tabOf l).atKey (.string k) z=W9 r:=by
 have key:∀n (l:List (List UInt8×Gs.y7)),l.length=n->Maps.has (Gs.tabOf l) (.string k)=(Gs.get l k).isSome/\∀z r,Gs.get l k=some r->(Gs.tabOf l).atKey (.string k) z=W9 r:=by
  intro n
  induction n with
  |zero=>intro l hl;obtain rfl:=U3 hl;exact⟨rfl,λz r h=>by simp[Gs.get]at h⟩
  |succ n ih=>intro l hl;obtain⟨m,p,rfl⟩:∃m p,l=m++[p]:=⟨l.dropLast,l.getLast (by intro e;rw[e]at hl;simp at hl),(CA _).symm⟩;have ihm:=ih m (by simpa using hl);rw[rS,Zlv];by_cases h:p.1=k;(·rw[G0 h,<-h];refine⟨by rw[has_put_same (rT m) (show WideAt.IsKeyLit (.string _)from trivial)];rfl,λz r hr=> ?_⟩;simp only[P2]at hr;rw[<-hr];exact atKey_put_same (rT m) (show WideAt.IsKeyLit (.string _)from trivial) _ _);·rw[D0 h];have k7:(Lit.string k)≠ .string p.1:=λe=>h (by injection e with e;exact e.symm);rw[has_put_other k7];exact⟨ihm.1,λz r hr=>by rw[atKey_put_other k7];exact ihm.2 z r hr⟩
 exact key l.length l rfl
def Gs.dir:List (List UInt8×Gs.y7):=Gs.Xo 11
def Zhw:∀p∈Gs.lists,p.1.length<=100/\(∀b∈p.1,b.toNat<128)/\(Lib.fields p.1).length<=10/\∀k∈Lib.fields p.1,k.length<=10:=L2
def Z4{w w':World}{n:String}{q:IntKind}{zs:List Int}(h:Lib.TabIs prog w n q zs)(hx:Ext w w'):Lib.TabIs prog w' n q zs:=by
 unfold Lib.TabIs World.var? at h⊢;cases hg:prog.globalNamed n with
 |none=>rw[hg]at h;simp at h
 |some g=>rw[hg]at h;simp only[Option.bind_some]at h⊢;have hlt:g<w.heap.size:=(by rcases H5 g w.heap.size with hh|hh;(·exact hh);·rw[TC hh]at h;simp at h);rw[hx.block g hlt];exact h
end
end Go.Proofs.Enc
