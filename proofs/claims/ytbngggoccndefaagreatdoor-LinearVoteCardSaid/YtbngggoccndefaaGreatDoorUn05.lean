/-
  Laid.
-/
import Derived.Test.YtbngggoccndefaaGreatDoorUn04
set_option maxHeartbeats 16000000
set_option maxRecDepth 100000
set_option linter.all false
namespace Go.Proofs.YtbngggoccndefaaGreatDoor
open Go.Proofs.Tryz
section
namespace Ln
abbrev S:=List UInt8
abbrev Lin:=Int×S×S
def zero:Lin:=(0,[],[])
def of128 (d:List Int×Int):Option Lin:=
 if d.2≠0 then none
 else if d.1.head? =some 256 then
  (
   if(Gs.frChars d.1).2≠0 then none
   else if(Gs.format (Gs.frChars d.1).1).2≠0 then none
   else some (9,(Gs.format (Gs.frChars d.1).1).1,[]))
 else if d.1.any (fun c=>decide (127<c))then none
 else some (8,d.1.map (fun c=>UInt8.ofNat c.toNat),[])
def r128 (row:List Bool):Option Lin:=of128 (Cc.dec row)
def rEan (row:List Bool):Option Lin:=if(Ea.dec row).2=0 then some (Ea.dec row).1 else none
def rTwo (k:Int) (row:List Bool):Option Lin:=if(Tw.dec k (Rn.widths row) false).2=0 then some (k,(Tw.dec k (Rn.widths row) false).1,[])else none
def reader (i:Nat) (row:List Bool):Option Lin:=if i=0 then rEan row else if i=1 then r128 row else if i=2 then rTwo 5 row else if i=3 then rTwo 6 row else rTwo 7 row
def found (row:List Bool):Nat->Nat×Lin
 |0=>(0,zero)
 |n+1=>match reader n row with
  |none=>found row n
  |some x=>((found row n).1+1,x)
def outcome (p:Nat×Lin):Lin×Int:=if p.1=0 then(zero,18)else if 1<p.1 then(zero,34)else(p.2,0)
def dark (row:List Bool):Bool:=row.any fun b=>b
def decode (row:List Bool):Lin×Int:=if 65536<row.length then(zero,4)else if dark row=false then(zero,5)else outcome (found row 5)
def total11 (n:Nat):Int:=11*((n:Int)-7)/6+13
def quants (ws:List Int):List Int->List (List Int)
 | []=>[]
 |t::r=>(if(Rn.quant ws t).2=0 then [(Rn.quant ws t).1]else [])++quants ws r
def wides (ws:List Int):List (List Int):=if(Tw.wide ws).2=0 then [(Tw.wide ws).1.map fun b=>if b then 3 else 1]else []
def totals (n:Nat):List Int:=
 (if n=59 then [95]else if n=43 then [67]else if n=33 then [51]else [])++(if 13<=n∧(n-7)%6=0 then [total11 n]else [])
def cands (ws:List Int):List (List Int):=(ws.map fun x=>x/Rn.unit ws)::(quants ws (totals ws.length)++wides ws)
def quiet (m:List Bool) (a b:Nat):List Bool:=List.replicate a false++m++List.replicate b false
def rowOf (l:List Int) (left right s:Int):List Bool:=quiet (Rn.modules l).1 (min 64 (left*Rn.sum l/s)).toNat (min 64 (right*Rn.sum l/s)).toNat
def tryGo (left right s:Int):List (List Int)->Option Lin
 | []=>none
 |l::r=>if(Rn.modules l).2=0∧(decode (rowOf l left right s)).2=0 then some (decode (rowOf l left right s)).1 else tryGo left right s r
def try_ (ws:List Int) (left right:Nat):Option Lin:=tryGo left right (Rn.sum ws) (cands ws)
def readD (row:List Bool):Option Lin:=try_ (Rn.widths row) (Ea.ldg row) (Ea.trl row)
def read (row:List Bool):Lin×Int:=
 if 65536<row.length then(zero,4)else if dark row=false then(zero,5)
 else match readD row with
  |some x=>(x,0)
  |none=>match readD row.reverse with
   |some x=>(x,0)
   |none=>(zero,18)
def good (rows:List (List Bool)):List Lin:=rows.filterMap fun r=>if(read r).2=0 then some (read r).1 else none
def bestGo (all:List Lin):Lin×Nat->List Lin->Lin×Nat
 |p,[]=>p
 |p,x::r=>bestGo all (if p.2<all.count x then(x,all.count x)else p) r
def vote (rows:List (List Bool)):Lin×Int×Int:=
 if 4096<rows.length then(zero,0,4)
 else if(bestGo (good rows) (zero,0) (good rows)).2=0 then(zero,0,29)
 else((bestGo (good rows) (zero,0) (good rows)).1,((bestGo (good rows) (zero,0) (good rows)).2:Int),0)
end Ln
namespace Hp
section
variable {α:Type} (lt:α->α->Bool)
def swap (l:List α) (i j:Nat):List α:=match l[i]?,l[j]? with
 |some a,some b=>(l.set i b).set j a
 |_,_=>l
theorem swap_len (l:List α) (i j:Nat):(swap l i j).length=l.length:=by unfold swap;split<;>simp
theorem swap_at {l:List α} {i j:Nat} {a b:α} (hi:l[i]? =some a) (hj:l[j]? =some b) (k:Nat):(swap l i j)[k]? =if k=j then some a else if k=i then some b else l[k]? :=by
 unfold swap;rw[hi,hj];have h1:=(I1.1 hi).1;have h2:=(I1.1 hj).1;dsimp only;by_cases hkj:k=j;·subst hkj;rw[D0 rfl,YH D9]
 ·rw[C0 hkj,YI (fun e=>hkj e.symm)];by_cases hki:k=i;(·subst hki;rw[D0 rfl,YH h1]);·rw[C0 hki,YI (fun e=>hki e.symm)]
theorem swap_perm {l:List α} {i j:Nat} {a b:α} (hi:l[i]? =some a) (hj:l[j]? =some b):(swap l i j).Perm l:=by obtain⟨h1,e1⟩:=I1.1 hi;obtain⟨h2,e2⟩:=I1.1 hj;unfold swap;rw[hi,hj];dsimp only;subst e1 e2;exact List.set_set_perm h1 h2
def NL (l:List α) (c k:Nat):Prop:=∀a b,l[c]? =some a->l[k]? =some b->lt a b=false
structure Near (l:List α) (k0 i:Nat):Prop where
 up:∀k c,k0<=k->k≠i->(c=2*k+1∨c=2*k+2)->NL lt l c k
 over:∀k c,k0<=k->(i=2*k+1∨i=2*k+2)->(c=2*i+1∨c=2*i+2)->NL lt l c k
def Heap (l:List α) (k0:Nat):Prop:=∀k c,k0<=k->(c=2*k+1∨c=2*k+2)->NL lt l c k
theorem Heap.last (l:List α) {k0:Nat} (h:l.length<=2*k0+1):Heap lt l k0:=by intro k c hk hc a b ha;have:=(I1.1 ha).1;omega
theorem Heap.near {l:List α} {k0:Nat} (h:Heap lt l (k0+1)):Near lt l k0 k0:=
 ⟨fun k c hk hne hc=>h k c B0 hc,fun k c hk hi hc=>by omega⟩
theorem Heap.set {l:List α} {k0:Nat} (h:Heap lt l (k0+1)) (x:α):Heap lt (l.set k0 x) (k0+1):=by intro k c hk hc a b ha hb;rw[YI B0]at ha hb;exact h k c hk hc a b ha hb
theorem Heap.weak {l:List α} {k0 k1:Nat} (h:Heap lt l k0) (hk:k0<=k1):Heap lt l k1:=fun k c h1 hc=>h k c B0 hc
variable {lt}
theorem Near.done {l:List α} {k0 i:Nat} (h:Near lt l k0 i) (hi:∀c,(c=2*i+1∨c=2*i+2)->NL lt l c i):Heap lt l k0:=by
 intro k c hk hc;by_cases e:k=i;·subst e;exact hi c hc
 ·exact h.up k c hk e hc
theorem Near.step (tr:∀a b c,lt a b=false->lt b c=false->lt a c=false) (asx:∀a b,lt a b=true->lt b a=false) {l:List α} {k0 i j:Nat} (h:Near lt l k0 i) (hki:k0<=i) (hj:j=2*i+1∨j=2*i+2) {a b:α} (hi:l[i]? =some a) (hb:l[j]? =some b) (hlt:lt b a=true)
 (hmin:∀c,(c=2*i+1∨c=2*i+2)->∀x,l[c]? =some x->lt x b=false):Near lt (swap l i j) k0 j:=by
 have hs:=swap_at hi hb
 have hij:i≠j:=by omega
 constructor
 ·intro k c hk hkj hc x y hx hy;rw[hs]at hx hy;rw[C0 hkj]at hy;by_cases hki2:k=i;(·subst hki2;rw[D0 rfl]at hy;injection hy with hy;subst hy;by_cases hcj:c=j;(·rw[D0 hcj]at hx;injection hx with hx;subst hx;exact asx _ _ hlt);·rw[C0 hcj,C0 B0]at hx;exact hmin c hc x hx);·rw[C0 hki2]at hy;by_cases hci:c=i;(·subst hci;rw[C0 hij,D0 rfl]at hx;injection hx with hx;subst hx;exact h.over k j hk hc hj _ _ hb hy);·by_cases hcj:c=j;(·omega);·rw[C0 hcj,C0 hci]at hx;exact h.up k c hk hki2 hc x y hx hy
 ·intro k c hk hkk hc x y hx hy;have e:k=i:=B0;subst e;rw[hs,C0 B0,C0 B0]at hx;rw[hs,C0 hij,D0 rfl]at hy;injection hy with hy;subst hy;exact h.up j c B0 B0 hc x b hx hb
theorem Heap.root (tr:∀a b c,lt a b=false->lt b c=false->lt a c=false) (ir:∀a,lt a a=false) {l:List α} (h:Heap lt l 0) {r:α} (hr:l[0]? =some r):∀(n k:Nat),k<=n->∀x,l[k]? =some x->lt x r=false:=by
 intro n
 induction n with
 |zero=>intro k hk x hx;obtain rfl:k=0:=B0;rw[hr]at hx;injection hx with hx;subst hx;exact ir _
 |succ n ih=>intro k hk x hx;by_cases h0:k=0;(·subst h0;rw[hr]at hx;injection hx with hx;subst hx;exact ir _);·have hkl:=(I1.1 hx).1;have hp:(k-1)/2<l.length:=B0;have h1:=h ((k-1)/2) k (O0 _) B0 x _ hx (M0 hp);exact tr _ _ _ h1 (ih ((k-1)/2) B0 _ (M0 hp))
end
theorem nodup_le {α:Type} [DecidableEq α]:∀(l m:List α),l.Nodup->(∀x∈l,x∈m)->l.length<=m.length
 | [],_,_,_=>O0 _
 |x::l,m,hn,hs=>by rw[NA]at hn;have hx:=hs x (N2 ..);have:=nodup_le l (m.erase x) hn.2 fun y hy=>(List.mem_erase_of_ne (fun e=>hn.1 (by rw[<-e];exact hy))).2 (hs y (V2 _ hy));rw[List.length_erase_of_mem hx]at this;have hp:0<m.length:=List.length_pos_of_mem hx;rw[D1];omega
structure Sh where
 ix:Int
 md:Int
 ct:Int
def lessS (a b:Sh):Bool:=if a.ct=b.ct then decide (a.ix<b.ix)else decide (a.ct<b.ct)
theorem lessS_tr (a b c:Sh) (h1:lessS a b=false) (h2:lessS b c=false):lessS a c=false:=by unfold lessS at*;split at h1<;>split at h2<;>split<;>simp at* <;>omega
theorem lessS_as (a b:Sh) (h:lessS a b=true):lessS b a=false:=by unfold lessS at*;split at h<;>split<;>simp at* <;>omega
theorem lessS_ir (a:Sh):lessS a a=false:=by unfold lessS;simp
structure Que (s t:Int) (ws ms:List Int) (q:List Sh):Prop where
 len:q.length=ws.length
 ml:ms.length=ws.length
 nod:(q.map (·.ix)).Nodup
 at_:∀x∈q,∃(k:Nat) (m w:Int),x.ix=(k:Int)∧ms[k]? =some m∧ws[k]? =some w∧x.md=m∧x.ct=2*Rn.need s t m w+s
theorem Que.perm {s t:Int} {ws ms:List Int} {q q':List Sh} (h:Que s t ws ms q) (hp:q'.Perm q):Que s t ws ms q':=
 ⟨hp.length_eq.trans h.len,h.ml,(hp.map _).nodup_iff.2 h.nod,fun x hx=>h.at_ x (hp.mem_iff.1 hx)⟩
theorem Que.has {s t:Int} {ws ms:List Int} {q:List Sh} (h:Que s t ws ms q) {k:Nat} (hk:k<ws.length):∃x∈q,x.ix=(k:Int):=by
 have key:∀(l:List Int) (n:Nat),l.Nodup->l.length=n->(∀x∈l,0<=x∧x<(n:Int))->∀k:Nat,k<n->(k:Int)∈l:=by intro l n hn hl hb k hk;by_cases hm:(k:Int)∈l;(·exact hm);·exfalso;have hkm:(k:Int)∈(List.range n).map (fun(i:Nat)=>(i:Int)):=E7.2 ⟨k,M4.2 hk,rfl⟩;have h1:=nodup_le l (((List.range n).map (fun(i:Nat)=>(i:Int))).erase (k:Int)) hn (fun x hx=>by have:=hb x hx;refine(List.mem_erase_of_ne (fun e=>hm (by rw[<-e];exact hx))).2 (E7.2 ⟨x.toNat,M4.2 B0,by omega⟩));rw[List.length_erase_of_mem hkm,J0,O6]at h1;omega
 have hm:=key (q.map (·.ix)) ws.length h.nod (by rw[J0,h.len]) (fun x hx=>by obtain⟨y,hy,rfl⟩:=E7.1 hx;obtain⟨k,m,w,e,h1,h2,_⟩:=h.at_ y hy;have:=(I1.1 h2).1;omega) k hk;obtain⟨x,hx,e⟩:=E7.1 hm;exact⟨x,hx,e⟩
theorem Que.least {s t:Int} {ws ms:List Int} {q:List Sh} (h:Que s t ws ms q) {r:Sh} (hr:q[0]? =some r) (hh:Heap lessS q 0):∃(k:Nat) (m w:Int),r.ix=(k:Int)∧Rn.least s t ms ws=k∧ms[k]? =some m∧ws[k]? =some w∧r.md=m∧r.ct=2*Rn.need s t m w+s:=by
 obtain⟨k,m,w,e1,e2,e3,e4,e5⟩:=h.at_ r (J1 hr);have key:∀(j:Nat) (m' w':Int),ms[j]? =some m'->ws[j]? =some w'->∃x,lessS x r=false∧x.ix=(j:Int)∧x.ct=2*Rn.need s t m' w'+s:=by intro j m' w' hm hw;obtain⟨x,hx,hix⟩:=h.has (I1.1 hw).1;obtain⟨j2,m2,w2,f1,f2,f3,f4,f5⟩:=h.at_ x hx;have:j2=j:=B0;subst this;rw[hm]at f2;rw[hw]at f3;injection f2 with f2;injection f3 with f3;subst f2 f3;obtain⟨i,hi⟩:=NB hx;exact⟨x,hh.root lessS_tr lessS_ir hr i i (K0 _) x hi,f1,f5⟩
 refine⟨k,m,w,e1,Rn.least_is h.ml e2 e3 ?_ ?_,e2,e3,e4,e5⟩;·intro j m' w' hm hw;exact yZ
 ·intro j m' w' hj hm hw;exact yZ
theorem Que.give {s t:Int} {ws ms:List Int} {q:List Sh} (h:Que s t ws ms q) {r:Sh} (hr:q[0]? =some r) {k:Nat} {m:Int} (hk:r.ix=(k:Int)) (hm:ms[k]? =some m):
 Que s t ws (ms.set k (m+1)) (q.set 0 ⟨r.ix,r.md+1,r.ct+2*s⟩):=by
 obtain⟨q',rfl⟩:∃q',q=r::q':=by
  cases q with
  |nil=>simp at hr
  |cons a q'=>simp at hr;subst hr;exact⟨q',rfl⟩
 refine⟨by rw[U6];exact h.len,by rw[U6];exact h.ml,?_,?_⟩
 ·have:=h.nod;exact E9
 ·intro x hx;simp only[L1,V3]at hx;have hnd:=h.nod;rw[I5,NA]at hnd;rcases hx with rfl|hx;(·obtain⟨k2,m2,w2,e1,e2,e3,e4,e5⟩:=h.at_ r (N2 ..);have:k2=k:=B0;subst this;rw[hm]at e2;injection e2 with e2;subst e2;refine⟨k2,m+1,w2,hk,YH (I1.1 hm).1,e3,by dsimp only;omega,?_⟩;dsimp only;unfold Rn.need at*;rw[e5,Int.mul_add];omega);·obtain⟨k2,m2,w2,e1,e2,e3,e4,e5⟩:=h.at_ x (V2 _ hx);have hne:k≠k2:=(by intro e;subst e;exact hnd.1 (E7.2 ⟨x,hx,by rw[e1,hk]⟩));exact⟨k2,m2,w2,e1,by rw[YI hne];exact e2,e3,e4,e5⟩
end Hp
namespace Rn
def modsN:Bool->List Nat->List Bool
 |_,[]=>[]
 |b,x::r=>List.replicate x b++modsN (!b) r
theorem mods_nat:∀(b:Bool) (l:List Nat),mods b (l.map fun(n:Nat)=>(n:Int))=modsN b l
 |_,[]=>rfl
 |b,x::l=>by rw[I5,mods,modsN,mods_nat (!b) l];rfl
theorem runs_mods:∀(r:List Bool) (c:Bool) (n:Nat),modsN c (runsGo c n r)=List.replicate n c++r
 | [],c,n=>by rw[runsGo,modsN,modsN]
 |b::r,c,n=>by rw[runsGo];by_cases h:b=c;(·rw[D0 h,runs_mods r c (n+1),h,VT];simp);·have e:=runs_mods r b 1;have hb:(!c)=b:=(by cases b<;>cases c<;>simp_all);rw[C0 h,modsN,hb,e];rfl
theorem runs_pos:∀(r:List Bool) (c:Bool) (n:Nat),1<=n->∀x∈runsGo c n r,1<=x
 | [],c,n,hn,x,hx=>by rw[runsGo,U3]at hx;omega
 |b::r,c,n,hn,x,hx=>by rw[runsGo]at hx;split at hx;(·exact runs_pos r c (n+1) B0 x hx);·rcases V3.1 hx with rfl|hx;(·exact hn);·exact runs_pos r b 1 B0 x hx
theorem runs_ne (r:List Bool) (c:Bool) (n:Nat):runsGo c n r≠ []:=by
 induction r generalizing c n with
 |nil=>simp[runsGo]
 |cons b r ih=>rw[runsGo];split;(·exact ih c (n+1));·simp
theorem mods_runs:∀(l:List Nat) (c:Bool) (n x:Nat),(∀y∈l,1<=y)->runsGo c n (List.replicate x c++modsN (!c) l)=(n+x)::l
 | [],c,n,x,_=>by rw[modsN,runsGo_app];rfl
 |y::l,c,n,x,h=>by obtain⟨y',rfl⟩:∃y',y=y'+1:=⟨y-1,by have:=h y (N2 ..);omega⟩;rw[runsGo_app,modsN,N5,J3,runsGo,C0 (by cases c<;>decide)];rw[mods_runs l (!c) 1 y' fun z hz=>h z (V2 _ hz)];congr 2;omega
def lastB (c:Bool) (n:Nat):Bool:=if n%2=1 then c else !c
theorem modsN_app:∀(l m:List Nat) (c:Bool),modsN c (l++m)=modsN c l++modsN (if l.length%2=0 then c else !c) m
 | [],m,c=>rfl
 |x::l,m,c=>by rw[J3,modsN,modsN,modsN_app l m (!c),M3,D1];exact vA
theorem modsN_rev:∀(l:List Nat) (c:Bool),(modsN c l).reverse=modsN (lastB c l.length) l.reverse
 | [],c=>rfl
 |x::l,c=>by rw[modsN,T5,modsN_rev l (!c),Y8,modsN_app,F7,D4,D1];have h1:lastB (!c) l.length=lastB c (l.length+1):=(by unfold lastB;by_cases h:l.length%2=1;(·rw[D0 h,C0 B0]);·rw[C0 h,D0 B0,Bool.not_not]);rw[h1];congr 1;have h2:(if l.length%2=0 then lastB c (l.length+1)else !lastB c (l.length+1))=c:=(by unfold lastB;by_cases h:l.length%2=0;(·rw[D0 h,D0 B0]);·rw[C0 h,C0 B0,Bool.not_not]);rw[h2,modsN,modsN,P3]
theorem ldg_rep (n:Nat) (r:List Bool):Ea.ldg (List.replicate n false++r)=n+Ea.ldg r:=by
 induction n with
 |zero=>simp
 |succ n ih=>rw[N5,J3];show Ea.ldg (false::_)=_;rw[show Ea.ldg (false::(List.replicate n false++r))=Ea.ldg (List.replicate n false++r)+1 from rfl,ih];omega
theorem ldg_split:∀(s:List Bool),s=List.replicate (Ea.ldg s) false++s.drop (Ea.ldg s)
 | []=>rfl
 |true::r=>rfl
 |false::r=>by have:=ldg_split r;rw[show Ea.ldg (false::r)=Ea.ldg r+1 from rfl,N5,J3,VC,<-this]
theorem ldg_le:∀(s:List Bool),Ea.ldg s<=s.length
 | []=>K0 _
 |true::r=>O0 _
 |false::r=>by have:=ldg_le r;rw[show Ea.ldg (false::r)=Ea.ldg r+1 from rfl,D1];omega
theorem ldg_next:∀(s:List Bool),s.drop (Ea.ldg s)=[]∨∃r,s.drop (Ea.ldg s)=true::r
 | []=>.inl rfl
 |true::r=>.inr ⟨r,rfl⟩
 |false::r=>by rw[show Ea.ldg (false::r)=Ea.ldg r+1 from rfl,VC];exact ldg_next r
theorem row_split (s:List Bool):(core s=[]∧s=List.replicate s.length false∧Ea.ldg s=s.length∧Ea.trl s=s.length)∨
 (∃m,core s=true::m∧(∃m',core s=m'++[true])∧s=List.replicate (Ea.ldg s) false++core s++List.replicate (Ea.trl s) false):=by
 rcases ldg_next s with h|⟨r,h⟩
 ·left;have hs:=ldg_split s;rw[h,P3]at hs;have hl:Ea.ldg s=s.length:=(by have:=R0 List.length hs;rw[D3]at this;exact this.symm);refine⟨by unfold core;rw[h,List.take_nil],by rw[<-hl];exact hs,hl,?_⟩;unfold Ea.trl;rw[hs,F7];have:=ldg_rep (Ea.ldg s) [];rw[P3]at this;rw[this,D3];rfl
 ·right;have hs:=ldg_split s;rw[h]at hs;have hr:s.reverse=(true::r).reverse++List.replicate (Ea.ldg s) false:=(by have:=R0 List.reverse hs;rw[T5,F7]at this;exact F3);have key:∀(l k:List Bool),Ea.ldg (l++true::k)<=l.length:=by
   intro l k
   induction l with
   |nil=>exact K0 _
   |cons b l ih=>
    cases b with
    |true=>exact O0 _
    |false=>rw[J3,show Ea.ldg (false::(l++true::k))=Ea.ldg (l++true::k)+1 from rfl,D1];omega
  have htl:Ea.trl s<=r.length:=(by unfold Ea.trl;rw[hr,Y8,M3];have:=key r.reverse (List.replicate (Ea.ldg s) false);rw[D4]at this;exact F3);have hlen:=R0 List.length hs;rw[T0,D3,D1]at hlen;have hcore:core s=(true::r).take (r.length+1-Ea.trl s):=(by unfold core;rw[h];congr 1;omega);obtain⟨d,hd⟩:∃d,r.length+1-Ea.trl s=d+1:=⟨r.length-Ea.trl s,by omega⟩;have hrd:(true::r).drop (d+1)=List.replicate (Ea.trl s) false:=(by have h1:=ldg_split s.reverse;have h2:s.reverse.take (Ea.trl s)=List.replicate (Ea.trl s) false:=(by have h3:=R0 (List.take (Ea.trl s)) h1;rw[h3];unfold Ea.trl;rw[SU VU,X1 VU]);have h4:s.drop (s.length-Ea.trl s)=List.replicate (Ea.trl s) false:=(by have h5:=R0 List.reverse h2;rw[F7,List.reverse_take,NC,D4]at h5;exact h5);rw[<-h4];have h6:s.length-Ea.trl s=Ea.ldg s+(d+1):=B0;rw[h6,<-h,W5]);have hcs:core s=true::r.take d:=(by rw[hcore,hd,SV]);refine⟨r.take d,hcs,?_,?_⟩
  ·have h1:=ldg_next s.reverse;have h2:s.reverse.drop (Ea.trl s)=(core s).reverse++List.replicate (Ea.ldg s) false:=(by have h3:s=List.replicate (Ea.ldg s) false++core s++List.replicate (Ea.trl s) false:=vB;have h4:=R0 List.reverse h3;rw[T5,T5,F7,F7]at h4;rw[h4,vC VU,O5 VU,P5]);unfold Ea.trl at h2;rw[h2]at h1;rcases h1 with h1|⟨q,h1⟩;(·rw[hcs]at h1;simp at h1)
   ·cases hc:(core s).reverse with
    |nil=>rw[hcs]at hc;simp at hc
    |cons x y=>rw[hc]at h1;injection h1 with h1;subst h1;refine⟨y.reverse,?_⟩;have:=R0 List.reverse hc;rw[NC,Y8]at this;exact F3
  ·exact vB
theorem row_parts (a b:Nat) (m:List Bool) (h1:∃k,m=true::k) (h2:∃k,m=k++[true]):Ea.ldg (List.replicate a false++m++List.replicate b false)=a∧Ea.trl (List.replicate a false++m++List.replicate b false)=b∧core (List.replicate a false++m++List.replicate b false)=m:=by
 obtain⟨k,rfl⟩:=h1;have e1:Ea.ldg (List.replicate a false++(true::k)++List.replicate b false)=a:=by rw[M3,ldg_rep];rfl
 have e2:Ea.trl (List.replicate a false++(true::k)++List.replicate b false)=b:=by unfold Ea.trl;rw[T5,T5,F7,F7,ldg_rep];obtain⟨k2,h2⟩:=h2;rw[h2,T5];rfl
 refine⟨e1,e2,?_⟩;unfold core;rw[e1,e2];rw[M3,vC VU,O5 VU,P5];rw[SU N4];rw[X1];exact S0
theorem widthsN_mods (s:List Bool):modsN true (widthsN s)=core s:=by
 unfold widthsN;rcases row_split s with⟨h,_⟩|⟨m,h,_⟩;·rw[h];rfl
 ·rw[h];exact runs_mods m true 1
theorem widthsN_pos (s:List Bool):∀x∈widthsN s,1<=x:=by
 unfold widthsN;rcases row_split s with⟨h,_⟩|⟨m,h,_⟩;·rw[h];intro x hx;cases hx
 ·rw[h];exact runs_pos m true 1 (K0 _)
theorem runs_of (l:List Nat) (h:∀x∈l,1<=x) (s:List Bool) (hs:core s=modsN true l):widthsN s=l:=by
 unfold widthsN
 cases l with
 |nil=>rw[hs];rfl
 |cons x l=>obtain⟨y,rfl⟩:∃y,x=y+1:=⟨x-1,by have:=h x (N2 ..);omega⟩;rw[hs,modsN,N5,J3];show runsGo true 1 _=_;rw[mods_runs l true 1 y fun z hz=>h z (V2 _ hz)];congr 1;omega
theorem widthsN_odd (s:List Bool):core s=[]∨(widthsN s).length%2=1:=by
 rcases row_split s with⟨h,_⟩|⟨m,h,⟨m',h2⟩,_⟩;·exact .inl h
 ·right
  have h3:=modsN_rev (widthsN s) true
  rw[widthsN_mods,h2,T5]at h3
  have hne:widthsN s≠ []:=by intro e;have:=widthsN_mods s;rw[e,h]at this;cases this
  cases hr:(widthsN s).reverse with
  |nil=>exact absurd (by simpa using hr) hne
  |cons x r=>have hx:1<=x:=widthsN_pos s x (by have:x∈(widthsN s).reverse:=(by rw[hr];exact N2 ..);simpa using this);rw[hr,modsN]at h3;obtain⟨y,rfl⟩:∃y,x=y+1:=⟨x-1,by omega⟩;rw[N5,J3,List.reverse_singleton,List.singleton_append]at h3;injection h3 with h3 _;unfold lastB at h3;by_cases h:(widthsN s).length%2=1;(·exact h);·rw[C0 h]at h3;cases h3
theorem turned (s:List Bool):core s.reverse=(core s).reverse∧Ea.ldg s.reverse=Ea.trl s∧Ea.trl s.reverse=Ea.ldg s∧widthsN s.reverse=(widthsN s).reverse:=by
 have hw:core s.reverse=(core s).reverse->widthsN s.reverse=(widthsN s).reverse:=by intro hc;refine runs_of _ (fun x hx=>widthsN_pos s x (by simpa using hx)) _ ?_;rw[hc,<-widthsN_mods s,modsN_rev];rcases widthsN_odd s with h|h;(·have:widthsN s=[]:=(by unfold widthsN;rw[h]);rw[this];rfl);·unfold lastB;rw[D0 h]
 rcases row_split s with⟨h1,h2,h3,h4⟩|⟨m,h1,⟨m',h2⟩,h3⟩;·have hr:s.reverse=s:=(by have e:=R0 List.reverse h2;rw[F7,<-h2]at e;exact e);have hc:core s.reverse=(core s).reverse:=(by rw[hr,h1];rfl);exact⟨hc,rfl,by rw[hr,h4,h3],hw hc⟩
 ·have hr:s.reverse=List.replicate (Ea.trl s) false++(core s).reverse++List.replicate (Ea.ldg s) false:=(by have e:=R0 List.reverse h3;rw[T5,T5,F7,F7,<-M3]at e;exact e);obtain⟨p1,p2,p3⟩:=row_parts (Ea.trl s) (Ea.ldg s) (core s).reverse ⟨m'.reverse,by rw[h2,T5];rfl⟩ ⟨m.reverse,by rw[h1,Y8]⟩;rw[<-hr]at p1 p2 p3;exact⟨p3,p1,p2,hw p3⟩
end Rn
namespace Rn
theorem sum_from:∀(l:List Int) (a:Int),l.foldl (·+·) a=a+sum l
 | [],a=>by simp[sum]
 |x::l,a=>by unfold sum;rw[F1,F1,sum_from l (a+x),sum_from l (0+x)];omega
theorem sum_nil:sum []=0:=rfl
theorem sum_cons (x:Int) (l:List Int):sum (x::l)=x+sum l:=by unfold sum;rw[F1,sum_from];unfold sum;omega
theorem sum_app (l m:List Int):sum (l++m)=sum l+sum m:=by
 induction l with
 |nil=>rw[P5,sum_nil];omega
 |cons x l ih=>rw[J3,sum_cons,sum_cons,ih];omega
theorem sum_set:∀(l:List Int) (k:Nat) (m x:Int),l[k]? =some m->sum (l.set k x)=sum l-m+x
 | [],k,m,x,h=>by simp at h
 |y::l,0,m,x,h=>by simp at h;subst h;rw[L1,sum_cons,sum_cons];omega
 |y::l,k+1,m,x,h=>by rw[N1,sum_cons,sum_cons,sum_set l k m x M5];omega
theorem sum_pos:∀(l:List Int),(∀x∈l,1<=x)->(l.length:Int)<=sum l
 | [],_=>by rw[sum_nil];simp
 |x::l,h=>by have h1:=h x (N2 ..);have h2:=sum_pos l fun y hy=>h y (V2 _ hy);rw[sum_cons,D1];omega
theorem leastGo_lt (s t:Int):∀(ms ws:List Int) (i b:Nat) (v:Int),b<i->leastGo s t i b v ms ws<i+ms.length
 | [],ws,i,b,v,h=>by unfold leastGo;omega
 |m::ms,[],i,b,v,h=>by unfold leastGo;rw[D1];omega
 |m::ms,w::ws,i,b,v,h=>by rw[leastGo,D1];split;(·have:=leastGo_lt s t ms ws (i+1) i (need s t m w) B0;omega);·have:=leastGo_lt s t ms ws (i+1) b v B0;omega
theorem least_lt (s t:Int) (ms ws:List Int) (h:ms≠ []):least s t ms ws<ms.length:=by
 cases ms with
 |nil=>exact absurd rfl h
 |cons m ms=>unfold least;have:=leastGo_lt s t ((m::ms).drop 1) (ws.drop 1) 1 0 (need s t ((m::ms).getD 0 0) (ws.getD 0 0)) B0;rw[VC,R5]at this;rw[VC,R5,D1];omega
theorem give_sum (s t:Int) (ws:List Int):∀(n:Nat) (ms:List Int),ms≠ []->sum (give s t ws n ms)=sum ms+n∧(give s t ws n ms).length=ms.length
 |0,ms,_=>⟨by unfold give;omega,rfl⟩
 |n+1,ms,h=>by have hl:=least_lt s t ms ws h;have hg:ms[least s t ms ws]? =some (ms.getD (least s t ms ws) 0):=(by rw[U0,M0 hl];rfl);(have hne:ms.set (least s t ms ws) (ms.getD (least s t ms ws) 0+1)≠ []:=fun e=>by have:=R0 List.length e;rw[U6]at this;exact h (L4 this));obtain⟨h1,h2⟩:=give_sum s t ws n _ hne;unfold give;rw[h1,h2,sum_set _ _ _ _ hg,U6];exact⟨by omega,rfl⟩
theorem sum_ones (n:Nat):sum (List.replicate n 1)=(n:Int):=by
 induction n with
 |zero=>rfl
 |succ n ih=>rw[N5,sum_cons,ih];omega
theorem quant_sum {ws:List Int} {t:Int} (h:(quant ws t).2=0):sum (quant ws t).1=t∧(quant ws t).1.length=ws.length∧ws≠ []∧ws.length<=65536∧Tw.inRng ws=true∧(ws.length:Int)<=t∧t<=65536:=by
 unfold quant at h⊢
 by_cases h0:ws.length=0
 ·exact SW
 rw[C0 h0]at h⊢
 by_cases h1:65536<ws.length
 ·exact VV
 rw[C0 h1]at h⊢
 by_cases h2:Tw.inRng ws=false∨t<ws.length∨65536<t
 ·rw[D0 h2]at h;cases h
 rw[C0 h2]
 have hne:List.replicate ws.length (1:Int)≠ []:=fun e=>h0 (by have:=R0 List.length e;rw[D3]at this;exact this)
 obtain⟨a,b⟩:=give_sum (sum ws) t ws (t.toNat-ws.length) _ hne
 dsimp only
 rw[a,b,sum_ones,D3]
 refine⟨by omega,rfl,fun e=>h0 (by rw[e];rfl),by omega,?_,by omega,by omega⟩
 cases hr:Tw.inRng ws with
 |true=>rfl
 |false=>exact absurd (.inl hr) h2
theorem gcdGo_is:∀(l:List Int) (g:Nat),(∀x∈l,1<=x)->∃u:Nat,gcdGo g l=(u:Int)∧u∣g∧(∀x∈l,(u:Int)∣x)∧(∀d:Nat,d∣g->(∀x∈l,(d:Int)∣x)->d∣u)
 | [],g,_=>⟨g,rfl,Nat.dvd_refl _,fun x hx=>(by cases hx),fun d hd _=>hd⟩
 |x::l,g,h=>by have hx:=h x (N2 ..);obtain⟨u,h1,h2,h3,h4⟩:=gcdGo_is l (Nat.gcd g x.toNat) fun y hy=>h y (V2 _ hy);have ex:x=(x.toNat:Int):=B0;refine⟨u,by unfold gcdGo;rw[C0 B0];exact h1,Nat.dvd_trans h2 (Nat.gcd_dvd_left _ _),?_,?_⟩;(·intro y hy;rcases V3.1 hy with rfl|hy;(·rw[ex];exact Int.natCast_dvd_natCast.2 (Nat.dvd_trans h2 (Nat.gcd_dvd_right _ _)));·exact h3 y hy);·intro d hd hl;refine h4 d (Nat.dvd_gcd hd ?_) fun y hy=>hl y (V2 _ hy);have:=hl x (N2 ..);rw[ex]at this;exact Int.natCast_dvd_natCast.1 this
theorem unit_is {ws:List Int} (h:∀x∈ws,1<=x) (hne:ws≠ []):1<=unit ws∧∀x∈ws,unit ws∣x:=by
 obtain⟨u,h1,h2,h3,h4⟩:=gcdGo_is ws 0 h
 unfold unit
 rw[h1]
 refine⟨?_,h3⟩
 cases ws with
 |nil=>exact absurd rfl hne
 |cons x l=>have hx:=h x (N2 ..);have hd:=h3 x (N2 ..);rcases SH u with e|e;(·subst e;have:=Int.zero_dvd.1 hd;omega);·omega
theorem sum_div {u:Int} (hu:1<=u):∀(l:List Int),(∀x∈l,u∣x)->sum (l.map fun x=>x/u)*u=sum l
 | [],_=>by rw[B9,sum_nil];omega
 |x::l,h=>by have h1:=Int.ediv_mul_cancel (h x (N2 ..));have h2:=sum_div hu l fun y hy=>h y (V2 _ hy);rw[I5,sum_cons,sum_cons,Int.add_mul,h1,h2]
theorem sum_unit {ws:List Int} (h:∀x∈ws,1<=x) (hne:ws≠ []):sum ws/unit ws=sum (ws.map fun x=>x/unit ws):=by obtain⟨h1,h2⟩:=unit_is h hne;rw[<-sum_div h1 ws h2];exact Int.mul_ediv_cancel _ B0
theorem widths_pos (s:List Bool):∀x∈widths s,1<=x:=by intro x hx;unfold widths at hx;obtain⟨n,hn,rfl⟩:=E7.1 hx;have:=widthsN_pos s n hn;omega
theorem mods_widths (s:List Bool):mods true (widths s)=core s:=by unfold widths;rw[mods_nat,widthsN_mods]
theorem mods_len:∀(l:List Int) (b:Bool),(∀x∈l,1<=x)->((mods b l).length:Int)=sum l
 | [],b,_=>rfl
 |x::l,b,h=>by have h1:=h x (N2 ..);rw[mods,T0,D3,sum_cons,<-mods_len l (!b) fun y hy=>h y (V2 _ hy)];omega
theorem core_le (s:List Bool):(core s).length<=s.length:=by unfold core;exact GY
end Rn
namespace Hp
def start (s t:Int) (ws:List Int):List Sh:=(List.range ws.length).map fun(i:Nat)=>⟨(i:Int),1,3*s-2*t*ws.getD i 0⟩
theorem start_len (s t:Int) (ws:List Int):(start s t ws).length=ws.length:=by unfold start;rw[J0,O6]
theorem start_at (s t:Int) {ws:List Int} {i:Nat} {w:Int} (h:ws[i]? =some w):(start s t ws)[i]? =some ⟨(i:Int),1,3*s-2*t*w⟩:=by have hl:=(I1.1 h).1;unfold start;rw[J2,SJ hl,YF,U0,h];rfl
theorem nodup_cast (n:Nat):((List.range n).map fun(i:Nat)=>(i:Int)).Nodup:=by rw[List.nodup_iff_pairwise_ne,List.pairwise_map];exact List.nodup_range.imp (fun h e=>h B0)
theorem Que.start (s t:Int) (ws:List Int):Que s t ws (List.replicate ws.length 1) (start s t ws):=by
 refine⟨start_len s t ws,D3,?_,?_⟩;·unfold Hp.start;rw[G7];exact nodup_cast ws.length
 ·intro x hx;obtain⟨i,hi⟩:=NB hx;have hl:i<ws.length:=(by have:=(I1.1 hi).1;rw[start_len]at this;exact F3);rw[start_at s t (M0 hl)]at hi;injection hi with hi;subst hi;refine⟨i,1,ws[i],rfl,?_,M0 hl,rfl,?_⟩;(·rw[ND,D0 hl]);·dsimp only;unfold Rn.need;have:2*t*ws[i]=2*(t*ws[i]):=Int.mul_assoc ..;omega
def Got (ms:List Int) (q:List Sh) (j:Nat) (out:List Int):Prop:=out.length=ms.length∧∀(i:Nat) (x:Sh) (k:Nat),i<j->q[i]? =some x->x.ix=(k:Int)->out[k]? =ms[k]?
theorem Got.zero {ms:List Int} {q:List Sh} {out:List Int} (h:out.length=ms.length):Got ms q 0 out:=⟨h,fun i x k hi=>by omega⟩
theorem Got.next {ms:List Int} {q:List Sh} {j:Nat} {out:List Int} (h:Got ms q j out) {x:Sh} (hx:q[j]? =some x) {k:Nat} (hk:x.ix=(k:Int)) (hm:ms[k]? =some x.md):Got ms q (j+1) (out.set k x.md):=by
 refine⟨by rw[U6];exact h.1,fun i y k2 hi hy hk2=> ?_⟩;by_cases e:k=k2;·subst e;have:=(I1.1 hm).1;rw[YH (by rw[h.1];exact this),hm]
 ·rw[YI e];by_cases hij:i=j;(·subst hij;rw[hx]at hy;injection hy with hy;subst hy;omega);·exact h.2 i y k2 B0 hy hk2
theorem Got.all {s t:Int} {ws ms:List Int} {q:List Sh} (hq:Que s t ws ms q) {j:Nat} {out:List Int} (h:Got ms q j out) (hj:q.length<=j):out=ms:=by
 apply XQ;intro k;by_cases hk:k<ws.length;·obtain⟨x,hx,e⟩:=hq.has hk;obtain⟨i,hi⟩:=NB hx;have:=(I1.1 hi).1;exact h.2 i x k B0 hi e
 ·rw[YJ (by rw[h.1,hq.ml];omega),YJ (by rw[hq.ml];omega)]
theorem give_last (s t:Int) (ws:List Int):∀(n:Nat) (ms:List Int),Rn.give s t ws (n+1) ms=(fun l=>l.set (Rn.least s t l ws) (l.getD (Rn.least s t l ws) 0+1)) (Rn.give s t ws n ms)
 |0,ms=>rfl
 |n+1,ms=>by rw[Rn.give,give_last s t ws n];rfl
def Few (n:Nat) (ms:List Int):Prop:=∀m∈ms,1<=m∧m<=(n:Int)+1
theorem Few.ones (n:Nat):Few 0 (List.replicate n 1):=fun m hm=>by obtain rfl:=(List.mem_replicate.1 hm).2;omega
theorem Few.give {n:Nat} {ms:List Int} (h:Few n ms) {k:Nat} {m:Int} (hm:ms[k]? =some m):Few (n+1) (ms.set k (m+1)):=fun x hx=>by
 have h1:=h m (J1 hm);rcases List.mem_or_eq_of_mem_set hx with hx|rfl;·have:=h x hx;omega
 ·omega
end Hp
end
section
open Go.RowKit
theorem NE {w:World} {ops:Array Oper} {rest:List Oper} {o:Oper} {a:Act} {Q:Exit->Act->World->Prop} (hgd:o.guard=none) (s x:Operand) (T t:TypeId) (z:Value) (bytes:Nat)
 (ho:o.op=.call {callee:=.builtin .append,args:= #[s,x],argTypes:= #[T,T]})
 (hT:prog.underlying T=some (.slice t)) (hi:(prog.info? t).map (fun i=>(i.zero,i.size,i.bytes))=some (some z,1,bytes)) (hz:z.cells.size=1) (hby:bytes<=16)
 (B:Nat) (v:Value) (xs:List Value) (hs:a.eval s=v) (hown:Own t w B v xs) (b off m c:Nat) (news:List Value) (hx:a.eval x=.slice (some ⟨b,off,none⟩) m c) (hm:news.length=m)
 (hc:∀j u,news[j]? =some u->w.cell? ⟨b,off+j,none⟩=some u) (h1:∀u∈news,u.oneCell'=true) (hn:xs.length+m<=1000000000) (hB:B<=w.heap.size)
 (h:∀v' w',Own t w' B v' (xs++news)->w.grownBy w' v.ownBlock->(v'.ownBlock=v.ownBlock∨v'.ownBlock=some w.heap.size)->wpList prog ops Q rest (a.put o.dst v') w'):wpList prog ops Q (o::rest) a w:=by
 obtain⟨i0,hi,hz0,hz1,hz2⟩:=V5 hi
 refine wpList_append_own_at _ hgd s x T ho B t i0 z 1 bytes hT hi hz0 hz1 hz2 hz I0 v xs.length xs hs hown ⟨b,off,none⟩ m c news hx (by rw[hm,A9]) ?_ h1 ?_ ?_ hB ?_
 ·intro j u hj;rw[U7];exact hc j u hj
 ·exact V7
 ·exact B4 (VH hn hby) I0
 ·intro v' w' h1 h2 _ h4;refine h v' w' ?_ h2 h4;unfold Own;rw[T0,hm];exact h1
theorem vD {w:World} {ops:Array Oper} {rest:List Oper} {o:Oper} {a:Act} {Q:Exit->Act->World->Prop} (hgd:o.guard=none) (s x:Operand)
 (ho:o.op=.call {callee:=.builtin .append,args:= #[s,x],argTypes:= #[90,90]})
 (B:Nat) (v:Value) (l:List UInt8) (hs:a.eval s=v) (hown:Own 5 w B v (l.map encB)) (b:Nat) (u:UInt8) (hx:a.eval x=.slice (some ⟨b,0,none⟩) 1 1)
 (hc:w.cell? ⟨b,0,none⟩=some (encB u)) (hn:l.length<=999999999) (hB:B<=w.heap.size)
 (h:∀v' w',Own 5 w' B v' (l.map encB++[encB u])->w.grownBy w' v.ownBlock->(v'.ownBlock=v.ownBlock∨v'.ownBlock=some w.heap.size)->wpList prog ops Q rest (a.put o.dst v') w'):wpList prog ops Q (o::rest) a w:=
 NE hgd s x 90 5 (.int .u8 0) 1 ho underlying90 VI rfl I0 B v _ hs hown b 0 1 1 [encB u] hx rfl
  (fun j u' hj=>by
   match j with
   |0=>simp only[B3,I2]at hj;subst hj;exact hc
   |j+1=>simp at hj)
  (fun u' hu=>by simp only[U3]at hu;subst hu;rfl) A3 hB h
theorem Zil {w:World} {ops:Array Oper} {rest:List Oper} {o:Oper} {a:Act} {Q:Exit->Act->World->Prop} (hgd:o.guard=none) (s x:Operand)
 (ho:o.op=.call {callee:=.builtin .append,args:= #[s,x],argTypes:= #[90,90]})
 (B:Nat) (v:Value) (l:List UInt8) (hs:a.eval s=v) (hown:Own 5 w B v (l.map encB)) (b:Nat) (u u1:UInt8) (hx:a.eval x=.slice (some ⟨b,0,none⟩) 2 2)
 (hc:w.cell? ⟨b,0,none⟩=some (encB u)) (hc1:w.cell? ⟨b,1,none⟩=some (encB u1)) (hn:l.length<=999999998) (hB:B<=w.heap.size)
 (h:∀v' w',Own 5 w' B v' (l.map encB++[encB u,encB u1])->w.grownBy w' v.ownBlock->(v'.ownBlock=v.ownBlock∨v'.ownBlock=some w.heap.size)->wpList prog ops Q rest (a.put o.dst v') w'):wpList prog ops Q (o::rest) a w:=
 NE hgd s x 90 5 (.int .u8 0) 1 ho underlying90 VI rfl I0 B v _ hs hown b 0 2 2 [encB u,encB u1] hx rfl
  (fun j u' hj=>by
   match j with
   |0=>simp only[B3,I2]at hj;subst hj;exact hc
   |1=>simp only[D5,B3,I2]at hj;subst hj;exact hc1
   |j+2=>simp at hj)
  (fun u' hu=>by simp only[V3,D8,E8]at hu;rcases hu with rfl|rfl<;>rfl) A3 hB h
def ZL (v u:Value):Prop:=v.ownBlock=none∨v.ownBlock≠u.ownBlock
theorem ZL.nil_left (u:Value):ZL (.slice none 0 0) u:=.inl rfl
theorem ZL.symm {v u:Value} (h:ZL v u):ZL u v:=by
 cases hv:u.ownBlock with
 |none=>exact .inl hv
 |some k=>rcases h with h|h;(·exact .inr (by rw[h,hv];simp));·exact .inr (by rw[hv];rw[hv]at h;exact fun e=>h e.symm)
theorem ZL.grow {t:TypeId} {w:World} {B:Nat} {v v' u:Value} {xs:List Value} (h:ZL v u) (hu:Own t w B u xs) (n:Nat) (hn:w.heap.size<=n) (hat:v'.ownBlock=v.ownBlock∨v'.ownBlock=some n):ZL v' u:=by
 rcases hat with e|e;·unfold ZL;rw[e];exact h
 ·refine .inr ?_;rw[e];intro h1;have:=(U5 hu n h1.symm).2;omega
theorem Own.beside {t:TypeId} {w w':World} {B:Nat} {v u:Value} {xs:List Value} (h:Own t w B u xs) (hg:w.grownBy w' v.ownBlock) (ha:ZL v u):Own t w' B u xs:=by
 refine h.kept hg ?_;rcases ha.symm with e|e;·exact .inl e
 ·exact .inr e
def SlN (w:World) (B:Nat) (v:Value) (xs:List Value):Prop:=Sl w v xs∧∀k,v.ownBlock=some k->B<=k∧k<w.heap.size
theorem SlN.nil (w:World) (B:Nat):SlN w B (.slice none 0 0) []:=⟨.inl ⟨rfl,none,0,rfl⟩,fun k hk=>by simp[Value.ownBlock]at hk⟩
theorem SlN.ofOwn {t:TypeId} {w:World} {B:Nat} {v:Value} {xs:List Value} (h:Own t w B v xs):SlN w B v xs:=⟨h.sl,fun k hk=>U5 h k hk⟩
theorem SlN.of {w:World} {B b o n c:Nat} {xs:List Value} (h:Sl w (.slice (some ⟨b,o,none⟩) n c) xs) (hn:0<xs.length) (hb:B<=b):SlN w B (.slice (some ⟨b,o,none⟩) n c) xs:=by
 refine⟨h,fun k hk=> ?_⟩;obtain⟨b',o',he,hl,_⟩:=h.at_ hn;injection he with he;injection he with h1;have:b=k:=by simpa[Value.ownBlock]using hk
 omega
theorem SlN.ext {w w':World} {B:Nat} {v:Value} {xs:List Value} (h:SlN w B v xs) (hx:Ext w w'):SlN w' B v xs:=⟨h.1.ext hx,fun k hk=>⟨(h.2 k hk).1,G2 (h.2 k hk).2 hx.size⟩⟩
theorem SlN.mono {w:World} {B B':Nat} {v:Value} {xs:List Value} (h:SlN w B v xs) (hb:B'<=B):SlN w B' v xs:=⟨h.1,fun k hk=>⟨B4 hb (h.2 k hk).1,(h.2 k hk).2⟩⟩
def GZ (w w':World) (v v':Value):Prop:=∀B u xs,SlN w B u xs->ZL v u->SlN w' B u xs∧ZL v' u
theorem GZ.grow {w w':World} {v v':Value} (hg:w.grownBy w' v.ownBlock) (n:Nat) (hn:w.heap.size<=n) (hat:v'.ownBlock=v.ownBlock∨v'.ownBlock=some n):GZ w w' v v':=by
 intro B u xs hs ha;have hsz:=hg.size;have hap:ZL v' u:=by rcases hat with e|e;(·unfold ZL;rw[e];exact ha);·refine .inr ?_;rw[e];intro h1;have:=(hs.2 n h1.symm).2;omega
 refine⟨⟨?_,fun k hk=>⟨(hs.2 k hk).1,G2 (hs.2 k hk).2 hsz⟩⟩,hap⟩;rcases hs.1 with h|⟨b,off,cap,h1,h2,h3⟩;·exact .inl h
 ·refine .inr ⟨b,off,cap,h1,G2 h2 hsz,fun i hi=> ?_⟩;have hb:w'.heap[b]? =w.heap[b]? :=hg.block b h2 (by rcases ha.symm with e|e;(·rw[h1]at e;simp[Value.ownBlock]at e);·rw[h1]at e;simpa[Value.ownBlock]using e);rw[<-h3 i hi];exact World.cell?_of_block (w:=w) (a:=⟨b,off+i,none⟩) hb
theorem ZeY (t:TypeId) (n:Nat) (ht:prog.underlying t=some (.array n 9)) (cs:Array Value) (i:Nat) (hi:i<n) (x:Value) (hx:cs[i]? =some x) (w:World):
 (Instr.index t (.agg cs) (.int .i64 (i:Int))).run prog w=.ok x w:=by
 have h2:=Tryz.sizeOf9 w
 simp[Instr.index,XR ht,asIntOf,part,hx,h2,go_sem]
 omega
theorem Ext.rowX {a w:World} {b:Nat} {t:TypeId} {n:Nat} {f:Nat->Value} (h:a.rowIs b t n f) (hx:Ext a w):w.rowIs b t n f:=h.of_block (hx.block _ h.lt)
theorem VW (R:Array Value) (hR:R.size=10) (h1:R.all (·.oneCell')=true) (w:World):
 (storeCells ⟨w.heap.size,0,none⟩ R.toList).run prog (w.alloc (.cells #[.string ⟨#[]⟩,.string ⟨#[]⟩,.string ⟨#[]⟩,.string ⟨#[]⟩,.string ⟨#[]⟩,.string ⟨#[]⟩,.string ⟨#[]⟩,.string ⟨#[]⟩,.string ⟨#[]⟩,.string ⟨#[]⟩] 210))=.ok () (w.alloc (.cells R 210)):=
 run_storeCells_new w 210 _ R (by rw[hR];kernel_rfl) (by rw[hR];rfl) h1
theorem ZmM (R:Array Value) (t:TypeId) (w:World):(w.alloc (.cells R t)).rowIs w.heap.size t R.size (fun i=>R.getD i undef):=
 NF w R t _ (fun i hi=>by simp[hi])
theorem H7 (R:Array Value) (t:TypeId) (w:World) {i:Nat} {x:Value} (h:R[i]? =some x):(w.alloc (.cells R t)).cell? ⟨w.heap.size,i,none⟩=some x:=by
 have hi:i<R.size:=by rcases P4 i R.size with h'|h';(·exact h');·rw[YC h']at h;cases h
 rw[(ZmM R t w).cell hi];simp only[FA,h];rfl
end
end Go.Proofs.YtbngggoccndefaaGreatDoor
section
namespace Go.Proofs.YtbngggoccndefaaGreatDoor
open Go.Proofs.Tryz
open Go.RowKit
def GB (row:Option Nat) (w w':World):Prop:=w.grownBy w' row
theorem GB.refl {row:Option Nat} (w:World):GB row w w:=⟨rfl,rfl,rfl,K0 _,fun _ _ _=>rfl⟩
theorem GB.trans {row:Option Nat} {a b c:World} (h:GB row a b) (k:GB row b c):GB row a c:=World.grownBy.trans h k
theorem GB.ext {row:Option Nat} {a b:World} (h:Ext a b):GB row a b:=⟨h.os,h.tape,h.output,h.size,fun i hi _=>h.block i hi⟩
theorem GB.drew {row:Option Nat} {a w:World} (h:GB row a w):GB row a w.drew:=h.trans (GB.ext (Ext.refl w).drew)
theorem GB.size {row:Option Nat} {a w:World} (h:GB row a w):a.heap.size<=w.heap.size:=World.grownBy.size h
theorem GB.heap {row:Option Nat} {a w:World} (h:GB row a w) {b:Nat} {o:Obj} (hb:a.heap[b]? =some o) (hne:row≠some b):w.heap[b]? =some o:=by rw[World.grownBy.block h b (O3.1 hb).1 (fun e=>hne e.symm)];exact hb
end Go.Proofs.YtbngggoccndefaaGreatDoor
namespace Go.Proofs.YtbngggoccndefaaGreatDoor.RG
open Go.Proofs.Tryz
open Go.RowKit
variable {row:Option Nat}
def relUpon (P:Program) (K:Value->World->Prop):Result Next->Prop
 | .ok (.value v) w'=>K v w'
 | .ok .skip w'=>K undef w'
 | .ok (.enter f args) w'=>Calls P f args w' fun e w''=>∃v,e=.returned v∧K v w''
 |_=>False
def ZA (P:Program) (o:Oper) (a:Act) (w:World) (K:Value->World->Prop):Prop:=relUpon P K ((execOp a.eval o).run P w)
theorem NH {P:Program} {o:Oper} {a:Act} {w:World} {K:Value->World->Prop} {K':Act->World->Prop} {Q:Exit->Act->World->Prop}
 (h:ZA P o a w K) (hk:∀v w',K v w'->K' (a.put o.dst v) w'):o.wp P a w K' Q:=by
 unfold ZA at h
 unfold Oper.wp
 generalize(execOp a.eval o).run P w=r at*
 cases r with
 |ok n w'=>exact vL
 |halt x w'=>simp only[relUpon]at h
def fillA (V:Nat->Value) (ds:List Nat) (a:Act):Act:=ds.foldl (fun a d=>a.put (some d) (V d)) a
theorem vM (a:Act) (d:Nat):a.put (some d) (a.tmps.getD d undef)=a:=by
 cases a with
 |mk t df=>exact vN
theorem vO (a:Act) (d:Nat) (u v:Value):(a.put (some d) u).put (some d) v=a.put (some d) v:=by unfold Act.put;simp[vP]
theorem NI (ds:List Nat):∀a:Act,fillA (fun d=>a.tmps.getD d undef) ds a=a:=vQ
theorem vR (V:Nat->Value) (d:Nat) (v:Value):∀(ds:List Nat) (a:Act),d∉ds->(fillA V ds a).put (some d) v=fillA (fun x=>if x=d then v else V x) ds (a.put (some d) v):=by
 intro ds
 induction ds with
 |nil=>intro a _;rfl
 |cons c ds ih=>exact vS
theorem FC (V:Nat->Value) (d:Nat) (v:Value):∀(ds:List Nat) (a:Act),ds.Nodup->d∈ds->(fillA V ds a).put (some d) v=fillA (fun x=>if x=d then v else V x) ds a:=by
 intro ds
 induction ds with
 |nil=>intro a _ h;cases h
 |cons c ds ih=>exact vT
def ZP (ops:Array Oper) (k i:Nat):Bool:=match ops[k]? with
 |some o=>o.after.any fun e=>Region.binds .any e&&e.on==i
 |none=>false
def Zt (n m:Nat):Array Bool:=(List.replicate m true++List.replicate (n-m) false).toArray
def cnt (n:Nat) (l:Array Bool):Nat:=(List.range n).countP fun i=> !l.getD i true
theorem vU {l:List Nat} (hn:l.Nodup) {p q:Nat->Bool} {i:Nat} (hi:i∈l) (hp:p i=true) (hq:q i=false) (h:∀j,j≠i->q j=p j):l.countP q+1=l.countP p:=by
 induction l with
 |nil=>cases hi
 |cons c l ih=>exact vV
theorem NJ {n:Nat} {l:Array Bool} {i:Nat} (hs:l.size=n) (h:l.getD i true=false):cnt n (l.setIfInBounds i true)+1=cnt n l:=vW
theorem VZ {ops:Array Oper} {k i:Nat} {o:Oper} (ho:ops[k]? =some o) (h:ZP ops k i=true):∃e∈o.after,Region.binds .any e=true∧e.on=i:=vX
section
variable {P:Program} {ops:Array Oper} {Q:Exit->Act->World->Prop} {W:World} {a:Act} {m:Nat} {ds:List Nat} {deps:List (List Nat)} {R:Nat->Value->World->Prop}
theorem NK {l:Array Bool} {i:Nat} (h:i<l.size):l.getD i true=l.getD i false:=by simp[h]
end
abbrev Rel:=Value->World->Prop
def eqv (t:Value):Rel:=fun v _=>v=t
def Z6 (acc:List Rel) (k:Nat) (ds:List Nat) (V:Nat->Value) (w:World):List Nat->Prop
 | []=>True
 |j::l=>(acc.getD (k-1-j) fun _ _=>True) (V (ds.getD j 0)) w∧Z6 acc k ds V w l
theorem SX {acc:List Rel} {k:Nat} {ds:List Nat} {V:Nat->Value} {w:World} {l:List Nat}:Z6 acc k ds V w l↔∀j∈l,(acc.getD (k-1-j) fun _ _=>True) (V (ds.getD j 0)) w:=by
 induction l with
 |nil=>simp[Z6]
 |cons j l ih=>simp[Z6,ih]
theorem NM (V:Nat->Value) (d:Nat):∀(ds:List Nat) (a:Act),ds.contains d=false->(fillA V ds a).tmps.getD d undef=a.tmps.getD d undef:=by
 intro ds
 induction ds with
 |nil=>intro a _;rfl
 |cons c ds ih=>exact vY
theorem vZ (V:Nat->Value) (d:Nat):∀(ds:List Nat) (a:Act),ds.contains d=true->d<a.tmps.size->(fillA V ds a).tmps.getD d undef=V d:=by
 intro ds
 induction ds with
 |nil=>intro a h;cases h
 |cons c ds ih=>exact kA
theorem evalHit {A:Act} {V:Nat->Value} {ds:List Nat} {a:Act} (hA:A=fillA V ds a) (d:Nat) (h:(ds.contains d&&decide (d<a.tmps.size))=true):A.eval (.tmp d)=V d:=kB
theorem evalMiss {A:Act} {V:Nat->Value} {ds:List Nat} {a:Act} (hA:A=fillA V ds a) (d:Nat) (h:ds.contains d=false):A.eval (.tmp d)=a.eval (.tmp d):=by subst hA;exact NM V d ds a h
theorem relAt_ops {P:Program} {o:Oper} {V:Nat->Value} {ds:List Nat} {a:Act} {w:World} {K:Value->World->Prop}
 (h:∀(A:Act) (ρ:Operand->Value),A=fillA V ds a->ρ=A.eval->(∀v,ρ (.const v)=v)->(∀f,ρ (.func f)=.func (.func f) #[] #[])->relUpon P K ((execOp ρ o).run P w)):ZA P o (fillA V ds a) w K:=
 h _ _ rfl rfl (fun _=>rfl) (fun _=>rfl)
theorem relUpon_move {P:Program} {o:Oper} {ρ:Operand->Value} {w:World} {K:Value->World->Prop} {x:Operand} (h:o.op=.move x∨o.op=.assign x:=by first|exact .inl rfl|exact .inr rfl) (hk:K (ρ x) w):relUpon P K ((execOp ρ o).run P w):=FD
end Go.Proofs.YtbngggoccndefaaGreatDoor.RG
end
section
namespace Go.Proofs.YtbngggoccndefaaGreatDoor.Cd
open Go.Proofs.Tryz
theorem cmp_size (k:Nat) (l:List UInt8) (h1:1<=k) (h8:k<=8):(cmp k l).length=size k:=by
 match k,h1,h8 with
 |1,_,_=>rfl
 |2,_,_=>rfl
 |3,_,_=>rfl
 |4,_,_=>rfl
 |5,_,_=>rfl
 |6,_,_=>rfl
 |7,_,_=>rfl
 |8,_,_=>rfl
theorem ver_zero_iff (k:Nat) (l:List UInt8):ver k l=0↔l.length<=4096∧fits k l.length=true∧(∀c∈l.take (l.length-size k),datB k (c.toNat:Int)=true)∧(∀c∈l.drop (l.length-size k),chkB k (c.toNat:Int)=true)∧cmp k (l.take (l.length-size k))=l.drop (l.length-size k):=by
 unfold ver;rw[<-U1 (p:=fun c:UInt8=>datB k c.toNat),<-U1 (p:=fun c:UInt8=>chkB k c.toNat)];by_cases h1:4096<l.length;·rw[D0 h1];constructor;(·intro h;omega);·intro h;omega
 rw[C0 h1];cases h2:fits k l.length;·simp
 rw[C0 L0];cases h3:(l.take (l.length-size k)).all (fun c=>datB k c.toNat);·simp
 rw[C0 L0];cases h4:(l.drop (l.length-size k)).all (fun c=>chkB k c.toNat);·simp
 rw[C0 L0];by_cases h5:cmp k (l.take (l.length-size k))=l.drop (l.length-size k);·rw[D0 h5];simp[h5];omega
 ·rw[C0 h5];simp[h5]
theorem verI_nat (n:Nat) (l:List UInt8) (h1:1<=n) (h8:n<=8):verI (n:Int) l=ver n l:=by rw[verI,C0 B0,Y5]
end Go.Proofs.YtbngggoccndefaaGreatDoor.Cd
namespace Go.Proofs.YtbngggoccndefaaGreatDoor.Cd
open Go.Proofs.Tryz
def vx (c:UInt8):Int:=if c=88 then 10 else dg c
theorem vx_dig {c:UInt8} (h:48<=c.toNat∧c.toNat<=57):vx c=dg c:=C0 (by rintro rfl;revert h;decide)
theorem dg_inj {a b:UInt8} (h:dg a=dg b):a=b:=by unfold dg at h;exact R4.1 B0
theorem vx_chr (v:Int) (h0:0<=v) (h1:v<=10):vx (chr v)=v:=by
 obtain⟨n,rfl⟩:=K4 h0;have h:∀n:Fin 11,vx (chr (n.1:Int))=(n.1:Int):=by decide
 exact h ⟨n,by omega⟩
theorem dg_chr (v:Int) (h0:0<=v) (h1:v<=9):dg (chr v)=v:=by
 obtain⟨n,rfl⟩:=K4 h0;have h:∀n:Fin 10,dg (chr (n.1:Int))=(n.1:Int):=by decide
 exact h ⟨n,by omega⟩
def gsF:List UInt8->Int×Int
 | []=>(0,1)
 |c::l=>((gsF l).1+(gsF l).2*dg c,4-(gsF l).2)
theorem gsF_w (l:List UInt8):(gsF l).2=if l.length%2=0 then 1 else 3:=by
 induction l with
 |nil=>rfl
 |cons c l ih=>simp only[gsF,ih,D1];split<;>split<;>omega
theorem gsF_snoc (l:List UInt8) (d:UInt8):gsF (l++[d])=((gsP l).1+dg d,(gsP l).2):=by
 induction l with
 |nil=>simp[gsF,gsP]
 |cons c l ih=>simp only[J3,gsF,ih,gsP];congr 1;omega
theorem allDig_app {a b:List UInt8} (h:AllDig (a++b)):AllDig a∧AllDig b:=⟨fun x hx=>h x (List.mem_append_left _ hx),fun x hx=>h x (List.mem_append_right _ hx)⟩
end Go.Proofs.YtbngggoccndefaaGreatDoor.Cd
namespace Go.Proofs.YtbngggoccndefaaGreatDoor.Cd
open Go.Proofs.Tryz
theorem parts (k:Nat) (s:List UInt8) (h1:1<=k) (h8:k<=8) (h:ver k s=0):∃l,s=l++cmp k l∧(∀c∈l,datB k (c.toNat:Int)=true)∧l≠ []∧(k=3->l.length=9)∧(∀c∈s,chkB k (c.toNat:Int)=true):=by
 obtain⟨_,hf,hd,hc,he⟩:=(ver_zero_iff k s).1 h;have hlt:=fits_lt k s.length hf;refine⟨s.take (s.length-size k),?_,hd,?_,?_,?_⟩;·rw[he];exact(J7 _ _).symm
 ·intro e;have:(s.take (s.length-size k)).length=0:=(by rw[e];rfl);exact NQ
 ·rintro rfl;have:=fits_isbn _ hf;rw[M1,this];rfl
 ·intro c hcs;rw[<-J7 (s.length-size k) s]at hcs;rcases B5.1 hcs with hc'|hc';(·have:=hd c hc';unfold datB at this;unfold chkB;split;(·simp_all);·split<;>simp_all);·exact hc c hc'
end Go.Proofs.YtbngggoccndefaaGreatDoor.Cd
end
section
namespace Go.Proofs.YtbngggoccndefaaGreatDoor
open Go.Proofs.Tryz
open Go.RowKit
structure ZH (w:World) (bc bp bz:Nat) (cs ps:ByteArray) (z:Nat):Prop where
 c:w.cell? ⟨bc,0,none⟩=some (.string cs)
 p:w.cell? ⟨bp,0,none⟩=some (.string ps)
 z:w.cell? ⟨bz,0,none⟩=some (.int .i64 (z:Int))
 lc:bc<w.heap.size
 lp:bp<w.heap.size
 lz:bz<w.heap.size
theorem ZH.ext {w w':World} {bc bp bz:Nat} {cs ps:ByteArray} {z:Nat} (h:ZH w bc bp bz cs ps z) (hx:Ext w w'):ZH w' bc bp bz cs ps z:=
 ⟨by rw[hx.cell (p:=⟨bc,0,none⟩) h.lc];exact h.c,by rw[hx.cell (p:=⟨bp,0,none⟩) h.lp];exact h.p,by rw[hx.cell (p:=⟨bz,0,none⟩) h.lz];exact h.z,
  G2 h.lc hx.size,G2 h.lp hx.size,G2 h.lz hx.size⟩
theorem kI (ps:ByteArray) (z i:Nat):(ps.extract (i*z) ((i+1)*z)).data.toList=Tw.cutAt ps.data.toList z i:=by rw[Z0];unfold Tw.cutAt;congr 1;rw[Nat.add_mul,Nat.one_mul];omega
theorem SY (cs ps:ByteArray) (z:Nat) (c:UInt8) (bc bp bz:Nat) (w:World) (hA:ZH w bc bp bz cs ps z) (hz:z=5∨z=7∨z=9) (hps:ps.size=cs.size*z) (hcs:cs.size<=100):
 Calls prog 236 #[.int .u8 (c.toNat:Int),.pointer (some ⟨bc,0,none⟩),.pointer (some ⟨bp,0,none⟩),.pointer (some ⟨bz,0,none⟩)] w
  fun e w'=>e=.returned (.tuple #[.string ⟨(Tw.pat cs.data.toList ps.data.toList z c).1.toArray⟩,.bool (Tw.pat cs.data.toList ps.data.toList z c).2])∧w=w':=by
 obtain⟨h1,h2,h3,_,_,_⟩:=hA
 have HI:=A0 (OV cs (c.toNat:Int) w)
 rw[SO]at HI
 have HB:=A0 (Tw.pat.eq_1 cs.data.toList ps.data.toList z c)
 by_cases h0:Lib.indexByte cs.data.toList c<0
 ·rw[D0 h0]at HB;rw[HB.out];generalize Lib.indexByte cs.data.toList c=x at*;go_enter func236,ntmps236;go_wp2_with fail;refine HI.out.mono ?_;rintro e w1 ⟨rfl,rfl⟩;exact SZ
 ·rw[C0 h0]at HB;rw[HB.out];obtain⟨n,hn⟩:=K4 (show 0<=Lib.indexByte cs.data.toList c by omega);have hl:=XO _ _ _ hn;rw[Zd]at hl;rw[hn]at HI⊢;clear HB h0 hn;rw[Y5];have HC:=A0 (kI ps z n);rcases hz with rfl|rfl|rfl;all_goals go_enter func236,ntmps236;go_wp2_with fail;refine HI.out.mono ?_;rintro e w1 ⟨rfl,rfl⟩;go_wp2;go_ret2;exact⟨by rw[<-HC.out,Z4];rfl,rfl⟩
theorem FM (cs ps:ByteArray) (z:Nat) (p:ByteArray) (bc bp bz:Nat) (w:World) (hA:ZH w bc bp bz cs ps z) (hz:z=5∨z=7∨z=9) (hps:ps.size=cs.size*z) (hcs:cs.size<=100):
 Calls prog 237 #[.string p,.pointer (some ⟨bc,0,none⟩),.pointer (some ⟨bp,0,none⟩),.pointer (some ⟨bz,0,none⟩)] w
  fun e w'=>e=.returned (.tuple #[.int .u8 ((Tw.chr cs.data.toList ps.data.toList z p.data.toList).1.toNat:Int),.bool (Tw.chr cs.data.toList ps.data.toList z p.data.toList).2])∧w=w':=by
 obtain⟨h1,h2,h3,_,_,_⟩:=hA
 have HC:=A0 (kI ps z)
 have HN:=A0 (Tw.chr_none cs.data.toList ps.data.toList z p.data.toList)
 have HF:=A0 (Tw.chr_at cs.data.toList ps.data.toList z p.data.toList)
 rw[Zd]at HN HF
 generalize Tw.chr cs.data.toList ps.data.toList z p.data.toList=res at*
 obtain⟨Q,hQ⟩:∃Q:Nat->Bool,∀j,((ps.extract (j*z) ((j+1)*z)).toList==p.toList)=Q j:=⟨_,fun _=>rfl⟩
 have HQ:Hid (∀j,Tw.cutAt ps.data.toList z j=p.data.toList↔Q j=true):=A0 fun j=>by rw[<-hQ,C2,C2,HC.out];simp
 have HQQ:=A0 hQ
 clear hQ HC
 have HN2:Hid ((∀j,j<cs.size->Q j=false)->res=(0,false)):=A0 fun h=>HN.out fun i hi he=>by have:=(HQ.out i).1 he;rw[h i hi]at this;exact NR
 have HF2:Hid (∀j,j<cs.size->Q j=true->(∀i,i<j->Q i=false)->res=(cs.data.toList.getD j 0,true)):=A0 fun j hj h hb=>HF.out j hj ((HQ.out j).2 h) fun i hi he=>by have:=(HQ.out i).1 he;rw[hb i hi]at this;exact NR
 clear HQ HN HF
 rcases hz with rfl|rfl|rfl
 all_goals go_enter func237,ntmps237;go_wp2;go_loop [10] (fun i=>∃j:Nat,j<=cs.size∧i=.int .i64 (j:Int)∧Hid (∀m,m<j->Q m=false)) (fun i=>cs.size-(intOf i).toNat);(case atStart=>exact⟨0,O0 _,rfl,A0 (fun m hm=>absurd hm (W7 _))⟩);case round=>obtain⟨j,hj,rfl,HB⟩:=hrel;by_cases hlt:j<cs.size;(·have hq:=HQQ.out j;cases hqj:Q j;(·rw[hqj]at hq;have HJ:=A0 hqj;clear hqj;go_wp2;go_round;(case rel=>exact⟨j+1,by omega,by go_num,A0 (fun m hm=>by rcases XT (XU hm)with h|rfl;(·exact HB.out m h);·exact HJ.out)⟩);case measure=>exact Q8);·rw[hqj]at hq;have:=HF2.out j hlt hqj HB.out;subst this;clear hqj;exact SZ);·obtain rfl:j=cs.size:=B0;have:=HN2.out HB.out;subst this;clear hlt hj;exact SZ
end Go.Proofs.YtbngggoccndefaaGreatDoor
namespace Go.Proofs.YtbngggoccndefaaGreatDoor
open Go.Proofs.Tryz
open Go.RowKit
def H8 (z bc bp bz:Nat):Value:=
 .agg #[.int .i64 (z:Int),.func (.func 236) #[] #[.pointer (some ⟨bc,0,none⟩),.pointer (some ⟨bp,0,none⟩),.pointer (some ⟨bz,0,none⟩)],
  .func (.func 237) #[] #[.pointer (some ⟨bc,0,none⟩),.pointer (some ⟨bp,0,none⟩),.pointer (some ⟨bz,0,none⟩)]]
theorem FN (cs ps:ByteArray) (z:Nat) (w:World) (hc:cs.size=44∧ps.size=396∧z=9∨cs.size=20∧ps.size=140∧z=7∨cs.size=10∧ps.size=50∧z=5):
 Calls prog 165 #[.string cs,.string ps] w
  fun e w'=>∃bc bp bz,e=.returned (H8 z bc bp bz)∧ZH w' bc bp bz cs ps z∧(w.heap.size<=bc∧w.heap.size<=bp∧w.heap.size<=bz)∧Ext w w':=by
 rcases hc with⟨h1,h2,rfl⟩|⟨h1,h2,rfl⟩|⟨h1,h2,rfl⟩
 all_goals
  go_enter func165,ntmps165;go_wp2;refine V4 (v:=H8 _ w.heap.size (w.heap.size+1) (w.heap.size+1+1+1)) (by simp[results,results165,go_sem,H8]) rfl
   ⟨_,_,_,rfl,⟨by simp[go_sem],by simp[go_sem],by simp[go_sem],by simp;omega,by simp,by simp⟩,⟨by omega,by omega,by omega⟩,Xe⟩
def RA (z bc bp bz ba be bi bl bm:Nat) (comp text:Value):Value:=
 .agg #[.int .i64 (z:Int),.func (.func 236) #[] #[.pointer (some ⟨bc,0,none⟩),.pointer (some ⟨bp,0,none⟩),.pointer (some ⟨bz,0,none⟩)],
  .func (.func 237) #[] #[.pointer (some ⟨bc,0,none⟩),.pointer (some ⟨bp,0,none⟩),.pointer (some ⟨bz,0,none⟩)],.func (.func 233) #[] #[.pointer (some ⟨ba,0,none⟩),.pointer (some ⟨bl,0,none⟩),.pointer (some ⟨bm,0,none⟩)],comp,
  .func (.func 234) #[] #[.pointer (some ⟨ba,0,none⟩)],
  .func (.func 235) #[] #[.pointer (some ⟨ba,0,none⟩),.pointer (some ⟨be,0,none⟩),.pointer (some ⟨bi,0,none⟩)],text]
structure ZC (w:World) (z bc bp bz ba be bi bl bm:Nat) (edge inner:ByteArray) (least most:Nat):Prop where
 a0:w.cell? ⟨ba,0,none⟩=some (.int .i64 (z:Int))
 a1:w.cell? ⟨ba,1,none⟩=some (.func (.func 236) #[] #[.pointer (some ⟨bc,0,none⟩),.pointer (some ⟨bp,0,none⟩),.pointer (some ⟨bz,0,none⟩)])
 a2:w.cell? ⟨ba,2,none⟩=some (.func (.func 237) #[] #[.pointer (some ⟨bc,0,none⟩),.pointer (some ⟨bp,0,none⟩),.pointer (some ⟨bz,0,none⟩)])
 e:w.cell? ⟨be,0,none⟩=some (.string edge)
 i:w.cell? ⟨bi,0,none⟩=some (.string inner)
 l:w.cell? ⟨bl,0,none⟩=some (.int .i64 (least:Int))
 m:w.cell? ⟨bm,0,none⟩=some (.int .i64 (most:Int))
 la:ba<w.heap.size
 le:be<w.heap.size
 li:bi<w.heap.size
 ll:bl<w.heap.size
 lm:bm<w.heap.size
theorem ZC.ext {w w':World} {z bc bp bz ba be bi bl bm:Nat} {edge inner:ByteArray} {least most:Nat} (h:ZC w z bc bp bz ba be bi bl bm edge inner least most) (hx:Ext w w'):
 ZC w' z bc bp bz ba be bi bl bm edge inner least most:=
 ⟨by rw[hx.cell (p:=⟨ba,0,none⟩) h.la];exact h.a0,by rw[hx.cell (p:=⟨ba,1,none⟩) h.la];exact h.a1,by rw[hx.cell (p:=⟨ba,2,none⟩) h.la];exact h.a2,
  by rw[hx.cell (p:=⟨be,0,none⟩) h.le];exact h.e,by rw[hx.cell (p:=⟨bi,0,none⟩) h.li];exact h.i,by rw[hx.cell (p:=⟨bl,0,none⟩) h.ll];exact h.l,by rw[hx.cell (p:=⟨bm,0,none⟩) h.lm];exact h.m,
  G2 h.la hx.size,G2 h.le hx.size,G2 h.li hx.size,G2 h.ll hx.size,G2 h.lm hx.size⟩
theorem kJ (z bc bp bz:Nat) (edge inner:ByteArray) (least most:Nat) (w:World):
 Calls prog 164 #[H8 z bc bp bz,.string edge,.string inner,.int .i64 (least:Int),.int .i64 (most:Int)] w
  fun e w'=>∃ba be bi bl bm,e=.returned (RA z bc bp bz ba be bi bl bm .nilFunc .nilFunc)∧ZC w' z bc bp bz ba be bi bl bm edge inner least most∧(w.heap.size<=ba∧w.heap.size<=be∧w.heap.size<=bi∧w.heap.size<=bl∧w.heap.size<=bm)∧Ext w w':=by
 unfold H8
 go_enter func164,ntmps164
 go_wp2
 refine V4 (v:=RA z bc bp bz w.heap.size (w.heap.size+1) (w.heap.size+1+1) (w.heap.size+1+1+1) (w.heap.size+1+1+1+1) .nilFunc .nilFunc) (by simp[results,results164,go_sem,RA]) rfl
  ⟨_,_,_,_,_,rfl,⟨by simp[go_sem],by simp[go_sem],by simp[go_sem],by simp[go_sem],by simp[go_sem],by simp[go_sem],by simp[go_sem],by simp;omega,by simp,by simp,by simp,by simp⟩,⟨by omega,by omega,by omega,by omega,by omega⟩,Xe⟩
theorem ZH.keep {w w':World} {B bc bp bz:Nat} {cs ps:ByteArray} {z:Nat} (h:ZH w bc bp bz cs ps z) (hk:∀b o,b≠B->b<w.heap.size->w'.cell? ⟨b,o,none⟩=w.cell? ⟨b,o,none⟩) (hs:w.heap.size<=w'.heap.size) (h1:B<bc) (h2:B<bp) (h3:B<bz):ZH w' bc bp bz cs ps z:=
 ⟨by rw[hk _ _ B0 h.lc];exact h.c,by rw[hk _ _ B0 h.lp];exact h.p,by rw[hk _ _ B0 h.lz];exact h.z,
  G2 h.lc hs,G2 h.lp hs,G2 h.lz hs⟩
theorem ZC.keep {w w':World} {B z bc bp bz ba be bi bl bm:Nat} {edge inner:ByteArray} {least most:Nat} (h:ZC w z bc bp bz ba be bi bl bm edge inner least most)
 (hk:∀b o,b≠B->b<w.heap.size->w'.cell? ⟨b,o,none⟩=w.cell? ⟨b,o,none⟩) (hs:w.heap.size<=w'.heap.size) (h1:B<ba) (h2:B<be) (h3:B<bi) (h4:B<bl) (h5:B<bm):ZC w' z bc bp bz ba be bi bl bm edge inner least most:=
 ⟨by rw[hk _ _ B0 h.la];exact h.a0,by rw[hk _ _ B0 h.la];exact h.a1,by rw[hk _ _ B0 h.la];exact h.a2,
  by rw[hk _ _ B0 h.le];exact h.e,by rw[hk _ _ B0 h.li];exact h.i,by rw[hk _ _ B0 h.ll];exact h.l,by rw[hk _ _ B0 h.lm];exact h.m,
  G2 h.la hs,G2 h.le hs,G2 h.li hs,G2 h.ll hs,G2 h.lm hs⟩
end Go.Proofs.YtbngggoccndefaaGreatDoor
namespace Go.Proofs.YtbngggoccndefaaGreatDoor
open Go.Proofs.Tryz
open Go.RowKit
theorem kK (z bc bp bz ba be bi bl bm:Nat) (edge inner:ByteArray) (least most:Nat) (n:Nat) (check:Bool) (w:World) (hz:z=7∨z=9) (hA:ZC w z bc bp bz ba be bi bl bm edge inner least most) (hl:least<=1) (hm:most<=1000) (hn:n<=9223372036854775806):
 Calls prog 233 #[.int .i64 (n:Int),.bool check,.pointer (some ⟨ba,0,none⟩),.pointer (some ⟨bl,0,none⟩),.pointer (some ⟨bm,0,none⟩)] w
  fun e w'=>e=.returned (.bool (Tw.counts z least most n check))∧w=w':=by
 obtain⟨h1,_,_,_,_,h2,h3,_,_,_,_,_⟩:=hA
 have HT:=A0 (Tw.counts.eq_1 z least most n check)
 rcases hz with rfl|rfl
 all_goals cases check;all_goals go_enter func233,ntmps233;go_wp2;all_goals go_ret;refine⟨Zm ?_,rfl⟩;rw[HT.out,C4];simp;omega
theorem RB (s cs:ByteArray) (w:World) (hs:s.size<=9223372036854775807):
 Calls prog 167 #[.string s,.string cs] w fun e w'=>e=.returned (.bool (Tw.only s.data.toList cs.data.toList))∧w=w':=by
 have HL:=A0 (fun c=>OV cs c w)
 go_enter func167,ntmps167
 go_wp2
 go_loop [8] (fun i=>∃j:Nat,j<=s.size∧i=.int .i64 (j:Int)∧Hid (∀c∈s.data.toList.take j,0<=Lib.indexByte cs.data.toList c)) (fun i=>s.size-(intOf i).toNat)
 case atStart=>exact⟨0,O0 _,rfl,A0 (fun c hc=>by simp at hc)⟩
 case round=>obtain⟨j,hj,rfl,HB⟩:=hrel;by_cases hlt:j<s.size;(·have HI:=A0 (HL.out (s[j].toNat:Int));rw[SO]at HI;obtain⟨x,hx⟩:∃x,Lib.indexByte cs.data.toList s[j]=x:=⟨_,rfl⟩;rw[hx]at HI;have HX:=A0 hx;clear hx;by_cases h0:x<0;(·have hd:decide (x<0)=true:=VQ;go_wp2_with fail;refine HI.out.mono ?_;rintro e w1 ⟨rfl,rfl⟩;go_wp2;go_ret;refine⟨Zm ?_,rfl⟩;symm;unfold Tw.only;rw[YG];exact⟨s[j],Zn s j hlt,by rw[HX.out];simp;omega⟩);·have hd:decide (x<0)=false:=VQ;go_wp2_with fail;refine HI.out.mono ?_;rintro e w1 ⟨rfl,rfl⟩;go_wp2;go_round;(case rel=>exact⟨j+1,by omega,by go_num,A0 (fun c hc=>by rw[ZF s j hlt,B5]at hc;rcases hc with h|h;(·exact HB.out c h);·rw[U3]at h;rw[h,HX.out];omega)⟩);case measure=>exact Q8);·obtain rfl:j=s.size:=B0;rw[Z3]at HB;clear hj hlt;go_wp2;go_ret;refine⟨Zm ?_,rfl⟩;symm;unfold Tw.only;rw[U1];exact fun c hc=>by simpa using HB.out c hc
theorem ZX {a:ByteArray} {l:List UInt8} {x y:Int} (h1:a.data.toList=l) (h2:x=y):Ending.returned (.tuple #[.string a,.int .i64 x])=.returned (.tuple #[.string ⟨l.toArray⟩,.int .i64 y]):=by rw[<-h1,Z4,h2]
theorem UB {a:ByteArray} {l:List UInt8} (h1:a.data.toList=l):Ending.returned (.string a)=.returned (.string ⟨l.toArray⟩):=by rw[<-h1,Z4]
theorem kL (k:Int) (l:List UInt8):(Cd.compI k l).1.length<=2:=by
 unfold Cd.compI;split;·simp
 ·rename_i h
  unfold Cd.comp
  repeat' split
  all_goals first|(simp;done)|(rw[Cd.cmp_size _ _ B0 B0];exact Cd.size_bd _)|(rw[Cd.cmp_size _ _ B0 B0];have:=Cd.size_bd k.toNat;omega)
theorem Zip (s:ByteArray) (check:Bool) (w:World) (hs:s.size<=1000000):
 Calls prog 166 #[.string s,.bool check] w fun e w'=>e=.returned (.tuple #[.string ⟨(Tw.comp39 s.data.toList check).1.toArray⟩,.int .i64 (Tw.comp39 s.data.toList check).2])∧Ext w w':=by
 have HO:=A0 (fun w=>RB s ⟨Cd.syms.toArray⟩ w B0)
 have HT:=A0 (Tw.comp39.eq_1 s.data.toList check)
 change Hid (∀w,Calls prog 167 #[.string s,.string ⟨#[48,49,50,51,52,53,54,55,56,57,65,66,67,68,69,70,71,72,73,74,75,76,77,78,79,80,81,82,83,84,85,86,87,88,89,90,45,46,32,36,47,43,37]⟩] w fun e w'=>e=.returned (.bool (Tw.only s.data.toList Cd.syms))∧w=w')at HO
 cases ho:Tw.only s.data.toList Cd.syms
 ·rw[ho]at HO HT;rw[D0 rfl]at HT;rw[HT.out];go_enter func166,ntmps166;go_wp2_with fail;refine(HO.out _).mono ?_;rintro e w1 ⟨rfl,rfl⟩;go_wp2;go_ret2;exact⟨rfl,Ext.refl _⟩
 ·rw[ho]at HO HT;rw[C0 Bool.noConfusion]at HT;clear ho;cases check;(·rw[D0 rfl]at HT;rw[HT.out];go_enter func166,ntmps166;go_wp2_with fail;refine(HO.out _).mono ?_;rintro e w1 ⟨rfl,rfl⟩;go_wp2;go_ret2;exact⟨ZX L0 rfl,Ext.refl _⟩);·rw[C0 Bool.noConfusion]at HT;have HC:=A0 (fun w=>OU 7 s w B0);by_cases h0:(Cd.compI 7 s.data.toList).2=0;(·rw[D0 h0]at HT;rw[HT.out];rw[h0]at HC;clear h0;have hdl:=kL 7 s.data.toList;generalize(Cd.compI 7 s.data.toList).1=d at*;obtain⟨D,rfl⟩:∃D:ByteArray,d=D.data.toList:=⟨⟨d.toArray⟩,by simp⟩;rw[Z4]at HC;rw[Zd]at hdl;go_enter func166,ntmps166;go_wp2_with fail;refine(HO.out _).mono ?_;rintro e w1 ⟨rfl,rfl⟩;go_wp2_with fail;refine(HC.out _).mono ?_;rintro e w2 ⟨rfl,hx2⟩;go_wp2;go_ret2;exact⟨ZX L0 rfl,hx2⟩);·rw[C0 h0]at HT;rw[HT.out];have hb:((Cd.compI 7 s.data.toList).2 !=0)=true:=(by rw[C3];exact h0);generalize(Cd.compI 7 s.data.toList).2=x at*;generalize(Cd.compI 7 s.data.toList).1=d at*;clear h0 HT;go_enter func166,ntmps166;go_wp2_with fail;refine(HO.out _).mono ?_;rintro e w1 ⟨rfl,rfl⟩;go_wp2_with fail;refine(HC.out _).mono ?_;rintro e w2 ⟨rfl,hx2⟩;go_wp2;go_ret2;exact⟨rfl,hx2⟩
theorem ZiW (s:ByteArray) (check:Bool) (w:World) (hs:s.size<=1000000) (h3:3<=s.size):
 Calls prog 168 #[.string s,.bool check] w fun e w'=>e=.returned (.string ⟨(Tw.text39 s.data.toList check).toArray⟩)∧w=w':=by
 have HT:=A0 (Tw.text39.eq_1 s.data.toList check)
 rw[Zd]at HT
 have HC1:=A0 (Z0 s 1 (s.size-1))
 have HC2:=A0 (Z0 s 1 (s.size-2))
 cases check
 ·have hn:((s.size:Int)-1).toNat=s.size-1:=B0;go_enter func168,ntmps168;go_wp2;go_ret;refine⟨UB ?_,rfl⟩;rw[HT.out];(first|rw[HC1.out]|(rw[hn,HC1.out])|skip);simp only[Bool.toNat_false];congr 1
 ·have hn:((s.size:Int)-2).toNat=s.size-2:=B0;go_enter func168,ntmps168;go_wp2;go_ret;refine⟨UB ?_,rfl⟩;rw[HT.out];(first|rw[HC2.out]|(rw[hn,HC2.out])|skip);simp only[Bool.toNat_true];try congr 1
end Go.Proofs.YtbngggoccndefaaGreatDoor
namespace Go.Proofs.YtbngggoccndefaaGreatDoor
open Go.Proofs.Tryz
open Go.RowKit
def strV (l:List UInt8):Value:=.string ⟨l.toArray⟩
theorem Ext.row {a w:World} {b:Nat} {t:TypeId} {n:Nat} {f:Nat->Value} (h:a.rowIs b t n f) (hx:Ext a w):w.rowIs b t n f:=h.of_block (hx.block _ h.lt)
theorem kM:∀(l:List (List UInt8)),(∀x∈l,x.length<=9)->(Lib.joinTail [110] l).length<=10*l.length
 | [],_=>by simp[Lib.joinTail]
 |x::l,h=>by have h1:=h x (N2 ..);have h2:=kM l (fun u hu=>h u (V2 _ hu));simp only[Lib.joinTail,I5,List.flatten_cons,T0,D1,O4]at h2⊢;omega
theorem Zli (l:List (List UInt8)) (h:∀x∈l,x.length<=9):(Lib.join l [110]).length<=10*l.length:=by
 cases l with
 |nil=>exact O0 _
 |cons x l=>have h1:=h x (N2 ..);have h2:=kM l (fun u hu=>h u (V2 _ hu));rw[Lib.join_cons,T0,D1];omega
theorem kN (cs ps:ByteArray) (z bc bp bz ba be bi bl bm:Nat) (edge inner:ByteArray) (least most:Nat) (s:ByteArray) (w:World) (hS:ZC w z bc bp bz ba be bi bl bm edge inner least most) (hA:ZH w bc bp bz cs ps z) (hz:z=5∨z=7∨z=9) (hps:ps.size=cs.size*z) (hcs:cs.size<=100) (hs:s.size<=1000000):
 Calls prog 234 #[.string s,.pointer (some ⟨ba,0,none⟩)] w
  fun e w'=>e=.returned (strV (Lib.join (s.data.toList.map fun c=>(Tw.pat cs.data.toList ps.data.toList z c).1) [110]))∧Ext w w':=by
 have hmk:=G9 (P:=prog) 141 9 (.string ⟨#[]⟩) 16 underlying141 G0 rfl .i64 .i64 s.size B0 B0
 have HP:Hid (∀w',Ext w w'->∀c:UInt8,Calls prog 236 #[.int .u8 (c.toNat:Int),.pointer (some ⟨bc,0,none⟩),.pointer (some ⟨bp,0,none⟩),.pointer (some ⟨bz,0,none⟩)] w'
  fun e w''=>e=.returned (.tuple #[.string ⟨(Tw.pat cs.data.toList ps.data.toList z c).1.toArray⟩,.bool (Tw.pat cs.data.toList ps.data.toList z c).2])∧w'=w''):=
  A0 fun w' hx c=>SY cs ps z c bc bp bz w' (hA.ext hx) hz hps hcs
 have HS:=A0 hS
 clear hS hA
 have HL:Hid (∀c,(Tw.pat cs.data.toList ps.data.toList z c).1.length<=9):=A0 fun c=>by unfold Tw.pat Tw.cutAt;split;(·simp);·simp only[M1];omega
 clear hz hps
 generalize Tw.pat cs.data.toList ps.data.toList z=pt at*
 go_enter func234,ntmps234
 go_wp2
 go_loopw [11] (fun i wr=>∃j:Nat,j<=s.size∧i=.int .i64 (j:Int)∧wr.rowIs w.heap.size 9 s.size (fun k=>if k<j then strV (pt (s.data.toList.getD k 0)).1 else .string ⟨#[]⟩)∧Ext w wr) (fun i _=>s.size-(intOf i).toNat)
 case atStart=>exact NS
 case round=>
  obtain⟨j,hj,rfl,hrow,hxr⟩:=hrel;by_cases hlt:j<s.size
  ·have hc1:=(HS.out.ext hxr).a1;have hcj:=hrow.cell hlt;have hfj:=hrow.frozen j;have HQ:=A0 (fun w' hx=>HP.out w' hx s[j]);have HR:Hid ((wr.setCell ⟨w.heap.size,j,none⟩ (.string ⟨(pt s[j]).1.toArray⟩)).rowIs w.heap.size 9 s.size (fun k=>if k<j+1 then strV (pt (s.data.toList.getD k 0)).1 else .string ⟨#[]⟩)):=
    A0 ((hrow.set j (.string ⟨(pt s[j]).1.toArray⟩)).congr (fun k hk=>by have hg:s.data.toList.getD j 0=s[j]:=vI;by_cases h1:k=j;(·subst h1;rw[D0 rfl,D0 B0,hg];rfl);·rw[C0 h1];by_cases h2:k<j;(·exact F9);·rw[C0 h2,C0 B0]))
   have HX:=A0 (hxr.setCell (p:=⟨w.heap.size,j,none⟩) (K0 _) (.string ⟨(pt s[j]).1.toArray⟩));clear hrow;go_wp2;go_region_with (go_at_call 236;refine(HQ.out _ ?_).mono ?_;(first|exact hxr|exact hxr.drew|exact hxr.drew.drew);rintro e w1 ⟨rfl,rfl⟩);all_goals go_wp2;go_roundw;(case rel=>exact⟨j+1,by omega,by go_num,HR.out.drew,HX.out.drew⟩);case measure=>exact Q8
  ·obtain rfl:j=s.size:=B0;have HJ:=A0 (Tryz.strings_Join w.heap.size 0 s.size (s.data.toList.map fun c=>⟨(pt c).1.toArray⟩) ⟨#[110]⟩ wr (fun k x hx=>by
    rw[J2,VO]at hx;obtain⟨c,hc,rfl⟩:=hx;have hk:=(I1.1 hc).1;rw[Zd]at hk;rw[T4,hrow.cell hk,D0 hk,U0,hc];rfl) (by have:=hrow.lt;exact this) FO FO
    (by rw[G7];exact B4 (Zli _ (fun x hx=>by rw[E7]at hx;obtain⟨c,_,rfl⟩:=hx;exact HL.out c)) FO))
   rw[J0,Zd,G7]at HJ;clear hrow hj hlt;exact kO
end Go.Proofs.YtbngggoccndefaaGreatDoor
end
