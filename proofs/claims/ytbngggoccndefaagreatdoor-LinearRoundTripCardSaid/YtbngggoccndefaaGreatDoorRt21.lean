/-
  Laid.
-/
import Derived.Test.YtbngggoccndefaaGreatDoorRt20
set_option maxHeartbeats 8000000
set_option maxRecDepth 100000
set_option linter.all false
section
namespace Go.Proofs.YtbngggoccndefaaGreatDoor
open Go.Proofs.Tryz
open Go.RowKit
theorem vG (ws:List Int) (C:Int):∀(l:List Int) (a:Int),C<=a->(∀x∈l,Tw.isWide ws x=true->C<=x)->C<=l.foldl (fun a x=>if Tw.isWide ws x then min a x else a) a
 | [],a,ha,_=>ha
 |y::l,a,ha,h=>by simp only[I3];refine vG ws C l _ ?_ (fun x hx=>h x (C1 _ hx));have:=h y (B1 ..);by_cases hy:Tw.isWide ws y=true;(·rw[G0 hy];have:=this hy;omega);·rw[D0 hy];exact ha
theorem vH (ws:List Int) (B:Int):∀(l:List Int) (a:Int),a<=B->(∀x∈l,Tw.isWide ws x=false->x<=B)->l.foldl (fun a x=>if Tw.isWide ws x then a else max a x) a<=B
 | [],a,ha,_=>ha
 |y::l,a,ha,h=>by simp only[I3];refine vH ws B l _ ?_ (fun x hx=>h x (C1 _ hx));have:=h y (B1 ..);by_cases hy:Tw.isWide ws y=true;(·rw[G0 hy];exact ha);·rw[D0 hy];have:=this (by simpa using hy);omega
theorem lE (ws:List Int) (bs:List Bool) (A B C D:Int) (hlen:ws.length=bs.length) (h:∀i (hi:i<ws.length) (hb:i<bs.length),(bs[i]=false->A<=ws[i]∧ws[i]<=B)∧(bs[i]=true->C<=ws[i]∧ws[i]<=D))
 (hn:false∈bs) (hw:true∈bs) (h1:1<=A) (h2:D<=65536) (h3:2*B<=A+C) (h4:B+D<2*C) (h5:3*B<=2*C):Tw.wide ws=(bs,0):=by
 obtain⟨i0,hi0,e0⟩:=TL.1 hn
 obtain⟨i1,hi1,e1⟩:=TL.1 hw
 have n0:=(h i0 C0 hi0).1 e0
 have n1:=(h i1 C0 hi1).2 e1
 have hne:ws≠ []:=by intro e;rw[e]at hlen;rw[U2]at hlen;omega
 have hall:∀x∈ws,(A<=x∧x<=B)∨(C<=x∧x<=D):=by intro x hx;obtain⟨i,hi,rfl⟩:=TL.1 hx;cases hb:bs[i]' C0;(·exact .inl ((h i hi C0).1 hb));·exact .inr ((h i hi C0).2 hb)
 have hlo:=hall _ (BM hne)
 have hhi:=hall _ (BN hne)
 have hlo2:=bQ (K4 (l:=ws) (n:=i0) C0)
 have hhi2:=bR (K4 (l:=ws) (n:=i1) C0)
 have hL:A<=Tw.lo ws∧Tw.lo ws<=B:=by omega
 have hH:C<=Tw.hi ws∧Tw.hi ws<=D:=by omega
 have hW:∀x,C<=x->Tw.isWide ws x=true:=fun x hx=>by unfold Tw.isWide;simp;omega
 have hN:∀x,x<=B->Tw.isWide ws x=false:=fun x hx=>by unfold Tw.isWide;simp;omega
 have hlw:C<=Tw.leastWide ws ws:=by unfold Tw.leastWide;refine vG ws C ws _ hH.1 (fun x hx hi=> ?_);rcases hall x hx with hq|hq;(·rw[hN x hq.2]at hi;exact Bool.noConfusion hi);·exact hq.1
 have hmn:Tw.mostNarrow ws ws<=B:=by unfold Tw.mostNarrow;refine vH ws B ws _ hL.2 (fun x hx hi=> ?_);rcases hall x hx with hq|hq;(·exact hq.2);·rw[hW x hq.1]at hi;exact Bool.noConfusion hi
 unfold Tw.wide
 rw[D0 hne,D0 (by rw[W6];unfold Tw.inRng;rw[S1];intro x hx;have:=hall x hx;simp;omega),D0 C0,D0 C0]
 refine I6 ?_ rfl
 apply B9
 ·simp[hlen]
 ·intro i hi hi';simp only[N0]at hi;simp only[H8];cases hb:bs[i];(·exact hN _ ((h i hi hi').1 hb).2);·exact hW _ ((h i hi hi').2 hb).1
def isW (e:List UInt8):List Bool:=e.map fun c=>decide (c=119)
def NW (e:List UInt8):Prop:=∀c∈e,c=110∨c=119
theorem vI (e:List UInt8) (h:NW e):Tw.elems (isW e)=e:=by
 unfold Tw.elems isW;rw[D6];conv=>rhs;rw[<-XD e]
 refine A8 (fun c hc=> ?_);rcases h c hc with rfl|rfl<;>rfl
theorem lF (e:List UInt8) (r f:Int) (hr:r=2∨r=3) (hf:1<=f∧f<=1000) (h0:110∈e) (h1:119∈e):Tw.wide ((Tw.widths r e).map (·*f))=(isW e,0):=by
 have hrf:r*f<=3000∧2*f<=r*f:=by rcases hr with rfl|rfl<;>omega
 refine lE _ _ f f (r*f) (r*f) (by simp[Tw.widths,isW]) (fun i hi hb=> ?_) (J3.2 ⟨110,h0,rfl⟩) (J3.2 ⟨119,h1,rfl⟩) hf.1 C0 C0 C0 C0;simp only[Tw.widths,isW,H8];refine⟨fun hq=> ?_,fun hq=> ?_⟩;·rw[D0 (by simpa using hq)];omega
 ·rw[G0 (by simpa using hq)];omega
end Go.Proofs.YtbngggoccndefaaGreatDoor
namespace Go.Proofs.YtbngggoccndefaaGreatDoor
open Go.Proofs.Tryz
open Go.RowKit
theorem GP (m:Nat):∀(L:List (List UInt8)) (i:Nat) (hi:i<L.length),(∀x∈L,x.length=m)->(L.flatten.drop (i*m)).take m=L[i]
 | [],i,hi,_=>absurd hi (YB _)
 |x::L,0,_,h=>by have:=h x (B1 ..);simp only[SL,I4,UB,List.getElem_cons_zero];rw[<-this,P6]
 |x::L,i+1,hi,h=>by have hx:=h x (B1 ..);have ih:=GP m L i WR (fun y hy=>h y (C1 _ hy));rw[UB,MN,<-ih,V8,VP];congr 1;rw[Nat.add_comm,<-hx,List.drop_append];simp
theorem GQ (m:Nat):∀(L:List (List UInt8)),(∀x∈L,x.length=m)->L.flatten.length=L.length*m
 | [],_=>by simp
 |x::L,h=>by rw[UB,O0,h x (B1 ..),GQ m L (fun y hy=>h y (C1 _ hy)),S0,V8];omega
theorem GR (L:List (List UInt8)) (h:L≠ []):110::Lib.join L [110]=(L.map (fun x=>110::x)).flatten:=by
 cases L with
 |nil=>exact absurd rfl h
 |cons x r=>rw[SY];simp[Lib.joinTail]
section
variable (cs ps:List UInt8) (z:Nat)
def pt (c:UInt8):List UInt8:=(Tw.pat cs ps z c).1
def drawn (chars:List UInt8):List UInt8:=Lib.join (chars.map (pt cs ps z)) [110]
def Good (c:UInt8):Prop:=(pt cs ps z c).length=z∧Tw.chr cs ps z (pt cs ps z c)=(c,true)
variable {cs ps z} {chars:List UInt8}
theorem vJ (h:∀c∈chars,Good cs ps z c) (i:Nat) (hi:i<chars.length):((110::drawn cs ps z chars).drop (i*(z+1))).take (z+1)=110::pt cs ps z chars[i]:=by unfold drawn;rw[GR _ (by intro e;have:=R0 List.length e;simp at this;rw[this]at hi;simp at hi)];rw[GP (z+1) _ i WR (fun x hx=>by rw[J3]at hx;obtain⟨y,hy,rfl⟩:=hx;rw[J3]at hy;obtain⟨c,hc,rfl⟩:=hy;rw[S0,(h c hc).1])];simp
theorem GS (h:∀c∈chars,Good cs ps z c) (h0:chars≠ []):(drawn cs ps z chars).length+1=chars.length*(z+1):=by
 have:(110::drawn cs ps z chars).length=chars.length*(z+1):=by unfold drawn;rw[GR _ W8,GQ (z+1) _ (fun x hx=>by rw[J3]at hx;obtain⟨y,hy,rfl⟩:=hx;rw[J3]at hy;obtain⟨c,hc,rfl⟩:=hy;rw[S0,(h c hc).1])];simp
 exact V6
theorem OG (h:∀c∈chars,Good cs ps z c) (i:Nat) (hi:i<chars.length):((drawn cs ps z chars).drop (i*(z+1))).take z=pt cs ps z chars[i]:=by have h1:=vJ h i hi;have h2:=R0 (List.drop 1) h1;rw[UD,Y3]at h2;simpa using h2
theorem vK (h:∀c∈chars,Good cs ps z c) (i:Nat) (hi:i<chars.length) (h0:0<i):(drawn cs ps z chars).getD (i*(z+1)-1) 0=110:=by
 have h1:=vJ h i hi;have h2:=R0 (fun l=>l[0]?) h1;simp only[PI (YT z),YJ,G6,E3]at h2;have h3:i*(z+1)=(i*(z+1)-1)+1:=by have:1<=i*(z+1):=Nat.mul_pos h0 (YT z);omega
 rw[h3,R3]at h2;rw[A1,h2];rfl
def J6 (edge inner:List UInt8) (n i:Nat):List UInt8:=if i=0∨i+1=n then edge else inner
theorem lG {edge inner:List UInt8} (h:∀c∈chars,Good cs ps z c) (hn:2<=chars.length) (hs:∀i (hi:i<chars.length),0<=Lib.indexByte (J6 edge inner chars.length i) chars[i]):
 Tw.read cs ps edge inner z (drawn cs ps z chars)=(chars,0):=by
 have hne:chars≠ []:=by intro e;rw[e]at hn;simp at hn
 have hl:=GS h hne
 have hnn:chars.length=((drawn cs ps z chars).length+1)/(z+1):=by rw[hl,Nat.mul_div_cancel _ (YT z)]
 have hrd:∀i (hi:i<chars.length),Tw.rdAt cs ps z (drawn cs ps z chars) i=(chars[i],true):=fun i hi=>by unfold Tw.rdAt;rw[OG h i hi];exact(h _ (K4 hi)).2
 have hin:∀i (hi:i<chars.length),Tw.isIn (J6 edge inner chars.length i) (Tw.rdAt cs ps z (drawn cs ps z chars) i)=true:=fun i hi=>by rw[hrd i hi];unfold Tw.isIn;simp[hs i hi]
 rw[Tw.read_all _ _ _ _ _ _ _ hnn (fun i hi=> ?_)]
 ·refine I6 ?_ rfl;apply B9;(·simp);·intro i h1 h2;simp[hrd i h2]
 ·have hi2:=hin i hi;unfold Tw.rdErr;rw[D0 (fun hc=>by rw[vK h i hi hc.1]at hc;exact absurd hc.2 J0)];unfold J6 at hi2;by_cases he:i=0∨i+1=chars.length;(·rw[G0 he]at hi2;rw[D0 (fun hc=>by rw[hi2]at hc;exact Bool.noConfusion hc.2),D0 (fun hc=>by rw[hi2]at hc;exact Bool.noConfusion hc.2),D0 (fun hc=>by omega)]);·rw[D0 he]at hi2;rw[D0 (fun hc=>by omega),D0 (fun hc=>by omega),D0 (fun hc=>by rw[hi2]at hc;exact Bool.noConfusion hc.2.2)]
def turn (c:UInt8):UInt8:=if c=119 then 110 else 119
def Zh (e:List UInt8) (p:Nat):List UInt8:=e.set p (turn (e.getD p 0))
theorem OH (e:List UInt8) (p:Nat):(Zh e p).length=e.length:=by simp[Zh]
theorem vL {edge inner:List UInt8} (e:List UInt8) (n i:Nat) (hn:n=(e.length+1)/(z+1)) (hi:i<n) (h:Tw.rdErr cs ps edge inner z e n i≠0):(Tw.read cs ps edge inner z e).2≠0:=by
 unfold Tw.read;rw[<-hn];split;·rename_i j hj;have:=KI hj;exact V6
 ·rename_i hj;rw[List.find?_eq_none]at hj;have:=hj i WR;simp[h]at this
theorem OI (e:List UInt8) (s z p:Nat) (h1:s<=p) (h2:p<s+z) (_:p<e.length):((Zh e p).drop s).take z=Zh ((e.drop s).take z) (p-s):=by
 unfold Zh;have e1:((e.drop s).take z).getD (p-s) 0=e.getD p 0:=by rw[A1,A1,PI C0,YJ,show s+(p-s)=p by omega]
 rw[e1,List.drop_set,D0 C0,List.take_set]
theorem vM (e:List UInt8) (s z p:Nat) (h:p<s∨s+z<=p):((Zh e p).drop s).take z=(e.drop s).take z:=by
 unfold Zh;rw[List.drop_set];by_cases h1:p<s;·rw[G0 h1]
 ·rw[D0 h1,List.take_set,List.set_eq_of_length_le O5]
theorem lH {edge inner:List UInt8} (h:∀c∈chars,Good cs ps z c) (hn:2<=chars.length) (hs:∀i (hi:i<chars.length),0<=Lib.indexByte (J6 edge inner chars.length i) chars[i])
 (hb:∀c,0<=Lib.indexByte edge c->∀j,j<z->Tw.isIn edge (Tw.chr cs ps z (Zh (pt cs ps z c) j))=false) (hb':∀c,0<=Lib.indexByte inner c->∀j,j<z->Tw.isIn inner (Tw.chr cs ps z (Zh (pt cs ps z c) j))=false)
 (p:Nat) (hp:p<(drawn cs ps z chars).length):(Tw.read cs ps edge inner z (Zh (drawn cs ps z chars) p)).2≠0:=by
 have hne:chars≠ []:=by intro e;rw[e]at hn;simp at hn
 have hl:=GS h hne
 have hnn:chars.length=((Zh (drawn cs ps z chars) p).length+1)/(z+1):=by rw[OH,hl,Nat.mul_div_cancel _ (YT z)]
 obtain⟨i,j,hpj,hj⟩:∃i j,p=i*(z+1)+j∧j<z+1:=⟨p/(z+1),p%(z+1),by rw[Nat.mul_comm];exact(Nat.div_add_mod p (z+1)).symm,UN _ (YT z)⟩
 have hin:i<chars.length:=by rcases N5 i chars.length with h1|h1;(·exact h1);·have:=VQ (z+1) h1;omega
 by_cases hjz:j<z
 ·refine vL _ chars.length i hnn hin ?_;have hrd:Tw.rdAt cs ps z (Zh (drawn cs ps z chars) p) i=Tw.chr cs ps z (Zh (pt cs ps z chars[i]) j):=(by unfold Tw.rdAt;rw[OI _ _ _ _ C0 C0 hp,OG h i hin,show p-i*(z+1)=j by omega]);unfold Tw.rdErr;rw[hrd];by_cases h1:0<i∧(Zh (drawn cs ps z chars) p).getD (i*(z+1)-1) 0=119;(·rw[G0 h1];decide);·rw[D0 h1];have hsi:=hs i hin;unfold J6 at hsi;by_cases he:i=0∨i+1=chars.length;(·rw[G0 he]at hsi;have hf:=hb _ hsi j hjz;by_cases h2:i=0;(·rw[G0 ⟨h2,hf⟩];decide);·rw[D0 (fun hc=>h2 hc.1),G0 ⟨by omega,hf⟩];decide);·rw[D0 he]at hsi;have hf:=hb' _ hsi j hjz;rw[D0 (fun hc=>by omega),D0 (fun hc=>by omega),G0 ⟨by omega,by omega,hf⟩];decide
 ·have hjz':j=z:=C0;have hi1:i+1<chars.length:=(by rcases N5 (i+1) chars.length with h1|h1;(·exact h1);·have:=VQ (z+1) h1;rw[V8]at this;omega);refine vL _ chars.length (i+1) hnn hi1 ?_;have hpp:(i+1)*(z+1)-1=p:=(by rw[V8];omega);have hsp:=vK h (i+1) hi1 (YT i);rw[hpp]at hsp;unfold Tw.rdErr;rw[G0 ⟨YT i,by rw[hpp];unfold Zh;rw[hsp,A1,P7 hp];rfl⟩];decide
end
end Go.Proofs.YtbngggoccndefaaGreatDoor
namespace Go.Proofs.YtbngggoccndefaaGreatDoor
open Go.Proofs.Tryz
open Go.RowKit
theorem OJ {l:List UInt8} {c:UInt8} (h:0<=Lib.indexByte l c):c∈l:=by obtain⟨n,hn⟩:=B6 h;exact I1 (Lib.indexByte_some hn).1
def pd (c:UInt8):List UInt8:=(Tw.pat Tw.cItf Tw.pItf 5 c).1
theorem ZY:∀c∈Tw.cItf,(pd c).length=5∧Tw.chr Tw.cItf Tw.pItf 5 (pd c)=(c,true):=Y1
theorem vN:∀c∈Tw.cItf,∀j:Fin 5,(Tw.chr Tw.cItf Tw.pItf 5 (Zh (pd c) j.val)).2=false:=Y1
def U7 (l:List UInt8):Prop:=∀c∈l,c∈Tw.cItf
def ZV:List UInt8->List (List UInt8)
 |a::b::l=>Tw.mix (pd a) (pd b)::ZV l
 |_=>[]
theorem GT:∀l:List UInt8,Tw.drawPairs l=(ZV l).flatten
 | []=>rfl
 | [_]=>rfl
 |a::b::l=>by rw[Tw.drawPairs,ZV,UB,GT l];rfl
theorem OK:∀(h:Nat) (l:List UInt8),l.length=2*h->(ZV l).length=h
 |0,l,e=>by obtain rfl:=V2 e;rfl
 |h+1,a::b::l,e=>by simp only[S0]at e;rw[ZV,S0,OK h l C0]
 |h+1,[],e=>by simp at e
 |h+1,[_],e=>by simp at e;omega
theorem vO:∀(h:Nat) (l:List UInt8) (i:Nat),l.length=2*h->i<h->(ZV l)[i]? =some (Tw.mix (pd (l.getD (2*i) 0)) (pd (l.getD (2*i+1) 0)))
 |0,_,_,_,h=>absurd h (YB _)
 |h+1,[],_,e,_=>by simp at e
 |h+1,[_],_,e,_=>by simp at e;omega
 |h+1,a::b::l,0,_,_=>rfl
 |h+1,a::b::l,i+1,e,hi=>by simp only[S0]at e;rw[ZV,R3,vO h l i C0 C0];rfl
theorem ZU (l:List UInt8) (i:Nat) (h:i<l.length):l.getD i 0∈l:=LC
theorem vP (_:Nat) (l:List UInt8) (hd:U7 l):∀x∈ZV l,x.length=10:=by
 have key:∀(n:Nat) (l:List UInt8),l.length<=n->U7 l->∀x∈ZV l,x.length=10:=by
  intro n
  induction n with
  |zero=>intro l hl _ x hx;obtain rfl:=V2 (Nat.le_zero.1 hl);simp[ZV]at hx
  |succ n ih=>
   intro l hl hd x hx
   match l,hl,hd,hx with
   | [],_,_,hx=>simp[ZV]at hx
   | [_],_,_,hx=>simp[ZV]at hx
   |a::b::l,hl,hd,hx=>rw[ZV,U1]at hx;rcases hx with rfl|hx;(·exact MP _ _ 5 (ZY a (hd a L0)).1 (ZY b (hd b L0)).1);·exact ih l (by simp only[S0]at hl;omega) (fun c hc=>hd c (by simp[hc])) x hx
 exact key _ l (I0 _) hd
theorem GU (h:Nat) (l:List UInt8) (hd:U7 l) (e:l.length=2*h):(Tw.drawPairs l).length=10*h:=by rw[GT,GQ 10 _ (vP h l hd),OK h l e];omega
theorem OL (h:Nat) (l:List UInt8) (hd:U7 l) (e:l.length=2*h):(Tw.drawItf l).length=7+10*h:=by unfold Tw.drawItf;simp only[O0,S0,U2,GU h l hd e];omega
theorem GV (h:Nat) (l:List UInt8) (hd:U7 l) (e:l.length=2*h) (i:Nat) (hi:i<h):Tw.pairAt (Tw.drawItf l) i=Tw.mix (pd (l.getD (2*i) 0)) (pd (l.getD (2*i+1) 0)):=by have hl:=GU h l hd e;have h1:=GP 10 (ZV l) i (by rw[OK h l e];exact hi) (vP h l hd);rw[<-GT]at h1;have h2:=vO h l i e hi;rw[P0 (by rw[OK h l e];exact hi)]at h2;rw[A2]at h2;rw[<-h2,<-h1];unfold Tw.pairAt Tw.drawItf;rw[G1,<-Y3,show List.drop 4 ([110,110,110,110]++(Tw.drawPairs l++[119,110,110]))=Tw.drawPairs l++[119,110,110]from rfl,Nat.mul_comm 10 i];rw[NN C0,X9 E7]
theorem WS {a:List UInt8} (h:a.length=5):∃a0 a1 a2 a3 a4,a=[a0,a1,a2,a3,a4]:=by
 match a,h with
 | [a0,a1,a2,a3,a4],_=>exact⟨a0,a1,a2,a3,a4,rfl⟩
theorem lI {a b:List UInt8} (ha:a.length=5) (hb:b.length=5):Tw.evens (Tw.mix a b)=a∧Tw.odds (Tw.mix a b)=b:=by obtain⟨a0,a1,a2,a3,a4,rfl⟩:=WS ha;obtain⟨b0,b1,b2,b3,b4,rfl⟩:=WS hb;exact Q3
theorem lJ {a b:List UInt8} (ha:a.length=5) (hb:b.length=5) (j:Nat) (hj:j<10):
 (∃q,q<5∧Tw.evens (Zh (Tw.mix a b) j)=Zh a q)∨(∃q,q<5∧Tw.odds (Zh (Tw.mix a b) j)=Zh b q):=by
 obtain⟨a0,a1,a2,a3,a4,rfl⟩:=WS ha
 obtain⟨b0,b1,b2,b3,b4,rfl⟩:=WS hb
 obtain rfl|rfl|rfl|rfl|rfl|rfl|rfl|rfl|rfl|rfl:j=0∨j=1∨j=2∨j=3∨j=4∨j=5∨j=6∨j=7∨j=8∨j=9:=by omega
 ·exact .inl ⟨0,by omega,rfl⟩
 ·exact .inr ⟨0,by omega,rfl⟩
 ·exact .inl ⟨1,by omega,rfl⟩
 ·exact .inr ⟨1,by omega,rfl⟩
 ·exact .inl ⟨2,by omega,rfl⟩
 ·exact .inr ⟨2,by omega,rfl⟩
 ·exact .inl ⟨3,by omega,rfl⟩
 ·exact .inr ⟨3,by omega,rfl⟩
 ·exact .inl ⟨4,by omega,rfl⟩
 ·exact .inr ⟨4,by omega,rfl⟩
theorem vQ:∀(h:Nat) (l:List UInt8),l.length=2*h->((List.range h).flatMap fun i=>[l.getD (2*i) 0,l.getD (2*i+1) 0])=l
 |0,l,e=>by obtain rfl:=V2 e;rfl
 |h+1,[],e=>by simp at e
 |h+1,[_],e=>by simp at e;omega
 |h+1,a::b::l,e=>by simp only[S0]at e;rw[List.range_succ_eq_map,P5,List.flatMap_map];have:=vQ h l C0;(conv=>rhs;rw[<-this]);rfl
theorem GW (h:Nat) (l:List UInt8) (hd:U7 l) (e:l.length=2*h):(Tw.drawItf l).drop ((Tw.drawItf l).length-3)=[119,110,110]:=by rw[OL h l hd e];unfold Tw.drawItf;rw[show 7+10*h-3=([110,110,110,110]++Tw.drawPairs l).length by simp only[O0,S0,U2,GU h l hd e];omega,B5]
theorem lK (h:Nat) (l:List UInt8) (hd:U7 l) (e:l.length=2*h):Tw.readItf (Tw.drawItf l)=(l,0):=by
 have hl:=OL h l hd e;have hn:((Tw.drawItf l).length-7)/10=h:=by omega
 have hA:∀i,i<h->Tw.digA (Tw.drawItf l) i=(l.getD (2*i) 0,true)∧Tw.digB (Tw.drawItf l) i=(l.getD (2*i+1) 0,true):=fun i hi=>by have g1:=ZY _ (hd _ (ZU l (2*i) C0));have g2:=ZY _ (hd _ (ZU l (2*i+1) C0));obtain⟨m1,m2⟩:=lI g1.1 g2.1;unfold Tw.digA Tw.digB;rw[GV h l hd e i hi,m1,m2];exact⟨g1.2,g2.2⟩
 unfold Tw.readItf;rw[hn,D0 (fun hc=>hc rfl),D0 (by rw[W6,S1];intro i hi;have:=hA i WR;unfold Tw.pairOk;rw[this.1,this.2];rfl),D0 (fun hc=>hc (GW h l hd e))];refine I6 ?_ rfl;simp only;conv=>rhs;rw[<-vQ h l e]
 rw[List.flatMap_def,List.flatMap_def];congr 1;refine A8 (fun i hi=> ?_);have:=hA i WR;rw[this.1,this.2]
theorem vR (e:List UInt8) (p:Nat) (hp:p<e.length):Zh e p≠e:=by
 intro h;have h1:=R0 (fun l=>l.getD p 0) h;unfold Zh at h1;simp only[A1,P7 hp,Option.getD_some]at h1;unfold turn at h1;split at h1;·rename_i hq;rw[hq]at h1;exact absurd h1 J0
 ·rename_i hq;exact hq h1.symm
theorem lL (h:Nat) (l:List UInt8) (hd:U7 l) (e:l.length=2*h) (p:Nat) (hp:p<(Tw.drawItf l).length):(Tw.readItf (Zh (Tw.drawItf l) p)).2≠0:=by
 have hl:=OL h l hd e;have hn:((Zh (Tw.drawItf l) p).length-7)/10=h:=by rw[OH];omega
 unfold Tw.readItf;rw[hn];by_cases h4:p<4;·have hc:=OI (Tw.drawItf l) 0 4 p (U0 _) C0 hp;rw[I4,I4,YD]at hc;have ht:(Tw.drawItf l).take 4=[110,110,110,110]:=rfl;rw[ht]at hc;rw[G0 (by rw[hc];exact vR _ _ VE)];decide
 ·by_cases hs:p<4+10*h;(·split;(·decide);·rw[G0 ?_];(·decide);·rw[VW];refine⟨(p-4)/10,by simp;omega,?_⟩;have hi:(p-4)/10<h:=C0;have g1:=ZY _ (hd _ (ZU l (2*((p-4)/10)) C0));have g2:=ZY _ (hd _ (ZU l (2*((p-4)/10)+1) C0));have hpair:Tw.pairAt (Zh (Tw.drawItf l) p) ((p-4)/10)=Zh (Tw.mix (pd (l.getD (2*((p-4)/10)) 0)) (pd (l.getD (2*((p-4)/10)+1) 0))) ((p-4)%10):=(by rw[<-GV h l hd e _ hi];unfold Tw.pairAt;rw[OI _ _ _ _ C0 C0 hp,show p-(4+10*((p-4)/10))=(p-4)%10 by omega]);unfold Tw.pairOk Tw.digA Tw.digB;rw[hpair];rcases lJ g1.1 g2.1 ((p-4)%10) C0 with⟨q,hq,he⟩|⟨q,hq,he⟩;(·rw[he,vN _ (hd _ (ZU l (2*((p-4)/10)) C0)) ⟨q,hq⟩];simp);·rw[he,vN _ (hd _ (ZU l (2*((p-4)/10)+1) C0)) ⟨q,hq⟩];simp);·split;(·decide);·split;(·decide);·rw[G0 ?_];(·decide);·have hc:=OI (Tw.drawItf l) ((Tw.drawItf l).length-3) 3 p C0 C0 hp;have ht:((Tw.drawItf l).drop ((Tw.drawItf l).length-3)).take 3=[119,110,110]:=(by rw[GW h l hd e];rfl);rw[ht]at hc;have hd3:((Zh (Tw.drawItf l) p).drop ((Tw.drawItf l).length-3)).take 3=(Zh (Tw.drawItf l) p).drop ((Zh (Tw.drawItf l) p).length-3):=(by rw[OH,P1 (by rw[L2,OH];omega)]);rw[<-hd3,hc];exact vR _ _ I2
end Go.Proofs.YtbngggoccndefaaGreatDoor
namespace Go.Proofs.YtbngggoccndefaaGreatDoor
open Go.Proofs.Tryz
open Go.RowKit
structure Sym (k:Nat) (l:List UInt8) (check:Bool) (chars:List UInt8):Prop where
 read:Tw.readK k (Tw.drawK k chars)=(chars,0)
 turned:∀p,p<(Tw.drawK k chars).length->(Tw.readK k (Zh (Tw.drawK k chars) p)).2≠0
 text:Tw.textK k chars check=l
 counts:Tw.countsK k (Tw.drawK k chars).length check=true
 odd:(Tw.drawK k chars).length%2=1
 nw:NW (Tw.drawK k chars)
 both:∀p,(110∈Tw.drawK k chars∧119∈Tw.drawK k chars)∧110∈Zh (Tw.drawK k chars) p∧119∈Zh (Tw.drawK k chars) p
theorem lM:∀c∈Tw.c39,(pt Tw.c39 Tw.p39 9 c).length=9∧Tw.chr Tw.c39 Tw.p39 9 (pt Tw.c39 Tw.p39 9 c)=(c,true):=Y1
theorem lN:∀c∈Tw.cCb,(pt Tw.cCb Tw.pCb 7 c).length=7∧Tw.chr Tw.cCb Tw.pCb 7 (pt Tw.cCb Tw.pCb 7 c)=(c,true):=Y1
theorem lO:∀c∈Tw.c39,(∀x∈pt Tw.c39 Tw.p39 9 c,x=110∨x=119)∧110∈pt Tw.c39 Tw.p39 9 c∧119∈pt Tw.c39 Tw.p39 9 c:=Y1
theorem nwCb:∀c∈Tw.cCb,(∀x∈pt Tw.cCb Tw.pCb 7 c,x=110∨x=119)∧110∈pt Tw.cCb Tw.pCb 7 c∧119∈pt Tw.cCb Tw.pCb 7 c:=Y1
theorem vS:∀c∈Tw.cItf,∀x∈pd c,x=110∨x=119:=Y1
theorem lP:∀c∈([42]:List UInt8),∀j:Fin 9,Tw.isIn [42] (Tw.chr Tw.c39 Tw.p39 9 (Zh (pt Tw.c39 Tw.p39 9 c) j.val))=false:=Y1
theorem lQ:∀c∈Cd.syms,∀j:Fin 9,Tw.isIn Cd.syms (Tw.chr Tw.c39 Tw.p39 9 (Zh (pt Tw.c39 Tw.p39 9 c) j.val))=false:=Y1
theorem tCbe:∀c∈Tw.eCb,∀j:Fin 7,Tw.isIn Tw.eCb (Tw.chr Tw.cCb Tw.pCb 7 (Zh (pt Tw.cCb Tw.pCb 7 c) j.val))=false:=Y1
theorem tCbi:∀c∈Tw.dCb,∀j:Fin 7,Tw.isIn Tw.dCb (Tw.chr Tw.cCb Tw.pCb 7 (Zh (pt Tw.cCb Tw.pCb 7 c) j.val))=false:=Y1
theorem lR:∀c∈Cd.syms,c∈Tw.c39:=Y1
theorem dcbc:∀c∈Tw.dCb,c∈Tw.cCb:=Y1
theorem ecbc:∀c∈Tw.eCb,c∈Tw.cCb:=Y1
theorem lS {l:List UInt8} {c:UInt8} (h:c∈l):0<=Lib.indexByte l c:=by
 have h1:=Lib.indexByte_ge l c;rcases Int.lt_or_le (Lib.indexByte l c) 0 with h2|h2;·obtain⟨i,hi,rfl⟩:=TL.1 h;exact absurd (P0 hi) (Lib.indexByte_none C0 i)
 ·exact h2
theorem vT (e:List UInt8) (s1 s2 z p:Nat) (h12:s1+z<=s2) (m1:110∈(e.drop s1).take z∧119∈(e.drop s1).take z) (m2:110∈(e.drop s2).take z∧119∈(e.drop s2).take z):
 (110∈e∧119∈e)∧110∈Zh e p∧119∈Zh e p:=by
 have sub:∀(l:List UInt8) (s:Nat) (x:UInt8),x∈(l.drop s).take z->x∈l:=fun l s x hx=>X7 (L5 hx)
 refine⟨⟨sub e s1 _ m1.1,sub e s1 _ m1.2⟩,?_⟩
 by_cases h:p<s2
 ·have:=vM e s2 z p (.inl h);rw[<-this]at m2;exact⟨sub _ s2 _ m2.1,sub _ s2 _ m2.2⟩
 ·have:=vM e s1 z p (.inr C0);rw[<-this]at m1;exact⟨sub _ s1 _ m1.1,sub _ s1 _ m1.2⟩
theorem lT (cs ps:List UInt8) (z:Nat) (chars:List UInt8) (h:∀c∈chars,∀x∈pt cs ps z c,x=110∨x=119):NW (drawn cs ps z chars):=by
 intro x hx
 unfold drawn at hx
 cases chars with
 |nil=>simp[Lib.join,List.intercalate]at hx
 |cons c r=>have hx':x∈110::Lib.join ((c::r).map (pt cs ps z)) [110]:=C1 _ hx;rw[GR _ L0,List.mem_flatten]at hx';obtain⟨b,hb,hxb⟩:=hx';rw[J3]at hb;obtain⟨y,hy,rfl⟩:=hb;rw[J3]at hy;obtain⟨d,hd,rfl⟩:=hy;rcases U1.1 hxb with rfl|h1;(·exact .inl rfl);·exact h d hd x h1
theorem vU (cs ps edge inner:List UInt8) (z:Nat) (chars:List UInt8) (_:1<=z) (hn:2<=chars.length) (hg:∀c∈cs,Good cs ps z c) (hw:∀c∈cs,(∀x∈pt cs ps z c,x=110∨x=119)∧110∈pt cs ps z c∧119∈pt cs ps z c)
 (he:∀c∈edge,c∈cs) (hi:∀c∈inner,c∈cs) (hte:∀c∈edge,∀j,j<z->Tw.isIn edge (Tw.chr cs ps z (Zh (pt cs ps z c) j))=false) (hti:∀c∈inner,∀j,j<z->Tw.isIn inner (Tw.chr cs ps z (Zh (pt cs ps z c) j))=false)
 (hs:∀i (h:i<chars.length),chars[i]∈J6 edge inner chars.length i):
 Tw.read cs ps edge inner z (drawn cs ps z chars)=(chars,0)∧(∀p,p<(drawn cs ps z chars).length->(Tw.read cs ps edge inner z (Zh (drawn cs ps z chars) p)).2≠0)∧(drawn cs ps z chars).length+1=chars.length*(z+1)∧NW (drawn cs ps z chars)∧
  ∀p,(110∈drawn cs ps z chars∧119∈drawn cs ps z chars)∧110∈Zh (drawn cs ps z chars) p∧119∈Zh (drawn cs ps z chars) p:=by
 have hcs:∀c∈chars,c∈cs:=by intro c hc;obtain⟨i,h,rfl⟩:=TL.1 hc;have:=hs i h;unfold J6 at this;split at this;(·exact he _ this);·exact hi _ this
 have hG:∀c∈chars,Good cs ps z c:=fun c hc=>hg c (hcs c hc)
 have hS:∀i (h:i<chars.length),0<=Lib.indexByte (J6 edge inner chars.length i) chars[i]:=fun i h=>lS (hs i h)
 have hne:chars≠ []:=by intro e;rw[e]at hn;simp at hn
 refine⟨lG hG hn hS,fun p hp=>lH hG hn hS (fun c hc j hj=>hte c (OJ hc) j hj) (fun c hc j hj=>hti c (OJ hc) j hj) p hp,GS hG hne,lT cs ps z chars (fun c hc=>(hw c (hcs c hc)).1),fun p=> ?_⟩
 have b0:=OG hG 0 C0
 have b1:=OG hG 1 C0
 refine vT _ (0*(z+1)) (1*(z+1)) z p C0 ?_ ?_
 ·rw[b0];exact(hw _ (hcs _ (K4 _))).2
 ·rw[b1];exact(hw _ (hcs _ (K4 _))).2
theorem YU {l cs:List UInt8} (h:Tw.only l cs=true):∀c∈l,c∈cs:=by intro c hc;unfold Tw.only at h;rw[S1]at h;exact OJ (by simpa using h c hc)
end Go.Proofs.YtbngggoccndefaaGreatDoor
namespace Go.Proofs.YtbngggoccndefaaGreatDoor
open Go.Proofs.Tryz
open Go.RowKit
theorem vV (k:Int) (l:List UInt8) (hk:k=1∨k=7) (h:(Cd.compI k l).2=0):(Cd.compI k l).1.length=1:=by rw[RF k l h];rcases hk with rfl|rfl<;>rfl
theorem lU (l:List UInt8) (h:(Cd.compI 7 l).2=0):∀c∈(Cd.compI 7 l).1,c∈Cd.syms:=by
 rw[RF 7 l h];intro c hc;have hc':c=Cd.syms.getD (Cd.c39 l%43).toNat 48:=by simpa[Cd.cmp]using hc
 rw[hc'];have h1:(Cd.c39 l%43).toNat<Cd.syms.length:=by have:Cd.syms.length=43:=rfl;omega
 exact getD_any _ _ h1
where
 getD_any (l:List UInt8) (i:Nat) (h:i<l.length):l.getD i 48∈l:=LC
theorem lV (l:List UInt8) (check:Bool) (hl:1<=l.length∧l.length<=1000) (h:(Tw.comp39 l check).2=0):Sym 0 l check (Tw.comp39 l check).1:=by
 obtain⟨d,hd,hmem,hlen,hpre⟩:∃d,(Tw.comp39 l check).1=42::d++[42]∧(∀c∈d,c∈Cd.syms)∧d.length=l.length+check.toNat∧d.take l.length=l:=by unfold Tw.comp39 at h⊢;by_cases ho:Tw.only l Cd.syms=false;(·rw[G0 ho]at h;simp at h);·rw[D0 ho]at h⊢;rw[W6]at ho;cases check;(·rw[G0 rfl]at h⊢;exact⟨l,rfl,YU ho,rfl,E5⟩);·rw[D0 Bool.noConfusion]at h⊢;by_cases hz:(Cd.compI 7 l).2=0;(·rw[G0 hz]at h⊢;refine⟨l++(Cd.compI 7 l).1,by simp,fun c hc=> ?_,by rw[O0,vV 7 l C0 hz];rfl,P6⟩;rcases M2.1 hc with h1|h1;(·exact YU ho c h1);·exact lU l hz c h1);·rw[D0 hz]at h;exact absurd h hz
 rw[hd];have hb:check.toNat<=1:=XT check;have hcl:(42::d++[42]).length=d.length+2:=by simp
 have hS:∀i (h:i<(42::d++[42]).length),(42::d++[42])[i]∈J6 [42] Cd.syms (42::d++[42]).length i:=by intro i hi;rw[hcl]at hi;unfold J6;rw[hcl];by_cases h0:i=0;(·subst h0;rw[G0 (.inl rfl)];simp);·obtain⟨j,rfl⟩:∃j,i=j+1:=⟨i-1,by omega⟩;have e:(42::d++[42])[j+1]'(by rw[hcl];exact hi)=(d++[42])[j]' I2:=rfl;rw[e];by_cases h1:j=d.length;(·subst h1;rw[G0 (.inr C0)];simp);·rw[D0 C0,List.getElem_append_left C0];exact hmem _ (K4 _)
 obtain⟨r1,r2,r3,r4,r5⟩:=vU Tw.c39 Tw.p39 [42] Cd.syms 9 (42::d++[42]) C0 (by rw[hcl];omega) lM lO J0 lR (fun c hc j hj=>lP c hc ⟨j,hj⟩) (fun c hc j hj=>lQ c hc ⟨j,hj⟩) hS;rw[hcl]at r3;refine⟨r1,r2,?_,?_,?_,r4,r5⟩;·show Tw.text39 (42::d++[42]) check=l;unfold Tw.text39;rw[hcl,show d.length+2-2-check.toNat=l.length by omega];rw[show List.drop 1 (42::d++[42])=d++[42]from rfl,X9 C0];exact hpre
 ·show Tw.counts 9 1 1000 (drawn Tw.c39 Tw.p39 9 (42::d++[42])).length check=true;unfold Tw.counts;rw[r3];exact GX
 ·show(drawn Tw.c39 Tw.p39 9 (42::d++[42])).length%2=1;omega
theorem lW (l:List UInt8) (check:Bool) (hl:l.length<=1000) (h:(Tw.compCb l check).2=0):Sym 1 l check (Tw.compCb l check).1:=by
 obtain⟨a,m,x,b,hd,hl3,ha,hb',hm,hx⟩:∃(a:UInt8) (m x:List UInt8) (b:UInt8),(Tw.compCb l check).1=a::(m++x)++[b]∧l=a::m++[b]∧a∈Tw.eCb∧b∈Tw.eCb∧(∀c∈m++x,c∈Tw.dCb)∧x.length=check.toNat:=by
  unfold Tw.compCb at h⊢;by_cases h2:l.length<2;(·rw[G0 h2]at h;simp at h)
  ·rw[D0 h2]at h⊢;obtain⟨a,t,rfl⟩:∃a t,l=a::t:=by
    cases l with
    |nil=>simp at h2
    |cons a t=>exact⟨a,t,rfl⟩
   obtain⟨m,b,rfl⟩:∃m b,t=m++[b]:=⟨t.dropLast,t.getLast (by intro e;rw[e]at h2;simp at h2),(LX _).symm⟩;have e1:(a::(m++[b])).length=m.length+2:=L0;rw[e1]at h⊢;have e2:(a::(m++[b])).drop (m.length+2-1)=[b]:=(by rw[show m.length+2-1=m.length+1 by omega,U9,B5]);have e3:((a::(m++[b])).drop 1).take (m.length+2-2)=m:=(by rw[show m.length+2-2=m.length by omega,U9,I4,P6]);have e4:(a::(m++[b])).take (m.length+2-1)=a::m:=(by rw[show m.length+2-1=m.length+1 by omega,VI,P6]);rw[e2,e3,show(a::(m++[b])).take 1=[a]from rfl]at h;rw[e2,e3,e4,show(a::(m++[b])).take 1=[a]from rfl];by_cases h3:Tw.only [a] Tw.eCb=false;(·rw[G0 h3]at h;simp at h);·rw[D0 h3]at h⊢;by_cases h4:Tw.only [b] Tw.eCb=false;(·rw[G0 h4]at h;simp at h);·rw[D0 h4]at h⊢;by_cases h5:Tw.only m Tw.dCb=false;(·rw[G0 h5]at h;simp at h);·rw[D0 h5]at h⊢;rw[W6]at h3 h4 h5;have ha:=YU h3 a L0;have hb:=YU h4 b L0;have hm:=YU h5;cases check;(·rw[G0 rfl];exact⟨a,m,[],b,by simp,by simp,ha,hb,by simpa using hm,rfl⟩);·rw[D0 Bool.noConfusion];refine⟨a,m,[Tw.dCb.getD ((16-Tw.sumCb (a::(m++[b]))%16)%16).toNat 0],b,by simp,by simp,ha,hb,fun c hc=> ?_,rfl⟩;rcases M2.1 hc with h1|h1;(·exact hm c h1);·rw[Y2]at h1;rw[h1];refine ZU _ _ ?_;have:Tw.dCb.length=16:=rfl;omega
 rw[hd];have hb:check.toNat<=1:=XT check;have hll:l.length=m.length+2:=by rw[hl3];simp
 have hcl:(a::(m++x)++[b]).length=m.length+x.length+2:=E1
 have hS:∀i (h:i<(a::(m++x)++[b]).length),(a::(m++x)++[b])[i]∈J6 Tw.eCb Tw.dCb (a::(m++x)++[b]).length i:=by intro i hi;rw[hcl]at hi;unfold J6;rw[hcl];by_cases h0:i=0;(·subst h0;rw[G0 (.inl rfl)];exact ha);·obtain⟨j,rfl⟩:∃j,i=j+1:=⟨i-1,by omega⟩;have e:(a::(m++x)++[b])[j+1]'(by rw[hcl];exact hi)=((m++x)++[b])[j]' I2:=rfl;rw[e];by_cases h1:j=(m++x).length;(·rw[G0 (.inr (by rw[h1,O0])),List.getElem_append_right C0];simpa using hb');·rw[O0]at h1;rw[D0 C0,List.getElem_append_left (by rw[O0];omega)];exact hm _ (K4 _)
 obtain⟨r1,r2,r3,r4,r5⟩:=vU Tw.cCb Tw.pCb Tw.eCb Tw.dCb 7 (a::(m++x)++[b]) C0 (by rw[hcl];omega) lN nwCb ecbc dcbc (fun c hc j hj=>tCbe c hc ⟨j,hj⟩) (fun c hc j hj=>tCbi c hc ⟨j,hj⟩) hS;rw[hcl]at r3;refine⟨r1,r2,?_,?_,?_,r4,r5⟩
 ·show Tw.textCb (a::(m++x)++[b]) check=l;unfold Tw.textCb;rw[hcl,hl3];cases check;(·have:x=[]:=V2 hx;subst this;simp)
  ·rw[G0 rfl];obtain⟨y,rfl⟩:∃y,x=[y]:=by
    match x,hx with
    | [y],_=>exact⟨y,rfl⟩
   have e1:(a::(m++[y])++[b]).take (m.length+ [y].length+2-2)=a::m:=(by rw[show m.length+ [y].length+2-2=m.length+1 by simp,show a::(m++[y])++[b]=(a::m)++([y]++[b]) by simp,show m.length+1=(a::m).length by simp,P6]);have e2:(a::(m++[y])++[b]).drop (m.length+ [y].length+2-1)=[b]:=(by rw[show m.length+ [y].length+2-1=(a::(m++[y])).length by simp,B5]);rw[e1,e2]
 ·show Tw.counts 7 0 998 (drawn Tw.cCb Tw.pCb 7 (a::(m++x)++[b])).length check=true;unfold Tw.counts;rw[r3];exact GX
 ·show(drawn Tw.cCb Tw.pCb 7 (a::(m++x)++[b])).length%2=1;omega
theorem vW:∀(a b:List UInt8) (x:UInt8),x∈Tw.mix a b->x∈a∨x∈b
 | [],_,x,h=>by simp[Tw.mix]at h
 |_::_,[],x,h=>by simp[Tw.mix]at h
 |p::a,q::b,x,h=>by simp only[Tw.mix,U1]at h;rcases h with rfl|rfl|h;(·exact .inl (B1 ..));(·exact .inr (B1 ..));·rcases vW a b x h with h|h;(·exact .inl (C1 _ h));·exact LB
theorem vX:∀l:List UInt8,U7 l->∀x∈Tw.drawPairs l,x=110∨x=119
 | [],_,x,h=>by simp[Tw.drawPairs]at h
 | [_],_,x,h=>by simp[Tw.drawPairs]at h
 |a::b::l,hd,x,h=>by rw[Tw.drawPairs,M2]at h;rcases h with h|h;(·rcases vW _ _ x h with h|h;(·exact vS a (hd a L0) x h);·exact vS b (hd b L0) x h);·exact vX l (fun c hc=>hd c (by simp[hc])) x h
theorem vY:∀c∈Tw.cItf,110∈pd c∧119∈pd c:=Y1
theorem lX (l:List UInt8) (h:(Cd.compI 1 l).2=0):∀c∈(Cd.compI 1 l).1,c∈Tw.cItf:=by rw[RF 1 l h];exact fun c hc=>OJ (CV l c hc)
theorem vZ (a b:List UInt8) (x:UInt8) (ha:a.length=5) (hb:b.length=5) (h:x∈a):x∈Tw.mix a b:=by obtain⟨a0,a1,a2,a3,a4,rfl⟩:=WS ha;obtain⟨b0,b1,b2,b3,b4,rfl⟩:=WS hb;simp only[U1,L4,M4]at h;simp only[Tw.mix,U1,L4,M4];rcases h with h|h|h|h|h<;>simp[h]
theorem lY (l:List UInt8) (check:Bool) (hl:1<=l.length∧l.length<=1000) (h:(Tw.compItf l check).2=0):Sym 2 l check (Tw.compItf l check).1:=by
 obtain⟨d,hd,hmem,hlen,hpre,hev⟩:∃d,(Tw.compItf l check).1=d∧U7 d∧d.length=l.length+check.toNat∧d.take l.length=l∧d.length%2=0:=by unfold Tw.compItf at h⊢;by_cases ho:Tw.only l Tw.cItf=false;(·rw[G0 ho]at h;simp at h);·rw[D0 ho]at h⊢;rw[W6]at ho;cases check;(·rw[G0 rfl]at h⊢;by_cases he:l.length%2=0;(·rw[G0 he];exact⟨l,rfl,YU ho,rfl,E5,he⟩);·rw[D0 he]at h;simp at h);·rw[D0 Bool.noConfusion]at h⊢;by_cases hz:(Cd.compI 1 l).2=0;(·rw[G0 hz]at h⊢;by_cases he:(l++(Cd.compI 1 l).1).length%2=0;(·rw[G0 he];refine⟨l++(Cd.compI 1 l).1,rfl,fun c hc=> ?_,by rw[O0,vV 1 l C0 hz];rfl,P6,he⟩;rcases M2.1 hc with h1|h1;(·exact YU ho c h1);·exact lX l hz c h1);·rw[D0 he]at h;simp at h);·rw[D0 hz]at h;exact absurd h hz
 rw[hd];have hb:check.toNat<=1:=XT check;obtain⟨n,hn⟩:∃n,d.length=2*n:=⟨d.length/2,by omega⟩;have hil:=OL n d hmem hn;refine⟨lK n d hmem hn,fun p hp=>lL n d hmem hn p hp,?_,?_,?_,?_,fun p=> ?_⟩;·show Tw.textItf d check=l;unfold Tw.textItf;cases check;(·have e:l.length=d.length:=(by rw[hlen];rfl);rw[e,E5]at hpre;rw[D0 Bool.noConfusion];exact hpre);·rw[G0 rfl,hlen];exact hpre
 ·show Tw.countsItf (Tw.drawItf d).length=true;unfold Tw.countsItf;rw[hil];exact GX
 ·show(Tw.drawItf d).length%2=1;omega
 ·intro x hx;have hx':x∈[110,110,110,110]++Tw.drawPairs d++[119,110,110]:=hx;rw[M2,M2]at hx';rcases hx' with(h1|h1)|h1;(·exact .inl D9);(·exact vX d hmem x h1);·simp only[U1,L4,M4]at h1;rcases h1 with rfl|rfl|rfl<;>simp
 ·have n1:1<=n:=C0;have hpr:=GV n d hmem hn 0 n1;have c0:=hmem _ (ZU d 0 C0);have c1:=hmem _ (ZU d 1 C0);have m0:110∈Tw.pairAt (Tw.drawItf d) 0∧119∈Tw.pairAt (Tw.drawItf d) 0:=(by rw[hpr];exact⟨vZ _ _ _ (ZY _ c0).1 (ZY _ c1).1 (vY _ c0).1,vZ _ _ _ (ZY _ c0).1 (ZY _ c1).1 (vY _ c0).2⟩);have m1:((Tw.drawItf d).drop ((Tw.drawItf d).length-3)).take 10=[119,110,110]:=(by rw[GW n d hmem hn];rfl);refine vT (Tw.drawItf d) 4 ((Tw.drawItf d).length-3) 10 p C0 m0 ?_;rw[m1];decide
theorem kA (k:Nat) (l:List UInt8) (check:Bool):(Tw.compK k l check).1.length<=l.length+4:=by
 have hc7:=XM 7 l
 have hc1:=XM 1 l
 match k with
 |0=>
  show(Tw.comp39 l check).1.length<=_
  unfold Tw.comp39
  repeat' split
  all_goals simp only[O0,S0,U2];omega
 |1=>
  show(Tw.compCb l check).1.length<=_
  unfold Tw.compCb
  repeat' split
  all_goals simp only[O0,S0,U2,L1,L2];omega
 |k+2=>
  show(Tw.compItf l check).1.length<=_
  unfold Tw.compItf
  repeat' split
  all_goals simp only[O0,U2];omega
theorem lZ (kind:Int) (l:List UInt8) (r:Int) (check:Bool) (ws:List Int) (h:Tw.enc kind l r check=(ws,0)):
 ∃k chars,((kind=5∧k=0)∨(kind=6∧k=1)∨(kind=7∧k=2))∧Tw.compK k l check=(chars,0)∧ws=Tw.widths r (Tw.drawK k chars)∧(r=2∨r=3)∧Sym k l check chars:=by
 have key:∀k,k<3->Tw.encK k l r check=(ws,0)->∃chars,Tw.compK k l check=(chars,0)∧ws=Tw.widths r (Tw.drawK k chars)∧(r=2∨r=3)∧Sym k l check chars:=by
  intro k hk h;unfold Tw.encK at h;by_cases hr:r≠2∧r≠3;(·rw[G0 hr]at h;simp at h)
  ·rw[D0 hr]at h;by_cases h0:l=[];(·rw[G0 h0]at h;simp at h)
   ·rw[D0 h0]at h;by_cases h1:1000<l.length;(·rw[G0 h1]at h;simp at h)
    ·rw[D0 h1]at h;by_cases h2:(Tw.compK k l check).2≠0;(·rw[G0 h2]at h;injection h with _ h;exact absurd h h2)
     ·rw[D0 h2]at h
      have h2':(Tw.compK k l check).2=0:=M3 h2
      have hlp:1<=l.length:=F6.2 h0
      injection h with h _
      refine⟨(Tw.compK k l check).1,I6 rfl h2',h.symm,by omega,?_⟩
      match k,hk with
      |0,_=>exact lV l check ⟨hlp,by omega⟩ h2'
      |1,_=>exact lW l check C0 h2'
      |2,_=>exact lY l check ⟨hlp,by omega⟩ h2'
 unfold Tw.enc at h
 by_cases h5:kind=5
 ·rw[G0 h5]at h;obtain⟨chars,hc⟩:=key 0 C0 h;exact⟨0,chars,.inl ⟨h5,rfl⟩,hc⟩
 ·rw[D0 h5]at h;by_cases h6:kind=6;(·rw[G0 h6]at h;obtain⟨chars,hc⟩:=key 1 C0 h;exact⟨1,chars,.inr (.inl ⟨h6,rfl⟩),hc⟩);·rw[D0 h6]at h;by_cases h7:kind=7;(·rw[G0 h7]at h;obtain⟨chars,hc⟩:=key 2 C0 h;exact⟨2,chars,.inr (.inr ⟨h7,rfl⟩),hc⟩);·rw[D0 h7]at h;simp at h
theorem mA (kind:Int) (k:Nat) (hk:(kind=5∧k=0)∨(kind=6∧k=1)∨(kind=7∧k=2)) (ws:List Int) (check:Bool):Tw.dec kind ws check=Tw.decK k ws check:=by unfold Tw.dec;rcases hk with⟨rfl,rfl⟩|⟨rfl,rfl⟩|⟨rfl,rfl⟩<;>rfl
theorem dec_ok (k:Nat) (l:List UInt8) (check:Bool) (chars:List UInt8) (hs:Sym k l check chars) (hc:Tw.compK k l check=(chars,0)) (ws:List Int) (hw:Tw.wide ws=(isW (Tw.drawK k chars),0)) (hl:ws.length=(Tw.drawK k chars).length):Tw.decK k ws check=(l,0):=by
 unfold Tw.decK;rw[hw,hl,hs.counts,D0 Bool.noConfusion,D0 (fun h=>h rfl)];simp only;rw[vI _ hs.nw,hs.read,D0 (fun h=>h rfl)];simp only;rw[hs.text];by_cases hck:check=true;·subst hck;rw[hc,D0 (fun h=>h.2 rfl)]
 ·rw[D0 (fun h=>hck h.1)]
end Go.Proofs.YtbngggoccndefaaGreatDoor
end
