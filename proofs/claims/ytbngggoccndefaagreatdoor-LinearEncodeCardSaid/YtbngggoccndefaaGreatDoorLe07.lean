/-
  Laid.
-/
import Derived.Test.YtbngggoccndefaaGreatDoorLe06
set_option maxHeartbeats 8000000
set_option maxRecDepth 100000
set_option linter.all false
namespace Go.Proofs.Enc
open Go.Proofs.Tryz
section
open Go.RowKit
def jR(a b:List UInt8)(k:Nat)(ha:k<a.length)(hb:k<b.length):Tw.mix (a.take (k+1)) (b.take (k+1))=Tw.mix (a.take k) (b.take k)++[a[k],b[k]]:=by
 induction k generalizing a b with
 |zero=>
  cases a with
  |nil=>simp at ha
  |cons x a=>
   cases b with
   |nil=>simp at hb
   |cons y b=>simp[Tw.mix]
 |succ k ih=>
  cases a with
  |nil=>simp at ha
  |cons x a=>
   cases b with
   |nil=>simp at hb
   |cons y b=>simp only[B1]at ha hb;simp only[OY,Tw.mix,C3,List.getElem_cons_succ];rw[ih a b C0 C0]
def NR:∀a b:List UInt8,(Tw.mix a b).length<=2*a.length
 | [],_=>by simp[Tw.mix]
 |_::_,[]=>by simp[Tw.mix]
 |_::a,_::b=>by have:=NR a b;simp only[Tw.mix,B1];omega
def jS:∀(a b:List UInt8)(n:Nat),a.length=n->b.length=n->(Tw.mix a b).length=2*n
 | [],_,n,h,_=>by simp only[I3]at h;subst h;simp[Tw.mix]
 |_::_,[],n,h,h'=>by simp only[I3,B1]at h h';omega
 |_::a,_::b,n,h,h'=>by simp only[B1]at h h';have:=jS a b (n-1) C0 C0;simp only[Tw.mix,B1];omega
def EN:∀(n:Nat)(a b:List UInt8),a.length=2*n->Tw.drawPairs (a++b)=Tw.drawPairs a++Tw.drawPairs b
 |0,a,b,h=>by obtain rfl:=U3 h;simp[Tw.drawPairs]
 |n+1,a,b,h=>by
  match a,h with
  |x::y::a,h=>simp only[B1]at h;simp only[C3,Tw.drawPairs,V1];rw[EN n a b C0]
def Zmw(s:ByteArray)(p q r:Nat)(hq:q=p+1)(hr:r=p+2)(h1:p<s.size)(h2:q<s.size):s.data.toList.take r=s.data.toList.take p++[s[p],s[q]]:=by subst hq hr;rw[show p+2=p+1+1 by omega,Z1 s (p+1) h2,Z1 s p C0,V1];rfl
def Zhl(cs ps:ByteArray)(bc bp bz ba bn:Nat)(s:ByteArray)(h:Nat)(w:World)(hI:S9 w bc bp bz ba bn)(hA:ZP w bc bp bz cs ps 5)(Ar:cs.data.toList=Tw.IH)(Ex:ps.data.toList=Tw.Cg)(hs:s.size<=100000)
 (hev:s.size=2*h)(aDl:∀c∈s.data.toList,(Tw.pat Tw.IH Tw.Cg 5 c).1.length=5):
 Calls prog 173 #[.string s,.pointer (some ⟨ba,0,none⟩)] w
  λe w'=>e=.returned (strV (Tw.drawItf s.data.toList))/\Ext w w':=by
 have kc:=λ(w:World)(C:Array Value)(n c:Nat)=>jT (P:=prog) w 90 5 C n c underlying90 underlying5
 have HP:Hid (∀w',Ext w w'->∀c:UInt8,Calls prog 236 #[.int .u8 (c.toNat:Int),.pointer (some ⟨bc,0,none⟩),.pointer (some ⟨bp,0,none⟩),.pointer (some ⟨bz,0,none⟩)] w'
  λe y8=>e=.returned (.tuple #[.string ⟨(Tw.pat Tw.IH Tw.Cg 5 c).1.toArray⟩,.bool (Tw.pat Tw.IH Tw.Cg 5 c).2])/\w'=y8):=
  B0 λw' hx c=>by have h1:cs.size=10:=(by rw[Zd Ar];rfl);have h2:ps.size=50:=(by rw[Zd Ex];rfl);have:=RN cs ps 5 c bc bp bz w' (hA.ext hx) (.inl rfl) C0 C0;rw[Ar,Ex]at this;exact L3
 have HI:=B0 hI
 have HD:=B0 aDl
 have HE:=B0 hev
 have HT:=B0 (Tw.drawItf.eq_1 s.data.toList)
 generalize Tw.drawItf s.data.toList=res at*
 have hh:2*h<=s.size:=by omega
 have hh':s.size<=2*h:=by omega
 clear hI hA aDl Ar Ex hev
 go_enter func173,ntmps173
 go_wp2
 clear kc
 go_loopw [5,4] (λi c wr=>∃j:Nat,j<=h/\i=.int .i64 ((2*j:Nat):Int)/\OwnG 5 wr w.heap.size c (([110,110,110,110]++Tw.drawPairs (s.data.toList.take (2*j))).map encB)/\Hid ((Tw.drawPairs (s.data.toList.take (2*j))).length=10*j)/\Ext w wr) (λi _ _=>s.size-(intOf i).toNat)
 case atStart=>refine⟨0,R0 _,rfl,.inr ⟨w.heap.size,rfl,J0 _,by simp,?_⟩,rfl,Xe⟩;intro j u hu;rw[EO];simp only[NS,YP,Tw.drawPairs]at hu;simpa[encB]using hu
 case round=>
  obtain⟨j,hj,rfl,b8,HL,j3⟩:=hrel;by_cases hlt:j<h
  .have x9:∀x:Zw wr,x.at'.cell? ⟨ba,1,none⟩=_:=λx=>(HI.out.ext (j3.trans x.ext)).a1;have HQ:=B0 (λ(x:Zw wr)=>HP.out x.at' (j3.trans x.ext));obtain⟨p,hp⟩:∃p,2*j=p:=⟨_,rfl⟩;obtain⟨q,hq⟩:∃q,p+1=q:=⟨_,rfl⟩;have k1:p<s.size:=C0;have k2:q<s.size:=C0;have HTT:=B0 (Zmw s p q (2*(j+1)) hq.symm C0 k1 k2);rw[hp]at b8 HL;have Dm:=B0 (EN j (s.data.toList.take p) [s[p],s[q]] (by rw[W7 s p C0];omega));rw[<-HTT.out]at Dm;have HPQ:Hid (p=2*j/\q=2*j+1):=B0 C0;have hpq:(p:Int)+1=(q:Int):=C0;have Js:((2*j:Nat):Int)=(p:Int):=C0;rw[Js];clear hp hq Js;have d1:decide (p<s.size)=true:=(by simpa using k1);have la:=HD.out s[p] (Zl s p k1);have lb:=HD.out s[q] (Zl s q k2);have Ic:=B0 (λx=>HQ.out x s[p]);have Ee:=B0 (λ(x:Zw wr)(y:Zw x.at')=>HP.out y.at' ((j3.trans x.ext).trans y.ext) s[q]);simp only[Tw.drawPairs,A3]at Dm;generalize(Tw.pat Tw.IH Tw.Cg 5 s[p]).1=pa at*;generalize(Tw.pat Tw.IH Tw.Cg 5 s[q]).1=pb at*;generalize(Tw.pat Tw.IH Tw.Cg 5 s[p]).2=oa at*;generalize(Tw.pat Tw.IH Tw.Cg 5 s[q]).2=ob at*;obtain⟨PA,rfl⟩:∃D:ByteArray,pa=D.data.toList:=⟨⟨pa.toArray⟩,by simp⟩;obtain⟨PB,rfl⟩:∃D:ByteArray,pb=D.data.toList:=⟨⟨pb.toArray⟩,by simp⟩;rw[Z0]at Ic Ee;rw[Za]at la lb;clear HP HQ;go_wp2;refine T6 (C:=λw'=>∃x:Zw wr,w'=x.at') N0 N0 (Zw.drawn _) ?_;(try dsimp only);(repeat(first|go_big_quiet_step ((go_at_call 236;exact Zq ((Ic.out _).mono λ_ _ h=>⟨h.1,h.2▸Ext.refl _⟩)))|quiet_step ((go_at_call 236;exact Zq ((Ic.out _).mono λ_ _ h=>⟨h.1,h.2▸Ext.refl _⟩)))));refine U6 ?_;intro _ n9;obtain⟨x0,n9⟩:=n9;subst n9;obtain⟨w3,j4⟩:=x0;(try dsimp only);have hz3:∀x:Zw w3,x.at'.cell? ⟨ba,1,none⟩=_:=λx=>x9 ⟨x.at',j4.trans x.ext⟩;go_wp2;refine T6 (C:=λw'=>∃x:Zw w3,w'=x.at') N0 N0 (Zw.drawn _) ?_;(try dsimp only);(repeat(first|go_big_quiet_step ((go_at_call 236;exact Zq ((Ee.out ⟨w3,j4⟩ _).mono λ_ _ h=>⟨h.1,h.2▸Ext.refl _⟩)))|quiet_step ((go_at_call 236;exact Zq ((Ee.out ⟨w3,j4⟩ _).mono λ_ _ h=>⟨h.1,h.2▸Ext.refl _⟩)))));refine U6 ?_;intro _ n9;obtain⟨x0,n9⟩:=n9;subst n9;obtain⟨w4,j9⟩:=x0;(try dsimp only);have hz4:=(HI.out.ext ((j3.trans j4).trans j9)).a0;replace b8:=b8.ext (j4.trans j9);replace j3:=(j3.trans j4).trans j9;clear j4 j9 x9 hz3 Ic Ee HD;obtain⟨wo,rfl⟩:∃wo:World,wo=w4:=⟨_,rfl⟩;go_wp2;clear hz4;go_loopw [40,4] (λi c wq=>∃k:Nat,k<=5/\i=.int .i64 (k:Int)/\OwnG 5 wq w.heap.size c (([110,110,110,110]++Tw.drawPairs (s.data.toList.take p)++Tw.mix (PA.data.toList.take k) (PB.data.toList.take k)).map encB)/\Ext w wq) (λi _ _=>5-(intOf i).toNat);(case atStart=>exact⟨0,R0 _,rfl,by simpa[Tw.mix]using b8,j3⟩);case round=>
    obtain⟨k,hk,rfl,b8,j3⟩:=hrel;by_cases Yn:k<5
    .have ka:k<PA.size:=C0;have kb:k<PB.size:=C0;have HM:=B0 (jR PA.data.toList PB.data.toList k (by rw[Za];exact ka) (by rw[Za];exact kb));have Le:(Tw.mix (PA.data.toList.take k) (PB.data.toList.take k)).length<=2*k:=F3 (NR _ _) V6;have Oc:(Tw.drawPairs (s.data.toList.take p)).length<=10*j:=(by rw[HL.out];omega);generalize hL: [110,110,110,110]++Tw.drawPairs (s.data.toList.take p)++Tw.mix (PA.data.toList.take k) (PB.data.toList.take k)=L at*;have Kz:L.length<=2000000:=(by rw[<-hL];exact jU);obtain⟨v',w5,Cm,l6,j6⟩:=vY (w:=(wr.alloc (.cells #[encB PA[k],encB PB[k]] 5)).drew) 90 5 (.int .u8 0) 1 underlying90 UI rfl I0 w.heap.size u4 (L.map encB) (b8.ext ((Ext.refl _).alloc _).drew) wr.heap.size 0 2 2 [encB PA[k],encB PB[k]] rfl I0
      (λj u hj=>by
       match j with
       |0=>simp only[List.getElem?_cons_zero,P2]at hj;subst hj;simp[go_sem]
       |1=>simp only[List.getElem?_cons_succ,List.getElem?_cons_zero,P2]at hj;subst hj;simp[go_sem]
       |j+2=>simp at hj)
      (λu hu=>by simp only[E2,J4,F4]at hu;rcases hu with rfl|rfl<;>rfl)
      J5 (by have:=j3.size;simp;omega)
     have j5:Ext w w5:=((j3.alloc (.cells #[encB PA[k],encB PB[k]] 5)).drew).l8 j6 b8.low;have s6:Hid (OwnG 5 w5 w.heap.size v' (([110,110,110,110]++Tw.drawPairs (s.data.toList.take p)++Tw.mix (PA.data.toList.take (k+1)) (PB.data.toList.take (k+1))).map encB)):=B0 (by rw[HM.out,<-V1,hL,R2];exact .inl l6);clear l6 j6 b8 hL Le Oc;unfold encB at Cm;go_wp2;go_region_law ((refine vZ (by rfl) _ _ _ (by rfl) (by rfl) _ _ (by rfl) (by rfl) _ _ Cm ?_));all_goals go_wp2;go_roundw;(case rel=>exact⟨k+1,by omega,by go_num,s6.out,j5⟩);case measure=>exact QH
    .obtain rfl:k=5:=C0;have ta:PA.data.toList.take 5=PA.data.toList:=(by rw[<-la];exact Zu PA);have tb:PB.data.toList.take 5=PB.data.toList:=(by rw[<-lb];exact Zu PB);rw[ta,tb,V1,<-Dm.out]at b8;have Ns:Hid ((Tw.drawPairs (s.data.toList.take (2*(j+1)))).length=10*(j+1)):=B0 (by rw[Dm.out,S0,HL.out,jS _ _ 5 (by rw[Za];exact la) (by rw[Za];exact lb)];omega);clear ta tb Yn hk;go_wp2;go_roundw;(case rel=>exact⟨j+1,by omega,by rw[show((2*(j+1):Nat):Int)=(p:Int)+2 by have:=HPQ.out;omega],b8,Ns,j3⟩);case measure=>exact QH
  .obtain rfl:j=h:=C0;obtain⟨p,hp⟩:∃p,2*j=p:=⟨_,rfl⟩;have hta:s.data.toList.take (2*j)=s.data.toList:=(by rw[show 2*j=s.size by omega,Zu]);rw[hta]at b8;have Cv:=Zp b8.sl;rw[hta]at HL;have Kz:([110,110,110,110]++Tw.drawPairs s.data.toList).length<=2000000:=(by simp only[S0,B1,I3,HL.out];omega);generalize [110,110,110,110]++Tw.drawPairs s.data.toList=L at*;obtain⟨D,rfl⟩:∃D:ByteArray,L=D.data.toList:=⟨⟨L.toArray⟩,by simp⟩;rw[Z0]at Cv;rw[Za]at Kz;rw[hp];have d1:decide (p<s.size)=false:=X0;clear hj hlt hta hp HL;go_wp2;go_ret;exact⟨by rw[HT.out];exact UO L0,j3⟩
def jV:∀(j:Nat)(l:List UInt8)(_:2*j+1<l.length),Tw.evens (l.take (2*(j+1)))=Tw.evens (l.take (2*j))++[l.getD (2*j) 0]
 |0,a::b::l,_=>by simp[Tw.evens]
 |0,[],h=>by simp at h
 |0,[_],h=>by simp at h
 |j+1,[],h=>by simp at h
 |j+1,[_],h=>by simp at h
 |j+1,a::b::l,h=>by simp only[B1]at h;have:=jV j l C0;have e1:(a::b::l).take (2*(j+1+1))=a::b::l.take (2*(j+1)):=jW;have e2:(a::b::l).take (2*(j+1))=a::b::l.take (2*j):=EP;have e3:(a::b::l).getD (2*(j+1)) 0=l.getD (2*j) 0:=EP;rw[e1,e2,e3,Tw.evens,Tw.evens,this,C3]
def jX:∀(j:Nat)(l:List UInt8)(_:2*j+1<l.length),Tw.odds (l.take (2*(j+1)))=Tw.odds (l.take (2*j))++[l.getD (2*j+1) 0]
 |0,a::b::l,_=>by simp[Tw.odds]
 |0,[],h=>by simp at h
 |0,[_],h=>by simp at h
 |j+1,[],h=>by simp at h
 |j+1,[_],h=>by simp at h
 |j+1,a::b::l,h=>by simp only[B1]at h;have:=jX j l C0;have e1:(a::b::l).take (2*(j+1+1))=a::b::l.take (2*(j+1)):=jW;have e2:(a::b::l).take (2*(j+1))=a::b::l.take (2*j):=EP;have e3:(a::b::l).getD (2*(j+1)+1) 0=l.getD (2*j+1) 0:=(by rw[show 2*(j+1)+1=2*j+1+1+1 by omega];rfl);rw[e1,e2,e3,Tw.odds,Tw.odds,this,C3]
def jY:∀l:List UInt8,(Tw.evens l).length<=l.length
 | []=>by simp[Tw.evens]
 | [_]=>by simp[Tw.evens]
 |_::_::l=>by have:=jY l;simp only[Tw.evens,B1];omega
def jZ:∀l:List UInt8,(Tw.odds l).length<=l.length
 | []=>by simp[Tw.odds]
 | [_]=>by simp[Tw.odds]
 |_::_::l=>by have:=jZ l;simp only[Tw.odds,B1];omega
def Zns(l:List UInt8):Lib.hasPrefix l [110,110,110,110]=decide (l.take 4=[110,110,110,110]):=by
 unfold Lib.hasPrefix;rw[K4,List.isPrefixOf_iff_prefix,G2];constructor;·rintro⟨t,rfl⟩;simp
 .intro h;exact⟨l.drop 4,by rw[<-h,G7]⟩
def EQ{α:Type}(f g:α->UInt8):∀l:List α,(l.flatMap λk=>[f k,g k]).length=2*l.length
 | []=>rfl
 |_::l=>by rw[M7,S0,EQ f g l];simp only[B1,I3];omega
def uA:Value->Nat
 | .string s=>s.size
 |_=>0
def Zh4(cs ps:ByteArray)(bc bp bz:Nat)(e:ByteArray)(n:Nat)(w:World)(hA:ZP w bc bp bz cs ps 5)(Ar:cs.data.toList=Tw.IH)(Ex:ps.data.toList=Tw.Cg)(hn:e.size=7+10*n)(IU:1<=n)(Av:n<=10000):
 Calls prog 174 #[U8 5 bc bp bz,.string e] w
  λen w'=>en=.returned (.tuple #[strV (Tw.readItf e.data.toList).1,.int .i64 (Tw.readItf e.data.toList).2])/\Ext w w':=by
 have HP:Hid (∀w',Ext w w'->∀p:ByteArray,Calls prog 237 #[.string p,.pointer (some ⟨bc,0,none⟩),.pointer (some ⟨bp,0,none⟩),.pointer (some ⟨bz,0,none⟩)] w'
  λe y8=>e=.returned (.tuple #[.int .u8 ((Tw.chr Tw.IH Tw.Cg 5 p.data.toList).1.toNat:Int),.bool (Tw.chr Tw.IH Tw.Cg 5 p.data.toList).2])/\w'=y8):=
  B0 λw' hx p=>by have h1:cs.size=10:=(by rw[Zd Ar];rfl);have h2:ps.size=50:=(by rw[Zd Ex];rfl);have:=EF cs ps 5 p bc bp bz w' (hA.ext hx) (.inl rfl) C0 C0;rw[Ar,Ex]at this;exact L3
 have HT:=B0 (Tw.readItf.eq_1 e.data.toList)
 have HF:=B0 (Tryz.strings_HasPrefix e ⟨#[110,110,110,110]⟩)
 change Hid (∀w,Calls prog 177 #[.string e,.string ⟨#[110,110,110,110]⟩] w λen w'=>en=.returned (.bool (Lib.hasPrefix e.data.toList [110,110,110,110]))/\w'=w)at HF
 rw[Zns]at HF
 rw[Za,show(e.size-7)/10=n by omega]at HT
 generalize Tw.readItf e.data.toList=res at*
 clear hA Ar Ex
 have hs:e.size<=1000000:=by omega
 have HN:=B0 hn
 clear hn
 unfold U8
 by_cases h4:e.data.toList.take 4=[110,110,110,110]
 .rw[D0 (λh=>h h4)]at HT;rw[C1 h4]at HF;have HN0:=B0 (show 17<=e.size by have:=HN.out;omega);have aIz:=HN0.out;have Wd:((e.size:Int)-3).toNat=e.size-3:=C0;clear h4;go_enter func174,ntmps174;go_wp2_with fail;refine(HF.out _).mono ?_;rintro en w1 ⟨rfl,rfl⟩;go_wp2;go_quiet (fail);go_wp2;obtain⟨w0,Gr⟩:∃w0,(w.alloc (.cells #[.int .i64 5,.func (.func 236) #[] #[.pointer (some ⟨bc,0,none⟩),.pointer (some ⟨bp,0,none⟩),.pointer (some ⟨bz,0,none⟩)],.func (.func 237) #[] #[.pointer (some ⟨bc,0,none⟩),.pointer (some ⟨bp,0,none⟩),.pointer (some ⟨bz,0,none⟩)]] 102)).drewN nq=w0:=⟨_,rfl⟩;have F0:Hid (w0.cell? ⟨w.heap.size,0,none⟩=some (.int .i64 5)):=B0 (by rw[<-Gr];simp[go_sem]);have F2:Hid (w0.cell? ⟨w.heap.size,2,none⟩=some (.func (.func 237) #[] #[.pointer (some ⟨bc,0,none⟩),.pointer (some ⟨bp,0,none⟩),.pointer (some ⟨bz,0,none⟩)])):=B0 (by rw[<-Gr];simp[go_sem]);have n9:Ext w w0:=(by rw[<-Gr];exact((Ext.refl _).alloc _).drewN _);have Ml:w.heap.size<w0.heap.size:=(by rw[<-Gr];simp);rw[Gr];obtain⟨ST,hST⟩:∃ST,e.extract (e.size-3) e.size=ST:=⟨_,rfl⟩;have IF:Hid (e.data.toList.drop (e.size-3)=ST.data.toList):=B0 (by rw[<-hST,Z8]);rw[hST];rw[IF.out]at HT;clear hST Gr HF Wd;go_loopw [6,8] (λc d wr=>∃(i:Nat)(P:ByteArray),i<=n/\c=.string P/\Hid (P.data.toList=(e.data.toList.drop (4+10*i)).take (10*(n-i)))/\Own 5 wr w0.heap.size d (((List.range i).flatMap λk=>[(Tw.Rp e.data.toList k).1,(Tw.Rq e.data.toList k).1]).map encB)/\Hid (∀m,m<i->Tw.pairOk e.data.toList m=true)/\Ext w0 wr) (λc _ _=>uA c);(case atStart=>refine⟨0,_,R0 _,rfl,B0 ?_,Own.nil _ _ _,B0 (λm hm=>absurd hm (U4 _)),Ext.refl _⟩;rw[Zr];congr 1;exact T9);case round=>obtain⟨i,P,hi,rfl,HPP,b8,HB,j3⟩:=hrel;have Ex:P.size=10*(n-i):=(by rw[Zd HPP.out,J1,X1,Za];exact T9);have Rh:=B0 Ex;by_cases hlt:i<n;(·have aIq:10<=P.size:=C0;have Yp:P.toList.isEmpty=false:=(by rw[I2,RR];exact uB);have hpz:¬P.toList=[]:=(by rw[I2];exact uB);have Bc:wr.cell? ⟨w.heap.size,0,none⟩=some (.int .i64 5):=ER;have hpb:P.size<=1000000:=C0;clear Ex;obtain⟨wo,rfl⟩:∃wo:World,wo=wr:=⟨_,rfl⟩;go_wp2;clear Bc;go_loopw [38,9,10] (λj b s wq=>∃k:Nat,k<=5/\j=.int .i64 (k:Int)/\Own 5 wq wo.heap.size b ((Tw.evens (P.data.toList.take (2*k))).map encB)/\Own 5 wq wo.heap.size s ((Tw.odds (P.data.toList.take (2*k))).map encB)/\Z2 b s/\Ext wo wq) (λj _ _ _=>5-(intOf j).toNat);(case atStart=>exact⟨0,R0 _,rfl,Own.nil _ _ _,Own.nil _ _ _,Z2.aHE _,Ext.refl _⟩);case round=>obtain⟨k,hk,rfl,Og,hos,Cb,o7⟩:=hrel;by_cases Yn:k<5;(·obtain⟨p,hp⟩:∃p,2*k=p:=⟨_,rfl⟩;obtain⟨q,hq⟩:∃q,p+1=q:=⟨_,rfl⟩;have k1:p<P.size:=C0;have k2:q<P.size:=C0;have hE:=jV k P.data.toList L7;have hO:=jX k P.data.toList L7;rw[hp,hq,UR P q k2]at hO;rw[hp,UR P p k1]at hE;rw[hp]at Og hos;have le:=jY (P.data.toList.take p);have lo:=jZ (P.data.toList.take p);rw[W7 P p C0]at le lo;have HE:=B0 hE;have HO:=B0 hO;have Jr:2*(k:Int)=(p:Int):=C0;have hpq:(p:Int)+1=(q:Int):=C0;have hle:p<=10:=C0;clear hE hO hp hq;generalize Tw.evens (P.data.toList.take p)=le1 at*;generalize Tw.odds (P.data.toList.take p)=lo1 at*;go_wp2_with (at_builtin;refine kC rfl _ _ rfl wo.heap.size _ le1 rfl (Og.alloc _) _ P[p] rfl ?c1 ?c2 ?c3 ?_);(case c1=>simp[go_sem,encB]);(case c2=>omega);(case c3=>exact NT);intro v1 w1 aC1 Kk aB6;have aC2:=(hos.alloc _).beside Kk Cb;have aCK:Z2 v1 _:=Z2.grow Cb hos _ L0 aB6;have b7:=(o7.alloc _).l8 Kk Og.low;clear Og hos Cb o7 Kk aB6;go_wp2_with (at_builtin;refine kC rfl _ _ rfl wo.heap.size _ lo1 rfl (aC2.alloc _) _ P[q] rfl ?d1 ?d2 ?d3 ?_);(case d1=>simp[go_sem,encB]);(case d2=>omega);(case d3=>have:=b7.size;exact X0);intro v2 w2 aGV Cw aDf;have aGR:=(aC1.alloc _).beside Cw aCK.symm;have aFf:Z2 v2 _:=Z2.grow aCK.symm aC1 _ L0 aDf;have j0:=(b7.alloc _).l8 Cw aC2.low;clear aC1 aC2 aCK b7 Cw aDf;go_wp2;go_roundw;(case rel=>exact⟨k+1,by omega,by go_num,by rw[HE.out,R2];exact aGR,by rw[HO.out,R2];exact aGV,aFf.symm,j0⟩);case measure=>exact QH);·obtain rfl:k=5:=C0;have Oi:P.data.toList.take (2*5)=Tw.IM e.data.toList i:=(by rw[HPP.out,UV,show min (2*5) (10*(n-i))=10 by omega];rfl);rw[Oi]at Og hos;have aFm:=Zp Og.sl;have aBB:=Zp hos.sl;have IS:wr.cell? ⟨w.heap.size,2,none⟩=some (.func (.func 237) #[] #[.pointer (some ⟨bc,0,none⟩),.pointer (some ⟨bp,0,none⟩),.pointer (some ⟨bz,0,none⟩)]):=(by rw[(j3.trans o7).cell (p:=⟨w.heap.size,2,none⟩) Ml];exact F2.out);have Lp:=B0 (HP.out wr ((n9.trans j3).trans o7) ⟨(Tw.evens (Tw.IM e.data.toList i)).toArray⟩);have IE:=B0 (HP.out wr ((n9.trans j3).trans o7) ⟨(Tw.odds (Tw.IM e.data.toList i)).toArray⟩);have Dm:Hid (Tw.chr Tw.IH Tw.Cg 5 (Tw.evens (Tw.IM e.data.toList i))=Tw.Rp e.data.toList i):=B0 rfl;have Nr:Hid (Tw.chr Tw.IH Tw.Cg 5 (Tw.odds (Tw.IM e.data.toList i))=Tw.Rq e.data.toList i):=B0 rfl;simp only[Dm.out]at Lp;simp only[Nr.out]at IE;have Ag:=B0 (Tw.pairOk.eq_1 e.data.toList i);replace b8:=b8.ext o7;have hfl:(List.range (i+1)).flatMap (λk=>[(Tw.Rp e.data.toList k).1,(Tw.Rq e.data.toList k).1])=(List.range i).flatMap (λk=>[(Tw.Rp e.data.toList k).1,(Tw.Rq e.data.toList k).1])++[(Tw.Rp e.data.toList i).1,(Tw.Rq e.data.toList i).1]:=(by rw[EK,NU];simp);have Dn:=B0 hfl;have De:((List.range i).flatMap (λk=>[(Tw.Rp e.data.toList k).1,(Tw.Rq e.data.toList k).1])).length<=2*i:=(by rw[EQ,R6];omega);clear hfl Oi Dm Nr;generalize(List.range i).flatMap (λk=>[(Tw.Rp e.data.toList k).1,(Tw.Rq e.data.toList k).1])=got at*;generalize(⟨(Tw.evens (Tw.IM e.data.toList i)).toArray⟩:ByteArray)=SA at*;generalize(⟨(Tw.odds (Tw.IM e.data.toList i)).toArray⟩:ByteArray)=SB at*;generalize Tw.Rp e.data.toList i=da at*;generalize Tw.Rq e.data.toList i=db at*;obtain⟨ca,oa⟩:=da;obtain⟨cb,ob⟩:=db;clear Og hos Cb;replace o7:=j3.trans o7;cases hoo:(oa&&ob);(·have Bz:¬((List.range n).all (Tw.pairOk e.data.toList)=true):=(by intro h;rw[M1]at h;have:=h i (by simpa using hlt);rw[Ag.out,hoo]at this;exact Bool.noConfusion this);rw[UW]at Bz;rw[G0 Bz]at HT;clear Bz;cases oa;(·exact uC);·obtain rfl:ob=false:=(by simpa using hoo);exact uC);·rw[P1]at hoo;obtain⟨rfl,rfl⟩:=hoo;have Bc:wr.cell? ⟨w.heap.size,0,none⟩=some (.int .i64 5):=(by rw[o7.cell (p:=⟨w.heap.size,0,none⟩) Ml];exact F0.out);have Dk:Hid (∀m,m<i+1->Tw.pairOk e.data.toList m=true):=B0 (λm hm=>by rcases NJ (NK hm)with h|rfl;(·exact HB.out m h);·rw[Ag.out];rfl);have HPN:Hid ((P.extract 10 P.size).data.toList=(e.data.toList.drop (4+10*(i+1))).take (10*(n-(i+1)))):=B0 (by rw[Z8,HPP.out,NV,P4,show 10*(n-i)-10=10*(n-(i+1)) by omega,show 4+10*i+10=4+10*(i+1) by omega]);go_wp2_with fail;refine Lp.out.mono ?_;rintro en w5 ⟨rfl,rfl⟩;go_wp2_with fail;refine IE.out.mono ?_;rintro en w5 ⟨rfl,rfl⟩;go_wp2_with (at_builtin;refine wD rfl _ _ rfl w0.heap.size _ got rfl (b8.alloc _) _ ca cb rfl ?c1 ?c2 ?c3 ?c4 ?_);(case c1=>simp[go_sem,encB]);(case c2=>simp[go_sem,encB]);(case c3=>omega);(case c4=>exact NT);intro v1 w1 aBI Kk aB6;have b7:=(o7.alloc _).l8 Kk b8.low;have hc3:w1.cell? ⟨w.heap.size,0,none⟩=some (.int .i64 5):=(by rw[b7.cell (p:=⟨w.heap.size,0,none⟩) Ml];exact F0.out);clear Bc IS aFm aBB b8 Kk aB6;go_wp2;go_roundw;(case rel=>exact⟨i+1,_,by omega,rfl,HPN,by rw[Dn.out,R2];exact aBI,Dk,b7⟩);case measure=>simp[uA];omega);·obtain rfl:i=n:=C0;have hpz:P.size=0:=C0;have Yp:P=⟨#[]⟩:=(by apply Zi;exact U3 (by rw[Za];exact hpz));subst Yp;have IL:¬((List.range i).all (Tw.pairOk e.data.toList)=false):=(by rw[WV,M1];intro m hm;exact HB.out m M9);rw[D0 IL]at HT;have Cv:=Zp b8.sl;clear IL hpz Ex hi hlt;by_cases p9:ST.data.toList=[119,110,110];(·rw[D0 (λh=>h p9)]at HT;have s5:ST.toList=[119,110,110]:=(by rw[I2];exact p9);exact uD);·rw[G0 p9]at HT;have s5:(ST.toList== [119,110,110])=false:=(by rw[I2];simpa using p9);exact uD
 .rw[G0 h4]at HT;rw[G1 h4]at HF;go_enter func174,ntmps174;go_wp2_with fail;refine(HF.out _).mono ?_;rintro en w1 ⟨rfl,rfl⟩;go_wp2;go_ret2;exact⟨by rw[HT.out];rfl,Xe⟩
def Ext.cells{W w1:World}(hb:Ext W w1):(∀b o,b<W.heap.size->w1.cell? ⟨b,o,none⟩=W.cell? ⟨b,o,none⟩)/\(∀b o,b<W.heap.size->w1.frozen? ⟨b,o,none⟩=W.frozen? ⟨b,o,none⟩):=
 ⟨λb o h=>hb.cell (p:=⟨b,o,none⟩) h,λb o h=>hb.frozen (p:=⟨b,o,none⟩) h⟩
structure ZJ where
 z:Nat
 pf:Nat
 pc:Array Value
 hf:Nat
 hc:Array Value
 cf:Nat
 cc:Array Value
 mf:Nat
 df:Nat
 dc:Array Value
 rf:Nat
 rr:Array Value
 rc:Array Value
 tf:Nat
def ZJ.val(F:ZJ):Value:=
 .agg #[.int .i64 (F.z:Int),.func (.func F.pf) #[] F.pc,.func (.func F.hf) #[] F.hc,.func (.func F.cf) #[] F.cc,.func (.func F.mf) #[] #[],.func (.func F.df) #[] F.dc,.func (.func F.rf) F.rr F.rc,.func (.func F.tf) #[] #[]]
def ES(k:Nat)(l:List UInt8):Prop:=l.length<=10000/\(k=2->l.length%2=0/\∀c∈l,(Tw.pat Tw.IH Tw.Cg 5 c).1.length=5)
def RS(k:Nat):Nat:=3-k
def Z3(B:Nat)(w w':World):Prop:=w.heap.size<=w'.heap.size/\∀b o,B<=b->b<w.heap.size->w'.cell? ⟨b,o,none⟩=w.cell? ⟨b,o,none⟩
def Z3.refl(B:Nat)(w:World):Z3 B w w:=⟨J0 _,λ_ _ _ _=>rfl⟩
def Z3.Ll{w w':World}(B:Nat)(h:Ext w w'):Z3 B w w':=⟨h.size,λb o _ hb=>h.cell (p:=⟨b,o,none⟩) hb⟩
def Z3.trans{B:Nat}{a b c:World}(h:Z3 B a b)(k:Z3 B b c):Z3 B a c:=
 ⟨F3 h.1 k.1,λx o h1 h2=>by rw[k.2 x o h1 (W1 h2 h.1)];exact h.2 x o h1 h2⟩
def Z3.setCell{B:Nat}{w w':World}(h:Z3 B w w'){p:Addr}(hp:p.block<B)(u:Value):Z3 B w (w'.setCell p u):=by refine⟨by simpa using h.1,λb o h1 h2=> ?_⟩;rw[UX _ _ _ _ (by intro e;subst e;simp only at hp;omega)];exact h.2 b o h1 h2
def ZP.Hk{B:Nat}{w w':World}{bc bp bz:Nat}{cs ps:ByteArray}{z:Nat}(h:ZP w bc bp bz cs ps z)(hk:Z3 B w w')(h1:B<=bc)(h2:B<=bp)(h3:B<=bz):ZP w' bc bp bz cs ps z:=
 ⟨by rw[hk.2 _ _ h1 h.lc];exact h.c,by rw[hk.2 _ _ h2 h.lp];exact h.p,by rw[hk.2 _ _ h3 h.lz];exact h.z,W1 h.lc hk.1,W1 h.lp hk.1,W1 h.lz hk.1⟩
def ZK.Hk{B:Nat}{w w':World}{z bc bp bz ba be bi bl bm:Nat}{x6 inner:ByteArray}{least Fi:Nat}(h:ZK w z bc bp bz ba be bi bl bm x6 inner least Fi)
 (hk:Z3 B w w')(h1:B<=ba)(h2:B<=be)(h3:B<=bi)(h4:B<=bl)(h5:B<=bm):ZK w' z bc bp bz ba be bi bl bm x6 inner least Fi:=
 ⟨by rw[hk.2 _ _ h1 h.la];exact h.a0,by rw[hk.2 _ _ h1 h.la];exact h.a1,by rw[hk.2 _ _ h1 h.la];exact h.a2,
  by rw[hk.2 _ _ h2 h.le];exact h.e,by rw[hk.2 _ _ h3 h.li];exact h.i,by rw[hk.2 _ _ h4 h.ll];exact h.l,by rw[hk.2 _ _ h5 h.lm];exact h.m,
  W1 h.la hk.1,W1 h.le hk.1,W1 h.li hk.1,W1 h.ll hk.1,W1 h.lm hk.1⟩
def S9.Hk{B:Nat}{w w':World}{bc bp bz ba bn:Nat}(h:S9 w bc bp bz ba bn)(hk:Z3 B w w')(h1:B<=ba)(h2:B<=bn):S9 w' bc bp bz ba bn:=
 ⟨by rw[hk.2 _ _ h1 h.la];exact h.a0,by rw[hk.2 _ _ h1 h.la];exact h.a1,by rw[hk.2 _ _ h2 h.ln];exact h.n,W1 h.la hk.1,W1 h.ln hk.1⟩
def UY(f:Nat):Prop:=∀xs w,(callFunc f xs).run prog w=.ok (.enter f xs) w
def ZJ.aEj(F:ZJ):Prop:=UY F.pf/\UY F.cf/\UY F.mf/\UY F.df/\UY F.rf/\UY F.tf
structure W8 (B:Nat) (w:World) (k:Nat) (F:ZJ):Prop where
 pat:∀w',Z3 B w w'->∀c:UInt8,Calls prog F.pf (#[.int .u8 (c.toNat:Int)]++F.pc) w' λe y8=>e=.returned (.tuple #[strV (Tw.patK k c).1,.bool (Tw.patK k c).2])/\w'=y8
 counts:∀w',Z3 B w w'->∀(n:Nat)(check:Bool),n<=9223372036854775806->Calls prog F.cf (#[.int .i64 (n:Int),.bool check]++F.cc) w' λe y8=>e=.returned (.bool (Tw.countsK k n check))/\w'=y8
 comp:∀w',Z3 B w w'->∀(s:ByteArray)(check:Bool),s.size<=1000000->Calls prog F.mf #[.string s,.bool check] w' λe y8=>e=.returned (.tuple #[strV (Tw.IJ k s.data.toList check).1,.int .i64 (Tw.IJ k s.data.toList check).2])/\Ext w' y8
 draw:∀w',Z3 B w w'->∀s:ByteArray,ES k s.data.toList->Calls prog F.df (#[.string s]++F.dc) w' λe y8=>e=.returned (strV (Tw.Er k s.data.toList))/\Ext w' y8
 read:∀w',Z3 B w w'->∀(s:ByteArray)(check:Bool),Tw.countsK k s.size check=true->Calls prog F.rf (F.rr++ #[.string s]++F.rc) w' λe y8=>e=.returned (.tuple #[strV (Tw.Ij k s.data.toList).1,.int .i64 (Tw.Ij k s.data.toList).2])/\Ext w' y8
 text:∀w',Z3 B w w'->∀(s:ByteArray)(check:Bool),s.size<=1000000->RS k<=s.size->Calls prog F.tf #[.string s,.bool check] w' λe y8=>e=.returned (strV (Tw.Wt k s.data.toList check))/\Ext w' y8
 Tx:F.aEj
def W8.Hk{B:Nat}{w w':World}{k:Nat}{F:ZJ}(h:W8 B w k F)(hx:Z3 B w w'):W8 B w' k F:=
 ⟨λw1 h1=>h.pat w1 (hx.trans h1),λw1 h1=>h.counts w1 (hx.trans h1),λw1 h1=>h.comp w1 (hx.trans h1),λw1 h1=>h.draw w1 (hx.trans h1),λw1 h1=>h.read w1 (hx.trans h1),λw1 h1=>h.text w1 (hx.trans h1),h.Tx⟩
def UZ(z bc bp bz ba be bi bl bm m t:Nat):ZJ:=
 {z:=z,pf:=236,pc:= #[.pointer (some ⟨bc,0,none⟩),.pointer (some ⟨bp,0,none⟩),.pointer (some ⟨bz,0,none⟩)],
  hf:=237,hc:= #[.pointer (some ⟨bc,0,none⟩),.pointer (some ⟨bp,0,none⟩),.pointer (some ⟨bz,0,none⟩)],
  cf:=233,cc:= #[.pointer (some ⟨ba,0,none⟩),.pointer (some ⟨bl,0,none⟩),.pointer (some ⟨bm,0,none⟩)],mf:=m,
  df:=234,dc:= #[.pointer (some ⟨ba,0,none⟩)],rf:=235,rr:= #[],rc:= #[.pointer (some ⟨ba,0,none⟩),.pointer (some ⟨be,0,none⟩),.pointer (some ⟨bi,0,none⟩)],tf:=t}
def ET(bc bp bz ba bn:Nat):ZJ:=
 {z:=5,pf:=236,pc:= #[.pointer (some ⟨bc,0,none⟩),.pointer (some ⟨bp,0,none⟩),.pointer (some ⟨bz,0,none⟩)],
  hf:=237,hc:= #[.pointer (some ⟨bc,0,none⟩),.pointer (some ⟨bp,0,none⟩),.pointer (some ⟨bz,0,none⟩)],
  cf:=171,cc:= #[.pointer (some ⟨bn,0,none⟩),.pointer (some ⟨ba,0,none⟩)],mf:=172,
  df:=173,dc:= #[.pointer (some ⟨ba,0,none⟩)],rf:=174,rr:= #[U8 5 bc bp bz],rc:= #[],tf:=175}
def Zmp(B:Nat)(w:World)(bc bp bz ba be bi bl bm:Nat)(g1:B<=bc/\B<=bp/\B<=bz)(g2:B<=ba/\B<=be/\B<=bi/\B<=bl/\B<=bm)(cs ps x6 inner:ByteArray)(hS:ZK w 9 bc bp bz ba be bi bl bm x6 inner 1 1000)(hA:ZP w bc bp bz cs ps 9)
 (h1:cs.data.toList=Tw.c39)(h2:ps.data.toList=Tw.p39)(h3:x6.data.toList=[42])(h4:inner.data.toList=Cd.syms):
 W8 B w 0 (UZ 9 bc bp bz ba be bi bl bm 166 168):=by
 have s1:cs.size=44:=by rw[Zd h1];rfl
 have s2:ps.size=396:=by rw[Zd h2];exact L2
 refine⟨λw' hx c=> ?_,λw' hx n check hn=> ?_,λw' hx s check hs=> ?_,λw' hx s hd=> ?_,λw' hx s check hc=> ?_,λw' hx s check hs hl=> ?_,?_⟩
 .have:=RN cs ps 9 c bc bp bz w' (hA.Hk hx g1.1 g1.2.1 g1.2.2) C0 C0 C0;exact RU
 .exact kY 9 bc bp bz ba be bi bl bm x6 inner 1 1000 n check w' C0 (hS.Hk hx g2.1 g2.2.1 g2.2.2.1 g2.2.2.2.1 g2.2.2.2.2) C0 C0 hn
 .exact Ziz s check w' hs
 .have:=jA cs ps 9 bc bp bz ba be bi bl bm x6 inner 1 1000 s w' (hS.Hk hx g2.1 g2.2.1 g2.2.2.1 g2.2.2.2.1 g2.2.2.2.2) (hA.Hk hx g1.1 g1.2.1 g1.2.2) C0 C0 C0 (by have:=hd.1;rw[Za]at this;omega);exact RU
 .have Dd:Tw.counts 9 1 1000 s.size check=true:=hc;unfold Tw.counts at Dd;simp only[P1,G2]at Dd;have hb:check.toNat<=1:=Bool.toNat_le check;have:=Zow cs ps bc bp bz ba be bi bl bm x6 inner 1 1000 s ((s.size+1)/10) w' (hS.Hk hx g2.1 g2.2.1 g2.2.2.1 g2.2.2.2.1 g2.2.2.2.2) (hA.Hk hx g1.1 g1.2.1 g1.2.2) C0 C0 C0 C0 C0;rw[h1,h2,h3,h4]at this;exact L3
 .exact(Zjq s check w' hs hl).mono λ_ _ h=>⟨h.1,h.2▸Ext.refl _⟩
 .exact EU
def Zmq(B:Nat)(w:World)(bc bp bz ba be bi bl bm:Nat)(g1:B<=bc/\B<=bp/\B<=bz)(g2:B<=ba/\B<=be/\B<=bi/\B<=bl/\B<=bm)(cs ps x6 inner:ByteArray)(hS:ZK w 7 bc bp bz ba be bi bl bm x6 inner 0 998)(hA:ZP w bc bp bz cs ps 7)
 (h1:cs.data.toList=Tw.Bb)(h2:ps.data.toList=Tw.pCb)(h3:x6.data.toList=Tw.Es)(h4:inner.data.toList=Tw.Ep):
 W8 B w 1 (UZ 7 bc bp bz ba be bi bl bm 169 170):=by
 have s1:cs.size=20:=by rw[Zd h1];rfl
 have s2:ps.size=140:=by rw[Zd h2];exact L2
 refine⟨λw' hx c=> ?_,λw' hx n check hn=> ?_,λw' hx s check hs=> ?_,λw' hx s hd=> ?_,λw' hx s check hc=> ?_,λw' hx s check hs hl=> ?_,?_⟩
 .have:=RN cs ps 7 c bc bp bz w' (hA.Hk hx g1.1 g1.2.1 g1.2.2) C0 C0 C0;exact RU
 .exact kY 7 bc bp bz ba be bi bl bm x6 inner 0 998 n check w' C0 (hS.Hk hx g2.1 g2.2.1 g2.2.2.1 g2.2.2.2.1 g2.2.2.2.2) C0 C0 hn
 .exact Zi0 s check w' hs
 .have:=jA cs ps 7 bc bp bz ba be bi bl bm x6 inner 0 998 s w' (hS.Hk hx g2.1 g2.2.1 g2.2.2.1 g2.2.2.2.1 g2.2.2.2.2) (hA.Hk hx g1.1 g1.2.1 g1.2.2) C0 C0 C0 (by have:=hd.1;rw[Za]at this;omega);exact RU
 .have Dd:Tw.counts 7 0 998 s.size check=true:=hc;unfold Tw.counts at Dd;simp only[P1,G2]at Dd;have hb:check.toNat<=1:=Bool.toNat_le check;have:=Zov cs ps bc bp bz ba be bi bl bm x6 inner 0 998 s ((s.size+1)/8) w' (hS.Hk hx g2.1 g2.2.1 g2.2.2.1 g2.2.2.2.1 g2.2.2.2.2) (hA.Hk hx g1.1 g1.2.1 g1.2.2) C0 C0 C0 C0 C0;rw[h1,h2,h3,h4]at this;exact L3
 .exact Zjr s check w' hs hl
 .exact EU
def Zk7(B:Nat)(w:World)(bc bp bz ba bn:Nat)(g1:B<=bc/\B<=bp/\B<=bz)(g2:B<=ba/\B<=bn)(cs ps:ByteArray)(hI:S9 w bc bp bz ba bn)(hA:ZP w bc bp bz cs ps 5)
 (h1:cs.data.toList=Tw.IH)(h2:ps.data.toList=Tw.Cg):W8 B w 2 (ET bc bp bz ba bn):=by
 have s1:cs.size=10:=by rw[Zd h1];rfl
 have s2:ps.size=50:=by rw[Zd h2];exact L2
 refine⟨λw' hx c=> ?_,λw' hx n check hn=> ?_,λw' hx s check hs=> ?_,λw' hx s hd=> ?_,λw' hx s check hc=> ?_,λw' hx s check hs hl=> ?_,?_⟩
 .have:=RN cs ps 5 c bc bp bz w' (hA.Hk hx g1.1 g1.2.1 g1.2.2) C0 C0 C0;exact RU
 .exact ZfQ bc bp bz ba bn n check w' (hI.Hk hx g2.1 g2.2) hn
 .exact Zhi s check w' hs
 .have h0:=hd.1;have h3:=hd.2 rfl;rw[Za]at h0 h3;exact Zhl cs ps bc bp bz ba bn s (s.size/2) w' (hI.Hk hx g2.1 g2.2) (hA.Hk hx g1.1 g1.2.1 g1.2.2) h1 h2 C0 C0 h3.2
 .have Dd:Tw.countsItf s.size=true:=hc;unfold Tw.countsItf at Dd;simp only[P1,G2]at Dd;exact Zh4 cs ps bc bp bz s ((s.size-7)/10) w' (hA.Hk hx g1.1 g1.2.1 g1.2.2) h1 h2 C0 C0 C0
 .exact ZhG s check w' hs hl
 .exact EU
def Zk6(w:World):Calls prog 102 #[] w λe w'=>∃F:ZJ,e=.returned F.val/\W8 (w.heap.size+1) w' 0 F/\Ext w w':=by
 go_enter func102,ntmps102;go_wp2_with fail;refine(EG _ _ 9 _ (.inl ⟨by decide+kernel,by decide+kernel,rfl⟩)).mono ?_;rintro e w1 ⟨bc,bp,bz,rfl,hA1,⟨u1,u2,u3⟩,b7⟩;go_wp2_with fail;refine(kX 9 bc bp bz _ _ 1 1000 _).mono ?_;rintro e w2 ⟨ba,be,bi,bl,bm,rfl,hS2,⟨u4,u5,u6,u7,u8⟩,j0⟩;unfold RP;have j4:=b7.trans j0;obtain⟨hc,hf⟩:=j4.cells;have hz:w.heap.size<w2.heap.size:=by have:=j4.size;exact W6
 have p8:=b7.size;simp at u1 u2 u3 p8;go_wp2;refine N4 (v:=(UZ 9 bc bp bz ba be bi bl bm 166 168).val) (by simp[results,results102,go_sem,ZJ.val,UZ,hc,hz]) rfl
  ⟨_,rfl,Zmp _ _ bc bp bz ba be bi bl bm ⟨by omega,by omega,by omega⟩ ⟨by omega,by omega,by omega,by omega,by omega⟩ _ _ _ _ (hS2.keep (B:=w.heap.size) ?_ ?_ C0 C0 C0 C0 C0) ((hA1.ext j0).keep (B:=w.heap.size) ?_ ?_ C0 C0 C0) X8 X8 X8 X8,?_⟩
 all_goals first
  |(
   intro b o h1 h2
   rw[NX _ _ _ YU]
   repeat rw[UX _ _ _ _ EV])
  |(simp;done)
  |(
   refine Ext.alloc ?_ _
   repeat refine Ext.setCell ?_ (J0 _) _
   exact Ext.trans ((Ext.refl w).alloc _) j4)
def Zk8(w:World):Calls prog 103 #[] w λe w'=>∃F:ZJ,e=.returned F.val/\W8 (w.heap.size+1) w' 1 F/\Ext w w':=by
 go_enter func103,ntmps103;go_wp2_with fail;refine(EG _ _ 7 _ (.inr (.inl ⟨by decide+kernel,by decide+kernel,rfl⟩))).mono ?_;rintro e w1 ⟨bc,bp,bz,rfl,hA1,⟨u1,u2,u3⟩,b7⟩;go_wp2_with fail;refine(kX 7 bc bp bz _ _ 0 998 _).mono ?_;rintro e w2 ⟨ba,be,bi,bl,bm,rfl,hS2,⟨u4,u5,u6,u7,u8⟩,j0⟩;unfold RP;have j4:=b7.trans j0;obtain⟨hc,hf⟩:=j4.cells;have hz:w.heap.size<w2.heap.size:=by have:=j4.size;exact W6
 have p8:=b7.size;simp at u1 u2 u3 p8;go_wp2;refine N4 (v:=(UZ 7 bc bp bz ba be bi bl bm 169 170).val) (by simp[results,results103,go_sem,ZJ.val,UZ,hc,hz]) rfl
  ⟨_,rfl,Zmq _ _ bc bp bz ba be bi bl bm ⟨by omega,by omega,by omega⟩ ⟨by omega,by omega,by omega,by omega,by omega⟩ _ _ _ _ (hS2.keep (B:=w.heap.size) ?_ ?_ C0 C0 C0 C0 C0) ((hA1.ext j0).keep (B:=w.heap.size) ?_ ?_ C0 C0 C0) X8 X8 X8 X8,?_⟩
 all_goals first
  |(
   intro b o h1 h2
   rw[NX _ _ _ YU]
   repeat rw[UX _ _ _ _ EV])
  |(simp;done)
  |(
   refine Ext.alloc ?_ _
   repeat refine Ext.setCell ?_ (J0 _) _
   exact Ext.trans ((Ext.refl w).alloc _) j4)
def Zjp(w:World):Calls prog 104 #[] w λe w'=>∃F:ZJ,e=.returned F.val/\W8 (w.heap.size+1) w' 2 F/\Ext w w':=by
 go_enter func104,ntmps104;go_wp2_with fail;refine(EG _ _ 5 _ (.inr (.inr ⟨by decide+kernel,by decide+kernel,rfl⟩))).mono ?_;rintro e w1 ⟨bc,bp,bz,rfl,hA1,⟨u1,u2,u3⟩,b7⟩;unfold U8;obtain⟨hc,hf⟩:=b7.cells;have hz:w.heap.size<w1.heap.size:=O7;have j4:=b7;simp at u1 u2 u3;go_wp2;refine N4 (v:=(ET bc bp bz w1.heap.size (w1.heap.size+1)).val) (by simp[results,results104,go_sem,ZJ.val,ET,U8,hc,hz]) rfl
  ⟨_,rfl,Zk7 _ _ bc bp bz w1.heap.size (w1.heap.size+1) ⟨by omega,by omega,by omega⟩ ⟨by omega,by omega⟩ _ _ ⟨by simp[go_sem],by simp[go_sem],by simp[go_sem],by simp;omega,by simp⟩ (hA1.keep (B:=w.heap.size) ?_ ?_ C0 C0 C0) X8 X8,?_⟩
 all_goals first
  |(
   intro b o h1 h2
   rw[NX _ _ _ J3,NX _ _ _ YU]
   repeat rw[UX _ _ _ _ EV])
  |(simp;omega)
  |(
   refine Ext.alloc (Ext.alloc ?_ _) _
   repeat refine Ext.setCell ?_ (J0 _) _
   exact Ext.trans ((Ext.refl w).alloc _) j4)
def WW(k:Nat)(w:World)(e:Ending)(w':World):Prop:=∃(B:Nat)(F:ZJ),e=.returned (.tuple #[F.val,.bool true])/\W8 B w' k F/\Ext w w'
def uE(w:World):Calls prog 62 #[.int .i64 5] w (WW 0 w):=by go_enter func62,ntmps62;go_wp2_with fail;refine(Zk6 _).mono ?_;exact QU
def uF(w:World):Calls prog 62 #[.int .i64 6] w (WW 1 w):=by go_enter func62,ntmps62;go_wp2_with fail;refine(Zk8 _).mono ?_;exact QU
def uG(w:World):Calls prog 62 #[.int .i64 7] w (WW 2 w):=by go_enter func62,ntmps62;go_wp2_with fail;refine(Zjp _).mono ?_;exact QU
def uH(kind:Int)(w:World)(h5:kind≠5)(h6:kind≠6)(h7:kind≠7):Calls prog 62 #[.int .i64 kind] w λe w'=>e=.returned (.tuple #[.agg #[.int .i64 0,.nilFunc,.nilFunc,.nilFunc,.nilFunc,.nilFunc,.nilFunc,.nilFunc],.bool false])/\Ext w w':=by have d5:(kind==5)=false:=O0.2 h5;have d6:(kind==6)=false:=O0.2 h6;have d7:(kind==7)=false:=O0.2 h7;clear h5 h6 h7;go_enter func62,ntmps62;go_wp2;refine N4 (v:=.tuple #[.agg #[.int .i64 0,.nilFunc,.nilFunc,.nilFunc,.nilFunc,.nilFunc,.nilFunc,.nilFunc],.bool false]) (by simp[results,results62,go_sem]) rfl ⟨rfl,Xe⟩
def EW(cs ps:List UInt8)(z:Nat)(c:UInt8)(hz:z<=9):(Tw.pat cs ps z c).1.length<=9:=jB
def U9(w:World):Sl w (.slice none 0 0) []:=.inl ⟨rfl,_,_,rfl⟩
def EX(c:UInt8):(((c.toNat:Int)==119)=(c==119)):=by
 rw[K4,I1,I1];constructor;·intro h;exact V4.1 (by have:(119:UInt8).toNat=119:=rfl;omega)
 .intro h;rw[h];rfl
end
end Go.Proofs.Enc
