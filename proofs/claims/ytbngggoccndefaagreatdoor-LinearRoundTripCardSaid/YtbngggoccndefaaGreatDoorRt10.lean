/-
  Laid.
-/
import Derived.Test.YtbngggoccndefaaGreatDoorRt09
set_option maxHeartbeats 8000000
set_option maxRecDepth 100000
set_option linter.all false
namespace Go.Proofs.YtbngggoccndefaaGreatDoor
open Go.Proofs.Tryz
section
open Go.RowKit
theorem CE:∀(j:Nat) (l:List UInt8) (_:2*j+1<l.length),Tw.evens (l.take (2*(j+1)))=Tw.evens (l.take (2*j))++[l.getD (2*j) 0]
 |0,a::b::l,_=>by simp[Tw.evens]
 |0,[],h=>by simp at h
 |0,[_],h=>by simp at h
 |j+1,[],h=>by simp at h
 |j+1,[_],h=>by simp at h
 |j+1,a::b::l,h=>by simp only[S0]at h;have:=CE j l C0;have e1:(a::b::l).take (2*(j+1+1))=a::b::l.take (2*(j+1)):=CF;have e2:(a::b::l).take (2*(j+1))=a::b::l.take (2*j):=MR;have e3:(a::b::l).getD (2*(j+1)) 0=l.getD (2*j) 0:=MR;rw[e1,e2,e3,Tw.evens,Tw.evens,this,P2]
theorem CG:∀(j:Nat) (l:List UInt8) (_:2*j+1<l.length),Tw.odds (l.take (2*(j+1)))=Tw.odds (l.take (2*j))++[l.getD (2*j+1) 0]
 |0,a::b::l,_=>by simp[Tw.odds]
 |0,[],h=>by simp at h
 |0,[_],h=>by simp at h
 |j+1,[],h=>by simp at h
 |j+1,[_],h=>by simp at h
 |j+1,a::b::l,h=>by simp only[S0]at h;have:=CG j l C0;have e1:(a::b::l).take (2*(j+1+1))=a::b::l.take (2*(j+1)):=CF;have e2:(a::b::l).take (2*(j+1))=a::b::l.take (2*j):=MR;have e3:(a::b::l).getD (2*(j+1)+1) 0=l.getD (2*j+1) 0:=(by rw[show 2*(j+1)+1=2*j+1+1+1 by omega];rfl);rw[e1,e2,e3,Tw.odds,Tw.odds,this,P2]
theorem CH:∀l:List UInt8,(Tw.evens l).length<=l.length
 | []=>by simp[Tw.evens]
 | [_]=>by simp[Tw.evens]
 |_::_::l=>by have:=CH l;simp only[Tw.evens,S0];omega
theorem CI:∀l:List UInt8,(Tw.odds l).length<=l.length
 | []=>by simp[Tw.odds]
 | [_]=>by simp[Tw.odds]
 |_::_::l=>by have:=CI l;simp only[Tw.odds,S0];omega
theorem aY (l:List UInt8):Lib.hasPrefix l [110,110,110,110]=decide (l.take 4=[110,110,110,110]):=by
 unfold Lib.hasPrefix;rw[U4,List.isPrefixOf_iff_prefix,V1];constructor;·rintro⟨t,rfl⟩;simp
 ·intro h;exact⟨l.drop 4,by rw[<-h,C6]⟩
theorem MS {α:Type} (f g:α->UInt8):∀l:List α,(l.flatMap fun k=>[f k,g k]).length=2*l.length
 | []=>rfl
 |_::l=>by rw[P5,O0,MS f g l];simp only[S0,U2];omega
def CK:Value->Nat
 | .string s=>s.size
 |_=>0
theorem aZ (cs ps:ByteArray) (bc bp bz:Nat) (e:ByteArray) (n:Nat) (w:World) (hA:ZA w bc bp bz cs ps 5) (hcs:cs.data.toList=Tw.cItf) (hps:ps.data.toList=Tw.pItf) (hn:e.size=7+10*n) (hn1:1<=n) (hn2:n<=10000):
 Calls prog 174 #[J7 5 bc bp bz,.string e] w
  fun en w'=>en=.returned (.tuple #[strV (Tw.readItf e.data.toList).1,.int .i64 (Tw.readItf e.data.toList).2])∧Ext w w':=by
 have HP:Hid (∀w',Ext w w'->∀p:ByteArray,Calls prog 237 #[.string p,.pointer (some ⟨bc,0,none⟩),.pointer (some ⟨bp,0,none⟩),.pointer (some ⟨bz,0,none⟩)] w'
  fun e w''=>e=.returned (.tuple #[.int .u8 ((Tw.chr Tw.cItf Tw.pItf 5 p.data.toList).1.toNat:Int),.bool (Tw.chr Tw.cItf Tw.pItf 5 p.data.toList).2])∧w'=w''):=
  B0 fun w' hx p=>by have h1:cs.size=10:=(by rw[Zc hcs];rfl);have h2:ps.size=50:=(by rw[Zc hps];rfl);have:=MI cs ps 5 p bc bp bz w' (hA.ext hx) (.inl rfl) C0 C0;rw[hcs,hps]at this;exact R2
 have HT:=B0 (Tw.readItf.eq_1 e.data.toList)
 have HF:=B0 (Tryz.strings_HasPrefix e ⟨#[110,110,110,110]⟩)
 change Hid (∀w,Calls prog 177 #[.string e,.string ⟨#[110,110,110,110]⟩] w fun en w'=>en=.returned (.bool (Lib.hasPrefix e.data.toList [110,110,110,110]))∧w'=w)at HF
 rw[aY]at HF
 rw[Za,show(e.size-7)/10=n by omega]at HT
 generalize Tw.readItf e.data.toList=res at*
 clear hA hcs hps
 have hs:e.size<=1000000:=by omega
 have HN:=B0 hn
 clear hn
 unfold J7
 by_cases h4:e.data.toList.take 4=[110,110,110,110]
 ·rw[D0 (fun h=>h h4)]at HT;rw[F1 h4]at HF;have HN0:=B0 (show 17<=e.size by have:=HN.out;omega);have hs17:=HN0.out;have hn3:((e.size:Int)-3).toNat=e.size-3:=C0;clear h4;go_enter func174,ntmps174;go_wp2_with fail;refine(HF.out _).mono ?_;rintro en w1 ⟨rfl,rfl⟩;go_wp2;go_quiet (fail);go_wp2;obtain⟨w0,hw0⟩:∃w0,(w.alloc (.cells #[.int .i64 5,.func (.func 236) #[] #[.pointer (some ⟨bc,0,none⟩),.pointer (some ⟨bp,0,none⟩),.pointer (some ⟨bz,0,none⟩)],.func (.func 237) #[] #[.pointer (some ⟨bc,0,none⟩),.pointer (some ⟨bp,0,none⟩),.pointer (some ⟨bz,0,none⟩)]] 102)).drewN nq=w0:=⟨_,rfl⟩;have F0:Hid (w0.cell? ⟨w.heap.size,0,none⟩=some (.int .i64 5)):=B0 (by rw[<-hw0];simp[go_sem]);have F2:Hid (w0.cell? ⟨w.heap.size,2,none⟩=some (.func (.func 237) #[] #[.pointer (some ⟨bc,0,none⟩),.pointer (some ⟨bp,0,none⟩),.pointer (some ⟨bz,0,none⟩)])):=B0 (by rw[<-hw0];simp[go_sem]);have hx0:Ext w w0:=(by rw[<-hw0];exact((Ext.refl _).alloc _).drewN _);have hl0:w.heap.size<w0.heap.size:=(by rw[<-hw0];simp);rw[hw0];obtain⟨ST,hST⟩:∃ST,e.extract (e.size-3) e.size=ST:=⟨_,rfl⟩;have HST:Hid (e.data.toList.drop (e.size-3)=ST.data.toList):=B0 (by rw[<-hST,ZG]);rw[hST];rw[HST.out]at HT;clear hST hw0 HF hn3;go_loopw [6,8] (fun c d wr=>∃(i:Nat) (P:ByteArray),i<=n∧c=.string P∧Hid (P.data.toList=(e.data.toList.drop (4+10*i)).take (10*(n-i)))∧Own 5 wr w0.heap.size d (((List.range i).flatMap fun k=>[(Tw.digA e.data.toList k).1,(Tw.digB e.data.toList k).1]).map encB)∧Hid (∀m,m<i->Tw.pairOk e.data.toList m=true)∧Ext w0 wr) (fun c _ _=>CK c);(case atStart=>refine⟨0,_,U0 _,rfl,B0 ?_,Own.nil _ _ _,B0 (fun m hm=>absurd hm (YB _)),Ext.refl _⟩;rw[Z0];congr 1;exact A9);case round=>obtain⟨i,P,hi,rfl,HPP,hown,HB,hxr⟩:=hrel;have hps:P.size=10*(n-i):=(by rw[Zc HPP.out,L1,L2,Za];exact A9);have HPS:=B0 hps;by_cases hlt:i<n;(·have hp10:10<=P.size:=C0;have hpe:P.toList.isEmpty=false:=(by rw[G2,UC];exact CL);have hpz:¬P.toList=[]:=(by rw[G2];exact CL);have hc0:wr.cell? ⟨w.heap.size,0,none⟩=some (.int .i64 5):=MT;have hpb:P.size<=1000000:=C0;clear hps;obtain⟨wo,rfl⟩:∃wo:World,wo=wr:=⟨_,rfl⟩;go_wp2;clear hc0;go_loopw [38,9,10] (fun j b s wq=>∃k:Nat,k<=5∧j=.int .i64 (k:Int)∧Own 5 wq wo.heap.size b ((Tw.evens (P.data.toList.take (2*k))).map encB)∧Own 5 wq wo.heap.size s ((Tw.odds (P.data.toList.take (2*k))).map encB)∧ZN b s∧Ext wo wq) (fun j _ _ _=>5-(intOf j).toNat);(case atStart=>exact⟨0,U0 _,rfl,Own.nil _ _ _,Own.nil _ _ _,ZN.nil_left _,Ext.refl _⟩);case round=>obtain⟨k,hk,rfl,hob,hos,hap,hxq⟩:=hrel;by_cases hlt5:k<5;(·obtain⟨p,hp⟩:∃p,2*k=p:=⟨_,rfl⟩;obtain⟨q,hq⟩:∃q,p+1=q:=⟨_,rfl⟩;have k1:p<P.size:=C0;have k2:q<P.size:=C0;have hE:=CE k P.data.toList YH;have hO:=CG k P.data.toList YH;rw[hp,hq,XO P q k2]at hO;rw[hp,XO P p k1]at hE;rw[hp]at hob hos;have le:=CH (P.data.toList.take p);have lo:=CI (P.data.toList.take p);rw[VC P p C0]at le lo;have HE:=B0 hE;have HO:=B0 hO;have hmp:2*(k:Int)=(p:Int):=C0;have hpq:(p:Int)+1=(q:Int):=C0;have hle:p<=10:=C0;clear hE hO hp hq;generalize Tw.evens (P.data.toList.take p)=le1 at*;generalize Tw.odds (P.data.toList.take p)=lo1 at*;go_wp2_with (at_builtin;refine EV rfl _ _ rfl wo.heap.size _ le1 rfl (hob.alloc _) _ P[p] rfl ?c1 ?c2 ?c3 ?_);(case c1=>simp[go_sem,encB]);(case c2=>omega);(case c3=>have:=hxq.size;exact E1);intro v1 w1 hob1 hg1 hat1;have hos1:=(hos.alloc _).beside hg1 hap;have hap1:ZN v1 _:=ZN.grow hap hos _ L0 hat1;have hx1:=(hxq.alloc _).ofGrown hg1 hob.low;clear hob hos hap hxq hg1 hat1;go_wp2_with (at_builtin;refine EV rfl _ _ rfl wo.heap.size _ lo1 rfl (hos1.alloc _) _ P[q] rfl ?d1 ?d2 ?d3 ?_);(case d1=>simp[go_sem,encB]);(case d2=>omega);(case d3=>have:=hx1.size;exact E1);intro v2 w2 hos2 hg2 hat2;have hob2:=(hob1.alloc _).beside hg2 hap1.symm;have hap2:ZN v2 _:=ZN.grow hap1.symm hob1 _ L0 hat2;have hx2:=(hx1.alloc _).ofGrown hg2 hos1.low;clear hob1 hos1 hap1 hx1 hg2 hat2;go_wp2;go_roundw;(case rel=>exact⟨k+1,by omega,by go_num,by rw[HE.out,B4];exact hob2,by rw[HO.out,B4];exact hos2,hap2.symm,hx2⟩);case measure=>exact QD);·obtain rfl:k=5:=C0;have hpa:P.data.toList.take (2*5)=Tw.pairAt e.data.toList i:=(by rw[HPP.out,XP,show min (2*5) (10*(n-i))=10 by omega];rfl);rw[hpa]at hob hos;have hcv1:=Zn hob.sl;have hcv2:=Zn hos.sl;have hc2:wr.cell? ⟨w.heap.size,2,none⟩=some (.func (.func 237) #[] #[.pointer (some ⟨bc,0,none⟩),.pointer (some ⟨bp,0,none⟩),.pointer (some ⟨bz,0,none⟩)]):=(by rw[(hxr.trans hxq).cell (p:=⟨w.heap.size,2,none⟩) hl0];exact F2.out);have HC1:=B0 (HP.out wr ((hx0.trans hxr).trans hxq) ⟨(Tw.evens (Tw.pairAt e.data.toList i)).toArray⟩);have HC2:=B0 (HP.out wr ((hx0.trans hxr).trans hxq) ⟨(Tw.odds (Tw.pairAt e.data.toList i)).toArray⟩);have HDA:Hid (Tw.chr Tw.cItf Tw.pItf 5 (Tw.evens (Tw.pairAt e.data.toList i))=Tw.digA e.data.toList i):=B0 rfl;have HDB:Hid (Tw.chr Tw.cItf Tw.pItf 5 (Tw.odds (Tw.pairAt e.data.toList i))=Tw.digB e.data.toList i):=B0 rfl;simp only[HDA.out]at HC1;simp only[HDB.out]at HC2;have HOK:=B0 (Tw.pairOk.eq_1 e.data.toList i);replace hown:=hown.ext hxq;have hfl:(List.range (i+1)).flatMap (fun k=>[(Tw.digA e.data.toList k).1,(Tw.digB e.data.toList k).1])=(List.range i).flatMap (fun k=>[(Tw.digA e.data.toList k).1,(Tw.digB e.data.toList k).1])++[(Tw.digA e.data.toList i).1,(Tw.digB e.data.toList i).1]:=(by rw[ML,VJ];simp);have HFL:=B0 hfl;have hgl:((List.range i).flatMap (fun k=>[(Tw.digA e.data.toList k).1,(Tw.digB e.data.toList k).1])).length<=2*i:=(by rw[MS,G7];omega);clear hfl hpa HDA HDB;generalize(List.range i).flatMap (fun k=>[(Tw.digA e.data.toList k).1,(Tw.digB e.data.toList k).1])=got at*;generalize(⟨(Tw.evens (Tw.pairAt e.data.toList i)).toArray⟩:ByteArray)=SA at*;generalize(⟨(Tw.odds (Tw.pairAt e.data.toList i)).toArray⟩:ByteArray)=SB at*;generalize Tw.digA e.data.toList i=da at*;generalize Tw.digB e.data.toList i=db at*;obtain⟨ca,oa⟩:=da;obtain⟨cb,ob⟩:=db;clear hob hos hap;replace hxq:=hxr.trans hxq;cases hoo:(oa&&ob);(·have hno:¬((List.range n).all (Tw.pairOk e.data.toList)=true):=(by intro h;rw[S1]at h;have:=h i (by simpa using hlt);rw[HOK.out,hoo]at this;exact Bool.noConfusion this);rw[XQ]at hno;rw[G0 hno]at HT;clear hno;cases oa;(·exact CM);·obtain rfl:ob=false:=(by simpa using hoo);exact CM);·rw[N1]at hoo;obtain⟨rfl,rfl⟩:=hoo;have hc0:wr.cell? ⟨w.heap.size,0,none⟩=some (.int .i64 5):=(by rw[hxq.cell (p:=⟨w.heap.size,0,none⟩) hl0];exact F0.out);have HBN:Hid (∀m,m<i+1->Tw.pairOk e.data.toList m=true):=B0 (fun m hm=>by rcases SW (SX hm)with h|rfl;(·exact HB.out m h);·rw[HOK.out];rfl);have HPN:Hid ((P.extract 10 P.size).data.toList=(e.data.toList.drop (4+10*(i+1))).take (10*(n-(i+1)))):=B0 (by rw[ZG,HPP.out,UD,Y3,show 10*(n-i)-10=10*(n-(i+1)) by omega,show 4+10*i+10=4+10*(i+1) by omega]);go_wp2_with fail;refine HC1.out.mono ?_;rintro en w5 ⟨rfl,rfl⟩;go_wp2_with fail;refine HC2.out.mono ?_;rintro en w5 ⟨rfl,rfl⟩;go_wp2_with (at_builtin;refine gL rfl _ _ rfl w0.heap.size _ got rfl (hown.alloc _) _ ca cb rfl ?c1 ?c2 ?c3 ?c4 ?_);(case c1=>simp[go_sem,encB]);(case c2=>simp[go_sem,encB]);(case c3=>omega);(case c4=>have:=hxq.size;exact E1);intro v1 w1 hown1 hg1 hat1;have hx1:=(hxq.alloc _).ofGrown hg1 hown.low;have hc3:w1.cell? ⟨w.heap.size,0,none⟩=some (.int .i64 5):=(by rw[hx1.cell (p:=⟨w.heap.size,0,none⟩) hl0];exact F0.out);clear hc0 hc2 hcv1 hcv2 hown hg1 hat1;go_wp2;go_roundw;(case rel=>exact⟨i+1,_,by omega,rfl,HPN,by rw[HFL.out,B4];exact hown1,HBN,hx1⟩);case measure=>simp[CK];omega);·obtain rfl:i=n:=C0;have hpz:P.size=0:=C0;have hpe:P=⟨#[]⟩:=(by apply Z7;exact V2 (by rw[Za];exact hpz));subst hpe;have hal:¬((List.range i).all (Tw.pairOk e.data.toList)=false):=(by rw[W6,S1];intro m hm;exact HB.out m Y7);rw[D0 hal]at HT;have hcv:=Zn hown.sl;clear hal hpz hps hi hlt;by_cases hst:ST.data.toList=[119,110,110];(·rw[D0 (fun h=>h hst)]at HT;have hs1:ST.toList=[119,110,110]:=(by rw[G2];exact hst);exact CN);·rw[G0 hst]at HT;have hs1:(ST.toList== [119,110,110])=false:=(by rw[G2];simpa using hst);exact CN
 ·rw[G0 h4]at HT;rw[D1 h4]at HF;go_enter func174,ntmps174;go_wp2_with fail;refine(HF.out _).mono ?_;rintro en w1 ⟨rfl,rfl⟩;go_wp2;go_ret2;exact⟨by rw[HT.out];rfl,Xe⟩
theorem Ext.cells {W w1:World} (hb:Ext W w1):(∀b o,b<W.heap.size->w1.cell? ⟨b,o,none⟩=W.cell? ⟨b,o,none⟩)∧(∀b o,b<W.heap.size->w1.frozen? ⟨b,o,none⟩=W.frozen? ⟨b,o,none⟩):=
 ⟨fun b o h=>hb.cell (p:=⟨b,o,none⟩) h,fun b o h=>hb.frozen (p:=⟨b,o,none⟩) h⟩
structure Z5 where
 z:Nat
 pf:Nat
 pc:Array Value
 hf:Nat
 hc:Array Value
 cf:Nat
 cc:Array Value
 mf:Nat
 df:Nat
 dc:Array Value
 rf:Nat
 rr:Array Value
 rc:Array Value
 tf:Nat
def Z5.val (F:Z5):Value:=
 .agg #[.int .i64 (F.z:Int),.func (.func F.pf) #[] F.pc,.func (.func F.hf) #[] F.hc,.func (.func F.cf) #[] F.cc,.func (.func F.mf) #[] #[],.func (.func F.df) #[] F.dc,.func (.func F.rf) F.rr F.rc,.func (.func F.tf) #[] #[]]
def MU (k:Nat) (l:List UInt8):Prop:=l.length<=10000∧(k=2->l.length%2=0∧∀c∈l,(Tw.pat Tw.cItf Tw.pItf 5 c).1.length=5)
def UE (k:Nat):Nat:=3-k
def Zs (B:Nat) (w w':World):Prop:=w.heap.size<=w'.heap.size∧∀b o,B<=b->b<w.heap.size->w'.cell? ⟨b,o,none⟩=w.cell? ⟨b,o,none⟩
theorem Zs.refl (B:Nat) (w:World):Zs B w w:=⟨I0 _,fun _ _ _ _=>rfl⟩
theorem Zs.of_ext {w w':World} (B:Nat) (h:Ext w w'):Zs B w w':=⟨h.size,fun b o _ hb=>h.cell (p:=⟨b,o,none⟩) hb⟩
theorem Zs.trans {B:Nat} {a b c:World} (h:Zs B a b) (k:Zs B b c):Zs B a c:=
 ⟨L3 h.1 k.1,fun x o h1 h2=>by rw[k.2 x o h1 (M1 h2 h.1)];exact h.2 x o h1 h2⟩
theorem Zs.setCell {B:Nat} {w w':World} (h:Zs B w w') {p:Addr} (hp:p.block<B) (u:Value):Zs B w (w'.setCell p u):=by refine⟨by simpa using h.1,fun b o h1 h2=> ?_⟩;rw[UF _ _ _ _ (by intro e;subst e;simp only at hp;omega)];exact h.2 b o h1 h2
theorem ZA.above {B:Nat} {w w':World} {bc bp bz:Nat} {cs ps:ByteArray} {z:Nat} (h:ZA w bc bp bz cs ps z) (hk:Zs B w w') (h1:B<=bc) (h2:B<=bp) (h3:B<=bz):ZA w' bc bp bz cs ps z:=
 ⟨by rw[hk.2 _ _ h1 h.lc];exact h.c,by rw[hk.2 _ _ h2 h.lp];exact h.p,by rw[hk.2 _ _ h3 h.lz];exact h.z,M1 h.lc hk.1,M1 h.lp hk.1,M1 h.lz hk.1⟩
theorem Z6.above {B:Nat} {w w':World} {z bc bp bz ba be bi bl bm:Nat} {edge inner:ByteArray} {least most:Nat} (h:Z6 w z bc bp bz ba be bi bl bm edge inner least most)
 (hk:Zs B w w') (h1:B<=ba) (h2:B<=be) (h3:B<=bi) (h4:B<=bl) (h5:B<=bm):Z6 w' z bc bp bz ba be bi bl bm edge inner least most:=
 ⟨by rw[hk.2 _ _ h1 h.la];exact h.a0,by rw[hk.2 _ _ h1 h.la];exact h.a1,by rw[hk.2 _ _ h1 h.la];exact h.a2,
  by rw[hk.2 _ _ h2 h.le];exact h.e,by rw[hk.2 _ _ h3 h.li];exact h.i,by rw[hk.2 _ _ h4 h.ll];exact h.l,by rw[hk.2 _ _ h5 h.lm];exact h.m,
  M1 h.la hk.1,M1 h.le hk.1,M1 h.li hk.1,M1 h.ll hk.1,M1 h.lm hk.1⟩
theorem C8.above {B:Nat} {w w':World} {bc bp bz ba bn:Nat} (h:C8 w bc bp bz ba bn) (hk:Zs B w w') (h1:B<=ba) (h2:B<=bn):C8 w' bc bp bz ba bn:=
 ⟨by rw[hk.2 _ _ h1 h.la];exact h.a0,by rw[hk.2 _ _ h1 h.la];exact h.a1,by rw[hk.2 _ _ h2 h.ln];exact h.n,M1 h.la hk.1,M1 h.ln hk.1⟩
def XR (f:Nat):Prop:=∀xs w,(callFunc f xs).run prog w=.ok (.enter f xs) w
def Z5.Enter (F:Z5):Prop:=XR F.pf∧XR F.cf∧XR F.mf∧XR F.df∧XR F.rf∧XR F.tf
structure K7 (B:Nat) (w:World) (k:Nat) (F:Z5):Prop where
 pat:∀w',Zs B w w'->∀c:UInt8,Calls prog F.pf (#[.int .u8 (c.toNat:Int)]++F.pc) w' fun e w''=>e=.returned (.tuple #[strV (Tw.patK k c).1,.bool (Tw.patK k c).2])∧w'=w''
 counts:∀w',Zs B w w'->∀(n:Nat) (check:Bool),n<=9223372036854775806->Calls prog F.cf (#[.int .i64 (n:Int),.bool check]++F.cc) w' fun e w''=>e=.returned (.bool (Tw.countsK k n check))∧w'=w''
 comp:∀w',Zs B w w'->∀(s:ByteArray) (check:Bool),s.size<=1000000->Calls prog F.mf #[.string s,.bool check] w' fun e w''=>e=.returned (.tuple #[strV (Tw.compK k s.data.toList check).1,.int .i64 (Tw.compK k s.data.toList check).2])∧Ext w' w''
 draw:∀w',Zs B w w'->∀s:ByteArray,MU k s.data.toList->Calls prog F.df (#[.string s]++F.dc) w' fun e w''=>e=.returned (strV (Tw.drawK k s.data.toList))∧Ext w' w''
 read:∀w',Zs B w w'->∀(s:ByteArray) (check:Bool),Tw.countsK k s.size check=true->Calls prog F.rf (F.rr++ #[.string s]++F.rc) w' fun e w''=>e=.returned (.tuple #[strV (Tw.readK k s.data.toList).1,.int .i64 (Tw.readK k s.data.toList).2])∧Ext w' w''
 text:∀w',Zs B w w'->∀(s:ByteArray) (check:Bool),s.size<=1000000->UE k<=s.size->Calls prog F.tf #[.string s,.bool check] w' fun e w''=>e=.returned (strV (Tw.textK k s.data.toList check))∧Ext w' w''
 ent:F.Enter
theorem K7.above {B:Nat} {w w':World} {k:Nat} {F:Z5} (h:K7 B w k F) (hx:Zs B w w'):K7 B w' k F:=
 ⟨fun w1 h1=>h.pat w1 (hx.trans h1),fun w1 h1=>h.counts w1 (hx.trans h1),fun w1 h1=>h.comp w1 (hx.trans h1),fun w1 h1=>h.draw w1 (hx.trans h1),fun w1 h1=>h.read w1 (hx.trans h1),fun w1 h1=>h.text w1 (hx.trans h1),h.ent⟩
def XS (z bc bp bz ba be bi bl bm m t:Nat):Z5:=
 {z:=z,pf:=236,pc:= #[.pointer (some ⟨bc,0,none⟩),.pointer (some ⟨bp,0,none⟩),.pointer (some ⟨bz,0,none⟩)],
  hf:=237,hc:= #[.pointer (some ⟨bc,0,none⟩),.pointer (some ⟨bp,0,none⟩),.pointer (some ⟨bz,0,none⟩)],
  cf:=233,cc:= #[.pointer (some ⟨ba,0,none⟩),.pointer (some ⟨bl,0,none⟩),.pointer (some ⟨bm,0,none⟩)],mf:=m,
  df:=234,dc:= #[.pointer (some ⟨ba,0,none⟩)],rf:=235,rr:= #[],rc:= #[.pointer (some ⟨ba,0,none⟩),.pointer (some ⟨be,0,none⟩),.pointer (some ⟨bi,0,none⟩)],tf:=t}
def MV (bc bp bz ba bn:Nat):Z5:=
 {z:=5,pf:=236,pc:= #[.pointer (some ⟨bc,0,none⟩),.pointer (some ⟨bp,0,none⟩),.pointer (some ⟨bz,0,none⟩)],
  hf:=237,hc:= #[.pointer (some ⟨bc,0,none⟩),.pointer (some ⟨bp,0,none⟩),.pointer (some ⟨bz,0,none⟩)],
  cf:=171,cc:= #[.pointer (some ⟨bn,0,none⟩),.pointer (some ⟨ba,0,none⟩)],mf:=172,
  df:=173,dc:= #[.pointer (some ⟨ba,0,none⟩)],rf:=174,rr:= #[J7 5 bc bp bz],rc:= #[],tf:=175}
theorem bA (B:Nat) (w:World) (bc bp bz ba be bi bl bm:Nat) (g1:B<=bc∧B<=bp∧B<=bz) (g2:B<=ba∧B<=be∧B<=bi∧B<=bl∧B<=bm) (cs ps edge inner:ByteArray) (hS:Z6 w 9 bc bp bz ba be bi bl bm edge inner 1 1000) (hA:ZA w bc bp bz cs ps 9)
 (h1:cs.data.toList=Tw.c39) (h2:ps.data.toList=Tw.p39) (h3:edge.data.toList=[42]) (h4:inner.data.toList=Cd.syms):
 K7 B w 0 (XS 9 bc bp bz ba be bi bl bm 166 168):=by
 have s1:cs.size=44:=by rw[Zc h1];rfl
 have s2:ps.size=396:=by rw[Zc h2];exact Y1
 refine⟨fun w' hx c=> ?_,fun w' hx n check hn=> ?_,fun w' hx s check hs=> ?_,fun w' hx s hd=> ?_,fun w' hx s check hc=> ?_,fun w' hx s check hs hl=> ?_,?_⟩
 ·have:=VY cs ps 9 c bc bp bz w' (hA.above hx g1.1 g1.2.1 g1.2.2) C0 C0 C0;exact UG
 ·exact DL 9 bc bp bz ba be bi bl bm edge inner 1 1000 n check w' C0 (hS.above hx g2.1 g2.2.1 g2.2.2.1 g2.2.2.2.1 g2.2.2.2.2) C0 C0 hn
 ·exact aE s check w' hs
 ·have:=DO cs ps 9 bc bp bz ba be bi bl bm edge inner 1 1000 s w' (hS.above hx g2.1 g2.2.1 g2.2.2.1 g2.2.2.2.1 g2.2.2.2.2) (hA.above hx g1.1 g1.2.1 g1.2.2) C0 C0 C0 (by have:=hd.1;rw[Za]at this;omega);exact UG
 ·have hc':Tw.counts 9 1 1000 s.size check=true:=hc;unfold Tw.counts at hc';simp only[N1,V1]at hc';have hb:check.toNat<=1:=XT check;have:=aH cs ps bc bp bz ba be bi bl bm edge inner 1 1000 s ((s.size+1)/10) w' (hS.above hx g2.1 g2.2.1 g2.2.2.1 g2.2.2.2.1 g2.2.2.2.2) (hA.above hx g1.1 g1.2.1 g1.2.2) C0 C0 C0 C0 C0;rw[h1,h2,h3,h4]at this;exact R2
 ·exact(aF s check w' hs hl).mono fun _ _ h=>⟨h.1,h.2▸Ext.refl _⟩
 ·exact MW
theorem bB (B:Nat) (w:World) (bc bp bz ba be bi bl bm:Nat) (g1:B<=bc∧B<=bp∧B<=bz) (g2:B<=ba∧B<=be∧B<=bi∧B<=bl∧B<=bm) (cs ps edge inner:ByteArray) (hS:Z6 w 7 bc bp bz ba be bi bl bm edge inner 0 998) (hA:ZA w bc bp bz cs ps 7)
 (h1:cs.data.toList=Tw.cCb) (h2:ps.data.toList=Tw.pCb) (h3:edge.data.toList=Tw.eCb) (h4:inner.data.toList=Tw.dCb):
 K7 B w 1 (XS 7 bc bp bz ba be bi bl bm 169 170):=by
 have s1:cs.size=20:=by rw[Zc h1];rfl
 have s2:ps.size=140:=by rw[Zc h2];exact Y1
 refine⟨fun w' hx c=> ?_,fun w' hx n check hn=> ?_,fun w' hx s check hs=> ?_,fun w' hx s hd=> ?_,fun w' hx s check hc=> ?_,fun w' hx s check hs hl=> ?_,?_⟩
 ·have:=VY cs ps 7 c bc bp bz w' (hA.above hx g1.1 g1.2.1 g1.2.2) C0 C0 C0;exact UG
 ·exact DL 7 bc bp bz ba be bi bl bm edge inner 0 998 n check w' C0 (hS.above hx g2.1 g2.2.1 g2.2.2.1 g2.2.2.2.1 g2.2.2.2.2) C0 C0 hn
 ·exact aQ s check w' hs
 ·have:=DO cs ps 7 bc bp bz ba be bi bl bm edge inner 0 998 s w' (hS.above hx g2.1 g2.2.1 g2.2.2.1 g2.2.2.2.1 g2.2.2.2.2) (hA.above hx g1.1 g1.2.1 g1.2.2) C0 C0 C0 (by have:=hd.1;rw[Za]at this;omega);exact UG
 ·have hc':Tw.counts 7 0 998 s.size check=true:=hc;unfold Tw.counts at hc';simp only[N1,V1]at hc';have hb:check.toNat<=1:=XT check;have:=aG cs ps bc bp bz ba be bi bl bm edge inner 0 998 s ((s.size+1)/8) w' (hS.above hx g2.1 g2.2.1 g2.2.2.1 g2.2.2.2.1 g2.2.2.2.2) (hA.above hx g1.1 g1.2.1 g1.2.2) C0 C0 C0 C0 C0;rw[h1,h2,h3,h4]at this;exact R2
 ·exact aR s check w' hs hl
 ·exact MW
theorem bC (B:Nat) (w:World) (bc bp bz ba bn:Nat) (g1:B<=bc∧B<=bp∧B<=bz) (g2:B<=ba∧B<=bn) (cs ps:ByteArray) (hI:C8 w bc bp bz ba bn) (hA:ZA w bc bp bz cs ps 5)
 (h1:cs.data.toList=Tw.cItf) (h2:ps.data.toList=Tw.pItf):K7 B w 2 (MV bc bp bz ba bn):=by
 have s1:cs.size=10:=by rw[Zc h1];rfl
 have s2:ps.size=50:=by rw[Zc h2];exact Y1
 refine⟨fun w' hx c=> ?_,fun w' hx n check hn=> ?_,fun w' hx s check hs=> ?_,fun w' hx s hd=> ?_,fun w' hx s check hc=> ?_,fun w' hx s check hs hl=> ?_,?_⟩
 ·have:=VY cs ps 5 c bc bp bz w' (hA.above hx g1.1 g1.2.1 g1.2.2) C0 C0 C0;exact UG
 ·exact aT bc bp bz ba bn n check w' (hI.above hx g2.1 g2.2) hn
 ·exact aU s check w' hs
 ·have h0:=hd.1;have h3:=hd.2 rfl;rw[Za]at h0 h3;exact aX cs ps bc bp bz ba bn s (s.size/2) w' (hI.above hx g2.1 g2.2) (hA.above hx g1.1 g1.2.1 g1.2.2) h1 h2 C0 C0 h3.2
 ·have hc':Tw.countsItf s.size=true:=hc;unfold Tw.countsItf at hc';simp only[N1,V1]at hc';exact aZ cs ps bc bp bz s ((s.size-7)/10) w' (hA.above hx g1.1 g1.2.1 g1.2.2) h1 h2 C0 C0 C0
 ·exact aS s check w' hs hl
 ·exact MW
theorem bD (w:World):Calls prog 102 #[] w fun e w'=>∃F:Z5,e=.returned F.val∧K7 (w.heap.size+1) w' 0 F∧Ext w w':=by
 go_enter func102,ntmps102;go_wp2_with fail;refine(MJ _ _ 9 _ (.inl ⟨by decide+kernel,by decide+kernel,rfl⟩)).mono ?_;rintro e w1 ⟨bc,bp,bz,rfl,hA1,⟨u1,u2,u3⟩,hx1⟩;go_wp2_with fail;refine(DK 9 bc bp bz _ _ 1 1000 _).mono ?_;rintro e w2 ⟨ba,be,bi,bl,bm,rfl,hS2,⟨u4,u5,u6,u7,u8⟩,hx2⟩;unfold VZ;have hx3:=hx1.trans hx2;obtain⟨hc,hf⟩:=hx3.cells;have hz:w.heap.size<w2.heap.size:=by have:=hx3.size;exact L7
 have hz1:=hx1.size;simp at u1 u2 u3 hz1;go_wp2;refine A4 (v:=(XS 9 bc bp bz ba be bi bl bm 166 168).val) (by simp[results,results102,go_sem,Z5.val,XS,hc,hz]) rfl
  ⟨_,rfl,bA _ _ bc bp bz ba be bi bl bm ⟨by omega,by omega,by omega⟩ ⟨by omega,by omega,by omega,by omega,by omega⟩ _ _ _ _ (hS2.keep (B:=w.heap.size) ?_ ?_ C0 C0 C0 C0 C0) ((hA1.ext hx2).keep (B:=w.heap.size) ?_ ?_ C0 C0 C0) M7 M7 M7 M7,?_⟩
 all_goals first
  |(
   intro b o h1 h2
   rw[RE _ _ _ F4]
   repeat rw[UF _ _ _ _ MX])
  |(simp;done)
  |(
   refine Ext.alloc ?_ _
   repeat refine Ext.setCell ?_ (I0 _) _
   exact Ext.trans ((Ext.refl w).alloc _) hx3)
theorem bE (w:World):Calls prog 103 #[] w fun e w'=>∃F:Z5,e=.returned F.val∧K7 (w.heap.size+1) w' 1 F∧Ext w w':=by
 go_enter func103,ntmps103;go_wp2_with fail;refine(MJ _ _ 7 _ (.inr (.inl ⟨by decide+kernel,by decide+kernel,rfl⟩))).mono ?_;rintro e w1 ⟨bc,bp,bz,rfl,hA1,⟨u1,u2,u3⟩,hx1⟩;go_wp2_with fail;refine(DK 7 bc bp bz _ _ 0 998 _).mono ?_;rintro e w2 ⟨ba,be,bi,bl,bm,rfl,hS2,⟨u4,u5,u6,u7,u8⟩,hx2⟩;unfold VZ;have hx3:=hx1.trans hx2;obtain⟨hc,hf⟩:=hx3.cells;have hz:w.heap.size<w2.heap.size:=by have:=hx3.size;exact L7
 have hz1:=hx1.size;simp at u1 u2 u3 hz1;go_wp2;refine A4 (v:=(XS 7 bc bp bz ba be bi bl bm 169 170).val) (by simp[results,results103,go_sem,Z5.val,XS,hc,hz]) rfl
  ⟨_,rfl,bB _ _ bc bp bz ba be bi bl bm ⟨by omega,by omega,by omega⟩ ⟨by omega,by omega,by omega,by omega,by omega⟩ _ _ _ _ (hS2.keep (B:=w.heap.size) ?_ ?_ C0 C0 C0 C0 C0) ((hA1.ext hx2).keep (B:=w.heap.size) ?_ ?_ C0 C0 C0) M7 M7 M7 M7,?_⟩
 all_goals first
  |(
   intro b o h1 h2
   rw[RE _ _ _ F4]
   repeat rw[UF _ _ _ _ MX])
  |(simp;done)
  |(
   refine Ext.alloc ?_ _
   repeat refine Ext.setCell ?_ (I0 _) _
   exact Ext.trans ((Ext.refl w).alloc _) hx3)
theorem bF (w:World):Calls prog 104 #[] w fun e w'=>∃F:Z5,e=.returned F.val∧K7 (w.heap.size+1) w' 2 F∧Ext w w':=by
 go_enter func104,ntmps104;go_wp2_with fail;refine(MJ _ _ 5 _ (.inr (.inr ⟨by decide+kernel,by decide+kernel,rfl⟩))).mono ?_;rintro e w1 ⟨bc,bp,bz,rfl,hA1,⟨u1,u2,u3⟩,hx1⟩;unfold J7;obtain⟨hc,hf⟩:=hx1.cells;have hz:w.heap.size<w1.heap.size:=XU
 have hx3:=hx1;simp at u1 u2 u3;go_wp2;refine A4 (v:=(MV bc bp bz w1.heap.size (w1.heap.size+1)).val) (by simp[results,results104,go_sem,Z5.val,MV,J7,hc,hz]) rfl
  ⟨_,rfl,bC _ _ bc bp bz w1.heap.size (w1.heap.size+1) ⟨by omega,by omega,by omega⟩ ⟨by omega,by omega⟩ _ _ ⟨by simp[go_sem],by simp[go_sem],by simp[go_sem],by simp;omega,by simp⟩ (hA1.keep (B:=w.heap.size) ?_ ?_ C0 C0 C0) M7 M7,?_⟩
 all_goals first
  |(
   intro b o h1 h2
   rw[RE _ _ _ I2,RE _ _ _ F4]
   repeat rw[UF _ _ _ _ MX])
  |(simp;omega)
  |(
   refine Ext.alloc (Ext.alloc ?_ _) _
   repeat refine Ext.setCell ?_ (I0 _) _
   exact Ext.trans ((Ext.refl w).alloc _) hx3)
def YI (k:Nat) (w:World) (e:Ending) (w':World):Prop:=∃(B:Nat) (F:Z5),e=.returned (.tuple #[F.val,.bool true])∧K7 B w' k F∧Ext w w'
theorem CO (w:World):Calls prog 62 #[.int .i64 5] w (YI 0 w):=by go_enter func62,ntmps62;go_wp2_with fail;refine(bD _).mono ?_;exact Qt
theorem CP (w:World):Calls prog 62 #[.int .i64 6] w (YI 1 w):=by go_enter func62,ntmps62;go_wp2_with fail;refine(bE _).mono ?_;exact Qt
theorem CQ (w:World):Calls prog 62 #[.int .i64 7] w (YI 2 w):=by go_enter func62,ntmps62;go_wp2_with fail;refine(bF _).mono ?_;exact Qt
theorem CR (kind:Int) (w:World) (h5:kind≠5) (h6:kind≠6) (h7:kind≠7):Calls prog 62 #[.int .i64 kind] w fun e w'=>e=.returned (.tuple #[.agg #[.int .i64 0,.nilFunc,.nilFunc,.nilFunc,.nilFunc,.nilFunc,.nilFunc,.nilFunc],.bool false])∧Ext w w':=by have d5:(kind==5)=false:=V0.2 h5;have d6:(kind==6)=false:=V0.2 h6;have d7:(kind==7)=false:=V0.2 h7;clear h5 h6 h7;go_enter func62,ntmps62;go_wp2;refine A4 (v:=.tuple #[.agg #[.int .i64 0,.nilFunc,.nilFunc,.nilFunc,.nilFunc,.nilFunc,.nilFunc,.nilFunc],.bool false]) (by simp[results,results62,go_sem]) rfl ⟨rfl,Xe⟩
end
end Go.Proofs.YtbngggoccndefaaGreatDoor
