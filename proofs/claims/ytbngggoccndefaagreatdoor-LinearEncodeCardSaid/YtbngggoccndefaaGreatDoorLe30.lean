/-
  Laid.
-/
import Derived.Test.YtbngggoccndefaaGreatDoorLe14
import Derived.Test.YtbngggoccndefaaGreatDoorLe29
set_option maxHeartbeats 8000000
set_option maxRecDepth 100000
set_option linter.all false
namespace Go.Proofs.Enc
open Go.Proofs.Tryz
section
open Go.RowKit Go.Maps Go
namespace Cs
def stTo(T:Tab):Nat->Nat
 |0=>2
 |k+1=>if(T (0,k+3)).getD 0<(T (0,stTo T k)).getD 0 then k+3 else stTo T k
def aHc(T:Tab):stTo T 2=Pw T:=rfl
def aAB(T:Tab)(fr:Nd)(l:List Mv)(j:Nat):Option Mv:=pick T fr (l.take j)
def aHN{T:Tab}{fr:Nd}{l:List Mv}{j:Nat}{m:Mv}(h:l[j]? =some m):aAB T fr l (j+1)=if takes T fr (aAB T fr l j) m then some m else aAB T fr l j:=by unfold aAB pick;rw[M5,h,WI];rfl
def aHM{T:Tab}{fr:Nd}{l:List Mv}{j:Nat}(h:j=l.length):aAB T fr l j=pick T fr l:=by unfold aAB;rw[h,J6]
def aHh{T:Tab}{fr:Nd}{b:Option Mv}{m:Mv}(h:T m.2=none):takes T fr b m=false:=by unfold takes;rw[h]
def aHg{T:Tab}{fr:Nd}{b:Option Mv}{m:Mv}{r k:Nat}(h:T m.2=some r)(hk:T fr=some k)(hr:r+1≠k):takes T fr b m=false:=by unfold takes;rw[h,hk];exact(V0 (·&&_) (G1 (show¬r+1=(some k).getD 0 from hr))).trans (TU _)
def takes_eq{T:Tab}{fr:Nd}{b:Option Mv}{m:Mv}{r k:Nat}(h:T m.2=some r)(hk:T fr=some k)(hr:r+1=k):takes T fr b m=(match b with
 |none=>true
 |some x=>decide (m.1<x.1)):=by
 unfold takes;rw[h,hk];exact(V0 (·&&_) (C1 (show r+1=(some k).getD 0 from hr))).trans (KD _)
def end_zero{cs:List Int}{T:Tab}(F:Full cs T 0){s k:Nat}(hs:s<=4)(h:T (cs.length,s)=some k):k=0:=by
 have h5:s=0\/s=1\/s=2\/s=3\/s=4:=by omega
 rcases h5 with rfl|rfl|rfl|rfl|rfl;·rw[F.end_.1]at h;cases h
 .rw[F.end_.2]at h;cases h
 .rw[F.Tj _ C0 C0,C6]at h;injection h with h;exact h.symm
 .rw[F.Tk _ C0 C0,C6]at h;injection h with h;exact h.symm
 .rw[F.Mt _ C0 C0,C6]at h;injection h with h;exact h.symm
def aHL{cs:List Int}(hc:∀c∈cs,Ab c)(hl:cs.length<=4096){i s k:Nat}(hi:i<cs.length)(hs:s<=4)(h:table cs (i,s)=some k):
 ∃m k',pick (table cs) (i,s) (Au cs i s)=some m/\m∈Au cs i s/\k=k'+1/\table cs m.2=some k'/\path cs (table cs) k (i,s)=m.1::path cs (table cs) k' m.2:=by
 have F:=aA9 cs hc hl;obtain⟨m0,Km,r0,Ey,IZ⟩:=consistent F hc hl hi hs h;obtain⟨m,hp,hm,r,hr,Aa⟩:=aCq (T:=table cs) (fr:=(i,s)) ⟨m0,Km,r0,Ey,by rw[h];exact IZ⟩;rw[h]at Aa;have Aa:r+1=k:=Aa;subst Aa;refine⟨m,r,hp,hm,rfl,hr,?_⟩;show(if i<cs.length then match pick (table cs) (i,s) (Au cs i s)with
  |none=>[]
  |some m=>m.1::path cs (table cs) r m.2 else [])=_
 rw[G0 hi,hp]
end Cs
def AJ(ob:Option Cs.Mv):Array Value:=match ob with
 |none=> #[.int .i64 0,.int .i64 0,.int .i64 0]
 |some m=> #[.int .i64 m.1,.int .i64 (m.2.1:Int),.int .i64 (m.2.2:Int)]
def dP{w:World}{b:Nat}{x y:Value}{t:TypeId}(h:w.heap[b]? =some (.cells #[x,y] t (0,0))):
 b<w.heap.size/\w.cell? ⟨b,0,none⟩=some x/\w.cell? ⟨b,1,none⟩=some y/\w.frozen? ⟨b,0,none⟩=false/\w.frozen? ⟨b,1,none⟩=false:=
 ⟨(V3.1 h).1,Zv h rfl,Zv h rfl,ZX h,ZX h⟩
def ValS(wq wr:World)(cs:List Int)(v9:Value)(vs:List Int)(fb i s k:Nat):Prop:=
 Own 3 wr wq.heap.size v9 (vs.map encI)/\wr.heap[fb]? =some (.cells #[.int .i64 (i:Int),.int .i64 (s:Int)] 218 (0,0))/\wq.heap.size<=fb/\Ext wq wr/\Cs.table cs (i,s)=some k/\vs++Cs.path cs (Cs.table cs) k (i,s)=Cs.body cs
def PY:Value->Nat
 | .slice _ n _=>n
 |_=>0
def Zhf(v:Value)(cs:List Int)(w:World)(hv:Sl w v (cs.map encI))(hl:cs.length<=4096)(x7:∀c∈cs,Cs.Ab c):
 Calls prog 114 #[v] w (D5 (if cs=[]then([],5)else(Cs.values cs,0)) w):=by
 obtain⟨a,c,rfl⟩:=hv.form;rw[M0]at hv⊢;obtain⟨n,hn⟩:∃n,n=cs.length:=⟨_,rfl⟩;rw[<-hn]at hv hl⊢;have HN:=B0 hn;have HV:=B0 hv;have Ag:=B0 x7;clear hv x7 hn;by_cases h0:n=0
 .have By:cs=[]:=U3 (HN.out▸h0);rw[G0 By];subst h0;clear By;go_enter func114,ntmps114;go_wp2;go_ret2;exact D5.bad 5 w w (Ext.refl _)
 have k7:cs≠ []:=λe=>h0 (by rw[HN.out,e];rfl)
 rw[D0 k7];have z0:((n:Int)==0)=false:=O0.2 C0;have h4:¬(4096:Int)<(n:Int):=by omega
 have IU:1<=n:=by omega
 obtain⟨res,j7⟩:∃res,res=Cs.values cs:=⟨_,rfl⟩;have Ak:=B0 j7;rw[<-j7];clear j7 k7;go_enter func114,ntmps114;go_wp2_with fail;go_loop [25] (λt=>∃j:Nat,j<=n/\t=.int .i64 (j:Int)) (λt=>n-(intOf t).toNat)
 case atStart=>exact⟨0,R0 _,rfl⟩
 case round=>
 obtain⟨j,hj,rfl⟩:=hrel;by_cases hlt:j<n
 .have Bx:(j:Int)<(n:Int):=C0;obtain⟨x,l9⟩:∃x,cs[j]? =some x:=⟨_,P0 X3⟩;have hx:=Ag.out x (L1 l9);obtain⟨b,o,ha,hb,hc⟩:=HV.out.Af (Ext.refl _) l9;subst ha;clear l9;by_cases h7:x<=127;(·have g1:¬x<0:=U5;have g2:¬127<x:=C0;have g3:¬259<x:=C0;clear hx;go_wp2;exact AK);·have g1:¬x<0:=C0;have g2:127<x:=C0;have g4:¬x<256:=U5;have g3:¬259<x:=U5;clear hx;go_wp2;exact AK
 obtain rfl:n=j:=by omega
 clear hj hlt;have Fz:=B0 (Zla _ cs w HV.out PZ Ag.out);go_wp2_with fail;refine Fz.out.mono ?_;rintro e wq ⟨rfl,hTM⟩;obtain⟨T,hT⟩:∃T,T=Cs.table cs:=⟨_,rfl⟩;have HT:=B0 hT;rw[<-hT]at hTM;have Ji:=B0 hTM;have Hj:Hid (Ext w wq):=B0 ((Ext.refl w).l8 hTM.2.2 (λq hq=>by injection hq with hq;omega));clear hT hTM Fz;obtain⟨mb,Mm⟩:∃mb,mb=w.heap.size:=⟨_,rfl⟩;rw[<-Mm]at Ji⊢;have Ls:=B0 Mm;clear Mm;go_wp2_with fail;go_loopw [7,8] (λs7 s8 wr=>∃k st:Nat,k<=2/\2<=st/\st<=4/\s7=.int .i64 ((st:Int)+101)/\s8=.int .i64 ((k:Int)+104)/\Hid (st=Cs.stTo T k)/\Hid (Ext wq wr)) (λ_ s8 _=>106-(intOf s8).toNat)
 case atStart=>exact⟨0,2,by omega,by omega,by omega,rfl,rfl,B0 rfl,B0 (Ext.refl _)⟩
 case round=>
 rename World=>wr
 obtain⟨k,st,hk,aJF,aJG,rfl,rfl,IF,HX⟩:=hrel;by_cases hlt:k<2
 .have aAe:(k:Int)+104<=105:=C0;have Tu:Hid (∀w',Calls prog 185 #[.int .i64 ((k:Int)+104)] w' λe y8=>e=.returned (.int .i64 ((k+3:Nat):Int))/\w'=y8):=B0 (λw'=>(MP _ w' C0).mono λ_ _ h=>⟨by rw[h.1];exact Zo C0,h.2⟩);have Dc:Hid (∀w',Calls prog 185 #[.int .i64 ((st:Int)+101)] w' λe y8=>e=.returned (.int .i64 (st:Int))/\w'=y8):=B0 (λw'=>(MP _ w' C0).mono λ_ _ h=>⟨by rw[h.1];exact Zo C0,h.2⟩);obtain⟨A,hA⟩:∃A,A=(T (0,k+3)).getD 0:=⟨_,rfl⟩;obtain⟨B,hB⟩:∃B,B=(T (0,st)).getD 0:=⟨_,rfl⟩;obtain⟨k3,Jb⟩:∃k3,k3=k+3:=⟨_,rfl⟩;rw[<-Jb]at Tu hA;have HA:=B0 hA;have HB:=B0 hB;have Kr:=B0 Jb;have l1:(Instr.lookup 215 (.map (some mb)) (.agg #[.int .i64 0,.int .i64 (k3:Int)]) false).run prog wr.drew=.ok (.int .i64 (A:Int)) wr.drew:=(by have:=(TabM.ext Ji.out HX.out.drew).aAi (0,k3) P3 P3;rw[<-hA]at this;exact L3);have l2:(Instr.lookup 215 (.map (some mb)) (.agg #[.int .i64 0,.int .i64 (st:Int)]) false).run prog wr.drew=.ok (.int .i64 (B:Int)) wr.drew:=(by have:=(TabM.ext Ji.out HX.out.drew).aAi (0,st) P3 P3;rw[<-hB]at this;exact L3);clear hA hB Jb;go_upto_region 16 with fail;go_cut [60]from 46 to 61 (λs60 wx=>s60=.bool (decide (A<B))/\wx=wr.drew);(case first=>go_region_with (go_at_call 185;first|(refine(Tu.out _).mono ?_;rintro e w5 ⟨rfl,rfl⟩)|(refine(Dc.out _).mono ?_;rintro e w5 ⟨rfl,rfl⟩));all_goals(go_wp2_with fail;go_meet;exact⟨rfl,rfl⟩))
  case rest=>
  obtain⟨rfl,rfl⟩:=hcut;have Lz:=B0 HX.out.drew;clear l1 l2 Tu Dc;by_cases Hn:A<B;(·have Ci:Hid (k3=Cs.stTo T (k+1)):=B0 (by rw[Cs.stTo,<-IF.out,<-Kr.out,<-HA.out,<-HB.out,G0 Hn]);have Nh:(k:Int)+104=(k3:Int)+101:=(by have:=Kr.out;omega);have HK4:=B0 Nh;have aBC:decide (A<B)=true:=C1 Hn;rw[aBC];clear Nh Hn aBC;go_wp2_with fail;go_roundw;(case rel=>exact⟨k+1,k3,by omega,by have:=Kr.out;omega,by have:=Kr.out;omega,by rw[HK4.out],by go_num,Ci,Lz⟩);case measure=>exact Qr);·have Ci:Hid (st=Cs.stTo T (k+1)):=B0 (by rw[Cs.stTo,<-IF.out,<-Kr.out,<-HA.out,<-HB.out,D0 Hn]);have aBC:decide (A<B)=false:=G1 Hn;rw[aBC];clear Hn aBC;go_wp2_with fail;go_roundw;(case rel=>exact⟨k+1,st,by omega,by omega,by omega,rfl,by go_num,Ci,Lz⟩);case measure=>exact Qr
 obtain rfl:k=2:=by omega
 have Ci:Hid (st=Cs.Pw T):=B0 (by rw[IF.out,Cs.aHc]);have Fc:=HX;clear hk hlt IF HX;have Dc:Hid (∀w',Calls prog 185 #[.int .i64 ((st:Int)+101)] w' λe y8=>e=.returned (.int .i64 (st:Int))/\w'=y8):=B0 (λw'=>(MP _ w' C0).mono λ_ _ h=>⟨by rw[h.1];exact Zo C0,h.2⟩);have hlN:cs.length<=4096:=by rw[<-HN.out];exact hl
 have aBy:=B0 (Cs.aA9 cs Ag.out hlN);obtain⟨k0,Ew⟩:∃k0,Cs.table cs (0,st)=some k0:=by have F:=aBy.out;have:st=2\/st=3\/st=4:=C0;rcases this with rfl|rfl|rfl;(·exact⟨_,F.Tj 0 (J0 _) (R0 _)⟩);(·exact⟨_,F.Tk 0 (J0 _) (R0 _)⟩);·exact⟨_,F.Mt 0 (J0 _) (R0 _)⟩
 have HBD:Hid ([(st:Int)+101]++Cs.path cs (Cs.table cs) k0 (0,st)=Cs.body cs):=B0 (by have h1:=Ci.out;rw[HT.out]at h1;unfold Cs.body;rw[<-h1,Ew];rfl);have Oo:Hid (∀ {i s k:Nat},Cs.table cs (i,s)=some k->i<=cs.length->s<=4->(Cs.path cs (Cs.table cs) k (i,s)).length=k):=B0 (λh hi hs=>(Cs.path_run aBy.out Ag.out hlN _ _ _ h hi hs).2.1);obtain⟨L,hL⟩:∃L,L=(Cs.body cs).length:=⟨_,rfl⟩;have HL:=B0 hL;have hL1:L=k0+1:=by rw[hL,<-HBD.out,S0,Oo.out Ew (R0 _) C0];show 1+k0=k0+1;omega
 have hLb:L<=20000:=by obtain⟨s',p',_,_,hb,_,Js,_⟩:=Cs.body_is Ag.out hlN;rw[hL,hb,B1];omega
 have HBR:Hid (∀x∈Cs.body cs,0<=x/\x<=106):=B0 (by obtain⟨s',p',h1,h2,hb,_,_,Js⟩:=Cs.body_is Ag.out hlN;intro x hx;rw[hb]at hx;rcases E2.1 hx with rfl|hx;(·omega);·have:=Js x hx;omega);have aDO:Hid (ValS wq ((wr.alloc (.cells #[.int .i64 ((st:Int)+101)] 3)).alloc (.cells #[.int .i64 0,.int .i64 (st:Int)] 218)) cs (.slice (some ⟨wr.heap.size,0,none⟩) 1 1) [(st:Int)+101] (wr.heap.size+1) 0 st k0):=B0 (by have h1:=Fc.out.size;refine⟨(VG (N:=1) (xs:=[encI ((st:Int)+101)]) (X2 wr _) rfl I0 h1).alloc _,TD _ _ _,by omega,(Fc.out.alloc _).alloc _,Ew,HBD.out⟩);clear Ew hL hlN HBD;go_wp2_with fail;refine(Dc.out _).mono ?_;rintro e w5 ⟨rfl,rfl⟩;go_wp2_with fail;go_loopw [9,10] (λt9 t10 wr=>∃(i s k:Nat)(vs:List Int)(fb q:Nat)(a9:Option Addr)(c9:Nat),i<=n/\s<=4/\q+k=L/\t9=.slice a9 q c9/\t10=.pointer (some ⟨fb,0,none⟩)/\Hid (vs.length=q)/\Hid (ValS wq wr cs t9 vs fb i s k)) (λt9 _ _=>L-PY t9)
 case atStart=>exact⟨0,st,k0,[(st:Int)+101],wr.heap.size+1,1,some ⟨wr.heap.size,0,none⟩,1,R0 _,by omega,by omega,rfl,rfl,B0 rfl,aDO⟩
 case round=>
 clear aDO Dc Ci hL1;rename World=>wd
 obtain⟨i,s,k,vs,fb,q,a9,c9,hi,hs,hqk,rfl,rfl,HQ,HVS⟩:=hrel;obtain⟨b8,hfb,aDq,hxd,Pl,aBJ⟩:=HVS.out;obtain⟨f0,f1,f2,f3,f4⟩:=dP hfb;have HQK:=B0 hqk;clear hqk;by_cases hlt:i<n
 .have aAe:(i:Int)<(n:Int):=by omega
  obtain⟨m,k',hpk,Bm,Ah,Ng,p9⟩:=Cs.aHL Ag.out PZ X3 hs Pl
  have aDG:=B0 (Cs.move_ok Ag.out X3 hs Bm)
  obtain⟨ms,Jc⟩:∃ms,ms=Cs.Au cs i s:=⟨_,rfl⟩
  have Nt:=B0 Jc
  rw[<-Jc]at hpk
  have HPK:=B0 hpk
  have IF:=B0 p9
  have HIK:=B0 Pl
  have HK':=B0 Ng
  have HKK:=B0 Ah
  clear Ah
  have HXD:=B0 hxd
  have HOW:=B0 b8
  have HFB:=B0 hfb
  have Vz:=Cs.moves_len cs i s
  have aEL:∀bk,(Value.slice a9 q c9).ownBlock=some bk->bk<wd.heap.size:=λbk Dt=>(R4 b8 bk Dt).2
  have HVL:=B0 aEL
  have aAQ:=gR (.slice a n c) cs i s (wd.alloc (.cells #[.int .i64 0,.int .i64 0,.int .i64 0] 220)) (HV.out.ext ((Hj.out.trans hxd).alloc _)) PZ Ag.out X3 hs
  rw[<-Jc]at Vz aAQ
  have aAq:=B0 aAQ
  have Mz:Hid (∀m∈ms,m.2.1<=1000000/\m.2.2<=1000000):=B0 (λm hm=>by have h:=Cs.move_ok Ag.out (show i<cs.length by rw[<-HN.out];exact hlt) hs (show m∈Cs.Au cs i s by rw[<-Nt.out];exact hm);have h1:=h.end_;have h2:=h.st;have:=HN.out;omega)
  have HKL:Hid (k<=200000):=B0 (by have:=Ji.out.2.1 (i,s) k (by rw[HT.out];exact HIK.out);exact this)
  have Jo:=HKL.out
  clear Jc aAQ hpk Bm Pl Ng p9 hxd b8 hfb aBJ aEL
  go_wp2_with fail
  refine aAq.out.mono ?_
  rintro e w2 ⟨v2,rfl,Hs,j0⟩
  obtain⟨M,hM⟩:∃M,M=ms.length:=⟨_,rfl⟩
  have Is:=B0 hM
  obtain⟨a2,c2,Ez⟩:=(Hs.sl RX).form
  rw[<-hM]at Ez Vz
  subst Ez
  have aEI:wd.heap.size+1<=w2.heap.size:=by have:=j0.size;exact I6
  have Eb:Hid (∀(j:Nat)(m:Cs.Mv),ms[j]? =some m->∃b,a2=some ⟨b,0,none⟩/\wd.heap.size+1<=b/\b<w2.heap.size/\w2.cell? ⟨b,j*3,none⟩=some (.int .i64 m.1)/\w2.cell? ⟨b,j*3+1,none⟩=some (.int .i64 (m.2.1:Int))/\w2.cell? ⟨b,j*3+2,none⟩=some (.int .i64 (m.2.2:Int))):=B0 (λj m hj=>by rcases Hs.form with⟨h0,_⟩|⟨g,cap,hv3,hBg,hg⟩;(·rw[h0]at hj;cases hj);·injection hv3 with h1 h2 h3;obtain⟨b,off,ha,hb,hc⟩:=(Hs.sl RX).at_ hj;rw[h1]at ha;injection ha with ha;injection ha with Bu IB;subst Bu IB;have q0:=hc 0 C0;have q1:=hc 1 C0;have q2:=hc 2 C0;rw[Nat.zero_add]at q0 q1 q2;exact⟨g,h1,by simpa using hBg,hg,q0,q1,q2⟩)
  have HBB:Hid (w2.heap[wd.heap.size]? =some (.cells (AJ none) 220 (0,0))):=B0 (Ext.Rm (X2 wd _) j0)
  have IA:Hid (Ext wd w2):=B0 (((Ext.refl wd).alloc _).trans j0)
  have hfd:fb<wd.heap.size:=f0
  clear Hs j0 aAq hM f0 f1 f2 f3 f4
  go_wp2_with fail
  go_loopw [12,76] (λt12 t76 wr=>∃(j:Nat)(ob:Option Cs.Mv),j<=M/\t12=.bool ob.isSome/\t76=.int .i64 (j:Int)/\Hid (ob=Cs.aAB (Cs.table cs) (i,s) ms j)/\Hid (wr.heap[wd.heap.size]? =some (.cells (AJ ob) 220 (0,0)))/\Hid (GB (some wd.heap.size) w2 wr)) (λ_ t _=>M-(intOf t).toNat)
  case atStart=>exact⟨0,none,R0 _,rfl,rfl,B0 rfl,HBB,B0 (GB.refl _)⟩
  case round=>
  clear HBB
  rename World=>we
  obtain⟨j,ob,hj,rfl,rfl,HOB,HBB,HG⟩:=hrel
  by_cases aBG:j<M
  .have aGN:(j:Int)<(M:Int):=by omega
   obtain⟨y,Wb⟩:∃y,ms[j]? =some y:=⟨_,P0 (by rw[<-Is.out];exact aBG)⟩
   obtain⟨b,ha,o8,n7,d0,d1,d2⟩:=Eb.out j y Wb
   subst ha
   have Wc:=Mz.out y (L1 Wb)
   have Rh:Hid (Cs.aAB (Cs.table cs) (i,s) ms (j+1)=if Cs.takes (Cs.table cs) (i,s) ob y then some y else ob):=B0 (by rw[Cs.aHN Wb,<-HOB.out])
   have Pf:(some wd.heap.size:Option Nat)≠some b:=λe=>by injection e with e;omega
   have e0:=(HG.out.cell (p:=⟨b,j*3,none⟩) n7 Pf).trans d0
   have e1:=(HG.out.cell (p:=⟨b,j*3+1,none⟩) n7 Pf).trans d1
   have e2:=(HG.out.cell (p:=⟨b,j*3+2,none⟩) n7 Pf).trans d2
   have hbd:b<we.heap.size:=W1 n7 HG.out.size
   have HFD:=B0 (HG.out.heap (Ext.Rm HFB.out IA.out) (λe=>by injection e with e;omega))
   obtain⟨f0,f1,f2⟩:=ME HFD.out
   obtain⟨yv,yi,yt⟩:=y
   dsimp only at e0 e1 e2 Wc
   have Ge:Hid (Ext wq (we.alloc (.cells #[.int .i64 yv,.int .i64 (yi:Int),.int .i64 (yt:Int)] 220))):=B0 (((HXD.out.trans IA.out).l8 HG.out (λz hz=>by injection hz with hz;have:=HXD.out.size;omega)).alloc _)
   have HGA:Hid (GB (some wd.heap.size) w2 (we.alloc (.cells #[.int .i64 yv,.int .i64 (yi:Int),.int .i64 (yt:Int)] 220))):=B0 (HG.out.alloc _)
   have HBA:Hid ((we.alloc (.cells #[.int .i64 yv,.int .i64 (yi:Int),.int .i64 (yt:Int)] 220)).heap[wd.heap.size]? =some (.cells (AJ ob) 220 (0,0))):=B0 (Ext.Rm HBB.out ((Ext.refl we).alloc _))
   have l1:=(TabM.ext Ji.out Ge.out).look (yi,yt) Wc.1 Wc.2
   have l2:=(TabM.ext Ji.out Ge.out).aAi (i,s) P3 P3
   have hTk:T (i,s)=some k:=by rw[HT.out];exact HIK.out
   rw[hTk]at l2
   dsimp only[Option.getD_some]at l1 l2
   clear Wb d0 d1 d2 HG Wc HBB hTk
   cases IU:T (yi,yt)with
   |none=>rw[IU]at l1;dsimp only[Option.getD_none,Option.isSome_none]at l1;rw[Cs.aHh AM,D0 Bool.noConfusion]at Rh;clear IU;exact dQ
   |some r=>
    have Ui:=Ji.out.2.1 _ _ IU;rw[IU]at l1;dsimp only[Option.getD_some,Option.isSome_some]at l1;by_cases hrk:r+1=k
    .have zr:((r:Int)+1==(k:Int))=true:=I1.2 C0
     rw[Cs.takes_eq AM HIK.out hrk]at Rh
     clear IU hrk
     cases ob with
     |none=>rw[G0 rfl]at Rh;obtain⟨g0,g1,g2,g3,g4,g5,g6,g7⟩:=Zk HBA.out;exact dR
     |some z=>obtain⟨zv,zi,zt⟩:=z;dsimp only at Rh;obtain⟨g0,g1,g2,g3,g4,g5,g6,g7⟩:=Zk HBA.out;by_cases hyz:yv<zv;(·rw[G0 (C1 hyz)]at Rh;exact dR);·rw[D0 (by rw[G1 hyz];exact Bool.noConfusion)]at Rh;go_wp2_with fail;go_roundw;(case rel=>exact⟨j+1,some (zv,zi,zt),by omega,rfl,by go_num,B0 Rh.out.symm,B0 g7.out,HGA⟩);case measure=>exact Qr
    .have zr:((r:Int)+1==(k:Int))=false:=O0.2 C0;rw[Cs.aHg AM HIK.out hrk,D0 Bool.noConfusion]at Rh;clear IU hrk;exact dQ
  obtain rfl:M=j:=by omega
  have Og:=HOB.out
  rw[Cs.aHM Is.out,HPK.out]at Og
  subst Og
  obtain⟨mv,mi,mt⟩:=m
  have HMI:Hid (mi<=n/\mt<=4):=B0 ⟨by rw[HN.out];exact aDG.out.end_,aDG.out.st⟩
  obtain⟨g0,g1,g2,g3,g4,g5,g6,g7⟩:=Zk HBB.out
  have hgw:w2.grownBy we (some wd.heap.size):=HG.out
  have aGS:(Value.slice a9 q c9).ownBlock≠some wd.heap.size:=λe=>by have:=HVL.out _ e;omega
  have s6:Hid (Own 3 we wq.heap.size (.slice a9 q c9) (vs.map encI)):=B0 ((HOW.out.ext IA.out).kept hgw (.inr aGS))
  have HF5:Hid (we.heap[fb]? =some (.cells #[.int .i64 (i:Int),.int .i64 (s:Int)] 218 (0,0))):=B0 (HG.out.heap (Ext.Rm HFB.out IA.out) (λe=>by injection e with e;omega))
  have p7:Hid (Ext wq we):=B0 ((HXD.out.trans IA.out).l8 HG.out (λz hz=>by injection hz with hz;have:=HXD.out.size;omega))
  have aCg:vs.length<=999999:=by have:=HQ.out;have:=HQK.out;omega
  have hqs:wq.heap.size<=we.heap.size:=p7.out.size
  clear hj aBG hgw HG HOB HBB
  go_wp2_with (at_builtin;refine Zy rfl _ _ rfl wq.heap.size _ vs rfl (s6.out.alloc _) _ mv rfl ?c1 ?c2 ?c3 ?_)
  case c1=>exact V2
  case c2=>omega
  case c3=>exact L4
  intro v5 w5 l6 j6
  have l6:Own 3 w5 wq.heap.size v5 ((vs++[mv]).map encI):=by first|exact l6|(rw[R2];exact l6)
  have Kj:=l6.IW.2
  rw[M0,S0,HQ.out]at Kj
  obtain⟨a5,c5,rfl,-⟩:=Kj
  obtain⟨q5,hq5⟩:∃q5,q5=q+([mv]:List Int).length:=⟨_,rfl⟩
  rw[<-hq5]at l6⊢
  have HQ5:Hid (q5=q+1):=B0 hq5
  clear hq5
  have j6:GB (Value.slice a9 q c9).ownBlock (we.alloc (.cells #[.int .i64 mv] 3)) w5:=j6
  have HF6:=B0 (j6.heap (Ext.Rm HF5.out ((Ext.refl we).alloc _)) (s6.out.off HF5.out I0))
  have HB6:Hid (w5.heap[wd.heap.size]? =some (.cells #[.int .i64 mv,.int .i64 (mi:Int),.int .i64 (mt:Int)] 220 (0,0))):=B0 (j6.heap (Ext.Rm g7.out ((Ext.refl we).alloc _)) (s6.out.off g7.out I0))
  have Hi:Hid (Ext wq w5):=B0 ((p7.out.alloc (.cells #[.int .i64 mv] 3)).l8 j6 (λz hz=>s6.out.low z hz))
  have Lu:=B0 l6
  obtain⟨r0,r1,r2,r3,r4,r5,r6,r7⟩:=Zk HB6.out
  obtain⟨f0,f1,f2,f3,f4⟩:=dP HF6.out
  clear l6 j6 g0 g1 g2 g3 g4 g5 g6 g7
  go_wp2_with fail
  go_roundw
  case rel=>refine⟨mi,mt,k',vs++[mv],w5.heap.size,q5,a5,c5,HMI.out.1,HMI.out.2,?_,rfl,rfl,B0 ?_,B0 ⟨?_,?_,Hi.out.size,?_,HK'.out,?_⟩⟩;(·have:=HQ5.out;have:=HQK.out;have:=HKK.out;omega);(·rw[S0,HQ.out,HQ5.out];rfl);(·exact((Lu.out.set HF6.out I0 0 _).set (Zt HF6.out) I0 1 _).alloc _);(·have:=X2 ((w5.setCell ⟨fb,0,none⟩ (.int .i64 (mi:Int))).setCell ⟨fb,1,none⟩ (.int .i64 (mt:Int))) (.cells #[.int .i64 (mi:Int),.int .i64 (mt:Int)] 218);exact I6);(·exact((Hi.out.setCell (p:=⟨fb,0,none⟩) aDq _).setCell (p:=⟨fb,1,none⟩) aDq _).alloc _);·have h1:=HVS.out.2.2.2.2.2;rw[IF.out]at h1;rw[V1];exact h1
  case measure=>have h1:=HQ5.out;have h2:=HQK.out;have h3:=HKK.out;simp[PY];omega
 .obtain rfl:i=n:=C0;have aDj:cs.length<=4096:=PZ;obtain rfl:k=0:=Cs.end_zero aBy.out hs (by rw[<-HN.out];exact Pl);have Wl:vs=Cs.body cs:=(by rw[<-aBJ];exact(A3 _).symm);have HVB:=B0 Wl;have HOW:=B0 b8;have HXD:=B0 hxd;have aCg:vs.length=q:=HQ.out;have hqL:q=L:=(by have:=HQK.out;omega);have Ii:1<=q:=(by obtain⟨s',p',_,_,hb,_⟩:=Cs.body_is Ag.out aDj;rw[<-aCg,Wl,hb,B1];omega);have HCK:=B0 (rO _ vs wd b8.sl C0 C0 (by rw[Wl];exact HBR.out));have HVL:Hid (vs.length<=999990):=B0 C0;have hqs:=hxd.size;clear Pl aBJ Wl b8 hxd aCg hqL aDj f0 f1 f2 f3 f4 hi;obtain⟨f0,f1,f2⟩:=ME HVS.out.2.1;generalize Aq:Cc.Bk vs=ck at*;have aDC:=B0 Aq;clear Aq;go_wp2_with fail;refine HCK.out.mono ?_;rintro e w5 ⟨rfl,rfl⟩;go_wp2_with (at_builtin;refine DY rfl _ _ rfl wq.heap.size _ vs rfl (HOW.out.alloc _) _ ck 106 rfl ?c1 ?c2 ?c3 ?c4 ?_);(case c1=>exact V2);(case c2=>exact V2);(case c3=>have:=HVL.out;omega);(case c4=>exact L4);intro v5 w5 l6 j6;have s6:=B0 l6;have p7:Hid (Ext wq w5):=B0 ((HXD.out.alloc (.cells #[.int .i64 ck,.int .i64 106] 3)).l8 j6 (λz hz=>HOW.out.low z hz));clear l6 j6;go_wp2;go_ret2;refine⟨_,rfl,?_,Hj.out.trans p7.out⟩;have e:res=vs++[ck,106]:=dS;dsimp only;rw[e,R2];exact s6.out.IW
end
section
open Go.RowKit
namespace Ln
def encEan(k:Int)(s a:List UInt8):List Bool×Int:=if(Ea.comp k s).2≠0 then([],(Ea.comp k s).2)else Ea.enc k (Ea.comp k s).1 a
def encFin(r:List Bool×Int):List Bool×Int:=if r.2≠0 then([],r.2)else if 65536<r.1.length then([],4)else r
def comp_len(k:Int)(l:List UInt8):(Ea.comp k l).1.length<=13:=by
 have h:Ea.size k<=13:=by unfold Ea.size;exact R5
 unfold Ea.comp;(repeat' split)<;>(try simp only[I3,S0,J1,Y9])<;>omega
end Ln
def Zgt(k:Int)(s a:ByteArray)(hs:s.size<=9223372036854775806)(ha:a.size<=9223372036854775807)(w:World):
 Calls prog 28 #[.int .i64 k,.string s,.string a] w (ZD (Ln.encEan k s.data.toList a.data.toList) w):=by
 have HC:=B0 (ZfR k s C0 w);have HX:=B0 (Ln.encEan.eq_1 k s.data.toList a.data.toList);have x8:=Ln.comp_len k s.data.toList;obtain⟨⟨l,er⟩,hc⟩:∃x,Ea.comp k s.data.toList=x:=⟨_,rfl⟩;rw[hc]at HC HX x8;dsimp only at HX x8;have HE:=B0 (λw=>Zhm k (Ea.bS l) a AD ha w);rw[Ea.Bw]at HE;generalize Ln.encEan k s.data.toList a.data.toList=res at*;unfold strE at HC;dsimp only at HC;clear hc x8;by_cases h0:er=0
 .subst h0;rw[D0 I0]at HX;generalize Ea.enc k l a.data.toList=r2 at*;obtain⟨m,e2⟩:=r2;go_enter func28,ntmps28;go_wp2_with fail;refine HC.out.mono ?_;rintro e w1 ⟨rfl,b7⟩;go_wp2_with fail;refine(HE.out w1).mono ?_;rintro e w2 ⟨v2,rfl,Ez,j0⟩;go_wp2;go_ret2;exact⟨_,by rw[HX.out];rfl,by rw[HX.out];exact Ez,b7.trans j0⟩
 .have hb:(er !=0)=true:=R1.2 h0;rw[G0 h0]at HX;clear h0 HE;go_enter func28,ntmps28;go_wp2_with fail;refine HC.out.mono ?_;rintro e w1 ⟨rfl,b7⟩;go_wp2;go_ret2;exact⟨_,by rw[HX.out];rfl,by rw[HX.out];exact SlK.nil _,b7⟩
def dT(k:Int)(hk:k=1\/k=2\/k=3\/k=4)(s:ByteArray)(r:Int)(ck:Bool)(a:ByteArray)(hs:s.size<=9223372036854775806)(ha:a.size<=9223372036854775807)(w:World):
 Calls prog 10 #[.int .i64 k,.string s,.agg #[.int .i64 r,.bool ck,.string a]] w (ZD (Ln.encFin (Ln.encEan k s.data.toList a.data.toList)) w):=by
 have HE:=B0 (λw'=>Zgt k s a hs ha w');generalize Ln.encEan k s.data.toList a.data.toList=res at*;obtain⟨m,er⟩:=res;have HX:=B0 (Ln.encFin.eq_1 (m,er));dsimp only at HX;generalize Ln.encFin (m,er)=out at*;by_cases h0:er=0
 .subst h0;rw[D0 I0]at HX;by_cases hl:65536<m.length;(·have hlI:65536<(m.length:Int):=C0;rw[G0 hl]at HX;clear hl;rcases hk with rfl|rfl|rfl|rfl;all_goals go_enter func10,ntmps10;go_wp2_with fail;refine(HE.out _).mono ?_;rintro e w1 ⟨v1,rfl,Aw,b7⟩;obtain⟨-,a1,c1,rfl,-⟩:=Aw;rw[M0];go_wp2;go_ret2;exact⟨_,by rw[HX.out];rfl,by rw[HX.out];exact SlK.nil _,((Ext.refl w).alloc _).trans b7⟩);·have hlI:¬65536<(m.length:Int):=C0;rw[D0 hl]at HX;clear hl;rcases hk with rfl|rfl|rfl|rfl;all_goals go_enter func10,ntmps10;go_wp2_with fail;refine(HE.out _).mono ?_;rintro e w1 ⟨v1,rfl,Aw,b7⟩;have HV:=B0 Aw;obtain⟨-,a1,c1,rfl,-⟩:=Aw;dsimp only at HV;rw[M0]at HV⊢;go_wp2;go_ret2;exact⟨_,by rw[HX.out];rfl,by rw[HX.out];exact HV.out,((Ext.refl w).alloc _).trans b7⟩
 .have hb:(er !=0)=true:=R1.2 h0;rw[G0 h0]at HX;clear h0;rcases hk with rfl|rfl|rfl|rfl;all_goals go_enter func10,ntmps10;go_wp2_with fail;refine(HE.out _).mono ?_;rintro e w1 ⟨v1,rfl,Aw,b7⟩;go_wp2;go_ret2;exact⟨_,by rw[HX.out];rfl,by rw[HX.out];exact SlK.nil _,((Ext.refl w).alloc _).trans b7⟩
end
section
namespace Ln
def encTwo(k:Int)(l:S)(r:Int)(ck:Bool):List Bool×Int:=
 if(Tw.enc k l r ck).2≠0 then([],(Tw.enc k l r ck).2)else if(Rn.modules (Tw.enc k l r ck).1).2≠0 then([],(Rn.modules (Tw.enc k l r ck).1).2)else(quiet (Rn.modules (Tw.enc k l r ck).1).1 10 10,0)
def Kv(cs:List Int):List Bool×Int:=if cs=[]then([],5)else(Cs.row cs,0)
def encCode(l:S):List Bool×Int:=if l.any (λc=>decide (127<c.toNat))then([],6)else Kv (Gs.ints l)
def encGs(l:S):List Bool×Int:=
 if(Gs.parse l).2≠0 then([],(Gs.parse l).2)else if(Gs.chars (Gs.parse l).1).2≠0 then([],(Gs.chars (Gs.parse l).1).2)else Kv (Gs.chars (Gs.parse l).1).1
def aAK(k:Int)(l:S)(r:Int)(ck:Bool)(a:S):List Bool×Int:=
 if k=1\/k=2\/k=3\/k=4 then encEan k l a
 else if k=5\/k=6\/k=7 then encTwo k l r ck
 else if k=8 then encCode l
 else if k=9 then encGs l
 else([],1)
def encode(k:Int)(l:S)(r:Int)(ck:Bool)(a:S):List Bool×Int:=encFin (aAK k l r ck a)
def modules_ok{ws:List Int}(h:(Rn.modules ws).2=0):ws.length%2=1/\(∀x∈ws,1<=x)/\(Rn.modules ws).1=Rn.mods true ws:=by
 unfold Rn.modules at h⊢;by_cases h1:ws.length=0;·exact VY
 rw[D0 h1]at h⊢;by_cases h2:ws.length%2=0;·exact SZ
 rw[D0 h2]at h⊢;by_cases h3:Tw.inRng ws=false;·exact LC
 rw[D0 h3]at h⊢;by_cases h4:65536<Rn.sum ws;·rw[G0 h4]at h;cases h
 rw[D0 h4];refine⟨by omega,λx hx=> ?_,rfl⟩;rw[WV]at h3;have:=M1.1 h3 x hx;rw[P1]at this;exact D4 this.1
def okC_ints{l:S}(h:l.any (λc=>decide (127<c.toNat))=false):∀c∈Gs.ints l,Cs.Ab c:=by intro c hc;obtain⟨b,hb,rfl⟩:=I5.1 hc;have:=WM.1 h b hb;have h2:¬127<b.toNat:=λh=>this (C1 h);left;omega
def chars_okC{xs:List Gs.El}{c:List Int}(h:Gs.chars xs=(c,0)):(∀x∈c,Cs.Ab x)/\c.head? =some 256/\c.length<=4096:=by
 unfold Gs.chars at h;split at h;·exact KG
 .split at h;(·simp at h);·rename_i h1 h2;simp only[Y2,W5]at h;subst h;have h1:=L5 h1;unfold Gs.verAll at h1;split at h1;(·simp at h1);·refine⟨λx hx=> ?_,rfl,by omega⟩;have:=M1.1 (ZkT h1) x hx;simp only[Gs.okCh,I8,I1,P1,G2]at this;unfold Cs.Ab;omega
end Ln
end
section
open Go.RowKit
def eI(v:Nat):Cc.widOf v=Cs.Fk (v:Int):=by
 unfold Cc.widOf Cs.Fk;by_cases h:v=106;·rw[G0 h,G0 C0]
 .rw[D0 h,D0 C0,H6]
def VN(vs:List Int)(x:Int):Cs.allW (vs++[x])=Cs.allW vs++Cs.Fk x:=by simp[Cs.allW]
def ZhB{w:World}{v:Value}{xs:List Value}(h:SlK w v xs)(h0:0<xs.length):∃b o c,v=.slice (some ⟨b,o,none⟩) xs.length c/\b<w.heap.size/\∀j u,xs[j]? =some u->w.cell? ⟨b,o+j,none⟩=some u:=by
 rcases h.1 with⟨h1,_⟩|⟨b,o,c,h1,h2,h3⟩;·rw[h1]at h0;cases h0
 .exact⟨b,o,c,h1,h2,λj u hj=>by rw[h3 j (N1.1 hj).1];exact hj⟩
def Zhd{w:World}{ops:Array Oper}{rest:List Oper}{o:Oper}{a:Act}{Q:Exit->Act->World->Prop}(IG:o.guard=none)(s x:Operand)
 (ho:o.op=.call {callee:=.builtin .append,args:= #[s,x],argTypes:= #[43,43]})
 (B:Nat)(v:Value)(l:List Int)(hs:a.eval s=v)(b8:Own 3 w B v (l.map encI))(b off n c:Nat)(ys:List Int)(hx:a.eval x=.slice (some ⟨b,off,none⟩) n c)(hyn:ys.length=n)
 (hc:∀j u,(ys.map encI)[j]? =some u->w.cell? ⟨b,off+j,none⟩=some u)(hn:l.length+n<=1000000000)(hB:B<=w.heap.size)
 (h:∀v' w',Own 3 w' B v' ((l++ys).map encI)->w.grownBy w' v.ownBlock->wpList prog ops Q rest (a.put o.dst v') w'):wpList prog ops Q (o::rest) a w:=
 ZS IG s x 43 3 (.int .i64 0) 8 ho underlying43 WP rfl I0 B v _ hs b8 b off n c (ys.map encI) hx (by rw[M0,hyn]) hc
  (λu hu=>by obtain⟨y,_,rfl⟩:=I5.1 hu;rfl) J5 hB
  (λv' w' h1 h2=>h v' w' WO h2)
def eJ(v:Value)(cs:List Int)(w:World)(hv:Sl w v (cs.map encI))(hl:cs.length<=1000)(x7:∀c∈cs,Cs.Ab c):
 Calls prog 67 #[v] w (ZD (Ln.Kv cs) w):=by
 have Im:=B0 (Zhf v cs w hv C0 x7);by_cases hn:cs=[]
 .rw[G0 hn]at Im;have HF:Hid (Ln.Kv cs=([],5)):=B0 (by unfold Ln.Kv;rw[G0 hn]);generalize Ln.Kv cs=res at*;clear hn hv x7;go_enter func67,ntmps67;exact eK
 rw[D0 hn]at Im;have HF:Hid (Ln.Kv cs=(Cs.row cs,0)):=B0 (by unfold Ln.Kv;rw[D0 hn]);generalize Ln.Kv cs=res at*;obtain⟨Us,Tc,h20,aCW,Vp,-,-⟩:=Cs.values_is x7 (show cs.length<=4096 by omega);obtain⟨vs,Cf⟩:∃vs,vs=Cs.values cs:=⟨_,rfl⟩;have Wm:vs.length<=3010:=eL;have Wk:∀x∈vs,0<=x/\x<=106:=eM;have HWS:Hid ((∀x∈Cs.allW vs,1<=x/\x<=4)/\(Cs.allW vs).length%2=1/\Rn.sum (Cs.allW vs)<=40000/\(Cs.allW vs).length<=40000):=B0 (by refine⟨Cs.allW_pos vs Wk,?_,?_,?_⟩;(·rw[Cf,Tc];show(Cs.allW (Us++[106])).length%2=1;rw[VN,S0,Cs.allW_len Us Vp];show(6*Us.length+7)%2=1;omega);(·rw[Cf,Tc,VN,Rn.sum_app,Cs.allW_sum Us Vp];have:Rn.sum (Cs.Fk 106)=13:=I0;omega);·rw[Cf,Tc,VN,S0,Cs.allW_len Us Vp];show 6*Us.length+7<=40000;omega);have Ly:Hid (∀j,(Cs.allW (vs.take j)).length<=7*j):=B0 (λj=>by
  induction j with
  |zero=>rw[YP];simp[Cs.allW]
  |succ j ih=>rcases H5 j vs.length with h|h;(·obtain⟨x,hx⟩:∃x,vs[j]? =some x:=⟨_,P0 h⟩;rw[M5,hx];show(Cs.allW (vs.take j++[x])).length<=_;rw[VN,S0];have j0:=Wk x (L1 hx);have:(Cs.Fk x).length<=7:=(by by_cases h6:x=106;(·subst h6;decide);·rw[(Cs.pat_ok j0.1 C0).1];omega);omega);·rw[S1 C0];rw[S1 h]at ih;omega)
 have Uz:Hid (Cs.row cs=Ln.quiet (Rn.mods true (Cs.allW vs)) 10 10):=B0 (by rw[Cf];rfl);rw[<-Cf]at Im;have Eo:=B0 Wk;obtain⟨n,Av⟩:∃n,n=vs.length:=⟨_,rfl⟩;rw[<-Av]at Wm;have HN:=B0 Av;clear Cf Tc h20 aCW Vp Wk hn Av hv x7;go_enter func67,ntmps67;go_wp2_with fail;refine Im.out.mono ?_;rintro e w1 ⟨u,rfl,hu,b7⟩;dsimp only at hu;obtain⟨a,c,rfl⟩:=hu.1.form;rw[M0,<-HN.out]at hu⊢;have HU:=B0 hu.1;have IK:=B0 b7;have Lt:Hid (Own 3 w1 w1.heap.size (.slice none 0 0) ((Cs.allW (vs.take 0)).map encI)):=B0 (Own.nil _ _ _);clear hu b7 Im;go_wp2_with fail;go_loopw [6,21] (λt6 t wr=>∃j:Nat,j<=n/\t=.int .i64 (j:Int)/\Hid (Own 3 wr w1.heap.size t6 ((Cs.allW (vs.take j)).map encI))/\Hid (Ext w1 wr)) (λ_ t _=>n-(intOf t).toNat)
 case atStart=>exact⟨0,R0 _,rfl,Lt,B0 (Ext.refl _)⟩
 case round=>
 clear Lt;rename World=>wr
 obtain⟨j,hj,rfl,HO,HX⟩:=hrel;by_cases hlt:j<n
 .have Bx:(j:Int)<(n:Int):=C0;obtain⟨x,l9⟩:∃x,vs[j]? =some x:=⟨_,P0 X3⟩;obtain⟨b,o,ha,hb,hc⟩:=HU.out.Af HX.out l9;subst ha;have j0:=Eo.out x (L1 l9);obtain⟨xn,rfl⟩:∃xn:Nat,x=(xn:Int):=⟨x.toNat,by omega⟩;have HW:=B0 (BF xn wr C0);rw[eI]at HW;have hlen:1<=(Cs.Fk (xn:Int)).length/\(Cs.Fk (xn:Int)).length<=7:=eN;have Ci:Hid (Cs.allW (vs.take (j+1))=Cs.allW (vs.take j)++Cs.Fk (xn:Int)):=B0 (by rw[M5,l9];exact VN _ _);have IL:=Ly.out j;generalize Cs.Fk (xn:Int)=ps at*;clear l9 j0;go_wp2_with fail;refine HW.out.mono ?_;rintro e w2 ⟨u2,rfl,ID,j0⟩;obtain⟨b2,o2,c2,rfl,n7,Eh⟩:=ZhB ID J5;rw[M0]at ID⊢;obtain⟨p,hp⟩:∃p,p=ps.length:=⟨_,rfl⟩;rw[<-hp]at hlen⊢;have HP:=B0 hp;have Hf:=B0 (HO.out.ext j0);have IA:=B0 (HX.out.trans j0);have HCE:=B0 Eh;have o4:=IA.out.size;clear hp ID j0 Eh HO HX HW;go_wp2_with (at_builtin;refine Zhd rfl _ _ rfl w1.heap.size _ (Cs.allW (vs.take j)) rfl Hf.out _ _ _ _ ps rfl HP.out.symm HCE.out C0 o4 ?_);intro v5 w5 l6 j6;have s6:Hid (Own 3 w5 w1.heap.size v5 ((Cs.allW (vs.take (j+1))).map encI)):=B0 (by rw[Ci.out];first|exact l6|(rw[R2];exact l6));have p7:Hid (Ext w1 w5):=B0 (IA.out.l8 j6 (λz hz=>Hf.out.low z hz));clear l6 j6;exact eO
 obtain rfl:n=j:=by omega
 have Ed:Hid (Own 3 wr w1.heap.size u6 ((Cs.allW vs).map encI)):=B0 (by have h:=HO.out;rw[S1 KH]at h;exact h);have Fc:=B0 (IK.out.trans HX.out);have HM:=B0 (BD _ _ wr Ed.out.sl (by have:=HWS.out.2.2.2;omega));obtain⟨ws,Dv⟩:∃ws,ws=Cs.allW vs:=⟨_,rfl⟩;rw[<-Dv]at HWS Uz HM;have Mz:Hid (Rn.modules ws=(Rn.mods true ws,0)):=B0 (by obtain⟨h1,h2,h3,_⟩:=HWS.out;unfold Rn.modules;rw[D0 C0,D0 C0,D0,D0 C0];rw[WV];refine M1.2 λx hx=> ?_;have:=h1 x hx;rw[C1 C0,C1 C0];rfl);rw[Mz.out]at HM;have Gz:1<=(Rn.mods true ws).length/\(Rn.mods true ws).length<=40000:=by obtain⟨h1,h2,h3,_⟩:=HWS.out;have h4:=Rn.mods_len ws true (λx hx=>(h1 x hx).1);have h5:=Rn.sum_pos ws (λx hx=>(h1 x hx).1);omega
 generalize Rn.mods true ws=m at*;obtain⟨M,hM⟩:∃M,M=m.length:=⟨_,rfl⟩;rw[<-hM]at Gz;have Is:=B0 hM;clear hM Dv hj hlt HO HX Ly Eo HU HWS;go_wp2_with fail;refine HM.out.mono ?_;rintro e w2 ⟨u2,rfl,ID,j0⟩;dsimp only at ID;obtain⟨x0,n9⟩:∃x,m[0]? =some x:=⟨_,P0 (by rw[<-Is.out];omega)⟩;obtain⟨av,cv,rfl⟩:=ID.1.form;rw[M0,<-Is.out]at ID⊢;obtain⟨b0,o0,hav,Sb,-⟩:=ID.1.Xn (Ext.refl w2) n9;subst hav;have HQ:=B0 (bH m 10 10);have Ri:=B0 (BL m 10 10);rw[<-Is.out]at HQ Ri;obtain⟨N,hN⟩:∃N,N=10+M+10:=⟨_,rfl⟩;rw[<-hN]at HQ Ri;have hNI:(M:Int)+20=(N:Int):=by omega
 have aIF:¬(65536:Int)<(N:Int):=by omega
 have aCJ:10<N:=by omega
 have aFe:(10:Int)<=(N:Int):=by omega
 obtain⟨wm,IT,Mi,Bg⟩:=BK w2 N C0;have Kb:Hid (N<=1000000):=B0 C0;have HXM:Hid (Ext w w2):=B0 (Fc.out.trans j0);generalize Ln.quiet m 10 10=qs at*;obtain⟨w5,hcp,j6,j5⟩:=bI (T:=3) (w:=w2) (wm:=wm) (a:=10) (N:=N) (m:=m) (n:=M) (b0:=b0) (o0:=o0) (cv:=cv) Mi Bg (ID.1.ext Bg) Is.out.symm C0 aCJ;have HG5:=B0 j6;have p7:Hid (Ext w w5):=B0 (HXM.out.trans j5);clear ID j0 n9 Mi Bg j6 j5 hN;have s6:Hid (SlK w5 (.slice (some ⟨w2.heap.size,0,none⟩) N N) (qs.map encT)):=B0 (by have h1:=HG5.out;rw[HQ.out]at h1;exact(VG (B:=0) h1 (by rw[M0,Ri.out]) Kb.out (R0 _)).IW);go_wp2;go_ret2;rw[HF.out];exact⟨_,rfl,by rw[Uz.out];exact s6.out,p7.out⟩
def clsW(ws:List Bool):List Int:=ws.map λb=>if b then 3 else 1
def Zh6{fn:Func}{p:Tmp}{ty:TypeId}(h:fn.results= #[.cell p ty])(tmps:Array Value)(P:Program)(w:World):
 (results fn tmps).run P w=((asAddr (tmps.getD p undef)).run P w).andThen λa w₁=>(loadVar ty a).run P w₁:=by
 simp only[results,h];simp[UF,Result.andThen]
def ZgM{fn:Func}{p:Tmp}(h:fn.results= #[.cell p 126]){tmps:Array Value}{w:World}{g:Nat}{t:TypeId}{x y:Value}
 (hp:tmps.getD p undef=.pointer (some ⟨g,0,none⟩))(hg:w.heap[g]? =some (.cells #[x,y] t (0,0))):
 (results fn tmps).run prog w=.ok (.agg #[x,y]) w:=by
 rw[Zh6 h,hp];simp only[asAddr,UG,UH];rw[BY w g t _ #[x,y] (0,0) _ hg underlying126 rfl N0]
def SH{w:World}{b:Nat}{x y:Value}{t:TypeId}(h:w.heap[b]? =some (.cells #[x,y] t (0,0))):
 b<w.heap.size/\w.cell? ⟨b,0,none⟩=some x/\w.cell? ⟨b,1,none⟩=some y/\w.frozen? ⟨b,0,none⟩=false/\w.frozen? ⟨b,1,none⟩=false:=
 ⟨(V3.1 h).1,Zv h rfl,Zv h rfl,ZX h,ZX h⟩
def KO{l:List Int}{x:Int}{i n:Nat}(hn:l.length=n)(h:l[i]? =some x):(l.take i++List.replicate (n-i) (0:Int)).set i x=l.take (i+1)++List.replicate (n-(i+1)) 0:=bF hn h
def ZoI(l:List Int)(t:Int)(w:World)(e:Ending)(w':World):Prop:=∃a c,e=.returned (.agg #[.slice a l.length c,.int .i64 t])/\Own 3 w' w.heap.size (.slice a l.length c) (l.map encI)/\Ext w w'
def ZfN(v:Value)(bs:List Bool)(w:World)(hv:Sl w v (bs.map encT))(hl:bs.length<=400000):
 Calls prog 155 #[v] w (ZoI (clsW bs) (Rn.sum (clsW bs)) w):=by
 obtain⟨a,c,rfl⟩:=hv.form;rw[M0]at hv⊢;obtain⟨n,hn⟩:∃n,n=bs.length:=⟨_,rfl⟩;rw[<-hn]at hv hl⊢;have HN:=B0 hn;have HV:=B0 hv;obtain⟨L,hL⟩:∃L,L=clsW bs:=⟨_,rfl⟩;rw[<-hL];have Kz:L.length=n:=by rw[hL,clsW,M0,hn]
 have Ns:=B0 Kz;have HL:Hid (∀(j:Nat)(b:Bool),bs[j]? =some b->L[j]? =some (if b then(3:Int)else 1)):=B0 (λj b h=>by rw[hL,clsW,B3,h];rfl);clear hv hn hL Kz;obtain⟨w0,Gr⟩:∃w0,w0=w.alloc (.cells #[.slice none 0 0,.int .i64 0] 126):=⟨_,rfl⟩;have hX0:Ext w w0:=by rw[Gr];exact(Ext.refl w).alloc _
 have hR0:w0.heap[w.heap.size]? =some (.cells #[.slice none 0 0,.int .i64 0] 126 (0,0)):=by rw[Gr];exact PC
 have Yb:w0.heap.size=w.heap.size+1:=by rw[Gr];simp
 obtain⟨wm,IT,Ef,Bg⟩:=TO w0 n (w.heap.size+1) C0 C0;have De:w0.heap.size<wm.heap.size:=(R4 Ef _ rfl).2;have Ib:=B0 Ef;have Gw:=B0 (hX0.trans Bg);have HRm:=B0 (Zf hR0 Bg);rw[Yb]at IT Ib De;rw[Gr]at IT;have HGL:=B0 De;clear hX0 hR0 Yb Ef Bg De Gr;go_enter func155,ntmps155;go_wp2_with fail;go_loopw [12] (λt wr=>∃(j:Nat)(Jz:Int),j<=n/\t=.int .i64 (j:Int)/\0<=Jz/\Jz<=3*(j:Int)/\Hid (Jz=Rn.sum (L.take j))/\Hid (wr.heap[w.heap.size]? =some (.cells #[.slice none 0 0,.int .i64 0] 126 (0,0)))/\Hid (wr.heap[wm.heap.size]? =some (.cells #[.slice (some ⟨w.heap.size+1,0,none⟩) n n,.int .i64 Jz] 126 (0,0)))/\Hid (Own 3 wr (w.heap.size+1) (.slice (some ⟨w.heap.size+1,0,none⟩) n n) ((L.take j++List.replicate (n-j) (0:Int)).map encI))/\Hid (Ext w wr)) (λt _=>n-(intOf t).toNat)
 case atStart=>exact⟨0,0,R0 _,rfl,by decide,by decide,B0 rfl,B0 (Zf HRm.out ((Ext.refl _).alloc _)),B0 (X2 wm _),B0 (Ib.out.alloc _),B0 (Gw.out.alloc _)⟩
 case round=>
 clear Ib Gw HRm IT;obtain⟨j,Jz,hj,rfl,Ko,Je,HT,HR,HB,HO,HX⟩:=hrel;have De:=HGL.out;have Jv:=(V3.1 HB.out).1;have Vv:w.heap.size+1<wr.heap.size:=by omega
 by_cases hlt:j<n
 .obtain⟨b,Vq⟩:∃b,bs[j]? =some b:=⟨_,P0 X3⟩
  obtain⟨bb,o,ha,hb,hc⟩:=HV.out.Xn HX.out Vq
  subst ha
  have Bx:(j:Int)<(n:Int):=by omega
  have hLj:=HL.out j b Vq
  obtain⟨-,e0,e1,e2,e3⟩:=SH HB.out
  have hlen:(L.take j++List.replicate (n-j) (0:Int)).length=n:=by rw[S0,J1,M2,Ns.out];omega
  obtain⟨xo,co,fo⟩:=HO.out.aAA (i:=j) (by rw[hlen];exact hlt)
  have IU:wm.heap.size≠w.heap.size+1:=by omega
  have Av:w.heap.size+1≠wm.heap.size:=by omega
  have Wd:wm.heap.size≠w.heap.size:=by omega
  have Ha:w.heap.size+1≠w.heap.size:=by omega
  have Pf:bb≠w.heap.size+1:=by omega
  have aIN:bb≠wm.heap.size:=by omega
  have Fc:=B0 HX.out
  cases b with
  |true=>rw[G0 rfl]at hLj;have Fs:=((HO.out.Pv j 1).1.Pv j 3).1;rw[List.set_set,KO Ns.out hLj]at Fs;have hT9:Jz+3=Rn.sum (L.take (j+1)):=fK;have Ed:=B0 Fs;have HT9:=B0 hT9;clear Fs hT9 hLj Vq;go_wp2_with fail;go_region;go_wp2_with fail;go_roundw;(case rel=>exact⟨j+1,Jz+3,by omega,by go_num,by omega,by omega,HT9,B0 (Z6 Wd (Z6 Ha (Z6 Ha HR.out))),B0 (Zt (Z6 Av (Z6 Av HB.out))),B0 (Ed.out.set (Z6 Av (Z6 Av HB.out)) I0 _ _),B0 (((HX.out.setCell (p:=⟨w.heap.size+1,j,none⟩) (R3 _) _).setCell (p:=⟨w.heap.size+1,j,none⟩) (R3 _) _).setCell (p:=⟨wm.heap.size,1,none⟩) (by show w.heap.size<=wm.heap.size;omega) _).drew⟩);case measure=>exact Qr
  |false=>rw[D0 I0]at hLj;have Fs:=(HO.out.Pv j 1).1;rw[KO Ns.out hLj]at Fs;have hT9:Jz+1=Rn.sum (L.take (j+1)):=fK;have Ed:=B0 Fs;have HT9:=B0 hT9;clear Fs hT9 hLj Vq;go_wp2_with fail;go_region;go_wp2_with fail;go_roundw;(case rel=>exact⟨j+1,Jz+1,by omega,by go_num,by omega,by omega,HT9,B0 (Z6 Wd (Z6 Ha HR.out)),B0 (Zt (Z6 Av HB.out)),B0 (Ed.out.set (Z6 Av HB.out) I0 _ _),B0 ((HX.out.setCell (p:=⟨w.heap.size+1,j,none⟩) (R3 _) _).setCell (p:=⟨wm.heap.size,1,none⟩) (by show w.heap.size<=wm.heap.size;omega) _).drew⟩);case measure=>exact Qr
 .obtain rfl:n=j:=C0;have hO:=HO.out;rw[Y3,XH,A3,S1 (by rw[Ns.out];exact J0 _)]at hO;have hT:=HT.out;rw[S1 (by rw[Ns.out];exact J0 _)]at hT;have HK:=B0 hO;have HT9:=B0 hT;obtain⟨-,e0,e1,e2,e3⟩:=SH HB.out;obtain⟨-,d0,d1,d2,d3⟩:=SH HR.out;clear hO hT hlt hj;go_wp2_with fail;refine J2 (ZgM results155 rfl (Zt (Zt HR.out))) rfl ?_;rw[HT9.out];refine⟨_,n,by rw[Ns.out],?_,(HX.out.setCell (p:=⟨w.heap.size,0,none⟩) (J0 _) _).setCell (p:=⟨w.heap.size,1,none⟩) (J0 _) _⟩;rw[Ns.out];exact((HK.out.set HR.out I0 _ _).set (Zt HR.out) I0 _ _).mono (R3 _)
end
end Go.Proofs.Enc
