/-
  Laid.
-/
import Derived.Test.YtbngggoccndefaaGreatDoorRt31
import Derived.Test.YtbngggoccndefaaGreatDoorRt37
set_option maxHeartbeats 8000000
set_option maxRecDepth 100000
set_option linter.all false
namespace Go.Proofs.YtbngggoccndefaaGreatDoor
open Go.Proofs.Tryz
section
open Go.RowKit Go.Maps Go
namespace Cs
def stTo (T:Tab):Nat->Nat
 |0=>2
 |k+1=>if(T (0,k+3)).getD 0<(T (0,stTo T k)).getD 0 then k+3 else stTo T k
theorem stTo_two (T:Tab):stTo T 2=startOf T:=rfl
def pickTo (T:Tab) (fr:Nd) (l:List Mv) (j:Nat):Option Mv:=pick T fr (l.take j)
theorem pickTo_succ {T:Tab} {fr:Nd} {l:List Mv} {j:Nat} {m:Mv} (h:l[j]? =some m):pickTo T fr l (j+1)=if takes T fr (pickTo T fr l j) m then some m else pickTo T fr l j:=by unfold pickTo pick;rw[R5,h,V9];rfl
theorem pickTo_all {T:Tab} {fr:Nd} {l:List Mv} {j:Nat} (h:j=l.length):pickTo T fr l j=pick T fr l:=by unfold pickTo;rw[h,E5]
theorem takes_none {T:Tab} {fr:Nd} {b:Option Mv} {m:Mv} (h:T m.2=none):takes T fr b m=false:=by unfold takes;rw[h]
theorem takes_ne {T:Tab} {fr:Nd} {b:Option Mv} {m:Mv} {r k:Nat} (h:T m.2=some r) (hk:T fr=some k) (hr:r+1≠k):takes T fr b m=false:=by unfold takes;rw[h,hk];exact(R0 (·&&_) (D1 (show¬r+1=(some k).getD 0 from hr))).trans (WN _)
theorem takes_eq {T:Tab} {fr:Nd} {b:Option Mv} {m:Mv} {r k:Nat} (h:T m.2=some r) (hk:T fr=some k) (hr:r+1=k):takes T fr b m=(match b with
 |none=>true
 |some x=>decide (m.1<x.1)):=by
 unfold takes
 rw[h,hk]
 exact(R0 (·&&_) (F1 (show r+1=(some k).getD 0 from hr))).trans (OA _)
theorem end_zero {cs:List Int} {T:Tab} (F:Full cs T 0) {s k:Nat} (hs:s<=4) (h:T (cs.length,s)=some k):k=0:=by
 have h5:s=0∨s=1∨s=2∨s=3∨s=4:=by omega
 rcases h5 with rfl|rfl|rfl|rfl|rfl;·rw[F.end_.1]at h;cases h
 ·rw[F.end_.2]at h;cases h
 ·rw[F.set2 _ C0 C0,M6]at h;injection h with h;exact h.symm
 ·rw[F.set3 _ C0 C0,M6]at h;injection h with h;exact h.symm
 ·rw[F.set4 _ C0 C0,M6]at h;injection h with h;exact h.symm
theorem path_step {cs:List Int} (hc:∀c∈cs,okC c) (hl:cs.length<=4096) {i s k:Nat} (hi:i<cs.length) (hs:s<=4) (h:table cs (i,s)=some k):
 ∃m k',pick (table cs) (i,s) (moves cs i s)=some m∧m∈moves cs i s∧k=k'+1∧table cs m.2=some k'∧path cs (table cs) k (i,s)=m.1::path cs (table cs) k' m.2:=by
 have F:=full_table cs hc hl
 obtain⟨m0,hm0,r0,hr0,hr1⟩:=consistent F hc hl hi hs h
 obtain⟨m,hp,hm,r,hr,hr2⟩:=pick_is (T:=table cs) (fr:=(i,s)) ⟨m0,hm0,r0,hr0,by rw[h];exact hr1⟩
 rw[h]at hr2
 have hr2:r+1=k:=hr2
 subst hr2
 refine⟨m,r,hp,hm,rfl,hr,?_⟩
 show(if i<cs.length then match pick (table cs) (i,s) (moves cs i s)with
  |none=>[]
  |some m=>m.1::path cs (table cs) r m.2 else [])=_
 rw[G0 hi,hp]
end Cs
def JZ (ob:Option Cs.Mv):Array Value:=match ob with
 |none=> #[.int .i64 0,.int .i64 0,.int .i64 0]
 |some m=> #[.int .i64 m.1,.int .i64 (m.2.1:Int),.int .i64 (m.2.2:Int)]
theorem yO {w:World} {b:Nat} {x y:Value} {t:TypeId} (h:w.heap[b]? =some (.cells #[x,y] t (0,0))):
 b<w.heap.size∧w.cell? ⟨b,0,none⟩=some x∧w.cell? ⟨b,1,none⟩=some y∧w.frozen? ⟨b,0,none⟩=false∧w.frozen? ⟨b,1,none⟩=false:=
 ⟨(F3.1 h).1,Zk h rfl,Zk h rfl,ZL h,ZL h⟩
def ValS (wq wr:World) (cs:List Int) (v9:Value) (vs:List Int) (fb i s k:Nat):Prop:=
 Own 3 wr wq.heap.size v9 (vs.map encI)∧wr.heap[fb]? =some (.cells #[.int .i64 (i:Int),.int .i64 (s:Int)] 218 (0,0))∧wq.heap.size<=fb∧Ext wq wr∧Cs.table cs (i,s)=some k∧vs++Cs.path cs (Cs.table cs) k (i,s)=Cs.body cs
def yP:Value->Nat
 | .slice _ n _=>n
 |_=>0
theorem iH (v:Value) (cs:List Int) (w:World) (hv:Sl w v (cs.map encI)) (hl:cs.length<=4096) (hok:∀c∈cs,Cs.okC c):
 Calls prog 114 #[v] w (V4 (if cs=[]then([],5)else(Cs.values cs,0)) w):=by
 obtain⟨a,c,rfl⟩:=hv.form
 rw[N0]at hv⊢
 obtain⟨n,hn⟩:∃n,n=cs.length:=⟨_,rfl⟩
 rw[<-hn]at hv hl⊢
 have HN:=B0 hn
 have HV:=B0 hv
 have HOK:=B0 hok
 clear hv hok hn
 by_cases h0:n=0
 ·have hnil:cs=[]:=V2 (HN.out▸h0);rw[G0 hnil];subst h0;clear hnil;go_enter func114,ntmps114;go_wp2;go_ret2;exact V4.bad 5 w w (Ext.refl _)
 have hne:cs≠ []:=fun e=>h0 (by rw[HN.out,e];rfl)
 rw[D0 hne]
 have z0:((n:Int)==0)=false:=V0.2 C0
 have h4:¬(4096:Int)<(n:Int):=by omega
 have hn1:1<=n:=by omega
 obtain⟨res,hres⟩:∃res,res=Cs.values cs:=⟨_,rfl⟩
 have HRES:=B0 hres
 rw[<-hres]
 clear hres hne
 go_enter func114,ntmps114
 go_wp2_with fail
 go_loop [25] (fun t=>∃j:Nat,j<=n∧t=.int .i64 (j:Int)) (fun t=>n-(intOf t).toNat)
 case atStart=>exact⟨0,U0 _,rfl⟩
 case round=>
 obtain⟨j,hj,rfl⟩:=hrel
 by_cases hlt:j<n
 ·have hjI:(j:Int)<(n:Int):=C0;obtain⟨x,hxj⟩:∃x,cs[j]? =some x:=⟨_,P0 U3⟩;have hx:=HOK.out x (I1 hxj);obtain⟨b,o,ha,hb,hc⟩:=HV.out.int_at (Ext.refl _) hxj;subst ha;clear hxj;by_cases h7:x<=127;(·have g1:¬x<0:=UK;have g2:¬127<x:=C0;have g3:¬259<x:=C0;exact yQ);·have g1:¬x<0:=C0;have g2:127<x:=C0;have g4:¬x<256:=UK;have g3:¬259<x:=UK;exact yQ
 obtain rfl:n=j:=by omega
 clear hj hlt
 have HCO:=B0 (dB _ cs w HV.out OB HOK.out)
 go_wp2_with fail
 refine HCO.out.mono ?_
 rintro e wq ⟨rfl,hTM⟩
 obtain⟨T,hT⟩:∃T,T=Cs.table cs:=⟨_,rfl⟩
 have HT:=B0 hT
 rw[<-hT]at hTM
 have HTM:=B0 hTM
 have HXQ:Hid (Ext w wq):=B0 ((Ext.refl w).ofGrown hTM.2.2 (fun q hq=>by injection hq with hq;omega))
 clear hT hTM HCO
 obtain⟨mb,hmb⟩:∃mb,mb=w.heap.size:=⟨_,rfl⟩
 rw[<-hmb]at HTM⊢
 have HMB:=B0 hmb
 clear hmb
 go_wp2_with fail
 go_loopw [7,8] (fun s7 s8 wr=>∃k st:Nat,k<=2∧2<=st∧st<=4∧s7=.int .i64 ((st:Int)+101)∧s8=.int .i64 ((k:Int)+104)∧Hid (st=Cs.stTo T k)∧Hid (Ext wq wr)) (fun _ s8 _=>106-(intOf s8).toNat)
 case atStart=>exact⟨0,2,by omega,by omega,by omega,rfl,rfl,B0 rfl,B0 (Ext.refl _)⟩
 case round=>
 rename World=>wr
 obtain⟨k,st,hk,hst2,hst4,rfl,rfl,HST,HX⟩:=hrel
 by_cases hlt:k<2
 ·have hltI:(k:Int)+104<=105:=C0;have HS1:Hid (∀w',Calls prog 185 #[.int .i64 ((k:Int)+104)] w' fun e w''=>e=.returned (.int .i64 ((k+3:Nat):Int))∧w'=w''):=B0 (fun w'=>(RT _ w' C0).mono fun _ _ h=>⟨by rw[h.1];exact Z3 C0,h.2⟩);have HS2:Hid (∀w',Calls prog 185 #[.int .i64 ((st:Int)+101)] w' fun e w''=>e=.returned (.int .i64 (st:Int))∧w'=w''):=B0 (fun w'=>(RT _ w' C0).mono fun _ _ h=>⟨by rw[h.1];exact Z3 C0,h.2⟩);obtain⟨A,hA⟩:∃A,A=(T (0,k+3)).getD 0:=⟨_,rfl⟩;obtain⟨B,hB⟩:∃B,B=(T (0,st)).getD 0:=⟨_,rfl⟩;obtain⟨k3,hk3⟩:∃k3,k3=k+3:=⟨_,rfl⟩;rw[<-hk3]at HS1 hA;have HA:=B0 hA;have HB:=B0 hB;have HK3:=B0 hk3;have l1:(Instr.lookup 215 (.map (some mb)) (.agg #[.int .i64 0,.int .i64 (k3:Int)]) false).run prog wr.drew=.ok (.int .i64 (A:Int)) wr.drew:=(by have:=(TabM.ext HTM.out HX.out.drew).look1 (0,k3) H5 H5;rw[<-hA]at this;exact R2);have l2:(Instr.lookup 215 (.map (some mb)) (.agg #[.int .i64 0,.int .i64 (st:Int)]) false).run prog wr.drew=.ok (.int .i64 (B:Int)) wr.drew:=(by have:=(TabM.ext HTM.out HX.out.drew).look1 (0,st) H5 H5;rw[<-hB]at this;exact R2);clear hA hB hk3;go_upto_region 16 with fail;go_cut [60]from 46 to 61 (fun s60 wx=>s60=.bool (decide (A<B))∧wx=wr.drew);(case first=>go_region_with (go_at_call 185;first|(refine(HS1.out _).mono ?_;rintro e w5 ⟨rfl,rfl⟩)|(refine(HS2.out _).mono ?_;rintro e w5 ⟨rfl,rfl⟩));all_goals(go_wp2_with fail;go_meet;exact⟨rfl,rfl⟩))
  case rest=>
  obtain⟨rfl,rfl⟩:=hcut;have HX8:=B0 HX.out.drew;clear l1 l2 HS1 HS2;by_cases hab:A<B;(·have HS9:Hid (k3=Cs.stTo T (k+1)):=B0 (by rw[Cs.stTo,<-HST.out,<-HK3.out,<-HA.out,<-HB.out,G0 hab]);have hk4:(k:Int)+104=(k3:Int)+101:=(by have:=HK3.out;omega);have HK4:=B0 hk4;have hdec:decide (A<B)=true:=F1 hab;rw[hdec];clear hk4 hab hdec;go_wp2_with fail;go_roundw;(case rel=>exact⟨k+1,k3,by omega,by have:=HK3.out;omega,by have:=HK3.out;omega,by rw[HK4.out],by go_num,HS9,HX8⟩);case measure=>exact Qr);·have HS9:Hid (st=Cs.stTo T (k+1)):=B0 (by rw[Cs.stTo,<-HST.out,<-HK3.out,<-HA.out,<-HB.out,D0 hab]);have hdec:decide (A<B)=false:=D1 hab;rw[hdec];clear hab hdec;go_wp2_with fail;go_roundw;(case rel=>exact⟨k+1,st,by omega,by omega,by omega,rfl,by go_num,HS9,HX8⟩);case measure=>exact Qr
 obtain rfl:k=2:=by omega
 have HS9:Hid (st=Cs.startOf T):=B0 (by rw[HST.out,Cs.stTo_two])
 have HX9:=HX
 clear hk hlt HST HX
 have HS2:Hid (∀w',Calls prog 185 #[.int .i64 ((st:Int)+101)] w' fun e w''=>e=.returned (.int .i64 (st:Int))∧w'=w''):=B0 (fun w'=>(RT _ w' C0).mono fun _ _ h=>⟨by rw[h.1];exact Z3 C0,h.2⟩)
 have hlN:cs.length<=4096:=by rw[<-HN.out];exact hl
 have HFULL:=B0 (Cs.full_table cs HOK.out hlN)
 obtain⟨k0,hk0⟩:∃k0,Cs.table cs (0,st)=some k0:=by have F:=HFULL.out;have:st=2∨st=3∨st=4:=C0;rcases this with rfl|rfl|rfl;(·exact⟨_,F.set2 0 (I0 _) (U0 _)⟩);(·exact⟨_,F.set3 0 (I0 _) (U0 _)⟩);·exact⟨_,F.set4 0 (I0 _) (U0 _)⟩
 have HBD:Hid ([(st:Int)+101]++Cs.path cs (Cs.table cs) k0 (0,st)=Cs.body cs):=B0 (by have h1:=HS9.out;rw[HT.out]at h1;unfold Cs.body;rw[<-h1,hk0];rfl)
 have HPL:Hid (∀ {i s k:Nat},Cs.table cs (i,s)=some k->i<=cs.length->s<=4->(Cs.path cs (Cs.table cs) k (i,s)).length=k):=B0 (fun h hi hs=>(Cs.path_run HFULL.out HOK.out hlN _ _ _ h hi hs).2.1)
 obtain⟨L,hL⟩:∃L,L=(Cs.body cs).length:=⟨_,rfl⟩
 have HL:=B0 hL
 have hL1:L=k0+1:=by rw[hL,<-HBD.out,O0,HPL.out hk0 (U0 _) C0];show 1+k0=k0+1;omega
 have hLb:L<=20000:=by obtain⟨s',p',_,_,hb,_,hp',_⟩:=Cs.body_is HOK.out hlN;rw[hL,hb,S0];omega
 have HBR:Hid (∀x∈Cs.body cs,0<=x∧x<=106):=B0 (by obtain⟨s',p',h1,h2,hb,_,_,hp'⟩:=Cs.body_is HOK.out hlN;intro x hx;rw[hb]at hx;rcases U1.1 hx with rfl|hx;(·omega);·have:=hp' x hx;omega)
 have HVS0:Hid (ValS wq ((wr.alloc (.cells #[.int .i64 ((st:Int)+101)] 3)).alloc (.cells #[.int .i64 0,.int .i64 (st:Int)] 218)) cs (.slice (some ⟨wr.heap.size,0,none⟩) 1 1) [(st:Int)+101] (wr.heap.size+1) 0 st k0):=B0 (by have h1:=HX9.out.size;refine⟨(UX (N:=1) (xs:=[encI ((st:Int)+101)]) (E2 wr _) rfl J0 h1).alloc _,XZ _ _ _,by omega,(HX9.out.alloc _).alloc _,hk0,HBD.out⟩)
 clear hk0 hL hlN HBD
 go_wp2_with fail
 refine(HS2.out _).mono ?_
 rintro e w5 ⟨rfl,rfl⟩
 go_wp2_with fail
 go_loopw [9,10] (fun t9 t10 wr=>∃(i s k:Nat) (vs:List Int) (fb q:Nat) (a9:Option Addr) (c9:Nat),i<=n∧s<=4∧q+k=L∧t9=.slice a9 q c9∧t10=.pointer (some ⟨fb,0,none⟩)∧Hid (vs.length=q)∧Hid (ValS wq wr cs t9 vs fb i s k)) (fun t9 _ _=>L-yP t9)
 case atStart=>exact⟨0,st,k0,[(st:Int)+101],wr.heap.size+1,1,some ⟨wr.heap.size,0,none⟩,1,U0 _,by omega,by omega,rfl,rfl,B0 rfl,HVS0⟩
 case round=>
 clear HVS0 HS2 HS9 hL1
 rename World=>wd
 obtain⟨i,s,k,vs,fb,q,a9,c9,hi,hs,hqk,rfl,rfl,HQ,HVS⟩:=hrel
 obtain⟨hown,hfb,hfbl,hxd,hik,hpath⟩:=HVS.out
 obtain⟨f0,f1,f2,f3,f4⟩:=yO hfb
 have HQK:=B0 hqk
 clear hqk
 by_cases hlt:i<n
 ·have hltI:(i:Int)<(n:Int):=by omega
  obtain⟨m,k',hpk,hmm,hkk,hk',hst⟩:=Cs.path_step HOK.out OB U3 hs hik
  have HMO9:=B0 (Cs.move_ok HOK.out U3 hs hmm)
  obtain⟨ms,hms⟩:∃ms,ms=Cs.moves cs i s:=⟨_,rfl⟩
  have HMS:=B0 hms
  rw[<-hms]at hpk
  have HPK:=B0 hpk
  have HST:=B0 hst
  have HIK:=B0 hik
  have HK':=B0 hk'
  have HKK:=B0 hkk
  clear hkk
  have HXD:=B0 hxd
  have HOW:=B0 hown
  have HFB:=B0 hfb
  have hm4:=Cs.moves_len cs i s
  have hvlt:∀bk,(Value.slice a9 q c9).ownBlock=some bk->bk<wd.heap.size:=fun bk hbk=>(J4 hown bk hbk).2
  have HVL:=B0 hvlt
  have hcal:=AE (.slice a n c) cs i s (wd.alloc (.cells #[.int .i64 0,.int .i64 0,.int .i64 0] 220)) (HV.out.ext ((HXQ.out.trans hxd).alloc _)) OB HOK.out U3 hs
  rw[<-hms]at hm4 hcal
  have HCAL:=B0 hcal
  have HMO:Hid (∀m∈ms,m.2.1<=1000000∧m.2.2<=1000000):=B0 (fun m hm=>by have h:=Cs.move_ok HOK.out (show i<cs.length by rw[<-HN.out];exact hlt) hs (show m∈Cs.moves cs i s by rw[<-HMS.out];exact hm);have h1:=h.end_;have h2:=h.st;have:=HN.out;omega)
  have HKL:Hid (k<=200000):=B0 (by have:=HTM.out.2.1 (i,s) k (by rw[HT.out];exact HIK.out);exact this)
  have hkl:=HKL.out
  clear hms hcal hpk hmm hik hk' hst hxd hown hfb hpath hvlt
  go_wp2_with fail
  refine HCAL.out.mono ?_
  rintro e w2 ⟨v2,rfl,hown2,hx2⟩
  obtain⟨M,hM⟩:∃M,M=ms.length:=⟨_,rfl⟩
  have HML:=B0 hM
  obtain⟨a2,c2,hv2⟩:=(hown2.sl UJ).form
  rw[<-hM]at hv2 hm4
  subst hv2
  have hsz2:wd.heap.size+1<=w2.heap.size:=by have:=hx2.size;exact V6
  have HCL:Hid (∀(j:Nat) (m:Cs.Mv),ms[j]? =some m->∃b,a2=some ⟨b,0,none⟩∧wd.heap.size+1<=b∧b<w2.heap.size∧w2.cell? ⟨b,j*3,none⟩=some (.int .i64 m.1)∧w2.cell? ⟨b,j*3+1,none⟩=some (.int .i64 (m.2.1:Int))∧w2.cell? ⟨b,j*3+2,none⟩=some (.int .i64 (m.2.2:Int))):=B0 (fun j m hj=>by rcases hown2.form with⟨h0,_⟩|⟨g,cap,hv3,hBg,hg⟩;(·rw[h0]at hj;cases hj);·injection hv3 with h1 h2 h3;obtain⟨b,off,ha,hb,hc⟩:=(hown2.sl UJ).at_ hj;rw[h1]at ha;injection ha with ha;injection ha with ha1 ha2;subst ha1 ha2;have q0:=hc 0 C0;have q1:=hc 1 C0;have q2:=hc 2 C0;rw[P3]at q0 q1 q2;exact⟨g,h1,by simpa using hBg,hg,q0,q1,q2⟩)
  have HBB:Hid (w2.heap[wd.heap.size]? =some (.cells (JZ none) 220 (0,0))):=B0 (Ext.blk (E2 wd _) hx2)
  have HX2:Hid (Ext wd w2):=B0 (((Ext.refl wd).alloc _).trans hx2)
  have hfd:fb<wd.heap.size:=f0
  clear hown2 hx2 HCAL hM f0 f1 f2 f3 f4
  go_wp2_with fail
  go_loopw [12,76] (fun t12 t76 wr=>∃(j:Nat) (ob:Option Cs.Mv),j<=M∧t12=.bool ob.isSome∧t76=.int .i64 (j:Int)∧Hid (ob=Cs.pickTo (Cs.table cs) (i,s) ms j)∧Hid (wr.heap[wd.heap.size]? =some (.cells (JZ ob) 220 (0,0)))∧Hid (GB (some wd.heap.size) w2 wr)) (fun _ t _=>M-(intOf t).toNat)
  case atStart=>exact⟨0,none,U0 _,rfl,rfl,B0 rfl,HBB,B0 (GB.refl _)⟩
  case round=>
  clear HBB
  rename World=>we
  obtain⟨j,ob,hj,rfl,rfl,HOB,HBB,HG⟩:=hrel
  by_cases hlt4:j<M
  ·have hlt4I:(j:Int)<(M:Int):=by omega
   obtain⟨y,hmj⟩:∃y,ms[j]? =some y:=⟨_,P0 (by rw[<-HML.out];exact hlt4)⟩
   obtain⟨b,ha,hb1,hb2,d0,d1,d2⟩:=HCL.out j y hmj
   subst ha
   have hmo:=HMO.out y (I1 hmj)
   have HPS:Hid (Cs.pickTo (Cs.table cs) (i,s) ms (j+1)=if Cs.takes (Cs.table cs) (i,s) ob y then some y else ob):=B0 (by rw[Cs.pickTo_succ hmj,<-HOB.out])
   have hbn:(some wd.heap.size:Option Nat)≠some b:=fun e=>by injection e with e;omega
   have e0:=(HG.out.cell (p:=⟨b,j*3,none⟩) hb2 hbn).trans d0
   have e1:=(HG.out.cell (p:=⟨b,j*3+1,none⟩) hb2 hbn).trans d1
   have e2:=(HG.out.cell (p:=⟨b,j*3+2,none⟩) hb2 hbn).trans d2
   have hbd:b<we.heap.size:=M1 hb2 HG.out.size
   have HFD:=B0 (HG.out.heap (Ext.blk HFB.out HX2.out) (fun e=>by injection e with e;omega))
   obtain⟨f0,f1,f2⟩:=RK HFD.out
   obtain⟨yv,yi,yt⟩:=y
   dsimp only at e0 e1 e2 hmo
   have HXA:Hid (Ext wq (we.alloc (.cells #[.int .i64 yv,.int .i64 (yi:Int),.int .i64 (yt:Int)] 220))):=B0 (((HXD.out.trans HX2.out).ofGrown HG.out (fun z hz=>by injection hz with hz;have:=HXD.out.size;omega)).alloc _)
   have HGA:Hid (GB (some wd.heap.size) w2 (we.alloc (.cells #[.int .i64 yv,.int .i64 (yi:Int),.int .i64 (yt:Int)] 220))):=B0 (HG.out.alloc _)
   have HBA:Hid ((we.alloc (.cells #[.int .i64 yv,.int .i64 (yi:Int),.int .i64 (yt:Int)] 220)).heap[wd.heap.size]? =some (.cells (JZ ob) 220 (0,0))):=B0 (Ext.blk HBB.out ((Ext.refl we).alloc _))
   have l1:=(TabM.ext HTM.out HXA.out).look (yi,yt) hmo.1 hmo.2
   have l2:=(TabM.ext HTM.out HXA.out).look1 (i,s) H5 H5
   have hTk:T (i,s)=some k:=by rw[HT.out];exact HIK.out
   rw[hTk]at l2
   dsimp only[Option.getD_some]at l1 l2
   clear hmj d0 d1 d2 HG hmo HBB hTk
   cases hn1:T (yi,yt)with
   |none=>rw[hn1]at l1;dsimp only[Option.getD_none,Option.isSome_none]at l1;rw[Cs.takes_none GA,D0 Bool.noConfusion]at HPS;clear hn1;exact yR
   |some r=>
    have hr3:=HTM.out.2.1 _ _ hn1;rw[hn1]at l1;dsimp only[Option.getD_some,Option.isSome_some]at l1;by_cases hrk:r+1=k
    ·have zr:((r:Int)+1==(k:Int))=true:=C2.2 C0
     rw[Cs.takes_eq GA HIK.out hrk]at HPS
     clear hn1 hrk
     cases ob with
     |none=>rw[G0 rfl]at HPS;obtain⟨g0,g1,g2,g3,g4,g5,g6,g7⟩:=Zd HBA.out;exact yS
     |some z=>obtain⟨zv,zi,zt⟩:=z;dsimp only at HPS;obtain⟨g0,g1,g2,g3,g4,g5,g6,g7⟩:=Zd HBA.out;by_cases hyz:yv<zv;(·rw[G0 (F1 hyz)]at HPS;exact yS);·rw[D0 (by rw[D1 hyz];exact Bool.noConfusion)]at HPS;go_wp2_with fail;go_roundw;(case rel=>exact⟨j+1,some (zv,zi,zt),by omega,rfl,by go_num,B0 HPS.out.symm,B0 g7.out,HGA⟩);case measure=>exact Qr
    ·have zr:((r:Int)+1==(k:Int))=false:=V0.2 C0;rw[Cs.takes_ne GA HIK.out hrk,D0 Bool.noConfusion]at HPS;clear hn1 hrk;exact yR
  obtain rfl:M=j:=by omega
  have hob:=HOB.out
  rw[Cs.pickTo_all HML.out,HPK.out]at hob
  subst hob
  obtain⟨mv,mi,mt⟩:=m
  have HMI:Hid (mi<=n∧mt<=4):=B0 ⟨by rw[HN.out];exact HMO9.out.end_,HMO9.out.st⟩
  obtain⟨g0,g1,g2,g3,g4,g5,g6,g7⟩:=Zd HBB.out
  have hgw:w2.grownBy we (some wd.heap.size):=HG.out
  have hoff:(Value.slice a9 q c9).ownBlock≠some wd.heap.size:=fun e=>by have:=HVL.out _ e;omega
  have HO5:Hid (Own 3 we wq.heap.size (.slice a9 q c9) (vs.map encI)):=B0 ((HOW.out.ext HX2.out).kept hgw (.inr hoff))
  have HF5:Hid (we.heap[fb]? =some (.cells #[.int .i64 (i:Int),.int .i64 (s:Int)] 218 (0,0))):=B0 (HG.out.heap (Ext.blk HFB.out HX2.out) (fun e=>by injection e with e;omega))
  have HX5:Hid (Ext wq we):=B0 ((HXD.out.trans HX2.out).ofGrown HG.out (fun z hz=>by injection hz with hz;have:=HXD.out.size;omega))
  have hvsl:vs.length<=999999:=by have:=HQ.out;have:=HQK.out;omega
  have hqs:wq.heap.size<=we.heap.size:=HX5.out.size
  clear hj hlt4 hgw HG HOB HBB
  go_wp2_with (at_builtin;refine Z1 rfl _ _ rfl wq.heap.size _ vs rfl (HO5.out.alloc _) _ mv rfl ?c1 ?c2 ?c3 ?_)
  case c1=>exact V3
  case c2=>omega
  case c3=>exact W4
  intro v5 w5 hown5 hg5
  have hown5:Own 3 w5 wq.heap.size v5 ((vs++[mv]).map encI):=by first|exact hown5|(rw[B4];exact hown5)
  have hform:=hown5.slk.2
  rw[N0,O0,HQ.out]at hform
  obtain⟨a5,c5,rfl,-⟩:=hform
  obtain⟨q5,hq5⟩:∃q5,q5=q+([mv]:List Int).length:=⟨_,rfl⟩
  rw[<-hq5]at hown5⊢
  have HQ5:Hid (q5=q+1):=B0 hq5
  clear hq5
  have hg5:GB (Value.slice a9 q c9).ownBlock (we.alloc (.cells #[.int .i64 mv] 3)) w5:=hg5
  have HF6:=B0 (hg5.heap (Ext.blk HF5.out ((Ext.refl we).alloc _)) (HO5.out.off HF5.out J0))
  have HB6:Hid (w5.heap[wd.heap.size]? =some (.cells #[.int .i64 mv,.int .i64 (mi:Int),.int .i64 (mt:Int)] 220 (0,0))):=B0 (hg5.heap (Ext.blk g7.out ((Ext.refl we).alloc _)) (HO5.out.off g7.out J0))
  have HX6:Hid (Ext wq w5):=B0 ((HX5.out.alloc (.cells #[.int .i64 mv] 3)).ofGrown hg5 (fun z hz=>HO5.out.low z hz))
  have HO6:=B0 hown5
  obtain⟨r0,r1,r2,r3,r4,r5,r6,r7⟩:=Zd HB6.out
  obtain⟨f0,f1,f2,f3,f4⟩:=yO HF6.out
  clear hown5 hg5 g0 g1 g2 g3 g4 g5 g6 g7
  go_wp2_with fail
  go_roundw
  case rel=>refine⟨mi,mt,k',vs++[mv],w5.heap.size,q5,a5,c5,HMI.out.1,HMI.out.2,?_,rfl,rfl,B0 ?_,B0 ⟨?_,?_,HX6.out.size,?_,HK'.out,?_⟩⟩;(·have:=HQ5.out;have:=HQK.out;have:=HKK.out;omega);(·rw[O0,HQ.out,HQ5.out];rfl);(·exact((HO6.out.set HF6.out J0 0 _).set (Zi HF6.out) J0 1 _).alloc _);(·have:=E2 ((w5.setCell ⟨fb,0,none⟩ (.int .i64 (mi:Int))).setCell ⟨fb,1,none⟩ (.int .i64 (mt:Int))) (.cells #[.int .i64 (mi:Int),.int .i64 (mt:Int)] 218);exact V6);(·exact((HX6.out.setCell (p:=⟨fb,0,none⟩) hfbl _).setCell (p:=⟨fb,1,none⟩) hfbl _).alloc _);·have h1:=HVS.out.2.2.2.2.2;rw[HST.out]at h1;rw[G1];exact h1
  case measure=>have h1:=HQ5.out;have h2:=HQK.out;have h3:=HKK.out;simp[yP];omega
 ·obtain rfl:i=n:=C0;have hcsl:cs.length<=4096:=OB;obtain rfl:k=0:=Cs.end_zero HFULL.out hs (by rw[<-HN.out];exact hik);have hvb:vs=Cs.body cs:=(by rw[<-hpath];exact(B3 _).symm);have HVB:=B0 hvb;have HOW:=B0 hown;have HXD:=B0 hxd;have hvsl:vs.length=q:=HQ.out;have hqL:q=L:=(by have:=HQK.out;omega);have hq1:1<=q:=(by obtain⟨s',p',_,_,hb,_⟩:=Cs.body_is HOK.out hcsl;rw[<-hvsl,hvb,hb,S0];omega);have HCK:=B0 (AU _ vs wd hown.sl C0 C0 (by rw[hvb];exact HBR.out));have HVL:Hid (vs.length<=999990):=B0 C0;have hqs:=hxd.size;clear hik hpath hvb hown hxd hvsl hqL hcsl f0 f1 f2 f3 f4 hi;obtain⟨f0,f1,f2⟩:=RK HVS.out.2.1;generalize hck:Cc.chk vs=ck at*;have HCKV:=B0 hck;clear hck;go_wp2_with fail;refine HCK.out.mono ?_;rintro e w5 ⟨rfl,rfl⟩;go_wp2_with (at_builtin;refine AV rfl _ _ rfl wq.heap.size _ vs rfl (HOW.out.alloc _) _ ck 106 rfl ?c1 ?c2 ?c3 ?c4 ?_);(case c1=>exact V3);(case c2=>exact V3);(case c3=>have:=HVL.out;omega);(case c4=>exact W4);intro v5 w5 hown5 hg5;have HO5:=B0 hown5;have HX5:Hid (Ext wq w5):=B0 ((HXD.out.alloc (.cells #[.int .i64 ck,.int .i64 106] 3)).ofGrown hg5 (fun z hz=>HOW.out.low z hz));clear hown5 hg5;go_wp2;go_ret2;refine⟨_,rfl,?_,HXQ.out.trans HX5.out⟩;have e:res=vs++[ck,106]:=(by rw[HRES.out];unfold Cs.values;rw[<-HVB.out,HCKV.out]);dsimp only;rw[e,B4];exact HO5.out.slk
end
end Go.Proofs.YtbngggoccndefaaGreatDoor
