/-
  Laid.
-/
import Derived.Test.YtbngggoccndefaaGreatDoorUn23
set_option maxHeartbeats 16000000
set_option maxRecDepth 100000
set_option linter.all false
namespace Go.Proofs.YtbngggoccndefaaGreatDoor
open Go.Proofs.Tryz
section
open Go.RowKit
theorem ZiA (s t:Int) {ms ws:List Int} {i b:Nat} {v m x:Int} (hm:ms[i]? =some m) (hw:ws[i]? =some x):
 Rn.leastGo s t i b v (ms.drop i) (ws.drop i)=if Rn.need s t m x<v then Rn.leastGo s t (i+1) i (Rn.need s t m x) (ms.drop (i+1)) (ws.drop (i+1))else Rn.leastGo s t (i+1) b v (ms.drop (i+1)) (ws.drop (i+1)):=by
 obtain⟨h1,h2⟩:=I1.1 hm
 obtain⟨k1,k2⟩:=I1.1 hw
 rw[C5 h1,C5 k1,h2,k2,Rn.leastGo]
theorem pZ (s t:Int) (ws:List Int) (n:Nat) (hn:0<n):∀k:Nat,(Rn.give s t ws k (List.replicate n 1)).length=n∧Hp.Few k (Rn.give s t ws k (List.replicate n 1))
 |0=>⟨by rw[Rn.give,D3],Hp.Few.ones n⟩
 |k+1=>by obtain⟨h1,h2⟩:=pZ s t ws n hn k;rw[Hp.give_last];generalize Rn.give s t ws k (List.replicate n 1)=ms at*;have hlt:=Rn.least_lt s t ms ws (by intro e;rw[e]at h1;simp at h1;omega);obtain⟨m,hm⟩:∃m,ms[Rn.least s t ms ws]? =some m:=⟨_,M0 hlt⟩;refine⟨by dsimp only;rw[U6,h1],?_⟩;dsimp only;rw[U0,hm];exact h2.give hm
theorem JR {a b A B:Int} (h0:0<=a) (h1:a<=A) (k0:0<=b) (k1:b<=B):0<=a*b∧a*b<=A*B:=⟨T7 h0 k0,S8 h1 k1 k0 B0⟩
theorem Own.opens {t:TypeId} {w:World} {B:Nat} {v:Value} {xs:List Value} (h:Own t w B v xs) (hpos:0<xs.length):
 ∃g cap,v=.slice (some ⟨g,0,none⟩) xs.length cap∧∀i,i<xs.length->w.cell? ⟨g,i,none⟩=xs[i]? :=by
 have hh:=h
 rcases h.2 with⟨_,h0⟩|⟨g,cap,cur,hv,hbase,hb,h1,h2,h3,h4⟩
 ·omega
 ·refine⟨g,cap,hv,fun i hi=> ?_⟩;exact qW
theorem Own.intIs {w:World} {B g n c:Nat} {xs:List Int} (h:Own 3 w B (.slice (some ⟨g,0,none⟩) n c) (xs.map encI)) {i:Nat} {x:Int} (hi:xs[i]? =some x):w.cell? ⟨g,i,none⟩=some (.int .i64 x)∧w.frozen? ⟨g,i,none⟩=false:=by obtain⟨hlt,e⟩:=I1.1 hi;obtain⟨_,_,hf⟩:=h.intAt hlt;refine⟨?_,hf⟩;obtain⟨g',cap,e1,hc⟩:=h.opens A3;injection e1 with e1;injection e1 with e1;injection e1 with e1;subst e1;rw[hc i XY,J2,hi];rfl
theorem ZjU (v:Value) (ws:List Int) (t:Nat) (w:World) (hv:Sl w v (ws.map encI)) (hl:ws.length<=1000000) (ht:t<=1000000000):
 Calls prog 156 #[v,.int .i64 (t:Int)] w (RW (Rn.quant ws (t:Int)) w):=by
 have HTOT:=A0 (uL v ws w hv hl)
 obtain⟨a,c,rfl⟩:=hv.form
 rw[J0]at hv HTOT⊢
 have HQA:=A0 (@rA ws t)
 obtain⟨n,hn⟩:∃n,n=ws.length:=⟨_,rfl⟩
 rw[<-hn]at hv hl HTOT HQA⊢
 have HN:=A0 hn
 have HV:=A0 hv
 have HR:=A0 (Rn.quant.eq_1 ws t)
 rw[<-hn]at HR
 generalize Rn.quant ws t=res at*
 clear hv hn
 by_cases h0:n=0
 ·have z0:((n:Int)==0)=true:=Y0.2 B0;rw[D0 h0]at HR;clear h0 HTOT HQA;go_enter func156,ntmps156;exact US
 have z0:((n:Int)==0)=false:=N0.2 B0
 rw[C0 h0]at HR
 have hpos:0<n:=by omega
 by_cases h1:65536<n
 ·have h1I:65536<(n:Int):=B0;rw[D0 h1]at HR;clear h0 h1 HTOT HQA;go_enter func156,ntmps156;exact US
 rw[C0 h1]at HR
 have h1I:¬65536<(n:Int):=by omega
 cases hrg:Tw.inRng ws with
 |false=>rw[hrg,D0 (.inl rfl)]at HR;rw[hrg,C0 I0]at HTOT;clear hrg h0 h1 HQA;exact xU
 |true=>
 rw[hrg,D0 rfl]at HTOT
 have HIN:=A0 (fun x hx=>YO hrg (x:=x) hx)
 have hsb:=Rn.sum_in HIN.out
 obtain⟨S,hS⟩:∃S,S=Rn.sum ws:=⟨_,rfl⟩
 have HSS:=A0 hS
 rw[<-hS]at HTOT hsb
 have hS0:=hsb.1
 have hS1:S<=4294967296:=by have:=hsb.2;exact I8
 have hSn:¬S<0:=by omega
 by_cases ht1:t<n
 ·rw[D0 (.inr (.inl B0))]at HR;have ht1I:(t:Int)<(n:Int):=B0;clear hrg h0 h1 HQA ht1 hsb hS;exact xU
 have ht1I:¬(t:Int)<(n:Int):=by omega
 by_cases ht2:65536<t
 ·rw[D0 (.inr (.inr B0))]at HR;have ht2I:65536<(t:Int):=B0;clear hrg h0 h1 HQA ht1 ht2 hsb hS;exact xU
 have ht2I:¬65536<(t:Int):=by omega
 have HRES:=A0 (HQA.out h0 h1 hrg B0 B0)
 rw[<-hS]at HRES
 have hn1:n<=65536:=by omega
 have ht3:t<=65536:=by omega
 obtain⟨K,hK⟩:∃K,t=n+K:=⟨t-n,by omega⟩
 subst hK
 rw[show n+K-n=K by omega]at HRES
 have hK1:K<=65536:=by omega
 have HGF:=A0 (pZ S ((n+K:Nat):Int) ws n hpos)
 have HGL:=A0 (Hp.give_last S ((n+K:Nat):Int) ws)
 have HT0:(0:Int)<=((n+K:Nat):Int)∧((n+K:Nat):Int)<=65536:=by omega
 obtain⟨T,hT⟩:∃T,T=((n+K:Nat):Int):=⟨_,rfl⟩
 rw[<-hT]at HRES HGF HGL HT0 ht1I ht2I⊢
 have HTT:=A0 hT
 have hSb:decide (S<0)=false:=X0 hSn
 have hb1:decide (T<(n:Int))=false:=X0 ht1I
 have hb2:decide (65536<T)=false:=X0 ht2I
 clear hrg hsb hS HQA HR h0 h1 ht1 ht2 hT ht ht3
 go_enter func156,ntmps156
 go_wp2_with fail
 refine HTOT.out.mono ?_
 rintro e w1 ⟨rfl,rfl⟩
 clear HTOT
 go_wp2_with fail
 go_loopw [7,8] (fun u i wr=>∃j:Nat,j<=n∧i=.int .i64 (j:Int)∧Hid (Own 3 wr w.heap.size u ((List.replicate j (1:Int)).map encI))∧Hid (Ext w wr)) (fun _ i _=>n-(intOf i).toNat)
 case atStart=>exact UM
 case round=>obtain⟨j,hj,rfl,HO,HX⟩:=hrel;by_cases hlt:j<n;(·have hjI:(j:Int)<(n:Int):=B0;have hown:=HO.out;have hsz:=HX.out.size;go_wp2_with (at_builtin;refine Zq rfl _ _ rfl w.heap.size _ (List.replicate j (1:Int)) rfl (hown.alloc _) _ 1 rfl ?c1 ?c2 ?c3 ?_);(case c1=>exact L3);(case c2=>rw[D3];omega);(case c3=>exact Y2);intro v' w5 hown5 hg5;have HX5:=A0 ((HX.out.alloc _).ofGrown hg5 hown.low);have HO5:Hid (Own 3 w5 w.heap.size v' ((List.replicate (j+1) (1:Int)).map encI)):=A0 sB;clear hown hown5 hg5 hsz HO HX;exact xV);·obtain rfl:j=n:=B0;obtain⟨g,cap,hvf,-⟩:=HO.out.opens (by rw[J0,D3];omega);subst hvf;rw[J0,D3]at HO;have HX0:=A0 HX.out;have HO0:Hid (Own 3 wr w.heap.size (.slice (some ⟨g,0,none⟩) j cap) ((Rn.give S T ws 0 (List.replicate j 1)).map encI)):=HO;have hgw:w.heap.size<=g:=HO.out.low g rfl;have HGW:=A0 hgw;rw[J0,D3];clear HO HX hlt hj hgw;go_wp2_with fail;go_loopw [9] (fun i wq=>∃k uu:Nat,k<=K∧i=.int .i64 (uu:Int)∧uu<=131072∧Hid (uu=j+k)∧Hid (Own 3 wq w.heap.size (.slice (some ⟨g,0,none⟩) j cap) ((Rn.give S T ws k (List.replicate j 1)).map encI))∧Hid (Ext w wq)) (fun i _=>200000-(intOf i).toNat);(case atStart=>exact⟨0,j,O0 _,rfl,by omega,A0 rfl,HO0,HX0⟩);case round=>clear HO0 HX0;obtain⟨k,uu,hk,rfl,huu,HUU,HO,HX⟩:=hrel;by_cases hlt:k<K;(·have hkI:(uu:Int)<T:=(by have:=HUU.out;rw[HTT.out];omega);have hkB:decide ((uu:Int)<T)=true:=V0 hkI;obtain⟨q1,q2⟩:=HGF.out k;have q3:=HGL.out k (List.replicate j 1);(try dsimp only at q3);generalize Rn.give S T ws k (List.replicate j 1)=ms at*;have HLM:=A0 q1;have HFW:=A0 q2;have HMS:=A0 q3;have HLE:Hid (Rn.least S T ms ws=Rn.leastGo S T 1 0 (Rn.need S T (ms.getD 0 0) (ws.getD 0 0)) (ms.drop 1) (ws.drop 1)):=A0 rfl;generalize Rn.least S T ms ws=L at*;clear q1 q2 q3;go_wp2_with fail;go_loopw [10,11] (fun b i wp=>∃p q:Nat,1<=q∧q<=j∧p<j∧b=.int .i64 (p:Int)∧i=.int .i64 (q:Int)∧Hid (L=Rn.leastGo S T q p (Rn.need S T (ms.getD p 0) (ws.getD p 0)) (ms.drop q) (ws.drop q))∧Hid (Own 3 wp w.heap.size (.slice (some ⟨g,0,none⟩) j cap) (ms.map encI))∧Hid (Ext w wp)) (fun _ i _=>j-(intOf i).toNat);(case atStart=>exact⟨0,1,K0 _,hpos,hpos,rfl,rfl,HLE,HO,HX⟩);case round=>clear HO HX HLE;obtain⟨p,q,hq1,hqj,hpj,rfl,rfl,HL,HO,HX⟩:=hrel;obtain⟨mp,hmp⟩:∃m,ms[p]? =some m:=⟨_,M0 (by rw[HLM.out];exact hpj)⟩;obtain⟨xp,hxp⟩:∃m,ws[p]? =some m:=⟨_,M0 (by rw[<-HN.out];exact hpj)⟩;have hmpB:=HFW.out mp (J1 hmp);have hxpB:=HIN.out xp (J1 hxp);obtain⟨hcp,hfp⟩:=HO.out.intIs hmp;by_cases hlq:q<j;(·have hqI:(q:Int)<(j:Int):=B0;obtain⟨mq,hmq⟩:∃m,ms[q]? =some m:=⟨_,M0 (by rw[HLM.out];exact hlq)⟩;obtain⟨xq,hxq⟩:∃m,ws[q]? =some m:=⟨_,M0 (by rw[<-HN.out];exact hlq)⟩;have hmqB:=HFW.out mq (J1 hmq);have hxqB:=HIN.out xq (J1 hxq);obtain⟨hcq,-⟩:=HO.out.intIs hmq;obtain⟨b,o,ha,hb,hdp⟩:=HV.out.int_at HX.out hxp;subst ha;obtain⟨b2,o2,ha,hb2,hdq⟩:=HV.out.int_at HX.out hxq;injection ha with ha;injection ha with ha1 ha2;subst ha1 ha2;have k1:=JR hS0 hS1 (b:=mp) (B:=70000) B0 B0;have k2:=JR hS0 hS1 (b:=mq) (B:=70000) B0 B0;have k3:=JR HT0.1 HT0.2 (b:=xp) (B:=65536) B0 B0;have k4:=JR HT0.1 HT0.2 (b:=xq) (B:=65536) B0 B0;have HST:=A0 (HL.out.trans (ZiA S T hmq hxq));have hgp:ms.getD p 0=mp:=(by rw[U0,hmp];rfl);have hwp:ws.getD p 0=xp:=(by rw[U0,hxp];rfl);have hgq:ms.getD q 0=mq:=(by rw[U0,hmq];rfl);have hwq:ws.getD q 0=xq:=(by rw[U0,hxq];rfl);by_cases hc:S*mq-T*xq<S*mp-T*xp;(·have HL2:Hid (L=Rn.leastGo S T (q+1) q (Rn.need S T (ms.getD q 0) (ws.getD q 0)) (ms.drop (q+1)) (ws.drop (q+1))):=A0 (by have h:=HST.out;rw[hgp,hwp,D0 (show Rn.need S T mq xq<Rn.need S T mp xp from hc)]at h;rw[hgq,hwq];exact h);clear HL HST hgp hwp hgq hwq hmp hxp hmq hxq;go_wp2_with fail;go_region;go_wp2_with fail;go_roundw;(case rel=>exact⟨q,q+1,by omega,by omega,hlq,rfl,by go_num,HL2,A0 HO.out.drew,A0 HX.out.drew⟩);case measure=>exact C1);·have HL2:Hid (L=Rn.leastGo S T (q+1) p (Rn.need S T (ms.getD p 0) (ws.getD p 0)) (ms.drop (q+1)) (ws.drop (q+1))):=A0 (by have h:=HST.out;rw[hgp,hwp,C0 (show¬Rn.need S T mq xq<Rn.need S T mp xp from hc)]at h;rw[hgp,hwp];exact h);clear HL HST hgp hwp hgq hwq hmp hxp hmq hxq;go_wp2_with fail;go_region;go_wp2_with fail;go_roundw;(case rel=>exact⟨p,q+1,by omega,by omega,hpj,rfl,by go_num,HL2,A0 HO.out.drew,A0 HX.out.drew⟩);case measure=>exact C1);·obtain rfl:q=j:=B0;have HLP:Hid (Rn.give S T ws (k+1) (List.replicate q 1)=ms.set p (mp+1)):=A0 (by have h:=HL.out;rw[O5 (by rw[HLM.out];exact K0 _)]at h;have h:L=p:=(by rw[h];cases(ws.drop q)<;>rfl);rw[HMS.out,h,U0,hmp];rfl);have HO9:Hid (Own 3 (wr.setCell ⟨g,p,none⟩ (.int .i64 (mp+1))) w.heap.size (.slice (some ⟨g,0,none⟩) q cap) ((Rn.give S T ws (k+1) (List.replicate q 1)).map encI)):=A0 (by rw[HLP.out];exact(HO.out.putI p (mp+1)).1);have HX9:=A0 (HX.out.setCell (p:=⟨g,p,none⟩) HGW.out (.int .i64 (mp+1)));clear HL HO HX hlq hmp hxp HLM HFW HMS HLP;go_wp2_with fail;go_roundw;(case rel=>exact⟨k+1,uu+1,by omega,by go_num,by have:=HUU.out;omega,A0 (by rw[HUU.out];omega),HO9,HX9⟩);case measure=>exact C1);·obtain rfl:k=K:=B0;have hkI:¬(uu:Int)<T:=(by have:=HUU.out;rw[HTT.out];omega);clear hlt hk;go_wp2_with fail;go_ret2;rw[HRES.out];exact⟨_,rfl,HO.out,HX.out⟩
theorem sC (v:Value) (ws:List Int) (w:World) (hv:Sl w v (ws.map encI)) (hl:ws.length<=1000000) (hw:∀x∈ws,1<=x∧x<=65536):
 Calls prog 88 #[v] w fun e w'=>e=.returned (.int .i64 (Rn.sum ws))∧w=w':=by
 obtain⟨a,c,rfl⟩:=hv.form
 rw[J0]at hv⊢
 obtain⟨n,hn⟩:∃n,n=ws.length:=⟨_,rfl⟩
 rw[<-hn]at hv hl⊢
 have HN:=A0 hn
 have HV:=A0 hv
 have HW:=A0 hw
 obtain⟨res,hres⟩:∃res,res=Rn.sum ws:=⟨_,rfl⟩
 rw[<-hres]
 have HR:=A0 hres
 clear hv hn hres hw
 go_enter func88,ntmps88
 go_wp2
 go_loop [3,4] (fun s i=>∃(j:Nat) (t:Int),j<=n∧i=.int .i64 (j:Int)∧s=.int .i64 t∧0<=t∧t<=65536*(j:Int)∧Hid (t=Rn.sum (ws.take j))) (fun _ i=>n-(intOf i).toNat)
 case atStart=>exact UQ
 case round=>obtain⟨j,t,hj,rfl,rfl,ht0,ht1,HT⟩:=hrel;by_cases hlt:j<n;(·obtain⟨x,hxj⟩:∃x,ws[j]? =some x:=⟨_,M0 J4⟩;obtain⟨b,o,ha,hb,hc⟩:=HV.out.int_at (Ext.refl w) hxj;subst ha;have hjI:(j:Int)<(n:Int):=B0;obtain⟨hx1,hx2⟩:=HW.out x (J1 hxj);have HT2:Hid (t+x=Rn.sum (ws.take (j+1))):=A0 MF;exact iK);·obtain rfl:j=n:=B0;have HF:Hid (res=t):=A0 (by have h2:=HT.out;rw[X1 A6]at h2;rw[HR.out,h2]);clear hj hlt;exact MG
theorem ZjX (v:Value) (m:List Bool) (A B:Nat) (w:World) (hv:Sl w v (m.map encT)) (hm1:1<=m.length) (hm:m.length<=1000000) (hA:A<=1000) (hB:B<=1000):
 Calls prog 73 #[v,.int .i64 (A:Int),.int .i64 (B:Int)] w fun e w'=>∃u,e=.returned u∧Own 4 w' w.heap.size u ((Ln.quiet m A B).map encT)∧Ext w w':=by
 have HV:=A0 hv
 obtain⟨q,hq⟩:∃q,q=Ln.quiet m A B:=⟨_,rfl⟩
 rw[<-hq]
 have HQ:=A0 hq
 clear hv hq
 go_enter func73,ntmps73
 go_wp2_with fail
 go_loopw [7,8] (fun u i wr=>∃j:Nat,j<=A∧i=.int .i64 (j:Int)∧Hid (Own 4 wr w.heap.size u ((List.replicate j false).map encT))∧Hid (Ext w wr)) (fun _ i _=>A-(intOf i).toNat)
 case atStart=>exact UM
 case round=>obtain⟨j,hj,rfl,HO,HX⟩:=hrel;by_cases hlt:j<A;(·have hjI:(j:Int)<(A:Int):=B0;have hown:=HO.out;have hsz:=HX.out.size;go_wp2_with (at_builtin;refine ZU rfl _ _ rfl w.heap.size _ (List.replicate j false) rfl (hown.alloc _) _ false rfl ?c1 ?c2 ?c3 ?_);(case c1=>exact K7);(case c2=>rw[D3];omega);(case c3=>exact Y2);intro v' w5 hown5 hg5;have HX5:=A0 ((HX.out.alloc _).ofGrown hg5 hown.low);have HO5:Hid (Own 4 w5 w.heap.size v' ((List.replicate (j+1) false).map encT)):=A0 sB;clear hown hown5 hg5 hsz HO HX;exact xV);·obtain rfl:j=A:=B0;have hjI:¬(j:Int)<(j:Int):=B0;have hown:=HO.out;have hsz:=HX.out.size;obtain⟨ys,hys⟩:∃ys,ys=m.map encT:=⟨_,rfl⟩;have hsl:=HV.out.ext HX.out;rw[<-hys]at hsl;have hyl:ys.length=m.length:=(by rw[hys,J0]);rcases hsl with⟨h0,_⟩|⟨b,off,cap,hvf,hb,hc⟩;(·rw[h0]at hyl;simp at hyl;omega);have HY1:Hid (∀u∈ys,u.oneCell'=true):=A0 (fun u hu=>by rw[hys]at hu;obtain⟨x,_,rfl⟩:=E7.1 hu;rfl);subst hvf;have HYS:=A0 hys;have HC:Hid (∀(i:Nat) (u:Value),ys[i]? =some u->wr.cell? ⟨b,off+i,none⟩=some u):=A0 (fun i u hi=>by rw[hc i (I1.1 hi).1];exact hi);clear hc hys;go_wp2_with (at_builtin;refine OG rfl _ _ 26 4 (.bool false) 1 rfl underlying26 VJ rfl I0 w.heap.size _ ((List.replicate j false).map encT) rfl hown b off _ cap ys rfl rfl HC.out HY1.out ?c3 hsz ?_);(case c3=>first|omega|(rw[J0,D3];omega));intro v' w5 hown5 hg5;have HX5:=A0 (HX.out.ofGrown hg5 hown.low);have HO5:Hid (Own 4 w5 w.heap.size v' ((List.replicate j false++m++List.replicate 0 false).map encT)):=A0 (by rw[UR,P3,E3,<-HYS.out];first|exact hown5|(rw[RX];exact hown5));clear hown hown5 hg5 hsz HO HX HC HY1 HYS;go_wp2_with fail;go_loopw [7,9] (fun u i wr=>∃p:Nat,p<=B∧i=.int .i64 (p:Int)∧Hid (Own 4 wr w.heap.size u ((List.replicate j false++m++List.replicate p false).map encT))∧Hid (Ext w wr)) (fun _ i _=>B-(intOf i).toNat);(case atStart=>exact⟨0,O0 _,rfl,HO5,HX5⟩);case round=>clear HO5 HX5;obtain⟨p,hp,rfl,HO,HX⟩:=hrel;by_cases hlt2:p<B;(·have hpI:(p:Int)<(B:Int):=B0;have hown:=HO.out;have hsz:=HX.out.size;go_wp2_with (at_builtin;refine ZU rfl _ _ rfl w.heap.size _ (List.replicate j false++m++List.replicate p false) rfl (hown.alloc _) _ false rfl ?c1 ?c2 ?c3 ?_);(case c1=>exact K7);(case c2=>simp only[T0,D3];omega);(case c3=>exact Y2);intro v' w5 hown5 hg5;have HX5:=A0 ((HX.out.alloc _).ofGrown hg5 hown.low);have HO5:Hid (Own 4 w5 w.heap.size v' ((List.replicate j false++m++List.replicate (p+1) false).map encT)):=A0 (by have e:(List.replicate j false++m++List.replicate (p+1) false).map encT=List.replicate j (encT false)++(m.map encT++(List.replicate p (encT false)++[encT false])):=(by rw[VT];simp);rw[e];exact hown5);clear hown hown5 hg5 hsz HO HX;exact xW);·obtain rfl:p=B:=B0;have HO9:Hid (Own 4 wr w.heap.size _ (q.map encT)):=A0 (by rw[HQ.out];exact HO.out);have hx9:=HX.out;clear HO HX hlt2 hp;go_wp2_with fail;go_ret;exact⟨_,rfl,HO9.out,hx9⟩
theorem ZjC:(prog.info? 43).map (fun i=>(i.zero,i.size,i.bytes))=some (some (.slice none 0 0),1,24):=B1
theorem xX {w:World} {ops:Array Oper} {rest:List Oper} {o:Oper} {a:Act} {Q:Exit->Act->World->Prop} (hgd:o.guard=none) (s x:Operand)
 (ho:o.op=.call {callee:=.builtin .append,args:= #[s,x],argTypes:= #[127,127]})
 (B:Nat) (v:Value) (xs:List Value) (hs:a.eval s=v) (hown:Own 43 w B v xs) (b:Nat) (u:Value) (hx:a.eval x=.slice (some ⟨b,0,none⟩) 1 1)
 (hc:w.cell? ⟨b,0,none⟩=some u) (h1:u.oneCell'=true) (hn:xs.length<=999999999) (hB:B<=w.heap.size)
 (h:∀v' w',Own 43 w' B v' (xs++[u])->w.grownBy w' v.ownBlock->wpList prog ops Q rest (a.put o.dst v') w'):wpList prog ops Q (o::rest) a w:=by
 obtain⟨i0,hi,hz0,hz1,hz2⟩:=V5 ZjC
 refine VG _ hgd s x 127 ho B 43 i0 _ 1 24 underlying127 hi hz0 hz1 hz2 rfl I0 v xs.length xs hs hown ⟨b,0,none⟩ 1 1 [u] hx rfl ?_ ?_ ?_ ?_ hB ?_
 ·intro j u' hj
  rw[VF]
  match j with
  |0=>simp only[B3,I2]at hj;subst hj;exact hc
  |j+1=>simp at hj
 ·exact sD
 ·exact V7
 ·exact sE
 ·exact sF
def TV (w:World) (xs:List Value) (ls:List (List Int)):Prop:=xs.length=ls.length∧∀(i:Nat) (x:Value) (l:List Int),xs[i]? =some x->ls[i]? =some l->Own 3 w 0 x (l.map encI)
theorem TV.ext {w w':World} {xs:List Value} {ls:List (List Int)} (h:TV w xs ls) (hx:Ext w w'):TV w' xs ls:=⟨h.1,fun i x l h1 h2=>(h.2 i x l h1 h2).ext hx⟩
def RSt (W:World) (ls:List (List Int)) (u:Value) (w:World):Prop:=∃xs,Own 43 w W.heap.size u xs∧TV w xs ls∧Ext W w
theorem RSt.one {W wr:World} {l:List Int} {r:Value} (hr:Own 3 wr 0 r (l.map encI)) (hx:Ext W wr):RSt W [l] (.slice (some ⟨wr.heap.size,0,none⟩) 1 1) (wr.alloc (.cells #[r] 43)):=by
 refine⟨[r],Own.one _ _ _ _ hx.size,⟨rfl,?_⟩,hx.alloc _⟩
 intro i x l' h1 h2
 cases i with
 |zero=>simp only[B3,I2]at h1 h2;subst h1 h2;exact hr.alloc _
 |succ i=>simp at h1
theorem RSt.push {W wr w5:World} {ls:List (List Int)} {l:List Int} {xs:List Value} {u v' r:Value} (ho:Own 43 wr W.heap.size u xs) (hh:TV wr xs ls) (hr:Own 3 wr 0 r (l.map encI))
 (h5:Own 43 w5 W.heap.size v' (xs++[r])) (hg:wr.grownBy w5 u.ownBlock) (hx:Ext W wr):RSt W (ls++[l]) v' w5:=by
 refine⟨xs++[r],h5,⟨by rw[T0,T0,hh.1];rfl,?_⟩,hx.ofGrown hg ho.low⟩
 intro i x l' h1 h2
 by_cases hi:i<xs.length
 ·rw[O7 hi]at h1;rw[O7 (by rw[<-hh.1];exact hi)]at h2;have h:=hh.2 i x l' h1 h2;exact h.kept hg (Own.apart h ho I0)
 ·rw[M9 B0]at h1
  rw[M9 (by rw[<-hh.1];omega),<-hh.1]at h2
  obtain⟨k,hk⟩:∃k,i-xs.length=k:=⟨_,rfl⟩
  rw[hk]at h1 h2
  cases k with
  |zero=>simp only[B3,I2]at h1 h2;subst h1 h2;exact hr.kept hg (Own.apart hr ho I0)
  |succ k=>simp at h1
theorem RSt.ext {W w w':World} {ls:List (List Int)} {u:Value} (h:RSt W ls u w) (hx:Ext w w'):RSt W ls u w':=by obtain⟨xs,h1,h2,h3⟩:=h;exact⟨xs,h1.ext hx,h2.ext hx,h3.trans hx⟩
theorem RSt.few {W w:World} {ls:List (List Int)} {u:Value} (h:RSt W ls u w):∃xs,Own 43 w W.heap.size u xs∧TV w xs ls∧Ext W w∧xs.length=ls.length:=by obtain⟨xs,h1,h2,h3⟩:=h;exact⟨xs,h1,h2,h3,h2.1⟩
def qs1 (ws:List Int) (t:Nat):List (List Int):=if(Rn.quant ws (t:Int)).2=0 then [(Rn.quant ws (t:Int)).1]else []
def S7 (n:Nat):Nat:=if n=59 then 95 else if n=43 then 67 else if n=33 then 51 else 0
def XD (n:Nat):Nat:=11*(n-7)/6+13
theorem sG (ws:List Int) (t:Nat):(qs1 ws t).length<=1:=by unfold qs1;exact KQ
theorem sH (ws:List Int):∀l r:List Int,Ln.quants ws (l++r)=Ln.quants ws l++Ln.quants ws r
 | [],r=>rfl
 |x::l,r=>by rw[J3,Ln.quants,Ln.quants,sH ws l r,M3]
theorem ZgY (ws:List Int):Ln.cands ws=(([ws.map fun x=>x/Rn.unit ws]++(if S7 ws.length=0 then []else qs1 ws (S7 ws.length)))++(if 13<=ws.length∧(ws.length-7)%6=0 then qs1 ws (XD ws.length)else []))++(if(Tw.wide ws).2=0 then [clsW (Tw.wide ws).1]else []):=by
 have h1:Ln.quants ws (if ws.length=59 then [95]else if ws.length=43 then [67]else if ws.length=33 then [51]else [])=if S7 ws.length=0 then []else qs1 ws (S7 ws.length):=by unfold S7;split;(·simp[Ln.quants,qs1]);split;(·simp[Ln.quants,qs1]);split;(·simp[Ln.quants,qs1]);·rfl
 have h2:Ln.quants ws (if 13<=ws.length∧(ws.length-7)%6=0 then [Ln.total11 ws.length]else [])=if 13<=ws.length∧(ws.length-7)%6=0 then qs1 ws (XD ws.length)else []:=by split;(·rename_i h;have e:Ln.total11 ws.length=((XD ws.length:Nat):Int):=(by unfold Ln.total11 XD;omega);rw[Ln.quants,e,Ln.quants,P3];rfl);·rfl
 unfold Ln.cands Ln.totals;rw[sH,h1,h2];simp only[M3,J3,P5];rfl
theorem ZhC {ws:List Int} (h:(Tw.wide ws).2=0):(Tw.wide ws).1.length=ws.length:=by
 unfold Tw.wide at h⊢;split at h;·cases h
 split at h;·cases h
 rw[C0 XH,C0 XH];split at h;·rw[D0 XH,J0]
 split at h;·cases h
 ·rw[C0 XH,C0 XH,J0]
theorem ZoI {D:List Int} {j:Nat} {y:Int} (h:D[j]? =some y):(D.take (j+1)).map encI=((D.take j)++[y]).map encI:=by rw[Zz h]
theorem ZjW (v:Value) (ws:List Int) (w:World) (hv:Sl w v (ws.map encI)) (hne:ws≠ []) (hl:ws.length<=65536) (hw:∀x∈ws,1<=x∧x<=65536):
 Calls prog 87 #[v] w fun e w'=>∃u,e=.returned u∧RSt w (Ln.cands ws) u w':=by
 have HUN:=A0 (fun w' (h:Ext w w')=>Zlx v ws w' (hv.ext h) B0 hw)
 have HQN:=A0 (fun t w' (h:Ext w w') (ht:t<=1000000000)=>ZjU v ws t w' (hv.ext h) B0 ht)
 have HWD:=A0 (fun w' (h:Ext w w')=>ME v ws w' (hv.ext h) B0)
 obtain⟨hu1,hud⟩:=Rn.unit_is (fun x hx=>(hw x hx).1) hne
 have HWO:=A0 (@ZhC ws)
 have HCA:=A0 (ZgY ws)
 obtain⟨res,hres⟩:∃res,res=Ln.cands ws:=⟨_,rfl⟩
 rw[<-hres]at HCA⊢
 obtain⟨U,hU⟩:∃U,U=Rn.unit ws:=⟨_,rfl⟩
 rw[<-hU]at HUN hu1 hud HCA
 obtain⟨D,hD⟩:∃D,D=ws.map fun x=>x/U:=⟨_,rfl⟩
 rw[<-hD]at HCA
 have hDl:D.length=ws.length:=by rw[hD,J0]
 have HDA:Hid (∀(j:Nat) (x:Int),ws[j]? =some x->D[j]? =some (x/U)):=A0 (fun j x h=>by rw[hD,J2,h];rfl)
 obtain⟨a,c,rfl⟩:=hv.form
 rw[J0]at hv HUN HQN HWD⊢
 obtain⟨n,hn⟩:∃n,n=ws.length:=⟨_,rfl⟩
 rw[<-hn]at hv hl HUN HQN HWD HCA hDl HWO⊢
 obtain⟨WI,hWI⟩:∃r,r=Tw.wide ws:=⟨_,rfl⟩
 rw[<-hWI]at HWD HCA HWO
 have HN:=A0 hn
 have HV:=A0 hv
 have HIN:=A0 hw
 have HDL:=A0 hDl
 have zU:(U==0)=false:=N0.2 B0
 have hU0:U≠0:=by omega
 obtain⟨T1,hT1⟩:∃t,t=S7 n:=⟨_,rfl⟩
 have hT1b:T1<=95:=by rw[hT1];unfold S7;exact M8
 rw[<-hT1]at HCA
 have HT1:=A0 hT1
 obtain⟨P1,hP1⟩:∃p,p=(if T1=0 then []else qs1 ws T1):=⟨_,rfl⟩
 rw[<-hP1]at HCA
 have HP1:=A0 hP1
 have hP1l:P1.length<=1:=by rw[hP1];split;(·exact O0 _);·exact sG ws T1
 obtain⟨P2,hP2⟩:∃p,p=(if 13<=n∧(n-7)%6=0 then qs1 ws (XD n)else []):=⟨_,rfl⟩
 rw[<-hP2]at HCA
 have HP2:=A0 hP2
 have hP2l:P2.length<=1:=by rw[hP2];split;(·exact sG ws _);·exact O0 _
 clear hv hw hne hn hres hU hD hDl hud hT1 hP1 hP2 hWI
 go_enter func87,ntmps87
 go_wp2_with fail
 refine(HUN.out w (Ext.refl _)).mono ?_
 rintro e w1 ⟨rfl,hx1⟩
 have HX1:=A0 hx1
 clear hx1 HUN
 go_wp2_with fail
 go_loopw [5,6] (fun u i wr=>∃j:Nat,j<=n∧i=.int .i64 (j:Int)∧Hid (Own 3 wr w.heap.size u ((D.take j).map encI))∧Hid (Ext w wr)) (fun _ i _=>n-(intOf i).toNat)
 case atStart=>exact⟨0,O0 _,rfl,A0 (Own.nil _ _ _),HX1⟩
 case round=>
 clear HX1
 obtain⟨j,hj,rfl,HO,HX⟩:=hrel
 by_cases hlt:j<n
 ·obtain⟨x,hxj⟩:∃x,ws[j]? =some x:=⟨_,M0 J4⟩;obtain⟨b,o,ha,hb,hc⟩:=HV.out.int_at HX.out hxj;subst ha;have hjI:(j:Int)<(n:Int):=B0;obtain⟨hx1,hx2⟩:=HIN.out x (J1 hxj);obtain⟨q,hq⟩:∃q,q=x/U:=⟨_,rfl⟩;have hq0:0<=q:=(by rw[hq];exact WL B0 B0);have hq1:q<=65536:=bW;have hqe:=hq.symm;have hqt:x.tdiv U=q:=(by rw[hq,O9 B0]);have HSN:=A0 (ZoI (D:=D) (j:=j) (y:=q) (by rw[hq];exact HDA.out j x hxj));have hown:=HO.out;have hsz:=HX.out.size;have hlen:(D.take j).length<=65536:=WA;clear hq hxj;go_wp2_with (at_builtin;refine Zq rfl _ _ rfl w.heap.size _ (D.take j) rfl (hown.alloc _) _ q rfl ?c1 ?c2 ?c3 ?_);(case c1=>exact L3);(case c2=>omega);(case c3=>exact Y2);intro v' w5 hown5 hg5;have HX5:=A0 ((HX.out.alloc _).ofGrown hg5 hown.low);have HO5:Hid (Own 3 w5 w.heap.size v' ((D.take (j+1)).map encI)):=A0 (by rw[HSN.out];first|exact hown5|(rw[E3,I3];exact hown5));clear hown hown5 hg5 hsz HO HX HSN;exact xV
 obtain rfl:j=n:=by omega
 have HO1:Hid (Own 3 wr 0 u5 (D.map encI)):=A0 (by have h:=HO.out;rw[X1 (by rw[HDL.out];exact K0 _)]at h;exact h.mono (O0 _))
 have HX2:=A0 HX.out
 clear hj hlt HO HX
 have hsz:=HX2.out.size
 obtain⟨a5,c5,h5⟩:=HO1.out.sl.form
 subst h5
 rw[J0]at HO1⊢
 go_upto_block 2 with fail
 go_cut [7,8]from 17 (fun s7 s8 wx=>s8=.int .i64 (T1:Int)∧Hid (RSt w [D] s7 wx))
 case first=>have HS0:=A0 (RSt.one HO1.out HX2.out);by_cases h59:j=59;(·have z59:((j:Int)==59)=true:=Y0.2 B0;obtain rfl:T1=95:=(by rw[HT1.out,S7,D0 h59]);exact JS);have z59:((j:Int)==59)=false:=N0.2 B0;by_cases h43:j=43;(·have z43:((j:Int)==43)=true:=Y0.2 B0;obtain rfl:T1=67:=(by rw[HT1.out,S7,C0 h59,D0 h43]);exact JS);have z43:((j:Int)==43)=false:=N0.2 B0;by_cases h33:j=33;(·have z33:((j:Int)==33)=true:=Y0.2 B0;obtain rfl:T1=51:=(by rw[HT1.out,S7,C0 h59,C0 h43,D0 h33]);exact JS);have z33:((j:Int)==33)=false:=N0.2 B0;obtain rfl:T1=0:=(by rw[HT1.out,S7,C0 h59,C0 h43,C0 h33]);exact JS
 case rest=>
 clear HO1 HX2 hsz
 obtain⟨rfl,HR0⟩:=hcut
 go_upto_if 45 with fail
 go_cut [7]from 17 (fun s7 wx=>Hid (RSt w ([D]++P1) s7 wx))
 case first=>obtain⟨xs,hxo,hxh,hxx,hxl⟩:=HR0.out.few;by_cases hT0:T1=0;(·have hTI:¬(0:Int)<(T1:Int):=B0;have HP:Hid (RSt w ([D]++P1) u7 wc):=A0 (by rw[HP1.out,D0 hT0,P3];exact HR0.out);clear hT0;go_wp2_with fail;go_meet;case rel=>exact HP);·have hTI:(0:Int)<(T1:Int):=B0;have HPP:Hid (P1=qs1 ws T1):=A0 (by rw[HP1.out,C0 hT0]);have HQ:=A0 (HQN.out T1 wc hxx B0);unfold qs1 at HPP;obtain⟨⟨ql,qe⟩,hqq⟩:∃q,q=Rn.quant ws (T1:Int):=⟨_,rfl⟩;rw[<-hqq]at HQ HPP;dsimp only at HPP;clear hT0 hqq;go_wp2_with fail;refine HQ.out.mono ?_;rintro e w2 ⟨u,rfl,hu,hx2⟩;dsimp only at hu⊢;obtain⟨au,cu,rfl⟩:=hu.sl.form;rw[J0]at hu⊢;by_cases hqe:qe=0;(·subst hqe;rw[D0 rfl]at HPP;have hown:=hxo.ext hx2;have hhs:=hxh.ext hx2;have hxx2:=hxx.trans hx2;have hsz:=hxx2.size;have HRR:=A0 (hu.mono (O0 _));go_wp2_with (at_builtin;refine xX rfl _ _ rfl w.heap.size _ xs rfl (hown.alloc _) _ (.slice au ql.length cu) rfl ?c1 rfl ?c2 ?c3 ?_);(case c1=>simp[go_sem]);(case c2=>rw[hxl];simp);(case c3=>exact Y2);intro v' w5 hown5 hg5;have HS:Hid (RSt w ([D]++P1) v' w5):=A0 sI;clear hown hhs hxx2 hsz HRR hown5 hg5;exact JT);·rw[C0 hqe]at HPP;have zq:(qe==0)=false:=N0.2 hqe;have HS:Hid (RSt w ([D]++P1) u7 w2):=A0 sJ;exact JT
 case rest=>
 clear HR0 HP1 hT1b HT1
 have HR0:=hcut
 clear hcut
 obtain⟨B2,hB2⟩:∃b:Bool,b=decide (13<=j∧(j-7)%6=0):=⟨_,rfl⟩
 have HB2:=A0 hB2
 clear hB2
 obtain⟨k,hk⟩:∃k,k=j-7:=⟨_,rfl⟩
 rw[<-hk]at HB2 HP2
 have HK:=A0 hk
 clear hk
 go_upto_region 21 with fail
 go_cut [65]from 17 (fun s65 wx=>s65=.bool B2∧wx=wc)
 case first=>by_cases h13:13<=j;(·have h13I:(13:Int)<=(j:Int):=B0;have hkI:(j:Int)-7=(k:Int):=TC;exact bX);·have h13I:¬(13:Int)<=(j:Int):=B0;exact bY
 case rest=>
 obtain⟨rfl,rfl⟩:=hcut
 go_upto_if 65 with fail
 go_cut [7]from 17 (fun s7 wx=>Hid (RSt w ([D]++P1++P2) s7 wx))
 case first=>
  obtain⟨xs,hxo,hxh,hxx,hxl⟩:=HR0.out.few
  cases B2 with
  |false=>have HP:Hid (RSt w ([D]++P1++P2) u7 wc):=A0 (by rw[HP2.out,C0 (K9 HB2.out.symm),P3];exact HR0.out);go_wp2_with fail;go_meet;case rel=>exact HP
  |true=>obtain⟨h13,hk6⟩:=G6 HB2.out.symm;have HPP:Hid (P2=qs1 ws (XD j)):=A0 (by rw[HP2.out,D0 ⟨h13,hk6⟩]);have hkI:(j:Int)-7=(k:Int):=TC;obtain⟨T2,hT2⟩:∃t,t=XD j:=⟨_,rfl⟩;obtain⟨tt,htt⟩:∃tt:Nat,tt=(11*k)/6:=⟨_,rfl⟩;have hte:11*(k:Int)/6=(tt:Int):=B0;have htT:(11*(k:Int)).tdiv 6=(tt:Int):=(by rw[O9 B0,hte]);have hT2I:(tt:Int)+13=(T2:Int):=(by rw[hT2,XD,htt,HK.out];rfl);have hkb:k<=65536:=TC;have htb:tt<=131072:=B0;have HQ:=A0 (HQN.out T2 wc hxx B0);rw[<-hT2]at HPP;unfold qs1 at HPP;obtain⟨⟨ql,qe⟩,hqq⟩:∃q,q=Rn.quant ws (T2:Int):=⟨_,rfl⟩;rw[<-hqq]at HQ HPP;dsimp only at HPP;clear hT2 htt hqq h13 hk6;go_wp2_with fail;refine HQ.out.mono ?_;rintro e w2 ⟨u,rfl,hu,hx2⟩;dsimp only at hu⊢;obtain⟨au,cu,rfl⟩:=hu.sl.form;rw[J0]at hu⊢;by_cases hqe:qe=0;(·subst hqe;rw[D0 rfl]at HPP;have hown:=hxo.ext hx2;have hhs:=hxh.ext hx2;have hxx2:=hxx.trans hx2;have hsz:=hxx2.size;have HRR:=A0 (hu.mono (O0 _));go_wp2_with (at_builtin;refine xX rfl _ _ rfl w.heap.size _ xs rfl (hown.alloc _) _ (.slice au ql.length cu) rfl ?c1 rfl ?c2 ?c3 ?_);(case c1=>simp[go_sem]);(case c2=>rw[hxl,T0,YS];omega);(case c3=>exact Y2);intro v' w5 hown5 hg5;have HS:Hid (RSt w ([D]++P1++P2) v' w5):=A0 sI;clear hown hhs hxx2 hsz HRR hown5 hg5;exact JT);·rw[C0 hqe]at HPP;have zq:(qe==0)=false:=N0.2 hqe;have HS:Hid (RSt w ([D]++P1++P2) u7 w2):=A0 sJ;exact JT
 case rest=>
 clear HR0 HP2 HB2 HK
 have HR0:=hcut
 clear hcut
 obtain⟨xs,hxo,hxh,hxx,hxl⟩:=HR0.out.few
 have hxl3:xs.length<=3:=by rw[hxl,T0,T0,YS];omega
 have HXO:=A0 hxo
 have HXH:=A0 hxh
 have HXX:=A0 hxx
 have HWK:=A0 (HWD.out wc hxx)
 clear hxo hxh hxx hxl HWD HQN
 obtain⟨wb,we⟩:=WI
 dsimp only at HCA HWK HWO
 go_wp2_with fail
 refine HWK.out.mono ?_
 rintro e w2 ⟨vb,rfl,hvb,hx2⟩
 dsimp only at hvb⊢
 have HX2:=A0 (HXX.out.trans hx2)
 have HXO2:=A0 (HXO.out.ext hx2)
 have HXH2:=A0 (HXH.out.ext hx2)
 have HVB:=A0 hvb
 clear hx2 hvb HXO HXH HXX HWK
 by_cases hwe:we=0
 ·subst hwe;rw[D0 rfl]at HCA;have hwl:wb.length=j:=HWO.out rfl;have HWL2:=A0 hwl;obtain⟨ab,cb,rfl⟩:=HVB.out.sl.form;rw[J0,hwl]at HVB⊢;clear hwl;go_wp2_with fail;go_loopw [15,16] (fun u i wr=>∃p:Nat,p<=j∧i=.int .i64 (p:Int)∧Hid (Own 3 wr w2.heap.size u ((clsW (wb.take p)).map encI))∧Hid (Ext w2 wr)) (fun _ i _=>j-(intOf i).toNat);(case atStart=>exact UM)
  case round=>
  obtain⟨p,hp,rfl,HO,HX⟩:=hrel;by_cases hlt:p<j
  ·obtain⟨x,hxj⟩:∃x,wb[p]? =some x:=⟨_,M0 (by rw[HWL2.out];exact hlt)⟩
   obtain⟨b,o,ha,hb,hc⟩:=HVB.out.sl.bool_at HX.out hxj
   subst ha
   have hpI:(p:Int)<(j:Int):=by omega
   have hown:=HO.out
   have hsz:=HX.out.size
   have hlen:(clsW (wb.take p)).length<=65536:=by rw[clsW,J0,M1];omega
   have HSN:Hid ((clsW (wb.take (p+1))).map encI=(clsW (wb.take p)).map encI++[encI (if x then 3 else 1)]):=A0 (by rw[N6,hxj];simp[clsW])
   clear hxj
   cases x with
   |true=>go_wp2_with (at_builtin;refine Zq rfl _ _ rfl w2.heap.size _ (clsW (wb.take p)) rfl (hown.alloc _) _ 3 rfl ?c1 ?c2 ?c3 ?_);(case c1=>exact L3);(case c2=>omega);(case c3=>exact Y2);intro v' w5 hown5 hg5;have HX5:=A0 ((HX.out.alloc _).ofGrown hg5 hown.low);have HO5:Hid (Own 3 w5 w2.heap.size v' ((clsW (wb.take (p+1))).map encI)):=A0 (by rw[HSN.out];first|exact hown5|(rw[D0 rfl];exact hown5));clear hown hown5 hg5 hsz HO HX HSN;exact xW
   |false=>go_wp2_with (at_builtin;refine Zq rfl _ _ rfl w2.heap.size _ (clsW (wb.take p)) rfl (hown.alloc _) _ 1 rfl ?c1 ?c2 ?c3 ?_);(case c1=>exact L3);(case c2=>omega);(case c3=>exact Y2);intro v' w5 hown5 hg5;have HX5:=A0 ((HX.out.alloc _).ofGrown hg5 hown.low);have HO5:Hid (Own 3 w5 w2.heap.size v' ((clsW (wb.take (p+1))).map encI)):=A0 (by rw[HSN.out];first|exact hown5|(rw[C0 I0];exact hown5));clear hown hown5 hg5 hsz HO HX HSN;exact xW
  obtain rfl:p=j:=B0;have hO:=HO.out;rw[X1 (by rw[HWL2.out];exact K0 _)]at hO;obtain⟨a9,c9,h9⟩:=hO.sl.form;subst h9;rw[J0]at hO⊢;have HRR:=A0 (hO.mono (O0 _));have hown:=HXO2.out.ext HX.out;have hhs:=HXH2.out.ext HX.out;have hxx2:=HX2.out.trans HX.out;have hsz:=hxx2.size;clear hO HO HX hlt hp;go_wp2_with (at_builtin;refine xX rfl _ _ rfl w.heap.size _ xs rfl (hown.alloc _) _ (.slice a9 (clsW wb).length c9) rfl ?c1 rfl ?c2 ?c3 ?_);(case c1=>simp[go_sem]);(case c2=>omega);(case c3=>exact Y2);intro v' w5 hown5 hg5;have HS:Hid (RSt w res v' w5):=A0 (by rw[HCA.out];exact RSt.push (hown.alloc _) (hhs.ext ((Ext.refl _).alloc _)) (HRR.out.alloc _) hown5 hg5 (hxx2.alloc _));clear hown hhs hxx2 hsz HRR hown5 hg5;go_wp2_with fail;go_ret;exact⟨_,rfl,HS.out⟩
 ·rw[C0 hwe,P3]at HCA;have zw:(we==0)=false:=N0.2 hwe;have HS:Hid (RSt w res u7 w2):=A0 (by rw[HCA.out];exact⟨xs,HXO2.out,HXH2.out,HX2.out⟩);go_wp2_with fail;go_ret;exact⟨_,rfl,HS.out⟩
end
end Go.Proofs.YtbngggoccndefaaGreatDoor
