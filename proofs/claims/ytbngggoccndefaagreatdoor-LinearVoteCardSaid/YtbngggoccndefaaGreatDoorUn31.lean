/-
  Laid.
-/
import Derived.Test.YtbngggoccndefaaGreatDoorUn28
import Derived.Test.YtbngggoccndefaaGreatDoorUn29
set_option maxHeartbeats 16000000
set_option maxRecDepth 100000
set_option linter.all false
namespace Go.Proofs.YtbngggoccndefaaGreatDoor
open Go.Proofs.Tryz
section
open Go.RowKit
theorem ZiC {l:List Int} (h:(Rn.modules l).2=0):∀x∈l,1<=x∧x<=65536:=by
 unfold Rn.modules at h
 by_cases h0:l.length=0
 ·exact SW
 rw[C0 h0]at h
 by_cases h1:l.length%2=0
 ·exact VV
 rw[C0 h1]at h
 cases h2:Tw.inRng l with
 |false=>rw[h2,D0 rfl]at h;cases h
 |true=>exact fun x hx=>YO h2 (x:=x) hx
def Zow (r:Ea.Got) (w:World) (s12 s13:Value) (wx:World):Prop:=
 ∃bt,s12=.pointer (some ⟨bt,0,none⟩)∧s13=.int .i64 r.2∧w.heap.size<=bt∧Hid (wx.heap[bt]? =some (.cells #[.int .i64 r.1.1,.string (Ea.bS r.1.2.1),.string (Ea.bS r.1.2.2)] 33 (0,0)))∧Ext w wx
def sK (B:Nat) (v:Value) (w:World):Prop:=∃g,v=.pointer (some ⟨g,0,none⟩)∧B<=g∧w.heap[g]? =some (.cells #[.int .i64 0,.string ⟨#[]⟩,.string ⟨#[]⟩] 33 (0,0))
theorem ZfH (B:Nat):Rel.Stable (sK B):=fun _ _ _ ⟨g,h1,h2,h3⟩ hx=>⟨g,h1,h2,Ze h3 hx⟩
def rowB (m:List Bool) (v:Value) (w:World):Prop:=Own 4 w 0 v (m.map encT)
theorem Zh3 (m:List Bool):Rel.Stable (rowB m):=fun _ _ _ h hx=>h.ext hx
theorem Zjr (ws:List Int):0<(Ln.cands ws).length:=by unfold Ln.cands;rw[D1];omega
theorem sL (v:Value) (m:List Bool) (w:World) (hv:SlK w v (m.map encT)) (hm:m.length<=65536) (hdb:Ln.dark m=true):
 Calls prog 46 #[v] w (RdR (Ln.readD m) w):=by
 have HWD:=A0 (fun w' (h:Ext w w')=>RL v m w' (hv.ext h) B0)
 have HMG:=A0 (fun w' (h:Ext w w')=>EE v m w' (hv.ext h) B0)
 obtain⟨hwin,hwlen⟩:=Rn.widths_in m
 obtain⟨hlA,hlB⟩:=Rn.ldg_len m
 have hdk:=Ln.dark_core m
 have hwn:=Rn.widths_nil m
 have hRD:Ln.readD m=Ln.try_ (Rn.widths m) (Ea.ldg m) (Ea.trl m):=rfl
 obtain⟨res,hres⟩:∃res,res=Ln.readD m:=⟨_,rfl⟩
 rw[<-hres]at hRD⊢
 obtain⟨-,a,c,rfl,-⟩:=hv
 rw[J0]at HWD HMG⊢
 generalize Ea.ldg m=left at*
 generalize Ea.trl m=right at*
 generalize Rn.widths m=ws at*
 have hne:ws≠ []:=fun e=>by have:=hdk.2 (hwn.1 e);rw[hdb]at this;cases this
 have hw1:∀x∈ws,1<=x∧x<=65536:=fun x hx=>by have:=hwin x hx;omega
 have hpos:1<=ws.length:=T6.2 hne
 have hle:left<=65536:=by omega
 have hri:right<=65536:=by omega
 have hl:ws.length<=65536:=by omega
 have hsb:=Rn.sum_in hw1
 have hsp:=Rn.sum_pos ws (fun x hx=>(hw1 x hx).1)
 have HCL:=A0 (iG ws)
 have hcn:=iH ws
 have hcp:=Zjr ws
 have HCA:=A0 (fun v w' (h:Sl w' v (ws.map encI))=>ZjW v ws w' h hne hl hw1)
 have HSW:=A0 (fun v w' (h:Sl w' v (ws.map encI))=>sC v ws w' h B0 hw1)
 unfold Ln.try_ at hRD
 obtain⟨ls,hls⟩:∃ls,ls=Ln.cands ws:=⟨_,rfl⟩
 rw[<-hls]at HCA HCL hRD hcn hcp
 obtain⟨SM,hSM⟩:∃SM,SM=Rn.sum ws:=⟨_,rfl⟩
 rw[<-hSM]at hRD hsb hsp HSW
 have HR0:Hid (res=Ln.tryGo left right SM (ls.drop 0)):=A0 hRD
 obtain⟨n,hn⟩:∃n,n=ws.length:=⟨_,rfl⟩
 rw[<-hn]at hl HCL hpos hsp hsb
 have HN:=A0 hn
 have hs0:1<=SM:=by omega
 have hs1:SM<=4294967296:=by have:=hsb.2;omega
 obtain⟨ml,hml⟩:∃ml,ml=m.length:=⟨_,rfl⟩
 rw[<-hml]at HWD HMG⊢
 clear hdb hwin hwlen hlA hlB hdk hwn hRD hres hne hw1 hm hsb hsp hls hSM hn hml
 obtain⟨w0,hw0⟩:∃w0,w0=w.alloc (.cells #[.int .i64 0,.string ⟨#[]⟩,.string ⟨#[]⟩] 33):=⟨_,rfl⟩
 have HX0:Hid (Ext w w0):=A0 AQ
 have HB0:Hid (w0.heap[w.heap.size]? =some (.cells #[.int .i64 0,.string ⟨#[]⟩,.string ⟨#[]⟩] 33 (0,0))):=A0 AR
 have HW0:=A0 hw0
 clear hw0
 go_enter func46,ntmps46
 go_wp2_with fail
 rw[<-HW0.out]
 refine(HWD.out w0 HX0.out).mono ?_
 rintro e w1 ⟨u,rfl,hu,hx1⟩
 have HU:=A0 hu
 have HX1:=A0 (HX0.out.trans hx1)
 have HB1:=A0 (Ze HB0.out hx1)
 clear hu hx1
 go_wp2_with fail
 refine(HMG.out w1 HX1.out).mono ?_
 rintro e w1' ⟨rfl,rfl⟩
 go_wp2_with fail
 refine(HCA.out u w1 HU.out.1).mono ?_
 rintro e w2 ⟨uc,rfl,hst⟩
 obtain⟨xs,hxo,hxh,hx2,hxl⟩:=hst.few
 have HXO:=A0 hxo
 have HXH:=A0 hxh
 have HX2:=A0 hx2
 have HB2:=A0 (Ze HB1.out hx2)
 have hU2:=HU.out.1.ext hx2
 obtain⟨au2,cu2,hu2⟩:=hU2.form
 rw[hu2]at hU2
 rw[J0]at hu2 hU2
 subst hu2
 have HU2:=A0 hU2
 clear hU2
 rw[<-HN.out]at HU2⊢
 obtain⟨k,hk⟩:∃k,k=ls.length:=⟨_,rfl⟩
 rw[<-hk]at hxl hcn hcp
 have HK:=A0 hk
 obtain⟨g,cap,rfl,hcx⟩:=HXO.out.opens (by rw[hxl];exact hcp)
 rw[hxl]at HXO hcx⊢
 have HCX:=A0 hcx
 clear hst hxo hxh hx2 hk hcx HU HB1
 go_wp2_with fail
 go_loopw [8] (fun t wr=>∃j:Nat,j<=k∧t=.int .i64 (j:Int)∧Hid (res=Ln.tryGo left right SM (ls.drop j))∧Hid (wr.heap[w.heap.size]? =some (.cells #[.int .i64 0,.string ⟨#[]⟩,.string ⟨#[]⟩] 33 (0,0)))∧Hid (Ext w2 wr)) (fun t _=>k-(intOf t).toNat)
 case atStart=>exact⟨0,O0 _,rfl,HR0,HB2,A0 (Ext.refl _)⟩
 case round=>
 clear HR0 HB2
 obtain⟨j,hj,rfl,HR,HB,HX⟩:=hrel
 by_cases hlt:j<k
 ·have hjI:(j:Int)<(k:Int):=B0;obtain⟨l,hlj⟩:∃l,ls[j]? =some l:=⟨_,M0 (by rw[<-HK.out];exact hlt)⟩;obtain⟨x,hxj⟩:∃x,xs[j]? =some x:=⟨_,M0 (by rw[hxl];exact hlt)⟩;have hxown:=(HXH.out.2 j x l hxj hlj);have hgb:g<w2.heap.size:=(U5 HXO.out _ rfl).2;have hc0:wr.cell? ⟨g,j,none⟩=some x:=(by rw[HX.out.cell (p:=⟨g,j,none⟩) hgb,HCX.out j hlt,hxj]);have hll:l.length<=1000000:=iL;obtain⟨xa,xc,rfl⟩:=hxown.sl.form;rw[J0]at hxj hxown hc0;have HLO:=A0 hxown.sl;have HMO:=A0 (fun w' (h:Ext w2 w')=>Zhx (.slice xa l.length xc) l w' (HLO.out.ext h) hll);have HSU:=A0 (fun w' (h:Ext w2 w') (hin:∀x∈l,1<=x∧x<=65536)=>sC (.slice xa l.length xc) l w' (HLO.out.ext h) hll hin);have HTA:=A0 (iI (left:=left) (right:=right) (s:=SM) hlj);have HOK:=A0 (@iF l);have HRO:=A0 (show Ln.rowOf l left right SM=Ln.quiet (Rn.modules l).1 (min 64 ((left:Int)*Rn.sum l/SM)).toNat (min 64 ((right:Int)*Rn.sum l/SM)).toNat from rfl);obtain⟨⟨ms,me⟩,hms⟩:∃r,r=Rn.modules l:=⟨_,rfl⟩;have HIN:=A0 (@ZiC l);rw[<-hms]at HMO HTA HOK HRO HIN;dsimp only at HTA HOK HRO HIN;clear hms hxj hxown;go_wp2_with fail;refine(HMO.out _ HX.out).mono ?_;rintro e w3 ⟨um,rfl,hum,hx3⟩;dsimp only at hum⊢;have HX3:=A0 (HX.out.trans hx3);have HB3:=A0 (Ze HB.out hx3);have hc3:w3.cell? ⟨g,j,none⟩=some (.slice xa l.length xc):=(by rw[hx3.cell (p:=⟨g,j,none⟩) (G2 hgb HX.out.size)];exact hc0);by_cases hme:me=0
  ·subst hme;obtain⟨hm1,hm2,ht0,ht1⟩:=HOK.out rfl;have hin:=HIN.out rfl;obtain⟨tot,htot⟩:∃tot,tot=Rn.sum l:=⟨_,rfl⟩;rw[<-htot]at ht0 ht1 HRO HSU;clear htot;obtain⟨hsl,au,cu,rfl,-⟩:=hum;rw[J0]at hsl⊢;go_wp2_with fail;refine(HSU.out w3 HX3.out hin).mono ?_;rintro e w3' ⟨rfl,rfl⟩;clear hc3;obtain⟨A,hA⟩:∃A,A=(min 64 ((left:Int)*tot/SM)).toNat:=⟨_,rfl⟩;obtain⟨B,hB⟩:∃B,B=(min 64 ((right:Int)*tot/SM)).toNat:=⟨_,rfl⟩;rw[<-hA,<-hB]at HRO;obtain⟨pl,hpl⟩:∃p,p=(left:Int)*tot:=⟨_,rfl⟩;have hple:=hpl.symm;have hpl0:0<=pl:=(by rw[hpl];exact KR);have hpl1:pl<=65536*65536:=(by rw[hpl];exact KS);obtain⟨ql,hql⟩:∃q,q=pl/SM:=⟨_,rfl⟩;have hql0:0<=ql:=(by rw[hql];exact WL hpl0 B0);have hql1:ql<=65536*65536:=iM;have hqle:=hql.symm;have hplw:IntKind.i64.wrap pl=pl:=T3 _ B0;have hqlw:IntKind.i64.wrap ql=ql:=T3 _ B0;have hqlt:pl.tdiv SM=ql:=(by rw[hql,O9 hpl0]);have hAI:min ql 64=(A:Int):=KT;have hAJ:min 64 ql=(A:Int):=KT;have hA64:A<=64:=B0;obtain⟨pr,hpr⟩:∃p,p=(right:Int)*tot:=⟨_,rfl⟩;have hpre:=hpr.symm;have hpr0:0<=pr:=(by rw[hpr];exact KR);have hpr1:pr<=65536*65536:=(by rw[hpr];exact KS);obtain⟨qr,hqr⟩:∃q,q=pr/SM:=⟨_,rfl⟩;have hqr0:0<=qr:=(by rw[hqr];exact WL hpr0 B0);have hqr1:qr<=65536*65536:=iN;have hqre:=hqr.symm;have hprw:IntKind.i64.wrap pr=pr:=T3 _ B0;have hqrw:IntKind.i64.wrap qr=qr:=T3 _ B0;have hqrt:pr.tdiv SM=qr:=(by rw[hqr,O9 hpr0]);have hBI:min qr 64=(B:Int):=KU;have hBJ:min 64 qr=(B:Int):=KU;have hB64:B<=64:=B0;have HQT:=A0 (fun w' (h:Ext w3 w')=>ZjX (.slice au ms.length cu) ms A B w' (hsl.ext h) hm1 B0 B0 B0);have HQL:=A0 (EX ms A B);obtain⟨row,hrow⟩:∃row,row=Ln.quiet ms A B:=⟨_,rfl⟩;rw[<-hrow]at HRO HQT HQL;rw[HRO.out]at HTA;have hrl:row.length<=1000000:=(by rw[HQL.out];omega);have HDC:=A0 (fun v w' (h:SlK w' v (row.map encT))=>ZiG v row w' h hrl);obtain⟨got,hgot⟩:∃got,got=Ln.decode row:=⟨_,rfl⟩;rw[<-hgot]at HTA HDC;have HU3:=HU2.out.ext HX3.out;have HSW3:=A0 (fun w' (h:Ext w3 w')=>HSW.out _ w' (HU3.ext h));clear HU3;obtain⟨mll,hmll⟩:∃ml,ml=ms.length:=⟨_,rfl⟩;rw[<-hmll]at HQT hm1 hm2⊢;have hSM0:SM≠0:=B0;have zSM:(SM==0)=false:=N0.2 hSM0;have hw3:w.heap.size<=w3.heap.size:=(by have h1:=HX1.out.size;have h2:=HX2.out.size;have h3:=HX3.out.size;omega);clear hA hB hrow hmll hgot hsl hpl hpr hql hqr;go_upto_region 10 with fail;go_cut [12,13]from 23 to 66 (fun s12 s13 wx=>Zow got w3 s12 s13 wx);(case first=>refine Zfg 21 2 19 rfl [45,46,47,48,49,50,51,52,53,54,55,56,57,58,59,60,61,44,62,63,12] [[],[],[],[1,2],[],[4],[3,5],[6],[],[],[8,9],[],[11],[10,12],[13],[0,7,14],[15],[16],[17],[17],[]] G0 G0 ?_;apply Za;(·intro V w' hx hf;(with_reducible refine relAt_ops ?_);intro A ρ hA hρ hcst hfun;have h9:ρ (.tmp 9)=.slice au mll cu:=(P0 hρ _).trans (evalMiss hA 9 rfl);exact relUpon_move (hk:=by rw[h9];exact⟨Ext.refl _,rfl⟩));apply Za;(·intro V w' hx hf;(with_reducible refine relAt_ops ?_);intro A ρ hA hρ hcst hfun;have h5:ρ (.tmp 5)=.int .i64 (left:Int):=(P0 hρ _).trans (evalMiss hA 5 rfl);exact xY);apply Za;(·exact sM);refine Zc (eqv (.int .i64 pl)) (Zg _) ?_ ?_;(·intro V w' hx hf;(with_reducible refine relAt_ops ?_);intro A ρ hA hρ hcst hfun;obtain⟨f46,f47,_⟩:=hf;have h46:ρ (.tmp 46)=_:=(P0 hρ _).trans ((evalHit hA 46 rfl).trans f46);have h47:ρ (.tmp 47)=_:=(P0 hρ _).trans ((evalHit hA 47 rfl).trans f47);simp[relUpon,go_sem,hcst,↓IntWalk.iteOmega,Ext.refl,h46,h47,hple,hplw];try rfl);apply Za;(·exact sN);refine Zc (eqv (.int .i64 SM)) (Zg _) ?_ ?_;(·intro V w' hx hf;(with_reducible refine relAt_ops ?_);intro A ρ hA hρ hcst hfun;obtain⟨f49,_⟩:=hf;have h49:ρ (.tmp 49)=_:=(P0 hρ _).trans ((evalHit hA 49 rfl).trans f49);simp[relUpon,go_sem,hfun,h49];exact sO);refine Zc (eqv (.int .i64 ql)) (Zg _) ?_ ?_;(·intro V w' hx hf;(with_reducible refine relAt_ops ?_);intro A ρ hA hρ hcst hfun;obtain⟨f48,f50,_⟩:=hf;have h48:ρ (.tmp 48)=_:=(P0 hρ _).trans ((evalHit hA 48 rfl).trans f48);have h50:ρ (.tmp 50)=_:=(P0 hρ _).trans ((evalHit hA 50 rfl).trans f50);simp[relUpon,go_sem,hcst,↓IntWalk.iteOmega,Ext.refl,h48,h50,hqle,hqlt,hqlw,zSM,hSM0];try rfl);refine Zc (eqv (.int .i64 (A:Int))) (Zg _) ?_ ?_;(·intro V w' hx hf;(with_reducible refine relAt_ops ?_);intro A ρ hA hρ hcst hfun;obtain⟨f51,_⟩:=hf;have h51:ρ (.tmp 51)=_:=(P0 hρ _).trans ((evalHit hA 51 rfl).trans f51);simp[relUpon,go_sem,hcst,↓IntWalk.iteOmega,Ext.refl,h51,hAI,hAJ];try rfl);apply Za;(·intro V w' hx hf;(with_reducible refine relAt_ops ?_);intro A ρ hA hρ hcst hfun;have h6:ρ (.tmp 6)=.int .i64 (right:Int):=(P0 hρ _).trans (evalMiss hA 6 rfl);exact QO);apply Za;(·exact sM);refine Zc (eqv (.int .i64 pr)) (Zg _) ?_ ?_;(·intro V w' hx hf;(with_reducible refine relAt_ops ?_);intro A ρ hA hρ hcst hfun;obtain⟨f53,f54,_⟩:=hf;have h53:ρ (.tmp 53)=_:=(P0 hρ _).trans ((evalHit hA 53 rfl).trans f53);have h54:ρ (.tmp 54)=_:=(P0 hρ _).trans ((evalHit hA 54 rfl).trans f54);simp[relUpon,go_sem,hcst,↓IntWalk.iteOmega,Ext.refl,h53,h54,hpre,hprw];try rfl);apply Za;(·exact sN);refine Zc (eqv (.int .i64 SM)) (Zg _) ?_ ?_;(·intro V w' hx hf;(with_reducible refine relAt_ops ?_);intro A ρ hA hρ hcst hfun;obtain⟨f56,_⟩:=hf;have h56:ρ (.tmp 56)=_:=(P0 hρ _).trans ((evalHit hA 56 rfl).trans f56);simp[relUpon,go_sem,hfun,h56];exact sO);refine Zc (eqv (.int .i64 qr)) (Zg _) ?_ ?_;(·intro V w' hx hf;(with_reducible refine relAt_ops ?_);intro A ρ hA hρ hcst hfun;obtain⟨f55,f57,_⟩:=hf;have h55:ρ (.tmp 55)=_:=(P0 hρ _).trans ((evalHit hA 55 rfl).trans f55);have h57:ρ (.tmp 57)=_:=(P0 hρ _).trans ((evalHit hA 57 rfl).trans f57);simp[relUpon,go_sem,hcst,↓IntWalk.iteOmega,Ext.refl,h55,h57,hqre,hqrt,hqrw,zSM,hSM0];try rfl);refine Zc (eqv (.int .i64 (B:Int))) (Zg _) ?_ ?_;(·intro V w' hx hf;(with_reducible refine relAt_ops ?_);intro A ρ hA hρ hcst hfun;obtain⟨f58,_⟩:=hf;have h58:ρ (.tmp 58)=_:=(P0 hρ _).trans ((evalHit hA 58 rfl).trans f58);simp[relUpon,go_sem,hcst,↓IntWalk.iteOmega,Ext.refl,h58,hBI,hBJ];try rfl);refine Zc (rowB row) (Zh3 _) ?_ ?_;(·intro V w' hx hf;(with_reducible refine relAt_ops ?_);intro A ρ hA hρ hcst hfun;obtain⟨f45,f52,f59,_⟩:=hf;have h45:ρ (.tmp 45)=_:=(P0 hρ _).trans ((evalHit hA 45 rfl).trans f45);have h52:ρ (.tmp 52)=_:=(P0 hρ _).trans ((evalHit hA 52 rfl).trans f52);have h59:ρ (.tmp 59)=_:=(P0 hρ _).trans ((evalHit hA 59 rfl).trans f59);simp[relUpon,go_sem,hfun,h45,h52,h59];exact(HQT.out w' hx).mono fun e w'' ⟨v,he,ho,hy⟩=>⟨v,he,hy,ho.mono (O0 _)⟩);refine Zc (eqv (gotV got)) (Zg _) ?_ ?_;(·intro V w' hx hf;(with_reducible refine relAt_ops ?_);intro A ρ hA hρ hcst hfun;obtain⟨f60,_⟩:=hf;have h60:ρ (.tmp 60)=V 60:=(P0 hρ _).trans (evalHit hA 60 rfl);simp[relUpon,go_sem,hfun,h60];exact(HDC.out _ w' (Own.slk (show Own _ w' 0 (V 60) _ from f60))).mono fun e w'' ⟨he,hy⟩=>⟨_,he,hy,rfl⟩);apply Za;(·intro V w' hx hf;(with_reducible refine relAt_ops ?_);intro A ρ hA hρ hcst hfun;obtain⟨f61,_⟩:=hf;have h61:ρ (.tmp 61)=_:=(P0 hρ _).trans ((evalHit hA 61 rfl).trans f61);exact relUpon_move (hk:=by rw[h61];exact⟨Ext.refl _,rfl⟩));refine Zc (eqv (linV got.1.1 got.1.2.1 got.1.2.2)) (Zg _) ?_ ?_;(·exact sP);refine Zc (eqv (.int .i64 got.2)) (Zg _) ?_ ?_;(·exact sP);refine Zc (sK w3.heap.size) (ZfH _) ?_ ?_;(·intro V w' hx hf;(with_reducible refine relAt_ops ?_);intro A ρ hA hρ hcst hfun;simp[relUpon,go_sem,hcst,hfun];exact⟨(Ext.refl _).alloc _,_,rfl,hx.size,L2 _ _⟩);refine⟨?_,?_⟩;(·intro V wT hxT hf;obtain⟨g45,g46,g47,g48,g49,g50,g51,g52,g53,g54,g55,g56,g57,g58,g59,g60,g61,g44,g62,g63,g12,_⟩:=hf;obtain⟨bt,e12,hbt,hct⟩:=g12;have e12:V 12=_:=e12;have e62:V 62=_:=g62;have e63:V 63=_:=g63;have e44:V 44=_:=g44;unfold linV at e62;unfold gotV linV at e44;simp only[fillA,F1,O1,Act.put,V1,N1,L1];rw[e12,e62,e44,e63];have c0':=Zw hct (i:=0) rfl;have c1':=Zw hct (i:=1) rfl;have c2':=Zw hct (i:=2) rfl;have f0:=ZG (i:=0) hct;have f1:=ZG (i:=1) hct;have f2:=ZG (i:=2) hct;clear g45 g46 g47 g48 g49 g50 g51 g52 g53 g54 g55 g56 g57 g58 g59 g60 g61 g44 g62 g63;exact sQ);·intro V wT hxT hf;obtain⟨g45,g46,g47,g48,g49,g50,g51,g52,g53,g54,g55,g56,g57,g58,g59,g60,g61,g44,g62,g12,_⟩:=hf;obtain⟨bt,e12,hbt,hct⟩:=g12;have e12:V 12=_:=e12;have e62:V 62=_:=g62;have e44:V 44=_:=g44;unfold linV at e62;unfold gotV linV at e44;simp only[fillA,F1,O1,Act.put,V1,N1,L1];rw[e12,e62,e44];have c0':=Zw hct (i:=0) rfl;have c1':=Zw hct (i:=1) rfl;have c2':=Zw hct (i:=2) rfl;have f0:=ZG (i:=0) hct;have f1:=ZG (i:=1) hct;have f2:=ZG (i:=2) hct;clear g45 g46 g47 g48 g49 g50 g51 g52 g53 g54 g55 g56 g57 g58 g59 g60 g61 g44 g62;refine wpAny_ready (rs:=[19,21]) G0 L0 (TF rfl ?_ (TF rfl ?_ AllReady.nil));(·intro K hK;go_simp;refine hK _ _ ?_;clear hK K;exact sQ);·intro K hK;go_simp;refine hK _ _ ?_;clear hK K;refine R9 19 G0 rfl (fun K hK=> ?_);exact sR)
   case rest=>
   clear HQT HSW3 HDC HSU HMO HQL;obtain⟨bt,rfl,rfl,hbt,HCT,hx4⟩:=hcut;have HX14:=A0 (HX3.out.trans hx4);have HX4:=A0 (HX1.out.trans (HX2.out.trans HX14.out));have HB4:=A0 (Ze HB3.out hx4);obtain⟨⟨rk,rt,ra⟩,re⟩:=got;dsimp only at HTA HCT⊢;obtain⟨f0,f1,f2,f3,f4,f5,f6,f7⟩:=Zj HB4.out;obtain⟨d0,d1,d2,d3,d4,d5,d6,d7⟩:=Zj HCT.out;have hne:bt≠w.heap.size:=(by have h1:=(O3.1 HB3.out).1;omega);clear hx4 hbt HCT;by_cases hre0:re=0;(·subst hre0;have HF:Hid (res=some (rk,rt,ra)):=A0 (by rw[HR.out,HTA.out,D0 L0]);go_wp2_with fail;refine E1 (Zi results46 rfl (Zk f7) rfl) rfl ?_;rw[HF.out];exact⟨(rk,rt,ra),rfl,(fun _=>rfl),Zo HX4.out (K0 _) _ _ _⟩);·have zre:(re==0)=false:=N0.2 hre0;have HR9:Hid (res=Ln.tryGo left right SM (ls.drop (j+1))):=A0 iQ;go_wp2_with fail;go_roundw;(case rel=>exact⟨j+1,by omega,by go_num,HR9,f7,HX14⟩);case measure=>exact C1
  ·have zme:(me !=0)=true:=(by simp[hme]);have zmd:decide (me=0)=false:=X0 hme;have HR9:Hid (res=Ln.tryGo left right SM (ls.drop (j+1))):=A0 iR;go_wp2_with fail;go_roundw;(case rel=>exact⟨j+1,by omega,by go_num,HR9,HB3,HX3⟩);case measure=>exact C1
 ·obtain rfl:k=j:=B0;have HF:Hid (res=none):=A0 iS;obtain⟨f0,f1,f2,f3,f4,f5,f6,f7⟩:=Zj HB.out;go_wp2_with fail;refine E1 (Zi results46 rfl (Zk f7) rfl) rfl ?_;rw[HF.out];exact RdR.none (Zo (HX1.out.trans (HX2.out.trans HX.out)) (K0 _) _ _ _)
theorem Ln.dark_rev (m:List Bool):Ln.dark m.reverse=Ln.dark m:=by unfold Ln.dark;rw[List.any_reverse]
theorem ZlA {m:List Bool} {i j:Nat} {x:Bool} (hij:i+j+1=m.length) (hx:m[i]? =some x):m.reverse.take (j+1)=m.reverse.take j++[x]:=by rw[N6,YZ B0,show m.length-1-j=i by omega,hx];rfl
theorem sT (v:Value) (m:List Bool) (w:World) (hv:SlK w v (m.map encT)) (hm:m.length<=1000000):
 Calls prog 16 #[v] w fun e w'=>e=.returned (gotV (Ln.read m))∧Ext w w':=by
 have HCT:=A0 (fun w' (h:Ext w w')=>nM v m w' (hv.ext h).1 hm)
 have HD:=A0 (Ln.read.eq_1 m)
 generalize Ln.read m=res at*
 obtain⟨ml,hml⟩:∃ml,ml=m.length:=⟨_,rfl⟩
 have HML:=A0 hml
 obtain⟨-,a,c,hvf,-⟩:=id hv
 subst hvf
 have HV:=A0 hv
 rw[J0]at HCT HV⊢
 rw[<-hml]at HCT HV HD hm⊢
 clear hv hml
 by_cases h4:65536<ml
 ·have h4I:65536<(ml:Int):=B0;rw[D0 h4]at HD;clear h4 HCT;go_enter func16,ntmps16;exact sU
 have h4I:¬65536<(ml:Int):=by omega
 rw[C0 h4]at HD
 cases hdb:Ln.dark m with
 |false=>rw[hdb]at HCT HD;rw[D0 rfl]at HD;clear h4 hdb;go_enter func16,ntmps16;go_wp2_with fail;refine(HCT.out _ Xf).mono ?_;rintro e w1 ⟨rfl,rfl⟩;exact sU
 |true=>
 rw[hdb]at HCT HD
 rw[C0 I0]at HD
 have hm6:m.length<=65536:=by rw[<-HML.out];omega
 have HRA:=A0 (fun w' (h:Ext w w')=>sL (.slice a ml c) m w' (HV.out.ext h) hm6 hdb)
 have HRB:=A0 (fun v w' (h:SlK w' v (m.reverse.map encT))=>sL v m.reverse w' h (by rw[D4];exact hm6) (by rw[Ln.dark_rev];exact hdb))
 obtain⟨ra,hra⟩:∃r,r=Ln.readD m:=⟨_,rfl⟩
 rw[<-hra]at HRA HD
 obtain⟨rb,hrb⟩:∃r,r=Ln.readD m.reverse:=⟨_,rfl⟩
 rw[<-hrb]at HRB HD
 have hml6:ml<=65536:=by omega
 clear h4 hdb hra hrb hm6
 obtain⟨w0,hw0⟩:∃w0,w0=w.alloc (.cells #[.int .i64 0,.string ⟨#[]⟩,.string ⟨#[]⟩] 33):=⟨_,rfl⟩
 have HX0:Hid (Ext w w0):=A0 AQ
 have HB0:Hid (w0.heap[w.heap.size]? =some (.cells #[.int .i64 0,.string ⟨#[]⟩,.string ⟨#[]⟩] 33 (0,0))):=A0 AR
 have HW0:=A0 hw0
 clear hw0
 go_enter func16,ntmps16
 go_wp2_with fail
 rw[<-HW0.out]
 refine(HCT.out _ HX0.out).mono ?_
 rintro e w0' ⟨rfl,rfl⟩
 go_wp2_with fail
 refine(HRA.out _ HX0.out).mono ?_
 rintro e w1 ⟨⟨xk,xt,xa⟩,rfl,hx,hx1⟩
 unfold linV
 dsimp only at hx⊢
 have HX1:=A0 (HX0.out.trans hx1)
 have HB1:=A0 (Ze HB0.out hx1)
 clear hx1 HCT HRA
 cases ra with
 |some p=>have hp:some p=some (xk,xt,xa):=hx rfl;cases hp;dsimp only[Option.isSome]at HD⊢;have HB2:=A0 (Ze HB1.out ((Ext.refl w1).alloc (.cells #[.int .i64 xk,.string (Ea.bS xt),.string (Ea.bS xa)] 33)));obtain⟨f0,f1,f2,f3,f4,f5,f6,f7⟩:=Zj HB2.out;clear hx;go_wp2_with fail;refine E1 (Zi results16 rfl (Zk f7) rfl) rfl ?_;rw[HD.out];exact⟨rfl,Zo (HX1.out.alloc _) (K0 _) _ _ _⟩
 |none=>
 dsimp only[Option.isSome]at HD⊢
 clear hx
 go_wp2_with fail
 obtain⟨w2,hw2⟩:∃w2,w2=w1.alloc (.cells #[.int .i64 xk,.string (Ea.bS xt),.string (Ea.bS xa)] 33):=⟨_,rfl⟩
 rw[<-hw2]
 have HX2:Hid (Ext w w2):=A0 (by rw[hw2];exact HX1.out.alloc _)
 have HB2:Hid (w2.heap[w.heap.size]? =some (.cells #[.int .i64 0,.string ⟨#[]⟩,.string ⟨#[]⟩] 33 (0,0))):=A0 (by rw[hw2];exact Ze HB1.out ((Ext.refl w1).alloc _))
 have HC2:Hid (w2.heap[w1.heap.size]? =some (.cells #[.int .i64 xk,.string (Ea.bS xt),.string (Ea.bS xa)] 33 (0,0))):=A0 (by rw[hw2];exact L2 _ _)
 have hne:w1.heap.size≠w.heap.size:=by have h1:=(O3.1 HB1.out).1;omega
 have hw1:w.heap.size<=w1.heap.size:=HX1.out.size
 clear hw2 HX1 HB1 HX0 HB0 HW0
 go_loopw [6,7] (fun u t wr=>∃(j:Nat) (q:Int),t=.int .i64 q∧-1<=q∧q<=65536∧Hid (q+(j:Int)+1=(ml:Int))∧Hid (Own 4 wr w2.heap.size u ((m.reverse.take j).map encT))∧Hid (Ext w2 wr)) (fun _ t _=>(intOf t+1).toNat)
 case atStart=>exact⟨0,(ml:Int)-1,rfl,by omega,by omega,A0 B0,A0 (Own.nil _ _ _),A0 (Ext.refl _)⟩
 case round=>
 obtain⟨j,q,rfl,hq0,hq1,HQ,HO,HX⟩:=hrel
 by_cases hq:0<=q
 ·obtain⟨i,rfl⟩:∃i:Nat,q=(i:Int):=⟨q.toNat,by omega⟩;have hij:i+j+1=m.length:=(by have:=HQ.out;rw[<-HML.out];omega);obtain⟨x,hxi⟩:∃x,m[i]? =some x:=⟨_,M0 B0⟩;have HTN:=A0 (ZlA hij hxi);have hown:=HO.out;have hsz:=HX.out.size;obtain⟨b,o,ha,hb,hc⟩:=HV.out.1.bool_at (HX2.out.trans HX.out) hxi;subst ha;have hrl:(m.reverse.take j).length<=65536:=(by rw[M1,D4,<-HML.out];omega);have hiI:(i:Int)<(ml:Int):=M7;clear hxi hij;go_wp2_with (at_builtin;refine ZU rfl _ _ rfl w2.heap.size _ (m.reverse.take j) rfl (hown.alloc _) _ x rfl ?c1 ?c2 ?c3 ?_);(case c1=>exact K7);(case c2=>omega);(case c3=>exact Y2);intro v' w5 hown5 hg5;have HX5:=A0 ((HX.out.alloc _).ofGrown hg5 hown.low);have HO5:Hid (Own 4 w5 w2.heap.size v' ((m.reverse.take (j+1)).map encT)):=A0 (by rw[HTN.out];first|exact hown5|(rw[E3];exact hown5)|(rw[E3,I3];exact hown5)|(rw[E3,I3,List.map_reverse];exact hown5));clear hown hown5 hg5 hsz HO HX HTN;go_wp2_with fail;go_roundw;(case rel=>exact⟨j+1,(i:Int)-1,rfl,by omega,by omega,A0 (by have:=HQ.out;omega),HO5,HX5⟩);case measure=>exact C1
 obtain rfl:q= -1:=by omega
 have HK:Hid (SlK wr u6 (m.reverse.map encT)):=A0 (by have h:=HO.out.slk;rw[X1 (by rw[D4,<-HML.out];have:=HQ.out;omega)]at h;exact h)
 have HB3:=A0 (Ze HB2.out HX.out)
 have HC3:=A0 (Ze HC2.out HX.out)
 have HX3:=A0 (HX2.out.trans HX.out)
 clear HO HX HB2 HC2 HX2 hq hq0 hq1
 go_wp2_with fail
 refine(HRB.out u6 wr HK.out).mono ?_
 rintro e w4 ⟨⟨yk,yt,ya⟩,rfl,hy,hx4⟩
 unfold linV
 dsimp only at hy⊢
 have HX4:=A0 (HX3.out.trans hx4)
 have HB4:=A0 (Ze HB3.out hx4)
 have HC4:=A0 (Ze HC3.out hx4)
 obtain⟨f0,f1,f2,f3,f4,f5,f6,f7⟩:=Zj HB4.out
 obtain⟨d0,d1,d2,d3,d4,d5,d6,d7⟩:=Zj HC4.out
 clear hx4 HRB
 cases rb with
 |some p=>have hp:some p=some (yk,yt,ya):=hy rfl;cases hp;exact sV
 |none=>exact sV
end
end Go.Proofs.YtbngggoccndefaaGreatDoor
