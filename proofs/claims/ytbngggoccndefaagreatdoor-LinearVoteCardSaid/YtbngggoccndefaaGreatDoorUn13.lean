/-
  Laid.
-/
import Derived.Test.YtbngggoccndefaaGreatDoorUn12
set_option maxHeartbeats 16000000
set_option maxRecDepth 100000
set_option linter.all false
section
namespace Go.Proofs.YtbngggoccndefaaGreatDoor
open Go.Proofs.Tryz
open Go.RowKit
theorem Zji (v:Value) (m:List Bool) (w:World) (hv:SlK w v (m.map encT)) (hm:m.length=67):
 Calls prog 220 #[v] w fun e w'=>e=.returned (ZZ (Ea.rdSym 67 m))∧Ext w w':=by
 obtain⟨res,hres⟩:∃res,Ea.rdSym 67 m=res:=⟨_,rfl⟩
 rw[hres]
 have HX:=A0 hres
 unfold Ea.rdSym at HX
 rw[show(Ea.stp 67).length=3 from rfl,show Ea.stp 67=Ea.gd from rfl,show(67-3:Nat)=64 from rfl,show Ea.kindOf 67=2 from rfl,show Ea.rdK 67 m=Ea.rd8 m from rfl]at HX
 obtain⟨p1,hp1,hq1⟩:=WQ hv 3 A3
 obtain⟨p2,hp2,hq2⟩:=PM hv 64 A3
 rw[<-I3]at hq1
 rw[<-R3]at hq2
 have HE1:=A0 (R7 (md:=Ea.gd) hq1 X3 I0)
 have HE2:=A0 (R7 (md:=Ea.gd) hq2 C8 I0)
 have HMG:=A0 (fun w=>ZB ⟨#[49,48,49]⟩ Ea.gd rfl I0 w)
 have HMS:=A0 (fun w=>ZB ⟨#[49,48,49]⟩ Ea.gd rfl I0 w)
 obtain⟨p3,hp3,hq3⟩:=ZV hv 31 36 B0 A3
 rw[<-R3,<-I3]at hq3
 have HE3:=A0 (R7 (md:=Ea.md) hq3 X3 I0)
 have HMM:=A0 (fun w=>ZB ⟨#[48,49,48,49,48]⟩ Ea.md rfl I0 w)
 have HRL:=A0 (fun w' (h:Ext w w')=>TH v m 3 4 0 0 0 0 false w' (hv.ext h) B0 B0 B0 ⟨rfl,rfl⟩ B0 B0)
 have HRR:=A0 (fun w' (h:Ext w w')=>TH v m 36 4 0 2 2 2 false w' (hv.ext h) B0 B0 B0 ⟨rfl,rfl⟩ B0 B0)
 obtain⟨_,a,c,rfl,hc⟩:=hv
 rw[J0]at hp1 hp2 hp3 HRL HRR⊢
 rw[show((3:Nat):Int)=3 from rfl]at hp1 HRL
 rw[show((64:Nat):Int)=64 from rfl]at hp2
 rw[show((31:Nat):Int)=31 from rfl,show((36:Nat):Int)=36 from rfl]at hp3
 rw[show((4:Nat):Int)=4 from rfl,show((0:Nat):Int)=0 from rfl]at HRL
 rw[show((36:Nat):Int)=36 from rfl,show((4:Nat):Int)=4 from rfl,show((2:Nat):Int)=2 from rfl,show((0:Nat):Int)=0 from rfl]at HRR
 have b51:((m.length:Int)==51)=false:=by rw[hm];rfl
 have b95:((m.length:Int)==95)=false:=by rw[hm];rfl
 have b67:((m.length:Int)==67)=true:=by rw[hm];rfl
 have e92:(m.length:Int)-3=64:=by omega
 have w92:IntKind.i64.wrap (64:Int)=64:=T3 _ B0
 have HLN:=A0 hm
 clear hq1 hq2 hq3 hres hc hm
 have HW:Hid (Ext w w):=A0 (Ext.refl w)
 by_cases g1:m.take 3=Ea.gd
 ·rw[C0 (fun h=>h g1)]at HX;rw[V0 g1]at HE1;by_cases g2:m.drop 64=Ea.gd
  ·rw[C0 (fun h=>h g2)]at HX
   rw[V0 g2]at HE2
   clear g1 g2
   unfold Ea.rd8 at HX
   obtain⟨lo,hlo⟩:∃lo,Ea.rcg false 0 0 4 (m.drop 3)=lo:=⟨_,rfl⟩
   obtain⟨ro,hro⟩:∃ro,Ea.rcg false 2 0 4 (m.drop 36)=ro:=⟨_,rfl⟩
   have HLF:=A0 (fun l u (e:lo=some (l,u))=>WW B0 (hlo.trans e))
   have HRF:=A0 (fun l u (e:ro=some (l,u))=>WW B0 (hro.trans e))
   rw[hlo]at HX HRL
   rw[hro]at HX HRR
   obtain⟨L,U,hLU,hLe,hLs,hL1,hL0⟩:=WX lo 4 B0 (fun l u e=>(HLF.out l u e).1)
   obtain⟨R,U2,hRU,hRe,hRs,hR1,_⟩:=WX ro 4 B0 (fun l u e=>(HRF.out l u e).1)
   rw[hLU]at HRL
   rw[hRU]at HRR
   have HL1:=A0 hL1
   have HR1:=A0 hR1
   clear hlo hro hLU hRU hL1 hL0 hR1
   obtain⟨b3,hb3⟩:∃b,decide ((m.drop 31).take 5=Ea.md)=b:=⟨_,rfl⟩
   rw[show(36-31:Nat)=5 from rfl,hb3]at HE3
   have HB3:=A0 hb3
   clear hb3
   have HN:Hid (b3=false∨lo.isNone=true∨ro.isNone=true->res=((0,[]),18)):=A0 (fun h=>by
    rw[<-HX.out]
    cases lo with
    |none=>rfl
    |some q=>cases ro with
     |none=>rfl
     |some r=>rcases h with h|h|h;(·exact lL);(·cases h);·cases h)
   cases b3 with
   |false=>have HG:=A0 (HN.out (.inl rfl));clear HN HX;go_enter func220,ntmps220;go_wp2_with fail;refine Zh 4 1 rfl [25,26,27,28] [[],[0],[],[1,2]] G0 G0 ?_;apply Za;(·exact Qa);apply Za;(·exact Qt);refine Zc (fun v w=>Own 4 w 0 v (Ea.gd.map encT)) (fun _ _ _ h hx=>h.ext hx) ?_ ?_;(·exact Qr);refine Zc (eqv (.bool true)) (Zg _) ?_ ?_;(·exact Qg);intro V wT hxT hf;obtain⟨g25,g26,g27,g28,_⟩:=hf;simp only[fillA,F1,O1,Act.put,V1,N1,L1];have q28:V 28=_:=g28;rw[q28];have HW2:=A0 (HW.out.trans hxT);refine Zb 4 G0 rfl (fun K hK=> ?_);go_simp;refine hK _ _ ?_;clear hK K;refine⟨rfl,?_⟩;clear HW;have HW:=HW2;clear HW2;go_wp2_with fail;refine Zh 9 1 rfl [30,31,32,33,34,35,36,37,38] [[],[],[],[2],[1,3],[0,4],[],[6],[5,7]] G0 G0 ?_;apply Za;(·exact Qa);apply Za;(·exact Qw);apply Za;(·exact Qj);apply Za;(·exact Qy);apply Za;(·exact Ql);apply Za;(·exact Qm);apply Za;(·exact Qj);refine Zc (fun v w=>Own 4 w 0 v (Ea.gd.map encT)) (fun _ _ _ h hx=>h.ext hx) ?_ ?_;(·exact Qo);refine Zc (eqv (.bool true)) (Zg _) ?_ ?_;(·exact Qi);intro V wT hxT hf;obtain⟨g30,g31,g32,g33,g34,g35,g36,g37,g38,_⟩:=hf;simp only[fillA,F1,O1,Act.put,V1,N1,L1];have q38:V 38=_:=g38;rw[q38];have HW2:=A0 (HW.out.trans hxT);refine Zb 9 G0 rfl (fun K hK=> ?_);go_simp;refine hK _ _ ?_;clear hK K;refine⟨rfl,?_⟩;clear HW;have HW:=HW2;clear HW2;go_wp2_with fail;refine(HRL.out _ HW.out).mono ?_;rintro e w5 ⟨rfl,hx5⟩;have HW2:=A0 (HW.out.trans hx5);clear HW hx5;have HW:=HW2;clear HW2;go_wp2_with fail;refine(HRR.out _ HW.out).mono ?_;rintro e w5 ⟨rfl,hx5⟩;have HW2:=A0 (HW.out.trans hx5);clear HW hx5;have HW:=HW2;clear HW2;go_wp2_with fail;refine Zh 4 9 rfl [113,114,115,116] [[],[0],[],[1,2]] G0 G0 ?_;apply Za;(·exact Qa);apply Za;(·exact JC);refine Zc (fun v w=>Own 4 w 0 v (Ea.md.map encT)) (fun _ _ _ h hx=>h.ext hx) ?_ ?_;(·exact QN);refine Zc (eqv (.bool false)) (Zg _) ?_ ?_;(·exact Q1);intro V wT hxT hf;obtain⟨g113,g114,g115,g116,_⟩:=hf;simp only[fillA,F1,O1,Act.put,V1,N1,L1];have q116:V 116=_:=g116;rw[q116];have HW2:=A0 (HW.out.trans hxT);refine Zb 4 G0 rfl (fun K hK=> ?_);go_simp;refine hK _ _ ?_;clear hK K;refine Zb 5 G0 rfl (fun K hK=> ?_);go_simp;refine hK _ _ ?_;clear hK K;refine Zb 6 G0 rfl (fun K hK=> ?_);go_simp;refine hK _ _ ?_;clear hK K;refine Zb 7 G0 rfl (fun K hK=> ?_);go_simp;refine hK _ _ ?_;clear hK K;refine Zb 8 G0 rfl (fun K hK=> ?_);go_simp;refine hK _ _ ?_;clear hK K;refine Zb 9 G0 rfl (fun K hK=> ?_);go_simp;refine hK _ _ ?_;clear hK K;refine Zb 10 G0 rfl (fun K hK=> ?_);go_simp;refine hK _ _ ?_;clear hK K;refine Zb 11 G0 rfl (fun K hK=> ?_);go_simp;refine hK _ _ ?_;clear hK K;refine Zb 12 G0 rfl (fun K hK=> ?_);go_simp;refine hK _ _ ?_;clear hK K;refine⟨rfl,?_⟩;clear HW;exact lQ
   |true=>
    cases hln:lo.isNone with
    |true=>rw[hln]at hLe;have HG:=A0 (HN.out (.inr (.inl hln)));clear HN HX hln;exact Qf
    |false=>
     rw[hln]at hLe
     cases hrn:ro.isNone with
     |true=>rw[hrn]at hRe;have HG:=A0 (HN.out (.inr (.inr hrn)));clear HN HX hrn hln;exact Qf
     |false=>rw[hrn]at hRe;obtain⟨q,rfl⟩:=JB.1 (show lo.isSome=true by cases lo with|none=>cases hln|some q=>rfl);obtain⟨q2,rfl⟩:=JB.1 (show ro.isSome=true by cases ro with|none=>cases hrn|some q=>rfl);obtain⟨l,u⟩:=q;obtain⟨r,u2⟩:=q2;obtain⟨hLl,hUl⟩:=HL1.out l u rfl;obtain⟨hRl,_⟩:=HR1.out r u2 rfl;obtain⟨f1,f2,f3,f4⟩:=HLF.out l u rfl;obtain⟨k1,k2,k3,k4⟩:=HRF.out r u2 rfl;have HX2:=A0 HX.out;dsimp only at HX2;rw[D0 (G6 HB3.out)]at HX2;clear HX HN hln hrn HL1 HR1 HLF HRF;have HTX:=A0 (And.intro hLl (And.intro hRl (And.intro f1 k1)));clear hUl hLl hRl f1 f2 f3 f4 k1 k2 k3 k4;obtain⟨T,hT⟩:∃T,L++R=T:=⟨_,rfl⟩;have HTL:Hid (T.data.toList=l++r):=A0 (by rw[<-hT];simp only[Y3,F4,HTX.out.1,HTX.out.2.1]);have hTz:T.size=8:=lN;obtain⟨tl,htl⟩:∃tl,l++r=tl:=⟨_,rfl⟩;dsimp only at HX2;rw[htl]at HX2 HTL;have HT:=A0 hT;clear htl HTX hT;have HFU:=A0 (fun w=>BK 2 T B0 w);rw[HTL.out]at HFU;obtain⟨fe,hfe⟩:∃fe,Ea.full 2 tl=fe:=⟨_,rfl⟩;rw[hfe]at HFU HX2;have hTl:8<=T.size:=B0;have hTu:T.size<=8:=B0;clear hfe hTz;by_cases hf0:fe=0;(·rw[C0 (fun h=>h hf0)]at HX2;have hfb:(fe !=0)=false:=(by rw[hf0];rfl);clear hf0;have HG:Hid (res=((2,tl),0)):=A0 lR;have HE:Hid (T=Ea.bS tl):=A0 AY;clear HX2;go_enter func220,ntmps220;go_wp2_with fail;refine Zh 4 1 rfl [25,26,27,28] [[],[0],[],[1,2]] G0 G0 ?_;apply Za;(·exact Qa);apply Za;(·exact Qt);refine Zc (fun v w=>Own 4 w 0 v (Ea.gd.map encT)) (fun _ _ _ h hx=>h.ext hx) ?_ ?_;(·exact Qr);refine Zc (eqv (.bool true)) (Zg _) ?_ ?_;(·exact Qg);intro V wT hxT hf;obtain⟨g25,g26,g27,g28,_⟩:=hf;simp only[fillA,F1,O1,Act.put,V1,N1,L1];have q28:V 28=_:=g28;rw[q28];have HW2:=A0 (HW.out.trans hxT);refine Zb 4 G0 rfl (fun K hK=> ?_);go_simp;refine hK _ _ ?_;clear hK K;refine⟨rfl,?_⟩;clear HW;have HW:=HW2;clear HW2;go_wp2_with fail;refine Zh 9 1 rfl [30,31,32,33,34,35,36,37,38] [[],[],[],[2],[1,3],[0,4],[],[6],[5,7]] G0 G0 ?_;apply Za;(·exact Qa);apply Za;(·exact Qw);apply Za;(·exact Qj);apply Za;(·exact Qy);apply Za;(·exact Ql);apply Za;(·exact Qm);apply Za;(·exact Qj);refine Zc (fun v w=>Own 4 w 0 v (Ea.gd.map encT)) (fun _ _ _ h hx=>h.ext hx) ?_ ?_;(·exact Qo);refine Zc (eqv (.bool true)) (Zg _) ?_ ?_;(·exact Qi);intro V wT hxT hf;obtain⟨g30,g31,g32,g33,g34,g35,g36,g37,g38,_⟩:=hf;simp only[fillA,F1,O1,Act.put,V1,N1,L1];have q38:V 38=_:=g38;rw[q38];have HW2:=A0 (HW.out.trans hxT);refine Zb 9 G0 rfl (fun K hK=> ?_);go_simp;refine hK _ _ ?_;clear hK K;refine⟨rfl,?_⟩;clear HW;have HW:=HW2;clear HW2;go_wp2_with fail;refine(HRL.out _ HW.out).mono ?_;rintro e w5 ⟨rfl,hx5⟩;have HW2:=A0 (HW.out.trans hx5);clear HW hx5;have HW:=HW2;clear HW2;go_wp2_with fail;refine(HRR.out _ HW.out).mono ?_;rintro e w5 ⟨rfl,hx5⟩;have HW2:=A0 (HW.out.trans hx5);clear HW hx5;have HW:=HW2;clear HW2;go_wp2_with fail;refine Zh 4 9 rfl [113,114,115,116] [[],[0],[],[1,2]] G0 G0 ?_;apply Za;(·exact Qa);apply Za;(·exact JC);refine Zc (fun v w=>Own 4 w 0 v (Ea.md.map encT)) (fun _ _ _ h hx=>h.ext hx) ?_ ?_;(·exact QN);refine Zc (eqv (.bool true)) (Zg _) ?_ ?_;(·exact Q1);intro V wT hxT hf;obtain⟨g113,g114,g115,g116,_⟩:=hf;simp only[fillA,F1,O1,Act.put,V1,N1,L1];have q116:V 116=_:=g116;rw[q116];have HW2:=A0 (HW.out.trans hxT);refine Zb 4 G0 rfl (fun K hK=> ?_);go_simp;refine hK _ _ ?_;clear hK K;refine Zb 5 G0 rfl (fun K hK=> ?_);go_simp;refine hK _ _ ?_;clear hK K;refine Zb 6 G0 rfl (fun K hK=> ?_);go_simp;refine hK _ _ ?_;clear hK K;refine Zb 7 G0 rfl (fun K hK=> ?_);go_simp;refine hK _ _ ?_;clear hK K;refine Zb 8 G0 rfl (fun K hK=> ?_);go_simp;refine hK _ _ ?_;clear hK K;refine Zb 9 G0 rfl (fun K hK=> ?_);go_simp;refine hK _ _ ?_;clear hK K;refine Zb 10 G0 rfl (fun K hK=> ?_);go_simp;refine hK _ _ ?_;clear hK K;refine Zb 11 G0 rfl (fun K hK=> ?_);go_simp;refine hK _ _ ?_;clear hK K;refine Zb 12 G0 rfl (fun K hK=> ?_);go_simp;refine hK _ _ ?_;clear hK K;refine⟨rfl,?_⟩;clear HW;exact lS);·rw[D0 hf0]at HX2;have HG:Hid (res=((0,[]),8)):=A0 (HX2.out.symm);have hfb:(fe !=0)=true:=C3.2 hf0;clear hf0 HX2;go_enter func220,ntmps220;go_wp2_with fail;refine Zh 4 1 rfl [25,26,27,28] [[],[0],[],[1,2]] G0 G0 ?_;apply Za;(·exact Qa);apply Za;(·exact Qt);refine Zc (fun v w=>Own 4 w 0 v (Ea.gd.map encT)) (fun _ _ _ h hx=>h.ext hx) ?_ ?_;(·exact Qr);refine Zc (eqv (.bool true)) (Zg _) ?_ ?_;(·exact Qg);intro V wT hxT hf;obtain⟨g25,g26,g27,g28,_⟩:=hf;simp only[fillA,F1,O1,Act.put,V1,N1,L1];have q28:V 28=_:=g28;rw[q28];have HW2:=A0 (HW.out.trans hxT);refine Zb 4 G0 rfl (fun K hK=> ?_);go_simp;refine hK _ _ ?_;clear hK K;refine⟨rfl,?_⟩;clear HW;have HW:=HW2;clear HW2;go_wp2_with fail;refine Zh 9 1 rfl [30,31,32,33,34,35,36,37,38] [[],[],[],[2],[1,3],[0,4],[],[6],[5,7]] G0 G0 ?_;apply Za;(·exact Qa);apply Za;(·exact Qw);apply Za;(·exact Qj);apply Za;(·exact Qy);apply Za;(·exact Ql);apply Za;(·exact Qm);apply Za;(·exact Qj);refine Zc (fun v w=>Own 4 w 0 v (Ea.gd.map encT)) (fun _ _ _ h hx=>h.ext hx) ?_ ?_;(·exact Qo);refine Zc (eqv (.bool true)) (Zg _) ?_ ?_;(·exact Qi);intro V wT hxT hf;obtain⟨g30,g31,g32,g33,g34,g35,g36,g37,g38,_⟩:=hf;simp only[fillA,F1,O1,Act.put,V1,N1,L1];have q38:V 38=_:=g38;rw[q38];have HW2:=A0 (HW.out.trans hxT);refine Zb 9 G0 rfl (fun K hK=> ?_);go_simp;refine hK _ _ ?_;clear hK K;refine⟨rfl,?_⟩;clear HW;have HW:=HW2;clear HW2;go_wp2_with fail;refine(HRL.out _ HW.out).mono ?_;rintro e w5 ⟨rfl,hx5⟩;have HW2:=A0 (HW.out.trans hx5);clear HW hx5;have HW:=HW2;clear HW2;go_wp2_with fail;refine(HRR.out _ HW.out).mono ?_;rintro e w5 ⟨rfl,hx5⟩;have HW2:=A0 (HW.out.trans hx5);clear HW hx5;have HW:=HW2;clear HW2;go_wp2_with fail;refine Zh 4 9 rfl [113,114,115,116] [[],[0],[],[1,2]] G0 G0 ?_;apply Za;(·exact Qa);apply Za;(·exact JC);refine Zc (fun v w=>Own 4 w 0 v (Ea.md.map encT)) (fun _ _ _ h hx=>h.ext hx) ?_ ?_;(·exact QN);refine Zc (eqv (.bool true)) (Zg _) ?_ ?_;(·exact Q1);intro V wT hxT hf;obtain⟨g113,g114,g115,g116,_⟩:=hf;simp only[fillA,F1,O1,Act.put,V1,N1,L1];have q116:V 116=_:=g116;rw[q116];have HW2:=A0 (HW.out.trans hxT);refine Zb 4 G0 rfl (fun K hK=> ?_);go_simp;refine hK _ _ ?_;clear hK K;refine Zb 5 G0 rfl (fun K hK=> ?_);go_simp;refine hK _ _ ?_;clear hK K;refine Zb 6 G0 rfl (fun K hK=> ?_);go_simp;refine hK _ _ ?_;clear hK K;refine Zb 7 G0 rfl (fun K hK=> ?_);go_simp;refine hK _ _ ?_;clear hK K;refine Zb 8 G0 rfl (fun K hK=> ?_);go_simp;refine hK _ _ ?_;clear hK K;refine Zb 9 G0 rfl (fun K hK=> ?_);go_simp;refine hK _ _ ?_;clear hK K;refine Zb 10 G0 rfl (fun K hK=> ?_);go_simp;refine hK _ _ ?_;clear hK K;refine Zb 11 G0 rfl (fun K hK=> ?_);go_simp;refine hK _ _ ?_;clear hK K;refine Zb 12 G0 rfl (fun K hK=> ?_);go_simp;refine hK _ _ ?_;clear hK K;refine⟨rfl,?_⟩;clear HW;exact lT
  ·exact Qn
 ·exact Qx
end Go.Proofs.YtbngggoccndefaaGreatDoor
namespace Go.Proofs.YtbngggoccndefaaGreatDoor
open Go.Proofs.Tryz
open Go.RowKit
theorem Zjh (v:Value) (m:List Bool) (w:World) (hv:SlK w v (m.map encT)) (hm:m.length=51):
 Calls prog 220 #[v] w fun e w'=>e=.returned (ZZ (Ea.rdSym 51 m))∧Ext w w':=by
 obtain⟨res,hres⟩:∃res,Ea.rdSym 51 m=res:=⟨_,rfl⟩
 rw[hres]
 have HX:=A0 hres
 unfold Ea.rdSym at HX
 rw[show(Ea.stp 51).length=6 from rfl,show Ea.stp 51=Ea.eE from rfl,show(51-6:Nat)=45 from rfl,show Ea.kindOf 51=4 from rfl,show Ea.rdK 51 m=Ea.rdE m from rfl]at HX
 obtain⟨p1,hp1,hq1⟩:=WQ hv 3 A3
 obtain⟨p2,hp2,hq2⟩:=PM hv 45 A3
 rw[<-I3]at hq1
 rw[<-R3]at hq2
 have HE1:=A0 (R7 (md:=Ea.gd) hq1 X3 I0)
 have HE2:=A0 (R7 (md:=Ea.eE) hq2 C8 I0)
 have HMG:=A0 (fun w=>ZB ⟨#[49,48,49]⟩ Ea.gd rfl I0 w)
 have HMS:=A0 (fun w=>ZB ⟨#[48,49,48,49,48,49]⟩ Ea.eE rfl I0 w)
 have HRL:=A0 (fun w' (h:Ext w w')=>TH v m 3 6 0 0 0 1 true w' (hv.ext h) B0 B0 B0 ⟨rfl,rfl⟩ B0 B0)
 obtain⟨_,a,c,rfl,hc⟩:=hv
 rw[J0]at hp1 hp2 HRL⊢
 rw[show((3:Nat):Int)=3 from rfl]at hp1 HRL
 rw[show((45:Nat):Int)=45 from rfl]at hp2
 rw[show((6:Nat):Int)=6 from rfl,show((1:Nat):Int)=1 from rfl,show((0:Nat):Int)=0 from rfl]at HRL
 have b51:((m.length:Int)==51)=true:=by rw[hm];rfl
 have b95:((m.length:Int)==95)=false:=by rw[hm];rfl
 have b67:((m.length:Int)==67)=false:=by rw[hm];rfl
 have e92:(m.length:Int)-6=45:=by omega
 have w92:IntKind.i64.wrap (45:Int)=45:=T3 _ B0
 have HLN:=A0 hm
 clear hq1 hq2 hres hc hm
 have HW:Hid (Ext w w):=A0 (Ext.refl w)
 by_cases g1:m.take 3=Ea.gd
 ·rw[C0 (fun h=>h g1)]at HX;rw[V0 g1]at HE1;by_cases g2:m.drop 45=Ea.eE
  ·rw[C0 (fun h=>h g2)]at HX
   rw[V0 g2]at HE2
   clear g1 g2
   unfold Ea.rdE at HX
   obtain⟨lo,hlo⟩:∃lo,Ea.rcg true 0 0 6 (m.drop 3)=lo:=⟨_,rfl⟩
   have HLF:=A0 (fun l u (e:lo=some (l,u))=>WW B0 (hlo.trans e))
   rw[hlo]at HX HRL
   obtain⟨L,U,hLU,hLe,hLs,hL1,hL0⟩:=WX lo 6 B0 (fun l u e=>(HLF.out l u e).1)
   rw[hLU]at HRL
   have HL1:=A0 hL1
   have HL0:=A0 hL0
   clear hlo hLU hL1 hL0
   cases lo with
   |none=>have HFE:=A0 (fun w=>dU U [] (HL0.out rfl) L0 w);rw[show Ea.findE []=none from by decide,show noE none=.tuple #[.int .i64 (-1),.int .i64 (-1)]from rfl]at HFE;rw[show(none:Option (List UInt8×List Nat)).isNone=true from rfl]at hLe;have HG:Hid (res=((0,[]),18)):=A0 (by rw[<-HX.out]);clear HX;exact Qk
   |some q=>
    obtain⟨l,u⟩:=q
    obtain⟨hLl,hUl⟩:=HL1.out l u rfl
    obtain⟨f1,f2,f3,f4⟩:=HLF.out l u rfl
    rw[show(some (l,u):Option (List UInt8×List Nat)).isNone=false from rfl]at hLe
    have HFE:=A0 (fun w=>dU U u hUl (fun x hx=>by have:=f4 x hx;omega) w)
    have HX2:=A0 HX.out
    dsimp only at HX2
    clear HX HL1 HL0 HLF
    have HTX:=A0 (And.intro hLl f1)
    clear hUl hLl f1 f2 f3 f4
    cases hfd:Ea.findE u with
    |none=>rw[hfd]at HX2 HFE;have HG:Hid (res=((0,[]),18)):=A0 (by rw[<-HX2.out];rfl);rw[show noE none=.tuple #[.int .i64 (-1),.int .i64 (-1)]from rfl]at HFE;clear HX2 hfd;exact Qk
    |some yc=>obtain⟨y,c2⟩:=yc;have hyc:=Ea.findE_some hfd;rw[hfd]at HX2 HFE;rw[show noE (some (y,c2))=.tuple #[.int .i64 (y:Int),.int .i64 (c2:Int)]from rfl]at HFE;have HDA:=A0 (fun w=>BP y B0 w);have HDB:=A0 (fun w=>BP c2 B0 w);have d0:decide ((y:Int)<0)=false:=X0 B0;obtain⟨DA,hDA⟩:∃DG,Ea.bS [Ea.chr y]=DG:=⟨_,rfl⟩;obtain⟨DB,hDB⟩:∃DG,Ea.bS [Ea.chr c2]=DG:=⟨_,rfl⟩;have hDs:DA.size<=1:=(by rw[<-hDA];exact W9);have hDs2:DB.size<=1:=(by rw[<-hDB];exact W9);rw[hDA]at HDA;rw[hDB]at HDB;obtain⟨T,hT⟩:∃T,DA++L++DB=T:=⟨_,rfl⟩;have HTL:Hid (T.data.toList=Ea.chr y::(l++[Ea.chr c2])):=A0 (by rw[<-hT,<-hDA,<-hDB];simp only[Y3,F4,HTX.out.1,Ea.bS_list];simp);have hTz:T.size=8:=(by rw[Zf HTL.out];simp[HTX.out.2]);dsimp only[Option.map]at HX2;obtain⟨tl,htl⟩:∃tl,Ea.chr y::(l++[Ea.chr c2])=tl:=⟨_,rfl⟩;rw[htl]at HX2 HTL;have HT:=A0 hT;clear htl hDA hDB hfd HTX hT hyc;have HFU:=A0 (fun w=>BK 4 T B0 w);rw[HTL.out]at HFU;obtain⟨fe,hfe⟩:∃fe,Ea.full 4 tl=fe:=⟨_,rfl⟩;rw[hfe]at HFU HX2;have hTl:8<=T.size:=B0;have hTu:T.size<=8:=B0;clear hfe hTz;by_cases hf0:fe=0;(·rw[C0 (fun h=>h hf0)]at HX2;have hfb:(fe !=0)=false:=(by rw[hf0];rfl);clear hf0;have HG:Hid (res=((4,tl),0)):=A0 lR;have HE:Hid (T=Ea.bS tl):=A0 AY;clear HX2;go_enter func220,ntmps220;go_wp2_with fail;refine Zh 4 1 rfl [25,26,27,28] [[],[0],[],[1,2]] G0 G0 ?_;apply Za;(·exact Qa);apply Za;(·exact Qt);refine Zc (fun v w=>Own 4 w 0 v (Ea.gd.map encT)) (fun _ _ _ h hx=>h.ext hx) ?_ ?_;(·exact Qr);refine Zc (eqv (.bool true)) (Zg _) ?_ ?_;(·exact Qg);intro V wT hxT hf;obtain⟨g25,g26,g27,g28,_⟩:=hf;simp only[fillA,F1,O1,Act.put,V1,N1,L1];have q28:V 28=_:=g28;rw[q28];have HW2:=A0 (HW.out.trans hxT);refine Zb 4 G0 rfl (fun K hK=> ?_);go_simp;refine hK _ _ ?_;clear hK K;refine⟨rfl,?_⟩;clear HW;have HW:=HW2;clear HW2;go_wp2_with fail;refine Zh 9 1 rfl [30,31,32,33,34,35,36,37,38] [[],[],[],[2],[1,3],[0,4],[],[6],[5,7]] G0 G0 ?_;apply Za;(·exact Qa);apply Za;(·exact Qw);apply Za;(·exact XA);apply Za;(·exact Qy);apply Za;(·exact Ql);apply Za;(·exact Qm);apply Za;(·exact XA);refine Zc (fun v w=>Own 4 w 0 v (Ea.eE.map encT)) (fun _ _ _ h hx=>h.ext hx) ?_ ?_;(·exact Qo);refine Zc (eqv (.bool true)) (Zg _) ?_ ?_;(·exact Qi);intro V wT hxT hf;obtain⟨g30,g31,g32,g33,g34,g35,g36,g37,g38,_⟩:=hf;simp only[fillA,F1,O1,Act.put,V1,N1,L1];have q38:V 38=_:=g38;rw[q38];have HW2:=A0 (HW.out.trans hxT);refine Zb 9 G0 rfl (fun K hK=> ?_);go_simp;refine hK _ _ ?_;clear hK K;refine⟨rfl,?_⟩;clear HW;have HW:=HW2;clear HW2;go_wp2_with fail;refine(HRL.out _ HW.out).mono ?_;rintro e w5 ⟨rfl,hx5⟩;have HW2:=A0 (HW.out.trans hx5);clear HW hx5;have HW:=HW2;clear HW2;go_wp2_with fail;refine(HFE.out _).mono ?_;rintro e w5 ⟨rfl,hx5⟩;have HW2:=A0 (HW.out.trans hx5);clear HW hx5;have HW:=HW2;clear HW2;go_wp2_with fail;refine(HDA.out _).mono ?_;rintro e w7 ⟨rfl,hx7⟩;go_wp2_with fail;refine(HDB.out _).mono ?_;exact lO);·rw[D0 hf0]at HX2;have HG:Hid (res=((0,[]),8)):=A0 (HX2.out.symm);have hfb:(fe !=0)=true:=C3.2 hf0;clear hf0 HX2;go_enter func220,ntmps220;go_wp2_with fail;refine Zh 4 1 rfl [25,26,27,28] [[],[0],[],[1,2]] G0 G0 ?_;apply Za;(·exact Qa);apply Za;(·exact Qt);refine Zc (fun v w=>Own 4 w 0 v (Ea.gd.map encT)) (fun _ _ _ h hx=>h.ext hx) ?_ ?_;(·exact Qr);refine Zc (eqv (.bool true)) (Zg _) ?_ ?_;(·exact Qg);intro V wT hxT hf;obtain⟨g25,g26,g27,g28,_⟩:=hf;simp only[fillA,F1,O1,Act.put,V1,N1,L1];have q28:V 28=_:=g28;rw[q28];have HW2:=A0 (HW.out.trans hxT);refine Zb 4 G0 rfl (fun K hK=> ?_);go_simp;refine hK _ _ ?_;clear hK K;refine⟨rfl,?_⟩;clear HW;have HW:=HW2;clear HW2;go_wp2_with fail;refine Zh 9 1 rfl [30,31,32,33,34,35,36,37,38] [[],[],[],[2],[1,3],[0,4],[],[6],[5,7]] G0 G0 ?_;apply Za;(·exact Qa);apply Za;(·exact Qw);apply Za;(·exact XA);apply Za;(·exact Qy);apply Za;(·exact Ql);apply Za;(·exact Qm);apply Za;(·exact XA);refine Zc (fun v w=>Own 4 w 0 v (Ea.eE.map encT)) (fun _ _ _ h hx=>h.ext hx) ?_ ?_;(·exact Qo);refine Zc (eqv (.bool true)) (Zg _) ?_ ?_;(·exact Qi);intro V wT hxT hf;obtain⟨g30,g31,g32,g33,g34,g35,g36,g37,g38,_⟩:=hf;simp only[fillA,F1,O1,Act.put,V1,N1,L1];have q38:V 38=_:=g38;rw[q38];have HW2:=A0 (HW.out.trans hxT);refine Zb 9 G0 rfl (fun K hK=> ?_);go_simp;refine hK _ _ ?_;clear hK K;refine⟨rfl,?_⟩;clear HW;have HW:=HW2;clear HW2;go_wp2_with fail;refine(HRL.out _ HW.out).mono ?_;rintro e w5 ⟨rfl,hx5⟩;have HW2:=A0 (HW.out.trans hx5);clear HW hx5;have HW:=HW2;clear HW2;go_wp2_with fail;refine(HFE.out _).mono ?_;rintro e w5 ⟨rfl,hx5⟩;have HW2:=A0 (HW.out.trans hx5);clear HW hx5;have HW:=HW2;clear HW2;go_wp2_with fail;refine(HDA.out _).mono ?_;rintro e w7 ⟨rfl,hx7⟩;go_wp2_with fail;refine(HDB.out _).mono ?_;exact lP
  ·rw[D0 g2]at HX;rw[X0 g2]at HE2;clear g1 g2;go_enter func220,ntmps220;go_wp2_with fail;refine Zh 4 1 rfl [25,26,27,28] [[],[0],[],[1,2]] G0 G0 ?_;apply Za;(·exact Qa);apply Za;(·exact Qt);refine Zc (fun v w=>Own 4 w 0 v (Ea.gd.map encT)) (fun _ _ _ h hx=>h.ext hx) ?_ ?_;(·exact Qr);refine Zc (eqv (.bool true)) (Zg _) ?_ ?_;(·exact Qg);intro V wT hxT hf;obtain⟨g25,g26,g27,g28,_⟩:=hf;simp only[fillA,F1,O1,Act.put,V1,N1,L1];have q28:V 28=_:=g28;rw[q28];have HW2:=A0 (HW.out.trans hxT);refine Zb 4 G0 rfl (fun K hK=> ?_);go_simp;refine hK _ _ ?_;clear hK K;refine⟨rfl,?_⟩;clear HW;have HW:=HW2;clear HW2;go_wp2_with fail;refine Zh 9 1 rfl [30,31,32,33,34,35,36,37,38] [[],[],[],[2],[1,3],[0,4],[],[6],[5,7]] G0 G0 ?_;apply Za;(·exact Qa);apply Za;(·exact Qw);apply Za;(·exact XA);apply Za;(·exact Qy);apply Za;(·exact Ql);apply Za;(·exact Qm);apply Za;(·exact XA);refine Zc (fun v w=>Own 4 w 0 v (Ea.eE.map encT)) (fun _ _ _ h hx=>h.ext hx) ?_ ?_;(·exact Qo);exact lU
 ·exact Qx
end Go.Proofs.YtbngggoccndefaaGreatDoor
end
