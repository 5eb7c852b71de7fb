/-
  Laid together.
-/
import Derived.Test.YtbngggoccndefaaGreatDoorDd22
set_option maxHeartbeats 16000000
set_option maxRecDepth 100000
set_option linter.unusedVariables false
set_option linter.unusedSimpArgs false
set_option linter.ambiguousOpen false
section
namespace Go.Proofs.YtbngggoccndefaaGreatDoor
open Go.Proofs.Tryz
open Go.RowKit
theorem Zhh (v:Value) (m:List Bool) (w:World) (hv:SlK w v (m.map encT)) (hm:m.length=67):
 Calls prog 220 #[v] w fun e w'=>e=.returned (xsymV (Ea.rdSym 67 m))∧Ext w w':=by
 obtain⟨res,hres⟩:∃res,Ea.rdSym 67 m=res:=⟨_,rfl⟩
 rw[hres]
 have HX:=ZmE hres
 unfold Ea.rdSym at HX
 rw[show(Ea.stp 67).length=3 from rfl,show Ea.stp 67=Ea.gd from rfl,show(67-3:Nat)=64 from rfl,show Ea.kindOf 67=2 from rfl,show Ea.rdK 67 m=Ea.rd8 m from rfl]at HX
 obtain⟨p1,hp1,hq1⟩:=ZI hv 3 QhR
 obtain⟨p2,hp2,hq2⟩:=Zae hv 64 QhR
 rw[<-Zn5]at hq1
 rw[<-Zn6]at hq2
 have HE1:=ZmE (ZK (md:=Ea.gd) hq1 QhS QhP)
 have HE2:=ZmE (ZK (md:=Ea.gd) hq2 Qh0 QhP)
 have HMG:=ZmE (fun w=>Z1 ⟨#[49,48,49]⟩ Ea.gd rfl QhP w)
 have HMS:=ZmE (fun w=>Z1 ⟨#[49,48,49]⟩ Ea.gd rfl QhP w)
 obtain⟨p3,hp3,hq3⟩:=Z7 hv 31 36 QhN QhR
 rw[<-Zn6,<-Zn5]at hq3
 have HE3:=ZmE (ZK (md:=Ea.md) hq3 QhS QhP)
 have HMM:=ZmE (fun w=>Z1 ⟨#[48,49,48,49,48]⟩ Ea.md rfl QhP w)
 have HRL:=ZmE (fun w' (h:Ext w w')=>Zat v m 3 4 0 0 0 0 false w' (hv.ext h) QhN QhN QhN ⟨rfl,rfl⟩ QhN QhN)
 have HRR:=ZmE (fun w' (h:Ext w w')=>Zat v m 36 4 0 2 2 2 false w' (hv.ext h) QhN QhN QhN ⟨rfl,rfl⟩ QhN QhN)
 obtain⟨_,a,c,rfl,hc⟩:=hv
 rw[ZmI]at hp1 hp2 hp3 HRL HRR⊢
 rw[show((3:Nat):Int)=3 from rfl]at hp1 HRL
 rw[show((64:Nat):Int)=64 from rfl]at hp2
 rw[show((31:Nat):Int)=31 from rfl,show((36:Nat):Int)=36 from rfl]at hp3
 rw[show((4:Nat):Int)=4 from rfl,show((0:Nat):Int)=0 from rfl]at HRL
 rw[show((36:Nat):Int)=36 from rfl,show((4:Nat):Int)=4 from rfl,show((2:Nat):Int)=2 from rfl,show((0:Nat):Int)=0 from rfl]at HRR
 have b51:((m.length:Int)==51)=false:=by rw[hm];rfl
 have b95:((m.length:Int)==95)=false:=by rw[hm];rfl
 have b67:((m.length:Int)==67)=true:=by rw[hm];rfl
 have e92:(m.length:Int)-3=64:=by omega
 have w92:IntKind.i64.wrap (64:Int)=64:=ZnB _ QhN
 have HLN:=ZmE hm
 clear hq1 hq2 hq3 hres hc hm
 have HW:Hid (Ext w w):=ZmE (Ext.refl w)
 by_cases g1:m.take 3=Ea.gd
 ·rw[ZmF (fun h=>h g1)]at HX;rw[ZmR g1]at HE1;by_cases g2:m.drop 64=Ea.gd
  ·rw[ZmF (fun h=>h g2)]at HX
   rw[ZmR g2]at HE2
   clear g1 g2
   unfold Ea.rd8 at HX
   obtain⟨lo,hlo⟩:∃lo,Ea.rcg false 0 0 4 (m.drop 3)=lo:=⟨_,rfl⟩
   obtain⟨ro,hro⟩:∃ro,Ea.rcg false 2 0 4 (m.drop 36)=ro:=⟨_,rfl⟩
   have HLF:=ZmE (fun l u (e:lo=some (l,u))=>ZY QhN (hlo.trans e))
   have HRF:=ZmE (fun l u (e:ro=some (l,u))=>ZY QhN (hro.trans e))
   rw[hlo]at HX HRL
   rw[hro]at HX HRR
   obtain⟨L,U,hLU,hLe,hLs,hL1,hL0⟩:=ZO lo 4 QhN (fun l u e=>(HLF.out l u e).1)
   obtain⟨R,U2,hRU,hRe,hRs,hR1,_⟩:=ZO ro 4 QhN (fun l u e=>(HRF.out l u e).1)
   rw[hLU]at HRL
   rw[hRU]at HRR
   have HL1:=ZmE hL1
   have HR1:=ZmE hR1
   clear hlo hro hLU hRU hL1 hL0 hR1
   obtain⟨b3,hb3⟩:∃b,decide ((m.drop 31).take 5=Ea.md)=b:=⟨_,rfl⟩
   rw[show(36-31:Nat)=5 from rfl,hb3]at HE3
   have HB3:=ZmE hb3
   clear hb3
   have HN:Hid (b3=false∨lo.isNone=true∨ro.isNone=true->res=((0,[]),18)):=ZmE (fun h=>by
    rw[<-HX.out]
    cases lo with
    |none=>rfl
    |some q=>cases ro with
     |none=>rfl
     |some r=>rcases h with h|h|h;(·exact Qfh);(·cases h);·cases h)
   cases b3 with
   |false=>have HG:=ZmE (HN.out (.inl rfl));clear HN HX;go_enter func220,ntmps220;go_wp2_with fail;refine wp_region_rel 4 1 rfl [25,26,27,28] [[],[0],[],[1,2]] QhO QhO ?_;apply relPlan_eq';(·exact Qa);apply relPlan_eq';(·exact Qt);refine relPlan_by (fun v w=>Own 4 w 0 v (Ea.gd.map encT)) (fun _ _ _ h hx=>h.ext hx) ?_ ?_;(·exact Qr);refine relPlan_by (eqv (.bool true)) (eqv_stable _) ?_ ?_;(·exact Qg);intro V wT hxT hf;obtain⟨g25,g26,g27,g28,_⟩:=hf;simp only[fillA,ZmX,Zni,Act.put,ZmO,ZmV,ZmU];have q28:V 28=_:=g28;rw[q28];have HW2:=ZmE (HW.out.trans hxT);refine Za 4 QhO rfl (fun K hK=> ?_);go_simp;refine hK _ _ ?_;clear hK K;refine⟨rfl,?_⟩;clear HW;have HW:=HW2;clear HW2;go_wp2_with fail;refine wp_region_rel 9 1 rfl [30,31,32,33,34,35,36,37,38] [[],[],[],[2],[1,3],[0,4],[],[6],[5,7]] QhO QhO ?_;apply relPlan_eq';(·exact Qa);apply relPlan_eq';(·exact Qw);apply relPlan_eq';(·exact Qj);apply relPlan_eq';(·exact Qy);apply relPlan_eq';(·exact Ql);apply relPlan_eq';(·exact Qm);apply relPlan_eq';(·exact Qj);refine relPlan_by (fun v w=>Own 4 w 0 v (Ea.gd.map encT)) (fun _ _ _ h hx=>h.ext hx) ?_ ?_;(·exact Qo);refine relPlan_by (eqv (.bool true)) (eqv_stable _) ?_ ?_;(·exact Qi);intro V wT hxT hf;obtain⟨g30,g31,g32,g33,g34,g35,g36,g37,g38,_⟩:=hf;simp only[fillA,ZmX,Zni,Act.put,ZmO,ZmV,ZmU];have q38:V 38=_:=g38;rw[q38];have HW2:=ZmE (HW.out.trans hxT);refine Za 9 QhO rfl (fun K hK=> ?_);go_simp;refine hK _ _ ?_;clear hK K;refine⟨rfl,?_⟩;clear HW;have HW:=HW2;clear HW2;go_wp2_with fail;refine(HRL.out _ HW.out).mono ?_;rintro e w5 ⟨rfl,hx5⟩;have HW2:=ZmE (HW.out.trans hx5);clear HW hx5;have HW:=HW2;clear HW2;go_wp2_with fail;refine(HRR.out _ HW.out).mono ?_;rintro e w5 ⟨rfl,hx5⟩;have HW2:=ZmE (HW.out.trans hx5);clear HW hx5;have HW:=HW2;clear HW2;go_wp2_with fail;refine wp_region_rel 4 9 rfl [113,114,115,116] [[],[0],[],[1,2]] QhO QhO ?_;apply relPlan_eq';(·exact Qa);apply relPlan_eq';(·exact Qaq);refine relPlan_by (fun v w=>Own 4 w 0 v (Ea.md.map encT)) (fun _ _ _ h hx=>h.ext hx) ?_ ?_;(·exact QN);refine relPlan_by (eqv (.bool false)) (eqv_stable _) ?_ ?_;(·exact Q2);intro V wT hxT hf;obtain⟨g113,g114,g115,g116,_⟩:=hf;simp only[fillA,ZmX,Zni,Act.put,ZmO,ZmV,ZmU];have q116:V 116=_:=g116;rw[q116];have HW2:=ZmE (HW.out.trans hxT);refine Za 4 QhO rfl (fun K hK=> ?_);go_simp;refine hK _ _ ?_;clear hK K;refine Za 5 QhO rfl (fun K hK=> ?_);go_simp;refine hK _ _ ?_;clear hK K;refine Za 6 QhO rfl (fun K hK=> ?_);go_simp;refine hK _ _ ?_;clear hK K;refine Za 7 QhO rfl (fun K hK=> ?_);go_simp;refine hK _ _ ?_;clear hK K;refine Za 8 QhO rfl (fun K hK=> ?_);go_simp;refine hK _ _ ?_;clear hK K;refine Za 9 QhO rfl (fun K hK=> ?_);go_simp;refine hK _ _ ?_;clear hK K;refine Za 10 QhO rfl (fun K hK=> ?_);go_simp;refine hK _ _ ?_;clear hK K;refine Za 11 QhO rfl (fun K hK=> ?_);go_simp;refine hK _ _ ?_;clear hK K;refine Za 12 QhO rfl (fun K hK=> ?_);go_simp;refine hK _ _ ?_;clear hK K;refine⟨rfl,?_⟩;clear HW;exact QaV
   |true=>
    cases hln:lo.isNone with
    |true=>rw[hln]at hLe;have HG:=ZmE (HN.out (.inr (.inl hln)));clear HN HX hln;exact Qf
    |false=>
     rw[hln]at hLe
     cases hrn:ro.isNone with
     |true=>rw[hrn]at hRe;have HG:=ZmE (HN.out (.inr (.inr hrn)));clear HN HX hrn hln;exact Qf
     |false=>rw[hrn]at hRe;obtain⟨q,rfl⟩:=Zpu.1 (show lo.isSome=true by cases lo with|none=>cases hln|some q=>rfl);obtain⟨q2,rfl⟩:=Zpu.1 (show ro.isSome=true by cases ro with|none=>cases hrn|some q=>rfl);obtain⟨l,u⟩:=q;obtain⟨r,u2⟩:=q2;obtain⟨hLl,hUl⟩:=HL1.out l u rfl;obtain⟨hRl,_⟩:=HR1.out r u2 rfl;obtain⟨f1,f2,f3,f4⟩:=HLF.out l u rfl;obtain⟨k1,k2,k3,k4⟩:=HRF.out r u2 rfl;have HX2:=ZmE HX.out;dsimp only at HX2;rw[ZmH (Zok HB3.out)]at HX2;clear HX HN hln hrn HL1 HR1 HLF HRF;have HTX:=ZmE (And.intro hLl (And.intro hRl (And.intro f1 k1)));clear hUl hLl hRl f1 f2 f3 f4 k1 k2 k3 k4;obtain⟨T,hT⟩:∃T,L++R=T:=⟨_,rfl⟩;have HTL:Hid (T.data.toList=l++r):=ZmE (by rw[<-hT];simp only[Znt,Znw,HTX.out.1,HTX.out.2.1]);have hTz:T.size=8:=QfV;obtain⟨tl,htl⟩:∃tl,l++r=tl:=⟨_,rfl⟩;dsimp only at HX2;rw[htl]at HX2 HTL;have HT:=ZmE hT;clear htl HTX hT;have HFU:=ZmE (fun w=>Zco 2 T QhN w);rw[HTL.out]at HFU;obtain⟨fe,hfe⟩:∃fe,Ea.full 2 tl=fe:=⟨_,rfl⟩;rw[hfe]at HFU HX2;have hTl:8<=T.size:=QhN;have hTu:T.size<=8:=QhN;clear hfe hTz;by_cases hf0:fe=0;(·rw[ZmF (fun h=>h hf0)]at HX2;have hfb:(fe !=0)=false:=(by rw[hf0];rfl);clear hf0;have HG:Hid (res=((2,tl),0)):=ZmE Qke;have HE:Hid (T=Ea.bS tl):=ZmE QjF;clear HX2;go_enter func220,ntmps220;go_wp2_with fail;refine wp_region_rel 4 1 rfl [25,26,27,28] [[],[0],[],[1,2]] QhO QhO ?_;apply relPlan_eq';(·exact Qa);apply relPlan_eq';(·exact Qt);refine relPlan_by (fun v w=>Own 4 w 0 v (Ea.gd.map encT)) (fun _ _ _ h hx=>h.ext hx) ?_ ?_;(·exact Qr);refine relPlan_by (eqv (.bool true)) (eqv_stable _) ?_ ?_;(·exact Qg);intro V wT hxT hf;obtain⟨g25,g26,g27,g28,_⟩:=hf;simp only[fillA,ZmX,Zni,Act.put,ZmO,ZmV,ZmU];have q28:V 28=_:=g28;rw[q28];have HW2:=ZmE (HW.out.trans hxT);refine Za 4 QhO rfl (fun K hK=> ?_);go_simp;refine hK _ _ ?_;clear hK K;refine⟨rfl,?_⟩;clear HW;have HW:=HW2;clear HW2;go_wp2_with fail;refine wp_region_rel 9 1 rfl [30,31,32,33,34,35,36,37,38] [[],[],[],[2],[1,3],[0,4],[],[6],[5,7]] QhO QhO ?_;apply relPlan_eq';(·exact Qa);apply relPlan_eq';(·exact Qw);apply relPlan_eq';(·exact Qj);apply relPlan_eq';(·exact Qy);apply relPlan_eq';(·exact Ql);apply relPlan_eq';(·exact Qm);apply relPlan_eq';(·exact Qj);refine relPlan_by (fun v w=>Own 4 w 0 v (Ea.gd.map encT)) (fun _ _ _ h hx=>h.ext hx) ?_ ?_;(·exact Qo);refine relPlan_by (eqv (.bool true)) (eqv_stable _) ?_ ?_;(·exact Qi);intro V wT hxT hf;obtain⟨g30,g31,g32,g33,g34,g35,g36,g37,g38,_⟩:=hf;simp only[fillA,ZmX,Zni,Act.put,ZmO,ZmV,ZmU];have q38:V 38=_:=g38;rw[q38];have HW2:=ZmE (HW.out.trans hxT);refine Za 9 QhO rfl (fun K hK=> ?_);go_simp;refine hK _ _ ?_;clear hK K;refine⟨rfl,?_⟩;clear HW;have HW:=HW2;clear HW2;go_wp2_with fail;refine(HRL.out _ HW.out).mono ?_;rintro e w5 ⟨rfl,hx5⟩;have HW2:=ZmE (HW.out.trans hx5);clear HW hx5;have HW:=HW2;clear HW2;go_wp2_with fail;refine(HRR.out _ HW.out).mono ?_;rintro e w5 ⟨rfl,hx5⟩;have HW2:=ZmE (HW.out.trans hx5);clear HW hx5;have HW:=HW2;clear HW2;go_wp2_with fail;refine wp_region_rel 4 9 rfl [113,114,115,116] [[],[0],[],[1,2]] QhO QhO ?_;apply relPlan_eq';(·exact Qa);apply relPlan_eq';(·exact Qaq);refine relPlan_by (fun v w=>Own 4 w 0 v (Ea.md.map encT)) (fun _ _ _ h hx=>h.ext hx) ?_ ?_;(·exact QN);refine relPlan_by (eqv (.bool true)) (eqv_stable _) ?_ ?_;(·exact Q2);intro V wT hxT hf;obtain⟨g113,g114,g115,g116,_⟩:=hf;simp only[fillA,ZmX,Zni,Act.put,ZmO,ZmV,ZmU];have q116:V 116=_:=g116;rw[q116];have HW2:=ZmE (HW.out.trans hxT);refine Za 4 QhO rfl (fun K hK=> ?_);go_simp;refine hK _ _ ?_;clear hK K;refine Za 5 QhO rfl (fun K hK=> ?_);go_simp;refine hK _ _ ?_;clear hK K;refine Za 6 QhO rfl (fun K hK=> ?_);go_simp;refine hK _ _ ?_;clear hK K;refine Za 7 QhO rfl (fun K hK=> ?_);go_simp;refine hK _ _ ?_;clear hK K;refine Za 8 QhO rfl (fun K hK=> ?_);go_simp;refine hK _ _ ?_;clear hK K;refine Za 9 QhO rfl (fun K hK=> ?_);go_simp;refine hK _ _ ?_;clear hK K;refine Za 10 QhO rfl (fun K hK=> ?_);go_simp;refine hK _ _ ?_;clear hK K;refine Za 11 QhO rfl (fun K hK=> ?_);go_simp;refine hK _ _ ?_;clear hK K;refine Za 12 QhO rfl (fun K hK=> ?_);go_simp;refine hK _ _ ?_;clear hK K;refine⟨rfl,?_⟩;clear HW;exact Qa5);·rw[ZmH hf0]at HX2;have HG:Hid (res=((0,[]),8)):=ZmE (HX2.out.symm);have hfb:(fe !=0)=true:=ZnA.2 hf0;clear hf0 HX2;go_enter func220,ntmps220;go_wp2_with fail;refine wp_region_rel 4 1 rfl [25,26,27,28] [[],[0],[],[1,2]] QhO QhO ?_;apply relPlan_eq';(·exact Qa);apply relPlan_eq';(·exact Qt);refine relPlan_by (fun v w=>Own 4 w 0 v (Ea.gd.map encT)) (fun _ _ _ h hx=>h.ext hx) ?_ ?_;(·exact Qr);refine relPlan_by (eqv (.bool true)) (eqv_stable _) ?_ ?_;(·exact Qg);intro V wT hxT hf;obtain⟨g25,g26,g27,g28,_⟩:=hf;simp only[fillA,ZmX,Zni,Act.put,ZmO,ZmV,ZmU];have q28:V 28=_:=g28;rw[q28];have HW2:=ZmE (HW.out.trans hxT);refine Za 4 QhO rfl (fun K hK=> ?_);go_simp;refine hK _ _ ?_;clear hK K;refine⟨rfl,?_⟩;clear HW;have HW:=HW2;clear HW2;go_wp2_with fail;refine wp_region_rel 9 1 rfl [30,31,32,33,34,35,36,37,38] [[],[],[],[2],[1,3],[0,4],[],[6],[5,7]] QhO QhO ?_;apply relPlan_eq';(·exact Qa);apply relPlan_eq';(·exact Qw);apply relPlan_eq';(·exact Qj);apply relPlan_eq';(·exact Qy);apply relPlan_eq';(·exact Ql);apply relPlan_eq';(·exact Qm);apply relPlan_eq';(·exact Qj);refine relPlan_by (fun v w=>Own 4 w 0 v (Ea.gd.map encT)) (fun _ _ _ h hx=>h.ext hx) ?_ ?_;(·exact Qo);refine relPlan_by (eqv (.bool true)) (eqv_stable _) ?_ ?_;(·exact Qi);intro V wT hxT hf;obtain⟨g30,g31,g32,g33,g34,g35,g36,g37,g38,_⟩:=hf;simp only[fillA,ZmX,Zni,Act.put,ZmO,ZmV,ZmU];have q38:V 38=_:=g38;rw[q38];have HW2:=ZmE (HW.out.trans hxT);refine Za 9 QhO rfl (fun K hK=> ?_);go_simp;refine hK _ _ ?_;clear hK K;refine⟨rfl,?_⟩;clear HW;have HW:=HW2;clear HW2;go_wp2_with fail;refine(HRL.out _ HW.out).mono ?_;rintro e w5 ⟨rfl,hx5⟩;have HW2:=ZmE (HW.out.trans hx5);clear HW hx5;have HW:=HW2;clear HW2;go_wp2_with fail;refine(HRR.out _ HW.out).mono ?_;rintro e w5 ⟨rfl,hx5⟩;have HW2:=ZmE (HW.out.trans hx5);clear HW hx5;have HW:=HW2;clear HW2;go_wp2_with fail;refine wp_region_rel 4 9 rfl [113,114,115,116] [[],[0],[],[1,2]] QhO QhO ?_;apply relPlan_eq';(·exact Qa);apply relPlan_eq';(·exact Qaq);refine relPlan_by (fun v w=>Own 4 w 0 v (Ea.md.map encT)) (fun _ _ _ h hx=>h.ext hx) ?_ ?_;(·exact QN);refine relPlan_by (eqv (.bool true)) (eqv_stable _) ?_ ?_;(·exact Q2);intro V wT hxT hf;obtain⟨g113,g114,g115,g116,_⟩:=hf;simp only[fillA,ZmX,Zni,Act.put,ZmO,ZmV,ZmU];have q116:V 116=_:=g116;rw[q116];have HW2:=ZmE (HW.out.trans hxT);refine Za 4 QhO rfl (fun K hK=> ?_);go_simp;refine hK _ _ ?_;clear hK K;refine Za 5 QhO rfl (fun K hK=> ?_);go_simp;refine hK _ _ ?_;clear hK K;refine Za 6 QhO rfl (fun K hK=> ?_);go_simp;refine hK _ _ ?_;clear hK K;refine Za 7 QhO rfl (fun K hK=> ?_);go_simp;refine hK _ _ ?_;clear hK K;refine Za 8 QhO rfl (fun K hK=> ?_);go_simp;refine hK _ _ ?_;clear hK K;refine Za 9 QhO rfl (fun K hK=> ?_);go_simp;refine hK _ _ ?_;clear hK K;refine Za 10 QhO rfl (fun K hK=> ?_);go_simp;refine hK _ _ ?_;clear hK K;refine Za 11 QhO rfl (fun K hK=> ?_);go_simp;refine hK _ _ ?_;clear hK K;refine Za 12 QhO rfl (fun K hK=> ?_);go_simp;refine hK _ _ ?_;clear hK K;refine⟨rfl,?_⟩;clear HW;exact Qgi
  ·exact Qn
 ·exact Qx
end Go.Proofs.YtbngggoccndefaaGreatDoor
namespace Go.Proofs.YtbngggoccndefaaGreatDoor
open Go.Proofs.Tryz
open Go.RowKit
theorem Zhg (v:Value) (m:List Bool) (w:World) (hv:SlK w v (m.map encT)) (hm:m.length=51):
 Calls prog 220 #[v] w fun e w'=>e=.returned (xsymV (Ea.rdSym 51 m))∧Ext w w':=by
 obtain⟨res,hres⟩:∃res,Ea.rdSym 51 m=res:=⟨_,rfl⟩
 rw[hres]
 have HX:=ZmE hres
 unfold Ea.rdSym at HX
 rw[show(Ea.stp 51).length=6 from rfl,show Ea.stp 51=Ea.eE from rfl,show(51-6:Nat)=45 from rfl,show Ea.kindOf 51=4 from rfl,show Ea.rdK 51 m=Ea.rdE m from rfl]at HX
 obtain⟨p1,hp1,hq1⟩:=ZI hv 3 QhR
 obtain⟨p2,hp2,hq2⟩:=Zae hv 45 QhR
 rw[<-Zn5]at hq1
 rw[<-Zn6]at hq2
 have HE1:=ZmE (ZK (md:=Ea.gd) hq1 QhS QhP)
 have HE2:=ZmE (ZK (md:=Ea.eE) hq2 Qh0 QhP)
 have HMG:=ZmE (fun w=>Z1 ⟨#[49,48,49]⟩ Ea.gd rfl QhP w)
 have HMS:=ZmE (fun w=>Z1 ⟨#[48,49,48,49,48,49]⟩ Ea.eE rfl QhP w)
 have HRL:=ZmE (fun w' (h:Ext w w')=>Zat v m 3 6 0 0 0 1 true w' (hv.ext h) QhN QhN QhN ⟨rfl,rfl⟩ QhN QhN)
 obtain⟨_,a,c,rfl,hc⟩:=hv
 rw[ZmI]at hp1 hp2 HRL⊢
 rw[show((3:Nat):Int)=3 from rfl]at hp1 HRL
 rw[show((45:Nat):Int)=45 from rfl]at hp2
 rw[show((6:Nat):Int)=6 from rfl,show((1:Nat):Int)=1 from rfl,show((0:Nat):Int)=0 from rfl]at HRL
 have b51:((m.length:Int)==51)=true:=by rw[hm];rfl
 have b95:((m.length:Int)==95)=false:=by rw[hm];rfl
 have b67:((m.length:Int)==67)=false:=by rw[hm];rfl
 have e92:(m.length:Int)-6=45:=by omega
 have w92:IntKind.i64.wrap (45:Int)=45:=ZnB _ QhN
 have HLN:=ZmE hm
 clear hq1 hq2 hres hc hm
 have HW:Hid (Ext w w):=ZmE (Ext.refl w)
 by_cases g1:m.take 3=Ea.gd
 ·rw[ZmF (fun h=>h g1)]at HX;rw[ZmR g1]at HE1;by_cases g2:m.drop 45=Ea.eE
  ·rw[ZmF (fun h=>h g2)]at HX
   rw[ZmR g2]at HE2
   clear g1 g2
   unfold Ea.rdE at HX
   obtain⟨lo,hlo⟩:∃lo,Ea.rcg true 0 0 6 (m.drop 3)=lo:=⟨_,rfl⟩
   have HLF:=ZmE (fun l u (e:lo=some (l,u))=>ZY QhN (hlo.trans e))
   rw[hlo]at HX HRL
   obtain⟨L,U,hLU,hLe,hLs,hL1,hL0⟩:=ZO lo 6 QhN (fun l u e=>(HLF.out l u e).1)
   rw[hLU]at HRL
   have HL1:=ZmE hL1
   have HL0:=ZmE hL0
   clear hlo hLU hL1 hL0
   cases lo with
   |none=>have HFE:=ZmE (fun w=>Zdw U [] (HL0.out rfl) QhQ w);rw[show Ea.findE []=none from by decide,show noE none=.tuple #[.int .i64 (-1),.int .i64 (-1)]from rfl]at HFE;rw[show(none:Option (List UInt8×List Nat)).isNone=true from rfl]at hLe;have HG:Hid (res=((0,[]),18)):=ZmE (by rw[<-HX.out]);clear HX;exact Qk
   |some q=>
    obtain⟨l,u⟩:=q
    obtain⟨hLl,hUl⟩:=HL1.out l u rfl
    obtain⟨f1,f2,f3,f4⟩:=HLF.out l u rfl
    rw[show(some (l,u):Option (List UInt8×List Nat)).isNone=false from rfl]at hLe
    have HFE:=ZmE (fun w=>Zdw U u hUl (fun x hx=>by have:=f4 x hx;omega) w)
    have HX2:=ZmE HX.out
    dsimp only at HX2
    clear HX HL1 HL0 HLF
    have HTX:=ZmE (And.intro hLl f1)
    clear hUl hLl f1 f2 f3 f4
    cases hfd:Ea.findE u with
    |none=>rw[hfd]at HX2 HFE;have HG:Hid (res=((0,[]),18)):=ZmE (by rw[<-HX2.out];rfl);rw[show noE none=.tuple #[.int .i64 (-1),.int .i64 (-1)]from rfl]at HFE;clear HX2 hfd;exact Qk
    |some yc=>obtain⟨y,c2⟩:=yc;have hyc:=Ea.findE_some hfd;rw[hfd]at HX2 HFE;rw[show noE (some (y,c2))=.tuple #[.int .i64 (y:Int),.int .i64 (c2:Int)]from rfl]at HFE;have HDA:=ZmE (fun w=>ZbJ y QhN w);have HDB:=ZmE (fun w=>ZbJ c2 QhN w);have d0:decide ((y:Int)<0)=false:=ZmS QhN;obtain⟨DA,hDA⟩:∃DG,Ea.bS [Ea.chr y]=DG:=⟨_,rfl⟩;obtain⟨DB,hDB⟩:∃DG,Ea.bS [Ea.chr c2]=DG:=⟨_,rfl⟩;have hDs:DA.size<=1:=(by rw[<-hDA];exact Qd0);have hDs2:DB.size<=1:=(by rw[<-hDB];exact Qd0);rw[hDA]at HDA;rw[hDB]at HDB;obtain⟨T,hT⟩:∃T,DA++L++DB=T:=⟨_,rfl⟩;have HTL:Hid (T.data.toList=Ea.chr y::(l++[Ea.chr c2])):=ZmE (by rw[<-hT,<-hDA,<-hDB];simp only[Znt,Znw,HTX.out.1,Ea.bS_list];simp);have hTz:T.size=8:=(by rw[Zc HTL.out];simp[HTX.out.2]);dsimp only[Option.map]at HX2;obtain⟨tl,htl⟩:∃tl,Ea.chr y::(l++[Ea.chr c2])=tl:=⟨_,rfl⟩;rw[htl]at HX2 HTL;have HT:=ZmE hT;clear htl hDA hDB hfd HTX hT hyc;have HFU:=ZmE (fun w=>Zco 4 T QhN w);rw[HTL.out]at HFU;obtain⟨fe,hfe⟩:∃fe,Ea.full 4 tl=fe:=⟨_,rfl⟩;rw[hfe]at HFU HX2;have hTl:8<=T.size:=QhN;have hTu:T.size<=8:=QhN;clear hfe hTz;by_cases hf0:fe=0;(·rw[ZmF (fun h=>h hf0)]at HX2;have hfb:(fe !=0)=false:=(by rw[hf0];rfl);clear hf0;have HG:Hid (res=((4,tl),0)):=ZmE Qke;have HE:Hid (T=Ea.bS tl):=ZmE QjF;clear HX2;go_enter func220,ntmps220;go_wp2_with fail;refine wp_region_rel 4 1 rfl [25,26,27,28] [[],[0],[],[1,2]] QhO QhO ?_;apply relPlan_eq';(·exact Qa);apply relPlan_eq';(·exact Qt);refine relPlan_by (fun v w=>Own 4 w 0 v (Ea.gd.map encT)) (fun _ _ _ h hx=>h.ext hx) ?_ ?_;(·exact Qr);refine relPlan_by (eqv (.bool true)) (eqv_stable _) ?_ ?_;(·exact Qg);intro V wT hxT hf;obtain⟨g25,g26,g27,g28,_⟩:=hf;simp only[fillA,ZmX,Zni,Act.put,ZmO,ZmV,ZmU];have q28:V 28=_:=g28;rw[q28];have HW2:=ZmE (HW.out.trans hxT);refine Za 4 QhO rfl (fun K hK=> ?_);go_simp;refine hK _ _ ?_;clear hK K;refine⟨rfl,?_⟩;clear HW;have HW:=HW2;clear HW2;go_wp2_with fail;refine wp_region_rel 9 1 rfl [30,31,32,33,34,35,36,37,38] [[],[],[],[2],[1,3],[0,4],[],[6],[5,7]] QhO QhO ?_;apply relPlan_eq';(·exact Qa);apply relPlan_eq';(·exact Qw);apply relPlan_eq';(·exact QO);apply relPlan_eq';(·exact Qy);apply relPlan_eq';(·exact Ql);apply relPlan_eq';(·exact Qm);apply relPlan_eq';(·exact QO);refine relPlan_by (fun v w=>Own 4 w 0 v (Ea.eE.map encT)) (fun _ _ _ h hx=>h.ext hx) ?_ ?_;(·exact Qo);refine relPlan_by (eqv (.bool true)) (eqv_stable _) ?_ ?_;(·exact Qi);intro V wT hxT hf;obtain⟨g30,g31,g32,g33,g34,g35,g36,g37,g38,_⟩:=hf;simp only[fillA,ZmX,Zni,Act.put,ZmO,ZmV,ZmU];have q38:V 38=_:=g38;rw[q38];have HW2:=ZmE (HW.out.trans hxT);refine Za 9 QhO rfl (fun K hK=> ?_);go_simp;refine hK _ _ ?_;clear hK K;refine⟨rfl,?_⟩;clear HW;have HW:=HW2;clear HW2;go_wp2_with fail;refine(HRL.out _ HW.out).mono ?_;rintro e w5 ⟨rfl,hx5⟩;have HW2:=ZmE (HW.out.trans hx5);clear HW hx5;have HW:=HW2;clear HW2;go_wp2_with fail;refine(HFE.out _).mono ?_;rintro e w5 ⟨rfl,hx5⟩;have HW2:=ZmE (HW.out.trans hx5);clear HW hx5;have HW:=HW2;clear HW2;go_wp2_with fail;refine(HDA.out _).mono ?_;rintro e w7 ⟨rfl,hx7⟩;go_wp2_with fail;refine(HDB.out _).mono ?_;exact Qg5);·rw[ZmH hf0]at HX2;have HG:Hid (res=((0,[]),8)):=ZmE (HX2.out.symm);have hfb:(fe !=0)=true:=ZnA.2 hf0;clear hf0 HX2;go_enter func220,ntmps220;go_wp2_with fail;refine wp_region_rel 4 1 rfl [25,26,27,28] [[],[0],[],[1,2]] QhO QhO ?_;apply relPlan_eq';(·exact Qa);apply relPlan_eq';(·exact Qt);refine relPlan_by (fun v w=>Own 4 w 0 v (Ea.gd.map encT)) (fun _ _ _ h hx=>h.ext hx) ?_ ?_;(·exact Qr);refine relPlan_by (eqv (.bool true)) (eqv_stable _) ?_ ?_;(·exact Qg);intro V wT hxT hf;obtain⟨g25,g26,g27,g28,_⟩:=hf;simp only[fillA,ZmX,Zni,Act.put,ZmO,ZmV,ZmU];have q28:V 28=_:=g28;rw[q28];have HW2:=ZmE (HW.out.trans hxT);refine Za 4 QhO rfl (fun K hK=> ?_);go_simp;refine hK _ _ ?_;clear hK K;refine⟨rfl,?_⟩;clear HW;have HW:=HW2;clear HW2;go_wp2_with fail;refine wp_region_rel 9 1 rfl [30,31,32,33,34,35,36,37,38] [[],[],[],[2],[1,3],[0,4],[],[6],[5,7]] QhO QhO ?_;apply relPlan_eq';(·exact Qa);apply relPlan_eq';(·exact Qw);apply relPlan_eq';(·exact QO);apply relPlan_eq';(·exact Qy);apply relPlan_eq';(·exact Ql);apply relPlan_eq';(·exact Qm);apply relPlan_eq';(·exact QO);refine relPlan_by (fun v w=>Own 4 w 0 v (Ea.eE.map encT)) (fun _ _ _ h hx=>h.ext hx) ?_ ?_;(·exact Qo);refine relPlan_by (eqv (.bool true)) (eqv_stable _) ?_ ?_;(·exact Qi);intro V wT hxT hf;obtain⟨g30,g31,g32,g33,g34,g35,g36,g37,g38,_⟩:=hf;simp only[fillA,ZmX,Zni,Act.put,ZmO,ZmV,ZmU];have q38:V 38=_:=g38;rw[q38];have HW2:=ZmE (HW.out.trans hxT);refine Za 9 QhO rfl (fun K hK=> ?_);go_simp;refine hK _ _ ?_;clear hK K;refine⟨rfl,?_⟩;clear HW;have HW:=HW2;clear HW2;go_wp2_with fail;refine(HRL.out _ HW.out).mono ?_;rintro e w5 ⟨rfl,hx5⟩;have HW2:=ZmE (HW.out.trans hx5);clear HW hx5;have HW:=HW2;clear HW2;go_wp2_with fail;refine(HFE.out _).mono ?_;rintro e w5 ⟨rfl,hx5⟩;have HW2:=ZmE (HW.out.trans hx5);clear HW hx5;have HW:=HW2;clear HW2;go_wp2_with fail;refine(HDA.out _).mono ?_;rintro e w7 ⟨rfl,hx7⟩;go_wp2_with fail;refine(HDB.out _).mono ?_;exact QhJ
  ·rw[ZmH g2]at HX;rw[ZmS g2]at HE2;clear g1 g2;go_enter func220,ntmps220;go_wp2_with fail;refine wp_region_rel 4 1 rfl [25,26,27,28] [[],[0],[],[1,2]] QhO QhO ?_;apply relPlan_eq';(·exact Qa);apply relPlan_eq';(·exact Qt);refine relPlan_by (fun v w=>Own 4 w 0 v (Ea.gd.map encT)) (fun _ _ _ h hx=>h.ext hx) ?_ ?_;(·exact Qr);refine relPlan_by (eqv (.bool true)) (eqv_stable _) ?_ ?_;(·exact Qg);intro V wT hxT hf;obtain⟨g25,g26,g27,g28,_⟩:=hf;simp only[fillA,ZmX,Zni,Act.put,ZmO,ZmV,ZmU];have q28:V 28=_:=g28;rw[q28];have HW2:=ZmE (HW.out.trans hxT);refine Za 4 QhO rfl (fun K hK=> ?_);go_simp;refine hK _ _ ?_;clear hK K;refine⟨rfl,?_⟩;clear HW;have HW:=HW2;clear HW2;go_wp2_with fail;refine wp_region_rel 9 1 rfl [30,31,32,33,34,35,36,37,38] [[],[],[],[2],[1,3],[0,4],[],[6],[5,7]] QhO QhO ?_;apply relPlan_eq';(·exact Qa);apply relPlan_eq';(·exact Qw);apply relPlan_eq';(·exact QO);apply relPlan_eq';(·exact Qy);apply relPlan_eq';(·exact Ql);apply relPlan_eq';(·exact Qm);apply relPlan_eq';(·exact QO);refine relPlan_by (fun v w=>Own 4 w 0 v (Ea.eE.map encT)) (fun _ _ _ h hx=>h.ext hx) ?_ ?_;(·exact Qo);exact Qgh
 ·exact Qx
end Go.Proofs.YtbngggoccndefaaGreatDoor
end
