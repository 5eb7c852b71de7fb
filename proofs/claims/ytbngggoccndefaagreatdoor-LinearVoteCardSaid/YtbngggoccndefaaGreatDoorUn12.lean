/-
  Laid.
-/
import Derived.Test.YtbngggoccndefaaGreatDoorUn10
set_option maxHeartbeats 16000000
set_option maxRecDepth 100000
set_option linter.all false
namespace Go.Proofs.YtbngggoccndefaaGreatDoor
open Go.Proofs.Tryz
section
open Go.RowKit
def EqTo (w:World) (pv:Value) (md:List Bool) (b:Bool):Prop:=∀w' B u,Ext w w'->Own 4 w' B u (md.map encT)->Calls prog 256 #[pv,u] w' fun e w''=>e=.returned (.bool b)∧Ext w' w''
theorem R7 {w:World} {pv:Value} {p md:List Bool} (h:SlK w pv (p.map encT)) (hp:p.length<=1000000) (hm:md.length<=1000000):EqTo w pv md (decide (p=md)):=
 fun w' _ u hx ho=>BN pv u p md w' (h.ext hx) ho.slk hp hm
theorem WW {both:Bool} {t gap:Nat} (ht:t<3):∀ {n:Nat} {s:List Bool} {l:List UInt8} {us:List Nat},Ea.rcg both t gap n s=some (l,us)->l.length=n∧us.length=n∧Ea.digs l=true∧∀u∈us,u<3:=by
 intro n
 induction n with
 |zero=>intro s l u h;cases h;exact⟨rfl,rfl,rfl,by simp⟩
 |succ n ih=>
  intro s l u h
  rw[Ea.rcg]at h
  cases h1:Ea.look both t (s.take 7)with
  |none=>rw[h1]at h;cases h
  |some p=>
   obtain⟨d,x⟩:=p
   rw[h1]at h
   dsimp only at h
   cases h2:Ea.rcg both t gap n (s.drop (7+gap))with
   |none=>rw[h2]at h;cases h
   |some q=>obtain⟨ds,us⟩:=q;rw[h2]at h;cases h;obtain⟨i1,i2,i3,i4⟩:=ih h2;obtain⟨j1,_,j3⟩:=Ea.look_some ht h1;refine⟨by simp[i1],by simp[i2],Ea.digs_cons (by rw[Ea.chr_nat j1];omega) i3,?_⟩;intro z hz;rcases V3.1 hz with rfl|hz;(·exact Ea.may_lt ht j3);·exact i4 z hz
def ZZ (r:(Int×List UInt8)×Int):Value:=.tuple #[.int .i64 r.1.1,.string (Ea.bS r.1.2),.int .i64 r.2]
theorem WX (r:Option (List UInt8×List Nat)) (n:Nat) (hn:0<n) (h:∀l u,r=some (l,u)->l.length=n):
 ∃L U,BT r=.tuple #[.string L,.string U]∧L.toList.isEmpty=r.isNone∧L.size<=n∧(∀l u,r=some (l,u)->L.data.toList=l∧U.data.toList=zS u)∧(r=none->U.data.toList=zS []):=by
 cases r with
 |none=>exact⟨_,_,rfl,by rw[C2];rfl,O0 _,fun l u e=>by(cases e),fun _=>rfl⟩
 |some q=>
  obtain⟨l,u⟩:=q;have hl:=h l u rfl;refine⟨_,_,rfl,?_,?_,fun l' u' e=>by cases e;exact⟨rfl,rfl⟩,fun e=>by cases e⟩
  ·rw[C2,Ea.bS_list]
   cases l with
   |nil=>rw[<-hl]at hn;cases hn
   |cons x l=>rfl
  ·rw[Zf (Ea.bS_list l),hl];exact W9
theorem Zjj (v:Value) (m:List Bool) (w:World) (hv:SlK w v (m.map encT)) (hm:m.length=95):
 Calls prog 220 #[v] w fun e w'=>e=.returned (ZZ (Ea.rdSym 95 m))∧Ext w w':=by
 obtain⟨res,hres⟩:∃res,Ea.rdSym 95 m=res:=⟨_,rfl⟩
 rw[hres]
 have HX:=A0 hres
 unfold Ea.rdSym at HX
 rw[show(Ea.stp 95).length=3 from rfl,show Ea.stp 95=Ea.gd from rfl,show(95-3:Nat)=92 from rfl,show Ea.kindOf 95=1 from rfl,show Ea.rdK 95 m=Ea.rd13 m from rfl]at HX
 obtain⟨p1,hp1,hq1⟩:=WQ hv 3 A3
 obtain⟨p2,hp2,hq2⟩:=PM hv 92 A3
 rw[<-I3]at hq1
 rw[<-R3]at hq2
 have HE1:=A0 (R7 (md:=Ea.gd) hq1 X3 I0)
 have HE2:=A0 (R7 (md:=Ea.gd) hq2 C8 I0)
 have HMG:=A0 (fun w=>ZB ⟨#[49,48,49]⟩ Ea.gd rfl I0 w)
 have HMS:=A0 (fun w=>ZB ⟨#[49,48,49]⟩ Ea.gd rfl I0 w)
 obtain⟨p3,hp3,hq3⟩:=ZV hv 45 50 B0 A3
 rw[<-R3,<-I3]at hq3
 have HE3:=A0 (R7 (md:=Ea.md) hq3 X3 I0)
 have HMM:=A0 (fun w=>ZB ⟨#[48,49,48,49,48]⟩ Ea.md rfl I0 w)
 have HRL:=A0 (fun w' (h:Ext w w')=>TH v m 3 6 0 0 0 1 true w' (hv.ext h) B0 B0 B0 ⟨rfl,rfl⟩ B0 B0)
 have HRR:=A0 (fun w' (h:Ext w w')=>TH v m 50 6 0 2 2 2 false w' (hv.ext h) B0 B0 B0 ⟨rfl,rfl⟩ B0 B0)
 obtain⟨_,a,c,rfl,hc⟩:=hv
 rw[J0]at hp1 hp2 hp3 HRL HRR⊢
 rw[show((3:Nat):Int)=3 from rfl]at hp1 HRL
 rw[show((92:Nat):Int)=92 from rfl]at hp2
 rw[show((45:Nat):Int)=45 from rfl,show((50:Nat):Int)=50 from rfl]at hp3
 rw[show((6:Nat):Int)=6 from rfl,show((1:Nat):Int)=1 from rfl,show((0:Nat):Int)=0 from rfl]at HRL
 rw[show((50:Nat):Int)=50 from rfl,show((6:Nat):Int)=6 from rfl,show((2:Nat):Int)=2 from rfl,show((0:Nat):Int)=0 from rfl]at HRR
 have b51:((m.length:Int)==51)=false:=by rw[hm];rfl
 have b95:((m.length:Int)==95)=true:=by rw[hm];rfl
 have b67:((m.length:Int)==67)=false:=by rw[hm];rfl
 have e92:(m.length:Int)-3=92:=by omega
 have w92:IntKind.i64.wrap (92:Int)=92:=T3 _ B0
 have HLN:=A0 hm
 clear hq1 hq2 hq3 hres hc hm
 have HW:Hid (Ext w w):=A0 (Ext.refl w)
 by_cases g1:m.take 3=Ea.gd
 ·rw[C0 (fun h=>h g1)]at HX;rw[V0 g1]at HE1;by_cases g2:m.drop 92=Ea.gd
  ·rw[C0 (fun h=>h g2)]at HX
   rw[V0 g2]at HE2
   clear g1 g2
   unfold Ea.rd13 at HX
   obtain⟨lo,hlo⟩:∃lo,Ea.rcg true 0 0 6 (m.drop 3)=lo:=⟨_,rfl⟩
   obtain⟨ro,hro⟩:∃ro,Ea.rcg false 2 0 6 (m.drop 50)=ro:=⟨_,rfl⟩
   have HLF:=A0 (fun l u (e:lo=some (l,u))=>WW B0 (hlo.trans e))
   have HRF:=A0 (fun l u (e:ro=some (l,u))=>WW B0 (hro.trans e))
   rw[hlo]at HX HRL
   rw[hro]at HX HRR
   obtain⟨L,U,hLU,hLe,hLs,hL1,hL0⟩:=WX lo 6 B0 (fun l u e=>(HLF.out l u e).1)
   obtain⟨R,U2,hRU,hRe,hRs,hR1,_⟩:=WX ro 6 B0 (fun l u e=>(HRF.out l u e).1)
   rw[hLU]at HRL
   rw[hRU]at HRR
   have HL1:=A0 hL1
   have HR1:=A0 hR1
   clear hlo hro hLU hRU hL1 hL0 hR1
   obtain⟨b3,hb3⟩:∃b,decide ((m.drop 45).take 5=Ea.md)=b:=⟨_,rfl⟩
   rw[show(50-45:Nat)=5 from rfl,hb3]at HE3
   have HB3:=A0 hb3
   clear hb3
   have HN:Hid (b3=false∨lo.isNone=true∨ro.isNone=true->res=((0,[]),18)):=A0 (fun h=>by
    rw[<-HX.out]
    cases lo with
    |none=>rfl
    |some q=>cases ro with
     |none=>rfl
     |some r=>rcases h with h|h|h;(·exact lL);(·cases h);·cases h)
   cases b3 with
   |false=>have HG:=A0 (HN.out (.inl rfl));clear HN HX;go_enter func220,ntmps220;go_wp2_with fail;refine Zh 4 1 rfl [25,26,27,28] [[],[0],[],[1,2]] G0 G0 ?_;apply Za;(·exact Qa);apply Za;(·exact Qt);refine Zc (fun v w=>Own 4 w 0 v (Ea.gd.map encT)) (fun _ _ _ h hx=>h.ext hx) ?_ ?_;(·exact Qr);refine Zc (eqv (.bool true)) (Zg _) ?_ ?_;(·exact Qg);intro V wT hxT hf;obtain⟨g25,g26,g27,g28,_⟩:=hf;simp only[fillA,F1,O1,Act.put,V1,N1,L1];have q28:V 28=_:=g28;rw[q28];have HW2:=A0 (HW.out.trans hxT);refine Zb 4 G0 rfl (fun K hK=> ?_);go_simp;refine hK _ _ ?_;clear hK K;refine⟨rfl,?_⟩;clear HW;have HW:=HW2;clear HW2;go_wp2_with fail;refine Zh 9 1 rfl [30,31,32,33,34,35,36,37,38] [[],[],[],[2],[1,3],[0,4],[],[6],[5,7]] G0 G0 ?_;apply Za;(·exact Qa);apply Za;(·exact Qw);apply Za;(·exact Qj);apply Za;(·exact Qy);apply Za;(·exact Ql);apply Za;(·exact Qm);apply Za;(·exact Qj);refine Zc (fun v w=>Own 4 w 0 v (Ea.gd.map encT)) (fun _ _ _ h hx=>h.ext hx) ?_ ?_;(·exact Qo);refine Zc (eqv (.bool true)) (Zg _) ?_ ?_;(·exact Qi);intro V wT hxT hf;obtain⟨g30,g31,g32,g33,g34,g35,g36,g37,g38,_⟩:=hf;simp only[fillA,F1,O1,Act.put,V1,N1,L1];have q38:V 38=_:=g38;rw[q38];have HW2:=A0 (HW.out.trans hxT);refine Zb 9 G0 rfl (fun K hK=> ?_);go_simp;refine hK _ _ ?_;clear hK K;refine⟨rfl,?_⟩;clear HW;have HW:=HW2;clear HW2;go_wp2_with fail;refine(HRL.out _ HW.out).mono ?_;rintro e w5 ⟨rfl,hx5⟩;have HW2:=A0 (HW.out.trans hx5);clear HW hx5;have HW:=HW2;clear HW2;go_wp2_with fail;refine(HRR.out _ HW.out).mono ?_;rintro e w5 ⟨rfl,hx5⟩;have HW2:=A0 (HW.out.trans hx5);clear HW hx5;have HW:=HW2;clear HW2;go_wp2_with fail;refine Zh 4 14 rfl [76,77,78,79] [[],[0],[],[1,2]] G0 G0 ?_;apply Za;(·exact Qa);apply Za;(·exact TN);refine Zc (fun v w=>Own 4 w 0 v (Ea.md.map encT)) (fun _ _ _ h hx=>h.ext hx) ?_ ?_;(·exact QN);refine Zc (eqv (.bool false)) (Zg _) ?_ ?_;(·exact QL);intro V wT hxT hf;obtain⟨g76,g77,g78,g79,_⟩:=hf;simp only[fillA,F1,O1,Act.put,V1,N1,L1];have q79:V 79=_:=g79;rw[q79];have HW2:=A0 (HW.out.trans hxT);refine Zb 4 G0 rfl (fun K hK=> ?_);go_simp;refine hK _ _ ?_;clear hK K;refine Zb 5 G0 rfl (fun K hK=> ?_);go_simp;refine hK _ _ ?_;clear hK K;refine Zb 6 G0 rfl (fun K hK=> ?_);go_simp;refine hK _ _ ?_;clear hK K;refine Zb 7 G0 rfl (fun K hK=> ?_);go_simp;refine hK _ _ ?_;clear hK K;refine Zb 8 G0 rfl (fun K hK=> ?_);go_simp;refine hK _ _ ?_;clear hK K;refine Zb 9 G0 rfl (fun K hK=> ?_);go_simp;refine hK _ _ ?_;clear hK K;refine Zb 10 G0 rfl (fun K hK=> ?_);go_simp;refine hK _ _ ?_;clear hK K;refine Zb 11 G0 rfl (fun K hK=> ?_);go_simp;refine hK _ _ ?_;clear hK K;refine Zb 12 G0 rfl (fun K hK=> ?_);go_simp;refine hK _ _ ?_;clear hK K;refine Zb 13 G0 rfl (fun K hK=> ?_);go_simp;refine hK _ _ ?_;clear hK K;refine Zb 14 G0 rfl (fun K hK=> ?_);go_simp;refine hK _ _ ?_;clear hK K;refine Zb 15 G0 rfl (fun K hK=> ?_);go_simp;refine hK _ _ ?_;clear hK K;exact lM
   |true=>
    cases hln:lo.isNone with
    |true=>rw[hln]at hLe;have HG:=A0 (HN.out (.inr (.inl hln)));clear HN HX hln;exact Qe
    |false=>
     rw[hln]at hLe
     cases hrn:ro.isNone with
     |true=>rw[hrn]at hRe;have HG:=A0 (HN.out (.inr (.inr hrn)));clear HN HX hrn hln;exact Qe
     |false=>
      rw[hrn]at hRe
      obtain⟨q,rfl⟩:=JB.1 (show lo.isSome=true by cases lo with|none=>cases hln|some q=>rfl)
      obtain⟨q2,rfl⟩:=JB.1 (show ro.isSome=true by cases ro with|none=>cases hrn|some q=>rfl)
      obtain⟨l,u⟩:=q
      obtain⟨r,u2⟩:=q2
      obtain⟨hLl,hUl⟩:=HL1.out l u rfl
      obtain⟨hRl,_⟩:=HR1.out r u2 rfl
      obtain⟨f1,f2,f3,f4⟩:=HLF.out l u rfl
      obtain⟨k1,k2,k3,k4⟩:=HRF.out r u2 rfl
      have HF13:=A0 (fun w=>ZhH U u hUl (fun x hx=>by have:=f4 x hx;omega) w)
      have HX2:=A0 HX.out
      dsimp only at HX2
      rw[D0 (G6 HB3.out)]at HX2
      clear HX HN hln hrn HL1 HR1 HLF HRF
      have HTX:=A0 (And.intro hLl (And.intro hRl (And.intro f1 k1)))
      clear hUl hLl hRl f1 f2 f3 f4 k1 k2 k3 k4
      cases hfd:Ea.find13 u with
      |none=>rw[hfd]at HX2 HF13;have HG:Hid (res=((0,[]),18)):=A0 (by rw[<-HX2.out];rfl);rw[show noV none= -1 from rfl]at HF13;clear HX2 hfd;go_enter func220,ntmps220;go_wp2_with fail;refine Zh 4 1 rfl [25,26,27,28] [[],[0],[],[1,2]] G0 G0 ?_;apply Za;(·exact Qa);apply Za;(·exact Qt);refine Zc (fun v w=>Own 4 w 0 v (Ea.gd.map encT)) (fun _ _ _ h hx=>h.ext hx) ?_ ?_;(·exact Qr);refine Zc (eqv (.bool true)) (Zg _) ?_ ?_;(·exact Qg);intro V wT hxT hf;obtain⟨g25,g26,g27,g28,_⟩:=hf;simp only[fillA,F1,O1,Act.put,V1,N1,L1];have q28:V 28=_:=g28;rw[q28];have HW2:=A0 (HW.out.trans hxT);refine Zb 4 G0 rfl (fun K hK=> ?_);go_simp;refine hK _ _ ?_;clear hK K;refine⟨rfl,?_⟩;clear HW;have HW:=HW2;clear HW2;go_wp2_with fail;refine Zh 9 1 rfl [30,31,32,33,34,35,36,37,38] [[],[],[],[2],[1,3],[0,4],[],[6],[5,7]] G0 G0 ?_;apply Za;(·exact Qa);apply Za;(·exact Qw);apply Za;(·exact Qj);apply Za;(·exact Qy);apply Za;(·exact Ql);apply Za;(·exact Qm);apply Za;(·exact Qj);refine Zc (fun v w=>Own 4 w 0 v (Ea.gd.map encT)) (fun _ _ _ h hx=>h.ext hx) ?_ ?_;(·exact Qo);refine Zc (eqv (.bool true)) (Zg _) ?_ ?_;(·exact Qi);intro V wT hxT hf;obtain⟨g30,g31,g32,g33,g34,g35,g36,g37,g38,_⟩:=hf;simp only[fillA,F1,O1,Act.put,V1,N1,L1];have q38:V 38=_:=g38;rw[q38];have HW2:=A0 (HW.out.trans hxT);refine Zb 9 G0 rfl (fun K hK=> ?_);go_simp;refine hK _ _ ?_;clear hK K;refine⟨rfl,?_⟩;clear HW;have HW:=HW2;clear HW2;go_wp2_with fail;refine(HRL.out _ HW.out).mono ?_;rintro e w5 ⟨rfl,hx5⟩;have HW2:=A0 (HW.out.trans hx5);clear HW hx5;have HW:=HW2;clear HW2;go_wp2_with fail;refine(HRR.out _ HW.out).mono ?_;rintro e w5 ⟨rfl,hx5⟩;have HW2:=A0 (HW.out.trans hx5);clear HW hx5;have HW:=HW2;clear HW2;go_wp2_with fail;refine Zh 4 14 rfl [76,77,78,79] [[],[0],[],[1,2]] G0 G0 ?_;apply Za;(·exact Qa);apply Za;(·exact TN);refine Zc (fun v w=>Own 4 w 0 v (Ea.md.map encT)) (fun _ _ _ h hx=>h.ext hx) ?_ ?_;(·exact QN);refine Zc (eqv (.bool true)) (Zg _) ?_ ?_;(·exact QL);intro V wT hxT hf;obtain⟨g76,g77,g78,g79,_⟩:=hf;simp only[fillA,F1,O1,Act.put,V1,N1,L1];have q79:V 79=_:=g79;rw[q79];have HW2:=A0 (HW.out.trans hxT);refine Zb 4 G0 rfl (fun K hK=> ?_);go_simp;refine hK _ _ ?_;clear hK K;refine Zb 5 G0 rfl (fun K hK=> ?_);go_simp;refine hK _ _ ?_;clear hK K;refine Zb 6 G0 rfl (fun K hK=> ?_);go_simp;refine hK _ _ ?_;clear hK K;refine Zb 7 G0 rfl (fun K hK=> ?_);go_simp;refine hK _ _ ?_;clear hK K;refine Zb 8 G0 rfl (fun K hK=> ?_);go_simp;refine hK _ _ ?_;clear hK K;refine Zb 9 G0 rfl (fun K hK=> ?_);go_simp;refine hK _ _ ?_;clear hK K;refine Zb 10 G0 rfl (fun K hK=> ?_);go_simp;refine hK _ _ ?_;clear hK K;refine Zb 11 G0 rfl (fun K hK=> ?_);go_simp;refine hK _ _ ?_;clear hK K;refine Zb 12 G0 rfl (fun K hK=> ?_);go_simp;refine hK _ _ ?_;clear hK K;refine Zb 13 G0 rfl (fun K hK=> ?_);go_simp;refine hK _ _ ?_;clear hK K;refine Zb 14 G0 rfl (fun K hK=> ?_);go_simp;refine hK _ _ ?_;clear hK K;refine Zb 15 G0 rfl (fun K hK=> ?_);go_simp;refine(HF13.out _).mono ?_;rintro e w6 ⟨rfl,hx6⟩;refine hK _ _ ?_;clear hK K;have HW3:=A0 (HW2.out.trans hx6);clear HW2 hx6;have HW2:=HW3;clear HW3;exact lM
      |some d=>have hd10:=(Ea.find13_some hfd).1;rw[hfd]at HX2 HF13;rw[show noV (some d)=(d:Int)from rfl]at HF13;have HDG:=A0 (fun w=>BP d hd10 w);have HD10:=A0 hd10;obtain⟨DG,hDG⟩:∃DG,Ea.bS [Ea.chr d]=DG:=⟨_,rfl⟩;have hDs:DG.size<=1:=(by rw[<-hDG];exact W9);rw[hDG]at HDG;obtain⟨T,hT⟩:∃T,DG++L++R=T:=⟨_,rfl⟩;have HTL:Hid (T.data.toList=Ea.chr d::(l++r)):=A0 (by rw[<-hT,<-hDG];simp only[Y3,F4,HTX.out.1,HTX.out.2.1,Ea.bS_list];simp);have hTz:T.size=13:=lN;dsimp only[Option.map]at HX2;obtain⟨tl,htl⟩:∃tl,Ea.chr d::(l++r)=tl:=⟨_,rfl⟩;have H0:Hid (tl.getD 0 0=Ea.chr d):=A0 (by rw[<-htl];rfl);rw[htl]at HX2 HTL;have HT:=A0 hT;clear htl hDG hfd HTX hT hd10;have HFU:=A0 (fun w=>BK 1 T B0 w);rw[HTL.out]at HFU;obtain⟨fe,hfe⟩:∃fe,Ea.full 1 tl=fe:=⟨_,rfl⟩;rw[hfe]at HFU HX2;have hTl:13<=T.size:=B0;have hTu:T.size<=13:=B0;clear hfe hTz;by_cases hf0:fe=0;(·rw[C0 (fun h=>h hf0)]at HX2;have hfb:(fe !=0)=false:=(by rw[hf0];rfl);clear hf0;have hT0:0<T.size:=B0;have e0:T[0]=Ea.chr d:=(by rw[<-H0.out,<-HTL.out,U0,M0 (by rw[Zd];exact hT0)];rfl);by_cases hd0:d=0;(·have hb0:((T[0].toNat:Int)==48)=true:=(by rw[e0,hd0];rfl);have HG:Hid (res=((3,tl.drop 1),0)):=A0 (by rw[<-HX2.out,D0 ⟨rfl,by rw[H0.out,hd0];rfl⟩]);have HE:Hid (T.extract 1 T.size=Ea.bS (tl.drop 1)):=A0 (by rw[<-HTL.out,<-ZD,Ea.bS_of]);clear e0 hd0 HX2;go_enter func220,ntmps220;go_wp2_with fail;refine Zh 4 1 rfl [25,26,27,28] [[],[0],[],[1,2]] G0 G0 ?_;apply Za;(·exact Qa);apply Za;(·exact Qt);refine Zc (fun v w=>Own 4 w 0 v (Ea.gd.map encT)) (fun _ _ _ h hx=>h.ext hx) ?_ ?_;(·exact Qr);refine Zc (eqv (.bool true)) (Zg _) ?_ ?_;(·exact Qg);intro V wT hxT hf;obtain⟨g25,g26,g27,g28,_⟩:=hf;simp only[fillA,F1,O1,Act.put,V1,N1,L1];have q28:V 28=_:=g28;rw[q28];have HW2:=A0 (HW.out.trans hxT);refine Zb 4 G0 rfl (fun K hK=> ?_);go_simp;refine hK _ _ ?_;clear hK K;refine⟨rfl,?_⟩;clear HW;have HW:=HW2;clear HW2;go_wp2_with fail;refine Zh 9 1 rfl [30,31,32,33,34,35,36,37,38] [[],[],[],[2],[1,3],[0,4],[],[6],[5,7]] G0 G0 ?_;apply Za;(·exact Qa);apply Za;(·exact Qw);apply Za;(·exact Qj);apply Za;(·exact Qy);apply Za;(·exact Ql);apply Za;(·exact Qm);apply Za;(·exact Qj);refine Zc (fun v w=>Own 4 w 0 v (Ea.gd.map encT)) (fun _ _ _ h hx=>h.ext hx) ?_ ?_;(·exact Qo);refine Zc (eqv (.bool true)) (Zg _) ?_ ?_;(·exact Qi);intro V wT hxT hf;obtain⟨g30,g31,g32,g33,g34,g35,g36,g37,g38,_⟩:=hf;simp only[fillA,F1,O1,Act.put,V1,N1,L1];have q38:V 38=_:=g38;rw[q38];have HW2:=A0 (HW.out.trans hxT);refine Zb 9 G0 rfl (fun K hK=> ?_);go_simp;refine hK _ _ ?_;clear hK K;refine⟨rfl,?_⟩;clear HW;have HW:=HW2;clear HW2;go_wp2_with fail;refine(HRL.out _ HW.out).mono ?_;rintro e w5 ⟨rfl,hx5⟩;have HW2:=A0 (HW.out.trans hx5);clear HW hx5;have HW:=HW2;clear HW2;go_wp2_with fail;refine(HRR.out _ HW.out).mono ?_;rintro e w5 ⟨rfl,hx5⟩;have HW2:=A0 (HW.out.trans hx5);clear HW hx5;have HW:=HW2;clear HW2;go_wp2_with fail;refine Zh 4 14 rfl [76,77,78,79] [[],[0],[],[1,2]] G0 G0 ?_;apply Za;(·exact Qa);apply Za;(·exact TN);refine Zc (fun v w=>Own 4 w 0 v (Ea.md.map encT)) (fun _ _ _ h hx=>h.ext hx) ?_ ?_;(·exact QN);refine Zc (eqv (.bool true)) (Zg _) ?_ ?_;(·exact QL);intro V wT hxT hf;obtain⟨g76,g77,g78,g79,_⟩:=hf;simp only[fillA,F1,O1,Act.put,V1,N1,L1];have q79:V 79=_:=g79;rw[q79];have HW2:=A0 (HW.out.trans hxT);refine Zb 4 G0 rfl (fun K hK=> ?_);go_simp;refine hK _ _ ?_;clear hK K;refine Zb 5 G0 rfl (fun K hK=> ?_);go_simp;refine hK _ _ ?_;clear hK K;refine Zb 6 G0 rfl (fun K hK=> ?_);go_simp;refine hK _ _ ?_;clear hK K;refine Zb 7 G0 rfl (fun K hK=> ?_);go_simp;refine hK _ _ ?_;clear hK K;refine Zb 8 G0 rfl (fun K hK=> ?_);go_simp;refine hK _ _ ?_;clear hK K;refine Zb 9 G0 rfl (fun K hK=> ?_);go_simp;refine hK _ _ ?_;clear hK K;refine Zb 10 G0 rfl (fun K hK=> ?_);go_simp;refine hK _ _ ?_;clear hK K;refine Zb 11 G0 rfl (fun K hK=> ?_);go_simp;refine hK _ _ ?_;clear hK K;refine Zb 12 G0 rfl (fun K hK=> ?_);go_simp;refine hK _ _ ?_;clear hK K;refine Zb 13 G0 rfl (fun K hK=> ?_);go_simp;refine hK _ _ ?_;clear hK K;refine Zb 14 G0 rfl (fun K hK=> ?_);go_simp;refine hK _ _ ?_;clear hK K;refine Zb 15 G0 rfl (fun K hK=> ?_);go_simp;refine(HF13.out _).mono ?_;rintro e w6 ⟨rfl,hx6⟩;refine hK _ _ ?_;clear hK K;have HW3:=A0 (HW2.out.trans hx6);clear HW2 hx6;have HW2:=HW3;clear HW3;refine Zb 16 G0 rfl (fun K hK=> ?_);go_simp;refine hK _ _ ?_;clear hK K;refine Zb 17 G0 rfl (fun K hK=> ?_);go_simp;refine hK _ _ ?_;clear hK K;refine⟨rfl,?_⟩;clear HW;have HW:=HW2;clear HW2;go_wp2_with fail;refine(HF13.out _).mono ?_;rintro e w7 ⟨rfl,hx7⟩;go_wp2_with fail;refine(HDG.out _).mono ?_;rintro e w8 ⟨rfl,hx8⟩;have HW2:=A0 (HW.out.trans (hx7.trans hx8));clear HW hx7 hx8;have HW:=HW2;clear HW2;go_wp2_with fail;rw[HT.out];refine(HFU.out _).mono ?_;rintro e w9 ⟨rfl,hx9⟩;have HW2:=A0 (HW.out.trans hx9);clear HW hx9;have HW:=HW2;clear HW2;go_wp2_with fail;go_quiet (fail);go_wp2;go_ret3;exact⟨by rw[HG.out];unfold ZZ;dsimp only;rw[<-HE.out];rfl,HW.out.drewN _⟩);·have hb0:((T[0].toNat:Int)==48)=false:=(by rw[e0,N0];have:=Ea.chr_nat HD10.out;unfold Ea.chr;omega);have HG:Hid (res=((1,tl),0)):=A0 (by rw[<-HX2.out,C0];rintro⟨_,h⟩;rw[H0.out]at h;have:=R0 UInt8.toNat h;have h2:=Ea.chr_nat HD10.out;unfold Ea.chr at this;rw[h2,show(48:UInt8).toNat=48 from rfl]at this;exact hd0 B0);have HE:Hid (T=Ea.bS tl):=A0 AY;clear e0 hd0 HX2;go_enter func220,ntmps220;go_wp2_with fail;refine Zh 4 1 rfl [25,26,27,28] [[],[0],[],[1,2]] G0 G0 ?_;apply Za;(·exact Qa);apply Za;(·exact Qt);refine Zc (fun v w=>Own 4 w 0 v (Ea.gd.map encT)) (fun _ _ _ h hx=>h.ext hx) ?_ ?_;(·exact Qr);refine Zc (eqv (.bool true)) (Zg _) ?_ ?_;(·exact Qg);intro V wT hxT hf;obtain⟨g25,g26,g27,g28,_⟩:=hf;simp only[fillA,F1,O1,Act.put,V1,N1,L1];have q28:V 28=_:=g28;rw[q28];have HW2:=A0 (HW.out.trans hxT);refine Zb 4 G0 rfl (fun K hK=> ?_);go_simp;refine hK _ _ ?_;clear hK K;refine⟨rfl,?_⟩;clear HW;have HW:=HW2;clear HW2;go_wp2_with fail;refine Zh 9 1 rfl [30,31,32,33,34,35,36,37,38] [[],[],[],[2],[1,3],[0,4],[],[6],[5,7]] G0 G0 ?_;apply Za;(·exact Qa);apply Za;(·exact Qw);apply Za;(·exact Qj);apply Za;(·exact Qy);apply Za;(·exact Ql);apply Za;(·exact Qm);apply Za;(·exact Qj);refine Zc (fun v w=>Own 4 w 0 v (Ea.gd.map encT)) (fun _ _ _ h hx=>h.ext hx) ?_ ?_;(·exact Qo);refine Zc (eqv (.bool true)) (Zg _) ?_ ?_;(·exact Qi);intro V wT hxT hf;obtain⟨g30,g31,g32,g33,g34,g35,g36,g37,g38,_⟩:=hf;simp only[fillA,F1,O1,Act.put,V1,N1,L1];have q38:V 38=_:=g38;rw[q38];have HW2:=A0 (HW.out.trans hxT);refine Zb 9 G0 rfl (fun K hK=> ?_);go_simp;refine hK _ _ ?_;clear hK K;refine⟨rfl,?_⟩;clear HW;have HW:=HW2;clear HW2;go_wp2_with fail;refine(HRL.out _ HW.out).mono ?_;rintro e w5 ⟨rfl,hx5⟩;have HW2:=A0 (HW.out.trans hx5);clear HW hx5;have HW:=HW2;clear HW2;go_wp2_with fail;refine(HRR.out _ HW.out).mono ?_;rintro e w5 ⟨rfl,hx5⟩;have HW2:=A0 (HW.out.trans hx5);clear HW hx5;have HW:=HW2;clear HW2;go_wp2_with fail;refine Zh 4 14 rfl [76,77,78,79] [[],[0],[],[1,2]] G0 G0 ?_;apply Za;(·exact Qa);apply Za;(·exact TN);refine Zc (fun v w=>Own 4 w 0 v (Ea.md.map encT)) (fun _ _ _ h hx=>h.ext hx) ?_ ?_;(·exact QN);refine Zc (eqv (.bool true)) (Zg _) ?_ ?_;(·exact QL);intro V wT hxT hf;obtain⟨g76,g77,g78,g79,_⟩:=hf;simp only[fillA,F1,O1,Act.put,V1,N1,L1];have q79:V 79=_:=g79;rw[q79];have HW2:=A0 (HW.out.trans hxT);refine Zb 4 G0 rfl (fun K hK=> ?_);go_simp;refine hK _ _ ?_;clear hK K;refine Zb 5 G0 rfl (fun K hK=> ?_);go_simp;refine hK _ _ ?_;clear hK K;refine Zb 6 G0 rfl (fun K hK=> ?_);go_simp;refine hK _ _ ?_;clear hK K;refine Zb 7 G0 rfl (fun K hK=> ?_);go_simp;refine hK _ _ ?_;clear hK K;refine Zb 8 G0 rfl (fun K hK=> ?_);go_simp;refine hK _ _ ?_;clear hK K;refine Zb 9 G0 rfl (fun K hK=> ?_);go_simp;refine hK _ _ ?_;clear hK K;refine Zb 10 G0 rfl (fun K hK=> ?_);go_simp;refine hK _ _ ?_;clear hK K;refine Zb 11 G0 rfl (fun K hK=> ?_);go_simp;refine hK _ _ ?_;clear hK K;refine Zb 12 G0 rfl (fun K hK=> ?_);go_simp;refine hK _ _ ?_;clear hK K;refine Zb 13 G0 rfl (fun K hK=> ?_);go_simp;refine hK _ _ ?_;clear hK K;refine Zb 14 G0 rfl (fun K hK=> ?_);go_simp;refine hK _ _ ?_;clear hK K;refine Zb 15 G0 rfl (fun K hK=> ?_);go_simp;refine(HF13.out _).mono ?_;rintro e w6 ⟨rfl,hx6⟩;refine hK _ _ ?_;clear hK K;have HW3:=A0 (HW2.out.trans hx6);clear HW2 hx6;have HW2:=HW3;clear HW3;refine Zb 16 G0 rfl (fun K hK=> ?_);go_simp;refine hK _ _ ?_;clear hK K;refine Zb 17 G0 rfl (fun K hK=> ?_);go_simp;refine hK _ _ ?_;clear hK K;refine⟨rfl,?_⟩;clear HW;have HW:=HW2;clear HW2;go_wp2_with fail;refine(HF13.out _).mono ?_;rintro e w7 ⟨rfl,hx7⟩;go_wp2_with fail;refine(HDG.out _).mono ?_;exact lO);·rw[D0 hf0]at HX2;have HG:Hid (res=((0,[]),8)):=A0 (HX2.out.symm);have hfb:(fe !=0)=true:=C3.2 hf0;clear hf0 HX2;go_enter func220,ntmps220;go_wp2_with fail;refine Zh 4 1 rfl [25,26,27,28] [[],[0],[],[1,2]] G0 G0 ?_;apply Za;(·exact Qa);apply Za;(·exact Qt);refine Zc (fun v w=>Own 4 w 0 v (Ea.gd.map encT)) (fun _ _ _ h hx=>h.ext hx) ?_ ?_;(·exact Qr);refine Zc (eqv (.bool true)) (Zg _) ?_ ?_;(·exact Qg);intro V wT hxT hf;obtain⟨g25,g26,g27,g28,_⟩:=hf;simp only[fillA,F1,O1,Act.put,V1,N1,L1];have q28:V 28=_:=g28;rw[q28];have HW2:=A0 (HW.out.trans hxT);refine Zb 4 G0 rfl (fun K hK=> ?_);go_simp;refine hK _ _ ?_;clear hK K;refine⟨rfl,?_⟩;clear HW;have HW:=HW2;clear HW2;go_wp2_with fail;refine Zh 9 1 rfl [30,31,32,33,34,35,36,37,38] [[],[],[],[2],[1,3],[0,4],[],[6],[5,7]] G0 G0 ?_;apply Za;(·exact Qa);apply Za;(·exact Qw);apply Za;(·exact Qj);apply Za;(·exact Qy);apply Za;(·exact Ql);apply Za;(·exact Qm);apply Za;(·exact Qj);refine Zc (fun v w=>Own 4 w 0 v (Ea.gd.map encT)) (fun _ _ _ h hx=>h.ext hx) ?_ ?_;(·exact Qo);refine Zc (eqv (.bool true)) (Zg _) ?_ ?_;(·exact Qi);intro V wT hxT hf;obtain⟨g30,g31,g32,g33,g34,g35,g36,g37,g38,_⟩:=hf;simp only[fillA,F1,O1,Act.put,V1,N1,L1];have q38:V 38=_:=g38;rw[q38];have HW2:=A0 (HW.out.trans hxT);refine Zb 9 G0 rfl (fun K hK=> ?_);go_simp;refine hK _ _ ?_;clear hK K;refine⟨rfl,?_⟩;clear HW;have HW:=HW2;clear HW2;go_wp2_with fail;refine(HRL.out _ HW.out).mono ?_;rintro e w5 ⟨rfl,hx5⟩;have HW2:=A0 (HW.out.trans hx5);clear HW hx5;have HW:=HW2;clear HW2;go_wp2_with fail;refine(HRR.out _ HW.out).mono ?_;rintro e w5 ⟨rfl,hx5⟩;have HW2:=A0 (HW.out.trans hx5);clear HW hx5;have HW:=HW2;clear HW2;go_wp2_with fail;refine Zh 4 14 rfl [76,77,78,79] [[],[0],[],[1,2]] G0 G0 ?_;apply Za;(·exact Qa);apply Za;(·exact TN);refine Zc (fun v w=>Own 4 w 0 v (Ea.md.map encT)) (fun _ _ _ h hx=>h.ext hx) ?_ ?_;(·exact QN);refine Zc (eqv (.bool true)) (Zg _) ?_ ?_;(·exact QL);intro V wT hxT hf;obtain⟨g76,g77,g78,g79,_⟩:=hf;simp only[fillA,F1,O1,Act.put,V1,N1,L1];have q79:V 79=_:=g79;rw[q79];have HW2:=A0 (HW.out.trans hxT);refine Zb 4 G0 rfl (fun K hK=> ?_);go_simp;refine hK _ _ ?_;clear hK K;refine Zb 5 G0 rfl (fun K hK=> ?_);go_simp;refine hK _ _ ?_;clear hK K;refine Zb 6 G0 rfl (fun K hK=> ?_);go_simp;refine hK _ _ ?_;clear hK K;refine Zb 7 G0 rfl (fun K hK=> ?_);go_simp;refine hK _ _ ?_;clear hK K;refine Zb 8 G0 rfl (fun K hK=> ?_);go_simp;refine hK _ _ ?_;clear hK K;refine Zb 9 G0 rfl (fun K hK=> ?_);go_simp;refine hK _ _ ?_;clear hK K;refine Zb 10 G0 rfl (fun K hK=> ?_);go_simp;refine hK _ _ ?_;clear hK K;refine Zb 11 G0 rfl (fun K hK=> ?_);go_simp;refine hK _ _ ?_;clear hK K;refine Zb 12 G0 rfl (fun K hK=> ?_);go_simp;refine hK _ _ ?_;clear hK K;refine Zb 13 G0 rfl (fun K hK=> ?_);go_simp;refine hK _ _ ?_;clear hK K;refine Zb 14 G0 rfl (fun K hK=> ?_);go_simp;refine hK _ _ ?_;clear hK K;refine Zb 15 G0 rfl (fun K hK=> ?_);go_simp;refine(HF13.out _).mono ?_;rintro e w6 ⟨rfl,hx6⟩;refine hK _ _ ?_;clear hK K;have HW3:=A0 (HW2.out.trans hx6);clear HW2 hx6;have HW2:=HW3;clear HW3;refine Zb 16 G0 rfl (fun K hK=> ?_);go_simp;refine hK _ _ ?_;clear hK K;refine Zb 17 G0 rfl (fun K hK=> ?_);go_simp;refine hK _ _ ?_;clear hK K;refine⟨rfl,?_⟩;clear HW;have HW:=HW2;clear HW2;go_wp2_with fail;refine(HF13.out _).mono ?_;rintro e w7 ⟨rfl,hx7⟩;go_wp2_with fail;refine(HDG.out _).mono ?_;exact lP
  ·exact Qn
 ·exact Qx
end
end Go.Proofs.YtbngggoccndefaaGreatDoor
