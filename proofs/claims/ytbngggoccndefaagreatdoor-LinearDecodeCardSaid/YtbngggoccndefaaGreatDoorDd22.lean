/-
  Laid together.
-/
import Derived.Test.YtbngggoccndefaaGreatDoorDd18
set_option maxHeartbeats 16000000
set_option maxRecDepth 100000
set_option linter.unusedVariables false
set_option linter.unusedSimpArgs false
set_option linter.ambiguousOpen false
namespace Go.Proofs.YtbngggoccndefaaGreatDoor
open Go.Proofs.Tryz
section
open Go.RowKit
def EqTo (w:World) (pv:Value) (md:List Bool) (b:Bool):Prop:=∀w' B u,Ext w w'->Own 4 w' B u (md.map encT)->Calls prog 256 #[pv,u] w' fun e w''=>e=.returned (.bool b)∧Ext w' w''
theorem ZK {w:World} {pv:Value} {p md:List Bool} (h:SlK w pv (p.map encT)) (hp:p.length<=1000000) (hm:md.length<=1000000):EqTo w pv md (decide (p=md)):=
 fun w' _ u hx ho=>ZbI pv u p md w' (h.ext hx) ho.slk hp hm
theorem ZY {both:Bool} {t gap:Nat} (ht:t<3):∀ {n:Nat} {s:List Bool} {l:List UInt8} {us:List Nat},Ea.rcg both t gap n s=some (l,us)->l.length=n∧us.length=n∧Ea.digs l=true∧∀u∈us,u<3:=by
 intro n
 induction n with
 |zero=>intro s l u h;cases h;exact⟨rfl,rfl,rfl,by simp⟩
 |succ n ih=>
  intro s l u h
  rw[Ea.rcg]at h
  cases h1:Ea.look both t (s.take 7)with
  |none=>rw[h1]at h;cases h
  |some p=>
   obtain⟨d,x⟩:=p
   rw[h1]at h
   dsimp only at h
   cases h2:Ea.rcg both t gap n (s.drop (7+gap))with
   |none=>rw[h2]at h;cases h
   |some q=>obtain⟨ds,us⟩:=q;rw[h2]at h;cases h;obtain⟨i1,i2,i3,i4⟩:=ih h2;obtain⟨j1,_,j3⟩:=Ea.look_some ht h1;refine⟨by simp[i1],by simp[i2],Ea.digs_cons (by rw[Ea.chr_nat j1];omega) i3,?_⟩;intro z hz;rcases Zn8.1 hz with rfl|hz;(·exact Ea.may_lt ht j3);·exact i4 z hz
def xsymV (r:(Int×List UInt8)×Int):Value:=.tuple #[.int .i64 r.1.1,.string (Ea.bS r.1.2),.int .i64 r.2]
theorem ZO (r:Option (List UInt8×List Nat)) (n:Nat) (hn:0<n) (h:∀l u,r=some (l,u)->l.length=n):
 ∃L U,readV r=.tuple #[.string L,.string U]∧L.toList.isEmpty=r.isNone∧L.size<=n∧(∀l u,r=some (l,u)->L.data.toList=l∧U.data.toList=zS u)∧(r=none->U.data.toList=zS []):=by
 cases r with
 |none=>exact⟨_,_,rfl,by rw[Znk];rfl,ZmP _,fun l u e=>by(cases e),fun _=>rfl⟩
 |some q=>
  obtain⟨l,u⟩:=q;have hl:=h l u rfl;refine⟨_,_,rfl,?_,?_,fun l' u' e=>by cases e;exact⟨rfl,rfl⟩,fun e=>by cases e⟩
  ·rw[Znk,Ea.bS_list]
   cases l with
   |nil=>rw[<-hl]at hn;cases hn
   |cons x l=>rfl
  ·rw[Zc (Ea.bS_list l),hl];exact Qd0
theorem Zhi (v:Value) (m:List Bool) (w:World) (hv:SlK w v (m.map encT)) (hm:m.length=95):
 Calls prog 220 #[v] w fun e w'=>e=.returned (xsymV (Ea.rdSym 95 m))∧Ext w w':=by
 obtain⟨res,hres⟩:∃res,Ea.rdSym 95 m=res:=⟨_,rfl⟩
 rw[hres]
 have HX:=ZmE hres
 unfold Ea.rdSym at HX
 rw[show(Ea.stp 95).length=3 from rfl,show Ea.stp 95=Ea.gd from rfl,show(95-3:Nat)=92 from rfl,show Ea.kindOf 95=1 from rfl,show Ea.rdK 95 m=Ea.rd13 m from rfl]at HX
 obtain⟨p1,hp1,hq1⟩:=ZI hv 3 QhR
 obtain⟨p2,hp2,hq2⟩:=Zae hv 92 QhR
 rw[<-Zn5]at hq1
 rw[<-Zn6]at hq2
 have HE1:=ZmE (ZK (md:=Ea.gd) hq1 QhS QhP)
 have HE2:=ZmE (ZK (md:=Ea.gd) hq2 Qh0 QhP)
 have HMG:=ZmE (fun w=>Z1 ⟨#[49,48,49]⟩ Ea.gd rfl QhP w)
 have HMS:=ZmE (fun w=>Z1 ⟨#[49,48,49]⟩ Ea.gd rfl QhP w)
 obtain⟨p3,hp3,hq3⟩:=Z7 hv 45 50 QhN QhR
 rw[<-Zn6,<-Zn5]at hq3
 have HE3:=ZmE (ZK (md:=Ea.md) hq3 QhS QhP)
 have HMM:=ZmE (fun w=>Z1 ⟨#[48,49,48,49,48]⟩ Ea.md rfl QhP w)
 have HRL:=ZmE (fun w' (h:Ext w w')=>Zat v m 3 6 0 0 0 1 true w' (hv.ext h) QhN QhN QhN ⟨rfl,rfl⟩ QhN QhN)
 have HRR:=ZmE (fun w' (h:Ext w w')=>Zat v m 50 6 0 2 2 2 false w' (hv.ext h) QhN QhN QhN ⟨rfl,rfl⟩ QhN QhN)
 obtain⟨_,a,c,rfl,hc⟩:=hv
 rw[ZmI]at hp1 hp2 hp3 HRL HRR⊢
 rw[show((3:Nat):Int)=3 from rfl]at hp1 HRL
 rw[show((92:Nat):Int)=92 from rfl]at hp2
 rw[show((45:Nat):Int)=45 from rfl,show((50:Nat):Int)=50 from rfl]at hp3
 rw[show((6:Nat):Int)=6 from rfl,show((1:Nat):Int)=1 from rfl,show((0:Nat):Int)=0 from rfl]at HRL
 rw[show((50:Nat):Int)=50 from rfl,show((6:Nat):Int)=6 from rfl,show((2:Nat):Int)=2 from rfl,show((0:Nat):Int)=0 from rfl]at HRR
 have b51:((m.length:Int)==51)=false:=by rw[hm];rfl
 have b95:((m.length:Int)==95)=true:=by rw[hm];rfl
 have b67:((m.length:Int)==67)=false:=by rw[hm];rfl
 have e92:(m.length:Int)-3=92:=by omega
 have w92:IntKind.i64.wrap (92:Int)=92:=ZnB _ QhN
 have HLN:=ZmE hm
 clear hq1 hq2 hq3 hres hc hm
 have HW:Hid (Ext w w):=ZmE (Ext.refl w)
 by_cases g1:m.take 3=Ea.gd
 ·rw[ZmF (fun h=>h g1)]at HX;rw[ZmR g1]at HE1;by_cases g2:m.drop 92=Ea.gd
  ·rw[ZmF (fun h=>h g2)]at HX
   rw[ZmR g2]at HE2
   clear g1 g2
   unfold Ea.rd13 at HX
   obtain⟨lo,hlo⟩:∃lo,Ea.rcg true 0 0 6 (m.drop 3)=lo:=⟨_,rfl⟩
   obtain⟨ro,hro⟩:∃ro,Ea.rcg false 2 0 6 (m.drop 50)=ro:=⟨_,rfl⟩
   have HLF:=ZmE (fun l u (e:lo=some (l,u))=>ZY QhN (hlo.trans e))
   have HRF:=ZmE (fun l u (e:ro=some (l,u))=>ZY QhN (hro.trans e))
   rw[hlo]at HX HRL
   rw[hro]at HX HRR
   obtain⟨L,U,hLU,hLe,hLs,hL1,hL0⟩:=ZO lo 6 QhN (fun l u e=>(HLF.out l u e).1)
   obtain⟨R,U2,hRU,hRe,hRs,hR1,_⟩:=ZO ro 6 QhN (fun l u e=>(HRF.out l u e).1)
   rw[hLU]at HRL
   rw[hRU]at HRR
   have HL1:=ZmE hL1
   have HR1:=ZmE hR1
   clear hlo hro hLU hRU hL1 hL0 hR1
   obtain⟨b3,hb3⟩:∃b,decide ((m.drop 45).take 5=Ea.md)=b:=⟨_,rfl⟩
   rw[show(50-45:Nat)=5 from rfl,hb3]at HE3
   have HB3:=ZmE hb3
   clear hb3
   have HN:Hid (b3=false∨lo.isNone=true∨ro.isNone=true->res=((0,[]),18)):=ZmE (fun h=>by
    rw[<-HX.out]
    cases lo with
    |none=>rfl
    |some q=>cases ro with
     |none=>rfl
     |some r=>rcases h with h|h|h;(·exact Qfh);(·cases h);·cases h)
   cases b3 with
   |false=>have HG:=ZmE (HN.out (.inl rfl));clear HN HX;go_enter func220,ntmps220;go_wp2_with fail;refine wp_region_rel 4 1 rfl [25,26,27,28] [[],[0],[],[1,2]] QhO QhO ?_;apply relPlan_eq';(·exact Qa);apply relPlan_eq';(·exact Qt);refine relPlan_by (fun v w=>Own 4 w 0 v (Ea.gd.map encT)) (fun _ _ _ h hx=>h.ext hx) ?_ ?_;(·exact Qr);refine relPlan_by (eqv (.bool true)) (eqv_stable _) ?_ ?_;(·exact Qg);intro V wT hxT hf;obtain⟨g25,g26,g27,g28,_⟩:=hf;simp only[fillA,ZmX,Zni,Act.put,ZmO,ZmV,ZmU];have q28:V 28=_:=g28;rw[q28];have HW2:=ZmE (HW.out.trans hxT);refine Za 4 QhO rfl (fun K hK=> ?_);go_simp;refine hK _ _ ?_;clear hK K;refine⟨rfl,?_⟩;clear HW;have HW:=HW2;clear HW2;go_wp2_with fail;refine wp_region_rel 9 1 rfl [30,31,32,33,34,35,36,37,38] [[],[],[],[2],[1,3],[0,4],[],[6],[5,7]] QhO QhO ?_;apply relPlan_eq';(·exact Qa);apply relPlan_eq';(·exact Qw);apply relPlan_eq';(·exact Qj);apply relPlan_eq';(·exact Qy);apply relPlan_eq';(·exact Ql);apply relPlan_eq';(·exact Qm);apply relPlan_eq';(·exact Qj);refine relPlan_by (fun v w=>Own 4 w 0 v (Ea.gd.map encT)) (fun _ _ _ h hx=>h.ext hx) ?_ ?_;(·exact Qo);refine relPlan_by (eqv (.bool true)) (eqv_stable _) ?_ ?_;(·exact Qi);intro V wT hxT hf;obtain⟨g30,g31,g32,g33,g34,g35,g36,g37,g38,_⟩:=hf;simp only[fillA,ZmX,Zni,Act.put,ZmO,ZmV,ZmU];have q38:V 38=_:=g38;rw[q38];have HW2:=ZmE (HW.out.trans hxT);refine Za 9 QhO rfl (fun K hK=> ?_);go_simp;refine hK _ _ ?_;clear hK K;refine⟨rfl,?_⟩;clear HW;have HW:=HW2;clear HW2;go_wp2_with fail;refine(HRL.out _ HW.out).mono ?_;rintro e w5 ⟨rfl,hx5⟩;have HW2:=ZmE (HW.out.trans hx5);clear HW hx5;have HW:=HW2;clear HW2;go_wp2_with fail;refine(HRR.out _ HW.out).mono ?_;rintro e w5 ⟨rfl,hx5⟩;have HW2:=ZmE (HW.out.trans hx5);clear HW hx5;have HW:=HW2;clear HW2;go_wp2_with fail;refine wp_region_rel 4 14 rfl [76,77,78,79] [[],[0],[],[1,2]] QhO QhO ?_;apply relPlan_eq';(·exact Qa);apply relPlan_eq';(·exact Qaa);refine relPlan_by (fun v w=>Own 4 w 0 v (Ea.md.map encT)) (fun _ _ _ h hx=>h.ext hx) ?_ ?_;(·exact QN);refine relPlan_by (eqv (.bool false)) (eqv_stable _) ?_ ?_;(·exact QL);intro V wT hxT hf;obtain⟨g76,g77,g78,g79,_⟩:=hf;simp only[fillA,ZmX,Zni,Act.put,ZmO,ZmV,ZmU];have q79:V 79=_:=g79;rw[q79];have HW2:=ZmE (HW.out.trans hxT);refine Za 4 QhO rfl (fun K hK=> ?_);go_simp;refine hK _ _ ?_;clear hK K;refine Za 5 QhO rfl (fun K hK=> ?_);go_simp;refine hK _ _ ?_;clear hK K;refine Za 6 QhO rfl (fun K hK=> ?_);go_simp;refine hK _ _ ?_;clear hK K;refine Za 7 QhO rfl (fun K hK=> ?_);go_simp;refine hK _ _ ?_;clear hK K;refine Za 8 QhO rfl (fun K hK=> ?_);go_simp;refine hK _ _ ?_;clear hK K;refine Za 9 QhO rfl (fun K hK=> ?_);go_simp;refine hK _ _ ?_;clear hK K;refine Za 10 QhO rfl (fun K hK=> ?_);go_simp;refine hK _ _ ?_;clear hK K;refine Za 11 QhO rfl (fun K hK=> ?_);go_simp;refine hK _ _ ?_;clear hK K;refine Za 12 QhO rfl (fun K hK=> ?_);go_simp;refine hK _ _ ?_;clear hK K;refine Za 13 QhO rfl (fun K hK=> ?_);go_simp;refine hK _ _ ?_;clear hK K;refine Za 14 QhO rfl (fun K hK=> ?_);go_simp;refine hK _ _ ?_;clear hK K;refine Za 15 QhO rfl (fun K hK=> ?_);go_simp;refine hK _ _ ?_;clear hK K;exact Qau
   |true=>
    cases hln:lo.isNone with
    |true=>rw[hln]at hLe;have HG:=ZmE (HN.out (.inr (.inl hln)));clear HN HX hln;exact Qe
    |false=>
     rw[hln]at hLe
     cases hrn:ro.isNone with
     |true=>rw[hrn]at hRe;have HG:=ZmE (HN.out (.inr (.inr hrn)));clear HN HX hrn hln;exact Qe
     |false=>
      rw[hrn]at hRe
      obtain⟨q,rfl⟩:=Zpu.1 (show lo.isSome=true by cases lo with|none=>cases hln|some q=>rfl)
      obtain⟨q2,rfl⟩:=Zpu.1 (show ro.isSome=true by cases ro with|none=>cases hrn|some q=>rfl)
      obtain⟨l,u⟩:=q
      obtain⟨r,u2⟩:=q2
      obtain⟨hLl,hUl⟩:=HL1.out l u rfl
      obtain⟨hRl,_⟩:=HR1.out r u2 rfl
      obtain⟨f1,f2,f3,f4⟩:=HLF.out l u rfl
      obtain⟨k1,k2,k3,k4⟩:=HRF.out r u2 rfl
      have HF13:=ZmE (fun w=>ZfP U u hUl (fun x hx=>by have:=f4 x hx;omega) w)
      have HX2:=ZmE HX.out
      dsimp only at HX2
      rw[ZmH (Zok HB3.out)]at HX2
      clear HX HN hln hrn HL1 HR1 HLF HRF
      have HTX:=ZmE (And.intro hLl (And.intro hRl (And.intro f1 k1)))
      clear hUl hLl hRl f1 f2 f3 f4 k1 k2 k3 k4
      cases hfd:Ea.find13 u with
      |none=>rw[hfd]at HX2 HF13;have HG:Hid (res=((0,[]),18)):=ZmE (by rw[<-HX2.out];rfl);rw[show noV none= -1 from rfl]at HF13;clear HX2 hfd;go_enter func220,ntmps220;go_wp2_with fail;refine wp_region_rel 4 1 rfl [25,26,27,28] [[],[0],[],[1,2]] QhO QhO ?_;apply relPlan_eq';(·exact Qa);apply relPlan_eq';(·exact Qt);refine relPlan_by (fun v w=>Own 4 w 0 v (Ea.gd.map encT)) (fun _ _ _ h hx=>h.ext hx) ?_ ?_;(·exact Qr);refine relPlan_by (eqv (.bool true)) (eqv_stable _) ?_ ?_;(·exact Qg);intro V wT hxT hf;obtain⟨g25,g26,g27,g28,_⟩:=hf;simp only[fillA,ZmX,Zni,Act.put,ZmO,ZmV,ZmU];have q28:V 28=_:=g28;rw[q28];have HW2:=ZmE (HW.out.trans hxT);refine Za 4 QhO rfl (fun K hK=> ?_);go_simp;refine hK _ _ ?_;clear hK K;refine⟨rfl,?_⟩;clear HW;have HW:=HW2;clear HW2;go_wp2_with fail;refine wp_region_rel 9 1 rfl [30,31,32,33,34,35,36,37,38] [[],[],[],[2],[1,3],[0,4],[],[6],[5,7]] QhO QhO ?_;apply relPlan_eq';(·exact Qa);apply relPlan_eq';(·exact Qw);apply relPlan_eq';(·exact Qj);apply relPlan_eq';(·exact Qy);apply relPlan_eq';(·exact Ql);apply relPlan_eq';(·exact Qm);apply relPlan_eq';(·exact Qj);refine relPlan_by (fun v w=>Own 4 w 0 v (Ea.gd.map encT)) (fun _ _ _ h hx=>h.ext hx) ?_ ?_;(·exact Qo);refine relPlan_by (eqv (.bool true)) (eqv_stable _) ?_ ?_;(·exact Qi);intro V wT hxT hf;obtain⟨g30,g31,g32,g33,g34,g35,g36,g37,g38,_⟩:=hf;simp only[fillA,ZmX,Zni,Act.put,ZmO,ZmV,ZmU];have q38:V 38=_:=g38;rw[q38];have HW2:=ZmE (HW.out.trans hxT);refine Za 9 QhO rfl (fun K hK=> ?_);go_simp;refine hK _ _ ?_;clear hK K;refine⟨rfl,?_⟩;clear HW;have HW:=HW2;clear HW2;go_wp2_with fail;refine(HRL.out _ HW.out).mono ?_;rintro e w5 ⟨rfl,hx5⟩;have HW2:=ZmE (HW.out.trans hx5);clear HW hx5;have HW:=HW2;clear HW2;go_wp2_with fail;refine(HRR.out _ HW.out).mono ?_;rintro e w5 ⟨rfl,hx5⟩;have HW2:=ZmE (HW.out.trans hx5);clear HW hx5;have HW:=HW2;clear HW2;go_wp2_with fail;refine wp_region_rel 4 14 rfl [76,77,78,79] [[],[0],[],[1,2]] QhO QhO ?_;apply relPlan_eq';(·exact Qa);apply relPlan_eq';(·exact Qaa);refine relPlan_by (fun v w=>Own 4 w 0 v (Ea.md.map encT)) (fun _ _ _ h hx=>h.ext hx) ?_ ?_;(·exact QN);refine relPlan_by (eqv (.bool true)) (eqv_stable _) ?_ ?_;(·exact QL);intro V wT hxT hf;obtain⟨g76,g77,g78,g79,_⟩:=hf;simp only[fillA,ZmX,Zni,Act.put,ZmO,ZmV,ZmU];have q79:V 79=_:=g79;rw[q79];have HW2:=ZmE (HW.out.trans hxT);refine Za 4 QhO rfl (fun K hK=> ?_);go_simp;refine hK _ _ ?_;clear hK K;refine Za 5 QhO rfl (fun K hK=> ?_);go_simp;refine hK _ _ ?_;clear hK K;refine Za 6 QhO rfl (fun K hK=> ?_);go_simp;refine hK _ _ ?_;clear hK K;refine Za 7 QhO rfl (fun K hK=> ?_);go_simp;refine hK _ _ ?_;clear hK K;refine Za 8 QhO rfl (fun K hK=> ?_);go_simp;refine hK _ _ ?_;clear hK K;refine Za 9 QhO rfl (fun K hK=> ?_);go_simp;refine hK _ _ ?_;clear hK K;refine Za 10 QhO rfl (fun K hK=> ?_);go_simp;refine hK _ _ ?_;clear hK K;refine Za 11 QhO rfl (fun K hK=> ?_);go_simp;refine hK _ _ ?_;clear hK K;refine Za 12 QhO rfl (fun K hK=> ?_);go_simp;refine hK _ _ ?_;clear hK K;refine Za 13 QhO rfl (fun K hK=> ?_);go_simp;refine hK _ _ ?_;clear hK K;refine Za 14 QhO rfl (fun K hK=> ?_);go_simp;refine hK _ _ ?_;clear hK K;refine Za 15 QhO rfl (fun K hK=> ?_);go_simp;refine(HF13.out _).mono ?_;rintro e w6 ⟨rfl,hx6⟩;refine hK _ _ ?_;clear hK K;have HW3:=ZmE (HW2.out.trans hx6);clear HW2 hx6;have HW2:=HW3;clear HW3;exact Qau
      |some d=>have hd10:=(Ea.find13_some hfd).1;rw[hfd]at HX2 HF13;rw[show noV (some d)=(d:Int)from rfl]at HF13;have HDG:=ZmE (fun w=>ZbJ d hd10 w);have HD10:=ZmE hd10;obtain⟨DG,hDG⟩:∃DG,Ea.bS [Ea.chr d]=DG:=⟨_,rfl⟩;have hDs:DG.size<=1:=(by rw[<-hDG];exact Qd0);rw[hDG]at HDG;obtain⟨T,hT⟩:∃T,DG++L++R=T:=⟨_,rfl⟩;have HTL:Hid (T.data.toList=Ea.chr d::(l++r)):=ZmE (by rw[<-hT,<-hDG];simp only[Znt,Znw,HTX.out.1,HTX.out.2.1,Ea.bS_list];simp);have hTz:T.size=13:=QfV;dsimp only[Option.map]at HX2;obtain⟨tl,htl⟩:∃tl,Ea.chr d::(l++r)=tl:=⟨_,rfl⟩;have H0:Hid (tl.getD 0 0=Ea.chr d):=ZmE (by rw[<-htl];rfl);rw[htl]at HX2 HTL;have HT:=ZmE hT;clear htl hDG hfd HTX hT hd10;have HFU:=ZmE (fun w=>Zco 1 T QhN w);rw[HTL.out]at HFU;obtain⟨fe,hfe⟩:∃fe,Ea.full 1 tl=fe:=⟨_,rfl⟩;rw[hfe]at HFU HX2;have hTl:13<=T.size:=QhN;have hTu:T.size<=13:=QhN;clear hfe hTz;by_cases hf0:fe=0;(·rw[ZmF (fun h=>h hf0)]at HX2;have hfb:(fe !=0)=false:=(by rw[hf0];rfl);clear hf0;have hT0:0<T.size:=QhN;have e0:T[0]=Ea.chr d:=(by rw[<-H0.out,<-HTL.out,ZmL,ZmG (by rw[Zb];exact hT0)];rfl);by_cases hd0:d=0;(·have hb0:((T[0].toNat:Int)==48)=true:=(by rw[e0,hd0];rfl);have HG:Hid (res=((3,tl.drop 1),0)):=ZmE (by rw[<-HX2.out,ZmH ⟨rfl,by rw[H0.out,hd0];rfl⟩]);have HE:Hid (T.extract 1 T.size=Ea.bS (tl.drop 1)):=ZmE (by rw[<-HTL.out,<-Z2,Ea.bS_of]);clear e0 hd0 HX2;go_enter func220,ntmps220;go_wp2_with fail;refine wp_region_rel 4 1 rfl [25,26,27,28] [[],[0],[],[1,2]] QhO QhO ?_;apply relPlan_eq';(·exact Qa);apply relPlan_eq';(·exact Qt);refine relPlan_by (fun v w=>Own 4 w 0 v (Ea.gd.map encT)) (fun _ _ _ h hx=>h.ext hx) ?_ ?_;(·exact Qr);refine relPlan_by (eqv (.bool true)) (eqv_stable _) ?_ ?_;(·exact Qg);intro V wT hxT hf;obtain⟨g25,g26,g27,g28,_⟩:=hf;simp only[fillA,ZmX,Zni,Act.put,ZmO,ZmV,ZmU];have q28:V 28=_:=g28;rw[q28];have HW2:=ZmE (HW.out.trans hxT);refine Za 4 QhO rfl (fun K hK=> ?_);go_simp;refine hK _ _ ?_;clear hK K;refine⟨rfl,?_⟩;clear HW;have HW:=HW2;clear HW2;go_wp2_with fail;refine wp_region_rel 9 1 rfl [30,31,32,33,34,35,36,37,38] [[],[],[],[2],[1,3],[0,4],[],[6],[5,7]] QhO QhO ?_;apply relPlan_eq';(·exact Qa);apply relPlan_eq';(·exact Qw);apply relPlan_eq';(·exact Qj);apply relPlan_eq';(·exact Qy);apply relPlan_eq';(·exact Ql);apply relPlan_eq';(·exact Qm);apply relPlan_eq';(·exact Qj);refine relPlan_by (fun v w=>Own 4 w 0 v (Ea.gd.map encT)) (fun _ _ _ h hx=>h.ext hx) ?_ ?_;(·exact Qo);refine relPlan_by (eqv (.bool true)) (eqv_stable _) ?_ ?_;(·exact Qi);intro V wT hxT hf;obtain⟨g30,g31,g32,g33,g34,g35,g36,g37,g38,_⟩:=hf;simp only[fillA,ZmX,Zni,Act.put,ZmO,ZmV,ZmU];have q38:V 38=_:=g38;rw[q38];have HW2:=ZmE (HW.out.trans hxT);refine Za 9 QhO rfl (fun K hK=> ?_);go_simp;refine hK _ _ ?_;clear hK K;refine⟨rfl,?_⟩;clear HW;have HW:=HW2;clear HW2;go_wp2_with fail;refine(HRL.out _ HW.out).mono ?_;rintro e w5 ⟨rfl,hx5⟩;have HW2:=ZmE (HW.out.trans hx5);clear HW hx5;have HW:=HW2;clear HW2;go_wp2_with fail;refine(HRR.out _ HW.out).mono ?_;rintro e w5 ⟨rfl,hx5⟩;have HW2:=ZmE (HW.out.trans hx5);clear HW hx5;have HW:=HW2;clear HW2;go_wp2_with fail;refine wp_region_rel 4 14 rfl [76,77,78,79] [[],[0],[],[1,2]] QhO QhO ?_;apply relPlan_eq';(·exact Qa);apply relPlan_eq';(·exact Qaa);refine relPlan_by (fun v w=>Own 4 w 0 v (Ea.md.map encT)) (fun _ _ _ h hx=>h.ext hx) ?_ ?_;(·exact QN);refine relPlan_by (eqv (.bool true)) (eqv_stable _) ?_ ?_;(·exact QL);intro V wT hxT hf;obtain⟨g76,g77,g78,g79,_⟩:=hf;simp only[fillA,ZmX,Zni,Act.put,ZmO,ZmV,ZmU];have q79:V 79=_:=g79;rw[q79];have HW2:=ZmE (HW.out.trans hxT);refine Za 4 QhO rfl (fun K hK=> ?_);go_simp;refine hK _ _ ?_;clear hK K;refine Za 5 QhO rfl (fun K hK=> ?_);go_simp;refine hK _ _ ?_;clear hK K;refine Za 6 QhO rfl (fun K hK=> ?_);go_simp;refine hK _ _ ?_;clear hK K;refine Za 7 QhO rfl (fun K hK=> ?_);go_simp;refine hK _ _ ?_;clear hK K;refine Za 8 QhO rfl (fun K hK=> ?_);go_simp;refine hK _ _ ?_;clear hK K;refine Za 9 QhO rfl (fun K hK=> ?_);go_simp;refine hK _ _ ?_;clear hK K;refine Za 10 QhO rfl (fun K hK=> ?_);go_simp;refine hK _ _ ?_;clear hK K;refine Za 11 QhO rfl (fun K hK=> ?_);go_simp;refine hK _ _ ?_;clear hK K;refine Za 12 QhO rfl (fun K hK=> ?_);go_simp;refine hK _ _ ?_;clear hK K;refine Za 13 QhO rfl (fun K hK=> ?_);go_simp;refine hK _ _ ?_;clear hK K;refine Za 14 QhO rfl (fun K hK=> ?_);go_simp;refine hK _ _ ?_;clear hK K;refine Za 15 QhO rfl (fun K hK=> ?_);go_simp;refine(HF13.out _).mono ?_;rintro e w6 ⟨rfl,hx6⟩;refine hK _ _ ?_;clear hK K;have HW3:=ZmE (HW2.out.trans hx6);clear HW2 hx6;have HW2:=HW3;clear HW3;refine Za 16 QhO rfl (fun K hK=> ?_);go_simp;refine hK _ _ ?_;clear hK K;refine Za 17 QhO rfl (fun K hK=> ?_);go_simp;refine hK _ _ ?_;clear hK K;refine⟨rfl,?_⟩;clear HW;have HW:=HW2;clear HW2;go_wp2_with fail;refine(HF13.out _).mono ?_;rintro e w7 ⟨rfl,hx7⟩;go_wp2_with fail;refine(HDG.out _).mono ?_;rintro e w8 ⟨rfl,hx8⟩;have HW2:=ZmE (HW.out.trans (hx7.trans hx8));clear HW hx7 hx8;have HW:=HW2;clear HW2;go_wp2_with fail;rw[HT.out];refine(HFU.out _).mono ?_;rintro e w9 ⟨rfl,hx9⟩;have HW2:=ZmE (HW.out.trans hx9);clear HW hx9;have HW:=HW2;clear HW2;go_wp2_with fail;go_quiet (fail);go_wp2;go_ret3;exact⟨by rw[HG.out];unfold xsymV;dsimp only;rw[<-HE.out];rfl,HW.out.drewN _⟩);·have hb0:((T[0].toNat:Int)==48)=false:=(by rw[e0,ZmJ];have:=Ea.chr_nat HD10.out;unfold Ea.chr;omega);have HG:Hid (res=((1,tl),0)):=ZmE (by rw[<-HX2.out,ZmF];rintro⟨_,h⟩;rw[H0.out]at h;have:=Znb UInt8.toNat h;have h2:=Ea.chr_nat HD10.out;unfold Ea.chr at this;rw[h2,show(48:UInt8).toNat=48 from rfl]at this;exact hd0 QhN);have HE:Hid (T=Ea.bS tl):=ZmE QjF;clear e0 hd0 HX2;go_enter func220,ntmps220;go_wp2_with fail;refine wp_region_rel 4 1 rfl [25,26,27,28] [[],[0],[],[1,2]] QhO QhO ?_;apply relPlan_eq';(·exact Qa);apply relPlan_eq';(·exact Qt);refine relPlan_by (fun v w=>Own 4 w 0 v (Ea.gd.map encT)) (fun _ _ _ h hx=>h.ext hx) ?_ ?_;(·exact Qr);refine relPlan_by (eqv (.bool true)) (eqv_stable _) ?_ ?_;(·exact Qg);intro V wT hxT hf;obtain⟨g25,g26,g27,g28,_⟩:=hf;simp only[fillA,ZmX,Zni,Act.put,ZmO,ZmV,ZmU];have q28:V 28=_:=g28;rw[q28];have HW2:=ZmE (HW.out.trans hxT);refine Za 4 QhO rfl (fun K hK=> ?_);go_simp;refine hK _ _ ?_;clear hK K;refine⟨rfl,?_⟩;clear HW;have HW:=HW2;clear HW2;go_wp2_with fail;refine wp_region_rel 9 1 rfl [30,31,32,33,34,35,36,37,38] [[],[],[],[2],[1,3],[0,4],[],[6],[5,7]] QhO QhO ?_;apply relPlan_eq';(·exact Qa);apply relPlan_eq';(·exact Qw);apply relPlan_eq';(·exact Qj);apply relPlan_eq';(·exact Qy);apply relPlan_eq';(·exact Ql);apply relPlan_eq';(·exact Qm);apply relPlan_eq';(·exact Qj);refine relPlan_by (fun v w=>Own 4 w 0 v (Ea.gd.map encT)) (fun _ _ _ h hx=>h.ext hx) ?_ ?_;(·exact Qo);refine relPlan_by (eqv (.bool true)) (eqv_stable _) ?_ ?_;(·exact Qi);intro V wT hxT hf;obtain⟨g30,g31,g32,g33,g34,g35,g36,g37,g38,_⟩:=hf;simp only[fillA,ZmX,Zni,Act.put,ZmO,ZmV,ZmU];have q38:V 38=_:=g38;rw[q38];have HW2:=ZmE (HW.out.trans hxT);refine Za 9 QhO rfl (fun K hK=> ?_);go_simp;refine hK _ _ ?_;clear hK K;refine⟨rfl,?_⟩;clear HW;have HW:=HW2;clear HW2;go_wp2_with fail;refine(HRL.out _ HW.out).mono ?_;rintro e w5 ⟨rfl,hx5⟩;have HW2:=ZmE (HW.out.trans hx5);clear HW hx5;have HW:=HW2;clear HW2;go_wp2_with fail;refine(HRR.out _ HW.out).mono ?_;rintro e w5 ⟨rfl,hx5⟩;have HW2:=ZmE (HW.out.trans hx5);clear HW hx5;have HW:=HW2;clear HW2;go_wp2_with fail;refine wp_region_rel 4 14 rfl [76,77,78,79] [[],[0],[],[1,2]] QhO QhO ?_;apply relPlan_eq';(·exact Qa);apply relPlan_eq';(·exact Qaa);refine relPlan_by (fun v w=>Own 4 w 0 v (Ea.md.map encT)) (fun _ _ _ h hx=>h.ext hx) ?_ ?_;(·exact QN);refine relPlan_by (eqv (.bool true)) (eqv_stable _) ?_ ?_;(·exact QL);intro V wT hxT hf;obtain⟨g76,g77,g78,g79,_⟩:=hf;simp only[fillA,ZmX,Zni,Act.put,ZmO,ZmV,ZmU];have q79:V 79=_:=g79;rw[q79];have HW2:=ZmE (HW.out.trans hxT);refine Za 4 QhO rfl (fun K hK=> ?_);go_simp;refine hK _ _ ?_;clear hK K;refine Za 5 QhO rfl (fun K hK=> ?_);go_simp;refine hK _ _ ?_;clear hK K;refine Za 6 QhO rfl (fun K hK=> ?_);go_simp;refine hK _ _ ?_;clear hK K;refine Za 7 QhO rfl (fun K hK=> ?_);go_simp;refine hK _ _ ?_;clear hK K;refine Za 8 QhO rfl (fun K hK=> ?_);go_simp;refine hK _ _ ?_;clear hK K;refine Za 9 QhO rfl (fun K hK=> ?_);go_simp;refine hK _ _ ?_;clear hK K;refine Za 10 QhO rfl (fun K hK=> ?_);go_simp;refine hK _ _ ?_;clear hK K;refine Za 11 QhO rfl (fun K hK=> ?_);go_simp;refine hK _ _ ?_;clear hK K;refine Za 12 QhO rfl (fun K hK=> ?_);go_simp;refine hK _ _ ?_;clear hK K;refine Za 13 QhO rfl (fun K hK=> ?_);go_simp;refine hK _ _ ?_;clear hK K;refine Za 14 QhO rfl (fun K hK=> ?_);go_simp;refine hK _ _ ?_;clear hK K;refine Za 15 QhO rfl (fun K hK=> ?_);go_simp;refine(HF13.out _).mono ?_;rintro e w6 ⟨rfl,hx6⟩;refine hK _ _ ?_;clear hK K;have HW3:=ZmE (HW2.out.trans hx6);clear HW2 hx6;have HW2:=HW3;clear HW3;refine Za 16 QhO rfl (fun K hK=> ?_);go_simp;refine hK _ _ ?_;clear hK K;refine Za 17 QhO rfl (fun K hK=> ?_);go_simp;refine hK _ _ ?_;clear hK K;refine⟨rfl,?_⟩;clear HW;have HW:=HW2;clear HW2;go_wp2_with fail;refine(HF13.out _).mono ?_;rintro e w7 ⟨rfl,hx7⟩;go_wp2_with fail;refine(HDG.out _).mono ?_;exact Qg5);·rw[ZmH hf0]at HX2;have HG:Hid (res=((0,[]),8)):=ZmE (HX2.out.symm);have hfb:(fe !=0)=true:=ZnA.2 hf0;clear hf0 HX2;go_enter func220,ntmps220;go_wp2_with fail;refine wp_region_rel 4 1 rfl [25,26,27,28] [[],[0],[],[1,2]] QhO QhO ?_;apply relPlan_eq';(·exact Qa);apply relPlan_eq';(·exact Qt);refine relPlan_by (fun v w=>Own 4 w 0 v (Ea.gd.map encT)) (fun _ _ _ h hx=>h.ext hx) ?_ ?_;(·exact Qr);refine relPlan_by (eqv (.bool true)) (eqv_stable _) ?_ ?_;(·exact Qg);intro V wT hxT hf;obtain⟨g25,g26,g27,g28,_⟩:=hf;simp only[fillA,ZmX,Zni,Act.put,ZmO,ZmV,ZmU];have q28:V 28=_:=g28;rw[q28];have HW2:=ZmE (HW.out.trans hxT);refine Za 4 QhO rfl (fun K hK=> ?_);go_simp;refine hK _ _ ?_;clear hK K;refine⟨rfl,?_⟩;clear HW;have HW:=HW2;clear HW2;go_wp2_with fail;refine wp_region_rel 9 1 rfl [30,31,32,33,34,35,36,37,38] [[],[],[],[2],[1,3],[0,4],[],[6],[5,7]] QhO QhO ?_;apply relPlan_eq';(·exact Qa);apply relPlan_eq';(·exact Qw);apply relPlan_eq';(·exact Qj);apply relPlan_eq';(·exact Qy);apply relPlan_eq';(·exact Ql);apply relPlan_eq';(·exact Qm);apply relPlan_eq';(·exact Qj);refine relPlan_by (fun v w=>Own 4 w 0 v (Ea.gd.map encT)) (fun _ _ _ h hx=>h.ext hx) ?_ ?_;(·exact Qo);refine relPlan_by (eqv (.bool true)) (eqv_stable _) ?_ ?_;(·exact Qi);intro V wT hxT hf;obtain⟨g30,g31,g32,g33,g34,g35,g36,g37,g38,_⟩:=hf;simp only[fillA,ZmX,Zni,Act.put,ZmO,ZmV,ZmU];have q38:V 38=_:=g38;rw[q38];have HW2:=ZmE (HW.out.trans hxT);refine Za 9 QhO rfl (fun K hK=> ?_);go_simp;refine hK _ _ ?_;clear hK K;refine⟨rfl,?_⟩;clear HW;have HW:=HW2;clear HW2;go_wp2_with fail;refine(HRL.out _ HW.out).mono ?_;rintro e w5 ⟨rfl,hx5⟩;have HW2:=ZmE (HW.out.trans hx5);clear HW hx5;have HW:=HW2;clear HW2;go_wp2_with fail;refine(HRR.out _ HW.out).mono ?_;rintro e w5 ⟨rfl,hx5⟩;have HW2:=ZmE (HW.out.trans hx5);clear HW hx5;have HW:=HW2;clear HW2;go_wp2_with fail;refine wp_region_rel 4 14 rfl [76,77,78,79] [[],[0],[],[1,2]] QhO QhO ?_;apply relPlan_eq';(·exact Qa);apply relPlan_eq';(·exact Qaa);refine relPlan_by (fun v w=>Own 4 w 0 v (Ea.md.map encT)) (fun _ _ _ h hx=>h.ext hx) ?_ ?_;(·exact QN);refine relPlan_by (eqv (.bool true)) (eqv_stable _) ?_ ?_;(·exact QL);intro V wT hxT hf;obtain⟨g76,g77,g78,g79,_⟩:=hf;simp only[fillA,ZmX,Zni,Act.put,ZmO,ZmV,ZmU];have q79:V 79=_:=g79;rw[q79];have HW2:=ZmE (HW.out.trans hxT);refine Za 4 QhO rfl (fun K hK=> ?_);go_simp;refine hK _ _ ?_;clear hK K;refine Za 5 QhO rfl (fun K hK=> ?_);go_simp;refine hK _ _ ?_;clear hK K;refine Za 6 QhO rfl (fun K hK=> ?_);go_simp;refine hK _ _ ?_;clear hK K;refine Za 7 QhO rfl (fun K hK=> ?_);go_simp;refine hK _ _ ?_;clear hK K;refine Za 8 QhO rfl (fun K hK=> ?_);go_simp;refine hK _ _ ?_;clear hK K;refine Za 9 QhO rfl (fun K hK=> ?_);go_simp;refine hK _ _ ?_;clear hK K;refine Za 10 QhO rfl (fun K hK=> ?_);go_simp;refine hK _ _ ?_;clear hK K;refine Za 11 QhO rfl (fun K hK=> ?_);go_simp;refine hK _ _ ?_;clear hK K;refine Za 12 QhO rfl (fun K hK=> ?_);go_simp;refine hK _ _ ?_;clear hK K;refine Za 13 QhO rfl (fun K hK=> ?_);go_simp;refine hK _ _ ?_;clear hK K;refine Za 14 QhO rfl (fun K hK=> ?_);go_simp;refine hK _ _ ?_;clear hK K;refine Za 15 QhO rfl (fun K hK=> ?_);go_simp;refine(HF13.out _).mono ?_;rintro e w6 ⟨rfl,hx6⟩;refine hK _ _ ?_;clear hK K;have HW3:=ZmE (HW2.out.trans hx6);clear HW2 hx6;have HW2:=HW3;clear HW3;refine Za 16 QhO rfl (fun K hK=> ?_);go_simp;refine hK _ _ ?_;clear hK K;refine Za 17 QhO rfl (fun K hK=> ?_);go_simp;refine hK _ _ ?_;clear hK K;refine⟨rfl,?_⟩;clear HW;have HW:=HW2;clear HW2;go_wp2_with fail;refine(HF13.out _).mono ?_;rintro e w7 ⟨rfl,hx7⟩;go_wp2_with fail;refine(HDG.out _).mono ?_;exact QhJ
  ·exact Qn
 ·exact Qx
end
end Go.Proofs.YtbngggoccndefaaGreatDoor
