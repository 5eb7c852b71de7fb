/-
  Laid.
-/
import Derived.Test.YtbngggoccndefaaGreatDoorUn15
import Derived.Test.YtbngggoccndefaaGreatDoorUn17
import Derived.Test.YtbngggoccndefaaGreatDoorUn25
set_option maxHeartbeats 16000000
set_option maxRecDepth 100000
set_option linter.all false
namespace Go.Proofs.YtbngggoccndefaaGreatDoor
open Go.Proofs.Tryz
section
open Go.RowKit
theorem nM (v:Value) (m:List Bool) (w:World) (hv:Sl w v (m.map encT)) (hm:m.length<=1000000):
 Calls prog 39 #[v] w fun e w'=>e=.returned (.bool (Ln.dark m))∧w=w':=by
 obtain⟨a,c,rfl⟩:=hv.form
 rw[J0]at hv⊢
 obtain⟨n,hn⟩:∃n,n=m.length:=⟨_,rfl⟩
 rw[<-hn]at hv hm⊢
 have HN:=A0 hn
 have HV:=A0 hv
 have HD:=A0 (show Ln.dark m=m.any fun b=>b from rfl)
 generalize Ln.dark m=d at*
 clear hv hn
 go_enter func39,ntmps39
 go_wp2_with fail
 go_loop [3] (fun t=>∃j:Nat,j<=n∧t=.int .i64 (j:Int)∧Hid (∀x∈m.take j,x=false)) (fun t=>n-(intOf t).toNat)
 case atStart=>exact RI
 case round=>
 obtain⟨j,hj,rfl,HB⟩:=hrel
 by_cases hlt:j<n
 ·obtain⟨x,hxj⟩:∃x,m[j]? =some x:=⟨_,M0 J4⟩
  obtain⟨b,o,ha,hb,hc⟩:=HV.out.bool_at (Ext.refl w) hxj
  subst ha
  have hjI:(j:Int)<(n:Int):=by omega
  cases x with
  |true=>have HF:Hid (d=true):=A0 fS;clear hxj;go_wp2;go_ret;exact⟨by rw[HF.out];rfl,rfl⟩
  |false=>exact fT
 ·obtain rfl:n=j:=B0;have HF:Hid (d=false):=A0 fU;clear hlt hj;go_wp2;go_ret;exact⟨by rw[HF.out];rfl,rfl⟩
theorem ZfI (v:Value) (m:List Bool) (w:World) (hv:SlK w v (m.map encT)) (hm:m.length<=400000):
 Calls prog 83 #[v] w (RdR (Ln.r128 m) w):=by
 have HD:=A0 (fun w' (h:Ext w w')=>ZiF v m w' (hv.ext h) hm)
 have HCS:=A0 (fun cs h=> @Cc.dec_ge m cs h)
 have hwl:=(Rn.widths_in m).2
 obtain⟨res,hres⟩:∃res,res=Ln.r128 m:=⟨_,rfl⟩
 rw[<-hres]
 unfold Ln.r128 at hres
 obtain⟨⟨cs,er⟩,hd⟩:∃r,r=Cc.dec m:=⟨_,rfl⟩
 rw[<-hd]at HD HCS hres
 unfold Ln.of128 at hres
 dsimp only at hres
 have HR:=A0 hres
 obtain⟨-,a,c,rfl,-⟩:=hv
 rw[J0]at HD⊢
 clear hd hres
 by_cases he:er≠0
 ·have HF:Hid (res=none):=A0 CN;have z:(er !=0)=true:=(by simp[he]);have zd:decide (er=0)=false:=X0 he;clear HR he HCS;generalize m.length=ml at*;go_enter func83,ntmps83;go_wp2_with fail;refine(HD.out _ Xf).mono ?_;rintro e w1 ⟨u,rfl,hu,hx1⟩;obtain⟨f0,f1,f2,f3,f4,f5,f6,f7⟩:=Zj (Zv rfl hx1);have hxw:=hx1.before;clear hx1 hu;exact nN
 obtain rfl:er=0:=L5.1 he
 have HR1:=A0 (HR.out.trans (C0 he))
 obtain⟨hc0,hcl⟩:=HCS.out cs rfl
 have hcl:cs.length<=400000:=by omega
 generalize m.length=ml at*
 have HC0:=A0 hc0
 clear HR he HCS hc0 hwl
 obtain⟨n,hn⟩:∃n,n=cs.length:=⟨_,rfl⟩
 rw[<-hn]at hcl
 have HN:=A0 hn
 clear hn
 by_cases hf:cs.head? =some 256
 ·rw[D0 hf]at HR1;have hx0:cs[0]? =some 256:=(by rw[<-KP];exact hf);have hn0:0<n:=fY;have hnI:(0:Int)<(n:Int):=B0;have HX0:=A0 hx0;have HFR:=A0 (fun v w' h=>Zkd v cs w' h G5);obtain⟨⟨els,e2⟩,hfr⟩:∃r,r=Gs.frChars cs:=⟨_,rfl⟩;have HEL:=A0 (fun h=> @fR els cs h);rw[<-hfr]at HFR HR1 HEL;dsimp only at HR1;unfold ElsR at HFR;dsimp only at HFR;clear hf hx0 hfr;by_cases he2:e2≠0;(·rw[D0 he2]at HR1;have z:(e2 !=0)=true:=(by simp[he2]);have zd:decide (e2=0)=false:=X0 he2;clear he2 HEL;go_enter func83,ntmps83;go_wp2_with fail;refine(HD.out _ Xf).mono ?_;rintro e w1 ⟨u,rfl,hu,hx1⟩;have HFC:=A0 (HFR.out u w1 hu);obtain⟨hsl,au,cu,rfl,hcu⟩:=hu;rw[J0,<-HN.out]at hsl HFC hcu⊢;obtain⟨b,o,ha,hb,hc⟩:=hsl.int_at (Ext.refl w1) HX0.out;subst ha;rw[Y4]at hc;have HX1:=A0 hx1;clear hx1 hsl;go_wp2_with fail;refine HFC.out.mono ?_;rintro e w2 ⟨u2,rfl,hu2,hx2⟩;obtain⟨f0,f1,f2,f3,f4,f5,f6,f7⟩:=Zj (Zv rfl (HX1.out.trans hx2));have hxw:=(HX1.out.trans hx2).before;clear hx2 hu2 hc;go_wp2_with fail;refine E1 (Zi results83 rfl (Zk f7) rfl) rfl ?_;rw[HR1.out];exact RdR.none (Zo hxw (K0 _) _ _ _));obtain rfl:e2=0:=L5.1 he2;rw[C0 he2]at HR1;obtain⟨hel1,hel2⟩:=HEL.out rfl;have HFO:=A0 (fun v w' h=>Zh1 v els w' h B0 hel2);obtain⟨⟨s,e3⟩,hfo⟩:∃r,r=Gs.format els:=⟨_,rfl⟩;rw[<-hfo]at HFO HR1;dsimp only at HR1;obtain⟨T,hT⟩:∃T,T=Ea.bS s:=⟨_,rfl⟩;have HTB:=A0 hT;have HFO2:Hid (∀v w',ESl w' v els->Calls prog 147 #[v] w' fun e w''=>e=.returned (.tuple #[.string T,.int .i64 e3])∧Ext w' w''):=A0 (fun v w' h=>by rw[hT];exact HFO.out v w' h);obtain⟨be,hbe⟩:∃be,be=(e3==0):=⟨_,rfl⟩;have hbe2:=hbe.symm;have HBE:Hid (be=res.isSome∧(res.isSome=true->res=some (9,s,[]))):=A0 (by rw[hbe,HR1.out];by_cases h3:e3≠0;(·rw[D0 h3];simp[h3]);·rw[C0 h3];simp[L5.1 h3]);clear hfo HFO he2 HEL hel2 hT hbe;go_enter func83,ntmps83;go_wp2_with fail;refine(HD.out _ Xf).mono ?_;rintro e w1 ⟨u,rfl,hu,hx1⟩;have HFC:=A0 (HFR.out u w1 hu);obtain⟨hsl,au,cu,rfl,hcu⟩:=hu;rw[J0,<-HN.out]at hsl HFC hcu⊢;obtain⟨b,o,ha,hb,hc⟩:=hsl.int_at (Ext.refl w1) HX0.out;subst ha;rw[Y4]at hc;have HX1:=A0 hx1;clear hx1 hsl;go_wp2_with fail;refine HFC.out.mono ?_;rintro e w2 ⟨u2,rfl,hu2,hx2⟩;have HU2:=A0 hu2;have HX2:=A0 hx2;clear hu2 hx2 hc;go_wp2_with fail;refine(HFO2.out u2 w2 HU2.out).mono ?_;rintro e w3 ⟨rfl,hx3⟩;obtain⟨f0,f1,f2,f3,f4,f5,f6,f7⟩:=Zj (Zv rfl ((HX1.out.trans HX2.out).trans hx3));have hxw:=((HX1.out.trans HX2.out).trans hx3).before;clear hx3;go_wp2_with fail;refine E1 (Zi results83 rfl (Zk f7) rfl) rfl ?_;exact⟨(9,s,[]),by rw[HBE.out.1,HTB.out];rfl,HBE.out.2,Zo hxw (K0 _) _ _ _⟩
 rw[C0 hf]at HR1
 have HHD:Hid (∀x,cs[0]? =some x->x≠256):=A0 (fun x h e=>hf (by rw[KP,h,e]))
 clear hf
 obtain⟨bz,hbz⟩:∃bz:Nat,bz=0:=⟨0,rfl⟩
 have key:∀(w1:World) (au:Option Addr) (cu:Nat),True:=fun _ _ _=>trivial
 clear key hbz bz
 go_enter func83,ntmps83
 go_wp2_with fail
 refine(HD.out _ Xf).mono ?_
 rintro e w1 ⟨u,rfl,hu,hx1⟩
 obtain⟨hsl,au,cu,rfl,hcu⟩:=hu
 rw[J0,<-HN.out]at hsl hcu⊢
 have HS:=A0 hsl
 have HX1:=A0 hx1
 have HC:Hid (0<n->∃b o x0,au=some ⟨b,o,none⟩∧w1.cell? ⟨b,o,none⟩=some (.int .i64 x0)∧x0≠256):=A0 (fun h=>by obtain⟨x0,hx0⟩:∃x,cs[0]? =some x:=⟨_,M0 (by rw[<-HN.out];exact h)⟩;obtain⟨b,o,ha,hb,hc⟩:=hsl.int_at (Ext.refl w1) hx0;rw[Y4]at hc;exact⟨b,o,x0,ha,hc,HHD.out x0 hx0⟩)
 clear hx1 hsl HD
 rcases SH n with h0|h0
 ·subst h0;go_wp2_with fail;go_loopw [10,11] (fun u t wr=>∃j:Nat,j<=0∧t=.int .i64 (j:Int)∧Hid (∀x∈cs.take j,x<128)∧Hid (Own 5 wr w1.heap.size u (((cs.take j).map chB).map encB))∧Hid (Ext w1 wr)) (fun _ t _=>0-(intOf t).toNat);(case atStart=>exact nO)
  case round=>
  obtain⟨j,hj,rfl,HB,HO,HX⟩:=hrel;have hlt:¬j<0:=W7 _;·obtain rfl:j=0:=B0;exact nP
 ·have hnI:(0:Int)<(n:Int):=B0;obtain⟨b,o,x0,rfl,hc,hx6⟩:=HC.out h0;have z256:(x0==256)=false:=N0.2 hx6;go_wp2_with fail;go_loopw [10,11] (fun u t wr=>∃j:Nat,j<=n∧t=.int .i64 (j:Int)∧Hid (∀x∈cs.take j,x<128)∧Hid (Own 5 wr w1.heap.size u (((cs.take j).map chB).map encB))∧Hid (Ext w1 wr)) (fun _ t _=>n-(intOf t).toNat);(case atStart=>exact nO)
  case round=>
  obtain⟨j,hj,rfl,HB,HO,HX⟩:=hrel;by_cases hlt:j<n;(·obtain⟨x,hxj⟩:∃x,cs[j]? =some x:=⟨_,M0 J4⟩;obtain⟨b',o',ha,hb',hcj⟩:=HS.out.int_at HX.out hxj;injection ha with ha;injection ha with h1 h2;subst h1 h2;have hjI:(j:Int)<(n:Int):=B0;have hxg:=HC0.out x (J1 hxj);by_cases hx:x<128;(·have hbx:((chB x).toNat:Int)=x:=(by unfold chB;exact RV);have HB2:Hid (∀y∈cs.take (j+1),y<128):=A0 (fun y hy=>by rw[Zz hxj]at hy;rcases B5.1 hy with h|h;(·exact XW);·rw[U3]at h;subst h;exact hx);have HTK:Hid (((cs.take (j+1)).map chB)=(cs.take j).map chB++[chB x]):=A0 (by rw[Zz hxj,E3];rfl);have hlen:((cs.take j).map chB).length<=400000:=UJ;have hxI:¬127<x:=B0;have hown:=HO.out;have hsz:=HX.out.size;clear hxj;go_wp2_with (at_builtin;refine OI rfl _ _ rfl w1.heap.size _ ((cs.take j).map chB) rfl (hown.alloc _) _ (chB x) rfl ?q1 ?q2 ?q3 ?_);(case q1=>simp[go_sem,encB,hbx]);(case q2=>omega);(case q3=>first|(simp;done)|(simp;omega)|omega);intro v' w5 hown5 hg5;have HX5:=A0 ((HX.out.alloc _).ofGrown hg5 hown.low);have HO5:Hid (Own 5 w5 w1.heap.size v' (((cs.take (j+1)).map chB).map encB)):=A0 (by rw[HTK.out];first|exact hown5|(rw[E3];exact hown5)|simpa using hown5);clear hown hown5 hg5 hsz;go_wp2_with fail;go_roundw;(case rel=>exact⟨j+1,by omega,by go_num,HB2,HO5,HX5⟩);case measure=>exact C1);·have HF:Hid (res=none):=A0 iB;have hxI:127<x:=B0;obtain⟨f0,f1,f2,f3,f4,f5,f6,f7⟩:=Zj (Zv rfl (HX1.out.trans HX.out));have hxw:=(HX1.out.trans HX.out).before;clear hxj hx;exact nN);·obtain rfl:j=n:=B0;exact nP
theorem ZmX (v:Value) (m:List Bool) (w:World) (hv:SlK w v (m.map encT)) (hm:m.length<=400000):
 Calls prog 40 #[.int .i64 0,v] w (RdR (Ln.reader 0 m) w):=by
 have HW:=A0 (fun w' (h:Ext w w')=>ZhE v m w' (hv.ext h) B0)
 obtain⟨res,hres⟩:∃res,res=Ln.reader 0 m:=⟨_,rfl⟩
 rw[<-hres]
 rw[show Ln.reader 0 m=Ln.rEan m from rfl]at hres
 unfold Ln.rEan at hres
 obtain⟨⟨⟨k,t,ad⟩,er⟩,hd⟩:∃r,r=Ea.dec m:=⟨_,rfl⟩
 rw[<-hd]at HW hres
 have HR:=A0 hres
 obtain⟨-,a,c,rfl,-⟩:=hv
 rw[J0]at HW⊢
 generalize m.length=ml at*
 unfold gotV linV at HW
 dsimp only at HW
 obtain⟨bb,hbb⟩:∃bb,bb=(er==0):=⟨_,rfl⟩
 have HF:Hid (bb=res.isSome∧(res.isSome=true->res=some (k,t,ad))):=A0 (by rw[hbb,HR.out];dsimp only;by_cases he:er=0;(·exact PL);·rw[C0 he];simp[he])
 have hbe:=hbb.symm
 clear hd hres hbb HR
 go_enter func40,ntmps40
 go_wp2_with fail
 refine(HW.out _ Xf).mono ?_
 rintro e w1 ⟨rfl,hx1⟩
 obtain⟨f0,f1,f2,f3,f4,f5,f6,f7⟩:=Zj (Zv rfl hx1)
 have hxw:=hx1.before
 clear hx1
 go_wp2_with fail
 refine E1 (Zi results40 rfl (Ze (Zk f7) ((Ext.refl _).alloc _)) rfl) rfl ?_
 exact⟨(k,t,ad),by rw[HF.out.1];rfl,HF.out.2,(Zo hxw (K0 _) _ _ _).alloc _⟩
theorem ZmY (v:Value) (m:List Bool) (w:World) (hv:SlK w v (m.map encT)) (hm:m.length<=400000):
 Calls prog 40 #[.int .i64 1,v] w (RdR (Ln.reader 1 m) w):=by
 have HW:=A0 (fun w' (h:Ext w w')=>ZfI v m w' (hv.ext h) hm)
 rw[show Ln.reader 1 m=Ln.r128 m from rfl]
 obtain⟨-,a,c,rfl,-⟩:=hv
 rw[J0]at HW⊢
 generalize m.length=ml at*
 generalize Ln.r128 m=res at*
 go_enter func40,ntmps40
 go_wp2_with fail
 refine(HW.out _ Xf).mono ?_
 rintro e w1 ⟨⟨k,t,ad⟩,rfl,ho,hx1⟩
 have HO:=A0 ho
 obtain⟨f0,f1,f2,f3,f4,f5,f6,f7⟩:=Zj (Zv rfl hx1)
 have hxw:=hx1.before
 unfold linV
 dsimp only
 clear hx1 ho
 go_wp2_with fail
 refine E1 (Zi results40 rfl (Zk f7) rfl) rfl ?_
 exact⟨(k,t,ad),rfl,HO.out,Zo hxw (K0 _) _ _ _⟩
theorem Zna (v:Value) (m:List Bool) (w:World) (hv:SlK w v (m.map encT)) (hm:m.length<=400000):
 Calls prog 40 #[.int .i64 2,v] w (RdR (Ln.reader 2 m) w):=by
 obtain⟨res,hres⟩:∃res,res=Ln.reader 2 m:=⟨_,rfl⟩
 rw[<-hres]
 rw[show Ln.reader 2 m=Ln.rTwo 5 m from rfl]at hres
 unfold Ln.rTwo at hres
 have HW:=A0 (fun w' (h:Ext w w')=>RL v m w' (hv.ext h) B0)
 have hwl:(Rn.widths m).length<=1000000:=B4 (Rn.widths_in m).2 B0
 obtain⟨ws,hws⟩:∃ws,ws=Rn.widths m:=⟨_,rfl⟩
 rw[<-hws]at HW hres hwl
 have HD:Hid (∀v w',Sl w' v (ws.map encI)->Calls prog 84 #[.int .i64 5,v,.bool false] w' (DecR (Tw.dec 5 ws false) w')):=A0 (fun v w' h=>Zoe v ws false w' h hwl)
 obtain⟨⟨t,er⟩,hd⟩:∃r,r=Tw.dec 5 ws false:=⟨_,rfl⟩
 rw[<-hd]at HD hres
 have HR:=A0 hres
 obtain⟨-,a,c,rfl,-⟩:=hv
 rw[J0]at HW⊢
 generalize m.length=ml at*
 obtain⟨T,hT⟩:∃T,T=Ea.bS t:=⟨_,rfl⟩
 have HT:=A0 hT
 have HD2:Hid (∀v w',Sl w' v (ws.map encI)->Calls prog 84 #[.int .i64 5,v,.bool false] w' fun e w''=>e=.returned (.tuple #[.string T,.int .i64 er])∧Ext w' w''):=A0 (fun v w' h=>by rw[hT];exact HD.out v w' h)
 obtain⟨bb,hbb⟩:∃bb,bb=(er==0):=⟨_,rfl⟩
 have HF:Hid (bb=res.isSome∧(res.isSome=true->res=some (5,t,[]))):=A0 (by rw[hbb,HR.out];dsimp only;by_cases he:er=0;(·exact PL);·rw[C0 he];simp[he])
 have hbe:=hbb.symm
 clear hws hd hres hT HD hbb HR
 go_enter func40,ntmps40
 go_wp2_with fail
 refine(HW.out _ Xf).mono ?_
 rintro e w1 ⟨u,rfl,hu,hx1⟩
 have HU:=A0 hu
 clear hu
 go_wp2_with fail
 refine(HD2.out u w1 HU.out.1).mono ?_
 rintro e w2 ⟨rfl,hx2⟩
 obtain⟨f0,f1,f2,f3,f4,f5,f6,f7⟩:=Zj (Zv rfl (hx1.trans hx2))
 have hxw:=(hx1.trans hx2).before
 clear hx1 hx2
 go_wp2_with fail
 refine E1 (Zi results40 rfl (Zk f7) rfl) rfl ?_
 exact⟨(5,t,[]),by rw[HF.out.1,HT.out];rfl,HF.out.2,Zo hxw (K0 _) _ _ _⟩
theorem Znb (v:Value) (m:List Bool) (w:World) (hv:SlK w v (m.map encT)) (hm:m.length<=400000):
 Calls prog 40 #[.int .i64 3,v] w (RdR (Ln.reader 3 m) w):=by
 obtain⟨res,hres⟩:∃res,res=Ln.reader 3 m:=⟨_,rfl⟩
 rw[<-hres]
 rw[show Ln.reader 3 m=Ln.rTwo 6 m from rfl]at hres
 unfold Ln.rTwo at hres
 have HW:=A0 (fun w' (h:Ext w w')=>RL v m w' (hv.ext h) B0)
 have hwl:(Rn.widths m).length<=1000000:=B4 (Rn.widths_in m).2 B0
 obtain⟨ws,hws⟩:∃ws,ws=Rn.widths m:=⟨_,rfl⟩
 rw[<-hws]at HW hres hwl
 have HD:Hid (∀v w',Sl w' v (ws.map encI)->Calls prog 84 #[.int .i64 6,v,.bool false] w' (DecR (Tw.dec 6 ws false) w')):=A0 (fun v w' h=>Zof v ws false w' h hwl)
 obtain⟨⟨t,er⟩,hd⟩:∃r,r=Tw.dec 6 ws false:=⟨_,rfl⟩
 rw[<-hd]at HD hres
 have HR:=A0 hres
 obtain⟨-,a,c,rfl,-⟩:=hv
 rw[J0]at HW⊢
 generalize m.length=ml at*
 obtain⟨T,hT⟩:∃T,T=Ea.bS t:=⟨_,rfl⟩
 have HT:=A0 hT
 have HD2:Hid (∀v w',Sl w' v (ws.map encI)->Calls prog 84 #[.int .i64 6,v,.bool false] w' fun e w''=>e=.returned (.tuple #[.string T,.int .i64 er])∧Ext w' w''):=A0 (fun v w' h=>by rw[hT];exact HD.out v w' h)
 obtain⟨bb,hbb⟩:∃bb,bb=(er==0):=⟨_,rfl⟩
 have HF:Hid (bb=res.isSome∧(res.isSome=true->res=some (6,t,[]))):=A0 (by rw[hbb,HR.out];dsimp only;by_cases he:er=0;(·exact PL);·rw[C0 he];simp[he])
 have hbe:=hbb.symm
 clear hws hd hres hT HD hbb HR
 go_enter func40,ntmps40
 go_wp2_with fail
 refine(HW.out _ Xf).mono ?_
 rintro e w1 ⟨u,rfl,hu,hx1⟩
 have HU:=A0 hu
 clear hu
 go_wp2_with fail
 refine(HD2.out u w1 HU.out.1).mono ?_
 rintro e w2 ⟨rfl,hx2⟩
 obtain⟨f0,f1,f2,f3,f4,f5,f6,f7⟩:=Zj (Zv rfl (hx1.trans hx2))
 have hxw:=(hx1.trans hx2).before
 clear hx1 hx2
 go_wp2_with fail
 refine E1 (Zi results40 rfl (Zk f7) rfl) rfl ?_
 exact⟨(6,t,[]),by rw[HF.out.1,HT.out];rfl,HF.out.2,Zo hxw (K0 _) _ _ _⟩
theorem Znc (v:Value) (m:List Bool) (w:World) (hv:SlK w v (m.map encT)) (hm:m.length<=400000):
 Calls prog 40 #[.int .i64 4,v] w (RdR (Ln.reader 4 m) w):=by
 obtain⟨res,hres⟩:∃res,res=Ln.reader 4 m:=⟨_,rfl⟩
 rw[<-hres]
 rw[show Ln.reader 4 m=Ln.rTwo 7 m from rfl]at hres
 unfold Ln.rTwo at hres
 have HW:=A0 (fun w' (h:Ext w w')=>RL v m w' (hv.ext h) B0)
 have hwl:(Rn.widths m).length<=1000000:=B4 (Rn.widths_in m).2 B0
 obtain⟨ws,hws⟩:∃ws,ws=Rn.widths m:=⟨_,rfl⟩
 rw[<-hws]at HW hres hwl
 have HD:Hid (∀v w',Sl w' v (ws.map encI)->Calls prog 84 #[.int .i64 7,v,.bool false] w' (DecR (Tw.dec 7 ws false) w')):=A0 (fun v w' h=>Zog v ws false w' h hwl)
 obtain⟨⟨t,er⟩,hd⟩:∃r,r=Tw.dec 7 ws false:=⟨_,rfl⟩
 rw[<-hd]at HD hres
 have HR:=A0 hres
 obtain⟨-,a,c,rfl,-⟩:=hv
 rw[J0]at HW⊢
 generalize m.length=ml at*
 obtain⟨T,hT⟩:∃T,T=Ea.bS t:=⟨_,rfl⟩
 have HT:=A0 hT
 have HD2:Hid (∀v w',Sl w' v (ws.map encI)->Calls prog 84 #[.int .i64 7,v,.bool false] w' fun e w''=>e=.returned (.tuple #[.string T,.int .i64 er])∧Ext w' w''):=A0 (fun v w' h=>by rw[hT];exact HD.out v w' h)
 obtain⟨bb,hbb⟩:∃bb,bb=(er==0):=⟨_,rfl⟩
 have HF:Hid (bb=res.isSome∧(res.isSome=true->res=some (7,t,[]))):=A0 (by rw[hbb,HR.out];dsimp only;by_cases he:er=0;(·exact PL);·rw[C0 he];simp[he])
 have hbe:=hbb.symm
 clear hws hd hres hT HD hbb HR
 go_enter func40,ntmps40
 go_wp2_with fail
 refine(HW.out _ Xf).mono ?_
 rintro e w1 ⟨u,rfl,hu,hx1⟩
 have HU:=A0 hu
 clear hu
 go_wp2_with fail
 refine(HD2.out u w1 HU.out.1).mono ?_
 rintro e w2 ⟨rfl,hx2⟩
 obtain⟨f0,f1,f2,f3,f4,f5,f6,f7⟩:=Zj (Zv rfl (hx1.trans hx2))
 have hxw:=(hx1.trans hx2).before
 clear hx1 hx2
 go_wp2_with fail
 refine E1 (Zi results40 rfl (Zk f7) rfl) rfl ?_
 exact⟨(7,t,[]),by rw[HF.out.1,HT.out];rfl,HF.out.2,Zo hxw (K0 _) _ _ _⟩
def DecX (w:World) (m:List Bool) (tn ti:Value) (wr:World):Prop:=∃(i n:Nat) (x:Ln.Lin),i<=5∧ti=.int .i64 (i:Int)∧tn=.int .i64 (n:Int)∧n<=i∧Hid (Ln.found m i=(n,x))∧
 Hid (wr.heap[w.heap.size]? =some (.cells #[.int .i64 0,.string ⟨#[]⟩,.string ⟨#[]⟩] 33 (0,0)))∧Hid (wr.heap[w.heap.size+1]? =some (.cells #[.int .i64 x.1,.string (Ea.bS x.2.1),.string (Ea.bS x.2.2)] 33 (0,0)))∧Hid (Ext w wr)
theorem ZiG (v:Value) (m:List Bool) (w:World) (hv:SlK w v (m.map encT)) (hm:m.length<=1000000):
 Calls prog 14 #[v] w fun e w'=>e=.returned (gotV (Ln.decode m))∧Ext w w':=by
 have HCT:=A0 (fun w' (h:Ext w w')=>nM v m w' (hv.ext h).1 hm)
 have HRD:=A0 (fun(h2:m.length<=65536) (i:Nat) (hi:i<5) w' (h:Ext w w')=>(show Calls prog 40 #[.int .i64 (i:Int),v] w' (RdR (Ln.reader i m) w')from by rcases(by omega:i=0∨i=1∨i=2∨i=3∨i=4)with rfl|rfl|rfl|rfl|rfl;(·exact ZmX v m w' (hv.ext h) B0);(·exact ZmY v m w' (hv.ext h) B0);(·exact Zna v m w' (hv.ext h) B0);(·exact Znb v m w' (hv.ext h) B0);·exact Znc v m w' (hv.ext h) B0))
 have HD:=A0 (Ln.decode.eq_1 m)
 generalize Ln.decode m=res at*
 obtain⟨-,a,c,rfl,-⟩:=hv
 rw[J0]at HCT HRD⊢
 generalize m.length=ml at*
 by_cases h4:65536<ml
 ·have h4I:65536<(ml:Int):=B0;rw[D0 h4]at HD;clear h4 HRD HCT;go_enter func14,ntmps14;exact pX
 have h4I:¬65536<(ml:Int):=by omega
 rw[C0 h4]at HD
 have HR:=A0 (HRD.out B0)
 cases hdk:Ln.dark m with
 |false=>rw[hdk]at HCT HD;rw[D0 rfl]at HD;clear h4 HRD HR hdk;go_enter func14,ntmps14;go_wp2_with fail;refine(HCT.out _ Xf).mono ?_;rintro e w1 ⟨rfl,rfl⟩;exact pX
 |true=>
 rw[hdk]at HCT HD
 rw[C0 I0]at HD
 clear h4 hdk HRD
 go_enter func14,ntmps14
 go_wp2_with fail
 refine(HCT.out _ Xf).mono ?_
 rintro e w1 ⟨rfl,rfl⟩
 go_wp2_with fail
 go_loopw [5,6] (fun tn ti wr=>DecX w m tn ti wr) (fun _ t _=>5-(intOf t).toNat)
 case atStart=>exact⟨0,0,Ln.zero,O0 _,rfl,rfl,O0 _,A0 rfl,A0 (UZ w _ _ _).1,A0 (UZ w _ _ _).2,A0 (((Ext.refl _).alloc _).alloc _)⟩
 case round=>
 obtain⟨i,n,x,hi,rfl,rfl,hni,HF,HB0,HB2,HX⟩:=hrel
 obtain⟨k0,s0,a0⟩:=x
 dsimp only at HB2
 by_cases hlt:i<5
 ·have hnc:(n:Int)<=5:=by omega
  have hiI:(i:Int)<5:=by omega
  obtain⟨o,ho⟩:∃o,o=Ln.reader i m:=⟨_,rfl⟩
  have HO:=A0 ho
  have HRR:Hid (Calls prog 40 #[.int .i64 (i:Int),.slice a ml c] wr (RdR o wr)):=A0 (by rw[ho];exact HR.out i hlt wr HX.out)
  clear ho
  go_wp2_with fail
  refine HRR.out.mono ?_
  rintro e w2 ⟨⟨k,s,ad⟩,rfl,hox,hx2⟩
  have HOX:=A0 hox
  have HX2:=A0 (HX.out.trans hx2)
  have HB02:=A0 (Ze HB0.out hx2)
  obtain⟨f0,f1,f2,f3,f4,f5,f6,f7⟩:=Zj (Ze HB2.out hx2)
  unfold linV
  dsimp only
  clear hox hx2
  obtain⟨bo,hbo⟩:∃bo,bo=o.isSome:=⟨_,rfl⟩
  have HBO:=A0 hbo
  rw[<-hbo]
  clear hbo
  cases bo with
  |true=>have HF2:Hid (Ln.found m (i+1)=(n+1,(k,s,ad))):=A0 TL;go_wp2_with fail;go_roundw;(case rel=>exact⟨i+1,n+1,(k,s,ad),by omega,by go_num,by go_num,by omega,HF2,A0 (Ze (Zs B0 (Zs B0 (Zs B0 HB02.out))) ((Ext.refl _).alloc _)),A0 (Ze (Zk f7) ((Ext.refl _).alloc _)),A0 ((Zo HX2.out B0 _ _ _).alloc _)⟩);case measure=>exact C1
  |false=>
   have HF2:Hid (Ln.found m (i+1)=(n,(k0,s0,a0))):=A0 (by
    rw[WU,<-HO.out]
    cases o with
    |some y=>have:=HBO.out;cases this
    |none=>exact HF.out)
   go_wp2_with fail;go_roundw;(case rel=>exact⟨i+1,n,(k0,s0,a0),by omega,by go_num,rfl,by omega,HF2,A0 (Ze HB02.out ((Ext.refl _).alloc _)),A0 (Ze f7.out ((Ext.refl _).alloc _)),A0 (HX2.out.alloc _)⟩);case measure=>exact C1
 ·obtain rfl:i=5:=B0;have HD2:Hid (res=Ln.outcome (n,(k0,s0,a0))):=A0 (by rw[HD.out,HF.out]);obtain⟨f0,f1,f2,f3,f4,f5,f6,f7⟩:=Zj HB0.out;obtain⟨g0,g1,g2,g3,g4,g5,g6,g7⟩:=Zj HB2.out;unfold Ln.outcome at HD2;dsimp only at HD2;by_cases h0:n=0;(·rw[D0 h0]at HD2;subst h0;exact xT);have z0:((n:Int)==0)=false:=N0.2 B0;rw[C0 h0]at HD2;by_cases h1:1<n;(·have h1I:1<(n:Int):=B0;rw[D0 h1]at HD2;exact xT);·have h1I:¬1<(n:Int):=B0;rw[C0 h1]at HD2;exact xT
end
end Go.Proofs.YtbngggoccndefaaGreatDoor
