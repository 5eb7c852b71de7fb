/-
  Laid.
-/
import Derived.Test.YtbngggoccndefaaGreatDoorLe23
import Derived.Test.YtbngggoccndefaaGreatDoorLe33
set_option maxHeartbeats 8000000
set_option maxRecDepth 100000
set_option linter.all false
namespace Go.Proofs.Enc
open Go.Proofs.Tryz
section
open Go.RowKit
def RdR(o:Option Ln.II)(w:World)(e:Ending)(w':World):Prop:=
 ∃(x:Ln.II),e=.returned (.tuple #[linV x.1 x.2.1 x.2.2,.bool o.isSome])/\(o.isSome=true->o=some x)/\Ext w w'
def RdR.none{w w':World}(h:Ext w w'):RdR none w (.returned (.tuple #[.agg #[.int .i64 0,.string ⟨#[]⟩,.string ⟨#[]⟩],.bool false])) w':=⟨Ln.zero,rfl,(λh=>by cases h),h⟩
def RdR.some{w w':World}{k:Int}{t:List UInt8}(h:Ext w w'):RdR (some (k,t,[])) w (.returned (.tuple #[.agg #[.int .i64 k,.string (Ea.bS t),.string ⟨#[]⟩],.bool true])) w':=⟨(k,t,[]),rfl,λ_=>rfl,h⟩
def F7{w w':World}{o:Obj}{x y z:Value}{t:TypeId}(h:Ext ((w.alloc o).alloc (.cells #[x,y,z] t)) w'):w'.heap[w.heap.size+1]? =some (.cells #[x,y,z] t (0,0)):=
 ZO L0 h
def Z9{w w':World}{b:Nat}(h:Ext w w')(hb:w.heap.size<=b)(p q r:Value):Ext w (((w'.setCell ⟨b,0,none⟩ p).setCell ⟨b,1,none⟩ q).setCell ⟨b,2,none⟩ r):=((h.setCell hb _).setCell hb _).setCell hb _
def xJ(kind:Int)(v:Value)(m:List Bool)(w:World)(hv:SlK w v (m.map encT))(hm:m.length<=1000000):
 Calls prog 81 #[.agg #[v],.int .i64 kind] w (RdR (Ln.Np kind m) w):=by
 obtain⟨res,j7⟩:∃res,res=Ln.Np kind m:=⟨_,rfl⟩;rw[<-j7];unfold Ln.Np at j7;have HW:=B0 (λw' (h:Ext w w')=>BC v m w' (hv.ext h) hm);have Gk:(Rn.widths m).length<=1000000:=F3 (Rn.widths_in m).2 hm;obtain⟨ws,Dv⟩:∃ws,ws=Rn.widths m:=⟨_,rfl⟩;rw[<-Dv]at HW j7 Gk;have HD:=B0 (λv w' (h:Sl w' v (ws.map encI))=>ZgT kind v ws false w' h Gk);obtain⟨⟨t,er⟩,hd⟩:∃r,r=Tw.dec kind ws false:=⟨_,rfl⟩;rw[<-hd]at HD j7;have HR:=B0 j7;obtain⟨-,a,c,rfl,-⟩:=hv;rw[M0]at HW⊢;generalize m.length=ml at*;obtain⟨T,hT⟩:∃T,T=Ea.bS t:=⟨_,rfl⟩;have HT:=B0 hT;have Dl:Hid (∀v w',Sl w' v (ws.map encI)->Calls prog 21 #[.int .i64 kind,v,.bool false] w' λe y8=>e=.returned (.tuple #[.string T,.int .i64 er])/\Ext w' y8):=B0 (λv w' h=>by rw[hT];exact HD.out v w' h);clear Dv hd j7 hT HD;by_cases he:er=0
 .have HF:Hid (res=some (kind,t,[])):=B0 (by rw[HR.out,G0 he]);subst he;clear HR;go_enter func81,ntmps81;go_wp2_with fail;refine(HW.out _ Xf).mono ?_;rintro e w1 ⟨u,rfl,hu,b7⟩;have HU:=B0 hu;clear hu;go_wp2_with fail;refine(Dl.out u w1 HU.out.1).mono ?_;rintro e w2 ⟨rfl,j0⟩;obtain⟨f0,f1,f2,f3,f4,f5,f6,f7⟩:=Zk (F7 (b7.trans j0));have n8:=(b7.trans j0).before.before;clear b7 j0;go_wp2_with fail;refine J2 (Zj results81 rfl (Zm f7) rfl) rfl ?_;rw[HF.out];rw[HT.out];exact xK
 .have HF:Hid (res=none):=B0 (by rw[HR.out,D0 he]);have z:(er !=0)=true:=(by simp[he]);have zd:decide (er=0)=false:=G1 he;clear HR he;go_enter func81,ntmps81;go_wp2_with fail;refine(HW.out _ Xf).mono ?_;rintro e w1 ⟨u,rfl,hu,b7⟩;have HU:=B0 hu;clear hu;go_wp2_with fail;refine(Dl.out u w1 HU.out.1).mono ?_;rintro e w2 ⟨rfl,j0⟩;obtain⟨f0,f1,f2,f3,f4,f5,f6,f7⟩:=Zk (F7 (b7.trans j0));have n8:=(b7.trans j0).before.before;clear b7 j0;go_wp2_with fail;refine J2 (Zj results81 rfl (Zm f7) rfl) rfl ?_;rw[HF.out];exact xL
def Zn3(v:Value)(m:List Bool)(w:World)(hv:SlK w v (m.map encT))(hm:m.length<=1000000):
 Calls prog 36 #[.agg #[v]] w (RdR (Ln.Np 5 m) w):=by
 have HW:=B0 (λw' (h:Ext w w')=>xJ 5 v m w' (hv.ext h) hm);obtain⟨-,a,c,rfl,-⟩:=hv;rw[M0]at HW⊢;generalize m.length=ml at*;generalize Ln.Np 5 m=res at*;go_enter func36,ntmps36;go_wp2_with fail;refine(HW.out _ Xf).mono ?_;rintro e w1 ⟨⟨k,t,ad⟩,rfl,ho,b7⟩;have HO:=B0 ho;obtain⟨f0,f1,f2,f3,f4,f5,f6,f7⟩:=Zk (F7 b7);have n8:=b7.before.before;unfold linV;dsimp only;clear b7 ho;go_wp2_with fail;refine J2 (Zj results36 rfl (Zm f7) rfl) rfl ?_;exact⟨(k,t,ad),rfl,HO.out,Z9 n8 (R3 _) _ _ _⟩
def Zmh(v:Value)(m:List Bool)(w:World)(hv:SlK w v (m.map encT))(hm:m.length<=1000000):
 Calls prog 37 #[.agg #[v]] w (RdR (Ln.Np 6 m) w):=by
 have HW:=B0 (λw' (h:Ext w w')=>xJ 6 v m w' (hv.ext h) hm);obtain⟨-,a,c,rfl,-⟩:=hv;rw[M0]at HW⊢;generalize m.length=ml at*;generalize Ln.Np 6 m=res at*;go_enter func37,ntmps37;go_wp2_with fail;refine(HW.out _ Xf).mono ?_;rintro e w1 ⟨⟨k,t,ad⟩,rfl,ho,b7⟩;have HO:=B0 ho;obtain⟨f0,f1,f2,f3,f4,f5,f6,f7⟩:=Zk (F7 b7);have n8:=b7.before.before;unfold linV;dsimp only;clear b7 ho;go_wp2_with fail;refine J2 (Zj results37 rfl (Zm f7) rfl) rfl ?_;exact⟨(k,t,ad),rfl,HO.out,Z9 n8 (R3 _) _ _ _⟩
def Zmj(v:Value)(m:List Bool)(w:World)(hv:SlK w v (m.map encT))(hm:m.length<=1000000):
 Calls prog 38 #[.agg #[v]] w (RdR (Ln.Np 7 m) w):=by
 have HW:=B0 (λw' (h:Ext w w')=>xJ 7 v m w' (hv.ext h) hm);obtain⟨-,a,c,rfl,-⟩:=hv;rw[M0]at HW⊢;generalize m.length=ml at*;generalize Ln.Np 7 m=res at*;go_enter func38,ntmps38;go_wp2_with fail;refine(HW.out _ Xf).mono ?_;rintro e w1 ⟨⟨k,t,ad⟩,rfl,ho,b7⟩;have HO:=B0 ho;obtain⟨f0,f1,f2,f3,f4,f5,f6,f7⟩:=Zk (F7 b7);have n8:=b7.before.before;unfold linV;dsimp only;clear b7 ho;go_wp2_with fail;refine J2 (Zj results38 rfl (Zm f7) rfl) rfl ?_;exact⟨(k,t,ad),rfl,HO.out,Z9 n8 (R3 _) _ _ _⟩
def Zmi(v:Value)(m:List Bool)(w:World)(hv:SlK w v (m.map encT))(hm:m.length<=1000000):
 Calls prog 34 #[.agg #[v]] w (RdR (Ln.aBQ m) w):=by
 have HW:=B0 (λw' (h:Ext w w')=>Zi4 v m w' (hv.ext h) hm);obtain⟨res,j7⟩:∃res,res=Ln.aBQ m:=⟨_,rfl⟩;rw[<-j7];unfold Ln.aBQ at j7;obtain⟨⟨⟨k,t,ad⟩,er⟩,hd⟩:∃r,r=Ea.dec m:=⟨_,rfl⟩;rw[<-hd]at HW j7;have HR:=B0 j7;obtain⟨-,a,c,rfl,-⟩:=hv;rw[M0]at HW⊢;generalize m.length=ml at*;unfold gotV linV at HW;dsimp only at HW;obtain⟨bb,Ds⟩:∃bb,bb=(er==0):=⟨_,rfl⟩;have HF:Hid (bb=res.isSome/\(res.isSome=true->res=some (k,t,ad))):=B0 (by rw[Ds,HR.out];dsimp only;by_cases he:er=0;(·rw[G0 he];simp[he]);·rw[D0 he];simp[he]);have hbe:=Ds.symm;clear hd j7 Ds HR;go_enter func34,ntmps34;go_wp2_with fail;refine(HW.out _ Xf).mono ?_;rintro e w1 ⟨rfl,b7⟩;obtain⟨f0,f1,f2,f3,f4,f5,f6,f7⟩:=Zk (F7 b7);have n8:=b7.before.before;clear b7;go_wp2_with fail;refine J2 (Zj results34 rfl (Zf (Zm f7) ((Ext.refl _).alloc _)) rfl) rfl ?_;exact⟨(k,t,ad),by rw[HF.out.1];rfl,HF.out.2,(Z9 n8 (R3 _) _ _ _).alloc _⟩
end
section
open Go.RowKit Go.Maps Go
def nF{l:List Int}(h:l.length=6):∃a b c d e f,l=[a,b,c,d,e,f]:=by
 match l,h with
 | [a,b,c,d,e,f],_=>exact⟨a,b,c,d,e,f,rfl⟩
def nG{w:World}{b o:Nat}{x0 x1 x2 x3 x4 x5:Int}(h:w.rangeAt b o (([x0,x1,x2,x3,x4,x5]:List Int).map encI)):w.cell? ⟨b,o,none⟩=some (.int .i64 x0)/\w.cell? ⟨b,o+1,none⟩=some (.int .i64 x1)/\w.cell? ⟨b,o+2,none⟩=some (.int .i64 x2)/\w.cell? ⟨b,o+3,none⟩=some (.int .i64 x3)/\w.cell? ⟨b,o+4,none⟩=some (.int .i64 x4)/\w.cell? ⟨b,o+5,none⟩=some (.int .i64 x5):=
 ⟨h 0 _ rfl,h 1 _ rfl,h 2 _ rfl,h 3 _ rfl,h 4 _ rfl,h 5 _ rfl⟩
def Zhe(v:Value)(m:List Bool)(w:World)(hv:SlK w v (m.map encT))(hm:m.length<=400000):
 Calls prog 79 #[v] w (D5 (Cc.dec m) w):=by
 have Dp:=B0 (LH v m w hv C0);have Kf:=B0 (BC v m w hv C0);obtain⟨Yw,aAW⟩:=Rn.widths_in m;obtain⟨j8,ca,cc,rfl,-⟩:=hv;rw[M0]at j8 Dp Kf⊢;obtain⟨A,hA⟩:∃A,A=Ea.ldg m:=⟨_,rfl⟩;obtain⟨B,hB⟩:∃B,B=Ea.Ac m:=⟨_,rfl⟩;have aAS:Rn.core m=[]↔A=m.length:=by rcases Rn.row_split m with⟨h1,_,h3,_⟩|⟨q,h1,_,h3⟩;(·rw[hA,h3];exact⟨λ_=>rfl,λ_=>h1⟩);·have h4:=V0 List.length h3;rw[S0,S0,M2,M2,h1,B1]at h4;rw[h1,hA];exact⟨λh=>by(cases h),λh=>by omega⟩
 rw[<-hA,<-hB]at Dp;have HR:=B0 (Cc.dec.eq_1 m);rw[<-hA,<-hB]at HR;obtain⟨ws,Dv⟩:∃ws,ws=Rn.widths m:=⟨_,rfl⟩;rw[<-Dv]at HR Kf Yw aAW;generalize Cc.dec m=res at*;obtain⟨M,hM⟩:∃M,M=m.length:=⟨_,rfl⟩;rw[<-hM]at j8 Dp Kf hm aAS Yw aAW⊢;have Kd:=B0 j8;clear hA hB Dv hM j8;by_cases hAM:A=M
 .have z1:((A:Int)==(M:Int))=true:=I1.2 C0;have HF:Hid (res=([],5)):=B0 (by rw[HR.out,G0 (aAS.2 hAM)]);clear HR aAS hAM;exact zJ
 have z1:((A:Int)==(M:Int))=false:=O0.2 C0;have p6:Hid (res=_):=B0 (HR.out.trans (D0 (λh=>hAM (aAS.1 h))));clear HR aAS hAM;by_cases hq:A<10\/B<10
 .have HF:Hid (res=([],9)):=B0 (by rw[p6.out,G0 hq]);clear p6;by_cases aHu:A<10;(·have Nc:(A:Int)<10:=C0;clear hq;exact zJ);·have Nc:¬(A:Int)<10:=C0;have hBI:(B:Int)<10:=C0;clear hq;exact zJ
 have Aj:Hid (res=_):=B0 (p6.out.trans (D0 hq));have Nc:¬(A:Int)<10:=by omega
 have hBI:¬(B:Int)<10:=by omega
 clear p6 hq;obtain⟨n,hn⟩:∃n,n=ws.length:=⟨_,rfl⟩;rw[<-hn]at Aj aAW;have HNW:=B0 hn;clear hn;by_cases hk:n<19\/(n-7)%6≠0
 .have HF:Hid (res=([],7)):=B0 (by rw[Aj.out,G0 hk]);clear Aj;by_cases aIn:n<19;(·have We:(n:Int)-7<12:=C0;clear hk;exact nH);·have We:¬(n:Int)-7<12:=C0;obtain⟨k,Ah⟩:∃k,k=n-7:=⟨_,rfl⟩;have hkI:(n:Int)-7=(k:Int):=C0;obtain⟨r,hr⟩:∃r:Int,r=(k:Int)%6:=⟨_,rfl⟩;have Aa:=hr.symm;have hrI:r≠0:=C0;have Pp:(r !=0)=true:=(by simp[hrI]);have hrd:decide (r=0)=false:=G1 hrI;have We:¬(k:Int)<12:=C0;clear hk Ah hr;exact nH
 have Ot:Hid (res=_):=B0 (Aj.out.trans (D0 hk));obtain⟨k,Ah⟩:∃k,k=n-7:=⟨_,rfl⟩;obtain⟨K,hK⟩:∃K,K=k/6:=⟨_,rfl⟩;rw[<-Ah,<-hK]at Ot;have hkI:(n:Int)-7=(k:Int):=by omega
 have aI2:¬(k:Int)<12:=by omega
 have hp6:(k:Int)%6=0:=by omega
 have hkK:k=6*K:=by omega
 have aFz:(0:Int)<=(k:Int):=by omega
 have hkn:k<=n:=by omega
 have aGH:(k:Int)<=(n:Int):=by omega
 have hwk:IntKind.i64.wrap (k:Int)=(k:Int):=X4 _ C0;have HKK:=B0 hkK;clear Aj hk Ah hK hkK;go_enter func79,ntmps79;go_wp2_with fail;refine Dp.out.mono ?_;rintro e w1 ⟨rfl,rfl⟩;go_wp2_with fail;refine Kf.out.mono ?_;rintro e w1 ⟨u,rfl,⟨hs,a,c,rfl,hc⟩,b7⟩;have Wg:=HNW.out;rw[M0,<-Wg]at hs hc⊢;obtain⟨x0,n9⟩:∃x,ws[0]? =some x:=⟨_,P0 C0⟩;obtain⟨b,o,ha,hb,-⟩:=hs.Af (Ext.refl w1) n9;subst ha;have HS:=B0 hs;have aGI:k<=c:=by omega
 have HSD:Hid (∀w',Ext w1 w'->SlK w' (.slice (some ⟨b,o+k,none⟩) (n-k) (c-k)) ((ws.drop k).map encI)):=B0 (λw' hx=>by have h1:=HS.out.part k n (c-k) J5 hkn;rw[<-J8,<-C9,S1 C0]at h1;exact⟨Sl.ext h1 hx,_,_,by rw[M0,X1,<-Wg],by rw[M0,X1];omega⟩);have IF:=B0 (λw=>BF 106 w (J0 _));clear Wg n9 hs;go_wp2_with fail;obtain⟨db,Jm⟩:∃db,db=decide (ws.drop k=Cc.Wr):=⟨_,rfl⟩;have Nr:=B0 Jm;clear Jm;refine ZG 5 1 rfl [41,42,43,44,45] [[],[],[0,1],[],[2,3]] N0 N0 ?_;apply Zb
 .intro V w' hx hf;(with_reducible refine Zc ?_);intro A ρ hA hρ n6 o5;have h6:ρ (.tmp 6)=.slice (some ⟨b,o,none⟩) n c:=(Y0 hρ _).trans (ZL hA 6 rfl);exact nE
 apply Zb
 .intro V w' hx hf;(with_reducible refine Zc ?_);intro A ρ hA hρ n6 o5;have h7:ρ (.tmp 7)=.int .i64 (k:Int):=(Y0 hρ _).trans (ZL hA 7 rfl);exact xW
 refine Zg (λv w=>SlK w v ((ws.drop k).map encI)) (λ_ _ _ h hx=>h.ext hx) ?_ ?_
 .intro V w' hx hf;(with_reducible refine Zc ?_);intro A ρ hA hρ n6 o5;obtain⟨f41,f42,_⟩:=hf;have h41:ρ (.tmp 41)=_:=(Y0 hρ _).trans ((Ze hA 41 rfl).trans f41);have h42:ρ (.tmp 42)=_:=(Y0 hρ _).trans ((Ze hA 42 rfl).trans f42);have hq:=HSD.out w' hx;simp[Zh,go_sem,n6,↓IntWalk.iteOmega,Ext.refl,h41,h42,hwk,aFz,aGH,hkn,aGI];rw[C9]at hq;exact hq
 refine Zg (λv w=>SlK w v (Cc.Wr.map encI)) (λ_ _ _ h hx=>h.ext hx) ?_ ?_
 .intro V w' hx hf;(with_reducible refine Zc ?_);intro A ρ hA hρ n6 o5;simp[Zh,go_sem,n6,o5];exact(IF.out w').mono λe y8 ⟨u,he,hs,hy⟩=>⟨u,he,hy,hs⟩
 refine Zg (eqv (.bool db)) (Zz _) ?_ ?_
 .intro V w' hx hf;(with_reducible refine Zc ?_);intro A ρ hA hρ n6 o5;obtain⟨f43,f44,_⟩:=hf;have Rt:ρ (.tmp 43)=V 43:=(Y0 hρ _).trans (Ze hA 43 rfl);have h44:ρ (.tmp 44)=V 44:=(Y0 hρ _).trans (Ze hA 44 rfl);simp[Zh,go_sem,n6,o5,Rt,h44];exact(ZiB (V 43) (V 44) (ws.drop k) Cc.Wr w' f43.1 f44.1 (by rw[X1];have:=HNW.out;omega) I0).mono λe y8 ⟨he,q,hw⟩=>⟨_,he,by rw[hw];exact(Ext.refl _).drewN _,by rw[Nr.out];rfl⟩
 intro V wT Gt hf;obtain⟨-,-,-,-,g45,-⟩:=hf;simp only[Zs,N3,B6,Act.put,H9,O6,E6];have q45:V 45=_:=g45;rw[q45];refine zH 5 N0 rfl (λK5 hK5=> ?_);go_simp;refine hK5 _ _ ?_;clear hK5 K5;refine⟨rfl,?_⟩;have n8:=b7.trans Gt;clear g45 q45;by_cases p9:ws.drop k≠Cc.Wr
 .have HF:Hid (res=([],20)):=B0 (Ot.out.trans (G0 p9));obtain rfl:db=false:=(by rw[Nr.out];exact G1 p9);clear Ot p9;go_wp2;go_ret2;rw[HF.out];exact D5.bad _ _ _ n8
 have Nu:Hid (res=_):=B0 (Ot.out.trans (D0 p9));obtain rfl:db=true:=by rw[Nr.out];exact C1 (I9.1 p9)
 clear Ot p9 HSD IF;have Bm:= @MN prog;have aAf:=MapV.made (P:=prog) (k:=172) (key:=Cc.key) wT;rw[<-Cc.aF0]at aAf;have aDH:=B0 aAf;have Px:=B0 (Ext.refl wT);clear aAf;clear Dp Kf Kd;have aEO:=B0 n8;have IK:=B0 (b7);clear n8;go_wp2_with fail;have IF:=B0 (λv w hv=>BF v w hv);go_loopw [48] (λt wr=>∃i:Nat,i<=106/\t=.int .i64 (i:Int)/\Hid (MapV prog 172 Cc.key wr wT.heap.size i (Cc.fTo i))/\Hid (Ext wT wr)) (λt _=>106-(intOf t).toNat)
 case atStart=>exact⟨0,R0 _,rfl,aDH,B0 ((Ext.refl wT).alloc _)⟩
 case round=>
 clear aDH Px;obtain⟨i,hi,rfl,HM,HX⟩:=hrel;by_cases hlt:i<106
 .have Kl:(i:Int)<106:=C0;obtain⟨pl,pin⟩:=Cc.pat_in i hlt;have ew:Cc.widOf i=Cc.Gu.getD i []:=(by rw[Cc.widOf,D0 C0]);go_wp2_with fail;refine(IF.out i wr C0).mono ?_;rintro e w2 ⟨u,rfl,⟨hu,a2,c2,rfl,-⟩,j0⟩;rw[ew]at hu;rw[ew,M0,pl];rw[M0,pl]at hu;obtain⟨y0,hy0⟩:∃x,(Cc.Gu.getD i [])[0]? =some x:=⟨_,P0 (by rw[pl];decide)⟩;obtain⟨b2,o2,ha,n7,-⟩:=hu.Af (Ext.refl w2) hy0;subst ha;have Bi:=hu.aEX (Ext.refl w2) 0;rw[B5,S1 (by rw[pl];exact J0 _),Nat.add_zero]at Bi;obtain⟨y0,y1,y2,y3,y4,y5,Ug⟩:=nF pl;rw[Ug]at Bi;obtain⟨Bc,Am,IS,hc3,hc4,hc5⟩:=nG Bi;have Cb:= @lF w2 (some ⟨b2,o2,none⟩) c2;obtain⟨kl,Jo⟩:=Cc.keyOf_six' pl (λx hx=>by have:=pin x hx;omega);have hM2:=HM.out.kept j0.Hl L0;obtain⟨w3,hup,hM3,Vu⟩:=hM2.put (T:=171) Cc.keyed underlying171 Jo (i:Int) O3 Cc.key_inj;rw[<-Cc.fTo_succ i hlt]at hM3;rw[Ug]at hup;have hup:(Instr.mapUpdate 171 (.map (some wT.heap.size)) (.agg #[.int .i64 y0,.int .i64 y1,.int .i64 y2,.int .i64 y3,.int .i64 y4,.int .i64 y5]) (.int .i64 (i:Int))).run prog w2=_:=hup;have HM3:=B0 hM3;have Ct:=B0 ((HX.out.trans j0).l8 Vu (λq hq=>by injection hq with hq;omega));clear hM3 Vu hM2 Jo Bi hu hy0 HM HX pin ew pl Ug;go_wp2_with fail;go_roundw;(case rel=>exact⟨_,_,_,_,_,_,_,_,_,_,_,⟨i+1,by omega,by go_num,HM3,Ct⟩,rfl⟩);case measure=>exact Qr
 obtain rfl:i=106:=by omega
 rw[Cc.aFZ]at HM;clear hi hlt IF;have aCY:wT.heap.size<wr.heap.size:=HM.out.lt;obtain⟨mb,Mm⟩:∃mb,mb=wT.heap.size:=⟨_,rfl⟩;rw[<-Mm]at HM aCY⊢;have Ls:=B0 Mm;have Vb:Hid (mb+1<=wr.heap.size):=B0 aCY;clear aCY Mm;go_wp2_with fail;go_loopw [10,11] (λu t wq=>∃(j:Nat)(out:List Int),j<=K/\t=.int .i64 ((6*j:Nat):Int)/\out.length<=j/\Hid (Cc.valsGo K ws=(Cc.valsGo (K-j) (ws.drop (6*j))).map (out++·))/\Hid (Own 3 wq (mb+1) u (out.map encI))/\Hid (MapV prog 172 Cc.key wq mb 106 λw=>(Cc.valOf w).map λ(i:Nat)=>(i:Int))/\Hid (Ext wT wq)/\Hid (mb+1<=wq.heap.size)) (λ_ t _=>k-(intOf t).toNat)
 case atStart=>exact⟨0,[],R0 _,rfl,J0 _,B0 (by rw[NS,B5,T8];cases Cc.valsGo K ws<;>rfl),B0 (Own.nil _ _ _),HM,HX,Vb⟩
 case round=>
 clear HM HX Vb;obtain⟨j,out,hj,rfl,Nj,HV,HO,HM,HX,Vb⟩:=hrel;obtain⟨p,hp⟩:∃p,p=6*j:=⟨_,rfl⟩;rw[<-hp]at HV⊢;have hkK:=HKK.out;by_cases hlt:j<K
 .obtain⟨q,hq⟩:∃q,q=p+6:=⟨_,rfl⟩
  have hqI:(p:Int)+6=(q:Int):=by omega
  have hqp:q-p=6:=by omega
  have hpk:(p:Int)<(k:Int):=by omega
  have hpq:p<=q:=by omega
  have aIr:(p:Int)<=(q:Int):=by omega
  have Yr:q<=c:=by omega
  have aIs:(q:Int)<=(c:Int):=by omega
  have hqk:q<=k:=by omega
  have h6:((ws.drop p).take 6).length=6:=by rw[J1,X1,<-HNW.out];omega
  obtain⟨y0,y1,y2,y3,y4,y5,Ug⟩:=nF h6
  have Bi:=HS.out.aEX (Gt.trans HX.out) p
  obtain⟨kl,Jo⟩:=Cc.keyOf_six' h6 (λx hx=>by have:=Yw x (X7 (I4 hx));omega)
  have Hq:=HM.out.get (T:=171) (e:=3) Cc.keyed underlying171 N0 Jo
  have Cf:Cc.valsGo (K-j) (ws.drop p)=match Cc.valOf ((ws.drop p).take 6)with|none=>none|some v=>(Cc.valsGo (K-(j+1)) (ws.drop q)).map λl=>(v:Int)::l:=by rw[show K-j=(K-(j+1))+1 by omega,Cc.valsGo,P4,<-hq];rfl
  rw[Cf]at HV
  rw[Ug]at Bi Hq
  rw[Ug]at HV
  obtain⟨Bc,Am,IS,hc3,hc4,hc5⟩:=nG Bi
  have Cb:=λc'=> @lF wr (some ⟨b,o+p,none⟩) c'
  have Hq:(Instr.lookup 171 (.map (some mb)) (.agg #[.int .i64 y0,.int .i64 y1,.int .i64 y2,.int .i64 y3,.int .i64 y4,.int .i64 y5]) true).run prog wr=_:=Hq
  clear Jo Bi h6 Ug Cf
  cases hvo:Cc.valOf [y0,y1,y2,y3,y4,y5]with
  |none=>rw[hvo]at HV Hq;have HF:Hid (res=([],18)):=B0 (by rw[Nu.out,HV.out];rfl);have n8:=aEO.out.trans HX.out;simp only[Option.map_none,Option.getD_none,Option.isSome_none]at Hq;clear HV Nu hp hq hkK hj Nj hlt hqk HO HM HX Vb;go_wp2_with fail;go_ret2;rw[HF.out];exact D5.bad _ _ _ n8
  |some v=>rw[hvo]at HV Hq;simp only[YS,Option.getD_some,Option.isSome_some]at Hq;have Hh:Hid (Cc.valsGo K ws=(Cc.valsGo (K-(j+1)) (ws.drop q)).map ((out++[(v:Int)])++·)):=B0 (by rw[HV.out];dsimp only;rw[Option.map_map];congr 1;funext l;simp);have b8:=HO.out;have o4:=Vb.out;have Lf:(out++[(v:Int)]).length<=j+1:=LL;have aGT:out.length<=400000:=C0;have hq6:6*(j+1)=q:=C0;have aIk:k-q<k-p:=C0;clear HV hp hq hkK HO hvo;go_wp2_with (at_builtin;refine Zy rfl _ _ rfl (mb+1) _ out rfl (b8.alloc _) _ (v:Int) rfl ?c1 ?c2 ?c3 ?_);(case c1=>exact V2);(case c2=>omega);(case c3=>exact L4);intro v' w5 l6 j6;have Mi:=Ls.out;have p7:=B0 ((HX.out.alloc _).l8 j6 (λr hr=>by have:=b8.low r hr;omega));have Kc:=B0 ((HM.out.kept ((Ext.refl wr).alloc (.cells #[.int .i64 (v:Int)] 3)).Hl L0).kept j6 (λe=>by have:=b8.low _ e;omega));have aEy:Hid (mb+1<=w5.heap.size):=B0 (F3 o4 (F3 L0 j6.size));have s6:Hid (Own 3 w5 (mb+1) v' ((out++[(v:Int)]).map encI)):=B0 F8;clear b8 l6 j6 o4 Mi HM HX Vb Hq;go_wp2_with fail;refine⟨⟨_,_,_,_,_,_,_,_,_,_,_,_,_,_,_,_,_,_,_,_,_,_,_,_,_,_,_,_,_,⟨j+1,_,by omega,by rw[hq6],Lf,by rw[hq6];exact Hh,s6,Kc,p7,aEy⟩,rfl⟩,?_⟩;(simp[intOf];try omega)
 .obtain rfl:K=j:=C0;have HF:Hid (res=Cc.chars (out++[106])):=B0 (by rw[Nu.out,HV.out,Y3];simp[Cc.valsGo]);have hpk:¬(p:Int)<(k:Int):=C0;have b8:=HO.out;have o4:=Vb.out;have Lf:(out++[(106:Int)]).length<=400000:=LL;have aGT:out.length<=400000:=C0;have HXT:=aEO;clear HV Nu hp hkK HO HM hj hlt;go_wp2_with (at_builtin;refine Zy rfl _ _ rfl (mb+1) _ out rfl (b8.alloc _) _ 106 rfl ?c1 ?c2 ?c3 ?_);(case c1=>exact V2);(case c2=>omega);(case c3=>exact L4);intro v' w5 l6 j6;have Mi:=Ls.out;have p7:=B0 (HXT.out.trans ((HX.out.alloc _).l8 j6 (λr hr=>by have:=b8.low r hr;omega)));have hk5:SlK w5 v' ((out++[(106:Int)]).map encI):=(by have h:Own 3 w5 (mb+1) v' ((out++[(106:Int)]).map encI):=F8;exact h.IW);have Fl:=B0 (ZkS v' (out++[106]) w5 hk5 Lf);clear b8 l6 j6 o4 Mi hk5;go_wp2_with fail;refine Fl.out.mono ?_;rintro e w6 ⟨u,rfl,Wj,o9⟩;have Fo:=B0 Wj;have Bj:=p7.out.trans o9;clear Wj;go_wp2;go_ret2;rw[HF.out];exact⟨_,rfl,Fo.out,Bj⟩
end
section
open Go.RowKit
def Zke{xs:List Gs.El}(h:Gs.verL xs=0):∀x∈xs,x.1.length<=maxLen/\x.2.length<=maxLen:=by intro x hx;have:=VP (SG h x hx);exact B8
def Znd{xs:List Gs.El}(h:Gs.verL xs=0):xs.length<=(Gs.chG xs).length:=by
 induction xs with
 |nil=>simp
 |cons x xs ih=>obtain⟨h0,h1⟩:=AP h;obtain⟨r,h2,_⟩:=VL h0;have h3:=(XJ h2).1;have h4:=ih h1;simp only[Gs.chG,S0,F9,B1];omega
def Zne{xs:List Gs.El}{c:List Int}(h:Gs.frChars c=(xs,0)):xs.length<=4096/\∀x∈xs,x.1.length<=maxLen/\x.2.length<=maxLen:=by
 have h:=ZfM h;unfold Gs.chars at h;split at h;·exact KG
 .split at h;(·simp at h);·rename_i h1 h2;have h3:=OB (L5 h1);have:=Znd h3;rw[B1]at h2;exact⟨by omega,Zke h3⟩
def ZiK(v:Value)(m:List Bool)(w:World)(hv:Sl w v (m.map encT))(hm:m.length<=1000000):
 Calls prog 77 #[v,.bool true] w λe w'=>(∃k:Int,e=.returned (.int .i64 k)/\decide (0<=k)=Ln.Ro m)/\w=w':=by
 obtain⟨a,c,rfl⟩:=hv.form;rw[M0]at hv⊢;obtain⟨n,hn⟩:∃n,n=m.length:=⟨_,rfl⟩;rw[<-hn]at hv hm⊢;have HN:=B0 hn;have HV:=B0 hv;have HD:=B0 (show Ln.Ro m=m.any λb=>b from rfl);generalize Ln.Ro m=d at*;clear hv hn;go_enter func77,ntmps77;go_wp2_with fail;go_loop [8] (λt=>∃j:Nat,j<=n/\t=.int .i64 (j:Int)/\Hid (∀x∈m.take j,x=false)) (λt=>n-(intOf t).toNat)
 case atStart=>exact DC
 case round=>
 obtain⟨j,hj,rfl,HB⟩:=hrel;by_cases hlt:j<n
 .obtain⟨x,l9⟩:∃x,m[j]? =some x:=⟨_,P0 X3⟩
  obtain⟨b,o,ha,hb,hc⟩:=HV.out.Xn (Ext.refl w) l9
  subst ha
  have Bx:(j:Int)<(n:Int):=by omega
  cases x with
  |true=>have HF:Hid (d=true):=B0 (by rw[HD.out,VK];exact⟨true,L1 l9,rfl⟩);clear l9;go_wp2;go_ret;exact⟨⟨_,rfl,by rw[HF.out];exact C1 C0⟩,rfl⟩
  |false=>have Ch:Hid (∀y∈m.take (j+1),y=false):=B0 (λy hy=>by rw[Z5 l9]at hy;rcases E3.1 hy with h|h;(·exact HB.out y h);·rw[D3]at h;exact h);clear l9;exact nB
 .obtain rfl:n=j:=C0;have HF:Hid (d=false):=B0 (by rw[HD.out,WM];intro x hx;rw[HB.out x zI];simp);clear hlt hj;go_wp2;go_ret;exact⟨⟨_,rfl,by rw[HF.out];rfl⟩,rfl⟩
def nR(v:Value)(m:List Bool)(w:World)(hv:Sl w v (m.map encT))(hm:m.length<=1000000):
 Calls prog 33 #[v,.bool true] w λe w'=>e=.returned (.bool (Ln.Ro m))/\w=w':=by
 have HI:=B0 (ZiK v m w hv hm);generalize Ln.Ro m=d at*;obtain⟨a,c,rfl⟩:=hv.form;rw[M0]at HI⊢;generalize m.length=n at*;go_enter func33,ntmps33;go_wp2_with fail;refine HI.out.mono ?_;rintro e w1 ⟨⟨k,rfl,hk⟩,rfl⟩;go_wp2;go_ret;exact⟨by first|rfl|simp[hk],rfl⟩
def nS(w:World)(n:Nat)(B:Nat)(hn:n<=1000000)(hB:B<=w.heap.size):∃w',(Instr.makeSlice 90 (.int .i64 (n:Int)) (.int .i64 (n:Int))).run prog w=.ok (.slice (some ⟨w.heap.size,0,none⟩) n n) w'/\Own 5 w' B (.slice (some ⟨w.heap.size,0,none⟩) n n) ((List.replicate n (0:UInt8)).map encB)/\Ext w w':=by
 obtain⟨i0,hi,An,p8,x9⟩:=C5 UI;obtain⟨w',h1,h2,h3⟩:=PM (P:=prog) w B 90 5 i0 (.int .u8 0) 1 underlying90 hi An p8 .i64 .i64 n TM TN hB;refine⟨w',h1,?_,(Ext.refl w).l8 h3 (λk hk=>by cases hk)⟩;unfold Own;rw[M0,M2];have e:(madeCells (Value.int .u8 0).cells (n*1)).toList=(List.replicate n (0:UInt8)).map encB:=aY;rw[<-e];exact h2
def Own.aFE{w:World}{B g n c:Nat}{xs:List UInt8}(h:Own 5 w B (.slice (some ⟨g,0,none⟩) n c) (xs.map encB)){i:Nat}(hi:i<xs.length):∃x,w.cell? ⟨g,i,none⟩=some (encB x)/\w.frozen? ⟨g,i,none⟩=false:=by
 rcases h.2 with⟨h1,_⟩|⟨g',cap,cur,h1,hb,hg,_,_,Ar,ht⟩;·cases h1
 .injection h1 with h2;injection h2 with h2;injection h2 with h2;subst h2;refine⟨xs[i],?_,by simp[World.frozen?,hg]⟩;have e:cur.toList[i]? =some (encB xs[i]):=aZ;simp only[World.cell?,hg];simpa using e
def Own.aHO{w:World}{B g n c:Nat}{xs:List UInt8}(h:Own 5 w B (.slice (some ⟨g,0,none⟩) n c) (xs.map encB))(i:Nat)(x:UInt8):Own 5 (w.setCell ⟨g,i,none⟩ (encB x)) B (.slice (some ⟨g,0,none⟩) n c) ((xs.set i x).map encB):=by
 have hn:n=(xs.map encB).length:=bA;subst hn;obtain⟨h1,h2⟩:=World.ownsRow.stored h i (encB x);unfold Own;rw[List.map_set,P6];exact h1
def ZjO{l:List Int}{x:Int}{i n:Nat}(f:Int->UInt8)(hn:l.length=n)(h:l[i]? =some x):((l.take i).map f++List.replicate (n-i) (0:UInt8)).set i (f x)=(l.take (i+1)).map f++List.replicate (n-(i+1)) 0:=by
 have hi:=(N1.1 h).1;have e:n-i=(n-(i+1))+1:=by omega
 rw[RH _ _ (by rw[M0,J1];omega),M0,J1,D7 C0,Y3,e,G5,E6,Z5 h,R2,V1];rfl
def chB(c:Int):UInt8:=UInt8.ofNat c.toNat
def Zmg(v:Value)(m:List Bool)(w:World)(hv:SlK w v (m.map encT))(hm:m.length<=400000)(ht:ZQ w):
 Calls prog 35 #[.agg #[v]] w (RdR (Ln.aAl m) w):=by
 have HD:=B0 (λw' (h:Ext w w')=>Zhe v m w' (hv.ext h) hm);have Wx:=B0 (λcs h=> @Cc.dec_ge m cs h);have Gk:=(Rn.widths_in m).2;obtain⟨res,j7⟩:∃res,res=Ln.aAl m:=⟨_,rfl⟩;rw[<-j7];unfold Ln.aAl at j7;obtain⟨⟨cs,er⟩,hd⟩:∃r,r=Cc.dec m:=⟨_,rfl⟩;rw[<-hd]at HD Wx j7;unfold Ln.aCl at j7;dsimp only at j7;have HR:=B0 j7;have HT:=B0 ht;obtain⟨-,a,c,rfl,-⟩:=hv;rw[M0]at HD⊢;clear hd j7;by_cases he:er≠0
 .have HF:Hid (res=none):=B0 (by rw[HR.out,G0 he]);have z:(er !=0)=true:=(by simp[he]);have zd:decide (er=0)=false:=G1 he;clear HR he Wx;generalize m.length=ml at*;go_enter func35,ntmps35;go_wp2_with fail;refine(HD.out _ Xf).mono ?_;rintro e w1 ⟨u,rfl,hu,b7⟩;obtain⟨f0,f1,f2,f3,f4,f5,f6,f7⟩:=Zk (F7 b7);have n8:=b7.before.before;clear b7 hu;exact nT
 obtain rfl:er=0:=I9.1 he;have p6:=B0 (HR.out.trans (D0 he));obtain⟨Bc,x8⟩:=Wx.out cs rfl;have x8:cs.length<=400000:=by omega
 generalize m.length=ml at*;have HC0:=B0 Bc;clear HR he Wx Bc Gk;obtain⟨n,hn⟩:∃n,n=cs.length:=⟨_,rfl⟩;rw[<-hn]at x8;have HN:=B0 hn;clear hn;by_cases hf:cs.head? =some 256
 .rw[G0 hf]at p6;have n9:cs[0]? =some 256:=(by rw[<-List.head?_eq_getElem?];exact hf);have Mn:0<n:=(by have:=(N1.1 n9).1;rw[HN.out];exact L3);have We:(0:Int)<(n:Int):=C0;have Cj:=B0 n9;have HFR:=B0 (λv w' h h2=>Zlt v cs w' h G8 h2);obtain⟨⟨els,e2⟩,hfr⟩:∃r,r=Gs.frChars cs:=⟨_,rfl⟩;have Bp:=B0 (λh=> @Zne els cs h);rw[<-hfr]at HFR p6 Bp;dsimp only at p6;unfold ElsR at HFR;dsimp only at HFR;clear hf n9 hfr;by_cases he2:e2≠0;(·rw[G0 he2]at p6;have z:(e2 !=0)=true:=(by simp[he2]);have zd:decide (e2=0)=false:=G1 he2;clear he2 Bp;go_enter func35,ntmps35;go_wp2_with fail;refine(HD.out _ Xf).mono ?_;rintro e w1 ⟨u,rfl,hu,b7⟩;have Ie:=B0 (Z4 HT.out b7.before.before);have Xb:=B0 (HFR.out u w1 hu Ie.out);obtain⟨j8,au,cu,rfl,Yi⟩:=hu;rw[M0,<-HN.out]at j8 Xb Yi⊢;obtain⟨b,o,ha,hb,hc⟩:=j8.Af (Ext.refl w1) Cj.out;subst ha;rw[Nat.add_zero]at hc;have IK:=B0 b7;clear b7 j8;go_wp2_with fail;refine Xb.out.mono ?_;rintro e w2 ⟨u2,rfl,ID,j0⟩;obtain⟨f0,f1,f2,f3,f4,f5,f6,f7⟩:=Zk (F7 (IK.out.trans j0));have n8:=(IK.out.trans j0).before.before;clear j0 ID hc;exact nU);obtain rfl:e2=0:=I9.1 he2;rw[D0 he2]at p6;obtain⟨aIU,aDo⟩:=Bp.out rfl;have HFO:=B0 (λv w' h h2=>ZiG v els w' h C0 aDo h2);obtain⟨⟨s,e3⟩,hfo⟩:∃r,r=Gs.format els:=⟨_,rfl⟩;rw[<-hfo]at HFO p6;dsimp only at p6;obtain⟨T,hT⟩:∃T,T=Ea.bS s:=⟨_,rfl⟩;have HTB:=B0 hT;have aDE:Hid (∀v w',ESl w' v els->ZQ w'->Calls prog 19 #[v] w' λe y8=>e=.returned (.tuple #[.string T,.int .i64 e3])/\Ext w' y8):=B0 (λv w' h h2=>by rw[hT];exact HFO.out v w' h h2);clear hfo HFO he2 Bp aDo hT;by_cases Vs:e3≠0;(·rw[G0 Vs]at p6;have z:(e3 !=0)=true:=(by simp[Vs]);have zd:decide (e3=0)=false:=G1 Vs;clear Vs;go_enter func35,ntmps35;go_wp2_with fail;refine(HD.out _ Xf).mono ?_;rintro e w1 ⟨u,rfl,hu,b7⟩;have Ie:=B0 (Z4 HT.out b7.before.before);have Xb:=B0 (HFR.out u w1 hu Ie.out);obtain⟨j8,au,cu,rfl,Yi⟩:=hu;rw[M0,<-HN.out]at j8 Xb Yi⊢;obtain⟨b,o,ha,hb,hc⟩:=j8.Af (Ext.refl w1) Cj.out;subst ha;rw[Nat.add_zero]at hc;have IK:=B0 b7;clear b7 j8;go_wp2_with fail;refine Xb.out.mono ?_;rintro e w2 ⟨u2,rfl,ID,j0⟩;have Kt:=B0 ID;have IA:=B0 j0;clear ID j0 hc;go_wp2_with fail;refine(aDE.out u2 w2 Kt.out (Z4 Ie.out IA.out)).mono ?_;rintro e w3 ⟨rfl,j4⟩;obtain⟨f0,f1,f2,f3,f4,f5,f6,f7⟩:=Zk (F7 ((IK.out.trans IA.out).trans j4));have n8:=((IK.out.trans IA.out).trans j4).before.before;clear j4;exact nU);·obtain rfl:e3=0:=I9.1 Vs;rw[D0 Vs]at p6;clear Vs;go_enter func35,ntmps35;go_wp2_with fail;refine(HD.out _ Xf).mono ?_;rintro e w1 ⟨u,rfl,hu,b7⟩;have Ie:=B0 (Z4 HT.out b7.before.before);have Xb:=B0 (HFR.out u w1 hu Ie.out);obtain⟨j8,au,cu,rfl,Yi⟩:=hu;rw[M0,<-HN.out]at j8 Xb Yi⊢;obtain⟨b,o,ha,hb,hc⟩:=j8.Af (Ext.refl w1) Cj.out;subst ha;rw[Nat.add_zero]at hc;have IK:=B0 b7;clear b7 j8;go_wp2_with fail;refine Xb.out.mono ?_;rintro e w2 ⟨u2,rfl,ID,j0⟩;have Kt:=B0 ID;have IA:=B0 j0;clear ID j0 hc;go_wp2_with fail;refine(aDE.out u2 w2 Kt.out (Z4 Ie.out IA.out)).mono ?_;rintro e w3 ⟨rfl,j4⟩;obtain⟨f0,f1,f2,f3,f4,f5,f6,f7⟩:=Zk (F7 ((IK.out.trans IA.out).trans j4));have n8:=((IK.out.trans IA.out).trans j4).before.before;clear j4;go_wp2_with fail;refine J2 (Zj results35 rfl (Zm f7) rfl) rfl ?_;rw[p6.out,HTB.out];exact xK
 rw[D0 hf]at p6;have HHD:Hid (∀x,cs[0]? =some x->x≠256):=B0 (λx h e=>hf (by rw[List.head?_eq_getElem?,h,e]));clear hf;by_cases h0:n=0
 .obtain rfl:cs=[]:=U3 (by rw[<-HN.out];exact h0);subst h0;go_enter func35,ntmps35;go_wp2_with fail;refine(HD.out _ Xf).mono ?_;rintro e w1 ⟨u,rfl,hu,b7⟩;obtain⟨j8,au,cu,rfl,Yi⟩:=hu;have IK:=B0 b7;obtain⟨wm,IT,Ef,Bg⟩:=nS w1 0 w1.heap.size C0 (J0 _);have IT:(Instr.makeSlice 90 (.int .i64 0) (.int .i64 0)).run prog w1=_:=IT;have Cv:=Zp (l:=[]) Ef.sl;have HF:Hid (res=some (8,[],[])):=B0 (by rw[p6.out,D0 I0];rfl);obtain⟨f0,f1,f2,f3,f4,f5,f6,f7⟩:=Zk (F7 (IK.out.trans Bg));have n8:=(IK.out.trans Bg).before.before;clear b7 j8 Bg Ef HD;go_wp2_with fail;go_loopw [53] (λt wr=>t=.int .i64 0/\wr=wm) (λ_ _=>0);(case atStart=>exact XB)
  case round=>
  obtain⟨rfl,rfl⟩:=hrel;exact nV
 .have We:(0:Int)<(n:Int):=C0;obtain⟨x0,n9⟩:∃x,cs[0]? =some x:=⟨_,P0 G8⟩;have aJT:(x0==256)=false:=O0.2 (HHD.out x0 n9);have Cj:=B0 n9;clear n9;go_enter func35,ntmps35;go_wp2_with fail;refine(HD.out _ Xf).mono ?_;rintro e w1 ⟨u,rfl,hu,b7⟩;obtain⟨j8,au,cu,rfl,Yi⟩:=hu;rw[M0,<-HN.out]at j8 Yi⊢;obtain⟨b,o,ha,hb,hc⟩:=j8.Af (Ext.refl w1) Cj.out;subst ha;rw[Nat.add_zero]at hc;have IK:=B0 b7;have HS:=B0 j8;obtain⟨wm,IT,Ef,Bg⟩:=nS w1 n w1.heap.size C0 (J0 _);have Ib:=B0 Ef;have Gw:=B0 Bg;clear b7 j8 Bg Ef HD;go_wp2_with fail;go_loopw [53] (λt wr=>∃j:Nat,j<=n/\t=.int .i64 (j:Int)/\Hid (∀x∈cs.take j,x<128)/\Hid (Own 5 wr w1.heap.size (.slice (some ⟨w1.heap.size,0,none⟩) n n) (((cs.take j).map chB++List.replicate (n-j) (0:UInt8)).map encB))/\Hid (Ext w1 wr)) (λt _=>n-(intOf t).toNat);(case atStart=>exact⟨0,R0 _,rfl,B0 (λx hx=>by simp at hx),by simpa using Ib,Gw⟩)
  case round=>
  clear Ib Gw IT;obtain⟨j,hj,rfl,HB,HO,HX⟩:=hrel;by_cases hlt:j<n;(·obtain⟨x,l9⟩:∃x,cs[j]? =some x:=⟨_,P0 X3⟩;obtain⟨b',o',ha,Kh,Nf⟩:=HS.out.Af HX.out l9;injection ha with ha;injection ha with h1 h2;subst h1 h2;have Bx:(j:Int)<(n:Int):=C0;have hxg:=HC0.out x (L1 l9);by_cases hx:x<128;(·have hbx:((chB x).toNat:Int)=x:=(by unfold chB;exact LO);obtain⟨xo,co,fo⟩:=HO.out.aFE (i:=j) (by rw[S0,M0,J1,M2,<-HN.out];omega);have Fs:=HO.out.aHO j (chB x);rw[ZjO chB HN.out.symm l9]at Fs;unfold encB at Fs;rw[hbx]at Fs;have Ed:=B0 Fs;have Ch:Hid (∀y∈cs.take (j+1),y<128):=B0 (λy hy=>by rw[Z5 l9]at hy;rcases E3.1 hy with h|h;(·exact HB.out y h);·rw[D3]at h;subst h;exact hx);have hxI:¬128<=x:=C0;clear l9 Fs hbx;go_wp2_with fail;go_roundw;(case rel=>exact⟨j+1,by omega,by go_num,Ch,Ed,B0 (HX.out.setCell (p:=⟨w1.heap.size,j,none⟩) (J0 _) _)⟩);case measure=>exact Qr);·have HF:Hid (res=none):=B0 (by rw[p6.out,G0];rw[VK];exact⟨x,L1 l9,by simp;omega⟩);have hxI:128<=x:=C0;obtain⟨f0,f1,f2,f3,f4,f5,f6,f7⟩:=Zk (F7 (IK.out.trans HX.out));have n8:=(IK.out.trans HX.out).before.before;clear l9 hx;exact nT);·obtain rfl:n=j:=C0;have HF:Hid (res=some (8,cs.map chB,[])):=B0 (by rw[p6.out,D0];(·rfl);·rw[UW,WM];intro x hx;have:=HB.out x zI;simp;omega);have hO:=HO.out;rw[Y3,XH,A3,S1 P7]at hO;have Cv:=Zp hO.sl;obtain⟨f0,f1,f2,f3,f4,f5,f6,f7⟩:=Zk (F7 (IK.out.trans HX.out));have n8:=(IK.out.trans HX.out).before.before;clear hO hlt hj;exact nV
def rdrs:Array Value:= #[.func (.func 34) #[] #[],.func (.func 35) #[] #[],.func (.func 36) #[] #[],.func (.func 37) #[] #[],.func (.func 38) #[] #[]]
def DecL(w:World)(m:List Bool)(tn ti:Value)(wr:World):Prop:=∃(i n:Nat)(x:Ln.II)(t1 t2:TypeId),i<=5/\ti=.int .i64 (i:Int)/\tn=.int .i64 (n:Int)/\n<=i/\Hid (Ln.found m i=(n,x))/\
 Hid (wr.heap[w.heap.size]? =some (.cells #[.int .i64 0,.string ⟨#[]⟩,.string ⟨#[]⟩] 33 (0,0)))/\Hid (wr.heap[w.heap.size+1]? =some (.cells rdrs t1 (0,0)))/\Hid (wr.heap[w.heap.size+2]? =some (.cells #[.int .i64 x.1,.string (Ea.bS x.2.1),.string (Ea.bS x.2.2)] t2 (0,0)))/\Hid (Ext w wr)
def Zou{w:World}{b:Nat}{t:TypeId}(h:w.heap[b]? =some (.cells rdrs t (0,0))):w.cell? ⟨b,0,none⟩=some (.func (.func 34) #[] #[])/\w.cell? ⟨b,1,none⟩=some (.func (.func 35) #[] #[])/\w.cell? ⟨b,2,none⟩=some (.func (.func 36) #[] #[])/\w.cell? ⟨b,3,none⟩=some (.func (.func 37) #[] #[])/\w.cell? ⟨b,4,none⟩=some (.func (.func 38) #[] #[]):=
 ⟨Zv h rfl,Zv h rfl,Zv h rfl,Zv h rfl,Zv h rfl⟩
def SL(m:List Bool)(i:Nat):Ln.found m (i+1)=match Ln.reader i m with|none=>Ln.found m i|some x=>((Ln.found m i).1+1,x):=rfl
def nW(v:Value)(m:List Bool)(w:World)(hv:SlK w v (m.map encT))(hm:m.length<=1000000)(ht:ZQ w):
 Calls prog 13 #[v] w λe w'=>e=.returned (gotV (Ln.decode m))/\Ext w w':=by
 have HT:=B0 ht;have Ec:=B0 (λw' (h:Ext w w')=>nR v m w' (hv.ext h).1 hm);have Uy:=B0 (λw' (h:Ext w w')=>Zmi v m w' (hv.ext h) hm);have p6:=B0 (λ(h2:m.length<=65536) w' (h:Ext w w')=>Zmg v m w' (hv.ext h) C0 (Z4 HT.out h));have Aj:=B0 (λw' (h:Ext w w')=>Zn3 v m w' (hv.ext h) hm);have Ot:=B0 (λw' (h:Ext w w')=>Zmh v m w' (hv.ext h) hm);have Nu:=B0 (λw' (h:Ext w w')=>Zmj v m w' (hv.ext h) hm);have HD:=B0 (Ln.decode.eq_1 m);generalize Ln.decode m=res at*;obtain⟨-,a,c,rfl,-⟩:=hv;rw[M0]at Ec Uy p6 Aj Ot Nu⊢;generalize m.length=ml at*;by_cases h4:65536<ml
 .have h4I:65536<(ml:Int):=C0;rw[G0 h4]at HD;clear h4 Uy p6 Aj Ot Nu Ec;go_enter func13,ntmps13;exact nX
 have h4I:¬65536<(ml:Int):=by omega
 rw[D0 h4]at HD;have p6:=B0 (p6.out C0);cases Si:Ln.Ro m with
 |false=>rw[Si]at Ec HD;rw[G0 rfl]at HD;clear h4 Uy p6 Aj Ot Nu Si;go_enter func13,ntmps13;go_wp2_with fail;refine(Ec.out _ Xf).mono ?_;rintro e w1 ⟨rfl,rfl⟩;exact nX
 |true=>
 rw[Si]at Ec HD;rw[D0 I0]at HD;clear h4 Si;go_enter func13,ntmps13;go_wp2_with fail;refine(Ec.out _ Xf).mono ?_;rintro e w1 ⟨rfl,rfl⟩;go_wp2_with fail;go_loopw [6,22] (λtn ti wr=>DecL w m tn ti wr) (λ_ t _=>5-(intOf t).toNat)
 case atStart=>have h1:(((w.alloc (.cells #[.int .i64 0,.string ⟨#[]⟩,.string ⟨#[]⟩] 33)).alloc (.cells rdrs 60)).alloc (.cells #[.int .i64 0,.string ⟨#[]⟩,.string ⟨#[]⟩] 33)).heap[w.heap.size+1]? =some (.cells rdrs 60 (0,0)):=Zf (ZO (w:=w.alloc _) L0 (Ext.refl _)) ((Ext.refl _).alloc _);have h2:(((w.alloc (.cells #[.int .i64 0,.string ⟨#[]⟩,.string ⟨#[]⟩] 33)).alloc (.cells rdrs 60)).alloc (.cells #[.int .i64 0,.string ⟨#[]⟩,.string ⟨#[]⟩] 33)).heap[w.heap.size+2]? =some (.cells #[.int .i64 0,.string ⟨#[]⟩,.string ⟨#[]⟩] 33 (0,0)):=ZO (w:=(w.alloc _).alloc _) L0 (Ext.refl _);exact⟨0,0,Ln.zero,60,33,R0 _,rfl,rfl,R0 _,B0 rfl,B0 (Zf (X2 w _) (((Ext.refl _).alloc _).alloc _)),B0 h1,B0 h2,B0 ((((Ext.refl _).alloc _).alloc _).alloc _)⟩
 case round=>
 obtain⟨i,n,x,t1,t2,hi,rfl,rfl,hni,HF,Ka,Ay,Ch,HX⟩:=hrel;obtain⟨k0,s0,a0⟩:=x;dsimp only at Ch;by_cases hlt:i<5
 .have Wf:(n:Int)<=5:=C0;obtain⟨r0,r1,r2,r3,r4⟩:=Zou Ay.out;have hfs:w.heap.size+1<wr.heap.size:=(V3.1 Ay.out).1;rcases(by omega:i=0\/i=1\/i=2\/i=3\/i=4)with rfl|rfl|rfl|rfl|rfl
  .obtain⟨o,ho⟩:∃o,o=Ln.reader 0 m:=⟨_,rfl⟩
   have HO:=B0 ho
   have Va:Hid (Calls prog 34 #[.agg #[.slice a ml c]] wr (RdR o wr)):=B0 (by rw[ho];exact Uy.out wr HX.out)
   clear ho
   go_wp2_with fail
   refine Va.out.mono ?_
   rintro e w2 ⟨⟨k,s,ad⟩,rfl,Nk,j0⟩
   have HOX:=B0 Nk
   have IA:=B0 (HX.out.trans j0)
   have Mw:=B0 (Zf Ka.out j0)
   have Mx:=B0 (Zf Ay.out j0)
   obtain⟨f0,f1,f2,f3,f4,f5,f6,f7⟩:=Zk (Zf Ch.out j0)
   unfold linV
   dsimp only
   clear Nk j0 r0 r1 r2 r3 r4
   obtain⟨bo,Ig⟩:∃bo,bo=o.isSome:=⟨_,rfl⟩
   have Tn:=B0 Ig
   rw[<-Ig]
   clear Ig
   cases bo with
   |true=>have Al:Hid (Ln.found m (0+1)=(n+1,(k,s,ad))):=B0 OJ;go_wp2_with fail;go_roundw;(case rel=>exact⟨0+1,n+1,(k,s,ad),t1,t2,by omega,by go_num,by go_num,by omega,Al,B0 (Zf (Z6 C0 (Z6 C0 (Z6 C0 Mw.out))) ((Ext.refl _).alloc _)),B0 (Zf (Z6 C0 (Z6 C0 (Z6 C0 Mx.out))) ((Ext.refl _).alloc _)),B0 (Zf (Zm f7) ((Ext.refl _).alloc _)),B0 ((Z9 IA.out C0 _ _ _).alloc _)⟩);case measure=>exact Qr
   |false=>
    have Al:Hid (Ln.found m (0+1)=(n,(k0,s0,a0))):=B0 (by
     rw[SL,<-HO.out]
     cases o with
     |some y=>have:=Tn.out;cases this
     |none=>exact HF.out)
    go_wp2_with fail;go_roundw;(case rel=>exact⟨0+1,n,(k0,s0,a0),t1,t2,by omega,by go_num,rfl,by omega,Al,B0 (Zf Mw.out ((Ext.refl _).alloc _)),B0 (Zf Mx.out ((Ext.refl _).alloc _)),B0 (Zf f7.out ((Ext.refl _).alloc _)),B0 (IA.out.alloc _)⟩);case measure=>exact Qr
  .obtain⟨o,ho⟩:∃o,o=Ln.reader 1 m:=⟨_,rfl⟩
   have HO:=B0 ho
   have Va:Hid (Calls prog 35 #[.agg #[.slice a ml c]] wr (RdR o wr)):=B0 (by rw[ho];exact p6.out wr HX.out)
   clear ho
   go_wp2_with fail
   refine Va.out.mono ?_
   rintro e w2 ⟨⟨k,s,ad⟩,rfl,Nk,j0⟩
   have HOX:=B0 Nk
   have IA:=B0 (HX.out.trans j0)
   have Mw:=B0 (Zf Ka.out j0)
   have Mx:=B0 (Zf Ay.out j0)
   obtain⟨f0,f1,f2,f3,f4,f5,f6,f7⟩:=Zk (Zf Ch.out j0)
   unfold linV
   dsimp only
   clear Nk j0 r0 r1 r2 r3 r4
   obtain⟨bo,Ig⟩:∃bo,bo=o.isSome:=⟨_,rfl⟩
   have Tn:=B0 Ig
   rw[<-Ig]
   clear Ig
   cases bo with
   |true=>have Al:Hid (Ln.found m (1+1)=(n+1,(k,s,ad))):=B0 OJ;go_wp2_with fail;go_roundw;(case rel=>exact⟨1+1,n+1,(k,s,ad),t1,t2,by omega,by go_num,by go_num,by omega,Al,B0 (Zf (Z6 C0 (Z6 C0 (Z6 C0 Mw.out))) ((Ext.refl _).alloc _)),B0 (Zf (Z6 C0 (Z6 C0 (Z6 C0 Mx.out))) ((Ext.refl _).alloc _)),B0 (Zf (Zm f7) ((Ext.refl _).alloc _)),B0 ((Z9 IA.out C0 _ _ _).alloc _)⟩);case measure=>exact Qr
   |false=>
    have Al:Hid (Ln.found m (1+1)=(n,(k0,s0,a0))):=B0 (by
     rw[SL,<-HO.out]
     cases o with
     |some y=>have:=Tn.out;cases this
     |none=>exact HF.out)
    go_wp2_with fail;go_roundw;(case rel=>exact⟨1+1,n,(k0,s0,a0),t1,t2,by omega,by go_num,rfl,by omega,Al,B0 (Zf Mw.out ((Ext.refl _).alloc _)),B0 (Zf Mx.out ((Ext.refl _).alloc _)),B0 (Zf f7.out ((Ext.refl _).alloc _)),B0 (IA.out.alloc _)⟩);case measure=>exact Qr
  .obtain⟨o,ho⟩:∃o,o=Ln.reader 2 m:=⟨_,rfl⟩
   have HO:=B0 ho
   have Va:Hid (Calls prog 36 #[.agg #[.slice a ml c]] wr (RdR o wr)):=B0 (by rw[ho];exact Aj.out wr HX.out)
   clear ho
   go_wp2_with fail
   refine Va.out.mono ?_
   rintro e w2 ⟨⟨k,s,ad⟩,rfl,Nk,j0⟩
   have HOX:=B0 Nk
   have IA:=B0 (HX.out.trans j0)
   have Mw:=B0 (Zf Ka.out j0)
   have Mx:=B0 (Zf Ay.out j0)
   obtain⟨f0,f1,f2,f3,f4,f5,f6,f7⟩:=Zk (Zf Ch.out j0)
   unfold linV
   dsimp only
   clear Nk j0 r0 r1 r2 r3 r4
   obtain⟨bo,Ig⟩:∃bo,bo=o.isSome:=⟨_,rfl⟩
   have Tn:=B0 Ig
   rw[<-Ig]
   clear Ig
   cases bo with
   |true=>have Al:Hid (Ln.found m (2+1)=(n+1,(k,s,ad))):=B0 OJ;go_wp2_with fail;go_roundw;(case rel=>exact⟨2+1,n+1,(k,s,ad),t1,t2,by omega,by go_num,by go_num,by omega,Al,B0 (Zf (Z6 C0 (Z6 C0 (Z6 C0 Mw.out))) ((Ext.refl _).alloc _)),B0 (Zf (Z6 C0 (Z6 C0 (Z6 C0 Mx.out))) ((Ext.refl _).alloc _)),B0 (Zf (Zm f7) ((Ext.refl _).alloc _)),B0 ((Z9 IA.out C0 _ _ _).alloc _)⟩);case measure=>exact Qr
   |false=>
    have Al:Hid (Ln.found m (2+1)=(n,(k0,s0,a0))):=B0 (by
     rw[SL,<-HO.out]
     cases o with
     |some y=>have:=Tn.out;cases this
     |none=>exact HF.out)
    go_wp2_with fail;go_roundw;(case rel=>exact⟨2+1,n,(k0,s0,a0),t1,t2,by omega,by go_num,rfl,by omega,Al,B0 (Zf Mw.out ((Ext.refl _).alloc _)),B0 (Zf Mx.out ((Ext.refl _).alloc _)),B0 (Zf f7.out ((Ext.refl _).alloc _)),B0 (IA.out.alloc _)⟩);case measure=>exact Qr
  .obtain⟨o,ho⟩:∃o,o=Ln.reader 3 m:=⟨_,rfl⟩
   have HO:=B0 ho
   have Va:Hid (Calls prog 37 #[.agg #[.slice a ml c]] wr (RdR o wr)):=B0 (by rw[ho];exact Ot.out wr HX.out)
   clear ho
   go_wp2_with fail
   refine Va.out.mono ?_
   rintro e w2 ⟨⟨k,s,ad⟩,rfl,Nk,j0⟩
   have HOX:=B0 Nk
   have IA:=B0 (HX.out.trans j0)
   have Mw:=B0 (Zf Ka.out j0)
   have Mx:=B0 (Zf Ay.out j0)
   obtain⟨f0,f1,f2,f3,f4,f5,f6,f7⟩:=Zk (Zf Ch.out j0)
   unfold linV
   dsimp only
   clear Nk j0 r0 r1 r2 r3 r4
   obtain⟨bo,Ig⟩:∃bo,bo=o.isSome:=⟨_,rfl⟩
   have Tn:=B0 Ig
   rw[<-Ig]
   clear Ig
   cases bo with
   |true=>have Al:Hid (Ln.found m (3+1)=(n+1,(k,s,ad))):=B0 OJ;go_wp2_with fail;go_roundw;(case rel=>exact⟨3+1,n+1,(k,s,ad),t1,t2,by omega,by go_num,by go_num,by omega,Al,B0 (Zf (Z6 C0 (Z6 C0 (Z6 C0 Mw.out))) ((Ext.refl _).alloc _)),B0 (Zf (Z6 C0 (Z6 C0 (Z6 C0 Mx.out))) ((Ext.refl _).alloc _)),B0 (Zf (Zm f7) ((Ext.refl _).alloc _)),B0 ((Z9 IA.out C0 _ _ _).alloc _)⟩);case measure=>exact Qr
   |false=>
    have Al:Hid (Ln.found m (3+1)=(n,(k0,s0,a0))):=B0 (by
     rw[SL,<-HO.out]
     cases o with
     |some y=>have:=Tn.out;cases this
     |none=>exact HF.out)
    go_wp2_with fail;go_roundw;(case rel=>exact⟨3+1,n,(k0,s0,a0),t1,t2,by omega,by go_num,rfl,by omega,Al,B0 (Zf Mw.out ((Ext.refl _).alloc _)),B0 (Zf Mx.out ((Ext.refl _).alloc _)),B0 (Zf f7.out ((Ext.refl _).alloc _)),B0 (IA.out.alloc _)⟩);case measure=>exact Qr
  .obtain⟨o,ho⟩:∃o,o=Ln.reader 4 m:=⟨_,rfl⟩
   have HO:=B0 ho
   have Va:Hid (Calls prog 38 #[.agg #[.slice a ml c]] wr (RdR o wr)):=B0 (by rw[ho];exact Nu.out wr HX.out)
   clear ho
   go_wp2_with fail
   refine Va.out.mono ?_
   rintro e w2 ⟨⟨k,s,ad⟩,rfl,Nk,j0⟩
   have HOX:=B0 Nk
   have IA:=B0 (HX.out.trans j0)
   have Mw:=B0 (Zf Ka.out j0)
   have Mx:=B0 (Zf Ay.out j0)
   obtain⟨f0,f1,f2,f3,f4,f5,f6,f7⟩:=Zk (Zf Ch.out j0)
   unfold linV
   dsimp only
   clear Nk j0 r0 r1 r2 r3 r4
   obtain⟨bo,Ig⟩:∃bo,bo=o.isSome:=⟨_,rfl⟩
   have Tn:=B0 Ig
   rw[<-Ig]
   clear Ig
   cases bo with
   |true=>have Al:Hid (Ln.found m (4+1)=(n+1,(k,s,ad))):=B0 OJ;go_wp2_with fail;go_roundw;(case rel=>exact⟨4+1,n+1,(k,s,ad),t1,t2,by omega,by go_num,by go_num,by omega,Al,B0 (Zf (Z6 C0 (Z6 C0 (Z6 C0 Mw.out))) ((Ext.refl _).alloc _)),B0 (Zf (Z6 C0 (Z6 C0 (Z6 C0 Mx.out))) ((Ext.refl _).alloc _)),B0 (Zf (Zm f7) ((Ext.refl _).alloc _)),B0 ((Z9 IA.out C0 _ _ _).alloc _)⟩);case measure=>exact Qr
   |false=>
    have Al:Hid (Ln.found m (4+1)=(n,(k0,s0,a0))):=B0 (by
     rw[SL,<-HO.out]
     cases o with
     |some y=>have:=Tn.out;cases this
     |none=>exact HF.out)
    go_wp2_with fail;go_roundw;(case rel=>exact⟨4+1,n,(k0,s0,a0),t1,t2,by omega,by go_num,rfl,by omega,Al,B0 (Zf Mw.out ((Ext.refl _).alloc _)),B0 (Zf Mx.out ((Ext.refl _).alloc _)),B0 (Zf f7.out ((Ext.refl _).alloc _)),B0 (IA.out.alloc _)⟩);case measure=>exact Qr
 .obtain rfl:i=5:=C0;have Dl:Hid (res=Ln.outcome (n,(k0,s0,a0))):=B0 (by rw[HD.out,HF.out]);obtain⟨f0,f1,f2,f3,f4,f5,f6,f7⟩:=Zk Ka.out;obtain⟨g0,g1,g2,g3,g4,g5,g6,g7⟩:=Zk Ch.out;unfold Ln.outcome at Dl;dsimp only at Dl;by_cases h0:n=0;(·rw[G0 h0]at Dl;subst h0;exact zQ);have z0:((n:Int)==0)=false:=O0.2 C0;rw[D0 h0]at Dl;by_cases h1:1<n;(·have h1I:1<(n:Int):=C0;rw[G0 h1]at Dl;exact zQ);·have h1I:¬1<(n:Int):=C0;rw[D0 h1]at Dl;exact zQ
def modules_ok{l:List Int}(h:(Rn.modules l).2=0):1<=(Rn.modules l).1.length/\(Rn.modules l).1.length<=65536/\0<=Rn.sum l/\Rn.sum l<=65536:=by
 unfold Rn.modules at h⊢;by_cases h0:l.length=0
 .rw[G0 h0]at h;cases h
 rw[D0 h0]at h⊢;by_cases h1:l.length%2=0
 .exact VY
 rw[D0 h1]at h⊢;cases h2:Tw.inRng l with
 |false=>rw[h2,G0 rfl]at h;cases h
 |true=>
 rw[h2,D0 I0]at h;by_cases h3:65536<Rn.sum l
 .exact LC
 rw[D0 I0,D0 h3];have Bd:=λx hx=>RV h2 (x:=x) hx
 have h4:=Rn.mods_len l true (λx hx=>(Bd x hx).1);have h5:=Rn.sum_pos l (λx hx=>(Bd x hx).1);dsimp only;omega
def Zj3(ws:List Int):∀l∈Ln.Vj ws,l.length<=ws.length:=by
 intro l hl;unfold Ln.Vj at hl;rcases E2.1 hl with rfl|hl;·rw[M0];exact TW
 rcases E3.1 hl with hl|hl
 .have:∀ts:List Int,l∈Ln.quants ws ts->l.length<=ws.length:=by
   intro ts
   induction ts with
   |nil=>intro h;cases h
   |cons t ts ih=>intro h;rw[Ln.quants]at h;rcases E3.1 h with h|h;(·split at h;(·rename_i h2;rw[D3]at h;subst h;exact Nat.le_of_eq (Rn.quant_sum h2).2.1);·cases h);·exact ih h
  exact this _ hl
 .unfold Ln.aA3 at hl;split at hl;(·rw[D3]at hl;subst hl;rw[M0];exact lD ws);·cases hl
def Zj2(ws:List Int):(Ln.Vj ws).length<=4:=by
 have h1:∀ts:List Int,(Ln.quants ws ts).length<=ts.length:=by
  intro ts
  induction ts with
  |nil=>exact J0 _
  |cons t ts ih=>rw[Ln.quants,S0,B1];split;(·rw[Y9];omega);·rw[I3];omega
 have h2:(Ln.aBW ws.length).length<=2:=by unfold Ln.aBW;rw[S0];have a1:(if ws.length=59 then [(95:Int)]else if ws.length=43 then [67]else if ws.length=33 then [51]else []).length<=1:=(by split;(·exact TW);·split;(·exact TW);·exact zR);have a2:(if 13<=ws.length/\(ws.length-7)%6=0 then [Ln.total11 ws.length]else []).length<=1:=zR;omega
 have h3:(Ln.aA3 ws).length<=1:=by unfold Ln.aA3;exact zR
 have:=h1 (Ln.aBW ws.length);unfold Ln.Vj;rw[B1,S0];omega
def Zo5{left right s:Int}{ls:List (List Int)}{j:Nat}{l:List Int}(h:ls[j]? =some l):Ln.tryGo left right s (ls.drop j)=if(Rn.modules l).2=0/\(Ln.decode (Ln.rowOf l left right s)).2=0 then some (Ln.decode (Ln.rowOf l left right s)).1 else Ln.tryGo left right s (ls.drop (j+1)):=by obtain⟨h1,h2⟩:=N1.1 h;rw[F5 h1,h2,Ln.tryGo]
def nY(v:Value)(ws:List Int)(left right:Nat)(w:World)(hv:Sl w v (ws.map encI))(k7:ws≠ [])(hl:ws.length<=65536)(hw:∀x∈ws,1<=x/\x<=65536)(hle:left<=65536)(hri:right<=65536)(ht:ZQ w):
 Calls prog 43 #[v,.int .i64 (left:Int),.int .i64 (right:Int)] w (RdR (Ln.aAE ws left right) w):=by
 have HT:=B0 ht;have HCN:=B0 (λw' (h:Ext w w')=>ZfL v ws w' (hv.ext h) k7 hl hw);have Eb:=B0 (Zj3 ws);have Vr:=Zj2 ws;have Ju:1<=ws.length:=D8.2 k7;have Fv:=Rn.sum_in hw;have hsp:=Rn.sum_pos ws (λx hx=>(hw x hx).1);obtain⟨res,j7⟩:∃res,res=Ln.aAE ws left right:=⟨_,rfl⟩;rw[<-j7];unfold Ln.aAE at j7;obtain⟨ls,hls⟩:∃ls,ls=Ln.Vj ws:=⟨_,rfl⟩;rw[<-hls]at HCN Eb j7 Vr;obtain⟨SM,Ub⟩:∃SM,SM=Rn.sum ws:=⟨_,rfl⟩;rw[<-Ub]at j7 Fv hsp;have Uy:Hid (res=Ln.tryGo left right SM (ls.drop 0)):=B0 j7;obtain⟨a,c,rfl⟩:=hv.form;rw[M0]at hv HCN⊢;obtain⟨n,hn⟩:∃n,n=ws.length:=⟨_,rfl⟩;rw[<-hn]at hv hl HCN Eb Ju hsp Fv⊢;have HN:=B0 hn;have HV:=B0 hv;have HS:=B0 Ub;have Ia:=B0 hw;have IC:1<=SM:=by omega
 have s5:SM<=4294967296:=by have:=Fv.2;omega
 clear hv hw k7 hn Ub Fv hsp j7 hls;obtain⟨w0,Gr⟩:∃w0,w0=w.alloc (.cells #[.int .i64 0,.string ⟨#[]⟩,.string ⟨#[]⟩] 33):=⟨_,rfl⟩;have Cj:Hid (Ext w w0):=B0 (by rw[Gr];exact(Ext.refl w).alloc _);have Ka:Hid (w0.heap[w.heap.size]? =some (.cells #[.int .i64 0,.string ⟨#[]⟩,.string ⟨#[]⟩] 33 (0,0))):=B0 (by rw[Gr];exact X2 _ _);have HW0:=B0 Gr;clear Gr;go_enter func43,ntmps43;go_wp2_with fail;rw[<-HW0.out];go_loop [8,20] (λs i=>∃(j:Nat)(t:Int),j<=n/\i=.int .i64 (j:Int)/\s=.int .i64 t/\0<=t/\t<=65536*(j:Int)/\Hid (t=Rn.sum (ws.take j))) (λ_ i=>n-(intOf i).toNat)
 case atStart=>exact PL
 case round=>
 obtain⟨j,t,hj,rfl,rfl,Ko,Je,Rk⟩:=hrel;by_cases hlt:j<n
 .obtain⟨x,l9⟩:∃x,ws[j]? =some x:=⟨_,P0 X3⟩;obtain⟨b,o,ha,hb,hc⟩:=HV.out.Af Cj.out l9;subst ha;have Bx:(j:Int)<(n:Int):=C0;obtain⟨b7,j0⟩:=Ia.out x (L1 l9);have Ad:Hid (t+x=Rn.sum (ws.take (j+1))):=B0 (by rw[Z5 l9,Rn.sum_snoc,<-Rk.out]);exact nZ
 obtain rfl:n=j:=by omega
 obtain rfl:SM=t:=by have h2:=Rk.out;exact lE
 clear hj hlt Rk Ko Je;go_wp2_with fail;refine(HCN.out w0 Cj.out).mono ?_;rintro e w1 ⟨u,rfl,hu,b7⟩;obtain⟨cb,cc,xs,rfl,Ho,hhs,Eg⟩:=hu;have HHS:=B0 hhs;have HCC:=B0 Eg;have Ay:=B0 (Zf Ka.out b7);have IK:=B0 (Cj.out.trans b7);clear hhs Eg b7;obtain⟨k,hk⟩:∃k,k=ls.length:=⟨_,rfl⟩;rw[<-hk];have HK:=B0 hk;have Nh:k<=4:=by omega
 clear hk Vr;go_wp2_with fail;go_loopw [31] (λt wr=>∃j:Nat,j<=k/\t=.int .i64 (j:Int)/\Hid (res=Ln.tryGo left right SM (ls.drop j))/\Hid (wr.heap[w.heap.size]? =some (.cells #[.int .i64 0,.string ⟨#[]⟩,.string ⟨#[]⟩] 33 (0,0)))/\Hid (Ext w1 wr)) (λt _=>k-(intOf t).toNat)
 case atStart=>exact⟨0,R0 _,rfl,by rw[<-HS.out]at*;exact Uy,Ay,B0 (Ext.refl _)⟩
 case round=>
 clear Uy Ay;obtain⟨j,hj,rfl,HR,HB,HX⟩:=hrel;by_cases hlt:j<k
 .have Bx:(j:Int)<(k:Int):=C0;obtain⟨l,hlj⟩:∃l,ls[j]? =some l:=⟨_,P0 (by rw[<-HK.out];exact hlt)⟩;obtain⟨x,l9⟩:∃x,xs[j]? =some x:=⟨_,P0 (by rw[HHS.out.1,<-HK.out];exact hlt)⟩;obtain⟨j0,hxl,b8⟩:=HHS.out.2 j x l l9 hlj;obtain⟨c0,c1⟩:=HCC.out j x l9;obtain⟨⟨xa,xn,xc⟩,xt⟩:=x;dsimp only at j0 hxl;subst j0 hxl;unfold cdV at c0 b8;dsimp only at c0 c1 b8;have aB9:=Ho;have c0:=(HX.out.cell (p:=⟨cb,j*2,none⟩) aB9).trans c0;have c1:=(HX.out.cell (p:=⟨cb,j*2+1,none⟩) aB9).trans c1;have Sr:l.length<=1000000:=(by have:=Eb.out l (L1 hlj);omega);have Mz:=B0 (λw' (h:Ext w1 w')=>BD (.slice xa l.length xc) l w' ((b8.IW.1).ext h) Sr);have Jh:=B0 (Zo5 (left:=left) (right:=right) (s:=SM) hlj);have Ag:=B0 (@modules_ok l);have Ov:=B0 (show Ln.rowOf l left right SM=Ln.quiet (Rn.modules l).1 (min 64 ((left:Int)*Rn.sum l/SM)).toNat (min 64 ((right:Int)*Rn.sum l/SM)).toNat from rfl);obtain⟨⟨ms,me⟩,Jc⟩:∃r,r=Rn.modules l:=⟨_,rfl⟩;rw[<-Jc]at Mz Jh Ag Ov;dsimp only at Jh Ag Ov;clear b8 Jc l9;go_wp2_with fail;refine(Mz.out _ (HX.out.alloc _)).mono ?_;rintro e w2 ⟨u,rfl,hu,j0⟩;dsimp only at hu⊢;have IA:=B0 ((HX.out.alloc _).trans j0);have Ch:=B0 (Zf (Zf HB.out ((Ext.refl _).alloc _)) j0);have IE:=B0 (Zf (X2 wr _) j0);obtain⟨j8,au,cu,rfl,-⟩:=hu;rw[M0]at j8⊢;have HU:=B0 j8;clear j8 j0;by_cases hme:me=0;(·subst hme;obtain⟨Be,Cl,Ko,Je⟩:=Ag.out rfl;obtain⟨-,e0,e1,e2,e3⟩:=SH IE.out;obtain⟨Jz,aCe⟩:∃Jz,Jz=Rn.sum l:=⟨_,rfl⟩;rw[<-aCe]at Ko Je e1 Ov;have Ox:=B0 aCe.symm;clear aCe;obtain⟨A,hA⟩:∃A,A=(min 64 ((left:Int)*Jz/SM)).toNat:=⟨_,rfl⟩;obtain⟨B,hB⟩:∃B,B=(min 64 ((right:Int)*Jz/SM)).toNat:=⟨_,rfl⟩;rw[<-hA,<-hB]at Ov;obtain⟨pl,Lg⟩:∃p,p=(left:Int)*Jz:=⟨_,rfl⟩;have aGX:=Lg.symm;have aC5:0<=pl:=(by rw[Lg];exact S8 C0 Ko);have aGW:pl<=65536*65536:=(by rw[Lg];exact YM C0 Je Ko C0);obtain⟨ql,Sv⟩:∃q,q=pl/SM:=⟨_,rfl⟩;have aIt:0<=ql:=(by rw[Sv];exact KS aC5 C0);have aIu:ql<=65536*65536:=(by rw[Sv];exact KT (KU SM aC5) aGW);have aG2:=Sv.symm;have aGY:IntKind.i64.wrap pl=pl:=X4 _ C0;have aG4:IntKind.i64.wrap ql=ql:=X4 _ C0;have aG3:pl.tdiv SM=ql:=(by rw[Sv,OE aC5]);have Nc:min ql 64=(A:Int):=(by rw[hA,<-Lg,<-Sv];omega);have hAJ:min 64 ql=(A:Int):=(by rw[hA,<-Lg,<-Sv];omega);have aHv:A<=64:=C0;obtain⟨pr,hpr⟩:∃p,p=(right:Int)*Jz:=⟨_,rfl⟩;have aG0:=hpr.symm;have aC6:0<=pr:=(by rw[hpr];exact S8 C0 Ko);have aGZ:pr<=65536*65536:=(by rw[hpr];exact YM C0 Je Ko C0);obtain⟨qr,Wh⟩:∃q,q=pr/SM:=⟨_,rfl⟩;have aIv:0<=qr:=(by rw[Wh];exact KS aC6 C0);have aIw:qr<=65536*65536:=(by rw[Wh];exact KT (KU SM aC6) aGZ);have aG5:=Wh.symm;have aG1:IntKind.i64.wrap pr=pr:=X4 _ C0;have aG7:IntKind.i64.wrap qr=qr:=X4 _ C0;have aG6:pr.tdiv SM=qr:=(by rw[Wh,OE aC6]);have hBI:min qr 64=(B:Int):=(by rw[hB,<-hpr,<-Wh];omega);have hBJ:min 64 qr=(B:Int):=(by rw[hB,<-hpr,<-Wh];omega);have aHx:B<=64:=C0;have HSU:=B0 (λw' (h:Ext w2 w')=>bJ (.slice au ms.length cu) ms A B w' (HU.out.ext h) C0 Be C0 C0);have Ri:=B0 (BL ms A B);obtain⟨row,k9⟩:∃row,row=Ln.quiet ms A B:=⟨_,rfl⟩;rw[<-k9]at Ov HSU Ri;rw[Ov.out]at Jh;have Jv:row.length<=1000000:=(by rw[Ri.out];omega);obtain⟨ml,Gz⟩:∃ml,ml=ms.length:=⟨_,rfl⟩;rw[<-Gz]at HSU Be Cl⊢;have aCI:SM≠0:=C0;have zSM:(SM==0)=false:=O0.2 aCI;clear hA hB k9 Gz;go_wp2_with fail;refine ZG 16 1 rfl [43,44,45,46,47,48,49,50,51,52,53,54,55,56,57,58] [[],[],[],[2],[1,3],[],[4,5],[6],[],[],[9],[8,10],[],[11,12],[13],[0,7,14]] N0 N0 ?_;apply Zb;(·intro V w' hx hf;(with_reducible refine Zc ?_);intro A' ρ hA hρ n6 o5;have Fe:ρ (.tmp 13)=.slice au ml cu:=(Y0 hρ _).trans (ZL hA 13 rfl);exact XP (hk:=by rw[Fe];exact⟨Ext.refl _,rfl⟩));apply Zb;(·intro V w' hx hf;(with_reducible refine Zc ?_);intro A' ρ hA hρ n6 o5;have h1:ρ (.tmp 1)=.int .i64 (left:Int):=(Y0 hρ _).trans (ZL hA 1 rfl);exact Q6);refine Zg (eqv (.pointer (some ⟨wr.heap.size,1,none⟩))) (Zz _) ?_ ?_;(·exact oA);refine Zg (eqv (.int .i64 Jz)) (Zz _) ?_ ?_;(·intro V w' hx hf;(with_reducible refine Zc ?_);intro A' ρ hA hρ n6 o5;obtain⟨f45,_⟩:=hf;have h45:ρ (.tmp 45)=_:=(Y0 hρ _).trans ((Ze hA 45 rfl).trans f45);obtain⟨-,-,g1,-,-⟩:=SH (Zf IE.out hx);rw[Ox.out]at g1;simp[Zh,go_sem,Ext.refl,h45,g1];try rfl);refine Zg (eqv (.int .i64 pl)) (Zz _) ?_ ?_;(·intro V w' hx hf;(with_reducible refine Zc ?_);intro A' ρ hA hρ n6 o5;obtain⟨f44,f46,_⟩:=hf;have h44:ρ (.tmp 44)=_:=(Y0 hρ _).trans ((Ze hA 44 rfl).trans f44);have h46:ρ (.tmp 46)=_:=(Y0 hρ _).trans ((Ze hA 46 rfl).trans f46);simp[Zh,go_sem,n6,↓IntWalk.iteOmega,Ext.refl,h44,h46,aGX,aGY];try rfl);apply Zb;(·exact oB);refine Zg (eqv (.int .i64 ql)) (Zz _) ?_ ?_;(·intro V w' hx hf;(with_reducible refine Zc ?_);intro A' ρ hA hρ n6 o5;obtain⟨f47,f48,_⟩:=hf;have h47:ρ (.tmp 47)=_:=(Y0 hρ _).trans ((Ze hA 47 rfl).trans f47);have Tz:ρ (.tmp 48)=_:=(Y0 hρ _).trans ((Ze hA 48 rfl).trans f48);simp[Zh,go_sem,n6,↓IntWalk.iteOmega,Ext.refl,h47,Tz,aG2,aG3,aG4,zSM,aCI];try rfl);refine Zg (eqv (.int .i64 (A:Int))) (Zz _) ?_ ?_;(·intro V w' hx hf;(with_reducible refine Zc ?_);intro A' ρ hA hρ n6 o5;obtain⟨f49,_⟩:=hf;have Kg:ρ (.tmp 49)=_:=(Y0 hρ _).trans ((Ze hA 49 rfl).trans f49);simp[Zh,go_sem,n6,↓IntWalk.iteOmega,Ext.refl,Kg,Nc,hAJ];try rfl);apply Zb;(·intro V w' hx hf;(with_reducible refine Zc ?_);intro A' ρ hA hρ n6 o5;have h2:ρ (.tmp 2)=.int .i64 (right:Int):=(Y0 hρ _).trans (ZL hA 2 rfl);exact XP (hk:=by rw[h2];exact⟨Ext.refl _,rfl⟩));refine Zg (eqv (.pointer (some ⟨wr.heap.size,1,none⟩))) (Zz _) ?_ ?_;(·exact oA);refine Zg (eqv (.int .i64 Jz)) (Zz _) ?_ ?_;(·intro V w' hx hf;(with_reducible refine Zc ?_);intro A' ρ hA hρ n6 o5;obtain⟨f52,_⟩:=hf;have h52:ρ (.tmp 52)=_:=(Y0 hρ _).trans ((Ze hA 52 rfl).trans f52);obtain⟨-,-,g1,-,-⟩:=SH (Zf IE.out hx);rw[Ox.out]at g1;simp[Zh,go_sem,Ext.refl,h52,g1];try rfl);refine Zg (eqv (.int .i64 pr)) (Zz _) ?_ ?_;(·intro V w' hx hf;(with_reducible refine Zc ?_);intro A' ρ hA hρ n6 o5;obtain⟨f51,f53,_⟩:=hf;have h51:ρ (.tmp 51)=_:=(Y0 hρ _).trans ((Ze hA 51 rfl).trans f51);have Xw:ρ (.tmp 53)=_:=(Y0 hρ _).trans ((Ze hA 53 rfl).trans f53);simp[Zh,go_sem,n6,↓IntWalk.iteOmega,Ext.refl,h51,Xw,aG0,aG1];try rfl);apply Zb;(·exact oB);refine Zg (eqv (.int .i64 qr)) (Zz _) ?_ ?_;(·intro V w' hx hf;(with_reducible refine Zc ?_);intro A' ρ hA hρ n6 o5;obtain⟨f54,f55,_⟩:=hf;have h54:ρ (.tmp 54)=_:=(Y0 hρ _).trans ((Ze hA 54 rfl).trans f54);have h55:ρ (.tmp 55)=_:=(Y0 hρ _).trans ((Ze hA 55 rfl).trans f55);simp[Zh,go_sem,n6,↓IntWalk.iteOmega,Ext.refl,h54,h55,aG5,aG6,aG7,zSM,aCI];try rfl);refine Zg (eqv (.int .i64 (B:Int))) (Zz _) ?_ ?_;(·intro V w' hx hf;(with_reducible refine Zc ?_);intro A' ρ hA hρ n6 o5;obtain⟨f56,_⟩:=hf;have h56:ρ (.tmp 56)=_:=(Y0 hρ _).trans ((Ze hA 56 rfl).trans f56);simp[Zh,go_sem,n6,↓IntWalk.iteOmega,Ext.refl,h56,hBI,hBJ];try rfl);refine Zg (λv w=>SlK w v (row.map encT)) (λ_ _ _ h hx=>h.ext hx) ?_ ?_;(·intro V w' hx hf;(with_reducible refine Zc ?_);intro A' ρ hA hρ n6 o5;obtain⟨f43,f50,f57,_⟩:=hf;have Rt:ρ (.tmp 43)=_:=(Y0 hρ _).trans ((Ze hA 43 rfl).trans f43);have h50:ρ (.tmp 50)=_:=(Y0 hρ _).trans ((Ze hA 50 rfl).trans f50);have h57:ρ (.tmp 57)=_:=(Y0 hρ _).trans ((Ze hA 57 rfl).trans f57);simp[Zh,go_sem,n6,o5,Rt,h50,h57];exact(HSU.out w' hx).mono λe y8 ⟨u,he,hs,hy⟩=>⟨u,he,hy,hs⟩);intro V w3 j4 hf;obtain⟨-,-,-,-,-,-,-,-,-,-,-,-,-,-,-,g58,-⟩:=hf;simp only[Zs,N3,B6,Act.put,H9,O6,E6];refine zH 16 N0 rfl (λK6 hK6=> ?_);go_simp;refine hK6 _ _ ?_;clear hK6 K6;refine⟨rfl,?_⟩;have aDt:SlK w3 (V 58) (row.map encT):=g58;have Hy:=B0 (Zf Ch.out j4);have aDP:=B0 (IA.out.trans j4);have Ct:=B0 (IK.out.trans aDP.out);clear g58 j4;go_wp2_with fail;refine(nW (V 58) row w3 aDt Jv (Z4 HT.out Ct.out)).mono ?_;rintro e w4 ⟨rfl,j9⟩;have HB4:=B0 (Zf Hy.out j9);have Ba:=B0 (Ct.out.trans j9);have aEz:=B0 (aDP.out.trans j9);obtain⟨⟨⟨rk,rt,ra⟩,re⟩,hre⟩:∃r,r=Ln.decode row:=⟨_,rfl⟩;rw[<-hre]at Jh⊢;unfold gotV linV;dsimp only at Jh⊢;obtain⟨f0,f1,f2,f3,f4,f5,f6,f7⟩:=Zk HB4.out;clear hre j9 aDt;by_cases aC7:re=0;(·subst aC7;have HF:Hid (res=some (rk,rt,ra)):=B0 (by rw[HR.out,Jh.out,G0 L0]);go_wp2_with fail;refine J2 (Zj results43 rfl (Zf (Zm f7) ((Ext.refl _).alloc _)) rfl) rfl ?_;rw[HF.out];exact⟨(rk,rt,ra),rfl,(λ_=>rfl),(Z9 Ba.out (J0 _) _ _ _).alloc _⟩);·have zre:(re==0)=false:=O0.2 aC7;have Rj:Hid (res=Ln.tryGo left right SM (ls.drop (j+1))):=B0 (by rw[HR.out,Jh.out,D0 (λh=>aC7 h.2)]);go_wp2_with fail;go_roundw;(case rel=>exact⟨j+1,by omega,by go_num,Rj,B0 (Zf f7.out ((Ext.refl _).alloc _)),B0 (aEz.out.alloc _)⟩);case measure=>exact Qr);·have zme:(me !=0)=true:=(by simp[hme]);have zmd:decide (me=0)=false:=G1 hme;have Rj:Hid (res=Ln.tryGo left right SM (ls.drop (j+1))):=B0 (by rw[HR.out,Jh.out,D0 (λh=>hme h.1)]);go_wp2_with fail;go_roundw;(case rel=>exact⟨j+1,by omega,by go_num,Rj,Ch,IA⟩);case measure=>exact Qr
 .obtain rfl:k=j:=C0;have HF:Hid (res=none):=B0 (by rw[HR.out,List.drop_eq_nil_of_le (by rw[<-HK.out];exact J0 _)];rfl);obtain⟨f0,f1,f2,f3,f4,f5,f6,f7⟩:=Zk HB.out;go_wp2_with fail;refine J2 (Zj results43 rfl (Zm f7) rfl) rfl ?_;rw[HF.out];exact RdR.none (Z9 (IK.out.trans HX.out) (J0 _) _ _ _)
def Zkr(v:Value)(m:List Bool)(A B:Nat)(w:World)(hv:Sl w v (m.map encT))(Be:1<=m.length)(hm:m.length<=1000000)(hA:A<=1000)(hB:B<=1000):
 Calls prog 73 #[v,.int .i64 (A:Int),.int .i64 (B:Int)] w λe w'=>∃u,e=.returned u/\Own 4 w' w.heap.size u ((Ln.quiet m A B).map encT)/\Ext w w':=by
 have HV:=B0 hv;obtain⟨q,hq⟩:∃q,q=Ln.quiet m A B:=⟨_,rfl⟩;rw[<-hq];have HQ:=B0 hq;clear hv hq;go_enter func73,ntmps73;go_wp2_with fail;go_loopw [7,8] (λu i wr=>∃j:Nat,j<=A/\i=.int .i64 (j:Int)/\Hid (Own 4 wr w.heap.size u ((List.replicate j false).map encT))/\Hid (Ext w wr)) (λ_ i _=>A-(intOf i).toNat)
 case atStart=>exact MB
 case round=>obtain⟨j,hj,rfl,HO,HX⟩:=hrel;by_cases hlt:j<A;(·have Bx:(j:Int)<(A:Int):=C0;have b8:=HO.out;have o4:=HX.out.size;go_wp2_with (at_builtin;refine UK rfl _ _ rfl w.heap.size _ (List.replicate j false) rfl (b8.alloc _) _ false rfl ?c1 ?c2 ?c3 ?_);(case c1=>simp[go_sem,encT]);(case c2=>rw[M2];omega);(case c3=>exact L4);intro v' w5 l6 j6;have p7:=B0 ((HX.out.alloc _).l8 j6 b8.low);have s6:Hid (Own 4 w5 w.heap.size v' ((List.replicate (j+1) false).map encT)):=B0 (by first|(rw[WK];exact l6)|(rw[WK,R2,PN];exact l6));clear b8 l6 j6 o4 HO HX;exact eO);·obtain rfl:j=A:=C0;have Bx:¬(j:Int)<(j:Int):=C0;have b8:=HO.out;have o4:=HX.out.size;obtain⟨ys,hys⟩:∃ys,ys=m.map encT:=⟨_,rfl⟩;have j8:=HV.out.ext HX.out;rw[<-hys]at j8;have hyl:ys.length=m.length:=(by rw[hys,M0]);rcases j8 with⟨h0,_⟩|⟨b,off,cap,hvf,hb,hc⟩;(·rw[h0]at hyl;simp at hyl;omega);have Ny:Hid (∀u∈ys,u.oneCell'=true):=B0 (λu hu=>by rw[hys]at hu;obtain⟨x,_,rfl⟩:=I5.1 hu;rfl);subst hvf;have HYS:=B0 hys;have HC:Hid (∀(i:Nat)(u:Value),ys[i]? =some u->wr.cell? ⟨b,off+i,none⟩=some u):=B0 (λi u hi=>by rw[hc i (N1.1 hi).1];exact hi);clear hc hys;go_wp2_with (at_builtin;refine ZS rfl _ _ 26 4 (.bool false) 1 rfl underlying26 UJ rfl I0 w.heap.size _ ((List.replicate j false).map encT) rfl b8 b off _ cap ys rfl rfl HC.out Ny.out ?c3 o4 ?_);(case c3=>first|omega|(rw[M0,M2];omega));intro v' w5 l6 j6;have p7:=B0 (HX.out.l8 j6 b8.low);have s6:Hid (Own 4 w5 w.heap.size v' ((List.replicate j false++m++List.replicate 0 false).map encT)):=B0 (by rw[XH,A3,R2,<-HYS.out];first|exact l6|(rw[PN];exact l6));clear b8 l6 j6 o4 HO HX HC Ny HYS;go_wp2_with fail;go_loopw [7,9] (λu i wr=>∃p:Nat,p<=B/\i=.int .i64 (p:Int)/\Hid (Own 4 wr w.heap.size u ((List.replicate j false++m++List.replicate p false).map encT))/\Hid (Ext w wr)) (λ_ i _=>B-(intOf i).toNat);(case atStart=>exact⟨0,R0 _,rfl,s6,p7⟩);case round=>clear s6 p7;obtain⟨p,hp,rfl,HO,HX⟩:=hrel;by_cases aAc:p<B;(·have hpI:(p:Int)<(B:Int):=C0;have b8:=HO.out;have o4:=HX.out.size;go_wp2_with (at_builtin;refine UK rfl _ _ rfl w.heap.size _ (List.replicate j false++m++List.replicate p false) rfl (b8.alloc _) _ false rfl ?c1 ?c2 ?c3 ?_);(case c1=>simp[go_sem,encT]);(case c2=>simp only[S0,M2];omega);(case c3=>exact L4);intro v' w5 l6 j6;have p7:=B0 ((HX.out.alloc _).l8 j6 b8.low);have s6:Hid (Own 4 w5 w.heap.size v' ((List.replicate j false++m++List.replicate (p+1) false).map encT)):=B0 (by have e:(List.replicate j false++m++List.replicate (p+1) false).map encT=List.replicate j (encT false)++(m.map encT++(List.replicate p (encT false)++[encT false])):=(by rw[WK];simp);rw[e];exact l6);clear b8 l6 j6 o4 HO HX;go_wp2_with fail;go_roundw;(case rel=>exact⟨p+1,by omega,by go_num,s6,p7⟩);case measure=>exact Qr);·obtain rfl:p=B:=C0;have Ed:Hid (Own 4 wr w.heap.size _ (q.map encT)):=B0 (by rw[HQ.out];exact HO.out);have Bj:=HX.out;clear HO HX aAc hp;go_wp2_with fail;go_ret;exact⟨_,rfl,Ed.out,Bj⟩
def Zo1(k:Int)(hk:k=1\/k=2\/k=3\/k=4)(s:ByteArray)(r:Int)(ck:Bool)(a:ByteArray)(hs:s.size<=60)(ha:a.size<=60)(w:World):
 Calls prog 32 #[.int .i64 k,.string s,.agg #[.int .i64 r,.bool ck,.string a]] w (ZD (Ln.encEan k s.data.toList a.data.toList) w):=by
 have HC:=B0 (λw=>mY k s C0 w);have HX:=B0 (Ln.encEan.eq_1 k s.data.toList a.data.toList);have x8:=Ln.comp_len k s.data.toList;obtain⟨⟨l,er⟩,hc⟩:∃x,Ea.comp k s.data.toList=x:=⟨_,rfl⟩;rw[hc]at HC HX x8;dsimp only at HX x8;have HE:=B0 (λw=>ZhH k (Ea.bS l) a AD C0 w);rw[Ea.Bw]at HE;generalize Ln.encEan k s.data.toList a.data.toList=res at*;unfold strE at HC;dsimp only at HC;clear hc x8 hs ha;by_cases h0:er=0
 .subst h0;rw[D0 I0]at HX;generalize Ea.enc k l a.data.toList=r2 at*;obtain⟨m,e2⟩:=r2;rcases hk with rfl|rfl|rfl|rfl;all_goals go_enter func32,ntmps32;go_wp2_with fail;refine(HC.out _).mono ?_;rintro e w1 ⟨rfl,b7⟩;obtain⟨d0,d1,d2,d3,d4,d5,d6,d7⟩:=Zk (Zf (X2 w (.cells #[.int .i64 r,.bool ck,.string a] 24)) b7);go_wp2_with fail;refine(HE.out w1).mono ?_;rintro e w2 ⟨v2,rfl,Ez,j0⟩;go_wp2;go_ret2;exact⟨_,by rw[HX.out];rfl,by rw[HX.out];exact Ez,(((Ext.refl w).alloc _).trans b7).trans j0⟩
 .have hb:(er !=0)=true:=R1.2 h0;rw[G0 h0]at HX;clear h0 HE;rcases hk with rfl|rfl|rfl|rfl;all_goals go_enter func32,ntmps32;go_wp2_with fail;refine(HC.out _).mono ?_;rintro e w1 ⟨rfl,b7⟩;go_wp2;go_ret2;exact⟨_,by rw[HX.out];rfl,by rw[HX.out];exact SlK.nil _,((Ext.refl w).alloc _).trans b7⟩
def Zo2(k:Int)(hk:k=5\/k=6\/k=7)(s:ByteArray)(r:Int)(ck:Bool)(a:ByteArray)(hs:s.size<=60)(w:World):
 Calls prog 32 #[.int .i64 k,.string s,.agg #[.int .i64 r,.bool ck,.string a]] w (ZD (Ln.encTwo k s.data.toList r ck) w):=by
 have HE:=B0 (λw=>Zh5 k s r ck a w C0);have HX:=B0 (Ln.encTwo.eq_1 k s.data.toList r ck);have hb:=fL k s.data.toList r ck;generalize Ln.encTwo k s.data.toList r ck=res at*;generalize Tw.enc k s.data.toList r ck=en at*;obtain⟨ws,er⟩:=en;dsimp only at HX hb;clear hs;by_cases h0:er=0
 .subst h0;rw[D0 I0]at HX;have Ls:=B0 (λh=> @fM ws h);have HM:=B0 (λ(v:Value)(w:World) hv=>Zh0 v ws w hv C0);generalize Rn.modules ws=mo at*;obtain⟨m,e2⟩:=mo;dsimp only at HX Ls;by_cases h2:e2=0;(·subst h2;rw[D0 I0]at HX;obtain⟨Be,Cl⟩:=Ls.out rfl;have HSU:=B0 (λ(v:Value)(w:World) hv=>Zkr v m 10 10 w hv Be C0 C0 C0);generalize Ln.quiet m 10 10=qs at*;clear hb Be Cl Ls;rcases hk with rfl|rfl|rfl;all_goals go_enter func32,ntmps32;go_wp2_with fail;refine(HE.out _).mono ?_;rintro e w1 ⟨u,rfl,hu,b7⟩;go_wp2_with fail;refine(HM.out _ _ hu).mono ?_;rintro e w2 ⟨u2,rfl,ID,j0⟩;go_wp2_with fail;refine(HSU.out _ _ ID.1).mono ?_;rintro e w3 ⟨u3,rfl,Fw,j4⟩;go_wp2;go_ret2;rw[HX.out];exact⟨_,rfl,Fw.IW,((((Ext.refl w).alloc _).trans b7).trans j0).trans j4⟩);·have hz:(e2 !=0)=true:=R1.2 h2;rw[G0 h2]at HX;clear h2 hb Ls;rcases hk with rfl|rfl|rfl;all_goals go_enter func32,ntmps32;go_wp2_with fail;refine(HE.out _).mono ?_;rintro e w1 ⟨u,rfl,hu,b7⟩;go_wp2_with fail;refine(HM.out _ _ hu).mono ?_;rintro e w2 ⟨u2,rfl,ID,j0⟩;go_wp2;go_ret2;rw[HX.out];exact⟨_,rfl,SlK.nil _,(((Ext.refl w).alloc _).trans b7).trans j0⟩
 .have hz:(er !=0)=true:=R1.2 h0;rw[G0 h0]at HX;clear h0 hb;rcases hk with rfl|rfl|rfl;all_goals go_enter func32,ntmps32;go_wp2_with fail;refine(HE.out _).mono ?_;rintro e w1 ⟨u,rfl,hu,b7⟩;go_wp2;go_ret2;rw[HX.out];exact⟨_,rfl,SlK.nil _,((Ext.refl w).alloc _).trans b7⟩
def Zn1(s:ByteArray)(r:Int)(ck:Bool)(a:ByteArray)(hs:s.size<=60)(w:World):
 Calls prog 32 #[.int .i64 8,.string s,.agg #[.int .i64 r,.bool ck,.string a]] w (ZD (Ln.encCode s.data.toList) w):=by
 have j8:s.data.toList.length=s.size:=Za s;have HNL:=B0 j8;have HX:=B0 (Ln.encCode.eq_1 s.data.toList);have HCE:=B0 (λ(v:Value)(w:World) hv x7=>lB v (Gs.ints s.data.toList) w hv (by rw[F9,j8];omega) x7);generalize Ln.encCode s.data.toList=res at*;have Hz:Hid ((Gs.ints s.data.toList).length=s.size):=B0 (by rw[F9,j8]);clear j8;go_enter func32,ntmps32;go_wp2_with fail;go_loopw [13,14] (λu t wr=>∃j:Nat,j<=s.size/\t=.int .i64 (j:Int)/\Hid (∀b∈s.data.toList.take j,b.toNat<=127)/\Hid (Own 3 wr w.heap.size u (((Gs.ints s.data.toList).take j).map encI))/\Hid (Ext w wr)) (λ_ t _=>s.size-(intOf t).toNat)
 case atStart=>exact⟨0,R0 _,rfl,B0 (λb hb=>by cases hb),B0 (Own.nil _ _ _),B0 ((Ext.refl w).alloc _)⟩
 case round=>
 rename World=>wr
 obtain⟨j,hj,rfl,HA,HO,Vf⟩:=hrel;by_cases hlt:j<s.size
 .have Bx:(j:Int)<(s.size:Int):=C0;have h1:s.data.toList[j]? =some s[j]:=P0 VE;obtain⟨b,hb⟩:∃b,s[j]=b:=⟨_,rfl⟩;rw[hb]at h1;have HT:=B0 (Z5 (fQ h1));by_cases h7:127<b.toNat;(·exact fR);·have h7I:¬(127:Int)<(b.toNat:Int):=C0;have Wu:Hid (∀b∈s.data.toList.take (j+1),b.toNat<=127):=B0 (λc hc=>by rw[M5,h1]at hc;rcases E3.1 hc with hc|hc;(·exact HA.out c hc);·simp at hc;subst hc;omega);have b8:=HO.out;have o4:=Vf.out.size;have Nj:((Gs.ints s.data.toList).take j).length<=60:=(by rw[J1,Hz.out];omega);clear h1 h7 HO;go_wp2_with (at_builtin;refine Zy rfl _ _ rfl w.heap.size _ ((Gs.ints s.data.toList).take j) rfl (b8.alloc _) _ (b.toNat:Int) rfl ?c1 ?c2 ?c3 ?_);(case c1=>first|(simp[go_sem,encI];done)|(simp[go_sem,encI];try omega));(case c2=>omega);(case c3=>exact L4);intro v' w5 l6 j6;have p7:=B0 ((Vf.out.alloc _).l8 j6 b8.low);have s6:Hid (Own 3 w5 w.heap.size v' (((Gs.ints s.data.toList).take (j+1)).map encI)):=B0 (by rw[HT.out,R2];first|exact l6|(rw[J8];exact l6)|(rw[R2]at l6;exact l6));clear b8 l6 j6 o4 Nj;go_wp2_with fail;go_roundw;(case rel=>exact⟨j+1,by omega,by go_num,Wu,s6,p7⟩);case measure=>exact Qr
 obtain rfl:j=s.size:=by omega
 have Ff:s.data.toList.any (λc=>decide (127<c.toNat))=false:=fS;rw[Ff,D0 Bool.noConfusion]at HX;have Ag:=B0 (Ln.okC_ints Ff);have Hf:=B0 (SI HO.out (show((Gs.ints s.data.toList).take s.size).map encI=(Gs.ints s.data.toList).map encI by rw[S1 (by rw[Hz.out];exact J0 _)]));clear Ff HA HO hj hlt;go_wp2_with fail;refine(HCE.out _ _ Hf.out.sl Ag.out).mono ?_;rintro e w5 ⟨u,rfl,hu,j5⟩;go_wp2;go_ret2;rw[HX.out];exact⟨_,rfl,hu,Vf.out.trans j5⟩
def Zpb(s:ByteArray)(r:Int)(ck:Bool)(a:ByteArray)(hs:s.size<=60)(w:World):
 Calls prog 32 #[.int .i64 9,.string s,.agg #[.int .i64 r,.bool ck,.string a]] w (ZD (Ln.encGs s.data.toList) w):=by
 have j8:s.data.toList.length=s.size:=Za s;have HP:=B0 (λ(w':World)=>Zjk s O3 w');have HX:=B0 (Ln.encGs.eq_1 s.data.toList);have HFA:=B0 (λxs h=> @fU s.data.toList xs h);generalize Ln.encGs s.data.toList=res at*;generalize Gs.parse s.data.toList=pr at*;obtain⟨xs,e1⟩:=pr;dsimp only at HX;by_cases h1:e1=0
 .subst h1;rw[D0 I0]at HX;obtain⟨g1,g2,g3⟩:=HFA.out xs rfl;have x8:(256::Gs.chG xs).length<=1000:=fV;have hxl:xs.length<=1000:=C0;(have o4:∀x∈xs,x.1.length<=maxLen/\x.2.length<=maxLen:=λx hx=>by have:=VP (SG g1 x hx);exact B8);have HC:=B0 (λ(v:Value)(w:World) hv=>Zjb v xs w hv C0 o4);have Fz:=B0 (λc h=> @Ln.chars_okC xs c h);have Eb:Hid (∀c,Gs.chars xs=(c,0)->c.length<=1000):=B0 (λc h=>by unfold Gs.chars at h;split at h;(·exact fW);·split at h;(·simp at h);·simp only[Y2,W5]at h;rw[<-h];exact x8);generalize Gs.chars xs=ch at*;obtain⟨cs,e2⟩:=ch;dsimp only at HX;clear g1 g2 g3 x8 o4 HFA j8 hs hxl;by_cases h2:e2=0;(·subst h2;rw[D0 I0]at HX;have x7:=(Fz.out cs rfl).1;have x8:=Eb.out cs rfl;have HEN:=B0 (λ(v:Value)(w:World) hv=>lB v cs w hv x8 x7);clear x7 x8 Fz Eb;go_enter func32,ntmps32;go_wp2_with fail;refine(HP.out _).mono ?_;rintro e w1 ⟨u,rfl,hu,b7⟩;go_wp2_with fail;refine(HC.out _ _ hu).mono ?_;rintro e w2 ⟨u2,rfl,ID,j0⟩;go_wp2_with fail;refine(HEN.out _ _ ID.1).mono ?_;exact fN);·have hz:(e2 !=0)=true:=R1.2 h2;rw[G0 h2]at HX;clear h2 Fz Eb;go_enter func32,ntmps32;go_wp2_with fail;refine(HP.out _).mono ?_;rintro e w1 ⟨u,rfl,hu,b7⟩;go_wp2_with fail;refine(HC.out _ _ hu).mono ?_;exact fO
 .have hz:(e1 !=0)=true:=R1.2 h1;rw[G0 h1]at HX;clear h1 HFA hs j8;go_enter func32,ntmps32;go_wp2_with fail;refine(HP.out _).mono ?_;exact fP
def Zo0(k:Int)(h:k≠1/\k≠2/\k≠3/\k≠4/\k≠5/\k≠6/\k≠7/\k≠8/\k≠9)(s:ByteArray)(r:Int)(ck:Bool)(a:ByteArray)(w:World):
 Calls prog 32 #[.int .i64 k,.string s,.agg #[.int .i64 r,.bool ck,.string a]] w (ZD ([],1) w):=by
 obtain⟨h1,h2,h3,h4,h5,h6,h7,h8,h9⟩:=h;have z1:(k==1)=false:=O0.2 h1;have z2:(k==2)=false:=O0.2 h2;have z3:(k==3)=false:=O0.2 h3;have z4:(k==4)=false:=O0.2 h4;have z5:(k==5)=false:=O0.2 h5;have z6:(k==6)=false:=O0.2 h6;have z7:(k==7)=false:=O0.2 h7;have z8:(k==8)=false:=O0.2 h8;have z9:(k==9)=false:=O0.2 h9;clear h1 h2 h3 h4 h5 h6 h7 h8 h9;go_enter func32,ntmps32;go_wp2;go_ret2;exact⟨_,rfl,SlK.nil _,(Ext.refl w).alloc _⟩
def Zoz(k:Int)(s:ByteArray)(r:Int)(ck:Bool)(a:ByteArray)(hs:s.size<=60)(ha:a.size<=60)(w:World):
 Calls prog 32 #[.int .i64 k,.string s,.agg #[.int .i64 r,.bool ck,.string a]] w (ZD (Ln.aAK k s.data.toList r ck a.data.toList) w):=by
 unfold Ln.aAK;by_cases h1:k=1\/k=2\/k=3\/k=4
 .rw[G0 h1];exact Zo1 k h1 s r ck a hs ha w
 rw[D0 h1];by_cases h5:k=5\/k=6\/k=7
 .rw[G0 h5];exact Zo2 k h5 s r ck a hs w
 rw[D0 h5];by_cases h8:k=8
 .rw[G0 h8,h8];exact Zn1 s r ck a hs w
 rw[D0 h8];by_cases h9:k=9
 .rw[G0 h9,h9];exact Zpb s r ck a hs w
 rw[D0 h9];exact Zo0 k C0 s r ck a w
def ZiY(k:Int)(s:ByteArray)(r:Int)(ck:Bool)(a:ByteArray)(hs:s.size<=60)(ha:a.size<=60)(w:World):
 Calls prog 11 #[.int .i64 k,.string s,.agg #[.int .i64 r,.bool ck,.string a]] w (ZD (Ln.encode k s.data.toList r ck a.data.toList) w):=by
 unfold Ln.encode;have HE:=B0 (λ(w':World)=>Zoz k s r ck a hs ha w');generalize Ln.aAK k s.data.toList r ck a.data.toList=res at*;obtain⟨m,er⟩:=res;have HX:=B0 (Ln.encFin.eq_1 (m,er));dsimp only at HX;generalize Ln.encFin (m,er)=out at*;clear hs ha;by_cases h0:er=0
 .subst h0;rw[D0 I0]at HX;by_cases hl:65536<m.length;(·have hlI:65536<(m.length:Int):=C0;rw[G0 hl]at HX;clear hl;go_enter func11,ntmps11;go_wp2_with fail;refine(HE.out _).mono ?_;rintro e w1 ⟨v1,rfl,Aw,b7⟩;obtain⟨-,a1,c1,rfl,-⟩:=Aw;rw[M0];exact sP);·have hlI:¬65536<(m.length:Int):=C0;rw[D0 hl]at HX;clear hl;go_enter func11,ntmps11;go_wp2_with fail;refine(HE.out _).mono ?_;rintro e w1 ⟨v1,rfl,Aw,b7⟩;have HV:=B0 Aw;obtain⟨-,a1,c1,rfl,-⟩:=Aw;dsimp only at HV;rw[M0]at HV⊢;go_wp2;go_ret2;exact⟨_,by rw[HX.out];rfl,by rw[HX.out];exact HV.out,((Ext.refl w).alloc _).trans b7⟩
 .have hb:(er !=0)=true:=R1.2 h0;rw[G0 h0]at HX;clear h0;go_enter func11,ntmps11;go_wp2_with fail;refine(HE.out _).mono ?_;rintro e w1 ⟨v1,rfl,Aw,b7⟩;exact sP
end
end Go.Proofs.Enc
