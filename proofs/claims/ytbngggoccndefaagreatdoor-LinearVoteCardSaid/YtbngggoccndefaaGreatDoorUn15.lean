/-
  Laid.
-/
import Derived.Test.YtbngggoccndefaaGreatDoorUn14
set_option maxHeartbeats 16000000
set_option maxRecDepth 100000
set_option linter.all false
namespace Go.Proofs.YtbngggoccndefaaGreatDoor
open Go.Proofs.Tryz
section
open Go.RowKit
theorem nD {w:World} {v:Value} {xs:List Value} (hs:SlK w v xs) (l h:Nat) (hl:l<=h) (hh:h<=xs.length):
 ∃v',(∀w',(Instr.slice 43 v (some (.int .i64 (l:Int))) (some (.int .i64 (h:Int))) none).run prog w'=.ok v' w')∧SlK w v' ((xs.drop l).take (h-l)):=by
 obtain⟨hsl,a,c,rfl,hc⟩:=hs
 refine⟨_,fun w'=> ?_,UK hsl hc hl hh⟩
 have e:prog.elem 43=3:=B1
 have ht:prog.underlying 43=some (.slice (prog.elem 43)):=by rw[e];exact underlying43
 rw[run_slice_lh w' 43 a xs.length c ht .i64 .i64 (l:Int) (h:Int) B0 B0 B0,e,fA]
 rfl
theorem ZlD (l:List Int):l.take (Gs.run l).length=Gs.run l:=by
 rcases(PN l).2 with e|⟨r,e⟩;·rw[e,J5]
 ·generalize Gs.run l=u at*;rw[e,List.take_left]
theorem nE {l:List UInt8} {r:Gs.Rule} (h:Gs.find l=some r):Gs.fixF l=(if Gs.isFix r then r.2.2.1 else 0,r.2.2.1,0):=by unfold Gs.fixF;rw[h]
theorem Zkd (v:Value) (cs:List Int) (w:World) (hv:SlK w v (cs.map encI)) (hn:cs.length<=9223372036854775807):
 Calls prog 146 #[v] w (ElsR (Gs.frChars cs) w):=by
 have HV:=A0 hv
 obtain⟨hsl,av,cv,rfl,hcv⟩:=hv
 rw[J0]at hcv hsl HV⊢
 have HR0:=A0 (Gs.frChars.eq_1 cs)
 generalize Gs.frChars cs=res at*
 obtain⟨N,hN⟩:∃N,cs.length=N:=⟨_,rfl⟩
 have HN:=A0 hN
 have HSL:=A0 hsl
 rw[hN]at hn hcv HR0 HV HSL⊢
 clear hsl hN
 by_cases h1:4096<N
 ·rw[D0 h1]at HR0;go_enter func146,ntmps146;go_wp2;go_ret2;rw[HR0.out];exact ElsR.err _ (Ext.refl _)
 rw[C0 h1]at HR0
 have hn1:N<=4096:=by omega
 clear h1 hn
 obtain⟨res1,res2⟩:=res
 go_enter func146,ntmps146
 go_wp2
 go_loop [4] (fun t=>∃k:Nat,k<=N∧t=.int .i64 (k:Int)∧Hid ((cs.take k).all Gs.okCh=true)) (fun t=>N-(intOf t).toNat)
 case atStart=>exact X4
 case round=>
  obtain⟨k,hk,rfl,hall⟩:=hrel;by_cases hlt:k<N;(·obtain⟨c,hck⟩:∃c,cs[k]? =some c:=⟨_,M0 WR⟩;obtain⟨bb,off,ha,hb,hcell⟩:=HSL.out.at_ (k:=k) TK;subst ha;have e1:(cs.map encI)[k]' TK=.int .i64 c:=AM;rw[e1]at hcell;have HTK:Hid (cs.take (k+1)=cs.take k++[c]):=A0 (KJ hck);by_cases hc:Gs.okCh c=true;(·exact fN);·have HF:Hid ((res1,res2)=([],6)):=A0 (by rw[HR0.out,D0];rw[YG];exact⟨c,J1 hck,hc⟩);rw[AK]at hc;have h256:(c !=256)=true:=S0;have hr:=HF.out;simp only[N3]at hr;obtain⟨rfl,rfl⟩:=hr;clear hck e1 hall HTK HF HR0;exact fO)
  ·obtain rfl:k=N:=B0;have HA:Hid (cs.all Gs.okCh=true):=A0 fP;rw[C0 (by rw[HA.out];exact Bool.noConfusion)]at HR0;clear hk hlt hall;by_cases h0:k=0;(·subst h0;have hnil:cs=[]:=L4 HN.out;rw[hnil,D0 L0]at HR0;have hr:=HR0.out;exact fQ)
   ·obtain⟨c,cr,hcs⟩:∃c cr,cs=c::cr:=by
     cases cs with
     |nil=>exact absurd HN.out.symm h0
     |cons c cr=>exact⟨c,cr,rfl⟩
    obtain⟨bb,off,ha,hb,hcell⟩:=HSL.out.at_ (k:=0) WS;subst ha;have e1:(cs.map encI)[0]' WS=.int .i64 c:=(by rw[E5];simp[hcs,encI]);rw[e1,Y4]at hcell;have hk0:((k:Int)==0)=false:=O2;have hk1:0<k:=B0;have e2:cs.headD 0=c:=(by rw[hcs];rfl);rw[e2]at HR0;clear e1 e2 hcs;by_cases h256:c=256
    ·subst h256;rw[C0 L0]at HR0;by_cases hkk:k=1;(·rw[D0 hkk]at HR0;have hr:=HR0.out;simp only[N3]at hr;obtain⟨rfl,rfl⟩:=hr;have hk2:((k:Int)==1)=true:=(by rw[hkk];rfl);clear hkk;exact WT)
     ·rw[C0 hkk]at HR0;have hk2:((k:Int)==1)=false:=O2;have hkN:1<=k:=B0;clear hkk h0;go_wp2;clear hcell;go_loopw [6,5] (fun t v wr=>∃(p:Nat) (acc:List Gs.El) (n:Nat),t=.int .i64 (p:Int)∧p<=k∧acc.length<=p∧EOwn wr w.heap.size v acc∧Hid (k-p<=n∧(res1,res2)=Gs.fromF n (cs.drop p) acc)∧Ext w wr) (fun t _ _=>k-(intOf t).toNat);(case atStart=>exact⟨1,[],k,rfl,hkN,by simp,EOwn.nil _ _,A0 ⟨by omega,HR0.out⟩,Ext.refl w⟩);case round=>
       clear HR0;obtain⟨p,acc,n,rfl,hp,hap,hown,hpf,hx⟩:=hrel;obtain⟨ao,co,rfl⟩:=hown.sl.form;by_cases hlt:p<k
       ·have hrl:(cs.drop p).length=k-p:=(by rw[X2,HN.out]);have hne:cs.drop p≠ []:=(by intro e;have:=R0 List.length e;rw[hrl]at this;exact D7);have hokd:(cs.drop p).all Gs.okCh=true:=U1.2 fun b hb=>U1.1 HA.out b (M6 hb);have HORN:=A0 (BZ hokd);obtain⟨p1,p2⟩:=hpf.out;obtain⟨n',rfl⟩:∃n',n=n'+1:=⟨n-1,by omega⟩;rw[Gs.fromF,C0 hne]at p2;have HP2:=A0 p2;have HP1:=A0 p1;have HN1:=A0 (Gs.next.eq_1 (cs.drop p));have HNS:=A0 (fun(h:(Gs.run (cs.drop p)).length≠0) (ai:List UInt8) (r:Gs.Rule) (hp:Gs.pre (Gs.text (Gs.run (cs.drop p)))=some (ai,r))=>fD h hp);have hrn:=BY (cs.drop p);have HRT:=A0 (ZlD (cs.drop p));rw[hrl]at hrn HNS;obtain⟨m,hm⟩:∃m,(Gs.run (cs.drop p)).length=m:=⟨_,rfl⟩;rw[hm]at hrn HN1 HNS HRT;obtain⟨E,hE⟩:∃E,p+m=E:=⟨_,rfl⟩;have HIN:Hid (p+(Gs.run (cs.drop p)).length=E):=A0 (by rw[hm];exact hE);have HM:=A0 hm;have HE:=A0 hE;have hEk:E<=k:=B0;have hpE:p<=E:=B0;have HCL:Hid (∀j,j<k->∃z,cs[j]? =some z∧wr.cell? ⟨bb,off+j,none⟩=some (.int .i64 z)):=A0 (fun j hj=>by obtain⟨z,hz⟩:∃z,cs[j]? =some z:=⟨_,M0 (by rw[HN.out];exact hj)⟩;obtain⟨b1,o1,e1,hb1,hc1⟩:=HSL.out.at_ (k:=j) (by rw[J0,HN.out];exact hj);injection e1 with e1;injection e1 with e1 e2;subst e1 e2;refine⟨z,hz,?_⟩;rw[hx.cell (p:=⟨bb,off+j,none⟩) hb,hc1,E5];obtain⟨h2,h3⟩:=I1.1 hz;rw[h3];rfl);clear p1 p2 hpf hokd hne hm hE;obtain⟨wo,hwo⟩:∃wo:World,wo=wr:=⟨_,rfl⟩;clear hwo;go_wp2;go_loop [7] (fun t=>∃j:Nat,p<=j∧j<=k∧t=.int .i64 (j:Int)∧Hid (j+(Gs.run (cs.drop j)).length=E)) (fun t=>k-(intOf t).toNat);(case atStart=>exact⟨p,K0 _,hp,rfl,HIN⟩);case round=>
         obtain⟨j,hpj,hjk,rfl,hin⟩:=hrel;have EXIT:(j<k->∃z,cs[j]? =some z∧z=256)->j=E:=(by intro h;rcases P4 j k with hh|hh;(·obtain⟨z,hz,rfl⟩:=h hh;have hd:cs.drop j=256::cs.drop (j+1):=nF;have:=hin.out;rw[hd]at this;simpa[Gs.run]using this);·have:=hin.out;rw[O5 (by rw[HN.out];exact hh)]at this;simpa[Gs.run]using this);have HEXIT:=A0 EXIT;clear EXIT;by_cases hjlt:j<k
         ·obtain⟨z,hz,hzc⟩:=HCL.out j hjlt;by_cases hz256:z=256
          ·subst hz256;have hjE:j=E:=HEXIT.out (fun _=>⟨256,hz,rfl⟩);have hjk2:j<k:=hjlt;subst hjE;clear hz HEXIT hin;by_cases hm0:m=0;(·have HR:Hid ((res1,res2)=([],9)):=A0 (by rw[HP2.out,HN1.out,D0 hm0];rfl);have hb1:((j:Int)==(p:Int))=true:=(by rw[Y0];exact TP);have hb2:(j==p)=true:=(by rw[Y0];exact TP);clear hm0;go_wp2;go_ret2;have hr:=HR.out;simp only[N3]at hr;obtain⟨rfl,rfl⟩:=hr;exact ElsR.err _ hx)
           ·have hb1:((j:Int)==(p:Int))=false:=JJ
            have hb2:(j==p)=false:=JJ
            obtain⟨vs,hslc,hss⟩:=nD AN p j B0 WS
            have hjp:j-p=m:=TP
            rw[hjp,<-R3,<-I3,HRT.out]at hss
            rw[HN.out]at hslc
            have HTX:=A0 (fun w' hx=>nA vs (Gs.run (cs.drop p)) w' (hss.1.ext hx) (by rw[HM.out];omega) HORN.out)
            have HS0:=A0 (HNS.out hm0)
            have HN2:Hid (Gs.pre (Gs.text (Gs.run (cs.drop p)))=none->Gs.next (cs.drop p)=(([],[]),0,29)):=A0 (fun h=>by rw[HN1.out,C0 hm0,h])
            have htl:(Gs.text (Gs.run (cs.drop p))).length=m:=by rw[X9,HM.out]
            generalize Gs.text (Gs.run (cs.drop p))=tx at*
            obtain⟨TX,hTX⟩:∃TX:ByteArray,TX.data.toList=tx:=⟨⟨tx.toArray⟩,rfl⟩
            have HTE:Hid (encS tx=.string TX):=A0 (by rw[<-hTX,ZT])
            have hTs:TX.size=m:=by rw[<-Zd,hTX,htl]
            have HTS:=A0 hTs
            have hm4:m<=4096:=by omega
            have HFS:=A0 (fun w=>nB TX B0 w)
            rw[hTX]at HFS
            have HTL:=A0 hTX
            obtain⟨as1,cc1,rfl⟩:=hss.1.form
            rw[J0,HM.out]at hslc HTX
            clear hss hjp htl hTX hTs HN1 HNS HIN HORN hm0
            cases hpre:Gs.pre tx with
            |none=>exact nG
            |some q=>obtain⟨ai,r⟩:=q;have HS6a:=HS0.out ai r hpre;obtain⟨al,rok,al4⟩:=KK hpre;have hfind:=(KG hpre).1;have hal2:=(V9 hfind).1;rw[hpre]at HFS;obtain⟨ra,rb,rc,rd⟩:=r;obtain⟨k0',k3',l1,lh,h9,_⟩:=rok;dsimp only at l1 lh h9 HS6a;obtain⟨H,rfl⟩:∃H:Nat,rc=(H:Int):=⟨rc.toNat,by omega⟩;rw[Y5]at HS6a;obtain⟨AI,hAI⟩:∃AI:ByteArray,AI.data.toList=ai:=⟨⟨ai.toArray⟩,rfl⟩;have HAI:Hid (encS (preF (some (ai,(ra,rb,(H:Int),rd))))=.string AI):=A0 (by show encS ai=_;rw[<-hAI,ZT]);have hAL:ai.length=AI.size:=KM;have HFX:=A0 (fun w=>mQ AI U4 w);rw[hAI,nE hfind]at HFX;rw[hAL]at al al4 hal2 HS6a;(try rw[HM.out]at HS6a);have hAj:AI.size<=m:=nH;have T1:=AD (show 0<AI.size by omega);have T2:=eY (show 0<AI.size by omega);obtain⟨DB,hDB⟩:∃DB,TX.extract AI.size TX.size=DB:=⟨_,rfl⟩;have hDBs:DB.size=m-AI.size:=nI;have hDBl:DB.data.toList=tx.drop AI.size:=(by rw[<-hDB,ZD,HTL.out]);have hAT:AI.size<=TX.size:=(by have:=HTS.out;omega);have HHE:=A0 hAI;obtain⟨S1,S2,S3,S4,S5,S6⟩:=HS6a;clear hpre HN2 HS0 hfind hAL hAI al k0' k3';cases hf:Gs.isFix (ra,rb,(H:Int),rd);(·rw[hf]at HFX;have HV1:=A0 (fun w=>JI AI DB U4 U4 w);rw[HHE.out,hDBl]at HV1;have HS4:=A0 (S4 hf);have HS5:=A0 (S5 hf);have HS6:=A0 (S6 hf);have HDE:Hid (encS (tx.drop AI.size)=.string DB):=A0 (by rw[<-hDBl,ZT]);generalize tx.drop AI.size=d at*;obtain⟨D,hDD⟩:∃D,DB=D:=⟨_,rfl⟩;subst hDD;obtain⟨K1,hK1⟩:∃K1,p+AI.size=K1:=⟨_,rfl⟩;obtain⟨K2,hK2⟩:∃K2,K1+DB.size=K2:=⟨_,rfl⟩;have i1:(p:Int)+(AI.size:Int)=(K1:Int):=B0;have i2:(K1:Int)+(DB.size:Int)=(K2:Int):=B0;have HK2:Hid (K2=j):=A0 (by have:=HE.out;omega);have HDBS:=A0 hDBs;have hDB4:DB.size<=4096:=B0;simp only[WG,R6]at HFX;clear S1 S2 S3 S4 S5 S6 hf hK1 hK2 hDBl hDBs;by_cases hver:Gs.ver ai d=0;(·rw[hver]at HV1;have HS5:=A0 (HS5.out hver);have HS6:=A0 (HS6.out hver);clear HS4 hver;go_wp2_with fail;refine(HTX.out _ hx).mono ?_;rintro e w2 ⟨rfl,hx2⟩;rw[HTE.out];go_wp2_with fail;refine(HFS.out _).mono ?_;rintro e w3 ⟨rfl,hx3⟩;rw[HAI.out];go_wp2_with fail;refine(HFX.out _).mono ?_;rintro e w4 ⟨rfl,hx4⟩;dsimp only;have hx4w:Ext wr w4:=(hx2.trans hx3).trans hx4;clear hx2 hx3 hx4;go_wp2_with fail;refine(HV1.out _).mono ?_;rintro e w5 ⟨rfl,hx5⟩;have hxa:Ext w w5:=((hx.trans hx4w).alloc _).trans hx5;have cA:w5.cell? ⟨w4.heap.size,0,none⟩=some (.string AI):=qQ;have cD:w5.cell? ⟨w4.heap.size,1,none⟩=some (.string DB):=qR;have hown5:=((hown.ext hx4w).ext ((Ext.refl w4).alloc _)).ext hx5;have hsz5:=hxa.size;clear hx5 hown hx4w;go_wp2_with (at_builtin;go_loud (refine LP rfl _ _ rfl w.heap.size _ _ rfl (hown5.ext ((Ext.refl w5).alloc _)) _ (ai,d) rfl ?_ ?_ B0 ?_ ?_));(·exact HAI.out.symm);(·exact HDE.out.symm);(·exact S0);intro v6 w6 hown6 hg6;have hx6:Ext w w6:=(hxa.alloc _).ofGrown hg6 hown5.low;clear cA cD hg6 hown5;have hkk2:((K2:Int):Int)=(K2:Int):=rfl;clear hkk2;by_cases hlast:K2+1=k;(·have HR:Hid ((res1,res2)=([],9)):=A0 (by rw[HP2.out,HS5.out nJ];rfl);have hji:(K2:Int)+1=(k:Int):=B0;have hK2k:K2<k:=JK;go_wp2;go_ret2;have hr:=HR.out;simp only[N3]at hr;obtain⟨rfl,rfl⟩:=hr;exact ElsR.err _ hx6);·obtain⟨K3,hK3⟩:∃K3,K2+1=K3:=⟨_,rfl⟩;have hK3i:(K2:Int)+1=(K3:Int):=B0;have hK2k:K2<k:=JK;have HP3:Hid ((res1,res2)=Gs.fromF n' (cs.drop K3) (acc++[(ai,d)])):=A0 nK;have hK3k:K3<=k:=B0;have hK3n:((K3:Int)==(k:Int))=false:=O2;have hK3n2:(K3==k)=false:=O2;have HK3:=A0 hK3;clear hK3 hlast;go_wp2;go_roundw;(case rel=>exact⟨K3,acc++[(ai,d)],n',rfl,hK3k,by have:=HK3.out;have:=HK2.out;have:=HE.out;rw[T0];simp;omega,hown6,A0 ⟨by have:=HK3.out;have:=HK2.out;have:=HE.out;have:=HP1.out;omega,HP3.out⟩,hx6⟩);case measure=>have:=HK3.out;have:=HK2.out;have:=HE.out;exact Q8);·exact nL);·exact Qu
          ·have hzb:(z !=256)=true:=(by simpa using hz256);have HNX:Hid (j+1+(Gs.run (cs.drop (j+1))).length=E):=A0 (by have hd:cs.drop j=z::cs.drop (j+1):=nF;have:=hin.out;rw[hd]at this;simp only[Gs.run,C0 hz256,D1]at this;omega);clear hz hin HEXIT hz256;go_wp2;go_round;(case rel=>exact⟨j+1,by omega,by omega,by go_num,HNX⟩);case measure=>exact Q8
         ·have hjE:j=E:=HEXIT.out (fun h=>absurd h hjlt);have hjk2:k<=j:=B0;clear HEXIT hin hjlt;subst hjE;by_cases hm0:m=0;(·exfalso;exact TP)
          ·have hb1:((j:Int)==(p:Int))=false:=JJ
           have hb2:(j==p)=false:=JJ
           obtain⟨vs,hslc,hss⟩:=nD AN p j B0 WS
           have hjp:j-p=m:=TP
           rw[hjp,<-R3,<-I3,HRT.out]at hss
           rw[HN.out]at hslc
           have HTX:=A0 (fun w' hx=>nA vs (Gs.run (cs.drop p)) w' (hss.1.ext hx) (by rw[HM.out];omega) HORN.out)
           have HS0:=A0 (HNS.out hm0)
           have HN2:Hid (Gs.pre (Gs.text (Gs.run (cs.drop p)))=none->Gs.next (cs.drop p)=(([],[]),0,29)):=A0 (fun h=>by rw[HN1.out,C0 hm0,h])
           have htl:(Gs.text (Gs.run (cs.drop p))).length=m:=by rw[X9,HM.out]
           generalize Gs.text (Gs.run (cs.drop p))=tx at*
           obtain⟨TX,hTX⟩:∃TX:ByteArray,TX.data.toList=tx:=⟨⟨tx.toArray⟩,rfl⟩
           have HTE:Hid (encS tx=.string TX):=A0 (by rw[<-hTX,ZT])
           have hTs:TX.size=m:=by rw[<-Zd,hTX,htl]
           have HTS:=A0 hTs
           have hm4:m<=4096:=by omega
           have HFS:=A0 (fun w=>nB TX B0 w)
           rw[hTX]at HFS
           have HTL:=A0 hTX
           obtain⟨as1,cc1,rfl⟩:=hss.1.form
           rw[J0,HM.out]at hslc HTX
           clear hss hjp htl hTX hTs HN1 HNS HIN HORN hm0
           cases hpre:Gs.pre tx with
           |none=>exact nG
           |some q=>obtain⟨ai,r⟩:=q;have HS6a:=HS0.out ai r hpre;obtain⟨al,rok,al4⟩:=KK hpre;have hfind:=(KG hpre).1;have hal2:=(V9 hfind).1;rw[hpre]at HFS;obtain⟨ra,rb,rc,rd⟩:=r;obtain⟨k0',k3',l1,lh,h9,_⟩:=rok;dsimp only at l1 lh h9 HS6a;obtain⟨H,rfl⟩:∃H:Nat,rc=(H:Int):=⟨rc.toNat,by omega⟩;rw[Y5]at HS6a;obtain⟨AI,hAI⟩:∃AI:ByteArray,AI.data.toList=ai:=⟨⟨ai.toArray⟩,rfl⟩;have HAI:Hid (encS (preF (some (ai,(ra,rb,(H:Int),rd))))=.string AI):=A0 (by show encS ai=_;rw[<-hAI,ZT]);have hAL:ai.length=AI.size:=KM;have HFX:=A0 (fun w=>mQ AI U4 w);rw[hAI,nE hfind]at HFX;rw[hAL]at al al4 hal2 HS6a;(try rw[HM.out]at HS6a);have hAj:AI.size<=m:=nH;have T1:=AD (show 0<AI.size by omega);have T2:=eY (show 0<AI.size by omega);obtain⟨DB,hDB⟩:∃DB,TX.extract AI.size TX.size=DB:=⟨_,rfl⟩;have hDBs:DB.size=m-AI.size:=nI;have hDBl:DB.data.toList=tx.drop AI.size:=(by rw[<-hDB,ZD,HTL.out]);have hAT:AI.size<=TX.size:=(by have:=HTS.out;omega);have HHE:=A0 hAI;obtain⟨S1,S2,S3,S4,S5,S6⟩:=HS6a;clear hpre HN2 HS0 hfind hAL hAI al k0' k3';cases hf:Gs.isFix (ra,rb,(H:Int),rd);(·rw[hf]at HFX;have HV1:=A0 (fun w=>JI AI DB U4 U4 w);rw[HHE.out,hDBl]at HV1;have HS4:=A0 (S4 hf);have HS5:=A0 (S5 hf);have HS6:=A0 (S6 hf);have HDE:Hid (encS (tx.drop AI.size)=.string DB):=A0 (by rw[<-hDBl,ZT]);generalize tx.drop AI.size=d at*;obtain⟨D,hDD⟩:∃D,DB=D:=⟨_,rfl⟩;subst hDD;obtain⟨K1,hK1⟩:∃K1,p+AI.size=K1:=⟨_,rfl⟩;obtain⟨K2,hK2⟩:∃K2,K1+DB.size=K2:=⟨_,rfl⟩;have i1:(p:Int)+(AI.size:Int)=(K1:Int):=B0;have i2:(K1:Int)+(DB.size:Int)=(K2:Int):=B0;have HK2:Hid (K2=j):=A0 (by have:=HE.out;omega);have HDBS:=A0 hDBs;have hDB4:DB.size<=4096:=B0;simp only[WG,R6]at HFX;clear S1 S2 S3 S4 S5 S6 hf hK1 hK2 hDBl hDBs;by_cases hver:Gs.ver ai d=0;(·rw[hver]at HV1;have HS5:=A0 (HS5.out hver);have HS6:=A0 (HS6.out hver);clear HS4 hver;go_wp2_with fail;refine(HTX.out _ hx).mono ?_;rintro e w2 ⟨rfl,hx2⟩;rw[HTE.out];go_wp2_with fail;refine(HFS.out _).mono ?_;rintro e w3 ⟨rfl,hx3⟩;rw[HAI.out];go_wp2_with fail;refine(HFX.out _).mono ?_;rintro e w4 ⟨rfl,hx4⟩;dsimp only;have hx4w:Ext wr w4:=(hx2.trans hx3).trans hx4;clear hx2 hx3 hx4;go_wp2_with fail;refine(HV1.out _).mono ?_;rintro e w5 ⟨rfl,hx5⟩;have hxa:Ext w w5:=((hx.trans hx4w).alloc _).trans hx5;have cA:w5.cell? ⟨w4.heap.size,0,none⟩=some (.string AI):=qQ;have cD:w5.cell? ⟨w4.heap.size,1,none⟩=some (.string DB):=qR;have hown5:=((hown.ext hx4w).ext ((Ext.refl w4).alloc _)).ext hx5;have hsz5:=hxa.size;clear hx5 hown hx4w;go_wp2_with (at_builtin;go_loud (refine LP rfl _ _ rfl w.heap.size _ _ rfl (hown5.ext ((Ext.refl w5).alloc _)) _ (ai,d) rfl ?_ ?_ B0 ?_ ?_));(·exact HAI.out.symm);(·exact HDE.out.symm);(·exact S0);intro v6 w6 hown6 hg6;have hx6:Ext w w6:=(hxa.alloc _).ofGrown hg6 hown5.low;clear cA cD hg6 hown5;have HP3:Hid ((res1,res2)=Gs.fromF n' (cs.drop K2) (acc++[(ai,d)])):=A0 nK;have hK2k:¬K2<k:=JK;have hK2k2:k<=K2:=B0;have hK2k3:K2<=k:=JK;go_wp2;go_roundw;(case rel=>exact⟨K2,acc++[(ai,d)],n',rfl,hK2k3,by have:=HK2.out;have:=HE.out;rw[T0];simp;omega,hown6,A0 ⟨by have:=HK2.out;have:=HE.out;have:=HP1.out;omega,HP3.out⟩,hx6⟩);case measure=>have:=HK2.out;have:=HE.out;exact Q8);·exact nL);·exact Qu
       ·obtain rfl:p=k:=B0;have HR:Hid ((res1,res2)=(acc,0)):=A0 (by rw[hpf.out.2,O5 PP,eO]);have hr:=HR.out;simp only[N3]at hr;obtain⟨rfl,rfl⟩:=hr;clear hp hlt hpf HR;go_wp2;go_ret2;exact⟨_,rfl,hown.sl,hx⟩
    ·rw[D0 h256]at HR0;have hr:=HR0.out;simp only[N3]at hr;obtain⟨rfl,rfl⟩:=hr;have h2:(c !=256)=true:=(by simpa using h256);exact WT
end
end Go.Proofs.YtbngggoccndefaaGreatDoor
