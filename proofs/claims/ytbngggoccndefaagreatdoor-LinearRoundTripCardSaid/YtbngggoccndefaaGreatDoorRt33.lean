/-
  Laid.
-/
import Derived.Test.YtbngggoccndefaaGreatDoorRt32
set_option maxHeartbeats 8000000
set_option maxRecDepth 100000
set_option linter.all false
namespace Go.Proofs.YtbngggoccndefaaGreatDoor
open Go.Proofs.Tryz
section
open Go.RowKit
theorem eR (n:Nat):Lib.repeatL [48] n=Ea.mS (Ea.lgt n):=by
 induction n with
 |zero=>rfl
 |succ n ih=>rw[Lib.repeatL,ih];unfold Ea.lgt;rw[D4];rfl
theorem ZO (n:Nat) (hn:n<=1000000) (w:World):Calls prog 109 #[.string ⟨#[48]⟩,.int .i64 (n:Int)] w fun e w'=>e=.returned (.string (Ea.bS (Ea.mS (Ea.lgt n))))∧Ext w w':=by have h:=Tryz.strings_Repeat ⟨#[48]⟩ n w C0 (by rw[show(⟨#[48]⟩:ByteArray).size=1 from rfl];omega);refine h.mono ?_;rintro e w' ⟨rfl,hx⟩;exact⟨by rw[<-eR];rfl,hx⟩
theorem eS:Ea.leftB.length=10:=by decide
theorem eT {d:Nat} (hd:d<10):Ea.leftB[d]? =some (Ea.bS (Ea.sS (Ea.sets13 d))):=by unfold Ea.leftB Ea.sets13;rw[X2,A1,P0 (show d<Ea.setsL.length from hd)];rfl
theorem eU (y:Nat):(Ea.compB y).length=10:=by unfold Ea.compB;split<;>rfl
theorem eV {y d:Nat} (hy:y<2) (hd:d<10):(Ea.compB y)[d]? =some (Ea.bS (Ea.sS (Ea.setsE y d))):=by
 unfold Ea.compB Ea.setsE;rcases(by omega:y=0∨y=1)with rfl|rfl;·rw[G0 rfl,G0 rfl,X2,A1,P0 (show d<Ea.setsE0.length from hd)];rfl
 ·rw[D0 J0,D0 J0];unfold Ea.setsE1;rw[D6,X2,A1,P0 (show d<Ea.setsE0.length from hd)];rfl
theorem named {l:List Bool}:∃S:ByteArray,Ea.bS (Ea.mS l)=S∧S.data.toList=Ea.mS l∧S.size=l.length:=⟨_,rfl,rfl,by rw[Zc (Ea.bS_list _),Ea.mS_len]⟩
theorem zD (s:ByteArray) (hd:Ea.digs s.data.toList=true) (h13:s.size=13) (w:World):
 Calls prog 110 #[.int .i64 1,.string s] w fun e w'=>e=.returned (.string (Ea.bS (Ea.mS (Ea.sym13 s.data.toList))))∧Ext w w':=by
 obtain⟨a,b,hq⟩:=Ea.sets13_ok ⟨Ea.dv s.data.toList 0,Ea.dv_lt hd 0⟩
 clear hq
 dsimp only at a b
 have hd0:=Ea.dv_lt hd 0
 have h48:=Ea.digs_iff.1 hd s[0] (Zq s 0 C0)
 have hdv:=T7 s 0 C0
 have HSY:=B0 (Ea.sym13.eq_1 s.data.toList)
 have c1:(s.extract 1 7).data.toList=(s.data.toList.drop 1).take 6:=Z0 s 1 7
 have c2:(s.extract 7 13).data.toList=s.data.toList.drop 7:=zE
 have d1:=Ea.digs_take (Ea.digs_drop hd 1) 6
 have d2:=Ea.digs_drop hd 7
 have s1:(s.extract 1 7).size=6:=WJ
 have s2:(s.extract 7 13).size=6:=WJ
 obtain⟨d,hdd⟩:∃d,Ea.dv s.data.toList 0=d:=⟨_,rfl⟩
 rw[hdd]at a b hd0 hdv HSY
 have hsub:(s[0].toNat:Int)-48=(d:Int):=by omega
 have l1:=Ea.drw6_len d1 zF a (fun u hu=>by have:=b u hu;omega)
 have l2:=Ea.drw6_len d2 JI (us:=[2,2,2,2,2,2]) rfl L0
 have HD1:=B0 (fun w'=>YQ (s.extract 1 7) (Ea.bS (Ea.sS (Ea.sets13 d))) ⟨#[]⟩ (Ea.sets13 d) [] (by rw[c1];exact d1) rfl (by rw[a,s1]) (fun u hu=>by have:=b u hu;omega) rfl C0 L0 w')
 have HD2:=B0 (fun w'=>YQ (s.extract 7 13) ⟨#[67,67,67,67,67,67]⟩ ⟨#[]⟩ [2,2,2,2,2,2] [] (by rw[c2];exact d2) rfl (by rw[s2];rfl) L0 rfl C0 L0 w')
 rw[c1]at HD1
 rw[c2]at HD2
 generalize Ea.drw [] ((s.data.toList.drop 1).take 6) (Ea.sets13 d)=m1 at*
 generalize Ea.drw [] (s.data.toList.drop 7) [2,2,2,2,2,2]=m2 at*
 obtain⟨A,hA,hAl,hAs⟩:=named (l:=m1)
 obtain⟨B,hB,hBl,hBs⟩:=named (l:=m2)
 rw[hA]at HD1
 rw[hB]at HD2
 have HRES:Hid ((⟨#[49,48,49]⟩++A++⟨#[48,49,48,49,48]⟩++B++⟨#[49,48,49]⟩:ByteArray)=Ea.bS (Ea.mS (Ea.sym13 s.data.toList))):=B0 zG
 have hAs:A.size=42:=by rw[hAs,l1]
 have hBs:B.size=42:=by rw[hBs,l2]
 have HL:=B0 (qW w)
 have hRd:=eT hd0
 unfold arrV at HL
 obtain⟨R,hR⟩:∃R,(Ea.leftB.map Value.string).toArray=R:=⟨_,rfl⟩
 have hRs:R.size=10:=by rw[<-hR];simp[eS]
 have HR1:Hid (R.all (·.oneCell')=true):=B0 JE
 have HRd:Hid (R[d]? =some (.string (Ea.bS (Ea.sS (Ea.sets13 d))))):=B0 JF
 rw[hR]at HL
 have h013:(0:Nat)<s.size:=by omega
 clear hd h48 hdv HSY c1 c2 d1 d2 s1 s2 hdd a b l1 l2 hA hAl hB hBl hRd hR
 go_enter func110,ntmps110
 go_wp2_with fail
 refine HL.out.mono ?_
 rintro e w4 ⟨rfl,hx4⟩
 have hst:=ZS R hRs HR1.out w4
 have hnc:=E9 R 210 w4 HRd.out
 have hx5:Ext w (w4.alloc (.cells R 210)):=hx4.alloc _
 go_wp2_with fail
 obtain⟨w5,hw5⟩:∃w5,w4.alloc (.cells R 210)=w5:=⟨_,rfl⟩
 have hsz:w4.heap.size<w5.heap.size:=by rw[<-hw5];simp
 rw[hw5]at hx5 hnc⊢
 have hz:∀x:Zr w5,x.at'.cell? ⟨w4.heap.size,d,none⟩=some (.string (Ea.bS (Ea.sS (Ea.sets13 d)))):=fun x=>(x.ext.cell (p:=⟨w4.heap.size,d,none⟩) hsz).trans hnc
 clear hst hw5 hsz hnc
 refine T6 (C:=fun w'=>∃x:Zr w5,w'=x.at') M0 M0 (Zr.drawn _) ?_
 try dsimp only
 repeat(first|go_big_quiet_step ((first|(go_at_call 111;with_reducible exact Zp (HD1.out _))|(go_at_call 111;with_reducible exact Zp (HD2.out _))))|quiet_step ((first|(go_at_call 111;with_reducible exact Zp (HD1.out _))|(go_at_call 111;with_reducible exact Zp (HD2.out _)))))
 refine U6 ?_
 intro _ hx0
 obtain⟨x0,hx0⟩:=hx0
 subst hx0
 obtain⟨w8,hx8⟩:=x0
 try dsimp only
 go_wp2
 go_ret
 exact⟨by rw[<-HRES.out];rfl,hx5.trans hx8⟩
theorem eW (s:ByteArray) (hd:Ea.digs s.data.toList=true) (h8:s.size=8) (w:World):
 Calls prog 110 #[.int .i64 2,.string s] w fun e w'=>e=.returned (.string (Ea.bS (Ea.mS (Ea.sym8 s.data.toList))))∧Ext w w':=by
 have HSY:=B0 (Ea.sym8.eq_1 s.data.toList)
 have c1:(s.extract 0 4).data.toList=s.data.toList.take 4:=Zz s 4
 have c2:(s.extract 4 8).data.toList=s.data.toList.drop 4:=zE
 have d1:=Ea.digs_take hd 4
 have d2:=Ea.digs_drop hd 4
 have s1:(s.extract 0 4).size=4:=WJ
 have s2:(s.extract 4 8).size=4:=WJ
 have l1:=Ea.drw4_len d1 (by rw[L1,Za];omega) (us:=[0,0,0,0]) rfl L0
 have l2:=Ea.drw4_len d2 JI (us:=[2,2,2,2]) rfl L0
 have HD1:=B0 (fun w'=>YQ (s.extract 0 4) ⟨#[65,65,65,65]⟩ ⟨#[]⟩ [0,0,0,0] [] (by rw[c1];exact d1) rfl (by rw[s1];rfl) L0 rfl C0 L0 w')
 have HD2:=B0 (fun w'=>YQ (s.extract 4 8) ⟨#[67,67,67,67]⟩ ⟨#[]⟩ [2,2,2,2] [] (by rw[c2];exact d2) rfl (by rw[s2];rfl) L0 rfl C0 L0 w')
 rw[c1]at HD1
 rw[c2]at HD2
 generalize Ea.drw [] (s.data.toList.take 4) [0,0,0,0]=m1 at*
 generalize Ea.drw [] (s.data.toList.drop 4) [2,2,2,2]=m2 at*
 obtain⟨A,hA,hAl,hAs⟩:=named (l:=m1)
 obtain⟨B,hB,hBl,hBs⟩:=named (l:=m2)
 rw[hA]at HD1
 rw[hB]at HD2
 have HRES:Hid ((⟨#[49,48,49]⟩++A++⟨#[48,49,48,49,48]⟩++B++⟨#[49,48,49]⟩:ByteArray)=Ea.bS (Ea.mS (Ea.sym8 s.data.toList))):=B0 zG
 have hAs:A.size=28:=by rw[hAs,l1]
 have hBs:B.size=28:=by rw[hBs,l2]
 clear hd HSY c1 c2 d1 d2 s1 s2 l1 l2 hA hAl hB hBl
 go_enter func110,ntmps110
 go_wp2_with fail
 refine T6 (C:=fun w'=>∃x:Zr w,w'=x.at') M0 M0 (Zr.drawn _) ?_
 try dsimp only
 repeat(first|go_big_quiet_step ((first|(go_at_call 111;with_reducible exact Zp (HD1.out _))|(go_at_call 111;with_reducible exact Zp (HD2.out _))))|quiet_step ((first|(go_at_call 111;with_reducible exact Zp (HD1.out _))|(go_at_call 111;with_reducible exact Zp (HD2.out _)))))
 refine U6 ?_
 intro _ hx0
 obtain⟨x0,hx0⟩:=hx0
 subst hx0
 obtain⟨w8,hx8⟩:=x0
 try dsimp only
 go_wp2
 go_ret
 exact⟨by rw[<-HRES.out];rfl,hx8⟩
theorem eX (s:ByteArray) (hd:Ea.digs s.data.toList=true) (h8:s.size=8) (hy:Ea.dv s.data.toList 0<2) (w:World):
 Calls prog 110 #[.int .i64 4,.string s] w fun e w'=>e=.returned (.string (Ea.bS (Ea.mS (Ea.symE s.data.toList))))∧Ext w w':=by
 obtain⟨a,b,hq⟩:=Ea.setsE_ok ⟨Ea.dv s.data.toList 0,hy⟩ ⟨Ea.dv s.data.toList 7,Ea.dv_lt hd 7⟩
 clear hq
 dsimp only at a b
 have hd7:=Ea.dv_lt hd 7
 have h48:=Ea.digs_iff.1 hd s[0] (Zq s 0 C0)
 have h748:=Ea.digs_iff.1 hd s[7] (Zq s 7 C0)
 have hdv:=T7 s 0 C0
 have hdv7:=T7 s 7 C0
 have HSY:=B0 (Ea.symE.eq_1 s.data.toList)
 have c1:(s.extract 1 7).data.toList=(s.data.toList.drop 1).take 6:=Z0 s 1 7
 have d1:=Ea.digs_take (Ea.digs_drop hd 1) 6
 have s1:(s.extract 1 7).size=6:=WJ
 obtain⟨y,hyy⟩:∃y,Ea.dv s.data.toList 0=y:=⟨_,rfl⟩
 obtain⟨d,hdd⟩:∃d,Ea.dv s.data.toList 7=d:=⟨_,rfl⟩
 rw[hyy]at a b hy hdv HSY
 rw[hdd]at a b hd7 hdv7 HSY
 have hn0:s[0].toNat=48+y:=by omega
 have hsub:(s[7].toNat:Int)-48=(d:Int):=by omega
 have l1:=Ea.drw6_len d1 zF a (fun u hu=>by have:=b u hu;omega)
 have HD1:=B0 (fun w'=>YQ (s.extract 1 7) (Ea.bS (Ea.sS (Ea.setsE y d))) ⟨#[]⟩ (Ea.setsE y d) [] (by rw[c1];exact d1) rfl (by rw[a,s1]) (fun u hu=>by have:=b u hu;omega) rfl C0 L0 w')
 rw[c1]at HD1
 generalize Ea.drw [] ((s.data.toList.drop 1).take 6) (Ea.setsE y d)=m1 at*
 obtain⟨A,hA,hAl,hAs⟩:=named (l:=m1)
 rw[hA]at HD1
 have HRES:Hid ((⟨#[49,48,49]⟩++A++⟨#[48,49,48,49,48,49]⟩:ByteArray)=Ea.bS (Ea.mS (Ea.symE s.data.toList))):=B0 (by apply Z7;simp only[X3,C4,hAl];rw[Ea.bS_list,HSY.out];simp only[Ea.mS_app];rfl)
 have hAs:A.size=42:=by rw[hAs,l1]
 have HL:=B0 (xQ y hy w)
 have hRd:=eV hy hd7
 unfold arrV at HL
 obtain⟨R,hR⟩:∃R,((Ea.compB y).map Value.string).toArray=R:=⟨_,rfl⟩
 have hRs:R.size=10:=by rw[<-hR];simp[eU]
 have HR1:Hid (R.all (·.oneCell')=true):=B0 JE
 have HRd:Hid (R[d]? =some (.string (Ea.bS (Ea.sS (Ea.setsE y d))))):=B0 JF
 rw[hR]at HL
 have h08:(0:Nat)<s.size:=by omega
 have h78:(7:Nat)<s.size:=by omega
 clear hd h48 h748 hdv hdv7 HSY c1 d1 s1 hyy hdd a b l1 hA hAl hRd hR
 go_enter func110,ntmps110
 go_wp2_with fail
 refine HL.out.mono ?_
 rintro e w4 ⟨rfl,hx4⟩
 have hst:=ZS R hRs HR1.out w4
 have hnc:=E9 R 210 w4 HRd.out
 have hx5:Ext w (w4.alloc (.cells R 210)):=hx4.alloc _
 go_wp2_with fail
 obtain⟨w5,hw5⟩:∃w5,w4.alloc (.cells R 210)=w5:=⟨_,rfl⟩
 have hsz:w4.heap.size<w5.heap.size:=by rw[<-hw5];simp
 rw[hw5]at hx5 hnc⊢
 have hz:∀x:Zr w5,x.at'.cell? ⟨w4.heap.size,d,none⟩=some (.string (Ea.bS (Ea.sS (Ea.setsE y d)))):=fun x=>(x.ext.cell (p:=⟨w4.heap.size,d,none⟩) hsz).trans hnc
 clear hst hw5 hsz hnc
 refine T6 (C:=fun w'=>∃x:Zr w5,w'=x.at') M0 M0 (Zr.drawn _) ?_
 try dsimp only
 repeat(first|go_big_quiet_step ((go_at_call 111;with_reducible exact Zp (HD1.out _)))|quiet_step ((go_at_call 111;with_reducible exact Zp (HD1.out _))))
 refine U6 ?_
 intro _ hx0
 obtain⟨x0,hx0⟩:=hx0
 subst hx0
 obtain⟨w8,hx8⟩:=x0
 try dsimp only
 go_wp2
 go_ret
 exact⟨by rw[<-HRES.out];rfl,hx5.trans hx8⟩
theorem zH (k:Int) (s:ByteArray) (hf:Ea.full k s.data.toList=0) (w:World):
 Calls prog 110 #[.int .i64 k,.string s] w fun e w'=>e=.returned (.string (Ea.bS (Ea.mS (Ea.sym k s.data.toList))))∧Ext w w':=by
 obtain⟨h1,h2,h3,h4,_⟩:=Ea.full_ok hf
 rw[Za]at h3
 rcases Ea.kinds h1 with rfl|rfl|rfl|rfl
 ·exact zD s h2 h3 w
 ·exact eW s h2 h3 w
 ·have hz:=Ea.full_13 hf;have h3:s.size=12:=h3;have e:(⟨#[48]⟩++s:ByteArray).data.toList=48::s.data.toList:=JJ;have HS:=B0 (zD (⟨#[48]⟩++s) (by rw[e];exact(Ea.full_ok hz).2.1) (by rw[K9,h3];rfl) w);rw[e]at HS;obtain⟨U,hU⟩:∃U,Ea.bS (Ea.mS (Ea.sym13 (48::s.data.toList)))=U:=⟨_,rfl⟩;rw[hU]at HS;have HR:Hid (U=Ea.bS (Ea.mS (Ea.sym 3 s.data.toList))):=B0 (by rw[<-hU];rfl);clear hf h1 h2 h4 hz e hU;go_enter func110,ntmps110;go_wp2_with fail;refine HS.out.mono ?_;rintro e w4 ⟨rfl,hx4⟩;clear HS;go_wp2;go_ret;exact⟨by rw[<-HR.out];rfl,hx4⟩
 ·exact eX s h2 h3 (Ea.dv2 h2 (by rw[Za,h3];decide) (h4 rfl)) w
theorem eY (k:Int) (s a:ByteArray) (hs:s.size<=9223372036854775807) (ha:a.size<=9223372036854775807) (w:World):
 Calls prog 64 #[.int .i64 k,.string s,.string a] w (ZT (Ea.enc k s.data.toList a.data.toList) w):=by
 have HX:=B0 (Ea.enc.eq_1 k s.data.toList a.data.toList)
 have HF:=B0 (xU k s.data.toList)
 have HD:=B0 (KR s hs)
 have HDA:=B0 (KR a ha)
 have HZ:=B0 (KN k)
 have HQ:=B0 (dT k)
 rw[Za]at HX HF
 by_cases h1:Ea.size k=0
 ·rw[G0 h1]at HF;rw[HF.out,G0 J0]at HX;rw[h1]at HZ;generalize Ea.enc k s.data.toList a.data.toList=res at*;clear h1 HF;go_enter func64,ntmps64;go_wp2_with fail;refine(HZ.out _).mono ?_;exact Q5
 ·rw[D0 h1]at HF;have hkk:=Ea.kinds h1;obtain⟨hn1,hn2⟩:8<=Ea.size k∧Ea.size k<=13:=xX;have b1:((Ea.size k:Int)==0)=false:=V0.2 C0;by_cases h2:Ea.digs s.data.toList=false;(·rw[G0 h2]at HF;rw[HF.out,G0 J0]at HX;rw[h2]at HD;generalize Ea.enc k s.data.toList a.data.toList=res at*;generalize Ea.size k=n at*;clear h1 h2 hkk hn1 hn2 HF;exact zI)
  ·have h2':Ea.digs s.data.toList=true:=F4;rw[D0 h2]at HF;rw[h2']at HD;by_cases h3:s.size≠Ea.size k;(·rw[G0 h3]at HF;rw[HF.out,G0 J0]at HX;generalize Ea.enc k s.data.toList a.data.toList=res at*;generalize Ea.size k=n at*;have b3:((s.size:Int) !=(n:Int))=true:=E1;clear h1 h2 h2' h3 hkk hn1 hn2 HF;exact zI)
   ·rw[D0 h3]at HF;have h3':s.size=Ea.size k:=C0;have b3:((s.size:Int) !=(Ea.size k:Int))=false:=E1;have hn4:k=4->Ea.size k=8:=(by rintro rfl;rfl);have HRI:=B0 (UT k s h2' (by by_cases e:k=4;exact .inl ⟨e,by rw[h3',hn4 e]⟩;exact .inr ⟨e,by omega,by omega⟩));have HN:=B0 (qR s C0);rw[xT s C0 h2']at HN;clear h3' hn4;by_cases h4:k=4
    ·subst h4;by_cases h6:s.data.toList.getD 0 0<=49
     ·rw[D0 (fun h=>h.2 h6)]at HF;rw[F1 h6]at HN;clear h6;by_cases h5:Ea.good (if(4:Int)=4 then Ea.exp8 s.data.toList else s.data.toList)
      ·rw[G0 h5]at HF;rw[F1 h5]at HRI;have hf0:Ea.full 4 s.data.toList=0:=HF.out;rw[HF.out,D0 J0]at HX;by_cases a1:Ea.digs a.data.toList=false;(·rw[G0 a1]at HX;rw[a1]at HDA;generalize Ea.enc 4 s.data.toList a.data.toList=res at*;generalize Ea.size 4=n at*;exact zJ)
       ·have a1':Ea.digs a.data.toList=true:=(by simpa using a1);rw[D0 a1]at HX;rw[a1']at HDA;by_cases a2:a.size≠0∧a.size≠2∧a.size≠5;(·rw[G0 a2]at HX;generalize Ea.enc 4 s.data.toList a.data.toList=res at*;generalize Ea.size 4=n at*;have z0:((a.size:Int) !=0)=true:=N2.2 C0;have z2:((a.size:Int) !=2)=true:=N2.2 C0;have z5:((a.size:Int) !=5)=true:=N2.2 C0;clear a1 a1' a2;exact zJ)
        ·rw[D0 a2]at HX;have HSY:=B0 (zH 4 s hf0);obtain⟨Y,hY,hYl,hYs⟩:=named (l:=Ea.sym 4 s.data.toList);rw[hY]at HSY;rw[Ea.sym_len hf0]at hYs;have hYs:Y.size<=95:=(by rw[hYs];unfold Ea.wOf;exact M5);have hlq:Ea.lq 4<=11:=(by unfold Ea.lq;exact M5);have hrq:Ea.rq 4<=9:=(by unfold Ea.rq;exact L6);have HL:=B0 (ZO (Ea.lq 4) C0);obtain⟨L,hL,hLl,hLs⟩:=named (l:=Ea.lgt (Ea.lq 4));rw[hL]at HL;rw[Ea.lgt_len]at hLs;by_cases a3:a.size=0;(·rw[G0 a3]at HX;have HRQ:=B0 (ZO (Ea.rq 4) C0);obtain⟨Q,hQ,hQl,hQs⟩:=named (l:=Ea.lgt (Ea.rq 4));rw[hQ]at HRQ;rw[Ea.lgt_len]at hQs;have HMO:=B0 (PE (L++Y++Q) (Ea.lgt (Ea.lq 4)++Ea.sym 4 s.data.toList++Ea.lgt (Ea.rq 4)) zK (by rw[O0,O0,Ea.lgt_len,Ea.lgt_len,<-Ea.mS_len (Ea.sym 4 s.data.toList),<-hYl,Za];omega));have hLs:L.size<=11:=C0;have hQs:Q.size<=9:=C0;have zz:a.toList=[]:=(by rw[G2,(XK a).2 a3]);have zy:a.toList.isEmpty=true:=(by rw[zz];rfl);have z0:((a.size:Int) !=0)=false:=(by rw[a3];rfl);generalize Ea.enc 4 s.data.toList a.data.toList=res at*;generalize Ea.size 4=n at*;generalize Ea.lq 4=lq at*;generalize Ea.rq 4=rq at*;clear a1 a1' a2 a3 hf0 hY hYl hL hLl hQ hQl;clear h1 h2 h2' h3 h5 hkk hn1 HF;go_enter func64,ntmps64;go_wp2_with fail;refine(HZ.out _).mono ?_;rintro e w1 ⟨rfl,rfl⟩;go_wp2_with fail;refine(HD.out _).mono ?_;rintro e w1 ⟨rfl,rfl⟩;go_wp2_with fail;refine(HN.out _).mono ?_;exact QC)
         ·rw[D0 a3]at HX;have a25:a.size=2∨a.size=5:=C0;obtain⟨e1,e2⟩:=Ea.setsAdd_ok (a:=a.data.toList) UZ;have HAS:=B0 (JG a a25 a1');have HDR:=B0 (YQ a (Ea.bS (Ea.sS (Ea.setsAdd a.data.toList))) ⟨#[48,49]⟩ (Ea.setsAdd a.data.toList) Ea.gA a1' rfl (by rw[e1,Za]) (fun u hu=>by have:=e2 u hu;omega) rfl C0 J0);have hAL:=Ea.addn_len a1' UZ;unfold Ea.addn at hAL;rw[O0,Za]at hAL;obtain⟨G,hG,hGl,hGs⟩:=named (l:=Ea.drw Ea.gA a.data.toList (Ea.setsAdd a.data.toList));rw[hG]at HDR;have hw47:Ea.wAdd a.size<=47:=(by unfold Ea.wAdd;exact M5);have hGs:G.size<=47:=C0;have HL9:=B0 (ZO 9 C0);obtain⟨N9,h9,h9l,h9s⟩:=named (l:=Ea.lgt 9);rw[h9]at HL9;rw[Ea.lgt_len]at h9s;have HL7:=B0 (ZO 7 C0);obtain⟨N7,h7,h7l,h7s⟩:=named (l:=Ea.lgt 7);rw[h7]at HL7;rw[Ea.lgt_len]at h7s;have HMO:=B0 (PE (L++Y++(N9++⟨#[49,48,49,49]⟩++G)++N7) (Ea.lgt (Ea.lq 4)++Ea.sym 4 s.data.toList++Ea.lgt 9++Ea.addn a.data.toList++Ea.lgt 7) (by
           simp only[X3,C4,hLl,hYl,h9l,h7l,hGl,Ea.mS_app,Ea.addn,G1];rfl) (by
           have e3:(Ea.addn a.data.toList).length<=47:=zL;simp only[O0,Ea.lgt_len];rw[<-Ea.mS_len (Ea.sym 4 s.data.toList),<-hYl,Za];omega))
          have hLs:L.size<=11:=C0;obtain⟨T,hT⟩:∃T,Ea.bS (Ea.sS (Ea.setsAdd a.data.toList))=T:=⟨_,rfl⟩;rw[hT]at HAS HDR;have zy:a.toList.isEmpty=false:=zM;have z0:((a.size:Int) !=0)=true:=N2.2 C0;have z25:((a.size:Int) !=2&&(a.size:Int) !=5)=false:=(by rcases a25 with h|h<;>rw[h]<;>rfl);generalize Ea.enc 4 s.data.toList a.data.toList=res at*;generalize Ea.size 4=n at*;generalize Ea.lq 4=lq at*;generalize Ea.rq 4=rq at*;have ha5:a.size<=5:=C0;clear a1 a1' a2 a3 hf0 hY hYl hL hLl h9 h9l h7 h7l hG hGl e1 e2 hAL hw47 hT;rcases a25 with a25|a25;(·have z2:((a.size:Int) !=2)=false:=WK;exact zN);·have z2:((a.size:Int) !=2)=true:=WK;have z5:((a.size:Int) !=5)=false:=WK;exact zN
      ·rw[D0 h5]at HF;rw[D1 h5]at HRI;rw[HF.out,G0 J0]at HX;generalize Ea.enc 4 s.data.toList a.data.toList=res at*;generalize Ea.size 4=n at*;clear h1 h2 h2' h3 h5 hkk hn1 HF;go_enter func64,ntmps64;go_wp2_with fail;refine(HZ.out _).mono ?_;rintro e w1 ⟨rfl,rfl⟩;go_wp2_with fail;refine(HD.out _).mono ?_;rintro e w1 ⟨rfl,rfl⟩;go_wp2_with fail;refine(HN.out _).mono ?_;exact zO
     ·rw[G0 ⟨rfl,h6⟩]at HF;rw[HF.out,G0 J0]at HX;rw[D1 h6]at HN;generalize Ea.enc 4 s.data.toList a.data.toList=res at*;generalize Ea.size 4=n at*;clear h1 h2 h2' h3 h6 hkk hn1 HF HRI;go_enter func64,ntmps64;go_wp2_with fail;refine(HZ.out _).mono ?_;rintro e w1 ⟨rfl,rfl⟩;go_wp2_with fail;refine(HD.out _).mono ?_;rintro e w1 ⟨rfl,rfl⟩;go_wp2_with fail;refine(HN.out _).mono ?_;exact Q5
    ·have b4:(k==4)=false:=V0.2 h4;rw[D0 (fun h=>h4 h.1)]at HF;by_cases h5:Ea.good (if k=4 then Ea.exp8 s.data.toList else s.data.toList)
     ·rw[G0 h5]at HF;rw[F1 h5]at HRI;have hf0:Ea.full k s.data.toList=0:=HF.out;rw[HF.out,D0 J0]at HX;by_cases a1:Ea.digs a.data.toList=false;(·rw[G0 a1]at HX;rw[a1]at HDA;generalize Ea.enc k s.data.toList a.data.toList=res at*;generalize Ea.size k=n at*;exact zP)
      ·have a1':Ea.digs a.data.toList=true:=(by simpa using a1);rw[D0 a1]at HX;rw[a1']at HDA;by_cases a2:a.size≠0∧a.size≠2∧a.size≠5;(·rw[G0 a2]at HX;generalize Ea.enc k s.data.toList a.data.toList=res at*;generalize Ea.size k=n at*;have z0:((a.size:Int) !=0)=true:=N2.2 C0;have z2:((a.size:Int) !=2)=true:=N2.2 C0;have z5:((a.size:Int) !=5)=true:=N2.2 C0;clear a1 a1' a2;exact zP)
       ·rw[D0 a2]at HX;have HSY:=B0 (zH k s hf0);obtain⟨Y,hY,hYl,hYs⟩:=named (l:=Ea.sym k s.data.toList);rw[hY]at HSY;rw[Ea.sym_len hf0]at hYs;have hYs:Y.size<=95:=(by rw[hYs];unfold Ea.wOf;exact M5);have hlq:Ea.lq k<=11:=(by unfold Ea.lq;exact M5);have hrq:Ea.rq k<=9:=(by unfold Ea.rq;exact L6);have HL:=B0 (ZO (Ea.lq k) C0);obtain⟨L,hL,hLl,hLs⟩:=named (l:=Ea.lgt (Ea.lq k));rw[hL]at HL;rw[Ea.lgt_len]at hLs;by_cases a3:a.size=0;(·rw[G0 a3]at HX;have HRQ:=B0 (ZO (Ea.rq k) C0);obtain⟨Q,hQ,hQl,hQs⟩:=named (l:=Ea.lgt (Ea.rq k));rw[hQ]at HRQ;rw[Ea.lgt_len]at hQs;have HMO:=B0 (PE (L++Y++Q) (Ea.lgt (Ea.lq k)++Ea.sym k s.data.toList++Ea.lgt (Ea.rq k)) zK (by rw[O0,O0,Ea.lgt_len,Ea.lgt_len,<-Ea.mS_len (Ea.sym k s.data.toList),<-hYl,Za];omega));have hLs:L.size<=11:=C0;have hQs:Q.size<=9:=C0;have zz:a.toList=[]:=(by rw[G2,(XK a).2 a3]);have zy:a.toList.isEmpty=true:=(by rw[zz];rfl);have z0:((a.size:Int) !=0)=false:=(by rw[a3];rfl);generalize Ea.enc k s.data.toList a.data.toList=res at*;generalize Ea.size k=n at*;generalize Ea.lq k=lq at*;generalize Ea.rq k=rq at*;clear a1 a1' a2 a3 hf0 hY hYl hL hLl hQ hQl;clear h1 h2 h2' h3 h5 hkk hn1 HF h4;go_enter func64,ntmps64;go_wp2_with fail;refine(HZ.out _).mono ?_;rintro e w1 ⟨rfl,rfl⟩;go_wp2_with fail;refine(HD.out _).mono ?_;exact QC)
        ·rw[D0 a3]at HX;have a25:a.size=2∨a.size=5:=C0;obtain⟨e1,e2⟩:=Ea.setsAdd_ok (a:=a.data.toList) UZ;have HAS:=B0 (JG a a25 a1');have HDR:=B0 (YQ a (Ea.bS (Ea.sS (Ea.setsAdd a.data.toList))) ⟨#[48,49]⟩ (Ea.setsAdd a.data.toList) Ea.gA a1' rfl (by rw[e1,Za]) (fun u hu=>by have:=e2 u hu;omega) rfl C0 J0);have hAL:=Ea.addn_len a1' UZ;unfold Ea.addn at hAL;rw[O0,Za]at hAL;obtain⟨G,hG,hGl,hGs⟩:=named (l:=Ea.drw Ea.gA a.data.toList (Ea.setsAdd a.data.toList));rw[hG]at HDR;have hw47:Ea.wAdd a.size<=47:=(by unfold Ea.wAdd;exact M5);have hGs:G.size<=47:=C0;have HL9:=B0 (ZO 9 C0);obtain⟨N9,h9,h9l,h9s⟩:=named (l:=Ea.lgt 9);rw[h9]at HL9;rw[Ea.lgt_len]at h9s;have HL7:=B0 (ZO 7 C0);obtain⟨N7,h7,h7l,h7s⟩:=named (l:=Ea.lgt 7);rw[h7]at HL7;rw[Ea.lgt_len]at h7s;have HMO:=B0 (PE (L++Y++(N9++⟨#[49,48,49,49]⟩++G)++N7) (Ea.lgt (Ea.lq k)++Ea.sym k s.data.toList++Ea.lgt 9++Ea.addn a.data.toList++Ea.lgt 7) (by
          simp only[X3,C4,hLl,hYl,h9l,h7l,hGl,Ea.mS_app,Ea.addn,G1];rfl) (by
          have e3:(Ea.addn a.data.toList).length<=47:=zL;simp only[O0,Ea.lgt_len];rw[<-Ea.mS_len (Ea.sym k s.data.toList),<-hYl,Za];omega))
         have hLs:L.size<=11:=C0;obtain⟨T,hT⟩:∃T,Ea.bS (Ea.sS (Ea.setsAdd a.data.toList))=T:=⟨_,rfl⟩;rw[hT]at HAS HDR;have zy:a.toList.isEmpty=false:=zM;have z0:((a.size:Int) !=0)=true:=N2.2 C0;have z25:((a.size:Int) !=2&&(a.size:Int) !=5)=false:=(by rcases a25 with h|h<;>rw[h]<;>rfl);generalize Ea.enc k s.data.toList a.data.toList=res at*;generalize Ea.size k=n at*;generalize Ea.lq k=lq at*;generalize Ea.rq k=rq at*;have ha5:a.size<=5:=C0;clear a1 a1' a2 a3 hf0 hY hYl hL hLl h9 h9l h7 h7l hG hGl e1 e2 hAL hw47 hT;rcases a25 with a25|a25;(·have z2:((a.size:Int) !=2)=false:=WK;exact zQ);·have z2:((a.size:Int) !=2)=true:=WK;have z5:((a.size:Int) !=5)=false:=WK;exact zQ
     ·rw[D0 h5]at HF;rw[D1 h5]at HRI;rw[HF.out,G0 J0]at HX;generalize Ea.enc k s.data.toList a.data.toList=res at*;generalize Ea.size k=n at*;clear h1 h2 h2' h3 h5 hkk hn1 HF h4;go_enter func64,ntmps64;go_wp2_with fail;refine(HZ.out _).mono ?_;rintro e w1 ⟨rfl,rfl⟩;go_wp2_with fail;refine(HD.out _).mono ?_;exact zO
end
end Go.Proofs.YtbngggoccndefaaGreatDoor
