/-
  Laid.
-/
import Derived.Test.YtbngggoccndefaaGreatDoorLe14
set_option maxHeartbeats 8000000
set_option maxRecDepth 100000
set_option linter.all false
namespace Go.Proofs.Enc
open Go.Proofs.Tryz
section
open Go.RowKit Go.WideMaps Go.Maps
def KK{s:ByteArray}(h:s.size=0):s.data.toList=[]:=U3 WH
def KM{s:ByteArray}(h:0<s.size):¬s.toList=[]:=by rw[I2];exact rY
def qB{s:ByteArray}(h:0<s.size):s.toList.isEmpty=false:=by rw[RR];exact KM h
def Zkk(s:ByteArray)(hs:s.size<=maxLen)(w:World)(ht:ZQ w):
 Calls prog 18 #[.string s] w (ElsR (Gs.parse s.data.toList) w):=by
 have Le:s.size<=9223372036854775807:=hs;have HI:=B0 (MT w ht);have HP:=B0 (Gs.parse.eq_1 s.data.toList);rw[Za]at HP;generalize Gs.parse s.data.toList=res at*;clear ht hs;by_cases h1:4096<s.size
 .rw[G0 h1]at HP;have h1':(4096:Int)<(s.size:Int):=C0;go_enter func18,ntmps18;exact KN
 rw[D0 h1]at HP;have s5:s.size<=4096:=by omega
 have Cz:(s.size:Int)<=4096:=by omega
 clear h1 Le;by_cases h2:s.size=0
 .have By:=KK h2;rw[G0 By]at HP;have IC:s=⟨#[]⟩:=Zi By;clear By h2;subst IC;go_enter func18,ntmps18;exact KN
 have As:0<s.size:=by omega
 have Bq:=KM As;have Ad:=qB As;rw[D0 (by rw[<-I2];exact Bq)]at HP;clear h2;obtain⟨Jf,Ik⟩:=res;go_enter func18,ntmps18;go_wp2_with fail;refine HI.out.mono ?_;rintro e W ⟨b,rfl,hd,hb,Fa⟩;have HV:=B0 (λ(w':World)(hx:Ext W w')(ai d:ByteArray)(h1:ai.size<=maxLen)(h2:d.size<=maxLen)=>CO ai d b w' (Dir.ext hd hx) h1 h2);clear HI hd hb Bq Ad;go_wp2;go_loopw [0,5] (λt v wr=>∃(S:ByteArray)(acc:List Gs.El)(n:Nat),t=.string S/\S.size+acc.length<=4096/\EOwn wr W.heap.size v acc/\Hid (S.size<=n/\(Jf,Ik)=Gs.parseF n S.data.toList acc)/\Ext W wr) (λt _ _=>match t with| .string S=>S.size|_=>0)
 case atStart=>exact⟨s,[],s.size,rfl,by simpa using s5,EOwn.nil _ _,B0 ⟨J0 _,HP.out⟩,Ext.refl W⟩
 case round=>
  clear HP s5 Cz As;obtain⟨S,acc,n,rfl,o4,b8,Jt,hx⟩:=hrel;by_cases h0:S.size=0;(·have By:=KK h0;have HR:Hid ((Jf,Ik)=(acc,0)):=B0 (by rw[Jt.out.2,By,dX]);have IC:S=⟨#[]⟩:=Zi By;clear By h0 Jt;subst IC;obtain⟨ao,co,rfl⟩:=b8.sl.form;go_wp2;go_ret2;have hr:=HR.out;simp only[Y2]at hr;obtain⟨rfl,rfl⟩:=hr;exact⟨_,rfl,b8.sl,Fa.trans hx⟩)
  .have h0':0<S.size:=C0;have T1:=KM h0';have T2:=qB h0';obtain⟨c,r,hcr⟩:∃c r,S.data.toList=c::r:=by
    cases hS:S.data.toList with
    |nil=>have:=V0 List.length hS;rw[Za,I3]at this;omega
    |cons c r=>exact⟨c,r,rfl⟩
   have Jv:r.length+1=S.size:=(by rw[<-Za,hcr];rfl);have IF:=B0 (eZ (n:=n) (b:=c) (r:=r) (acc:=acc) (by rw[B1];have:=Jt.out.1;omega));have Cq:Hid ((Jf,Ik)=Gs.parseF n (c::r) acc):=B0 (by rw[<-hcr];exact Jt.out.2);have HN:Hid (r.length+1<=n):=B0 (by have:=Jt.out.1;omega);have Uu:=B0 (λw=>Tryz.strings_CutPrefix S ⟨#[40]⟩ w);rw[hcr]at Uu;clear Jt h0;obtain⟨ao,co,rfl⟩:=b8.sl.form;by_cases Lc:c=40;(·have e1:Lib.hasPrefix (c::r) (⟨#[40]⟩:ByteArray).data.toList=true:=(by rw[Lc];simp[Lib.hasPrefix]);have e2:Lib.trimPrefix (c::r) (⟨#[40]⟩:ByteArray).data.toList=r:=(by unfold Lib.trimPrefix;rw[e1];rfl);rw[e1,e2]at Uu;obtain⟨R,hR⟩:∃R:ByteArray,R=⟨r.toArray⟩:=⟨_,rfl⟩;have Gy:R.data.toList=r:=(by rw[hR]);rw[<-hR]at Uu;have Me:R.size=r.length:=(by rw[<-Za,Gy]);have Ec:=B0 (λw=>eY R 41 C0 w);have Py:=B0 (cutB.eq_1 R 41);rw[Gy,Me]at Py;obtain⟨ST2,ST3,ST4⟩:=IF.out.2;have Lv:=B0 (ST3 Lc);have Jg:=B0 (ST4 Lc);have Ad:=B0 (ST2 Lc);have hul:=TV 41 r;clear IF ST2 ST3 ST4 e1 e2 hR hcr Lc;by_cases hf:(Gs.upto 41 r).length=r.length;(·have HR:Hid ((Jf,Ik)=([],9)):=B0 (Cq.out.trans (Ad.out hf));rw[G0 hf]at Py;rw[Py.out]at Ec;clear Ad Lv Jg hf Py Cq hul Me Gy Jv;exact fA);·rw[D0 hf]at Py;obtain⟨m,hm⟩:∃m,(Gs.upto 41 r).length=m:=⟨_,rfl⟩;have Gz:m<r.length:=C0;rw[hm]at Py;rw[Py.out]at Ec;have HA:Hid ((R.extract 0 m).data.toList=Gs.upto 41 r):=B0 (by rw[Zx,Gy];rcases(XK 41 r).2 with e|⟨r2,e⟩;(·rw[e]at hf;exact absurd rfl hf);·(conv=>lhs;rw[e]);rw[<-hm,VF]);have HY:Hid ((R.extract (m+1) r.length).data.toList=r.drop ((Gs.upto 41 r).length+1)):=B0 (by rw[<-Me,Z8,Gy,hm]);have Tm:Hid ((R.extract 0 m).size=m):=B0 W4;have Uc:(R.extract (m+1) r.length).size=r.length-(m+1):=VJ;have aAH:=B0 (Lv.out hf);have aAI:=B0 (Jg.out hf);generalize r.drop ((Gs.upto 41 r).length+1)=y at*;generalize Gs.upto 41 r=a at*;obtain⟨A,hA⟩:∃A,R.extract 0 m=A:=⟨_,rfl⟩;obtain⟨Y,hY⟩:∃Y,R.extract (m+1) r.length=Y:=⟨_,rfl⟩;rw[hA]at HA Tm Ec;rw[hY]at HY Uc Ec;have hyl:y.length=Y.size:=(by rw[<-HY.out,Za]);have IX:=B0 (λw=>Tryz.strings_IndexByte Y 40 w);rw[show((40:Int).toNat.toUInt8:UInt8)=40 from rfl,HY.out,eX]at IX;have ID:=TV 40 y;obtain⟨k,hk⟩:∃k,(Gs.upto 40 y).length=k:=⟨_,rfl⟩;rw[hk,hyl]at ID IX;have HD:Hid ((Y.extract 0 k).data.toList=Gs.upto 40 y):=B0 (by rw[Zx,HY.out];rcases(XK 40 y).2 with e|⟨r2,e⟩;(·rw[<-hk,e,J6]);·(conv=>lhs;rw[e]);rw[<-hk,VF]);have HZ:Hid ((Y.extract k Y.size).data.toList=y.drop (Gs.upto 40 y).length):=B0 (by rw[Z8,HY.out,hk]);have HDS:Hid ((Y.extract 0 k).size=k):=B0 W4;have HZS:Hid ((Y.extract k Y.size).size=Y.size-k):=B0 W4;generalize y.drop (Gs.upto 40 y).length=z at*;generalize Gs.upto 40 y=d at*;obtain⟨D,hD⟩:∃D,Y.extract 0 k=D:=⟨_,rfl⟩;obtain⟨Z,hZ⟩:∃Z,Y.extract k Y.size=Z:=⟨_,rfl⟩;have Ae:=B0 (λw' hx=>HV.out w' hx A D (by rw[Tm.out];unfold maxLen;omega) (by rw[<-hD,HDS.out];unfold maxLen;omega));rw[HA.out,<-hD,HD.out]at Ae;rw[hD]at Ae HD HDS;rw[hZ]at HZ HZS;have HKD:=B0 hD;have HKZ:=B0 hZ;have hkY:(k:Int)<=(Y.size:Int):=C0;have Ow:Hid (Z.size+acc.length+1<=4096/\Z.size<=n-1/\Z.size<S.size):=B0 (by have:=HZS.out;have:=HN.out;omega);have hac:acc.length<=4096:=C0;clear hA hY hD hZ hm hk hf Ad Lv Jg Py hul Me Gy Jv Uc hyl;by_cases Bs:Gs.ver a d=0;(·have HP2:Hid ((Jf,Ik)=Gs.parseF (n-1) Z.data.toList (acc++[(a,d)])):=B0 (by rw[HZ.out];exact Cq.out.trans (aAI.out Bs));rw[Bs]at Ae;clear aAH aAI Bs Cq;have hEA:encS a=.string A:=(by rw[<-HA.out,G9]);have hED:encS d=.string D:=(by rw[<-HD.out,G9]);have Tp:=B0 hEA;have HED:=B0 hED;clear hEA hED;by_cases Pm:k=Y.size;(·rw[G0 Pm]at IX;subst Pm;have hDY:D=Y:=fB;subst hDY;go_wp2_with fail;refine(Uu.out _).mono ?_;rintro e w1 ⟨rfl,rfl⟩;go_wp2_with fail;refine(Ec.out _).mono ?_;rintro e w2 ⟨rfl,j0⟩;dsimp only;go_wp2_with fail;refine(IX.out _).mono ?_;rintro e w3 ⟨rfl,rfl⟩;have Dw:Ext W w3:=hx.trans j0;have Hs:=b8.ext j0;go_wp2_with fail;exact QF);·rw[D0 Pm]at IX;have Ew:(0:Int)<=(k:Int):=C0;clear Pm;go_wp2_with fail;refine(Uu.out _).mono ?_;rintro e w1 ⟨rfl,rfl⟩;go_wp2_with fail;refine(Ec.out _).mono ?_;rintro e w2 ⟨rfl,j0⟩;dsimp only;go_wp2_with fail;refine(IX.out _).mono ?_;rintro e w3 ⟨rfl,rfl⟩;have Dw:Ext W w3:=hx.trans j0;have Hs:=b8.ext j0;go_wp2_with fail;rw[HKD.out];exact QF);·have HR:Hid ((Jf,Ik)=([],Gs.ver a d)):=B0 (Cq.out.trans (aAH.out Bs));obtain⟨z1,p8⟩:∃z1,Gs.ver a d=z1:=⟨_,rfl⟩;rw[p8]at Ae HR Bs;have x9:(z1==0)=false:=(by simpa using Bs);clear aAH aAI Bs Cq p8;by_cases Pm:k=Y.size;(·rw[G0 Pm]at IX;subst Pm;have hDY:D=Y:=fB;subst hDY;go_wp2_with fail;refine(Uu.out _).mono ?_;rintro e w1 ⟨rfl,rfl⟩;go_wp2_with fail;refine(Ec.out _).mono ?_;rintro e w2 ⟨rfl,j0⟩;dsimp only;go_wp2_with fail;refine(IX.out _).mono ?_;rintro e w3 ⟨rfl,rfl⟩;have Dw:Ext W w3:=hx.trans j0;have Hs:=b8.ext j0;go_wp2_with fail;exact fC);·rw[D0 Pm]at IX;have Ew:(0:Int)<=(k:Int):=C0;clear Pm;go_wp2_with fail;refine(Uu.out _).mono ?_;rintro e w1 ⟨rfl,rfl⟩;go_wp2_with fail;refine(Ec.out _).mono ?_;rintro e w2 ⟨rfl,j0⟩;dsimp only;go_wp2_with fail;refine(IX.out _).mono ?_;rintro e w3 ⟨rfl,rfl⟩;have Dw:Ext W w3:=hx.trans j0;have Hs:=b8.ext j0;go_wp2_with fail;rw[HKD.out];exact fC);·have HR:Hid ((Jf,Ik)=([],9)):=B0 (Cq.out.trans (IF.out.1 Lc));have e1:Lib.hasPrefix (c::r) (⟨#[40]⟩:ByteArray).data.toList=false:=(by unfold Lib.hasPrefix;simp[List.isPrefixOf];intro e;exact Lc e.symm);have e2:Lib.trimPrefix (c::r) (⟨#[40]⟩:ByteArray).data.toList=c::r:=(by unfold Lib.trimPrefix;rw[e1];rfl);rw[e1,e2,<-hcr,Z0]at Uu;have Ec:=B0 (λw=>eY S 41 C0 w);generalize cutB S 41=cb at*;obtain⟨x1,x2,x3⟩:=cb;clear IF Cq HN e1 e2 hcr Lc Jv;exact fA
def StrR(r:List UInt8×Int)(w:World)(e:Ending)(w':World):Prop:=e=.returned (.tuple #[encS r.1,.int .i64 r.2])/\Ext w w'
def SG{xs:List Gs.El}(h:Gs.verL xs=0):∀x∈xs,Gs.ver x.1 x.2=0:=by
 induction xs with
 |nil=>intro x hx;simp at hx
 |cons y ys ih=>intro x hx;unfold Gs.verL at h;split at h;(·rename_i h0;rcases E2.1 hx with rfl|hx;(·exact h0);·exact ih h x hx);·rename_i h0;exact absurd h h0
def VP{a d:List UInt8}(h:Gs.ver a d=0):a.length<=4/\d.length<=90:=by obtain⟨r,h1,h2⟩:=VL h;have h3:=(XJ h1).2.1;have h4:=dV h2;have h5:=VC h1;unfold Gs.Vg at h5;omega
def Zlr(xs:List Gs.El)(h:∀x∈xs,Gs.ver x.1 x.2=0):(xs.flatMap Gs.fmtE).length<=96*xs.length:=by
 induction xs with
 |nil=>simp
 |cons x xs ih=>have h1:=VP (h x (C2 ..));have h2:=ih (λy hy=>h y (Y1 _ hy));simp only[M7,S0,B1,Gs.fmtE];omega
def OB{xs:List Gs.El}(h:Gs.verAll xs=0):Gs.verL xs=0:=by
 unfold Gs.verAll at h;split at h;·simp at h
 .exact h
def fD{α:Type}{xs:List α}{k:Nat}{x:α}(h:xs[k]? =some x):xs.take (k+1)=xs.take k++[x]:=by rw[M5,h];rfl
def ZiG(v:Value)(xs:List Gs.El)(w:World)(hl:ESl w v xs)(hn:xs.length<=1000000000)(hs:∀x∈xs,x.1.length<=maxLen/\x.2.length<=maxLen)(ht:ZQ w):
 Calls prog 19 #[v] w (StrR (Gs.format xs) w):=by
 obtain⟨a,c,rfl⟩:=hl.form;have HI:=B0 (MT w ht);have HL:=B0 hl;have Eo:=B0 (λ(w':World)(b:Nat)(hd:Dir w' b)(hx:Ext w w')=>eV _ xs b w' hd (hl.ext hx) C0 hs);have HR:=B0 (Gs.format.eq_1 xs);have Lx:Hid (Gs.verAll xs=0->∀x∈xs,Gs.ver x.1 x.2=0):=B0 (λh=>SG (OB h));generalize Gs.format xs=res at*;obtain⟨N,hN⟩:∃N,xs.length=N:=⟨_,rfl⟩;have HN:=B0 hN;rw[hN]at hn HL Eo⊢;clear hl hs ht hN;by_cases hz:Gs.verAll xs=0
 .have Lx:=B0 (Lx.out hz);rw[hz]at Eo;rw[hz,D0 L0]at HR;clear hz;go_enter func19,ntmps19;go_wp2_with fail;refine HI.out.mono ?_;rintro e W ⟨b,rfl,hd,hb,Fa⟩;have H1:=B0 (Eo.out W b hd Fa);clear hd Eo HI;go_wp2_with fail;refine H1.out.mono ?_;rintro e V ⟨rfl,Nl⟩;have n8:=Fa.trans Nl;clear Fa Nl H1;go_wp2;go_loopw [16] (λt wr=>∃k:Nat,k<=N/\t=.int .i64 (k:Int)/\Lib.IsBuilder 92 5 V.heap.size V.heap.size (Lib.byteCells ((xs.take k).flatMap Gs.fmtE)) wr/\Ext V wr) (λt _=>N-(intOf t).toNat);(case atStart=>exact⟨0,R0 _,rfl,Lib.fresh_isBuilder _ _ V,Xe⟩);case round=>obtain⟨k,hk,rfl,Ce,hx⟩:=hrel;have hfl:=Zlr (xs.take k) (λx hx=>Lx.out x (I4 hx));have Oj:(xs.take k).length<=k:=qC _ _;by_cases hlt:k<N;(·obtain⟨x,Dw⟩:∃x,xs[k]? =some x:=⟨_,P0 SC⟩;obtain⟨bb,off,ha,Kh,q0,q1⟩:=HL.out.at_ Dw;subst ha;have Bo:=n8.trans hx;have d0:=(Bo.cell (p:=⟨bb,off+k*2,none⟩) Kh).trans q0;have d1:=(Bo.cell (p:=⟨bb,off+k*2+1,none⟩) Kh).trans q1;have Rk:Hid ((xs.take (k+1)).flatMap Gs.fmtE=(xs.take k).flatMap Gs.fmtE++Gs.fmtE x):=B0 (by rw[fD Dw,NU];simp);have Cf:=VP (Lx.out x (L1 Dw));obtain⟨xa,xd⟩:=x;unfold encS at d0 d1;dsimp only at d0 d1 Cf;have HB:Hid ((⟨xa.toArray⟩:ByteArray).data.toList=xa/\(⟨xd.toArray⟩:ByteArray).data.toList=xd):=B0 ⟨rfl,rfl⟩;generalize(⟨xa.toArray⟩:ByteArray)=A at*;generalize(⟨xd.toArray⟩:ByteArray)=D at*;have Nz:A.size<=4:=qD;have Ky:D.size<=90:=qE;obtain⟨got,Od⟩:∃got,(xs.take k).flatMap Gs.fmtE=got:=⟨_,rfl⟩;rw[Od]at Ce hfl Rk;have De:(Lib.byteCells got).length<=96*N:=(by rw[Lib.byteCells,M0];omega);obtain⟨R,hR⟩:∃R:ByteArray,R=(⟨#[40]⟩++A++⟨#[41]⟩++D:ByteArray):=⟨_,rfl⟩;have Nv:Hid (R.data.toList=Gs.fmtE (xa,xd)):=B0 (by obtain⟨b1,b2⟩:=HB.out;rw[hR,<-b1,<-b2];simp[Gs.fmtE,A4]);have Me:R.size<=96:=(by rw[<-Za,Nv.out];simp only[Gs.fmtE,S0,B1];omega);have HW:=B0 (λ(w':World)(hw:Ext V w')(Ce:Lib.IsBuilder 92 5 V.heap.size V.heap.size (Lib.byteCells got) w')=>Zfh V.heap.size V.heap.size _ R w' Ce C0 hw.size);rw[hR]at HW;have Ou:=B0 hR;clear Od Dw q0 q1 hR hfl Oj De Me Cf;go_wp2_with fail;have H1:=B0 (HW.out _ (hx.alloc (.cells #[.string A,.string D] 86)) (ZmE Ce ((Ext.refl wr).alloc _)));refine H1.out.mono ?_;rintro e w2 ⟨rfl,aCN,n7⟩;rw[<-Ou.out]at aCN;have j0:Ext V w2:=O4 (hx.alloc _) n7;have HBL:Hid (Lib.IsBuilder 92 5 V.heap.size V.heap.size (Lib.byteCells (got++Gs.fmtE (xa,xd))) w2):=B0 (by have e1:Lib.byteCells (got++Gs.fmtE (xa,xd))=Lib.byteCells got++Lib.strCells R:=(by rw[<-Nv.out];simp[Lib.byteCells,Lib.strCells]);rw[e1];exact aCN);clear Ce aCN n7 d0 d1 Bo;go_wp2;go_roundw;(case rel=>exact⟨k+1,by omega,by go_num,by rw[Rk.out];exact HBL.out,j0⟩);case measure=>exact QH);·obtain rfl:k=N:=C0;rw[S1 KH]at Ce hfl;clear hk hlt Oj;generalize xs.flatMap Gs.fmtE=got at*;have Om:=B0 (Tryz.Builder_Len V.heap.size V.heap.size (Lib.byteCells got) wr Ce);have aEx:=B0 (Tryz.Builder_String_any V.heap.size V.heap.size got wr Ce hx.size);have e1:(Lib.byteCells got).length=got.length:=(by rw[Lib.byteCells,M0]);rw[e1]at Om;rw[HN.out]at hfl;clear e1 Ce;by_cases Pn:4096<got.length;(·rw[G0 Pn]at HR;go_wp2_with fail;refine Om.out.mono ?_;rintro e w1 ⟨rfl,rfl⟩;go_wp2;go_ret2;exact⟨by rw[HR.out];rfl,n8.trans hx⟩);·rw[D0 Pn]at HR;have Ni:got.length<=4096:=C0;clear Pn;go_wp2_with fail;refine Om.out.mono ?_;rintro e w1 ⟨rfl,rfl⟩;go_wp2_with fail;refine aEx.out.mono ?_;rintro e w1 ⟨rfl,o8⟩;go_wp2;go_ret2;exact⟨by rw[HR.out];rfl,n8.trans (O4 hx o8)⟩
 .rw[G0 hz]at HR;obtain⟨z,Hc⟩:∃z,Gs.verAll xs=z:=⟨_,rfl⟩;rw[Hc]at Eo HR hz;have p8:(z==0)=false:=SF;clear Hc Lx;go_enter func19,ntmps19;go_wp2_with fail;refine HI.out.mono ?_;rintro e W ⟨b,rfl,hd,hb,Fa⟩;have H1:=B0 (Eo.out W b hd Fa);clear hd Eo HI;go_wp2_with fail;refine H1.out.mono ?_;rintro e V ⟨rfl,Nl⟩;go_wp2;go_ret2;exact⟨by rw[HR.out];rfl,Fa.trans Nl⟩
def YD(r:List Int×Int)(w:World)(e:Ending)(w':World):Prop:=∃v,e=.returned (.tuple #[v,.int .i64 r.2])/\SlK w' v (r.1.map encI)/\Ext w w'
def YD.err(c:Int){w w':World}(h:Ext w w'):YD ([],c) w (.returned (.tuple #[.slice none 0 0,.int .i64 c])) w':=⟨_,rfl,⟨.inl ⟨rfl,_,_,rfl⟩,none,0,rfl,J0 _⟩,h⟩
def Zi1(s:ByteArray)(w:World):∃cap w',(convert 9 90 (.string s)).run prog w=.ok (.slice (some ⟨w.heap.size,0,none⟩) s.size cap) w'/\Ext w w'/\w'.heap.size=w.heap.size+1/\∀j,(h:j<s.size)->w'.cell? ⟨w.heap.size,j,none⟩=some (encB s[j]):=by refine⟨_,_,run_bytes_of_string (P:=prog) w 9 90 5 s underlying9 underlying90 underlying5,((Ext.refl w).drew).alloc _,by simp,λj h=> ?_⟩;exact(EO w.drew _ _ _ j).trans (bytesRow_at s _ j h)
def Off(w:World)(v:Value)(b:Nat)(o:Option Obj):Prop:=b<w.heap.size/\v.ownBlock≠some b/\w.heap[b]? =o
def Off.grow{w w':World}{v v':Value}{b:Nat}{o:Option Obj}(h:Off w v b o)(hg:w.grownBy w' v.ownBlock)(n:Nat)(hn:w.heap.size<=n)(La:v'.ownBlock=v.ownBlock\/v'.ownBlock=some n):Off w' v' b o:=by
 obtain⟨h1,h2,h3⟩:=h;refine⟨W1 h1 hg.size,?_,?_⟩;·rcases La with e|e;(·rw[e];exact h2);·rw[e];intro e2;injection e2 with e2;omega
 .rw[hg.block b h1 (λe=>h2 e.symm)];exact h3
def Off.ext{w w':World}{v:Value}{b:Nat}{o:Option Obj}(h:Off w v b o)(hx:Ext w w'):Off w' v b o:=⟨W1 h.1 hx.size,h.2.1,by rw[hx.block b h.1];exact h.2.2⟩
def Off.cell{w w':World}{v v':Value}{b:Nat}{o:Option Obj}(h:Off w v b o)(h':Off w' v' b o)(k:Nat):w'.cell? ⟨b,k,none⟩=w.cell? ⟨b,k,none⟩:=
 DI (w:=w) (a:=⟨b,k,none⟩) (by rw[h'.2.2,h.2.2])
def Own.one(t:TypeId)(w:World)(v:Value)(B:Nat)(hB:B<=w.heap.size):Own t (w.alloc (.cells #[v] t)) B (.slice (some ⟨w.heap.size,0,none⟩) 1 1) [v]:=
 ⟨rfl,.inr ⟨w.heap.size,1,#[v],rfl,hB,X2 _ _,J0 _,by decide,rfl,rfl⟩⟩
def Zj6(v:Value)(xs:List Gs.El)(w:World)(hl:ESl w v xs)(hn:xs.length<=2000000)(hs:∀x∈xs,x.1.length<=maxLen/\x.2.length<=maxLen)(ht:ZQ w):
 Calls prog 68 #[v] w (YD (Gs.chars xs) w):=by
 obtain⟨a,c,rfl⟩:=hl.form;have HI:=B0 (MT w ht);have HL:=B0 hl;have Eo:=B0 (λ(w':World)(b:Nat)(hd:Dir w' b)(hx:Ext w w')=>eV _ xs b w' hd (hl.ext hx) C0 hs);have HR:=B0 (Gs.chars.eq_1 xs);have Lx:Hid (Gs.verAll xs=0->∀x∈xs,Gs.ver x.1 x.2=0):=B0 (λh=>SG (OB h));generalize Gs.chars xs=res at*;obtain⟨N,hN⟩:∃N,xs.length=N:=⟨_,rfl⟩;have HN:=B0 hN;rw[hN]at hn HL Eo⊢;clear hl hs ht hN;by_cases hz:Gs.verAll xs=0
 .have Lx:=B0 (Lx.out hz);rw[hz]at Eo;rw[hz,D0 L0]at HR;clear hz;go_enter func68,ntmps68;go_wp2_with fail;refine HI.out.mono ?_;rintro e W ⟨b,rfl,hd,hb,Fa⟩;have H1:=B0 (Eo.out W b hd Fa);have HD:=B0 hd;clear hd Eo HI;go_wp2_with fail;refine H1.out.mono ?_;rintro e V ⟨rfl,Nl⟩;have HFI:=B0 (λ(w':World)(hx:Ext V w')(s:ByteArray)(h:s.size<=maxLen)=>CG s b w' (Dir.ext HD.out (Nl.trans hx)) h);have n8:=Fa.trans Nl;clear Fa Nl H1 HD;go_wp2;go_loopw [23,6] (λt v wr=>∃(k:Nat)(acc:List Int),k<=N/\t=.int .i64 (k:Int)/\acc.length<=1+95*k/\Own 3 wr V.heap.size v (acc.map encI)/\Hid (256::Gs.chG xs=acc++Gs.chG (xs.drop k))/\Ext V wr) (λt _ _=>N-(intOf t).toNat);(case atStart=>exact fF);case round=>obtain⟨k,acc,hk,rfl,IL,b8,Sd,hx⟩:=hrel;obtain⟨ao,co,rfl⟩:=b8.sl.form;rw[M0]at b8⊢;by_cases hlt:k<N;(·obtain⟨x,Dw⟩:∃x,xs[k]? =some x:=⟨_,P0 SC⟩;obtain⟨bb,off,ha,Kh,q0,q1⟩:=HL.out.at_ Dw;subst ha;have Bo:=n8.trans hx;have d0:=(Bo.cell (p:=⟨bb,off+k*2,none⟩) Kh).trans q0;have d1:=(Bo.cell (p:=⟨bb,off+k*2+1,none⟩) Kh).trans q1;have Jw:=Lx.out x (L1 Dw);have Cf:=VP Jw;have Ja:xs.drop k=x::xs.drop (k+1):=KJ;have Wy:Hid ((xs.drop (k+1)).isEmpty=decide (k+1=N)):=B0 fG;obtain⟨xa,xd⟩:=x;have Fl:=Sd.out;rw[Ja,Gs.chG]at Fl;unfold encS at d0 d1;dsimp only at d0 d1 Cf Jw Fl;obtain⟨r,IZ,_⟩:=VL Jw;have Pj:Gs.fixed xa=Gs.isFix r:=(by unfold Gs.fixed;rw[IZ]);rw[Pj,Wy.out,<-V1,<-V1]at Fl;have IE:=B0 Fl;have HB:Hid ((⟨xa.toArray⟩:ByteArray).data.toList=xa/\(⟨xd.toArray⟩:ByteArray).data.toList=xd):=B0 ⟨rfl,rfl⟩;generalize(⟨xa.toArray⟩:ByteArray)=A at*;generalize(⟨xd.toArray⟩:ByteArray)=D at*;have Nz:A.size<=4:=qD;have Ky:D.size<=90:=qE;obtain⟨U,hU⟩:∃U:World,U=wr.alloc (.cells #[.string A,.string D] 86):=⟨_,rfl⟩;have hUs:U.heap.size=wr.heap.size+1:=(by rw[hU];simp);obtain⟨P,hP⟩:∃P:ByteArray,P=A++D:=⟨_,rfl⟩;have Oo:Hid (P.data.toList=xa++xd):=B0 fH;have hPs:P.size<=94:=(by rw[hP,ZZ];omega);obtain⟨cap,w2,Cv,j0,Cz,Iz⟩:=Zi1 P U;have hxU:Ext wr U:=(by rw[hU];exact(Ext.refl wr).alloc _);have Hs:=(b8.ext hxU).ext j0;have O1:Off w2 (.slice ao acc.length co) wr.heap.size (some (.cells #[.string A,.string D] 86 (0,0))):=(by refine⟨by omega,?_,?_⟩;(·intro e;have:=(R4 b8 _ e).2;omega);·rw[j0.block _ C0,hU];exact PC);have O2:Off w2 (.slice ao acc.length co) U.heap.size (w2.heap[U.heap.size]?):=(by refine⟨by omega,?_,rfl⟩;intro e;have:=(R4 b8 _ e).2;omega);have HBY:=B0 Iz;have Hf:=B0 O2;have aEN:Ext V w2:=(hx.trans hxU).trans j0;have Iv:=B0 IZ;have HU:=B0 (And.intro hU (And.intro hUs Cz));rw[hP]at Cv;have HP:=B0 hP;rw[hU]at Cv;clear hU hP Dw q0 q1 Ja Cf Jw Fl Pj IZ Sd b8 Iz Wy;go_wp2;have hUb:(wr.alloc (.cells #[.string A,.string D] 86)).heap.size=U.heap.size:=(by rw[HU.out.1]);obtain⟨wo,rfl⟩:∃wo:World,wo=wr:=⟨_,rfl⟩;obtain⟨M,hM⟩:∃M,M=A.size+D.size:=⟨_,rfl⟩;have HM:Hid (M=P.size):=B0 (by rw[hM,HP.out,ZZ]);have hMi:(A.size:Int)+(D.size:Int)=(M:Int):=C0;rw[hMi,<-hM];have hMs:M<=94:=C0;have HHU:Hid (U.heap.size=wo.heap.size+1):=B0 hUs;clear hM hMi Cv hUs Cz d0 d1 Bo j0 hxU hPs hk hUb;go_loopw [35,6] (λt v wq=>∃(j:Nat),j<=M/\t=.int .i64 (j:Int)/\Own 3 wq V.heap.size v ((acc++Gs.ints ((xa++xd).take j)).map encI)/\Off wq v wo.heap.size (some (.cells #[.string A,.string D] 86 (0,0)))/\Off wq v U.heap.size (w2.heap[U.heap.size]?)/\Ext V wq) (λt _ _=>M-(intOf t).toNat);(case atStart=>exact⟨0,R0 _,rfl,by simpa[Gs.ints]using Hs,O1,Hf.out,aEN⟩);case round=>clear Hs O1 aEN;obtain⟨j,hj,rfl,b8,o1,o2,o7⟩:=hrel;obtain⟨aq,cq,rfl⟩:=b8.sl.form;rw[M0]at b8 o1 o2⊢;have aAz:(acc++Gs.ints ((xa++xd).take j)).length<=1+95*k+M:=(by rw[S0,F9];have:=qC j (xa++xd);omega);by_cases Du:j<M;(·have hjP:j<P.size:=(by rw[<-HM.out];exact Du);have cB:wr.cell? ⟨wo.heap.size+1,j,none⟩=some (encB P[j]):=(by rw[<-HHU.out,Off.cell Hf.out o2 j];exact HBY.out j hjP);have Fp:Hid ((acc++Gs.ints ((xa++xd).take (j+1)))=(acc++Gs.ints ((xa++xd).take j))++[(P[j].toNat:Int)]):=B0 (by rw[<-Oo.out,Z1 P j hjP,AQ,V1];rfl);generalize acc++Gs.ints ((xa++xd).take j)=got at*;obtain⟨pj,hpj⟩:∃pj,P[j]=pj:=⟨_,rfl⟩;rw[hpj]at cB Fp;unfold encB at cB;have Jd:(pj.toNat:Int)<=255:=(by have:=LT pj;omega);clear hpj hjP;go_wp2_with (at_builtin;go_loud (refine ZF rfl _ _ rfl V.heap.size _ got rfl (b8.ext ((Ext.refl wr).alloc _)) _ (pj.toNat:Int) rfl ?_ C0 ?_ ?_));(·exact V2);(·exact NT);intro v5 w5 l6 j6 Lb;have j5:Ext V w5:=(o7.alloc _).l8 j6 b8.low;have o1':=(o1.ext ((Ext.refl wr).alloc _)).grow j6 (wr.heap.size+1) L0 Lb;have o2':=(o2.ext ((Ext.refl wr).alloc _)).grow j6 (wr.heap.size+1) L0 Lb;clear b8 j6 Lb o1 o2 cB o7;go_wp2;go_roundw;(case rel=>exact⟨j+1,by omega,by go_num,by rw[Fp.out,R2];exact l6,o1',o2',j5⟩);case measure=>exact QH);·obtain rfl:j=M:=C0;have Fp:Hid (acc++Gs.ints ((xa++xd).take j)=acc++Gs.ints (xa++xd)):=B0 (by rw[S1 (by rw[<-Oo.out,Za,<-HM.out];exact J0 _)]);rw[Fp.out]at b8 aAz⊢;obtain⟨got,Od⟩:∃got,acc++Gs.ints (xa++xd)=got:=⟨_,rfl⟩;have HGL:Hid (got.length=acc.length+(xa++xd).length):=B0 (by rw[<-Od,S0,F9]);have HXL:Hid ((xa++xd).length<=94):=B0 (by rw[<-Oo.out,Za,<-HM.out];exact hMs);rw[Od]at b8 aAz IE⊢;have cA:wr.cell? ⟨wo.heap.size,0,none⟩=some (.string A):=(by unfold World.cell?;rw[o1.2.2];rfl);have Kb:=B0 (HFI.out wr o7 A O3);rw[HB.out.1,Iv.out]at Kb;obtain⟨ra,rb,rc,rd⟩:=r;clear Od o1 o2 Hf HBY hj Du Fp;by_cases hf:Gs.isFix (ra,rb,rc,rd)=true;(·have HX:=B0 (λw=>MU (ra,rb,rc,rd) w);have e0:((ra,rb,rc,rd).2.1==(ra,rb,rc,rd).2.2.1)=true:=hf;rw[e0]at HX;rw[hf]at IE;clear hf e0;go_wp2_with fail;refine Kb.out.mono ?_;rintro e w3 ⟨rfl,j4⟩;dsimp only[B7,ZI,Option.isSome];go_wp2_with fail;refine(HX.out _).mono ?_;rintro e w4 ⟨rfl,j9⟩;have Ai:=((b8.ext j4).ext ((Ext.refl w3).alloc _)).ext j9;have Di:=((o7.trans j4).alloc (.cells #[.int .i64 ra,.int .i64 rb,.int .i64 rc,.int .u8 (rd.toNat:Int)] 138)).trans j9;clear b8 j4 j9 cA;go_wp2;go_roundw;(case rel=>exact⟨k+1,got,by omega,by go_num,by have:=HGL.out;have:=HXL.out;omega,Ai,B0 (by rw[IE.out];simp),Di⟩);case measure=>exact QH);·replace hf:Gs.isFix (ra,rb,rc,rd)=false:=KE;have HX:=B0 (λw=>MU (ra,rb,rc,rd) w);have e0:((ra,rb,rc,rd).2.1==(ra,rb,rc,rd).2.2.1)=false:=hf;rw[e0]at HX;rw[hf]at IE;clear hf e0;by_cases Sq:k+1=N;(·have hkn:¬((k:Int)<(N:Int)-1):=C0;have aGG:(N:Int)-1<=(k:Int):=C0;go_wp2_with fail;refine Kb.out.mono ?_;rintro e w3 ⟨rfl,j4⟩;dsimp only[B7,ZI,Option.isSome];go_wp2_with fail;refine(HX.out _).mono ?_;rintro e w4 ⟨rfl,j9⟩;have Ai:=((b8.ext j4).ext ((Ext.refl w3).alloc _)).ext j9;have Di:=((o7.trans j4).alloc (.cells #[.int .i64 ra,.int .i64 rb,.int .i64 rc,.int .u8 (rd.toNat:Int)] 138)).trans j9;clear b8 j4 j9 cA;go_wp2;go_roundw;(case rel=>exact⟨k+1,got,by omega,by go_num,by have:=HGL.out;have:=HXL.out;omega,Ai,B0 (by rw[IE.out];simp[Sq]),Di⟩);case measure=>exact QH);·have hkn:(k:Int)<(N:Int)-1:=C0;go_wp2_with fail;refine Kb.out.mono ?_;rintro e w3 ⟨rfl,j4⟩;dsimp only[B7,ZI,Option.isSome];go_wp2_with fail;refine(HX.out _).mono ?_;rintro e w4 ⟨rfl,j9⟩;have Ai:=((b8.ext j4).ext ((Ext.refl w3).alloc _)).ext j9;have Di:=((o7.trans j4).alloc (.cells #[.int .i64 ra,.int .i64 rb,.int .i64 rc,.int .u8 (rd.toNat:Int)] 138)).trans j9;clear b8 j4 j9 cA;go_wp2_with (at_builtin;go_loud (refine ZF rfl _ _ rfl V.heap.size _ got rfl (Ai.ext ((Ext.refl w4).alloc _)) _ 256 rfl ?_ C0 ?_ ?_));(·exact V2);(·have:=Di.size;exact X0);intro v5 w5 l6 j6 _;have j5:Ext V w5:=(Di.alloc _).l8 j6 Ai.low;clear Ai j6;go_wp2;go_roundw;(case rel=>exact⟨k+1,got++[256],by omega,by go_num,by have:=HGL.out;have:=HXL.out;rw[S0];simp;omega,by rw[R2];exact l6,B0 (by rw[IE.out];simp[Sq]),j5⟩);case measure=>exact QH);·obtain rfl:k=N:=C0;have Fl:Hid (256::Gs.chG xs=acc):=B0 fI;rw[Fl.out]at HR;clear hk hlt Sd;by_cases Pn:4096<acc.length;(·rw[G0 Pn]at HR;go_wp2;go_ret2;rw[HR.out];exact YD.err _ (n8.trans hx));·rw[D0 Pn]at HR;have Ni:acc.length<=4096:=C0;clear Pn;exact fJ
 .rw[G0 hz]at HR;obtain⟨z,Hc⟩:∃z,Gs.verAll xs=z:=⟨_,rfl⟩;rw[Hc]at Eo HR hz;have p8:(z==0)=false:=SF;clear Hc Lx;go_enter func68,ntmps68;go_wp2_with fail;refine HI.out.mono ?_;rintro e W ⟨b,rfl,hd,hb,Fa⟩;have H1:=B0 (Eo.out W b hd Fa);clear hd Eo HI;go_wp2_with fail;refine H1.out.mono ?_;rintro e V ⟨rfl,Nl⟩;go_wp2;go_ret2;rw[HR.out];exact YD.err _ (Fa.trans Nl)
end
section
namespace Cs
def dat(c:Int)(set:Nat):Int:=
 if c=256 then 102 else if c=257 then 97 else if c=258 then 96 else if c=259 then 101-set
 else if 32<=c/\c<=95 then c-32 else if 0<=c/\c<32/\set=0 then c+64 else if 96<=c/\c<=127/\set=1 then c-32 else-1
def dat_all:(List.range 260).all (λn=>(decide (127<n)&&decide (n<256)) || ([0,1].all λs=>decide (own n (s+2)=if 0<=dat n s then some (dat n s)else none)&&decide (-1<=dat n s)&&decide (dat n s<=102)&&decide (dat n s≠98)&&decide (dat n s≠99)&&
 (decide ((valOf n (s+2)).isSome=false) || decide (valOf n (s+2)=some (dat n s)))&&(decide (0<=dat n s) || (decide ((valOf n (3-s)).isSome=true)))&&decide (dat n s≠100+s)&&(decide ((n:Int)≠256) || decide (dat n s=102))&&decide ((n:Int)=256\/dat n s≠102)))=true:=by decide+kernel
def dat_is{c:Int}(h:Ab c){s:Nat}(hs:s<2):own c (s+2)=(if 0<=dat c s then some (dat c s)else none)/\-1<=dat c s/\dat c s<=102/\dat c s≠98/\dat c s≠99/\((valOf c (s+2)).isSome=true->valOf c (s+2)=some (dat c s))/\(dat c s<0->(valOf c (3-s)).isSome=true)/\dat c s≠100+s:=by
 obtain⟨n,rfl⟩:∃n:Nat,c=(n:Int):=⟨c.toNat,by unfold Ab at h;omega⟩;have h1:=M1.1 dat_all n (P5.2 FC);have h2:(decide (127<n)&&decide (n<256))=false:=FD;rw[h2,WJ]at h1;have h3:=M1.1 h1 s J3;simp only[P1,I8,G2]at h3;obtain⟨⟨⟨⟨⟨⟨⟨⟨⟨g1,g2⟩,g3⟩,g4⟩,g5⟩,g6⟩,g7⟩,g8⟩,_⟩,_⟩:=h3;refine⟨g1,g2,g3,g4,g5,λh=> ?_,λh=> ?_,g8⟩;·rcases g6 with g6|g6;(·rw[g6]at h;cases h);·exact g6
 .rcases g7 with g7|g7;(·omega);·exact g7
def l5(cs:List Int)(i s:Nat):Nat:=
 if s=0 then Br (cs.getD i 0) 2 (least (cs.drop (i+1))).1 else if s=1 then Br (cs.getD i 0) 3 (least (cs.drop (i+1))).2.1
 else Fy (cs.getD i 0) (IM cs i).isSome (least (cs.drop (i+1))).2.2 (if i+1<cs.length then(least (cs.drop (i+2))).2.2 else 0)
def Any(cs:List Int)(i s:Nat):Nat:=if s=0 then(least (cs.drop i)).1 else if s=1 then(least (cs.drop i)).2.1 else(least (cs.drop i)).2.2
def rbest(cs:List Int)(i set:Nat):Int:=
 if l5 cs i set=Any cs i set then(if set=2/\cs.getD i 0=256 then 102 else if set=2 then 10*(cs.getD i 0-48)+cs.getD (i+1) 0-48 else if 0<=dat (cs.getD i 0) set then dat (cs.getD i 0) set else 98)else 200
def Lm(cs:List Int)(i set:Nat)(b:Int)(t:Nat):Int:=if t≠set/\1+l5 cs i t=Any cs i set then min b (101-t)else b
def IN(cs:List Int)(i set:Nat):Int:=Lm cs i set (Lm cs i set (Lm cs i set (rbest cs i set) 0) 1) 2
def rgo(cs:List Int):Nat->Nat->Nat->List Int
 |0,_,_=>[]
 |f+1,i,set=>if i<cs.length then
  (
   if set<2/\IN cs i set=98 then 98::dat (cs.getD i 0) (1-set)::rgo cs f (i+1) set
   else if set=2/\IN cs i set<=99 then IN cs i set::rgo cs f (i+2) set
   else if(99<=IN cs i set/\IN cs i set<=101/\IN cs i set≠dat (cs.getD i 0) (min set 1))\/(set=2/\IN cs i set≠102)then IN cs i set::rgo cs f i (101-IN cs i set).toNat
   else IN cs i set::rgo cs f (i+1) set)
  else []
def Ti(cs:List Int):Nat:=
 let a:=if l5 cs 0 1<l5 cs 0 0 then 1 else 0
 if l5 cs 0 2<l5 cs 0 a then 2 else a
def pick_least(T:Tab)(fr:Nd):∀(l:List Mv)(b:Option Mv)(x:Mv),l.foldl (λb m=>if takes T fr b m then some m else b) b=some x->
 (∀y,b=some y->x.1<=y.1)/\∀m∈l,Good T fr m->x.1<=m.1
 | [],b,x,h=>by refine⟨λy hy=> ?_,λm hm=>by cases hm⟩;rw[B6,hy]at h;injection h with h;rw[h];exact Int.le_refl _
 |m::l,b,x,h=>by
  rw[N3]at h;obtain⟨h1,h2⟩:=pick_least T fr l _ x h;by_cases ht:takes T fr b m=true;(·rw[G0 ht]at h1;have h3:=h1 m rfl;refine⟨λy hy=> ?_,λz hz hg=> ?_⟩;(·subst hy;obtain⟨r,hr,hk⟩:=aEf ht;unfold takes at ht;rw[hr]at ht;dsimp only at ht;rw[P1]at ht;have:=D4 ht.2;omega);·rcases E2.1 hz with rfl|hz;(·exact h3);·exact h2 z hz hg)
  .rw[D0 ht]at h1;refine⟨h1,λz hz hg=> ?_⟩;rcases E2.1 hz with rfl|hz
   .cases b with
    |none=>exact absurd (aEe hg) ht
    |some y=>have h3:=h1 y rfl;obtain⟨r,hr,hk⟩:=hg;unfold takes at ht;rw[hr]at ht;dsimp only at ht;rw[P1]at ht;have:¬z.1<y.1:=λh4=>ht ⟨C1 hk,C1 h4⟩;omega
   .exact h2 z hz hg
def aCr{T:Tab}{fr:Nd}{l:List Mv}{x:Mv}(h:pick T fr l=some x):∀m∈l,Good T fr m->x.1<=m.1:=(pick_least T fr l none x h).2
def good_of{T:Tab}{fr nd:Nd}{v:Int}{r k:Nat}(hf:T fr=some k)(hn:T nd=some r):Good T fr (v,nd)↔r+1=k:=by
 constructor;·rintro⟨r',h1,h2⟩;dsimp only at h1;rw[hn]at h1;injection h1 with h1;rw[hf]at h2;have h2:r'+1=k:=h2;omega
 .intro h;exact⟨r,hn,by rw[hf];exact h⟩
def any_eq{cs:List Int}{i:Nat}(hi:i<cs.length):Any cs i 0=min (l5 cs i 0) (min (l5 cs i 1+1) (l5 cs i 2+1))/\Any cs i 1=min (l5 cs i 1) (min (l5 cs i 0+1) (l5 cs i 2+1))/\Any cs i 2=min (l5 cs i 2) (min (l5 cs i 0+1) (l5 cs i 1+1)):=by unfold Any;rw[least_at hi];exact⟨rfl,rfl,rfl⟩
def aEY(cs:List Int)(i:Nat):IN cs i 0=(let b:=if l5 cs i 0=Any cs i 0 then(if 0<=dat (cs.getD i 0) 0 then dat (cs.getD i 0) 0 else 98)else 200
 let b1:=if 1+l5 cs i 1=Any cs i 0 then min b 100 else b
 if 1+l5 cs i 2=Any cs i 0 then min b1 99 else b1):=by
 unfold IN Lm rbest;simp
def aEZ(cs:List Int)(i:Nat):IN cs i 1=(let b:=if l5 cs i 1=Any cs i 1 then(if 0<=dat (cs.getD i 0) 1 then dat (cs.getD i 0) 1 else 98)else 200
 let b1:=if 1+l5 cs i 0=Any cs i 1 then min b 101 else b
 if 1+l5 cs i 2=Any cs i 1 then min b1 99 else b1):=by
 unfold IN Lm rbest;simp
def aE0(cs:List Int)(i:Nat):IN cs i 2=(let b:=if l5 cs i 2=Any cs i 2 then(if cs.getD i 0=256 then 102 else 10*(cs.getD i 0-48)+cs.getD (i+1) 0-48)else 200
 let b1:=if 1+l5 cs i 0=Any cs i 2 then min b 101 else b
 if 1+l5 cs i 1=Any cs i 2 then min b1 100 else b1):=by
 unfold IN Lm rbest;simp
structure At (cs:List Int) (T:Tab) (i n2 n3 n4:Nat):Prop where
 a0:T (i,2)=some (Any cs i 0)
 a1:T (i,3)=some (Any cs i 1)
 a2:T (i,4)=some (Any cs i 2)
 m2:T (i+1,2)=some n2
 m3:T (i+1,3)=some n3
 m4:T (i+1,4)=some n4
 s0:T (i,0)=q (valOf (cs.getD i 0) 2) (some n3)
 s1:T (i,1)=q (valOf (cs.getD i 0) 3) (some n2)
 u0:l5 cs i 0=Br (cs.getD i 0) 2 n2
 u1:l5 cs i 1=Br (cs.getD i 0) 3 n3
def at_of{cs:List Int}{T:Tab}(F:Full cs T 0){i:Nat}(hi:i<cs.length):At cs T i (least (cs.drop (i+1))).1 (least (cs.drop (i+1))).2.1 (least (cs.drop (i+1))).2.2:=
 ⟨F.Tj i C0 C0,F.Tk i C0 C0,F.Mt i C0 C0,F.Tj (i+1) C0 C0,F.Tk (i+1) C0 C0,F.Mt (i+1) C0 C0,F.sh0 i C0 hi,F.sh1 i C0 hi,rfl,rfl⟩
def any_iff{a b c A B:Nat}(h1:A=min a (min (b+1) (c+1)))(h2:B=min b (min (a+1) (c+1))):B+1=A↔1+b=A:=by omega
def least_val{d x y z:Int}{P Q R:Prop} [Decidable P] [Decidable Q] [Decidable R](hx:P->z<=x)(hy:Q->z<=y)(hd:R->z<=d)(h:(z=x/\P)\/(z=y/\Q)\/(z=d/\R))(hb:z<=200):
 z=(if P then min (if Q then min (if R then d else 200) y else(if R then d else 200)) x else(if Q then min (if R then d else 200) y else(if R then d else 200))):=by
 by_cases p:P<;>by_cases q:Q<;>by_cases r:R<;>simp only[p,q,r,M3,E4,true_implies,false_implies,W5,and_false,F4,false_or]at hx hy hd h⊢<;>omega
def choice0{cs:List Int}{T:Tab}{i n2 n3 n4:Nat}(H:At cs T i n2 n3 n4)(hc:∀c∈cs,Ab c)(hi:i<cs.length){m:Mv}(hp:pick T (i,2) (Au cs i 2)=some m)(hm:m∈Au cs i 2)(hg:Good T (i,2) m):
 m.1=IN cs i 0/\((m=(98,i,1)/\dat (cs.getD i 0) 0<0)\/m=(99,i,4)\/m=(100,i,3)\/(m=(dat (cs.getD i 0) 0,i+1,2)/\0<=dat (cs.getD i 0) 0)):=by
 obtain⟨d1,d2,d3,d4,d5,d6,d7,d8⟩:=dat_is (Xl hc hi) (s:=0) C0;obtain⟨a1,a2,a3⟩:=any_eq hi;obtain⟨Dr,Bu,IB,Cl,Ss,Vz,IC,s5,u0,u1⟩:=H;have Jq:=aCr hp;have e:Au cs i 2=[((98:Int),i,1),(99,i,4),(100,i,3)]++one (own (cs.getD i 0) 2) (i+1,2):=rfl;rw[aEY];unfold Br at u0;have hR:=any_iff (a:=l5 cs i 0) (b:=l5 cs i 2) (c:=l5 cs i 1) (A:=Any cs i 0) (B:=Any cs i 2) C0 C0;have hQ:=any_iff (a:=l5 cs i 0) (b:=l5 cs i 1) (c:=l5 cs i 2) (A:=Any cs i 0) (B:=Any cs i 1) C0 C0;have g99:=(good_of (v:=99) Dr IB).trans hR;have aAM:=(good_of (v:=100) Dr Bu).trans hQ;have n99:=λh=>Jq (99,i,4) XM (g99.2 h)
 have n100:=λh=>Jq (100,i,3) XM (aAM.2 h)
 have hle:Any cs i 0<=l5 cs i 0:=by omega
 clear a1 a2 a3 hR hQ;replace d1:own (cs.getD i 0) 2=if 0<=dat (cs.getD i 0) 0 then some (dat (cs.getD i 0) 0)else none:=d1;rw[e]at hm;by_cases h0:0<=dat (cs.getD i 0) 0
 .rw[G0 h0]at d1;rw[d1]at u0 hm;have u0:l5 cs i 0=n2+1:=u0;have gd:Good T (i,2) (dat (cs.getD i 0) 0,i+1,2)↔l5 cs i 0=Any cs i 0:=(by rw[u0];exact good_of Dr Cl);have nd:=λh=>Jq (dat (cs.getD i 0) 0,i+1,2) (by rw[e,d1];simp[one]) (gd.2 h);(have aEA:¬Good T (i,2) (98,i,1):=λh=>by obtain⟨r,h1,h2⟩:=h;dsimp only at h1;rw[s5]at h1;obtain⟨_,h4⟩:=aBp h1;rw[Dr]at h2;have h2:r+1=Any cs i 0:=h2;omega);exact fY
 .rw[D0 h0]at d1;rw[d1]at u0 hm;have u0:l5 cs i 0=n2+2:=u0;have Oa:T (i,1)=some (n2+1):=(by rw[s5];exact aBo (d7 C0));have gd:Good T (i,2) (98,i,1)↔l5 cs i 0=Any cs i 0:=(by rw[u0];exact good_of Dr Oa);have nd:=λh=>Jq (98,i,1) XM (gd.2 h);exact fZ
def choice1{cs:List Int}{T:Tab}{i n2 n3 n4:Nat}(H:At cs T i n2 n3 n4)(hc:∀c∈cs,Ab c)(hi:i<cs.length){m:Mv}(hp:pick T (i,3) (Au cs i 3)=some m)(hm:m∈Au cs i 3)(hg:Good T (i,3) m):
 m.1=IN cs i 1/\((m=(98,i,0)/\dat (cs.getD i 0) 1<0)\/m=(99,i,4)\/m=(101,i,2)\/(m=(dat (cs.getD i 0) 1,i+1,3)/\0<=dat (cs.getD i 0) 1)):=by
 obtain⟨d1,d2,d3,d4,d5,d6,d7,d8⟩:=dat_is (Xl hc hi) (s:=1) C0;obtain⟨a1,a2,a3⟩:=any_eq hi;obtain⟨Dr,Bu,IB,Cl,Ss,Vz,IC,s5,u0,u1⟩:=H;have Jq:=aCr hp;have e:Au cs i 3=[((98:Int),i,0),(99,i,4),(101,i,2)]++one (own (cs.getD i 0) 3) (i+1,3):=rfl;rw[aEZ];unfold Br at u1;have hR:=any_iff (a:=l5 cs i 1) (b:=l5 cs i 2) (c:=l5 cs i 0) (A:=Any cs i 1) (B:=Any cs i 2) C0 C0;have hQ:=any_iff (a:=l5 cs i 1) (b:=l5 cs i 0) (c:=l5 cs i 2) (A:=Any cs i 1) (B:=Any cs i 0) C0 C0;have g99:=(good_of (v:=99) Bu IB).trans hR;have aAM:=(good_of (v:=101) Bu Dr).trans hQ;have n99:=λh=>Jq (99,i,4) XM (g99.2 h)
 have n100:=λh=>Jq (101,i,2) XM (aAM.2 h)
 have hle:Any cs i 1<=l5 cs i 1:=by omega
 clear a1 a2 a3 hR hQ;replace d1:own (cs.getD i 0) 3=if 0<=dat (cs.getD i 0) 1 then some (dat (cs.getD i 0) 1)else none:=d1;rw[e]at hm;by_cases h0:0<=dat (cs.getD i 0) 1
 .rw[G0 h0]at d1;rw[d1]at u1 hm;have u1:l5 cs i 1=n3+1:=u1;have gd:Good T (i,3) (dat (cs.getD i 0) 1,i+1,3)↔l5 cs i 1=Any cs i 1:=(by rw[u1];exact good_of Bu Ss);have nd:=λh=>Jq (dat (cs.getD i 0) 1,i+1,3) (by rw[e,d1];simp[one]) (gd.2 h);(have aEA:¬Good T (i,3) (98,i,0):=λh=>by obtain⟨r,h1,h2⟩:=h;dsimp only at h1;rw[IC]at h1;obtain⟨_,h4⟩:=aBp h1;rw[Bu]at h2;have h2:r+1=Any cs i 1:=h2;omega);exact fY
 .rw[D0 h0]at d1;rw[d1]at u1 hm;have u1:l5 cs i 1=n3+2:=u1;have Oa:T (i,0)=some (n3+1):=(by rw[IC];exact aBo (d7 C0));have gd:Good T (i,3) (98,i,0)↔l5 cs i 1=Any cs i 1:=(by rw[u1];exact good_of Bu Oa);have nd:=λh=>Jq (98,i,0) XM (gd.2 h);exact fZ
def pairV_is{a b z:Int}(h:No a b=some z):z=10*(a-48)+b-48/\z<=99/\a≠256/\dig a=true:=by
 unfold No at h;split at h;·rename_i h2;have h3:=h2;simp only[dig,P1,G2]at h2;rw[P1]at h3;injection h with h;exact⟨h.symm,by omega,by omega,h3.1⟩
 .cases h
def aCp{cs:List Int}{i:Nat}{z:Int}(h:IM cs i=some z):i+1<cs.length/\z=10*(cs.getD i 0-48)+cs.getD (i+1) 0-48/\z<=99/\cs.getD i 0≠256/\dig (cs.getD i 0)=true:=by
 unfold IM at h;split at h;·rename_i h2;exact⟨h2,pairV_is h⟩
 .cases h
def own4{c:Int}(h:Ab c):own c 4=if c=256 then some 102 else none:=by
 unfold own fnOf valOf;by_cases h6:c=256;·subst h6;rfl
 .rw[D0 h6,D0 h6];split;(·rfl);·exact FF
def choice2{cs:List Int}{T:Tab}(F:Full cs T 0){i n2 n3 n4:Nat}(H:At cs T i n2 n3 n4)(Ha:n4=(least (cs.drop (i+1))).2.2)(hc:∀c∈cs,Ab c)(hl:cs.length<=4096)(hi:i<cs.length){m:Mv}(hp:pick T (i,4) (Au cs i 4)=some m)(hm:m∈Au cs i 4)(hg:Good T (i,4) m):
 m.1=IN cs i 2/\(m=(100,i,3)\/m=(101,i,2)\/m=(102,i+1,4)\/∃z,m=(z,i+2,4)/\z<=99):=by
 obtain⟨a1,a2,a3⟩:=any_eq hi;have hb:=least_le (cs.drop i);have Ce:(cs.drop i).length<=4096:=by rw[X1];omega
 have aJE:Any cs i 2<=20000:=qF;obtain⟨Dr,Bu,IB,Cl,Ss,Vz,IC,s5,u0,u1⟩:=H;have Jq:=aCr hp;have e:Au cs i 4=([((100:Int),i,3),(101,i,2)]++one (IM cs i) (i+2,4))++one (own (cs.getD i 0) 4) (i+1,4):=rfl;rw[aE0];have hR:=any_iff (a:=l5 cs i 2) (b:=l5 cs i 1) (c:=l5 cs i 0) (A:=Any cs i 2) (B:=Any cs i 1) C0 C0;have hQ:=any_iff (a:=l5 cs i 2) (b:=l5 cs i 0) (c:=l5 cs i 1) (A:=Any cs i 2) (B:=Any cs i 0) C0 C0;have g99:=(good_of (v:=100) IB Bu).trans hR;have aAM:=(good_of (v:=101) IB Dr).trans hQ;have n99:=λh=>Jq (100,i,3) XM (g99.2 h)
 have n100:=λh=>Jq (101,i,2) XM (aAM.2 h)
 clear a1 a2 a3 hR hQ;have u2:l5 cs i 2=Fy (cs.getD i 0) (IM cs i).isSome n4 (if i+1<cs.length then(least (cs.drop (i+2))).2.2 else 0):=by rw[Ha];rfl
 have ho:=own4 (Xl hc hi);rw[e]at hm;by_cases h6:cs.getD i 0=256
 .rw[G0 h6]at ho;have hpn:IM cs i=none:=by
   cases h:IM cs i with
   |none=>rfl
   |some z=>exact absurd h6 (aCp h).2.2.2.1
  unfold Fy at u2;rw[G0 h6]at u2;rw[ho,hpn]at hm;have gd:Good T (i,4) (102,i+1,4)↔l5 cs i 2=Any cs i 2:=(by rw[u2];exact good_of IB Vz);have nd:=λh=>Jq (102,i+1,4) (by rw[e,ho,hpn];simp[one]) (gd.2 h);simp only[one,C3,G4,E2,J4,F4]at hm;dsimp only at n99 n100 nd⊢;rw[G0 h6];rcases hm with rfl|rfl|rfl;(·exact qG);(·exact qH);·exact⟨least_val n99 n100 nd (.inr (.inr ⟨rfl,gd.1 hg⟩)) P3,.inr (.inr (.inl rfl))⟩
 .rw[D0 h6]at ho
  unfold Fy at u2
  rw[D0 h6]at u2
  cases Oi:IM cs i with
  |none=>rw[Oi]at u2 hm;rw[ho]at hm;have u2:l5 cs i 2=Pa:=u2;have hf:3000000<=Pa:=OX;have Bz:¬l5 cs i 2=Any cs i 2:=C0;have nd:l5 cs i 2=Any cs i 2->m.1<=10*(cs.getD i 0-48)+cs.getD (i+1) 0-48:=λh=>absurd h Bz;simp only[one,A3,E2,J4,F4]at hm;dsimp only at n99 n100 nd⊢;rw[D0 h6];rcases hm with rfl|rfl;(·exact qG);·exact qH
  |some z=>obtain⟨So,hz,hz9,_,_⟩:=aCp Oi;rw[Oi]at u2 hm;rw[ho]at hm;have u2:l5 cs i 2=(if i+1<cs.length then(least (cs.drop (i+2))).2.2 else 0)+1:=u2;rw[G0 So]at u2;have gd:Good T (i,4) (z,i+2,4)↔l5 cs i 2=Any cs i 2:=(by rw[u2];exact good_of IB (F.Mt (i+2) C0 C0));have nd:=λh=>Jq (z,i+2,4) (by rw[e,ho,Oi];simp[one]) (gd.2 h);simp only[one,C3,G4,A3,E2,J4,F4]at hm;dsimp only at n99 n100 nd⊢;rw[D0 h6,<-hz];rcases hm with rfl|rfl|rfl;(·exact qG);(·exact qH);·exact⟨least_val n99 n100 nd (.inr (.inr ⟨rfl,gd.1 hg⟩)) P3,.inr (.inr (.inr ⟨z,rfl,hz9⟩))⟩
def path_one{cs:List Int}(hc:∀c∈cs,Ab c)(hl:cs.length<=4096){i s k:Nat}(hi:i<cs.length)(hs:s<=4)(h:table cs (i,s)=some k):
 ∃m k',pick (table cs) (i,s) (Au cs i s)=some m/\m∈Au cs i s/\Good (table cs) (i,s) m/\k=k'+1/\table cs m.2=some k'/\path cs (table cs) k (i,s)=m.1::path cs (table cs) k' m.2:=by
 have F:=aA9 cs hc hl;obtain⟨m0,Km,r0,Ey,IZ⟩:=consistent F hc hl hi hs h;obtain⟨m,hp,hm,r,hr,Aa⟩:=aCq (T:=table cs) (fr:=(i,s)) ⟨m0,Km,r0,Ey,by rw[h];exact IZ⟩;have aFs:Good (table cs) (i,s) m:=⟨r,hr,Aa⟩;rw[h]at Aa;have Aa:r+1=k:=Aa;subst Aa;refine⟨m,r,hp,hm,aFs,rfl,hr,?_⟩;show(if i<cs.length then match pick (table cs) (i,s) (Au cs i s)with
  |none=>[]
  |some m=>m.1::path cs (table cs) r m.2 else [])=_
 rw[G0 hi,hp]
def path_rgo{cs:List Int}(hc:∀c∈cs,Ab c)(hl:cs.length<=4096):∀(k f i set:Nat),set<=2->i<=cs.length->table cs (i,set+2)=some k->k<=f->path cs (table cs) k (i,set+2)=rgo cs f i set:=by
 have F:=aA9 cs hc hl;intro k
 induction k using Nat.strongRecOn with
 |_ k ih=>
  intro f i set hset hi hk hf;rcases H5 i cs.length with hlt|hge;(·obtain⟨m,k',hp,hm,hg,Ah,Ng,aBJ⟩:=path_one hc hl hlt C0 hk;obtain⟨f',rfl⟩:∃f',f=f'+1:=⟨f-1,by omega⟩;have H:=at_of F hlt;have Eg:=Xl hc hlt;rw[aBJ,rgo,G0 hlt];have aCb:set=0\/set=1\/set=2:=C0;rcases aCb with rfl|rfl|rfl;(·obtain⟨hv,Ob⟩:=choice0 H hc hlt hp hm hg;obtain⟨d1,d2,d3,d4,d5,d6,d7,d8⟩:=dat_is Eg (s:=0) C0;rw[<-hv];rcases Ob with⟨rfl,hd⟩|rfl|rfl|⟨rfl,hd⟩;(·rw[G0 ⟨by omega,rfl⟩];obtain⟨m2,k2,Oh,Cl,Cw,aGF,Dy,aBK⟩:=path_one hc hl hlt C0 Ng;obtain⟨x1,x2⟩:=mem_one (v:=valOf (cs.getD i 0) 3) (nd:=(i+1,2)) Cl;have x3:=(dat_is Eg (s:=1) C0).2.2.2.2.2.1 (by rw[show(1+2:Nat)=3 from rfl,x2];rfl);rw[show(1+2:Nat)=3 from rfl,x2]at x3;injection x3 with x3;obtain⟨y,nd⟩:=m2;dsimp only at x1 x3 Dy aBK;subst x1 x3;dsimp only;rw[aBK,ih k2 C0 f' (i+1) 0 C0 C0 Dy C0]);(·rw[D0 C0,D0 C0,G0 (.inl ⟨by dsimp only;omega,by dsimp only;omega,by rw[show(min 0 1:Nat)=0 from rfl];dsimp only;omega⟩)];exact hH);(·rw[D0 C0,D0 C0,G0 (.inl ⟨by dsimp only;omega,by dsimp only;omega,by rw[show(min 0 1:Nat)=0 from rfl];dsimp only;omega⟩)];exact iA);·rw[D0 P3,D0 C0,D0 iB];dsimp only;rw[ih k' C0 f' (i+1) 0 C0 C0 Ng C0]);(·obtain⟨hv,Ob⟩:=choice1 H hc hlt hp hm hg;obtain⟨d1,d2,d3,d4,d5,d6,d7,d8⟩:=dat_is Eg (s:=1) C0;rw[<-hv];rcases Ob with⟨rfl,hd⟩|rfl|rfl|⟨rfl,hd⟩;(·rw[G0 ⟨by omega,rfl⟩];obtain⟨m2,k2,Oh,Cl,Cw,aGF,Dy,aBK⟩:=path_one hc hl hlt C0 Ng;obtain⟨x1,x2⟩:=mem_one (v:=valOf (cs.getD i 0) 2) (nd:=(i+1,3)) Cl;have x3:=(dat_is Eg (s:=0) C0).2.2.2.2.2.1 (by rw[show(0+2:Nat)=2 from rfl,x2];rfl);rw[show(0+2:Nat)=2 from rfl,x2]at x3;injection x3 with x3;obtain⟨y,nd⟩:=m2;dsimp only at x1 x3 Dy aBK;subst x1 x3;dsimp only;rw[aBK,ih k2 C0 f' (i+1) 1 C0 C0 Dy C0]);(·rw[D0 C0,D0 C0,G0 (.inl ⟨by dsimp only;omega,by dsimp only;omega,by rw[show(min 1 1:Nat)=1 from rfl];dsimp only;omega⟩)];exact hH);(·rw[D0 C0,D0 C0,G0 (.inl ⟨by dsimp only;omega,by dsimp only;omega,by rw[show(min 1 1:Nat)=1 from rfl];dsimp only;omega⟩)];exact iC);·rw[D0 P3,D0 C0,D0 iB];dsimp only;rw[ih k' C0 f' (i+1) 1 C0 C0 Ng C0]);·obtain⟨hv,Ob⟩:=choice2 F H rfl hc hl hlt hp hm hg;rw[<-hv];rcases Ob with rfl|rfl|rfl|⟨z,rfl,hz⟩;(·rw[D0 C0,D0 P3,G0 (.inr ⟨rfl,by dsimp only;omega⟩)];exact iA);(·rw[D0 C0,D0 P3,G0 (.inr ⟨rfl,by dsimp only;omega⟩)];exact iC);(·rw[D0 C0,D0 P3,D0 P3];dsimp only;rw[ih k' C0 f' (i+1) 2 C0 C0 Ng C0]);·have M:=(move_ok hc hlt C0 hm).end_;dsimp only at M;rw[D0 C0,G0 ⟨rfl,by dsimp only;omega⟩];dsimp only;rw[ih k' C0 f' (i+2) 2 C0 M Ng C0])
  .obtain rfl:i=cs.length:=by omega
   have Ew:k=0:=by have aCb:set=0\/set=1\/set=2:=C0;rcases aCb with rfl|rfl|rfl;(·rw[F.Tj _ C0 C0,C6]at hk;exact qI);(·rw[F.Tk _ C0 C0,C6]at hk;exact qI);·rw[F.Mt _ C0 C0,C6]at hk;exact qI
   subst Ew
   cases f with
   |zero=>rfl
   |succ f=>rw[rgo,D0 C0];rfl
def body_ref{cs:List Int}(hc:∀c∈cs,Ab c)(hl:cs.length<=4096)(h0:cs≠ []){f:Nat}(hf:3*cs.length<=f):body cs=((Ti cs:Int)+103)::rgo cs f 0 (Ti cs):=by
 have F:=aA9 cs hc hl;have hlt:0<cs.length:=D8.2 h0;have H:=at_of F hlt;obtain⟨a1,a2,a3⟩:=any_eq hlt;have hle:=least_le (cs.drop 0);rw[B5]at hle;have p9:Pw (table cs)=Ti cs+2:=by unfold Pw Ti;rw[H.a0,H.a1,H.a2];dsimp only[Option.getD_some];by_cases p1:Any cs 0 1<Any cs 0 0<;>by_cases c1:l5 cs 0 1<l5 cs 0 0;(·rw[G0 p1,G0 c1,H.a1];exact qJ);(·exfalso;omega);(·rw[D0 p1,G0 c1,H.a0];exact qJ);·rw[D0 p1,D0 c1,H.a0];exact qJ
 have Ui:Ti cs=0\/Ti cs=1\/Ti cs=2:=by unfold Ti;dsimp only;split<;>split<;>simp
 obtain⟨k,hk,Jb⟩:∃k,table cs (0,Ti cs+2)=some k/\k<=3*cs.length:=by rcases Ui with h|h|h<;>rw[h];(·exact vN);(·exact vO);·exact vP
 unfold body;rw[p9,hk];dsimp only[Option.getD_some];rw[path_rgo hc hl k f 0 (Ti cs) C0 C0 hk C0];congr 1
end Cs
end
end Go.Proofs.Enc
