/-
  Laid together.
-/
import Derived.Test.YtbngggoccndefaaGreatDoorDd13
set_option maxHeartbeats 16000000
set_option maxRecDepth 100000
set_option linter.unusedVariables false
set_option linter.unusedSimpArgs false
set_option linter.ambiguousOpen false
namespace Go.Proofs.YtbngggoccndefaaGreatDoor
open Go.Proofs.Tryz
section
open Go.RowKit
theorem bl1 (a b:UInt8):Op.bytesLess [a] [b]=decide (a<b):=by simp[Op.bytesLess]
theorem ZkO {a:ByteArray} {l:List UInt8} (h:a.data.toList=l):Ending.returned (.string a)=.returned (.string (Ea.bS l)):=by rw[<-h,Ea.bS_of]
theorem ZcU (s:ByteArray) (h8:s.size=8) (w:World):
 Calls prog 51 #[.string s] w fun e w'=>e=.returned (.string (Ea.bS (Ea.exp8 s.data.toList)))∧Ext w w':=by
 obtain⟨res,hres⟩:∃res,Ea.exp8 s.data.toList=res:=⟨_,rfl⟩
 rw[hres]
 obtain⟨a0,a1,a2,a3,a4,a5,a6,a7,hl⟩:=Ea.len8 (l:=s.data.toList) (by rw[Zb];exact h8)
 rw[hl]at hres
 have HR:=ZmE hres
 have HL:=ZmE hl
 clear hres hl
 go_enter func51,ntmps51
 go_wp2
 go_quiet (fail)
 obtain⟨N,hN⟩:∃N,s.extract 0 1=N:=⟨_,rfl⟩
 obtain⟨D,hD⟩:∃D,s.extract 1 7=D:=⟨_,rfl⟩
 obtain⟨C,hC⟩:∃C,s.extract 7 8=C:=⟨_,rfl⟩
 rw[hN,hD,hC]
 have HN:Hid (N.data.toList=[a0]):=ZmE (by rw[<-hN,Zs,HL.out];rfl)
 have HD:Hid (D.data.toList=[a1,a2,a3,a4,a5,a6]):=ZmE (by rw[<-hD,Zs,HL.out];rfl)
 have HC:Hid (C.data.toList=[a7]):=ZmE (by rw[<-hC,Zs,HL.out];rfl)
 have hDs:D.size=6:=by rw[Zc HD.out];rfl
 have hNs:N.size=1:=by rw[Zc HN.out];rfl
 have hCs:C.size=1:=by rw[Zc HC.out];rfl
 clear hN hD hC
 have HQ:Hid ((D.extract 5 6).toList=[a6]):=ZmE (by rw[Znk,Zs,HD.out];rfl)
 have HF:Hid (∀(x:ByteArray),x.data.toList=res->Ending.returned (.string x)=.returned (.string (Ea.bS res))):=ZmE (fun x hx=>ZkO hx)
 have h:a6.toNat<=50∨a6.toNat=51∨a6.toNat=52∨52<a6.toNat:=by omega
 have HE:Hid ((D.extract 5 6).data.toList=[a6]):=ZmE (by rw[Zs,HD.out];rfl)
 rcases h with h|h|h|h
 ·have q0:(Op.bytesLess (D.extract 5 6).toList [50] || (D.extract 5 6).toList== [50])=true:=(by rw[HQ.out,bl1,Zou,Zna,Znj,Zqd];have:(50:UInt8).toNat=50:=rfl;by_cases e:a6.toNat=50;(·exact .inr (by rw[show a6=50 from ZnJ.1 e]));·exact .inl QhN);have c1:a6<=50:=(by rw[Zpi];exact h);have HG:Hid ((N++D.extract 0 2++D.extract 5 6++⟨#[48,48,48,48]⟩++D.extract 2 5++C).data.toList=res):=ZmE (by rw[<-HR.out];simp only[Znt,Znw,HN.out,HC.out,HE.out,Zs,HD.out];unfold Ea.exp8 Ea.exp7;simp[c1]);exact QdL
 ·obtain rfl:a6=51:=ZnJ.1 h;have q0:(Op.bytesLess (D.extract 5 6).toList [50] || (D.extract 5 6).toList== [50])=false:=(by rw[HQ.out,bl1];rfl);have q1:((D.extract 5 6).toList== [51])=true:=(by rw[HQ.out];rfl);have HG:Hid ((N++D.extract 0 3++⟨#[48,48,48,48,48]⟩++D.extract 3 5++C).data.toList=res):=ZmE QiC;exact QdL
 ·obtain rfl:a6=52:=ZnJ.1 h;have q0:(Op.bytesLess (D.extract 5 6).toList [50] || (D.extract 5 6).toList== [50])=false:=(by rw[HQ.out,bl1];rfl);have q1:((D.extract 5 6).toList== [51])=false:=(by rw[HQ.out];rfl);have q2:((D.extract 5 6).toList== [52])=true:=(by rw[HQ.out];rfl);have HG:Hid ((N++D.extract 0 4++⟨#[48,48,48,48,48]⟩++D.extract 4 5++C).data.toList=res):=ZmE QiC;exact QdL
 ·have n50:¬a6<=50:=QfT;have n51:¬a6=51:=QfO;have n52:¬a6=52:=QfO;have q0:(Op.bytesLess (D.extract 5 6).toList [50] || (D.extract 5 6).toList== [50])=false:=(by rw[HQ.out,bl1,Zoz,Zow,ZmJ];refine⟨fun hh=>n50 (UInt8.le_of_lt hh),fun hh=>n50 ?_⟩;rw[show a6=50 by simpa using hh];exact UInt8.le_refl _);have q1:((D.extract 5 6).toList== [51])=false:=(by rw[HQ.out,ZmJ];simpa using n51);have q2:((D.extract 5 6).toList== [52])=false:=(by rw[HQ.out,ZmJ];simpa using n52);have HG:Hid ((N++D.extract 0 5++⟨#[48,48,48,48]⟩++D.extract 5 6++C).data.toList=res):=ZmE (by rw[<-HR.out];simp only[Znt,Znw,HN.out,HC.out,HE.out,Zs,HD.out];unfold Ea.exp8 Ea.exp7;simp[n50,n51,n52]);clear h n50 n51 n52;go_wp2;go_ret;exact⟨HF.out _ HG.out,Xf⟩
theorem ZhV {k:Int} {l:List UInt8} (h:Ea.digs l=true) (hk:(k=4∧l.length=8)∨(k≠4∧2<=l.length∧l.length<=4096)):
 Cd.verI 1 (if k=4 then Ea.exp8 l else l)=0↔Ea.good (if k=4 then Ea.exp8 l else l):=by
 rcases hk with⟨rfl,h8⟩|⟨hk,h2,h3⟩
 ·rw[ZmH rfl];exact Ea.ver_good (Ea.exp8_digs h) (by rw[Ea.exp8_len h8];omega) (by rw[Ea.exp8_len h8];omega)
 ·rw[ZmF hk];exact Ea.ver_good h h2 h3
theorem ZaG (k:Int) (s:ByteArray) (hd:Ea.digs s.data.toList=true) (hk:(k=4∧s.size=8)∨(k≠4∧2<=s.size∧s.size<=4096)) (w:World):
 Calls prog 50 #[.int .i64 k,.string s] w fun e w'=>e=.returned (.bool (decide (Ea.good (if k=4 then Ea.exp8 s.data.toList else s.data.toList))))∧Ext w w':=by
 have hi:=ZhV (k:=k) hd (by rw[Zb];exact hk)
 obtain⟨res,hres⟩:∃res,decide (Ea.good (if k=4 then Ea.exp8 s.data.toList else s.data.toList))=res:=⟨_,rfl⟩
 rw[hres]
 have HR:Hid ((Cd.verI 1 (if k=4 then Ea.exp8 s.data.toList else s.data.toList)==0)=res):=ZmE (by rw[<-hres,Zn7,Znj,Zna];exact hi)
 clear hres hi hd
 rcases hk with⟨rfl,h8⟩|⟨hk,h2,h3⟩
 ·rw[ZmH rfl]at HR;have HX:=ZmE (ZcU s h8);have hsz:(Ea.bS (Ea.exp8 s.data.toList)).size<=9223372036854775807:=(by rw[Zc (Ea.bS_list _),Ea.exp8_len (by rw[Zb];exact h8)];omega);have HV:=ZmE (fun w=>ZbG 1 (Ea.bS (Ea.exp8 s.data.toList)) w hsz);rw[Ea.bS_list]at HV;generalize Ea.exp8 s.data.toList=u at*;clear hsz;generalize Ea.bS u=U at*;go_enter func50,ntmps50;go_wp2_with fail;refine(HX.out _).mono ?_;rintro e w1 ⟨rfl,hx1⟩;go_wp2_with fail;refine(HV.out _).mono ?_;rintro e w2 ⟨rfl,hx2⟩;generalize Cd.verI 1 u=r at*;cases hb:r==0<;>rw[hb]at HR;(·go_wp2;go_ret;exact⟨Zi HR.out,hx1.trans hx2⟩);·go_wp2;go_ret;exact⟨Zi HR.out,hx1.trans hx2⟩
 ·rw[ZmF hk]at HR;have hkb:(k==4)=false:=ZmJ.2 hk;have HV:=ZmE (fun w=>ZbG 1 s w QhN);clear hk h2 h3;go_enter func50,ntmps50;go_wp2_with fail;refine(HV.out _).mono ?_;rintro e w2 ⟨rfl,hx2⟩;generalize Cd.verI 1 s.data.toList=r at*;cases hb:r==0<;>rw[hb]at HR;(·go_wp2;go_ret;exact⟨Zi HR.out,hx2⟩);·go_wp2;go_ret;exact⟨Zi HR.out,hx2⟩
def strE (r:List UInt8×Int):Value:=.tuple #[.string (Ea.bS r.1),.int .i64 r.2]
theorem ZiH (s:ByteArray) (h:0<s.size):s.data.toList.getD 0 0=s[0]:=Qbz
theorem Zgj (s:ByteArray) (h:0<s.size) (hd:Ea.digs s.data.toList=true):(s[0]==48 || s[0]==49)=decide (s.data.toList.getD 0 0<=49):=by
 have h1:=Ea.digs_iff.1 hd s[0] (Zj s 0 h);rw[ZiH s h];generalize s[0]=c at*;rw[Zn7,Zou,Znj,Znj,Zna,Zpi];constructor;·rintro(rfl|rfl)<;>decide
 ·intro h2;have h2:c.toNat<=49:=h2;have h3:c.toNat=48∨c.toNat=49:=QhN;rcases h3 with h3|h3;(·exact .inl (ZnJ.1 h3));·exact .inr (ZnJ.1 h3)
theorem ZcW (k:Int) (l:List UInt8):Ea.full k l=if Ea.size k=0 then 1 else if Ea.digs l=false then 6 else if l.length≠Ea.size k then 7 else if k=4∧¬l.getD 0 0<=49 then 9
 else if Ea.good (if k=4 then Ea.exp8 l else l)then 0 else 8:=by
 by_cases h1:Ea.size k=0
 ·rw[ZmH h1];unfold Ea.full Ea.comp;rw[ZmF (fun h=>h.1 h1),ZmH h1]
 ·rw[ZmF h1];by_cases h2:Ea.digs l=false;(·rw[ZmH h2];unfold Ea.full Ea.comp;rw[ZmF (fun h=>by rw[h2]at h;exact Bool.noConfusion h.2.1),ZmF h1,ZmH h2]);·rw[ZmF h2];have h2':Ea.digs l=true:=QfS;by_cases h3:l.length≠Ea.size k;(·rw[ZmH h3];unfold Ea.full;by_cases h4:l.length+1=Ea.size k;(·rw[ZmH ⟨h1,h2',h4⟩]);·rw[ZmF (fun h=>h4 h.2.2)];unfold Ea.comp;rw[ZmF h1,ZmF h2,ZmH ⟨h3,h4⟩]);·rw[ZmF h3];have h3':l.length=Ea.size k:=QhN;by_cases h4:k=4∧¬l.getD 0 0<=49;(·rw[ZmH h4];unfold Ea.full;rw[ZmF QhN];unfold Ea.comp;rw[ZmF h1,ZmF h2,ZmF QhN,ZmH ⟨h4.1,UInt8.not_le.1 h4.2⟩]);·rw[ZmF h4,Ea.full_zero h1 h2' h3' (fun e=>by by_cases e2:l.getD 0 0<=49;exact e2;exact absurd ⟨e,e2⟩ h4)];have hg:=Ea.good_of h1 h3';by_cases h5:Ea.good (if k=4 then Ea.exp8 l else l);(·rw[ZmH h5,ZmH (hg.2 h5)]);·rw[ZmF h5,ZmF (fun h=>h5 (hg.1 h))]
theorem Zc0 (l:List UInt8) (hd:Ea.digs l=true) (h1:1<=l.length) (h2:l.length<=4000):Cd.compI 1 l=([Ea.chk l],0):=by
 unfold Cd.compI;rw[ZmF QhN];show Cd.comp 1 l=_;unfold Cd.comp;rw[ZmF (fun e=>by rw[e]at h1;simp at h1),ZmF QhN,ZmF,ZmF];·rfl
 ·have:Cd.fits 1 (l.length+Cd.size 1)=true:=(by show decide (1<l.length+1)=true;rw[Zna];omega);rw[this];simp
 ·rw[Zpj];exact hd
theorem Zel (k:Int) (s:ByteArray) (hs:s.size<=9223372036854775807) (w:World):
 Calls prog 17 #[.int .i64 k,.string s] w fun e w'=>e=.returned (strE (Ea.comp k s.data.toList))∧Ext w w':=by
 have HX:=ZmE (Ea.comp.eq_1 k s.data.toList)
 have HD:=ZmE (Za0 s hs)
 have HZ:=ZmE (ZbU k)
 rw[Zb]at HX
 by_cases h1:Ea.size k=0
 ·rw[ZmH h1]at HX;rw[h1]at HZ;generalize Ea.comp k s.data.toList=res at*;clear h1;go_enter func17,ntmps17;go_wp2_with fail;refine(HZ.out _).mono ?_;exact QaO
 ·rw[ZmF h1]at HX;have hkk:=Ea.kinds h1;obtain⟨hn1,hn2⟩:8<=Ea.size k∧Ea.size k<=13:=Qfo;have hn4:k=4->Ea.size k=8:=(by rintro rfl;rfl);by_cases h2:Ea.digs s.data.toList=false;(·rw[ZmH h2]at HX;rw[h2]at HD;generalize Ea.comp k s.data.toList=res at*;generalize Ea.size k=n at*;have b1:((n:Int)==0)=false:=ZmJ.2 QhN;clear h1 h2 hkk hn4;go_enter func17,ntmps17;exact Qap);·have h2':Ea.digs s.data.toList=true:=QfS;rw[ZmF h2]at HX;rw[h2']at HD;have b1:((Ea.size k:Int)==0)=false:=ZmJ.2 QhN;by_cases h3:s.size≠Ea.size k∧s.size+1≠Ea.size k;(·rw[ZmH h3]at HX;generalize Ea.comp k s.data.toList=res at*;generalize Ea.size k=n at*;have b3:((s.size:Int) !=(n:Int))=true:=Qcm;have b4:((s.size:Int) !=(n:Int)-1)=true:=Qcm;clear h1 h2 hkk hn4 h3 h2';go_enter func17,ntmps17;exact Qap);·rw[ZmF h3]at HX;have h0:0<s.size:=QhN;have HN:=ZmE (Zcf s h0);rw[Zgj s h0 h2']at HN;have H48:=ZmE hn4;clear hn4;by_cases h4:k=4∧49<s.data.toList.getD 0 0;(·rw[ZmH h4]at HX;obtain⟨rfl,h4⟩:=h4;rw[ZmS (UInt8.not_le.2 h4)]at HN;generalize Ea.comp 4 s.data.toList=res at*;generalize Ea.size 4=n at*;by_cases h5:s.size=n;(·have b3:((s.size:Int) !=(n:Int))=false:=Qcm;exact Qgq);·have b3:((s.size:Int) !=(n:Int))=true:=Qcm;have b4:((s.size:Int) !=(n:Int)-1)=false:=Qcm;exact Qgq);·rw[ZmF h4]at HX;have h49:k=4->s.data.toList.getD 0 0<=49:=fun e=>ZqB.1 fun e2=>h4 ⟨e,e2⟩;clear h4;by_cases h5:s.size=Ea.size k;(·have HRI:=ZmE (ZaG k s h2' (by by_cases e:k=4;exact .inl ⟨e,by rw[h5,H48.out e]⟩;exact .inr ⟨e,by omega,by omega⟩));have hg:=Ea.good_of h1 (by rw[Zb];exact h5);have HTK:Hid (Ea.good (if k=4 then Ea.exp8 s.data.toList else s.data.toList)->s.data.toList.take (Ea.size k-1)++[Ea.chkOf k (s.data.toList.take (Ea.size k-1))]=s.data.toList):=ZmE (fun h=>(hg.2 h).symm);have HX8:Hid (Ea.comp k s.data.toList=if Ea.good (if k=4 then Ea.exp8 s.data.toList else s.data.toList)then(s.data.toList,0)else([],8)):=ZmE (by rw[HX.out];by_cases h6:Ea.good (if k=4 then Ea.exp8 s.data.toList else s.data.toList);(·rw[ZmF (fun hh=>hh.2 (hg.2 h6)),ZmH h6,HTK.out h6]);·rw[ZmH ⟨h5,fun hh=>h6 (hg.1 hh)⟩,ZmF h6]);have b3:((s.size:Int) !=(Ea.size k:Int))=false:=Qcm;have b5:((s.size:Int)==(Ea.size k:Int))=true:=Qcm;have HBS:Hid (Value.string s=.string (Ea.bS s.data.toList)):=ZmE (by rw[Ea.bS_of]);clear HX hg HTK;by_cases h4:k=4;(·subst h4;rw[ZmR (h49 rfl)]at HN;generalize Ea.comp 4 s.data.toList=res at*;generalize Ea.size 4=n at*;by_cases h6:Ea.good (if(4:Int)=4 then Ea.exp8 s.data.toList else s.data.toList);(·rw[ZmR h6]at HRI;have HX:=ZmE (HX8.out.trans (ZmH h6));clear h1 h2 hkk h3 h2' h5 h6 HX8;go_enter func17,ntmps17;go_wp2_with fail;refine(HZ.out _).mono ?_;rintro e w1 ⟨rfl,rfl⟩;go_wp2_with fail;refine(HD.out _).mono ?_;rintro e w1 ⟨rfl,rfl⟩;go_wp2_with fail;refine(HN.out _).mono ?_;exact Qdt);·rw[ZmS h6]at HRI;have HX:=ZmE (HX8.out.trans (ZmF h6));clear h1 h2 hkk h3 h2' h5 h6 HX8;go_enter func17,ntmps17;go_wp2_with fail;refine(HZ.out _).mono ?_;rintro e w1 ⟨rfl,rfl⟩;go_wp2_with fail;refine(HD.out _).mono ?_;rintro e w1 ⟨rfl,rfl⟩;go_wp2_with fail;refine(HN.out _).mono ?_;exact QdK);·have b4:(k==4)=false:=ZmJ.2 h4;generalize Ea.comp k s.data.toList=res at*;generalize Ea.size k=n at*;by_cases h6:Ea.good (if k=4 then Ea.exp8 s.data.toList else s.data.toList);(·rw[ZmR h6]at HRI;have HX:=ZmE (HX8.out.trans (ZmH h6));clear h1 h2 hkk h3 h2' h5 h6 HX8 h4 h49;go_enter func17,ntmps17;go_wp2_with fail;refine(HZ.out _).mono ?_;rintro e w1 ⟨rfl,rfl⟩;go_wp2_with fail;refine(HD.out _).mono ?_;exact Qdt);·rw[ZmS h6]at HRI;have HX:=ZmE (HX8.out.trans (ZmF h6));clear h1 h2 hkk h3 h2' h5 h6 HX8 h4 h49;go_enter func17,ntmps17;go_wp2_with fail;refine(HZ.out _).mono ?_;rintro e w1 ⟨rfl,rfl⟩;go_wp2_with fail;refine(HD.out _).mono ?_;exact QdK);·have h6:s.size+1=Ea.size k:=QhN;have hT:s.data.toList.take (Ea.size k-1)=s.data.toList:=ZmW Qic;have HX9:Hid (Ea.comp k s.data.toList=(s.data.toList++[Ea.chkOf k s.data.toList],0)):=ZmE (by rw[HX.out,ZmF (fun h=>h5 h.1),hT]);have b3:((s.size:Int) !=(Ea.size k:Int))=true:=Qcm;have b4:((s.size:Int) !=(Ea.size k:Int)-1)=false:=Qcm;have b5:((s.size:Int)==(Ea.size k:Int))=false:=Qcm;have HOUT:Hid (∀c:UInt8,Value.string (s++⟨[c].toArray⟩)=.string (Ea.bS (s.data.toList++[c]))):=ZmE (fun c=>by rw[<-Ea.bS_of (s++⟨[c].toArray⟩),Znt,Znw]);clear HX hT;by_cases h4:k=4;(·subst h4;rw[ZmR (h49 rfl)]at HN;have h7:s.size=7:=(by have:=H48.out rfl;omega);have hZs:(s++⟨#[48]⟩:ByteArray).size=8:=(by rw[Zo8,h7];rfl);have HEX:=ZmE (ZcU (s++⟨#[48]⟩) hZs);have hE7:(Ea.exp8 (s++⟨#[48]⟩:ByteArray).data.toList).take 11=Ea.exp7 s.data.toList:=(by rw[Ea.exp8_take (by rw[Zb];exact hZs)];congr 1;rw[Znt,Znw];exact Ea.take_app _ _ _ (by rw[Zb];exact h7.symm));have hEs:(Ea.bS (Ea.exp8 (s++⟨#[48]⟩:ByteArray).data.toList)).size=12:=(by rw[Zc (Ea.bS_list _),Ea.exp8_len (by rw[Zb];exact hZs)]);have hEC:((Ea.bS (Ea.exp8 (s++⟨#[48]⟩:ByteArray).data.toList)).extract 0 11).data.toList=Ea.exp7 s.data.toList:=(by rw[Zr,Ea.bS_list,hE7]);have HCO:=ZmE (Zc0 (Ea.exp7 s.data.toList) (Ea.exp7_digs h2') (by rw[Ea.exp7_len QiY];omega) (by rw[Ea.exp7_len QiY];omega));have hk4:Ea.chkOf 4 s.data.toList=Ea.chk (Ea.exp7 s.data.toList):=rfl;rw[hk4]at HX9;generalize Ea.comp 4 s.data.toList=res at*;generalize Ea.bS (Ea.exp8 (s++⟨#[48]⟩:ByteArray).data.toList)=U at*;have HCM:=ZmE (fun w=>Za5 1 (U.extract 0 11) w Qh2);rw[hEC,HCO.out]at HCM;have HZ3:=ZmE (ZbU 3);rw[show((Ea.size 3:Nat):Int)=12 from rfl]at HZ3;generalize Ea.size 4=n at*;generalize Ea.chk (Ea.exp7 s.data.toList)=cd at*;have h7':s.size<=7:=QhN;clear h1 h2 hkk h3 h2' h5 h6 hE7 hEC HCO hk4 H48 hZs h49 h7;go_enter func17,ntmps17;go_wp2_with fail;refine(HZ.out _).mono ?_;rintro e w1 ⟨rfl,rfl⟩;go_wp2_with fail;refine(HD.out _).mono ?_;rintro e w1 ⟨rfl,rfl⟩;go_wp2_with fail;refine(HN.out _).mono ?_;rintro e w1 ⟨rfl,rfl⟩;go_wp2_with fail;refine(HEX.out _).mono ?_;rintro e w2 ⟨rfl,hx2⟩;go_wp2_with fail;refine(HZ3.out _).mono ?_;rintro e w1 ⟨rfl,rfl⟩;go_wp2_with fail;refine(HCM.out _).mono ?_;rintro e w3 ⟨rfl,hx3⟩;dsimp only;go_wp2;go_ret2;exact⟨by rw[HX9.out,HOUT.out];rfl,hx2.trans hx3⟩);·have b6:(k==4)=false:=ZmJ.2 h4;have HCO:=ZmE (Zc0 s.data.toList h2' Qic Qic);have hk4:Ea.chkOf k s.data.toList=Ea.chk s.data.toList:=(by unfold Ea.chkOf;rw[ZmF h4]);rw[hk4]at HX9;have HCM:=ZmE (fun w=>Za5 1 s w hs);rw[HCO.out]at HCM;generalize Ea.comp k s.data.toList=res at*;generalize Ea.size k=n at*;generalize Ea.chk s.data.toList=cd at*;have hs13:s.size<=13:=QhN;clear h1 h2 hkk h3 h2' h5 h6 HCO hk4 H48 h49 h4;go_enter func17,ntmps17;go_wp2_with fail;refine(HZ.out _).mono ?_;rintro e w1 ⟨rfl,rfl⟩;go_wp2_with fail;refine(HD.out _).mono ?_;rintro e w1 ⟨rfl,rfl⟩;go_wp2_with fail;refine(HCM.out _).mono ?_;rintro e w3 ⟨rfl,hx3⟩;dsimp only;go_wp2;go_ret2;exact⟨by rw[HX9.out,HOUT.out];rfl,hx3⟩
theorem Z6 (s:ByteArray):encS s.data.toList=.string s:=by unfold encS;rw[Zy]
def elC (xs:List Gs.El):List Value:=xs.flatMap fun x=>[encS x.1,encS x.2]
theorem ZiB (xs:List Gs.El) (x:Gs.El):elC (xs++[x])=elC xs++[encS x.1,encS x.2]:=by simp[elC]
theorem Zlm (xs:List Gs.El):∀(i:Nat) (x:Gs.El),xs[i]? =some x->(elC xs)[i*2]? =some (encS x.1)∧(elC xs)[i*2+1]? =some (encS x.2):=by
 induction xs with
 |nil=>intro i x h;simp at h
 |cons y ys ih=>
  intro i x h
  cases i with
  |zero=>simp only[Znp,Znl]at h;subst h;exact⟨rfl,rfl⟩
  |succ i=>rw[Zn2]at h;have:=ih i x h;have e1:(i+1)*2=i*2+1+1:=QhN;rw[e1];simp only[elC,Zoo,Zny,Zod,Zn2]at this⊢;exact QeN
def EOwn (w:World) (B:Nat) (v:Value) (xs:List Gs.El):Prop:=w.ownsRow B 86 2 v xs.length (elC xs)
theorem EOwn.nil (w:World) (B:Nat):EOwn w B (.slice none 0 0) []:=ZpQ _ _ _ _
section
variable {w w':World} {B:Nat} {v:Value} {xs:List Gs.El}
theorem EOwn.ext (h:EOwn w B v xs) (hx:Ext w w'):EOwn w' B v xs:=by
 refine ZoM h hx.asGrown ?_
 cases hv:v.ownBlock with
 |none=>exact .inl rfl
 |some k=>exact .inr QhQ
theorem EOwn.low (h:EOwn w B v xs):∀k,v.ownBlock=some k->B<=k:=fun k hk=>(Zoe h k hk).1
end
def ESl (w:World) (v:Value) (xs:List Gs.El):Prop:=
 (xs=[]∧∃a c,v=.slice a 0 c)∨∃b off cap,v=.slice (some ⟨b,off,none⟩) xs.length cap∧b<w.heap.size∧∀i x,xs[i]? =some x->w.cell? ⟨b,off+i*2,none⟩=some (encS x.1)∧w.cell? ⟨b,off+i*2+1,none⟩=some (encS x.2)
theorem ESl.ext {w w':World} {v:Value} {xs:List Gs.El} (h:ESl w v xs) (hx:Ext w w'):ESl w' v xs:=by
 rcases h with h|⟨b,off,cap,h1,h2,h3⟩;·exact .inl h
 ·refine .inr ⟨b,off,cap,h1,Znc h2 hx.size,fun i x hi=> ?_⟩;rw[hx.cell (p:=⟨b,off+i*2,none⟩) h2,hx.cell (p:=⟨b,off+i*2+1,none⟩) h2];exact h3 i x hi
theorem EOwn.sl {w:World} {B:Nat} {v:Value} {xs:List Gs.El} (h:EOwn w B v xs):ESl w v xs:=by
 rcases h.2 with⟨hnil,h0⟩|⟨g,cap,cur,hv,hbase,hb,h1,h2,h3,h4⟩;·exact Qf2
 ·refine .inr ⟨g,0,cap,hv,(Znn.1 hb).1,fun i x hi=> ?_⟩;have hh:=h;unfold EOwn at hh;rw[hv]at hh;have hil:i<xs.length:=(by rcases ZnY i xs.length with h|h;(·exact h);·rw[Zot h]at hi;simp at hi);rw[Zoa,hh.cellAt (i*2) QhN,hh.cellAt (i*2+1) QhN];exact Zlm xs i x hi
theorem ESl.form {w:World} {v:Value} {xs:List Gs.El} (h:ESl w v xs):∃a c,v=.slice a xs.length c:=QeA
theorem ESl.at_ {w:World} {a:Option Addr} {n c:Nat} {xs:List Gs.El} (h:ESl w (.slice a n c) xs) {k:Nat} {x:Gs.El} (hk:xs[k]? =some x):
 ∃b off,a=some ⟨b,off,none⟩∧b<w.heap.size∧w.cell? ⟨b,off+k*2,none⟩=some (encS x.1)∧w.cell? ⟨b,off+k*2+1,none⟩=some (encS x.2):=by
 rcases h with⟨rfl,_⟩|⟨b,off,cap,he,hb,hc⟩
 ·simp at hk
 ·injection he with h1 h2 h3;exact⟨b,off,h1,hb,hc k x hk⟩
theorem Zkz:(prog.info? 86).map (fun i=>(i.zero,i.size,i.bytes))=some (some (.agg #[.string ⟨#[]⟩,.string ⟨#[]⟩]),2,32):=Qdu
theorem Zbc {w:World} {ops:Array Oper} {rest:List Oper} {o:Oper} {a:Act} {Q:Exit->Act->World->Prop} (hgd:o.guard=none) (s x:Operand)
 (ho:o.op=.call {callee:=.builtin .append,args:= #[s,x],argTypes:= #[39,39]})
 (B:Nat) (v:Value) (xs:List Gs.El) (hs:a.eval s=v) (hown:EOwn w B v xs) (b:Nat) (u:Gs.El) (hx:a.eval x=.slice (some ⟨b,0,none⟩) 1 1)
 (hc:w.cell? ⟨b,0,none⟩=some (encS u.1)) (hc1:w.cell? ⟨b,1,none⟩=some (encS u.2)) (hn:xs.length<=999999999) (hB:B<=w.heap.size)
 (h:∀v' w',EOwn w' B v' (xs++[u])->w.grownBy w' v.ownBlock->wpList prog ops Q rest (a.put o.dst v') w'):wpList prog ops Q (o::rest) a w:=by
 obtain⟨i0,hi,hz0,hz1,hz2⟩:=ZoJ Zkz
 refine ZpR _ hgd s x 39 ho B 86 i0 _ 2 32 underlying39 hi hz0 hz1 hz2 rfl QhP v xs.length (elC xs) hs hown ⟨b,0,none⟩ 1 1 [encS u.1,encS u.2] hx rfl ?_ ?_ ?_ ?_ hB ?_
 ·intro j u' hj
  rw[ZcO]
  match j with
  |0=>simp only[Znp,Znl]at hj;subst hj;exact hc
  |1=>simp only[Zn2,Znp,Znl]at hj;subst hj;exact hc1
  |j+2=>simp at hj
 ·exact QeI
 ·exact QeT
 ·exact QeG
 ·intro v' w' h1 h2 _;refine h v' w' ?_ h2;unfold EOwn;rw[ZmM,ZiB];exact h1
end
end Go.Proofs.YtbngggoccndefaaGreatDoor
