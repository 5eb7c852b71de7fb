/-
  Laid.
-/
import Derived.Test.YtbngggoccndefaaGreatDoorUn05
set_option maxHeartbeats 16000000
set_option maxRecDepth 100000
set_option linter.all false
namespace Go.Proofs.YtbngggoccndefaaGreatDoor
open Go.Proofs.Tryz
section
open Go.RowKit
theorem kP {α:Type} (f:Nat->α) (j:Nat):(List.range (j+1)).map f=(List.range j).map f++[f j]:=NT
theorem kQ (cs ps:List UInt8) (z:Nat) (e:ByteArray) (i:Nat):Tw.rdAt cs ps z e.data.toList i=Tw.chr cs ps z (e.extract (i*(z+1)) (i*(z+1)+z)).data.toList:=by unfold Tw.rdAt;rw[Z0,GX]
theorem NU (s:ByteArray) (k:Nat) (h:k<s.size):s.data.toList.getD k 0=s[k]:=VK
theorem NV (s:ByteArray) (c:UInt8) (w:World):
 Calls prog 56 #[.string s,.int .u8 (c.toNat:Int)] w fun e w'=>e=.returned (.int .i64 (Lib.indexByte s.data.toList c))∧w=w':=by
 have:=OV s (c.toNat:Int) w
 rw[SO]at this;exact this
theorem Zoi (cs ps:ByteArray) (bc bp bz ba be bi bl bm:Nat) (edge inner:ByteArray) (least most:Nat) (e:ByteArray) (n:Nat) (w:World) (hS:ZC w 7 bc bp bz ba be bi bl bm edge inner least most) (hA:ZH w bc bp bz cs ps 7) (hps:ps.size=cs.size*7) (hcs:cs.size<=100) (hs:e.size<=1000000)
 (hn:e.size+1=n*8) (hn2:2<=n):
 Calls prog 235 #[.string e,.pointer (some ⟨ba,0,none⟩),.pointer (some ⟨be,0,none⟩),.pointer (some ⟨bi,0,none⟩)] w
  fun en w'=>en=.returned (.tuple #[strV (Tw.read cs.data.toList ps.data.toList edge.data.toList inner.data.toList 7 e.data.toList).1,.int .i64 (Tw.read cs.data.toList ps.data.toList edge.data.toList inner.data.toList 7 e.data.toList).2])∧Ext w w':=by
 have hnn:n=(e.data.toList.length+1)/(7+1):=by rw[Zd];omega
 have HRA:=A0 (fun j=>Tw.read_at cs.data.toList ps.data.toList edge.data.toList inner.data.toList 7 e.data.toList n j hnn)
 have HRB:=A0 (Tw.read_all cs.data.toList ps.data.toList edge.data.toList inner.data.toList 7 e.data.toList n hnn)
 have HER:=A0 (fun j=>Tw.rdErr.eq_1 cs.data.toList ps.data.toList edge.data.toList inner.data.toList 7 e.data.toList n j)
 generalize Tw.read cs.data.toList ps.data.toList edge.data.toList inner.data.toList 7 e.data.toList=res at*
 have HP:Hid (∀w',Ext w w'->∀p:ByteArray,Calls prog 237 #[.string p,.pointer (some ⟨bc,0,none⟩),.pointer (some ⟨bp,0,none⟩),.pointer (some ⟨bz,0,none⟩)] w'
  fun e w''=>e=.returned (.tuple #[.int .u8 ((Tw.chr cs.data.toList ps.data.toList 7 p.data.toList).1.toNat:Int),.bool (Tw.chr cs.data.toList ps.data.toList 7 p.data.toList).2])∧w'=w''):=
  A0 fun w' hx p=>FM cs ps 7 p bc bp bz w' (hA.ext hx) B0 hps hcs
 have HCUT:=A0 (fun j=>kQ cs.data.toList ps.data.toList 7 e j)
 generalize Tw.rdErr cs.data.toList ps.data.toList edge.data.toList inner.data.toList 7 e.data.toList n=er at*
 have HS:=A0 hS
 clear hS hA hnn hps
 have hsz:=(HS.out).a0
 have hn3:n<=200000:=by omega
 have hna:e.size+1<=n*8:=by omega
 have hnb:n*8<=e.size+1:=by omega
 have hdv:((e.size:Int)+1)/8=(n:Int):=by omega
 clear hn
 go_enter func235,ntmps235
 go_wp2
 rw[hdv]
 clear hdv hsz
 go_loopw [21,7] (fun i c wr=>∃j:Nat,j<=n∧i=.int .i64 (j:Int)∧Own 5 wr w.heap.size c (((List.range j).map fun k=>(Tw.rdAt cs.data.toList ps.data.toList 7 e.data.toList k).1).map encB)∧Hid (∀m,m<j->er m=0)∧Ext w wr) (fun i _ _=>n-(intOf i).toNat)
 case atStart=>exact kR
 case round=>obtain⟨j,hj,rfl,hown,HB,hxr⟩:=hrel;by_cases hlt:j<n;(·have hz0:=(HS.out.ext hxr).a0;have HR1:=A0 (HRA.out j hlt);have HE:=A0 (HER.out j);have HBN:er j=0->Hid (∀m,m<j+1->er m=0):=fun h=>A0 (fun m hm=>by rcases XT (XU hm)with h1|rfl;(·exact HB.out m h1);·exact h);have HRN:=A0 HBN;clear HBN;have HQ:=A0 (fun(x:Zx wr)=>HP.out x.at' (hxr.trans x.ext) (e.extract (j*8) (j*8+7)));have HSN:Hid ((List.range (j+1)).map (fun k=>(Tw.rdAt cs.data.toList ps.data.toList 7 e.data.toList k).1)=(List.range j).map (fun k=>(Tw.rdAt cs.data.toList ps.data.toList 7 e.data.toList k).1)++[(Tw.rdAt cs.data.toList ps.data.toList 7 e.data.toList j).1]):=A0 (kP _ j);rw[<-HCUT.out j]at HQ;generalize Tw.rdAt cs.data.toList ps.data.toList 7 e.data.toList j=r at*;have hgl:((List.range j).map (fun k=>(Tw.rdAt cs.data.toList ps.data.toList 7 e.data.toList k).1)).length<=j:=L0;generalize(List.range j).map (fun k=>(Tw.rdAt cs.data.toList ps.data.toList 7 e.data.toList k).1)=got at*;obtain⟨c,ok⟩:=r;have hz2:∀x:Zx wr,x.at'.cell? ⟨ba,2,none⟩=_:=fun x=>(HS.out.ext (hxr.trans x.ext)).a2;have hz3:∀x:Zx wr,x.at'.cell? ⟨ba,0,none⟩=_:=fun x=>(HS.out.ext (hxr.trans x.ext)).a0;by_cases hj0:j=0;(·exact QI);·have d1:decide ((0:Int)<(j:Int))=true:=S0;have d2:((j:Int)==0)=false:=O2;obtain⟨k,hk,hke,hkj⟩:∃k:Nat,(j:Int)*8-1=(k:Int)∧k<e.size∧k=j*8-1:=⟨j*8-1,by omega,by omega,rfl⟩;have hgd:e.data.toList.getD (j*(7+1)-1) 0=e[k]:=(by rw[<-NU e k hke,hkj]);exact Qq);·exact kS
theorem Zoj (cs ps:ByteArray) (bc bp bz ba be bi bl bm:Nat) (edge inner:ByteArray) (least most:Nat) (e:ByteArray) (n:Nat) (w:World) (hS:ZC w 9 bc bp bz ba be bi bl bm edge inner least most) (hA:ZH w bc bp bz cs ps 9) (hps:ps.size=cs.size*9) (hcs:cs.size<=100) (hs:e.size<=1000000)
 (hn:e.size+1=n*10) (hn2:2<=n):
 Calls prog 235 #[.string e,.pointer (some ⟨ba,0,none⟩),.pointer (some ⟨be,0,none⟩),.pointer (some ⟨bi,0,none⟩)] w
  fun en w'=>en=.returned (.tuple #[strV (Tw.read cs.data.toList ps.data.toList edge.data.toList inner.data.toList 9 e.data.toList).1,.int .i64 (Tw.read cs.data.toList ps.data.toList edge.data.toList inner.data.toList 9 e.data.toList).2])∧Ext w w':=by
 have hnn:n=(e.data.toList.length+1)/(9+1):=by rw[Zd];omega
 have HRA:=A0 (fun j=>Tw.read_at cs.data.toList ps.data.toList edge.data.toList inner.data.toList 9 e.data.toList n j hnn)
 have HRB:=A0 (Tw.read_all cs.data.toList ps.data.toList edge.data.toList inner.data.toList 9 e.data.toList n hnn)
 have HER:=A0 (fun j=>Tw.rdErr.eq_1 cs.data.toList ps.data.toList edge.data.toList inner.data.toList 9 e.data.toList n j)
 generalize Tw.read cs.data.toList ps.data.toList edge.data.toList inner.data.toList 9 e.data.toList=res at*
 have HP:Hid (∀w',Ext w w'->∀p:ByteArray,Calls prog 237 #[.string p,.pointer (some ⟨bc,0,none⟩),.pointer (some ⟨bp,0,none⟩),.pointer (some ⟨bz,0,none⟩)] w'
  fun e w''=>e=.returned (.tuple #[.int .u8 ((Tw.chr cs.data.toList ps.data.toList 9 p.data.toList).1.toNat:Int),.bool (Tw.chr cs.data.toList ps.data.toList 9 p.data.toList).2])∧w'=w''):=
  A0 fun w' hx p=>FM cs ps 9 p bc bp bz w' (hA.ext hx) B0 hps hcs
 have HCUT:=A0 (fun j=>kQ cs.data.toList ps.data.toList 9 e j)
 generalize Tw.rdErr cs.data.toList ps.data.toList edge.data.toList inner.data.toList 9 e.data.toList n=er at*
 have HS:=A0 hS
 clear hS hA hnn hps
 have hsz:=(HS.out).a0
 have hn3:n<=200000:=by omega
 have hna:e.size+1<=n*10:=by omega
 have hnb:n*10<=e.size+1:=by omega
 have hdv:((e.size:Int)+1)/10=(n:Int):=by omega
 clear hn
 go_enter func235,ntmps235
 go_wp2
 rw[hdv]
 clear hdv hsz
 go_loopw [21,7] (fun i c wr=>∃j:Nat,j<=n∧i=.int .i64 (j:Int)∧Own 5 wr w.heap.size c (((List.range j).map fun k=>(Tw.rdAt cs.data.toList ps.data.toList 9 e.data.toList k).1).map encB)∧Hid (∀m,m<j->er m=0)∧Ext w wr) (fun i _ _=>n-(intOf i).toNat)
 case atStart=>exact kR
 case round=>obtain⟨j,hj,rfl,hown,HB,hxr⟩:=hrel;by_cases hlt:j<n;(·have hz0:=(HS.out.ext hxr).a0;have HR1:=A0 (HRA.out j hlt);have HE:=A0 (HER.out j);have HBN:er j=0->Hid (∀m,m<j+1->er m=0):=fun h=>A0 (fun m hm=>by rcases XT (XU hm)with h1|rfl;(·exact HB.out m h1);·exact h);have HRN:=A0 HBN;clear HBN;have HQ:=A0 (fun(x:Zx wr)=>HP.out x.at' (hxr.trans x.ext) (e.extract (j*10) (j*10+9)));have HSN:Hid ((List.range (j+1)).map (fun k=>(Tw.rdAt cs.data.toList ps.data.toList 9 e.data.toList k).1)=(List.range j).map (fun k=>(Tw.rdAt cs.data.toList ps.data.toList 9 e.data.toList k).1)++[(Tw.rdAt cs.data.toList ps.data.toList 9 e.data.toList j).1]):=A0 (kP _ j);rw[<-HCUT.out j]at HQ;generalize Tw.rdAt cs.data.toList ps.data.toList 9 e.data.toList j=r at*;have hgl:((List.range j).map (fun k=>(Tw.rdAt cs.data.toList ps.data.toList 9 e.data.toList k).1)).length<=j:=L0;generalize(List.range j).map (fun k=>(Tw.rdAt cs.data.toList ps.data.toList 9 e.data.toList k).1)=got at*;obtain⟨c,ok⟩:=r;have hz2:∀x:Zx wr,x.at'.cell? ⟨ba,2,none⟩=_:=fun x=>(HS.out.ext (hxr.trans x.ext)).a2;have hz3:∀x:Zx wr,x.at'.cell? ⟨ba,0,none⟩=_:=fun x=>(HS.out.ext (hxr.trans x.ext)).a0;by_cases hj0:j=0;(·exact QI);·have d1:decide ((0:Int)<(j:Int))=true:=S0;have d2:((j:Int)==0)=false:=O2;obtain⟨k,hk,hke,hkj⟩:∃k:Nat,(j:Int)*10-1=(k:Int)∧k<e.size∧k=j*10-1:=⟨j*10-1,by omega,by omega,rfl⟩;have hgd:e.data.toList.getD (j*(9+1)-1) 0=e[k]:=(by rw[<-NU e k hke,hkj]);exact Qq);·exact kS
theorem kT (l:List UInt8) (c:UInt8):Tw.sumCb (l++[c])=Tw.sumCb l+Lib.indexByte Tw.cCb c:=by simp[Tw.sumCb]
theorem Zm6 (l:List UInt8) (h:∀c∈l,0<=Lib.indexByte Tw.cCb c):∀a:Int,a<=(l.map (Lib.indexByte Tw.cCb)).foldl (·+·) a∧(l.map (Lib.indexByte Tw.cCb)).foldl (·+·) a<=a+20*l.length:=by
 induction l with
 |nil=>intro a;simp
 |cons c l ih=>intro a;have h1:=ih (fun x hx=>h x (V2 _ hx)) (a+Lib.indexByte Tw.cCb c);have h2:=h c (N2 ..);obtain⟨n,hn⟩:=K4 h2;have h3:=XO _ _ _ hn;have h4:Tw.cCb.length=20:=rfl;simp only[I5,F1,D1]at h1⊢;omega
theorem kU (l:List UInt8) (h:∀c∈l,0<=Lib.indexByte Tw.cCb c):0<=Tw.sumCb l∧Tw.sumCb l<=20*l.length:=by have:=Zm6 l h 0;unfold Tw.sumCb;omega
theorem FP:∀c:UInt8,(0<=Lib.indexByte Tw.eCb c∨0<=Lib.indexByte Tw.dCb c)->0<=Lib.indexByte Tw.cCb c:=by
 have h:∀i:Fin 256,(0<=Lib.indexByte Tw.eCb (UInt8.ofNat i.val)∨0<=Lib.indexByte Tw.dCb (UInt8.ofNat i.val))->0<=Lib.indexByte Tw.cCb (UInt8.ofNat i.val):=E2
 intro c;have:=h ⟨c.toNat,c.toNat_lt⟩;exact E9
theorem Zoo (l:List UInt8) (h:2<=l.length):l=l.take 1++((l.drop 1).take (l.length-2)++l.drop (l.length-1)):=by
 have h1:l.drop (l.length-1)=(l.drop 1).drop (l.length-2):=by rw[W5];congr 1;omega
 rw[h1,J7,J7]
theorem kV (l:List UInt8) (h:2<=l.length) (h1:Tw.only (l.take 1) Tw.eCb=true) (h2:Tw.only (l.drop (l.length-1)) Tw.eCb=true) (h3:Tw.only ((l.drop 1).take (l.length-2)) Tw.dCb=true):
 ∀c∈l,0<=Lib.indexByte Tw.cCb c:=by
 intro c hc
 rw[Zoo l h,B5,B5]at hc
 unfold Tw.only at h1 h2 h3
 rw[U1]at h1 h2 h3
 rcases hc with hc|hc|hc
 ·exact FP c (.inl (by simpa using h1 c hc))
 ·exact FP c (.inr (by simpa using h3 c hc))
 ·exact FP c (.inl (by simpa using h2 c hc))
theorem Zmw:∀v:Nat,v<16->((⟨#[48,49,50,51,52,53,54,55,56,57,45,36,58,47,46,43]⟩:ByteArray).extract v (v+1)).data.toList=[Tw.dCb.getD v 0]:=by
 intro v hv;rw[Z0];have:∀v:Fin 16,(([48,49,50,51,52,53,54,55,56,57,45,36,58,47,46,43]:List UInt8).drop v.val).take (v.val+1-v.val)=[Tw.dCb.getD v.val 0]:=by decide
 exact this ⟨v,hv⟩
theorem kW (a b c:ByteArray):(a++b++c).data.toList=a.data.toList++b.data.toList++c.data.toList:=by simp
theorem FQ (a b:ByteArray):(a++b).data.toList=a.data.toList++b.data.toList:=by simp
theorem Ziq (s:ByteArray) (check:Bool) (w:World) (hs:s.size<=1000000):
 Calls prog 169 #[.string s,.bool check] w fun e w'=>e=.returned (.tuple #[strV (Tw.compCb s.data.toList check).1,.int .i64 (Tw.compCb s.data.toList check).2])∧Ext w w':=by
 have HT:=A0 (Tw.compCb.eq_1 s.data.toList check)
 rw[Zd]at HT
 generalize Tw.compCb s.data.toList check=res at*
 by_cases h2:s.size<2
 ·rw[D0 h2]at HT;have d1:decide ((s.size:Int)-1<1)=true:=S0;go_enter func169,ntmps169;go_wp2;go_ret2;exact⟨by rw[HT.out];rfl,Ext.refl _⟩
 ·rw[C0 h2]at HT;have d1:decide ((s.size:Int)-1<1)=false:=S0;have hsn:((s.size:Int)-1).toNat=s.size-1:=B0;have HO1:Hid (∀w,Calls prog 167 #[.string (s.extract 0 1),.string ⟨#[65,66,67,68]⟩] w fun e w'=>e=.returned (.bool (Tw.only (s.data.toList.take 1) Tw.eCb))∧w=w'):=
   A0 (fun w=>by rw[<-Zy];exact RB (s.extract 0 1) ⟨#[65,66,67,68]⟩ w YD)
  have HO2:Hid (∀w,Calls prog 167 #[.string (s.extract (s.size-1) s.size),.string ⟨#[65,66,67,68]⟩] w fun e w'=>e=.returned (.bool (Tw.only (s.data.toList.drop (s.size-1)) Tw.eCb))∧w=w'):=
   A0 (fun w=>by rw[<-ZD];exact RB (s.extract (s.size-1) s.size) ⟨#[65,66,67,68]⟩ w YD)
  have HO3:Hid (∀w,Calls prog 167 #[.string (s.extract 1 (s.size-1)),.string ⟨#[48,49,50,51,52,53,54,55,56,57,45,36,58,47,46,43]⟩] w fun e w'=>e=.returned (.bool (Tw.only ((s.data.toList.drop 1).take (s.size-2)) Tw.dCb))∧w=w'):=
   A0 (fun w=>by rw[show s.size-2=s.size-1-1 by omega,<-Z0];exact RB (s.extract 1 (s.size-1)) ⟨#[48,49,50,51,52,53,54,55,56,57,45,36,58,47,46,43]⟩ w YD)
  have HV:=A0 (kV s.data.toList YN);rw[Zd]at HV;generalize Tw.only (s.data.toList.take 1) Tw.eCb=b1 at*;generalize Tw.only (s.data.toList.drop (s.size-1)) Tw.eCb=b2 at*;generalize Tw.only ((s.data.toList.drop 1).take (s.size-2)) Tw.dCb=b3 at*;cases b1;(·rw[D0 rfl]at HT;go_enter func169,ntmps169;go_wp2_with fail;refine(HO1.out _).mono ?_;exact RD);·rw[C0 Bool.noConfusion]at HT;cases b2;(·rw[D0 rfl]at HT;go_enter func169,ntmps169;go_wp2_with fail;refine(HO1.out _).mono ?_;rintro e w1 ⟨rfl,rfl⟩;go_wp2_with fail;refine(HO2.out _).mono ?_;exact RD);·rw[C0 Bool.noConfusion]at HT;cases b3;(·rw[D0 rfl]at HT;go_enter func169,ntmps169;go_wp2_with fail;refine(HO1.out _).mono ?_;rintro e w1 ⟨rfl,rfl⟩;go_wp2_with fail;refine(HO2.out _).mono ?_;rintro e w1 ⟨rfl,rfl⟩;go_wp2_with fail;refine(HO3.out _).mono ?_;exact RD);·rw[C0 Bool.noConfusion]at HT;have HVV:=A0 (HV.out rfl rfl rfl);clear HV;cases check;(·rw[D0 rfl]at HT;go_enter func169,ntmps169;go_wp2_with fail;refine(HO1.out _).mono ?_;rintro e w1 ⟨rfl,rfl⟩;go_wp2_with fail;refine(HO2.out _).mono ?_;rintro e w1 ⟨rfl,rfl⟩;go_wp2_with fail;refine(HO3.out _).mono ?_;exact kX);·rw[C0 Bool.noConfusion]at HT;go_enter func169,ntmps169;go_wp2_with fail;refine(HO1.out _).mono ?_;rintro e w1 ⟨rfl,rfl⟩;go_wp2_with fail;refine(HO2.out _).mono ?_;rintro e w1 ⟨rfl,rfl⟩;go_wp2_with fail;refine(HO3.out _).mono ?_;rintro e w1 ⟨rfl,rfl⟩;clear HO1 HO2 HO3;go_wp2;go_loop [39,7] (fun i x=>∃j:Nat,j<=s.size∧i=.int .i64 (j:Int)∧x=.int .i64 (Tw.sumCb (s.data.toList.take j))) (fun i _=>s.size-(intOf i).toNat);(case atStart=>exact XK);case round=>obtain⟨j,hj,rfl,rfl⟩:=hrel;have hb:=kU (s.data.toList.take j) (fun c hc=>HVV.out c (G4 hc));rw[XG s j hj]at hb;obtain⟨hb1,hb2⟩:=hb;by_cases hlt:j<s.size;(·have HI:=A0 (fun w=>NV ⟨#[48,49,50,51,52,53,54,55,56,57,45,36,58,47,46,43,65,66,67,68]⟩ s[j] w);have HSN:=A0 (kT (s.data.toList.take j) s[j]);rw[<-ZF s j hlt]at HSN;have hi0:=HVV.out s[j] (Zn s j hlt);have hi1:Lib.indexByte Tw.cCb s[j]<20:=kY;change Hid (∀w,Calls prog 56 #[.string ⟨#[48,49,50,51,52,53,54,55,56,57,45,36,58,47,46,43,65,66,67,68]⟩,.int .u8 (s[j].toNat:Int)] w fun e w'=>e=.returned (.int .i64 (Lib.indexByte Tw.cCb s[j]))∧w=w')at HI;exact kZ);·obtain rfl:j=s.size:=B0;rw[Z3]at hb1 hb2⊢;clear hj hlt;generalize Tw.sumCb s.data.toList=g at*;obtain⟨v,hv,hv16⟩:∃v:Nat,(16-g%16)%16=(v:Int)∧v<16:=⟨((16-g%16)%16).toNat,by omega,by omega⟩;rw[hv,Y5]at HT;have HDC:=A0 (Zmw v hv16);obtain⟨u,hu⟩:∃u:Nat,v+1=u:=⟨_,rfl⟩;rw[hu]at HDC;have hv1:(v:Int)+1=(u:Int):=B0;have hu1:v<=u:=B0;have hu2:u<=16:=B0;clear hu;go_wp2;go_quiet (fail);go_wp2;go_ret2;refine⟨?_,?_⟩;(·rw[HT.out];refine ZX ?_ rfl;rw[kW,Zy,HDC.out,ZD]);·exact(Ext.refl _).drewN _
theorem ZiX (s:ByteArray) (check:Bool) (w:World) (hs:s.size<=1000000) (h2:2<=s.size):
 Calls prog 170 #[.string s,.bool check] w fun e w'=>e=.returned (strV (Tw.textCb s.data.toList check))∧Ext w w':=by
 have HT:=A0 (Tw.textCb.eq_1 s.data.toList check)
 rw[Zd]at HT
 generalize Tw.textCb s.data.toList check=res at*
 cases check
 ·rw[C0 Bool.noConfusion]at HT;go_enter func170,ntmps170;exact jA
 ·rw[D0 rfl]at HT;have hn1:((s.size:Int)-1).toNat=s.size-1:=B0;have hn2:((s.size:Int)-2).toNat=s.size-2:=B0;go_enter func170,ntmps170;go_wp2;go_quiet (fail);go_wp2;go_ret;refine⟨?_,(Ext.refl _).drewN _⟩;rw[HT.out];refine UB ?_;rw[FQ,Zy,ZD]
theorem ZhB (s:ByteArray) (check:Bool) (w:World) (hs:s.size<=1000000) (h2:1<=s.size):
 Calls prog 175 #[.string s,.bool check] w fun e w'=>e=.returned (strV (Tw.textItf s.data.toList check))∧Ext w w':=by
 have HT:=A0 (Tw.textItf.eq_1 s.data.toList check)
 rw[Zd]at HT
 generalize Tw.textItf s.data.toList check=res at*
 cases check
 ·rw[C0 Bool.noConfusion]at HT;go_enter func175,ntmps175;exact jA
 ·rw[D0 rfl]at HT;have hn1:((s.size:Int)-1).toNat=s.size-1:=B0;go_enter func175,ntmps175;go_wp2;go_ret;refine⟨?_,Ext.refl _⟩;rw[HT.out];refine UB ?_;rw[Zy]
structure H9 (w:World) (bc bp bz ba bn:Nat):Prop where
 a0:w.cell? ⟨ba,0,none⟩=some (.int .i64 5)
 a1:w.cell? ⟨ba,1,none⟩=some (.func (.func 236) #[] #[.pointer (some ⟨bc,0,none⟩),.pointer (some ⟨bp,0,none⟩),.pointer (some ⟨bz,0,none⟩)])
 n:w.cell? ⟨bn,0,none⟩=some (.int .i64 7)
 la:ba<w.heap.size
 ln:bn<w.heap.size
theorem H9.ext {w w':World} {bc bp bz ba bn:Nat} (h:H9 w bc bp bz ba bn) (hx:Ext w w'):H9 w' bc bp bz ba bn:=
 ⟨by rw[hx.cell (p:=⟨ba,0,none⟩) h.la];exact h.a0,by rw[hx.cell (p:=⟨ba,1,none⟩) h.la];exact h.a1,by rw[hx.cell (p:=⟨bn,0,none⟩) h.ln];exact h.n,
  G2 h.la hx.size,G2 h.ln hx.size⟩
theorem ZfF (bc bp bz ba bn:Nat) (n:Nat) (check:Bool) (w:World) (hA:H9 w bc bp bz ba bn) (hn:n<=9223372036854775806):
 Calls prog 171 #[.int .i64 (n:Int),.bool check,.pointer (some ⟨bn,0,none⟩),.pointer (some ⟨ba,0,none⟩)] w
  fun e w'=>e=.returned (.bool (Tw.countsItf n))∧w=w':=by
 obtain⟨h1,_,h3,_,_⟩:=hA
 by_cases h7:n<7
 ·have HT:Hid (Tw.countsItf n=false):=A0 (by simp[Tw.countsItf];omega);generalize Tw.countsItf n=res at*;obtain rfl|rfl|rfl|rfl|rfl|rfl|rfl:n=0∨n=1∨n=2∨n=3∨n=4∨n=5∨n=6:=B0;all_goals go_enter func171,ntmps171;go_wp2;all_goals go_ret;exact⟨Zm HT.out.symm,rfl⟩
 ·have HT:=A0 (Tw.countsItf.eq_1 n);have h7':0<=(n:Int)-7:=B0;go_enter func171,ntmps171;go_wp2;all_goals go_ret;refine⟨Zm ?_,rfl⟩;rw[HT.out,C4];simp;omega
theorem Zhd (s:ByteArray) (check:Bool) (w:World) (hs:s.size<=1000000):
 Calls prog 172 #[.string s,.bool check] w fun e w'=>e=.returned (.tuple #[strV (Tw.compItf s.data.toList check).1,.int .i64 (Tw.compItf s.data.toList check).2])∧Ext w w':=by
 have HO:Hid (∀w,Calls prog 167 #[.string s,.string ⟨#[48,49,50,51,52,53,54,55,56,57]⟩] w fun e w'=>e=.returned (.bool (Tw.only s.data.toList Tw.cItf))∧w=w'):=
  A0 (fun w=>RB s ⟨#[48,49,50,51,52,53,54,55,56,57]⟩ w B0)
 have HT:=A0 (Tw.compItf.eq_1 s.data.toList check)
 have HC:=A0 (fun w=>OU 1 s w B0)
 generalize Tw.compItf s.data.toList check=res at*
 generalize Tw.only s.data.toList Tw.cItf=b1 at*
 cases b1
 ·rw[D0 rfl]at HT;exact jB
 ·rw[C0 Bool.noConfusion]at HT;cases check;(·rw[D0 rfl,Zd]at HT;by_cases h2:s.size%2=0;(·rw[D0 h2]at HT;have d1:((s.size:Int)%2 !=0)=false:=FR;clear h2;go_enter func172,ntmps172;go_wp2_with fail;refine(HO.out _).mono ?_;exact kX);·rw[C0 h2]at HT;have d1:((s.size:Int)%2 !=0)=true:=NW;clear h2;exact jB);·rw[C0 Bool.noConfusion]at HT;by_cases h0:(Cd.compI 1 s.data.toList).2=0;(·rw[D0 h0]at HT;rw[h0]at HC;clear h0;have hdl:=kL 1 s.data.toList;generalize(Cd.compI 1 s.data.toList).1=d at*;obtain⟨D,rfl⟩:∃D:ByteArray,d=D.data.toList:=⟨⟨d.toArray⟩,by simp⟩;rw[Z4]at HC;rw[Zd]at hdl;rw[T0,Zd,Zd]at HT;by_cases h2:(s.size+D.size)%2=0;(·rw[D0 h2]at HT;have d1:(((s.size:Int)+(D.size:Int))%2 !=0)=false:=FR;clear h2;go_enter func172,ntmps172;go_wp2_with fail;refine(HO.out _).mono ?_;rintro e w1 ⟨rfl,rfl⟩;go_wp2_with fail;refine(HC.out _).mono ?_;rintro e w2 ⟨rfl,hx2⟩;go_wp2;go_ret2;exact⟨by rw[HT.out];exact ZX L0 rfl,hx2⟩);·rw[C0 h2]at HT;have d1:(((s.size:Int)+(D.size:Int))%2 !=0)=true:=NW;clear h2;exact jC);·rw[C0 h0]at HT;have hb:((Cd.compI 1 s.data.toList).2 !=0)=true:=(by rw[C3];exact h0);generalize(Cd.compI 1 s.data.toList).2=x at*;generalize(Cd.compI 1 s.data.toList).1=d at*;clear h0;exact jC
theorem Zlo (a b:List UInt8) (k:Nat) (ha:k<a.length) (hb:k<b.length):Tw.mix (a.take (k+1)) (b.take (k+1))=Tw.mix (a.take k) (b.take k)++[a[k],b[k]]:=by
 induction k generalizing a b with
 |zero=>
  cases a with
  |nil=>simp at ha
  |cons x a=>
   cases b with
   |nil=>simp at hb
   |cons y b=>simp[Tw.mix]
 |succ k ih=>
  cases a with
  |nil=>simp at ha
  |cons x a=>
   cases b with
   |nil=>simp at hb
   |cons y b=>simp only[D1]at ha hb;simp only[SV,Tw.mix,J3,List.getElem_cons_succ];rw[ih a b B0 B0]
theorem jD:∀a b:List UInt8,(Tw.mix a b).length<=2*a.length
 | [],_=>by simp[Tw.mix]
 |_::_,[]=>by simp[Tw.mix]
 |_::a,_::b=>by have:=jD a b;simp only[Tw.mix,D1];omega
theorem jE:∀(a b:List UInt8) (n:Nat),a.length=n->b.length=n->(Tw.mix a b).length=2*n
 | [],_,n,h,_=>by simp only[O4]at h;subst h;simp[Tw.mix]
 |_::_,[],n,h,h'=>by simp only[O4,D1]at h h';omega
 |_::a,_::b,n,h,h'=>by simp only[D1]at h h';have:=jE a b (n-1) B0 B0;simp only[Tw.mix,D1];omega
theorem jF:∀(n:Nat) (a b:List UInt8),a.length=2*n->Tw.drawPairs (a++b)=Tw.drawPairs a++Tw.drawPairs b
 |0,a,b,h=>by obtain rfl:=L4 h;simp[Tw.drawPairs]
 |n+1,a,b,h=>by
  match a,h with
  |x::y::a,h=>simp only[D1]at h;simp only[J3,Tw.drawPairs,M3];rw[jF n a b B0]
theorem ZlX (s:ByteArray) (p q r:Nat) (hq:q=p+1) (hr:r=p+2) (h1:p<s.size) (h2:q<s.size):s.data.toList.take r=s.data.toList.take p++[s[p],s[q]]:=by subst hq hr;rw[show p+2=p+1+1 by omega,ZF s (p+1) h2,ZF s p B0,M3];rfl
theorem Zhg (cs ps:ByteArray) (bc bp bz ba bn:Nat) (s:ByteArray) (h:Nat) (w:World) (hI:H9 w bc bp bz ba bn) (hA:ZH w bc bp bz cs ps 5) (hcs:cs.data.toList=Tw.cItf) (hps:ps.data.toList=Tw.pItf) (hs:s.size<=100000)
 (hev:s.size=2*h) (hdig:∀c∈s.data.toList,(Tw.pat Tw.cItf Tw.pItf 5 c).1.length=5):
 Calls prog 173 #[.string s,.pointer (some ⟨ba,0,none⟩)] w
  fun e w'=>e=.returned (strV (Tw.drawItf s.data.toList))∧Ext w w':=by
 have kc:=fun(w:World) (C:Array Value) (n c:Nat)=>jG (P:=prog) w 90 5 C n c underlying90 underlying5
 have HP:Hid (∀w',Ext w w'->∀c:UInt8,Calls prog 236 #[.int .u8 (c.toNat:Int),.pointer (some ⟨bc,0,none⟩),.pointer (some ⟨bp,0,none⟩),.pointer (some ⟨bz,0,none⟩)] w'
  fun e w''=>e=.returned (.tuple #[.string ⟨(Tw.pat Tw.cItf Tw.pItf 5 c).1.toArray⟩,.bool (Tw.pat Tw.cItf Tw.pItf 5 c).2])∧w'=w''):=
  A0 fun w' hx c=>by have h1:cs.size=10:=(by rw[Zf hcs];rfl);have h2:ps.size=50:=(by rw[Zf hps];rfl);have:=SY cs ps 5 c bc bp bz w' (hA.ext hx) (.inl rfl) B0 B0;rw[hcs,hps]at this;exact F3
 have HI:=A0 hI
 have HD:=A0 hdig
 have HE:=A0 hev
 have HT:=A0 (Tw.drawItf.eq_1 s.data.toList)
 generalize Tw.drawItf s.data.toList=res at*
 have hh:2*h<=s.size:=by omega
 have hh':s.size<=2*h:=by omega
 clear hI hA hdig hcs hps hev
 go_enter func173,ntmps173
 go_wp2
 clear kc
 go_loopw [5,4] (fun i c wr=>∃j:Nat,j<=h∧i=.int .i64 ((2*j:Nat):Int)∧OwnG 5 wr w.heap.size c (([110,110,110,110]++Tw.drawPairs (s.data.toList.take (2*j))).map encB)∧Hid ((Tw.drawPairs (s.data.toList.take (2*j))).length=10*j)∧Ext w wr) (fun i _ _=>s.size-(intOf i).toNat)
 case atStart=>refine⟨0,O0 _,rfl,.inr ⟨w.heap.size,rfl,K0 _,by simp,?_⟩,rfl,Xe⟩;intro j u hu;rw[World.cell?_alloc_mark];simp only[NX,XV,Tw.drawPairs]at hu;simpa[encB]using hu
 case round=>
  obtain⟨j,hj,rfl,hown,HL,hxr⟩:=hrel;by_cases hlt:j<h
  ·have hz2:∀x:Zx wr,x.at'.cell? ⟨ba,1,none⟩=_:=fun x=>(HI.out.ext (hxr.trans x.ext)).a1;have HQ:=A0 (fun(x:Zx wr)=>HP.out x.at' (hxr.trans x.ext));obtain⟨p,hp⟩:∃p,2*j=p:=⟨_,rfl⟩;obtain⟨q,hq⟩:∃q,p+1=q:=⟨_,rfl⟩;have k1:p<s.size:=B0;have k2:q<s.size:=B0;have HTT:=A0 (ZlX s p q (2*(j+1)) hq.symm B0 k1 k2);rw[hp]at hown HL;have HDA:=A0 (jF j (s.data.toList.take p) [s[p],s[q]] (by rw[XG s p B0];omega));rw[<-HTT.out]at HDA;have HPQ:Hid (p=2*j∧q=2*j+1):=A0 B0;have hpq:(p:Int)+1=(q:Int):=B0;have hp':((2*j:Nat):Int)=(p:Int):=B0;rw[hp'];clear hp hq hp';have d1:decide (p<s.size)=true:=(by simpa using k1);have la:=HD.out s[p] (Zn s p k1);have lb:=HD.out s[q] (Zn s q k2);have HQ1:=A0 (fun x=>HQ.out x s[p]);have HQ2:=A0 (fun(x:Zx wr) (y:Zx x.at')=>HP.out y.at' ((hxr.trans x.ext).trans y.ext) s[q]);simp only[Tw.drawPairs,P3]at HDA;generalize(Tw.pat Tw.cItf Tw.pItf 5 s[p]).1=pa at*;generalize(Tw.pat Tw.cItf Tw.pItf 5 s[q]).1=pb at*;generalize(Tw.pat Tw.cItf Tw.pItf 5 s[p]).2=oa at*;generalize(Tw.pat Tw.cItf Tw.pItf 5 s[q]).2=ob at*;obtain⟨PA,rfl⟩:∃D:ByteArray,pa=D.data.toList:=⟨⟨pa.toArray⟩,by simp⟩;obtain⟨PB,rfl⟩:∃D:ByteArray,pb=D.data.toList:=⟨⟨pb.toArray⟩,by simp⟩;rw[Z4]at HQ1 HQ2;rw[Zd]at la lb;clear HP HQ;go_wp2;refine D6 (C:=fun w'=>∃x:Zx wr,w'=x.at') G0 G0 (Zx.drawn _) ?_;(try dsimp only);(repeat(first|go_big_quiet_step ((go_at_call 236;exact Zu ((HQ1.out _).mono fun _ _ h=>⟨h.1,h.2▸Ext.refl _⟩)))|quiet_step ((go_at_call 236;exact Zu ((HQ1.out _).mono fun _ _ h=>⟨h.1,h.2▸Ext.refl _⟩)))));refine E6 ?_;intro _ hx0;obtain⟨x0,hx0⟩:=hx0;subst hx0;obtain⟨w3,hx3⟩:=x0;(try dsimp only);have hz3:∀x:Zx w3,x.at'.cell? ⟨ba,1,none⟩=_:=fun x=>hz2 ⟨x.at',hx3.trans x.ext⟩;go_wp2;refine D6 (C:=fun w'=>∃x:Zx w3,w'=x.at') G0 G0 (Zx.drawn _) ?_;(try dsimp only);(repeat(first|go_big_quiet_step ((go_at_call 236;exact Zu ((HQ2.out ⟨w3,hx3⟩ _).mono fun _ _ h=>⟨h.1,h.2▸Ext.refl _⟩)))|quiet_step ((go_at_call 236;exact Zu ((HQ2.out ⟨w3,hx3⟩ _).mono fun _ _ h=>⟨h.1,h.2▸Ext.refl _⟩)))));refine E6 ?_;intro _ hx0;obtain⟨x0,hx0⟩:=hx0;subst hx0;obtain⟨w4,hx4⟩:=x0;(try dsimp only);have hz4:=(HI.out.ext ((hxr.trans hx3).trans hx4)).a0;replace hown:=hown.ext (hx3.trans hx4);replace hxr:=(hxr.trans hx3).trans hx4;clear hx3 hx4 hz2 hz3 HQ1 HQ2 HD;obtain⟨wo,rfl⟩:∃wo:World,wo=w4:=⟨_,rfl⟩;go_wp2;clear hz4;go_loopw [40,4] (fun i c wq=>∃k:Nat,k<=5∧i=.int .i64 (k:Int)∧OwnG 5 wq w.heap.size c (([110,110,110,110]++Tw.drawPairs (s.data.toList.take p)++Tw.mix (PA.data.toList.take k) (PB.data.toList.take k)).map encB)∧Ext w wq) (fun i _ _=>5-(intOf i).toNat);(case atStart=>exact⟨0,O0 _,rfl,by simpa[Tw.mix]using hown,hxr⟩);case round=>
    obtain⟨k,hk,rfl,hown,hxr⟩:=hrel;by_cases hlt5:k<5
    ·have ka:k<PA.size:=B0;have kb:k<PB.size:=B0;have HM:=A0 (Zlo PA.data.toList PB.data.toList k (by rw[Zd];exact ka) (by rw[Zd];exact kb));have hmx:(Tw.mix (PA.data.toList.take k) (PB.data.toList.take k)).length<=2*k:=B4 (jD _ _) X3;have hdl:(Tw.drawPairs (s.data.toList.take p)).length<=10*j:=(by rw[HL.out];omega);generalize hL: [110,110,110,110]++Tw.drawPairs (s.data.toList.take p)++Tw.mix (PA.data.toList.take k) (PB.data.toList.take k)=L at*;have hLl:L.length<=2000000:=(by rw[<-hL];simp only[T0,D1,O4];omega);obtain⟨v',w5,hrun,hown5,hg5⟩:=zN (w:=(wr.alloc (.cells #[encB PA[k],encB PB[k]] 5)).drew) 90 5 (.int .u8 0) 1 underlying90 VI rfl I0 w.heap.size u4 (L.map encB) (hown.ext ((Ext.refl _).alloc _).drew) wr.heap.size 0 2 2 [encB PA[k],encB PB[k]] rfl I0
      (fun j u hj=>by
       match j with
       |0=>simp only[B3,I2]at hj;subst hj;simp[go_sem]
       |1=>simp only[D5,B3,I2]at hj;subst hj;simp[go_sem]
       |j+2=>simp at hj)
      (fun u hu=>by simp only[V3,D8,E8]at hu;rcases hu with rfl|rfl<;>rfl)
      A3 (by have:=hxr.size;simp;omega)
     have hx5:Ext w w5:=((hxr.alloc (.cells #[encB PA[k],encB PB[k]] 5)).drew).ofGrown hg5 hown.low;have HO5:Hid (OwnG 5 w5 w.heap.size v' (([110,110,110,110]++Tw.drawPairs (s.data.toList.take p)++Tw.mix (PA.data.toList.take (k+1)) (PB.data.toList.take (k+1))).map encB)):=A0 (by rw[HM.out,<-M3,hL,E3];exact .inl hown5);clear hown5 hg5 hown hL hmx hdl;unfold encB at hrun;go_wp2;go_region_law ((refine zO E4 _ _ _ E4 E4 _ _ E4 E4 _ _ hrun ?_));all_goals go_wp2;go_roundw;(case rel=>exact⟨k+1,by omega,by go_num,HO5.out,hx5⟩);case measure=>exact Q8
    ·obtain rfl:k=5:=B0;have ta:PA.data.toList.take 5=PA.data.toList:=(by rw[<-la];exact Z3 PA);have tb:PB.data.toList.take 5=PB.data.toList:=(by rw[<-lb];exact Z3 PB);rw[ta,tb,M3,<-HDA.out]at hown;have HLL:Hid ((Tw.drawPairs (s.data.toList.take (2*(j+1)))).length=10*(j+1)):=A0 (by rw[HDA.out,T0,HL.out,jE _ _ 5 (by rw[Zd];exact la) (by rw[Zd];exact lb)];omega);clear ta tb hlt5 hk;go_wp2;go_roundw;(case rel=>exact⟨j+1,by omega,by rw[show((2*(j+1):Nat):Int)=(p:Int)+2 by have:=HPQ.out;omega],hown,HLL,hxr⟩);case measure=>exact Q8
  ·obtain rfl:j=h:=B0;obtain⟨p,hp⟩:∃p,2*j=p:=⟨_,rfl⟩;have hta:s.data.toList.take (2*j)=s.data.toList:=(by rw[show 2*j=s.size by omega,Z3]);rw[hta]at hown;have hcv:=Zr hown.sl;rw[hta]at HL;have hLl:([110,110,110,110]++Tw.drawPairs s.data.toList).length<=2000000:=(by simp only[T0,D1,O4,HL.out];omega);generalize [110,110,110,110]++Tw.drawPairs s.data.toList=L at*;obtain⟨D,rfl⟩:∃D:ByteArray,L=D.data.toList:=⟨⟨L.toArray⟩,by simp⟩;rw[Z4]at hcv;rw[Zd]at hLl;rw[hp];have d1:decide (p<s.size)=false:=S0;clear hj hlt hta hp HL;go_wp2;go_ret;exact⟨by rw[HT.out];exact UB L0,hxr⟩
theorem jH:∀(j:Nat) (l:List UInt8) (_:2*j+1<l.length),Tw.evens (l.take (2*(j+1)))=Tw.evens (l.take (2*j))++[l.getD (2*j) 0]
 |0,a::b::l,_=>by simp[Tw.evens]
 |0,[],h=>by simp at h
 |0,[_],h=>by simp at h
 |j+1,[],h=>by simp at h
 |j+1,[_],h=>by simp at h
 |j+1,a::b::l,h=>by simp only[D1]at h;have:=jH j l B0;have e1:(a::b::l).take (2*(j+1+1))=a::b::l.take (2*(j+1)):=jI;have e2:(a::b::l).take (2*(j+1))=a::b::l.take (2*j):=FT;have e3:(a::b::l).getD (2*(j+1)) 0=l.getD (2*j) 0:=FT;rw[e1,e2,e3,Tw.evens,Tw.evens,this,J3]
theorem jJ:∀(j:Nat) (l:List UInt8) (_:2*j+1<l.length),Tw.odds (l.take (2*(j+1)))=Tw.odds (l.take (2*j))++[l.getD (2*j+1) 0]
 |0,a::b::l,_=>by simp[Tw.odds]
 |0,[],h=>by simp at h
 |0,[_],h=>by simp at h
 |j+1,[],h=>by simp at h
 |j+1,[_],h=>by simp at h
 |j+1,a::b::l,h=>by simp only[D1]at h;have:=jJ j l B0;have e1:(a::b::l).take (2*(j+1+1))=a::b::l.take (2*(j+1)):=jI;have e2:(a::b::l).take (2*(j+1))=a::b::l.take (2*j):=FT;have e3:(a::b::l).getD (2*(j+1)+1) 0=l.getD (2*j+1) 0:=(by rw[show 2*(j+1)+1=2*j+1+1+1 by omega];rfl);rw[e1,e2,e3,Tw.odds,Tw.odds,this,J3]
theorem jK:∀l:List UInt8,(Tw.evens l).length<=l.length
 | []=>by simp[Tw.evens]
 | [_]=>by simp[Tw.evens]
 |_::_::l=>by have:=jK l;simp only[Tw.evens,D1];omega
theorem jL:∀l:List UInt8,(Tw.odds l).length<=l.length
 | []=>by simp[Tw.odds]
 | [_]=>by simp[Tw.odds]
 |_::_::l=>by have:=jL l;simp only[Tw.odds,D1];omega
theorem ZmV (l:List UInt8):Lib.hasPrefix l [110,110,110,110]=decide (l.take 4=[110,110,110,110]):=by
 unfold Lib.hasPrefix;rw[C4,List.isPrefixOf_iff_prefix,Y1];constructor;·rintro⟨t,rfl⟩;simp
 ·intro h;exact⟨l.drop 4,by rw[<-h,J7]⟩
theorem FU {α:Type} (f g:α->UInt8):∀l:List α,(l.flatMap fun k=>[f k,g k]).length=2*l.length
 | []=>rfl
 |_::l=>by rw[F8,T0,FU f g l];simp only[D1,O4];omega
def jM:Value->Nat
 | .string s=>s.size
 |_=>0
theorem Zhz (cs ps:ByteArray) (bc bp bz:Nat) (e:ByteArray) (n:Nat) (w:World) (hA:ZH w bc bp bz cs ps 5) (hcs:cs.data.toList=Tw.cItf) (hps:ps.data.toList=Tw.pItf) (hn:e.size=7+10*n) (hn1:1<=n) (hn2:n<=10000):
 Calls prog 174 #[H8 5 bc bp bz,.string e] w
  fun en w'=>en=.returned (.tuple #[strV (Tw.readItf e.data.toList).1,.int .i64 (Tw.readItf e.data.toList).2])∧Ext w w':=by
 have HP:Hid (∀w',Ext w w'->∀p:ByteArray,Calls prog 237 #[.string p,.pointer (some ⟨bc,0,none⟩),.pointer (some ⟨bp,0,none⟩),.pointer (some ⟨bz,0,none⟩)] w'
  fun e w''=>e=.returned (.tuple #[.int .u8 ((Tw.chr Tw.cItf Tw.pItf 5 p.data.toList).1.toNat:Int),.bool (Tw.chr Tw.cItf Tw.pItf 5 p.data.toList).2])∧w'=w''):=
  A0 fun w' hx p=>by have h1:cs.size=10:=(by rw[Zf hcs];rfl);have h2:ps.size=50:=(by rw[Zf hps];rfl);have:=FM cs ps 5 p bc bp bz w' (hA.ext hx) (.inl rfl) B0 B0;rw[hcs,hps]at this;exact F3
 have HT:=A0 (Tw.readItf.eq_1 e.data.toList)
 have HF:=A0 (Tryz.strings_HasPrefix e ⟨#[110,110,110,110]⟩)
 change Hid (∀w,Calls prog 177 #[.string e,.string ⟨#[110,110,110,110]⟩] w fun en w'=>en=.returned (.bool (Lib.hasPrefix e.data.toList [110,110,110,110]))∧w'=w)at HF
 rw[ZmV]at HF
 rw[Zd,show(e.size-7)/10=n by omega]at HT
 generalize Tw.readItf e.data.toList=res at*
 clear hA hcs hps
 have hs:e.size<=1000000:=by omega
 have HN:=A0 hn
 clear hn
 unfold H8
 by_cases h4:e.data.toList.take 4=[110,110,110,110]
 ·rw[C0 (fun h=>h h4)]at HT;rw[V0 h4]at HF;have HN0:=A0 (show 17<=e.size by have:=HN.out;omega);have hs17:=HN0.out;have hn3:((e.size:Int)-3).toNat=e.size-3:=B0;clear h4;go_enter func174,ntmps174;go_wp2_with fail;refine(HF.out _).mono ?_;rintro en w1 ⟨rfl,rfl⟩;go_wp2;go_quiet (fail);go_wp2;obtain⟨w0,hw0⟩:∃w0,(w.alloc (.cells #[.int .i64 5,.func (.func 236) #[] #[.pointer (some ⟨bc,0,none⟩),.pointer (some ⟨bp,0,none⟩),.pointer (some ⟨bz,0,none⟩)],.func (.func 237) #[] #[.pointer (some ⟨bc,0,none⟩),.pointer (some ⟨bp,0,none⟩),.pointer (some ⟨bz,0,none⟩)]] 102)).drewN nq=w0:=⟨_,rfl⟩;have F0:Hid (w0.cell? ⟨w.heap.size,0,none⟩=some (.int .i64 5)):=A0 (by rw[<-hw0];simp[go_sem]);have F2:Hid (w0.cell? ⟨w.heap.size,2,none⟩=some (.func (.func 237) #[] #[.pointer (some ⟨bc,0,none⟩),.pointer (some ⟨bp,0,none⟩),.pointer (some ⟨bz,0,none⟩)])):=A0 (by rw[<-hw0];simp[go_sem]);have hx0:Ext w w0:=(by rw[<-hw0];exact((Ext.refl _).alloc _).drewN _);have hl0:w.heap.size<w0.heap.size:=(by rw[<-hw0];simp);rw[hw0];obtain⟨ST,hST⟩:∃ST,e.extract (e.size-3) e.size=ST:=⟨_,rfl⟩;have HST:Hid (e.data.toList.drop (e.size-3)=ST.data.toList):=A0 (by rw[<-hST,ZD]);rw[hST];rw[HST.out]at HT;clear hST hw0 HF hn3;go_loopw [6,8] (fun c d wr=>∃(i:Nat) (P:ByteArray),i<=n∧c=.string P∧Hid (P.data.toList=(e.data.toList.drop (4+10*i)).take (10*(n-i)))∧Own 5 wr w0.heap.size d (((List.range i).flatMap fun k=>[(Tw.digA e.data.toList k).1,(Tw.digB e.data.toList k).1]).map encB)∧Hid (∀m,m<i->Tw.pairOk e.data.toList m=true)∧Ext w0 wr) (fun c _ _=>jM c);(case atStart=>refine⟨0,_,O0 _,rfl,A0 ?_,Own.nil _ _ _,A0 (fun m hm=>absurd hm (W7 _)),Ext.refl _⟩;rw[Z0];congr 1;exact I8);case round=>obtain⟨i,P,hi,rfl,HPP,hown,HB,hxr⟩:=hrel;have hps:P.size=10*(n-i):=(by rw[Zf HPP.out,M1,X2,Zd];exact I8);have HPS:=A0 hps;by_cases hlt:i<n;(·have hp10:10<=P.size:=B0;have hpe:P.toList.isEmpty=false:=(by rw[C2,ON];exact jN);have hpz:¬P.toList=[]:=(by rw[C2];exact jN);have hc0:wr.cell? ⟨w.heap.size,0,none⟩=some (.int .i64 5):=(by rw[hxr.cell (p:=⟨w.heap.size,0,none⟩) hl0];exact F0.out);have hpb:P.size<=1000000:=B0;clear hps;obtain⟨wo,rfl⟩:∃wo:World,wo=wr:=⟨_,rfl⟩;go_wp2;clear hc0;go_loopw [38,9,10] (fun j b s wq=>∃k:Nat,k<=5∧j=.int .i64 (k:Int)∧Own 5 wq wo.heap.size b ((Tw.evens (P.data.toList.take (2*k))).map encB)∧Own 5 wq wo.heap.size s ((Tw.odds (P.data.toList.take (2*k))).map encB)∧ZL b s∧Ext wo wq) (fun j _ _ _=>5-(intOf j).toNat);(case atStart=>exact jO);case round=>obtain⟨k,hk,rfl,hob,hos,hap,hxq⟩:=hrel;by_cases hlt5:k<5;(·obtain⟨p,hp⟩:∃p,2*k=p:=⟨_,rfl⟩;obtain⟨q,hq⟩:∃q,p+1=q:=⟨_,rfl⟩;have k1:p<P.size:=B0;have k2:q<P.size:=B0;have hE:=jH k P.data.toList YN;have hO:=jJ k P.data.toList YN;rw[hp,hq,NU P q k2]at hO;rw[hp,NU P p k1]at hE;rw[hp]at hob hos;have le:=jK (P.data.toList.take p);have lo:=jL (P.data.toList.take p);rw[XG P p B0]at le lo;have HE:=A0 hE;have HO:=A0 hO;have hmp:2*(k:Int)=(p:Int):=B0;have hpq:(p:Int)+1=(q:Int):=B0;have hle:p<=10:=B0;clear hE hO hp hq;generalize Tw.evens (P.data.toList.take p)=le1 at*;generalize Tw.odds (P.data.toList.take p)=lo1 at*;go_wp2_with (at_builtin;refine vD rfl _ _ rfl wo.heap.size _ le1 rfl (hob.alloc _) _ P[p] rfl ?c1 ?c2 ?c3 ?_);(case c1=>simp[go_sem,encB]);(case c2=>omega);(case c3=>have:=hxq.size;exact S0);intro v1 w1 hob1 hg1 hat1;have hos1:=(hos.alloc _).beside hg1 hap;have hap1:ZL v1 _:=ZL.grow hap hos _ L0 hat1;have hx1:=(hxq.alloc _).ofGrown hg1 hob.low;clear hob hos hap hxq hg1 hat1;go_wp2_with (at_builtin;refine vD rfl _ _ rfl wo.heap.size _ lo1 rfl (hos1.alloc _) _ P[q] rfl ?d1 ?d2 ?d3 ?_);(case d1=>simp[go_sem,encB]);(case d2=>omega);(case d3=>have:=hx1.size;exact S0);intro v2 w2 hos2 hg2 hat2;have hob2:=(hob1.alloc _).beside hg2 hap1.symm;have hap2:ZL v2 _:=ZL.grow hap1.symm hob1 _ L0 hat2;have hx2:=(hx1.alloc _).ofGrown hg2 hos1.low;clear hob1 hos1 hap1 hx1 hg2 hat2;go_wp2;go_roundw;(case rel=>exact⟨k+1,by omega,by go_num,by rw[HE.out,E3];exact hob2,by rw[HO.out,E3];exact hos2,hap2.symm,hx2⟩);case measure=>exact Q8);·obtain rfl:k=5:=B0;have hpa:P.data.toList.take (2*5)=Tw.pairAt e.data.toList i:=(by rw[HPP.out,UC,show min (2*5) (10*(n-i))=10 by omega];rfl);rw[hpa]at hob hos;have hcv1:=Zr hob.sl;have hcv2:=Zr hos.sl;have hc2:wr.cell? ⟨w.heap.size,2,none⟩=some (.func (.func 237) #[] #[.pointer (some ⟨bc,0,none⟩),.pointer (some ⟨bp,0,none⟩),.pointer (some ⟨bz,0,none⟩)]):=(by rw[(hxr.trans hxq).cell (p:=⟨w.heap.size,2,none⟩) hl0];exact F2.out);have HC1:=A0 (HP.out wr ((hx0.trans hxr).trans hxq) ⟨(Tw.evens (Tw.pairAt e.data.toList i)).toArray⟩);have HC2:=A0 (HP.out wr ((hx0.trans hxr).trans hxq) ⟨(Tw.odds (Tw.pairAt e.data.toList i)).toArray⟩);have HDA:Hid (Tw.chr Tw.cItf Tw.pItf 5 (Tw.evens (Tw.pairAt e.data.toList i))=Tw.digA e.data.toList i):=A0 rfl;have HDB:Hid (Tw.chr Tw.cItf Tw.pItf 5 (Tw.odds (Tw.pairAt e.data.toList i))=Tw.digB e.data.toList i):=A0 rfl;simp only[HDA.out]at HC1;simp only[HDB.out]at HC2;have HOK:=A0 (Tw.pairOk.eq_1 e.data.toList i);replace hown:=hown.ext hxq;have hfl:(List.range (i+1)).flatMap (fun k=>[(Tw.digA e.data.toList k).1,(Tw.digB e.data.toList k).1])=(List.range i).flatMap (fun k=>[(Tw.digA e.data.toList k).1,(Tw.digB e.data.toList k).1])++[(Tw.digA e.data.toList i).1,(Tw.digB e.data.toList i).1]:=(by rw[NY,VD];simp);have HFL:=A0 hfl;have hgl:((List.range i).flatMap (fun k=>[(Tw.digA e.data.toList k).1,(Tw.digB e.data.toList k).1])).length<=2*i:=(by rw[FU,O6];omega);clear hfl hpa HDA HDB;generalize(List.range i).flatMap (fun k=>[(Tw.digA e.data.toList k).1,(Tw.digB e.data.toList k).1])=got at*;generalize(⟨(Tw.evens (Tw.pairAt e.data.toList i)).toArray⟩:ByteArray)=SA at*;generalize(⟨(Tw.odds (Tw.pairAt e.data.toList i)).toArray⟩:ByteArray)=SB at*;generalize Tw.digA e.data.toList i=da at*;generalize Tw.digB e.data.toList i=db at*;obtain⟨ca,oa⟩:=da;obtain⟨cb,ob⟩:=db;clear hob hos hap;replace hxq:=hxr.trans hxq;cases hoo:(oa&&ob);(·have hno:¬((List.range n).all (Tw.pairOk e.data.toList)=true):=(by intro h;rw[U1]at h;have:=h i (by simpa using hlt);rw[HOK.out,hoo]at this;exact NR);rw[UD]at hno;rw[D0 hno]at HT;clear hno;cases oa;(·exact jP);·obtain rfl:ob=false:=(by simpa using hoo);exact jP);·rw[M2]at hoo;obtain⟨rfl,rfl⟩:=hoo;have hc0:wr.cell? ⟨w.heap.size,0,none⟩=some (.int .i64 5):=(by rw[hxq.cell (p:=⟨w.heap.size,0,none⟩) hl0];exact F0.out);have HBN:Hid (∀m,m<i+1->Tw.pairOk e.data.toList m=true):=A0 (fun m hm=>by rcases XT (XU hm)with h|rfl;(·exact HB.out m h);·rw[HOK.out];rfl);have HPN:Hid ((P.extract 10 P.size).data.toList=(e.data.toList.drop (4+10*(i+1))).take (10*(n-(i+1)))):=A0 (by rw[ZD,HPP.out,RE,W5,show 10*(n-i)-10=10*(n-(i+1)) by omega,show 4+10*i+10=4+10*(i+1) by omega]);go_wp2_with fail;refine HC1.out.mono ?_;rintro en w5 ⟨rfl,rfl⟩;go_wp2_with fail;refine HC2.out.mono ?_;rintro en w5 ⟨rfl,rfl⟩;go_wp2_with (at_builtin;refine Zil rfl _ _ rfl w0.heap.size _ got rfl (hown.alloc _) _ ca cb rfl ?c1 ?c2 ?c3 ?c4 ?_);(case c1=>simp[go_sem,encB]);(case c2=>simp[go_sem,encB]);(case c3=>omega);(case c4=>have:=hxq.size;exact S0);intro v1 w1 hown1 hg1 hat1;have hx1:=(hxq.alloc _).ofGrown hg1 hown.low;have hc3:w1.cell? ⟨w.heap.size,0,none⟩=some (.int .i64 5):=(by rw[hx1.cell (p:=⟨w.heap.size,0,none⟩) hl0];exact F0.out);clear hc0 hc2 hcv1 hcv2 hown hg1 hat1;go_wp2;go_roundw;(case rel=>exact⟨i+1,_,by omega,rfl,HPN,by rw[HFL.out,E3];exact hown1,HBN,hx1⟩);case measure=>simp[jM];omega);·obtain rfl:i=n:=B0;have hpz:P.size=0:=B0;have hpe:P=⟨#[]⟩:=(by apply Zl;exact L4 (by rw[Zd];exact hpz));subst hpe;have hal:¬((List.range i).all (Tw.pairOk e.data.toList)=false):=(by rw[UE,U1];intro m hm;exact HB.out m T8);rw[C0 hal]at HT;have hcv:=Zr hown.sl;clear hal hpz hps hi hlt;by_cases hst:ST.data.toList=[119,110,110];(·rw[C0 (fun h=>h hst)]at HT;have hs1:ST.toList=[119,110,110]:=(by rw[C2];exact hst);exact jQ);·rw[D0 hst]at HT;have hs1:(ST.toList== [119,110,110])=false:=(by rw[C2];simpa using hst);exact jQ
 ·rw[D0 h4]at HT;rw[X0 h4]at HF;go_enter func174,ntmps174;go_wp2_with fail;refine(HF.out _).mono ?_;rintro en w1 ⟨rfl,rfl⟩;go_wp2;go_ret2;exact⟨by rw[HT.out];rfl,Xe⟩
theorem Ext.cells {W w1:World} (hb:Ext W w1):(∀b o,b<W.heap.size->w1.cell? ⟨b,o,none⟩=W.cell? ⟨b,o,none⟩)∧(∀b o,b<W.heap.size->w1.frozen? ⟨b,o,none⟩=W.frozen? ⟨b,o,none⟩):=
 ⟨fun b o h=>hb.cell (p:=⟨b,o,none⟩) h,fun b o h=>hb.frozen (p:=⟨b,o,none⟩) h⟩
structure ZN where
 z:Nat
 pf:Nat
 pc:Array Value
 hf:Nat
 hc:Array Value
 cf:Nat
 cc:Array Value
 mf:Nat
 df:Nat
 dc:Array Value
 rf:Nat
 rr:Array Value
 rc:Array Value
 tf:Nat
def ZN.val (F:ZN):Value:=
 .agg #[.int .i64 (F.z:Int),.func (.func F.pf) #[] F.pc,.func (.func F.hf) #[] F.hc,.func (.func F.cf) #[] F.cc,.func (.func F.mf) #[] #[],.func (.func F.df) #[] F.dc,.func (.func F.rf) F.rr F.rc,.func (.func F.tf) #[] #[]]
def Zk3 (k:Nat) (l:List UInt8):Prop:=l.length<=10000∧(k=2->l.length%2=0∧∀c∈l,(Tw.pat Tw.cItf Tw.pItf 5 c).1.length=5)
def RF (k:Nat):Nat:=3-k
def Z5 (B:Nat) (w w':World):Prop:=w.heap.size<=w'.heap.size∧∀b o,B<=b->b<w.heap.size->w'.cell? ⟨b,o,none⟩=w.cell? ⟨b,o,none⟩
theorem Z5.refl (B:Nat) (w:World):Z5 B w w:=⟨K0 _,fun _ _ _ _=>rfl⟩
theorem Z5.of_ext {w w':World} (B:Nat) (h:Ext w w'):Z5 B w w':=⟨h.size,fun b o _ hb=>h.cell (p:=⟨b,o,none⟩) hb⟩
theorem Z5.trans {B:Nat} {a b c:World} (h:Z5 B a b) (k:Z5 B b c):Z5 B a c:=
 ⟨B4 h.1 k.1,fun x o h1 h2=>by rw[k.2 x o h1 (G2 h2 h.1)];exact h.2 x o h1 h2⟩
theorem Z5.setCell {B:Nat} {w w':World} (h:Z5 B w w') {p:Addr} (hp:p.block<B) (u:Value):Z5 B w (w'.setCell p u):=by refine⟨by simpa using h.1,fun b o h1 h2=> ?_⟩;rw[VX _ _ _ _ (by intro e;subst e;simp only at hp;omega)];exact h.2 b o h1 h2
theorem ZH.above {B:Nat} {w w':World} {bc bp bz:Nat} {cs ps:ByteArray} {z:Nat} (h:ZH w bc bp bz cs ps z) (hk:Z5 B w w') (h1:B<=bc) (h2:B<=bp) (h3:B<=bz):ZH w' bc bp bz cs ps z:=
 ⟨by rw[hk.2 _ _ h1 h.lc];exact h.c,by rw[hk.2 _ _ h2 h.lp];exact h.p,by rw[hk.2 _ _ h3 h.lz];exact h.z,G2 h.lc hk.1,G2 h.lp hk.1,G2 h.lz hk.1⟩
theorem ZC.above {B:Nat} {w w':World} {z bc bp bz ba be bi bl bm:Nat} {edge inner:ByteArray} {least most:Nat} (h:ZC w z bc bp bz ba be bi bl bm edge inner least most)
 (hk:Z5 B w w') (h1:B<=ba) (h2:B<=be) (h3:B<=bi) (h4:B<=bl) (h5:B<=bm):ZC w' z bc bp bz ba be bi bl bm edge inner least most:=
 ⟨by rw[hk.2 _ _ h1 h.la];exact h.a0,by rw[hk.2 _ _ h1 h.la];exact h.a1,by rw[hk.2 _ _ h1 h.la];exact h.a2,
  by rw[hk.2 _ _ h2 h.le];exact h.e,by rw[hk.2 _ _ h3 h.li];exact h.i,by rw[hk.2 _ _ h4 h.ll];exact h.l,by rw[hk.2 _ _ h5 h.lm];exact h.m,
  G2 h.la hk.1,G2 h.le hk.1,G2 h.li hk.1,G2 h.ll hk.1,G2 h.lm hk.1⟩
theorem H9.above {B:Nat} {w w':World} {bc bp bz ba bn:Nat} (h:H9 w bc bp bz ba bn) (hk:Z5 B w w') (h1:B<=ba) (h2:B<=bn):H9 w' bc bp bz ba bn:=
 ⟨by rw[hk.2 _ _ h1 h.la];exact h.a0,by rw[hk.2 _ _ h1 h.la];exact h.a1,by rw[hk.2 _ _ h2 h.ln];exact h.n,G2 h.la hk.1,G2 h.ln hk.1⟩
def UF (f:Nat):Prop:=∀xs w,(callFunc f xs).run prog w=.ok (.enter f xs) w
def ZN.Enter (F:ZN):Prop:=UF F.pf∧UF F.cf∧UF F.mf∧UF F.df∧UF F.rf∧UF F.tf
structure J8 (B:Nat) (w:World) (k:Nat) (F:ZN):Prop where
 pat:∀w',Z5 B w w'->∀c:UInt8,Calls prog F.pf (#[.int .u8 (c.toNat:Int)]++F.pc) w' fun e w''=>e=.returned (.tuple #[strV (Tw.patK k c).1,.bool (Tw.patK k c).2])∧w'=w''
 counts:∀w',Z5 B w w'->∀(n:Nat) (check:Bool),n<=9223372036854775806->Calls prog F.cf (#[.int .i64 (n:Int),.bool check]++F.cc) w' fun e w''=>e=.returned (.bool (Tw.countsK k n check))∧w'=w''
 comp:∀w',Z5 B w w'->∀(s:ByteArray) (check:Bool),s.size<=1000000->Calls prog F.mf #[.string s,.bool check] w' fun e w''=>e=.returned (.tuple #[strV (Tw.compK k s.data.toList check).1,.int .i64 (Tw.compK k s.data.toList check).2])∧Ext w' w''
 draw:∀w',Z5 B w w'->∀s:ByteArray,Zk3 k s.data.toList->Calls prog F.df (#[.string s]++F.dc) w' fun e w''=>e=.returned (strV (Tw.drawK k s.data.toList))∧Ext w' w''
 read:∀w',Z5 B w w'->∀(s:ByteArray) (check:Bool),Tw.countsK k s.size check=true->Calls prog F.rf (F.rr++ #[.string s]++F.rc) w' fun e w''=>e=.returned (.tuple #[strV (Tw.readK k s.data.toList).1,.int .i64 (Tw.readK k s.data.toList).2])∧Ext w' w''
 text:∀w',Z5 B w w'->∀(s:ByteArray) (check:Bool),s.size<=1000000->RF k<=s.size->Calls prog F.tf #[.string s,.bool check] w' fun e w''=>e=.returned (strV (Tw.textK k s.data.toList check))∧Ext w' w''
 ent:F.Enter
theorem J8.above {B:Nat} {w w':World} {k:Nat} {F:ZN} (h:J8 B w k F) (hx:Z5 B w w'):J8 B w' k F:=
 ⟨fun w1 h1=>h.pat w1 (hx.trans h1),fun w1 h1=>h.counts w1 (hx.trans h1),fun w1 h1=>h.comp w1 (hx.trans h1),fun w1 h1=>h.draw w1 (hx.trans h1),fun w1 h1=>h.read w1 (hx.trans h1),fun w1 h1=>h.text w1 (hx.trans h1),h.ent⟩
def UG (z bc bp bz ba be bi bl bm m t:Nat):ZN:=
 {z:=z,pf:=236,pc:= #[.pointer (some ⟨bc,0,none⟩),.pointer (some ⟨bp,0,none⟩),.pointer (some ⟨bz,0,none⟩)],
  hf:=237,hc:= #[.pointer (some ⟨bc,0,none⟩),.pointer (some ⟨bp,0,none⟩),.pointer (some ⟨bz,0,none⟩)],
  cf:=233,cc:= #[.pointer (some ⟨ba,0,none⟩),.pointer (some ⟨bl,0,none⟩),.pointer (some ⟨bm,0,none⟩)],mf:=m,
  df:=234,dc:= #[.pointer (some ⟨ba,0,none⟩)],rf:=235,rr:= #[],rc:= #[.pointer (some ⟨ba,0,none⟩),.pointer (some ⟨be,0,none⟩),.pointer (some ⟨bi,0,none⟩)],tf:=t}
def FV (bc bp bz ba bn:Nat):ZN:=
 {z:=5,pf:=236,pc:= #[.pointer (some ⟨bc,0,none⟩),.pointer (some ⟨bp,0,none⟩),.pointer (some ⟨bz,0,none⟩)],
  hf:=237,hc:= #[.pointer (some ⟨bc,0,none⟩),.pointer (some ⟨bp,0,none⟩),.pointer (some ⟨bz,0,none⟩)],
  cf:=171,cc:= #[.pointer (some ⟨bn,0,none⟩),.pointer (some ⟨ba,0,none⟩)],mf:=172,
  df:=173,dc:= #[.pointer (some ⟨ba,0,none⟩)],rf:=174,rr:= #[H8 5 bc bp bz],rc:= #[],tf:=175}
theorem ZlQ (B:Nat) (w:World) (bc bp bz ba be bi bl bm:Nat) (g1:B<=bc∧B<=bp∧B<=bz) (g2:B<=ba∧B<=be∧B<=bi∧B<=bl∧B<=bm) (cs ps edge inner:ByteArray) (hS:ZC w 9 bc bp bz ba be bi bl bm edge inner 1 1000) (hA:ZH w bc bp bz cs ps 9)
 (h1:cs.data.toList=Tw.c39) (h2:ps.data.toList=Tw.p39) (h3:edge.data.toList=[42]) (h4:inner.data.toList=Cd.syms):
 J8 B w 0 (UG 9 bc bp bz ba be bi bl bm 166 168):=by
 have s1:cs.size=44:=by rw[Zf h1];rfl
 have s2:ps.size=396:=by rw[Zf h2];exact E2
 refine⟨fun w' hx c=> ?_,fun w' hx n check hn=> ?_,fun w' hx s check hs=> ?_,fun w' hx s hd=> ?_,fun w' hx s check hc=> ?_,fun w' hx s check hs hl=> ?_,?_⟩
 ·have:=SY cs ps 9 c bc bp bz w' (hA.above hx g1.1 g1.2.1 g1.2.2) B0 B0 B0;exact RH
 ·exact kK 9 bc bp bz ba be bi bl bm edge inner 1 1000 n check w' B0 (hS.above hx g2.1 g2.2.1 g2.2.2.1 g2.2.2.2.1 g2.2.2.2.2) B0 B0 hn
 ·exact Zip s check w' hs
 ·have:=kN cs ps 9 bc bp bz ba be bi bl bm edge inner 1 1000 s w' (hS.above hx g2.1 g2.2.1 g2.2.2.1 g2.2.2.2.1 g2.2.2.2.2) (hA.above hx g1.1 g1.2.1 g1.2.2) B0 B0 B0 (by have:=hd.1;rw[Zd]at this;omega);exact RH
 ·have hc':Tw.counts 9 1 1000 s.size check=true:=hc;unfold Tw.counts at hc';simp only[M2,Y1]at hc';have hb:check.toNat<=1:=Bool.toNat_le check;have:=Zoj cs ps bc bp bz ba be bi bl bm edge inner 1 1000 s ((s.size+1)/10) w' (hS.above hx g2.1 g2.2.1 g2.2.2.1 g2.2.2.2.1 g2.2.2.2.2) (hA.above hx g1.1 g1.2.1 g1.2.2) B0 B0 B0 B0 B0;rw[h1,h2,h3,h4]at this;exact F3
 ·exact(ZiW s check w' hs hl).mono fun _ _ h=>⟨h.1,h.2▸Ext.refl _⟩
 ·exact FW
theorem ZlR (B:Nat) (w:World) (bc bp bz ba be bi bl bm:Nat) (g1:B<=bc∧B<=bp∧B<=bz) (g2:B<=ba∧B<=be∧B<=bi∧B<=bl∧B<=bm) (cs ps edge inner:ByteArray) (hS:ZC w 7 bc bp bz ba be bi bl bm edge inner 0 998) (hA:ZH w bc bp bz cs ps 7)
 (h1:cs.data.toList=Tw.cCb) (h2:ps.data.toList=Tw.pCb) (h3:edge.data.toList=Tw.eCb) (h4:inner.data.toList=Tw.dCb):
 J8 B w 1 (UG 7 bc bp bz ba be bi bl bm 169 170):=by
 have s1:cs.size=20:=by rw[Zf h1];rfl
 have s2:ps.size=140:=by rw[Zf h2];exact E2
 refine⟨fun w' hx c=> ?_,fun w' hx n check hn=> ?_,fun w' hx s check hs=> ?_,fun w' hx s hd=> ?_,fun w' hx s check hc=> ?_,fun w' hx s check hs hl=> ?_,?_⟩
 ·have:=SY cs ps 7 c bc bp bz w' (hA.above hx g1.1 g1.2.1 g1.2.2) B0 B0 B0;exact RH
 ·exact kK 7 bc bp bz ba be bi bl bm edge inner 0 998 n check w' B0 (hS.above hx g2.1 g2.2.1 g2.2.2.1 g2.2.2.2.1 g2.2.2.2.2) B0 B0 hn
 ·exact Ziq s check w' hs
 ·have:=kN cs ps 7 bc bp bz ba be bi bl bm edge inner 0 998 s w' (hS.above hx g2.1 g2.2.1 g2.2.2.1 g2.2.2.2.1 g2.2.2.2.2) (hA.above hx g1.1 g1.2.1 g1.2.2) B0 B0 B0 (by have:=hd.1;rw[Zd]at this;omega);exact RH
 ·have hc':Tw.counts 7 0 998 s.size check=true:=hc;unfold Tw.counts at hc';simp only[M2,Y1]at hc';have hb:check.toNat<=1:=Bool.toNat_le check;have:=Zoi cs ps bc bp bz ba be bi bl bm edge inner 0 998 s ((s.size+1)/8) w' (hS.above hx g2.1 g2.2.1 g2.2.2.1 g2.2.2.2.1 g2.2.2.2.2) (hA.above hx g1.1 g1.2.1 g1.2.2) B0 B0 B0 B0 B0;rw[h1,h2,h3,h4]at this;exact F3
 ·exact ZiX s check w' hs hl
 ·exact FW
theorem Zkq (B:Nat) (w:World) (bc bp bz ba bn:Nat) (g1:B<=bc∧B<=bp∧B<=bz) (g2:B<=ba∧B<=bn) (cs ps:ByteArray) (hI:H9 w bc bp bz ba bn) (hA:ZH w bc bp bz cs ps 5)
 (h1:cs.data.toList=Tw.cItf) (h2:ps.data.toList=Tw.pItf):J8 B w 2 (FV bc bp bz ba bn):=by
 have s1:cs.size=10:=by rw[Zf h1];rfl
 have s2:ps.size=50:=by rw[Zf h2];exact E2
 refine⟨fun w' hx c=> ?_,fun w' hx n check hn=> ?_,fun w' hx s check hs=> ?_,fun w' hx s hd=> ?_,fun w' hx s check hc=> ?_,fun w' hx s check hs hl=> ?_,?_⟩
 ·have:=SY cs ps 5 c bc bp bz w' (hA.above hx g1.1 g1.2.1 g1.2.2) B0 B0 B0;exact RH
 ·exact ZfF bc bp bz ba bn n check w' (hI.above hx g2.1 g2.2) hn
 ·exact Zhd s check w' hs
 ·have h0:=hd.1;have h3:=hd.2 rfl;rw[Zd]at h0 h3;exact Zhg cs ps bc bp bz ba bn s (s.size/2) w' (hI.above hx g2.1 g2.2) (hA.above hx g1.1 g1.2.1 g1.2.2) h1 h2 B0 B0 h3.2
 ·have hc':Tw.countsItf s.size=true:=hc;unfold Tw.countsItf at hc';simp only[M2,Y1]at hc';exact Zhz cs ps bc bp bz s ((s.size-7)/10) w' (hA.above hx g1.1 g1.2.1 g1.2.2) h1 h2 B0 B0 B0
 ·exact ZhB s check w' hs hl
 ·exact FW
theorem Zkp (w:World):Calls prog 102 #[] w fun e w'=>∃F:ZN,e=.returned F.val∧J8 (w.heap.size+1) w' 0 F∧Ext w w':=by
 go_enter func102,ntmps102;go_wp2_with fail;refine(FN _ _ 9 _ (.inl ⟨by decide+kernel,by decide+kernel,rfl⟩)).mono ?_;rintro e w1 ⟨bc,bp,bz,rfl,hA1,⟨u1,u2,u3⟩,hx1⟩;go_wp2_with fail;refine(kJ 9 bc bp bz _ _ 1 1000 _).mono ?_;rintro e w2 ⟨ba,be,bi,bl,bm,rfl,hS2,⟨u4,u5,u6,u7,u8⟩,hx2⟩;unfold RA;have hx3:=hx1.trans hx2;obtain⟨hc,hf⟩:=hx3.cells;have hz:w.heap.size<w2.heap.size:=by have:=hx3.size;exact D7
 have hz1:=hx1.size;simp at u1 u2 u3 hz1;go_wp2;refine V4 (v:=(UG 9 bc bp bz ba be bi bl bm 166 168).val) (by simp[results,results102,go_sem,ZN.val,UG,hc,hz]) rfl
  ⟨_,rfl,ZlQ _ _ bc bp bz ba be bi bl bm ⟨by omega,by omega,by omega⟩ ⟨by omega,by omega,by omega,by omega,by omega⟩ _ _ _ _ (hS2.keep (B:=w.heap.size) ?_ ?_ B0 B0 B0 B0 B0) ((hA1.ext hx2).keep (B:=w.heap.size) ?_ ?_ B0 B0 B0) K8 K8 K8 K8,?_⟩
 all_goals first
  |(
   intro b o h1 h2
   rw[NZ _ _ _ D9]
   repeat rw[VX _ _ _ _ FX])
  |(simp;done)
  |(
   refine Ext.alloc ?_ _
   repeat refine Ext.setCell ?_ (K0 _) _
   exact Ext.trans ((Ext.refl w).alloc _) hx3)
theorem Zkr (w:World):Calls prog 103 #[] w fun e w'=>∃F:ZN,e=.returned F.val∧J8 (w.heap.size+1) w' 1 F∧Ext w w':=by
 go_enter func103,ntmps103;go_wp2_with fail;refine(FN _ _ 7 _ (.inr (.inl ⟨by decide+kernel,by decide+kernel,rfl⟩))).mono ?_;rintro e w1 ⟨bc,bp,bz,rfl,hA1,⟨u1,u2,u3⟩,hx1⟩;go_wp2_with fail;refine(kJ 7 bc bp bz _ _ 0 998 _).mono ?_;rintro e w2 ⟨ba,be,bi,bl,bm,rfl,hS2,⟨u4,u5,u6,u7,u8⟩,hx2⟩;unfold RA;have hx3:=hx1.trans hx2;obtain⟨hc,hf⟩:=hx3.cells;have hz:w.heap.size<w2.heap.size:=by have:=hx3.size;exact D7
 have hz1:=hx1.size;simp at u1 u2 u3 hz1;go_wp2;refine V4 (v:=(UG 7 bc bp bz ba be bi bl bm 169 170).val) (by simp[results,results103,go_sem,ZN.val,UG,hc,hz]) rfl
  ⟨_,rfl,ZlR _ _ bc bp bz ba be bi bl bm ⟨by omega,by omega,by omega⟩ ⟨by omega,by omega,by omega,by omega,by omega⟩ _ _ _ _ (hS2.keep (B:=w.heap.size) ?_ ?_ B0 B0 B0 B0 B0) ((hA1.ext hx2).keep (B:=w.heap.size) ?_ ?_ B0 B0 B0) K8 K8 K8 K8,?_⟩
 all_goals first
  |(
   intro b o h1 h2
   rw[NZ _ _ _ D9]
   repeat rw[VX _ _ _ _ FX])
  |(simp;done)
  |(
   refine Ext.alloc ?_ _
   repeat refine Ext.setCell ?_ (K0 _) _
   exact Ext.trans ((Ext.refl w).alloc _) hx3)
theorem ZiU (w:World):Calls prog 104 #[] w fun e w'=>∃F:ZN,e=.returned F.val∧J8 (w.heap.size+1) w' 2 F∧Ext w w':=by
 go_enter func104,ntmps104;go_wp2_with fail;refine(FN _ _ 5 _ (.inr (.inr ⟨by decide+kernel,by decide+kernel,rfl⟩))).mono ?_;rintro e w1 ⟨bc,bp,bz,rfl,hA1,⟨u1,u2,u3⟩,hx1⟩;unfold H8;obtain⟨hc,hf⟩:=hx1.cells;have hz:w.heap.size<w1.heap.size:=by have:=hx1.size;exact D7
 have hx3:=hx1;simp at u1 u2 u3;go_wp2;refine V4 (v:=(FV bc bp bz w1.heap.size (w1.heap.size+1)).val) (by simp[results,results104,go_sem,ZN.val,FV,H8,hc,hz]) rfl
  ⟨_,rfl,Zkq _ _ bc bp bz w1.heap.size (w1.heap.size+1) ⟨by omega,by omega,by omega⟩ ⟨by omega,by omega⟩ _ _ ⟨by simp[go_sem],by simp[go_sem],by simp[go_sem],by simp;omega,by simp⟩ (hA1.keep (B:=w.heap.size) ?_ ?_ B0 B0 B0) K8 K8,?_⟩
 all_goals first
  |(
   intro b o h1 h2
   rw[NZ _ _ _ N4,NZ _ _ _ D9]
   repeat rw[VX _ _ _ _ FX])
  |(simp;omega)
  |(
   refine Ext.alloc (Ext.alloc ?_ _) _
   repeat refine Ext.setCell ?_ (K0 _) _
   exact Ext.trans ((Ext.refl w).alloc _) hx3)
def MA (k:Nat) (w:World) (e:Ending) (w':World):Prop:=∃(B:Nat) (F:ZN),e=.returned (.tuple #[F.val,.bool true])∧J8 B w' k F∧Ext w w'
theorem Zm2 (w:World):Calls prog 62 #[.int .i64 5] w (MA 0 w):=by go_enter func62,ntmps62;go_wp2_with fail;refine(Zkp _).mono ?_;exact FZ
theorem Zm3 (w:World):Calls prog 62 #[.int .i64 6] w (MA 1 w):=by go_enter func62,ntmps62;go_wp2_with fail;refine(Zkr _).mono ?_;exact FZ
theorem ZkP (w:World):Calls prog 62 #[.int .i64 7] w (MA 2 w):=by go_enter func62,ntmps62;go_wp2_with fail;refine(ZiU _).mono ?_;exact FZ
theorem ZkR (kind:Int) (w:World) (h5:kind≠5) (h6:kind≠6) (h7:kind≠7):Calls prog 62 #[.int .i64 kind] w fun e w'=>e=.returned (.tuple #[.agg #[.int .i64 0,.nilFunc,.nilFunc,.nilFunc,.nilFunc,.nilFunc,.nilFunc,.nilFunc],.bool false])∧Ext w w':=by have d5:(kind==5)=false:=N0.2 h5;have d6:(kind==6)=false:=N0.2 h6;have d7:(kind==7)=false:=N0.2 h7;clear h5 h6 h7;go_enter func62,ntmps62;go_wp2;refine V4 (v:=.tuple #[.agg #[.int .i64 0,.nilFunc,.nilFunc,.nilFunc,.nilFunc,.nilFunc,.nilFunc,.nilFunc],.bool false]) (by simp[results,results62,go_sem]) rfl ⟨rfl,Xe⟩
theorem jR (w:World):Sl w (.slice none 0 0) []:=.inl ⟨rfl,_,_,rfl⟩
theorem ZiY (k:Int) (l:List UInt8) (h:(Cd.compI k l).2=0):(Cd.compI k l).1=Cd.cmp k.toNat l:=by
 unfold Cd.compI at h⊢;split;·rename_i h1;rw[D0 h1]at h;simp at h
 ·rename_i h1
  rw[C0 h1]at h
  unfold Cd.comp at h⊢
  repeat' split
  all_goals first|rfl|(simp_all;done)
end
end Go.Proofs.YtbngggoccndefaaGreatDoor
