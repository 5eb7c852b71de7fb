/-
  Laid.
-/
import Derived.Test.YtbngggoccndefaaGreatDoorRt02
import Derived.Test.YtbngggoccndefaaGreatDoorRt05
import Derived.Test.YtbngggoccndefaaGreatDoorRt08
set_option maxHeartbeats 8000000
set_option maxRecDepth 100000
set_option linter.all false
namespace Go.Proofs.YtbngggoccndefaaGreatDoor
open Go.Proofs.Tryz
section
open Go.RowKit
theorem DS {α:Type} (f:Nat->α) (j:Nat):(List.range (j+1)).map f=(List.range j).map f++[f j]:=by rw[ML,B4];rfl
theorem DT (cs ps:List UInt8) (z:Nat) (e:ByteArray) (i:Nat):Tw.rdAt cs ps z e.data.toList i=Tw.chr cs ps z (e.extract (i*(z+1)) (i*(z+1)+z)).data.toList:=by unfold Tw.rdAt;rw[Z0,SN]
theorem XO (s:ByteArray) (k:Nat) (h:k<s.size):s.data.toList.getD k 0=s[k]:=Q6
theorem RA (s:ByteArray) (c:UInt8) (w:World):
 Calls prog 56 #[.string s,.int .u8 (c.toNat:Int)] w fun e w'=>e=.returned (.int .i64 (Lib.indexByte s.data.toList c))∧w=w':=by
 have:=SS s (c.toNat:Int) w
 rw[SU]at this;exact this
theorem aG (cs ps:ByteArray) (bc bp bz ba be bi bl bm:Nat) (edge inner:ByteArray) (least most:Nat) (e:ByteArray) (n:Nat) (w:World) (hS:Z6 w 7 bc bp bz ba be bi bl bm edge inner least most) (hA:ZA w bc bp bz cs ps 7) (hps:ps.size=cs.size*7) (hcs:cs.size<=100) (hs:e.size<=1000000)
 (hn:e.size+1=n*8) (hn2:2<=n):
 Calls prog 235 #[.string e,.pointer (some ⟨ba,0,none⟩),.pointer (some ⟨be,0,none⟩),.pointer (some ⟨bi,0,none⟩)] w
  fun en w'=>en=.returned (.tuple #[strV (Tw.read cs.data.toList ps.data.toList edge.data.toList inner.data.toList 7 e.data.toList).1,.int .i64 (Tw.read cs.data.toList ps.data.toList edge.data.toList inner.data.toList 7 e.data.toList).2])∧Ext w w':=by
 have hnn:n=(e.data.toList.length+1)/(7+1):=by rw[Za];omega
 have HRA:=B0 (fun j=>Tw.read_at cs.data.toList ps.data.toList edge.data.toList inner.data.toList 7 e.data.toList n j hnn)
 have HRB:=B0 (Tw.read_all cs.data.toList ps.data.toList edge.data.toList inner.data.toList 7 e.data.toList n hnn)
 have HER:=B0 (fun j=>Tw.rdErr.eq_1 cs.data.toList ps.data.toList edge.data.toList inner.data.toList 7 e.data.toList n j)
 generalize Tw.read cs.data.toList ps.data.toList edge.data.toList inner.data.toList 7 e.data.toList=res at*
 have HP:Hid (∀w',Ext w w'->∀p:ByteArray,Calls prog 237 #[.string p,.pointer (some ⟨bc,0,none⟩),.pointer (some ⟨bp,0,none⟩),.pointer (some ⟨bz,0,none⟩)] w'
  fun e w''=>e=.returned (.tuple #[.int .u8 ((Tw.chr cs.data.toList ps.data.toList 7 p.data.toList).1.toNat:Int),.bool (Tw.chr cs.data.toList ps.data.toList 7 p.data.toList).2])∧w'=w''):=
  B0 fun w' hx p=>MI cs ps 7 p bc bp bz w' (hA.ext hx) C0 hps hcs
 have HCUT:=B0 (fun j=>DT cs.data.toList ps.data.toList 7 e j)
 generalize Tw.rdErr cs.data.toList ps.data.toList edge.data.toList inner.data.toList 7 e.data.toList n=er at*
 have HS:=B0 hS
 clear hS hA hnn hps
 have hsz:=(HS.out).a0
 have hn3:n<=200000:=by omega
 have hna:e.size+1<=n*8:=by omega
 have hnb:n*8<=e.size+1:=by omega
 have hdv:((e.size:Int)+1)/8=(n:Int):=by omega
 clear hn
 go_enter func235,ntmps235
 go_wp2
 rw[hdv]
 clear hdv hsz
 go_loopw [21,7] (fun i c wr=>∃j:Nat,j<=n∧i=.int .i64 (j:Int)∧Own 5 wr w.heap.size c (((List.range j).map fun k=>(Tw.rdAt cs.data.toList ps.data.toList 7 e.data.toList k).1).map encB)∧Hid (∀m,m<j->er m=0)∧Ext w wr) (fun i _ _=>n-(intOf i).toNat)
 case atStart=>exact DU
 case round=>obtain⟨j,hj,rfl,hown,HB,hxr⟩:=hrel;by_cases hlt:j<n;(·have hz0:=(HS.out.ext hxr).a0;have HR1:=B0 (HRA.out j hlt);have HE:=B0 (HER.out j);have HBN:er j=0->Hid (∀m,m<j+1->er m=0):=fun h=>B0 (fun m hm=>by rcases SW (SX hm)with h1|rfl;(·exact HB.out m h1);·exact h);have HRN:=B0 HBN;clear HBN;have HQ:=B0 (fun(x:Zr wr)=>HP.out x.at' (hxr.trans x.ext) (e.extract (j*8) (j*8+7)));have HSN:Hid ((List.range (j+1)).map (fun k=>(Tw.rdAt cs.data.toList ps.data.toList 7 e.data.toList k).1)=(List.range j).map (fun k=>(Tw.rdAt cs.data.toList ps.data.toList 7 e.data.toList k).1)++[(Tw.rdAt cs.data.toList ps.data.toList 7 e.data.toList j).1]):=B0 (DS _ j);rw[<-HCUT.out j]at HQ;generalize Tw.rdAt cs.data.toList ps.data.toList 7 e.data.toList j=r at*;have hgl:((List.range j).map (fun k=>(Tw.rdAt cs.data.toList ps.data.toList 7 e.data.toList k).1)).length<=j:=L0;generalize(List.range j).map (fun k=>(Tw.rdAt cs.data.toList ps.data.toList 7 e.data.toList k).1)=got at*;obtain⟨c,ok⟩:=r;have hz2:∀x:Zr wr,x.at'.cell? ⟨ba,2,none⟩=_:=fun x=>(HS.out.ext (hxr.trans x.ext)).a2;have hz3:∀x:Zr wr,x.at'.cell? ⟨ba,0,none⟩=_:=fun x=>(HS.out.ext (hxr.trans x.ext)).a0;by_cases hj0:j=0;(·exact Qi);·have d1:decide ((0:Int)<(j:Int))=true:=E1;have d2:((j:Int)==0)=false:=QY;obtain⟨k,hk,hke,hkj⟩:∃k:Nat,(j:Int)*8-1=(k:Int)∧k<e.size∧k=j*8-1:=⟨j*8-1,by omega,by omega,rfl⟩;have hgd:e.data.toList.getD (j*(7+1)-1) 0=e[k]:=(by rw[<-XO e k hke,hkj]);exact Qc);·exact DV
theorem aH (cs ps:ByteArray) (bc bp bz ba be bi bl bm:Nat) (edge inner:ByteArray) (least most:Nat) (e:ByteArray) (n:Nat) (w:World) (hS:Z6 w 9 bc bp bz ba be bi bl bm edge inner least most) (hA:ZA w bc bp bz cs ps 9) (hps:ps.size=cs.size*9) (hcs:cs.size<=100) (hs:e.size<=1000000)
 (hn:e.size+1=n*10) (hn2:2<=n):
 Calls prog 235 #[.string e,.pointer (some ⟨ba,0,none⟩),.pointer (some ⟨be,0,none⟩),.pointer (some ⟨bi,0,none⟩)] w
  fun en w'=>en=.returned (.tuple #[strV (Tw.read cs.data.toList ps.data.toList edge.data.toList inner.data.toList 9 e.data.toList).1,.int .i64 (Tw.read cs.data.toList ps.data.toList edge.data.toList inner.data.toList 9 e.data.toList).2])∧Ext w w':=by
 have hnn:n=(e.data.toList.length+1)/(9+1):=by rw[Za];omega
 have HRA:=B0 (fun j=>Tw.read_at cs.data.toList ps.data.toList edge.data.toList inner.data.toList 9 e.data.toList n j hnn)
 have HRB:=B0 (Tw.read_all cs.data.toList ps.data.toList edge.data.toList inner.data.toList 9 e.data.toList n hnn)
 have HER:=B0 (fun j=>Tw.rdErr.eq_1 cs.data.toList ps.data.toList edge.data.toList inner.data.toList 9 e.data.toList n j)
 generalize Tw.read cs.data.toList ps.data.toList edge.data.toList inner.data.toList 9 e.data.toList=res at*
 have HP:Hid (∀w',Ext w w'->∀p:ByteArray,Calls prog 237 #[.string p,.pointer (some ⟨bc,0,none⟩),.pointer (some ⟨bp,0,none⟩),.pointer (some ⟨bz,0,none⟩)] w'
  fun e w''=>e=.returned (.tuple #[.int .u8 ((Tw.chr cs.data.toList ps.data.toList 9 p.data.toList).1.toNat:Int),.bool (Tw.chr cs.data.toList ps.data.toList 9 p.data.toList).2])∧w'=w''):=
  B0 fun w' hx p=>MI cs ps 9 p bc bp bz w' (hA.ext hx) C0 hps hcs
 have HCUT:=B0 (fun j=>DT cs.data.toList ps.data.toList 9 e j)
 generalize Tw.rdErr cs.data.toList ps.data.toList edge.data.toList inner.data.toList 9 e.data.toList n=er at*
 have HS:=B0 hS
 clear hS hA hnn hps
 have hsz:=(HS.out).a0
 have hn3:n<=200000:=by omega
 have hna:e.size+1<=n*10:=by omega
 have hnb:n*10<=e.size+1:=by omega
 have hdv:((e.size:Int)+1)/10=(n:Int):=by omega
 clear hn
 go_enter func235,ntmps235
 go_wp2
 rw[hdv]
 clear hdv hsz
 go_loopw [21,7] (fun i c wr=>∃j:Nat,j<=n∧i=.int .i64 (j:Int)∧Own 5 wr w.heap.size c (((List.range j).map fun k=>(Tw.rdAt cs.data.toList ps.data.toList 9 e.data.toList k).1).map encB)∧Hid (∀m,m<j->er m=0)∧Ext w wr) (fun i _ _=>n-(intOf i).toNat)
 case atStart=>exact DU
 case round=>obtain⟨j,hj,rfl,hown,HB,hxr⟩:=hrel;by_cases hlt:j<n;(·have hz0:=(HS.out.ext hxr).a0;have HR1:=B0 (HRA.out j hlt);have HE:=B0 (HER.out j);have HBN:er j=0->Hid (∀m,m<j+1->er m=0):=fun h=>B0 (fun m hm=>by rcases SW (SX hm)with h1|rfl;(·exact HB.out m h1);·exact h);have HRN:=B0 HBN;clear HBN;have HQ:=B0 (fun(x:Zr wr)=>HP.out x.at' (hxr.trans x.ext) (e.extract (j*10) (j*10+9)));have HSN:Hid ((List.range (j+1)).map (fun k=>(Tw.rdAt cs.data.toList ps.data.toList 9 e.data.toList k).1)=(List.range j).map (fun k=>(Tw.rdAt cs.data.toList ps.data.toList 9 e.data.toList k).1)++[(Tw.rdAt cs.data.toList ps.data.toList 9 e.data.toList j).1]):=B0 (DS _ j);rw[<-HCUT.out j]at HQ;generalize Tw.rdAt cs.data.toList ps.data.toList 9 e.data.toList j=r at*;have hgl:((List.range j).map (fun k=>(Tw.rdAt cs.data.toList ps.data.toList 9 e.data.toList k).1)).length<=j:=L0;generalize(List.range j).map (fun k=>(Tw.rdAt cs.data.toList ps.data.toList 9 e.data.toList k).1)=got at*;obtain⟨c,ok⟩:=r;have hz2:∀x:Zr wr,x.at'.cell? ⟨ba,2,none⟩=_:=fun x=>(HS.out.ext (hxr.trans x.ext)).a2;have hz3:∀x:Zr wr,x.at'.cell? ⟨ba,0,none⟩=_:=fun x=>(HS.out.ext (hxr.trans x.ext)).a0;by_cases hj0:j=0;(·exact Qi);·have d1:decide ((0:Int)<(j:Int))=true:=E1;have d2:((j:Int)==0)=false:=QY;obtain⟨k,hk,hke,hkj⟩:∃k:Nat,(j:Int)*10-1=(k:Int)∧k<e.size∧k=j*10-1:=⟨j*10-1,by omega,by omega,rfl⟩;have hgd:e.data.toList.getD (j*(9+1)-1) 0=e[k]:=(by rw[<-XO e k hke,hkj]);exact Qc);·exact DV
theorem aI (l:List UInt8) (c:UInt8):Tw.sumCb (l++[c])=Tw.sumCb l+Lib.indexByte Tw.cCb c:=by simp[Tw.sumCb]
theorem aJ (l:List UInt8) (h:∀c∈l,0<=Lib.indexByte Tw.cCb c):∀a:Int,a<=(l.map (Lib.indexByte Tw.cCb)).foldl (·+·) a∧(l.map (Lib.indexByte Tw.cCb)).foldl (·+·) a<=a+20*l.length:=by
 induction l with
 |nil=>intro a;simp
 |cons c l ih=>intro a;have h1:=ih (fun x hx=>h x (C1 _ hx)) (a+Lib.indexByte Tw.cCb c);have h2:=h c (B1 ..);obtain⟨n,hn⟩:=B6 h2;have h3:=SV _ _ _ hn;have h4:Tw.cCb.length=20:=rfl;simp only[Y4,I3,S0]at h1⊢;omega
theorem aK (l:List UInt8) (h:∀c∈l,0<=Lib.indexByte Tw.cCb c):0<=Tw.sumCb l∧Tw.sumCb l<=20*l.length:=by have:=aJ l h 0;unfold Tw.sumCb;omega
theorem MM:∀c:UInt8,(0<=Lib.indexByte Tw.eCb c∨0<=Lib.indexByte Tw.dCb c)->0<=Lib.indexByte Tw.cCb c:=by
 have h:∀i:Fin 256,(0<=Lib.indexByte Tw.eCb (UInt8.ofNat i.val)∨0<=Lib.indexByte Tw.dCb (UInt8.ofNat i.val))->0<=Lib.indexByte Tw.cCb (UInt8.ofNat i.val):=Y1
 intro c;have:=h ⟨c.toNat,c.toNat_lt⟩;exact V6
theorem aL (l:List UInt8) (h:2<=l.length):l=l.take 1++((l.drop 1).take (l.length-2)++l.drop (l.length-1)):=by
 have h1:l.drop (l.length-1)=(l.drop 1).drop (l.length-2):=by rw[Y3];congr 1;omega
 rw[h1,C6,C6]
theorem aM (l:List UInt8) (h:2<=l.length) (h1:Tw.only (l.take 1) Tw.eCb=true) (h2:Tw.only (l.drop (l.length-1)) Tw.eCb=true) (h3:Tw.only ((l.drop 1).take (l.length-2)) Tw.dCb=true):
 ∀c∈l,0<=Lib.indexByte Tw.cCb c:=by
 intro c hc
 rw[aL l h,M2,M2]at hc
 unfold Tw.only at h1 h2 h3
 rw[S1]at h1 h2 h3
 rcases hc with hc|hc|hc
 ·exact MM c (.inl (by simpa using h1 c hc))
 ·exact MM c (.inr (by simpa using h3 c hc))
 ·exact MM c (.inl (by simpa using h2 c hc))
theorem aN:∀v:Nat,v<16->((⟨#[48,49,50,51,52,53,54,55,56,57,45,36,58,47,46,43]⟩:ByteArray).extract v (v+1)).data.toList=[Tw.dCb.getD v 0]:=by
 intro v hv;rw[Z0];have:∀v:Fin 16,(([48,49,50,51,52,53,54,55,56,57,45,36,58,47,46,43]:List UInt8).drop v.val).take (v.val+1-v.val)=[Tw.dCb.getD v.val 0]:=by decide
 exact this ⟨v,hv⟩
theorem aO (a b c:ByteArray):(a++b++c).data.toList=a.data.toList++b.data.toList++c.data.toList:=by simp
theorem aP (a b:ByteArray):(a++b).data.toList=a.data.toList++b.data.toList:=by simp
theorem aQ (s:ByteArray) (check:Bool) (w:World) (hs:s.size<=1000000):
 Calls prog 169 #[.string s,.bool check] w fun e w'=>e=.returned (.tuple #[strV (Tw.compCb s.data.toList check).1,.int .i64 (Tw.compCb s.data.toList check).2])∧Ext w w':=by
 have HT:=B0 (Tw.compCb.eq_1 s.data.toList check)
 rw[Za]at HT
 generalize Tw.compCb s.data.toList check=res at*
 by_cases h2:s.size<2
 ·rw[G0 h2]at HT;have d1:decide ((s.size:Int)-1<1)=true:=E1;go_enter func169,ntmps169;go_wp2;go_ret2;exact⟨by rw[HT.out];rfl,Ext.refl _⟩
 ·rw[D0 h2]at HT;have d1:decide ((s.size:Int)-1<1)=false:=E1;have hsn:((s.size:Int)-1).toNat=s.size-1:=C0;have HO1:Hid (∀w,Calls prog 167 #[.string (s.extract 0 1),.string ⟨#[65,66,67,68]⟩] w fun e w'=>e=.returned (.bool (Tw.only (s.data.toList.take 1) Tw.eCb))∧w=w'):=
   B0 (fun w=>by rw[<-Zz];exact UA (s.extract 0 1) ⟨#[65,66,67,68]⟩ w Y8)
  have HO2:Hid (∀w,Calls prog 167 #[.string (s.extract (s.size-1) s.size),.string ⟨#[65,66,67,68]⟩] w fun e w'=>e=.returned (.bool (Tw.only (s.data.toList.drop (s.size-1)) Tw.eCb))∧w=w'):=
   B0 (fun w=>by rw[<-ZG];exact UA (s.extract (s.size-1) s.size) ⟨#[65,66,67,68]⟩ w Y8)
  have HO3:Hid (∀w,Calls prog 167 #[.string (s.extract 1 (s.size-1)),.string ⟨#[48,49,50,51,52,53,54,55,56,57,45,36,58,47,46,43]⟩] w fun e w'=>e=.returned (.bool (Tw.only ((s.data.toList.drop 1).take (s.size-2)) Tw.dCb))∧w=w'):=
   B0 (fun w=>by rw[show s.size-2=s.size-1-1 by omega,<-Z0];exact UA (s.extract 1 (s.size-1)) ⟨#[48,49,50,51,52,53,54,55,56,57,45,36,58,47,46,43]⟩ w Y8)
  have HV:=B0 (aM s.data.toList YH);rw[Za]at HV;generalize Tw.only (s.data.toList.take 1) Tw.eCb=b1 at*;generalize Tw.only (s.data.toList.drop (s.size-1)) Tw.eCb=b2 at*;generalize Tw.only ((s.data.toList.drop 1).take (s.size-2)) Tw.dCb=b3 at*;cases b1;(·rw[G0 rfl]at HT;go_enter func169,ntmps169;go_wp2_with fail;refine(HO1.out _).mono ?_;exact RB);·rw[D0 Bool.noConfusion]at HT;cases b2;(·rw[G0 rfl]at HT;go_enter func169,ntmps169;go_wp2_with fail;refine(HO1.out _).mono ?_;rintro e w1 ⟨rfl,rfl⟩;go_wp2_with fail;refine(HO2.out _).mono ?_;exact RB);·rw[D0 Bool.noConfusion]at HT;cases b3;(·rw[G0 rfl]at HT;go_enter func169,ntmps169;go_wp2_with fail;refine(HO1.out _).mono ?_;rintro e w1 ⟨rfl,rfl⟩;go_wp2_with fail;refine(HO2.out _).mono ?_;rintro e w1 ⟨rfl,rfl⟩;go_wp2_with fail;refine(HO3.out _).mono ?_;exact RB);·rw[D0 Bool.noConfusion]at HT;have HVV:=B0 (HV.out rfl rfl rfl);clear HV;cases check;(·rw[G0 rfl]at HT;go_enter func169,ntmps169;go_wp2_with fail;refine(HO1.out _).mono ?_;rintro e w1 ⟨rfl,rfl⟩;go_wp2_with fail;refine(HO2.out _).mono ?_;rintro e w1 ⟨rfl,rfl⟩;go_wp2_with fail;refine(HO3.out _).mono ?_;exact DW);·rw[D0 Bool.noConfusion]at HT;go_enter func169,ntmps169;go_wp2_with fail;refine(HO1.out _).mono ?_;rintro e w1 ⟨rfl,rfl⟩;go_wp2_with fail;refine(HO2.out _).mono ?_;rintro e w1 ⟨rfl,rfl⟩;go_wp2_with fail;refine(HO3.out _).mono ?_;rintro e w1 ⟨rfl,rfl⟩;clear HO1 HO2 HO3;go_wp2;go_loop [39,7] (fun i x=>∃j:Nat,j<=s.size∧i=.int .i64 (j:Int)∧x=.int .i64 (Tw.sumCb (s.data.toList.take j))) (fun i _=>s.size-(intOf i).toNat);(case atStart=>exact SO);case round=>obtain⟨j,hj,rfl,rfl⟩:=hrel;have hb:=aK (s.data.toList.take j) (fun c hc=>HVV.out c (L5 hc));rw[VC s j hj]at hb;obtain⟨hb1,hb2⟩:=hb;by_cases hlt:j<s.size;(·have HI:=B0 (fun w=>RA ⟨#[48,49,50,51,52,53,54,55,56,57,45,36,58,47,46,43,65,66,67,68]⟩ s[j] w);have HSN:=B0 (aI (s.data.toList.take j) s[j]);rw[<-ZP s j hlt]at HSN;have hi0:=HVV.out s[j] (Zq s j hlt);have hi1:Lib.indexByte Tw.cCb s[j]<20:=(by obtain⟨n,hn⟩:=B6 hi0;have:=SV _ _ _ hn;have h4:Tw.cCb.length=20:=rfl;omega);change Hid (∀w,Calls prog 56 #[.string ⟨#[48,49,50,51,52,53,54,55,56,57,45,36,58,47,46,43,65,66,67,68]⟩,.int .u8 (s[j].toNat:Int)] w fun e w'=>e=.returned (.int .i64 (Lib.indexByte Tw.cCb s[j]))∧w=w')at HI;generalize Lib.indexByte Tw.cCb s[j]=x at*;generalize Tw.sumCb (s.data.toList.take j)=g at*;go_wp2_with fail;refine(HI.out _).mono ?_;rintro e w1 ⟨rfl,rfl⟩;go_wp2;go_round;(case rel=>exact⟨j+1,by omega,by go_num,by rw[HSN.out]⟩);case measure=>exact QD);·obtain rfl:j=s.size:=C0;rw[ZI]at hb1 hb2⊢;clear hj hlt;generalize Tw.sumCb s.data.toList=g at*;obtain⟨v,hv,hv16⟩:∃v:Nat,(16-g%16)%16=(v:Int)∧v<16:=⟨((16-g%16)%16).toNat,by omega,by omega⟩;rw[hv,R6]at HT;have HDC:=B0 (aN v hv16);obtain⟨u,hu⟩:∃u:Nat,v+1=u:=⟨_,rfl⟩;rw[hu]at HDC;have hv1:(v:Int)+1=(u:Int):=C0;have hu1:v<=u:=C0;have hu2:u<=16:=C0;clear hu;go_wp2;go_quiet (fail);go_wp2;go_ret2;refine⟨?_,?_⟩;(·rw[HT.out];refine YG ?_ rfl;rw[aO,Zz,HDC.out,ZG]);·exact(Ext.refl _).drewN _
theorem aR (s:ByteArray) (check:Bool) (w:World) (hs:s.size<=1000000) (h2:2<=s.size):
 Calls prog 170 #[.string s,.bool check] w fun e w'=>e=.returned (strV (Tw.textCb s.data.toList check))∧Ext w w':=by
 have HT:=B0 (Tw.textCb.eq_1 s.data.toList check)
 rw[Za]at HT
 generalize Tw.textCb s.data.toList check=res at*
 cases check
 ·rw[D0 Bool.noConfusion]at HT;go_enter func170,ntmps170;exact DX
 ·rw[G0 rfl]at HT;have hn1:((s.size:Int)-1).toNat=s.size-1:=C0;have hn2:((s.size:Int)-2).toNat=s.size-2:=C0;go_enter func170,ntmps170;go_wp2;go_quiet (fail);go_wp2;go_ret;refine⟨?_,(Ext.refl _).drewN _⟩;rw[HT.out];refine XL ?_;rw[aP,Zz,ZG]
theorem aS (s:ByteArray) (check:Bool) (w:World) (hs:s.size<=1000000) (h2:1<=s.size):
 Calls prog 175 #[.string s,.bool check] w fun e w'=>e=.returned (strV (Tw.textItf s.data.toList check))∧Ext w w':=by
 have HT:=B0 (Tw.textItf.eq_1 s.data.toList check)
 rw[Za]at HT
 generalize Tw.textItf s.data.toList check=res at*
 cases check
 ·rw[D0 Bool.noConfusion]at HT;go_enter func175,ntmps175;exact DX
 ·rw[G0 rfl]at HT;have hn1:((s.size:Int)-1).toNat=s.size-1:=C0;go_enter func175,ntmps175;go_wp2;go_ret;refine⟨?_,Ext.refl _⟩;rw[HT.out];refine XL ?_;rw[Zz]
structure C8 (w:World) (bc bp bz ba bn:Nat):Prop where
 a0:w.cell? ⟨ba,0,none⟩=some (.int .i64 5)
 a1:w.cell? ⟨ba,1,none⟩=some (.func (.func 236) #[] #[.pointer (some ⟨bc,0,none⟩),.pointer (some ⟨bp,0,none⟩),.pointer (some ⟨bz,0,none⟩)])
 n:w.cell? ⟨bn,0,none⟩=some (.int .i64 7)
 la:ba<w.heap.size
 ln:bn<w.heap.size
theorem C8.ext {w w':World} {bc bp bz ba bn:Nat} (h:C8 w bc bp bz ba bn) (hx:Ext w w'):C8 w' bc bp bz ba bn:=
 ⟨by rw[hx.cell (p:=⟨ba,0,none⟩) h.la];exact h.a0,by rw[hx.cell (p:=⟨ba,1,none⟩) h.la];exact h.a1,by rw[hx.cell (p:=⟨bn,0,none⟩) h.ln];exact h.n,
  M1 h.la hx.size,M1 h.ln hx.size⟩
theorem aT (bc bp bz ba bn:Nat) (n:Nat) (check:Bool) (w:World) (hA:C8 w bc bp bz ba bn) (hn:n<=9223372036854775806):
 Calls prog 171 #[.int .i64 (n:Int),.bool check,.pointer (some ⟨bn,0,none⟩),.pointer (some ⟨ba,0,none⟩)] w
  fun e w'=>e=.returned (.bool (Tw.countsItf n))∧w=w':=by
 obtain⟨h1,_,h3,_,_⟩:=hA
 by_cases h7:n<7
 ·have HT:Hid (Tw.countsItf n=false):=B0 (by simp[Tw.countsItf];omega);generalize Tw.countsItf n=res at*;obtain rfl|rfl|rfl|rfl|rfl|rfl|rfl:n=0∨n=1∨n=2∨n=3∨n=4∨n=5∨n=6:=C0;all_goals go_enter func171,ntmps171;go_wp2;all_goals go_ret;exact⟨Zm HT.out.symm,rfl⟩
 ·have HT:=B0 (Tw.countsItf.eq_1 n);have h7':0<=(n:Int)-7:=C0;go_enter func171,ntmps171;go_wp2;all_goals go_ret;refine⟨Zm ?_,rfl⟩;rw[HT.out,U4];simp;omega
theorem aU (s:ByteArray) (check:Bool) (w:World) (hs:s.size<=1000000):
 Calls prog 172 #[.string s,.bool check] w fun e w'=>e=.returned (.tuple #[strV (Tw.compItf s.data.toList check).1,.int .i64 (Tw.compItf s.data.toList check).2])∧Ext w w':=by
 have HO:Hid (∀w,Calls prog 167 #[.string s,.string ⟨#[48,49,50,51,52,53,54,55,56,57]⟩] w fun e w'=>e=.returned (.bool (Tw.only s.data.toList Tw.cItf))∧w=w'):=
  B0 (fun w=>UA s ⟨#[48,49,50,51,52,53,54,55,56,57]⟩ w C0)
 have HT:=B0 (Tw.compItf.eq_1 s.data.toList check)
 have HC:=B0 (fun w=>SR 1 s w C0)
 generalize Tw.compItf s.data.toList check=res at*
 generalize Tw.only s.data.toList Tw.cItf=b1 at*
 cases b1
 ·rw[G0 rfl]at HT;exact DY
 ·rw[D0 Bool.noConfusion]at HT;cases check;(·rw[G0 rfl,Za]at HT;by_cases h2:s.size%2=0;(·rw[G0 h2]at HT;have d1:((s.size:Int)%2 !=0)=false:=(by rw[bne_eq_false_iff_eq];omega);clear h2;go_enter func172,ntmps172;go_wp2_with fail;refine(HO.out _).mono ?_;exact DW);·rw[D0 h2]at HT;have d1:((s.size:Int)%2 !=0)=true:=(by rw[N2];omega);clear h2;exact DY);·rw[D0 Bool.noConfusion]at HT;by_cases h0:(Cd.compI 1 s.data.toList).2=0;(·rw[G0 h0]at HT;rw[h0]at HC;clear h0;have hdl:=XM 1 s.data.toList;generalize(Cd.compI 1 s.data.toList).1=d at*;obtain⟨D,rfl⟩:∃D:ByteArray,d=D.data.toList:=⟨⟨d.toArray⟩,by simp⟩;rw[Zt]at HC;rw[Za]at hdl;rw[O0,Za,Za]at HT;by_cases h2:(s.size+D.size)%2=0;(·rw[G0 h2]at HT;have d1:(((s.size:Int)+(D.size:Int))%2 !=0)=false:=(by rw[bne_eq_false_iff_eq];omega);clear h2;go_enter func172,ntmps172;go_wp2_with fail;refine(HO.out _).mono ?_;rintro e w1 ⟨rfl,rfl⟩;go_wp2_with fail;refine(HC.out _).mono ?_;rintro e w2 ⟨rfl,hx2⟩;go_wp2;go_ret2;exact⟨by rw[HT.out];exact YG L0 rfl,hx2⟩);·rw[D0 h2]at HT;have d1:(((s.size:Int)+(D.size:Int))%2 !=0)=true:=(by rw[N2];omega);clear h2;exact DZ);·rw[D0 h0]at HT;have hb:((Cd.compI 1 s.data.toList).2 !=0)=true:=(by rw[N2];exact h0);generalize(Cd.compI 1 s.data.toList).2=x at*;generalize(Cd.compI 1 s.data.toList).1=d at*;clear h0;exact DZ
theorem aV (a b:List UInt8) (k:Nat) (ha:k<a.length) (hb:k<b.length):Tw.mix (a.take (k+1)) (b.take (k+1))=Tw.mix (a.take k) (b.take k)++[a[k],b[k]]:=by
 induction k generalizing a b with
 |zero=>
  cases a with
  |nil=>simp at ha
  |cons x a=>
   cases b with
   |nil=>simp at hb
   |cons y b=>simp[Tw.mix]
 |succ k ih=>
  cases a with
  |nil=>simp at ha
  |cons x a=>
   cases b with
   |nil=>simp at hb
   |cons y b=>simp only[S0]at ha hb;simp only[VI,Tw.mix,P2,MN];rw[ih a b C0 C0]
theorem MO:∀a b:List UInt8,(Tw.mix a b).length<=2*a.length
 | [],_=>by simp[Tw.mix]
 |_::_,[]=>by simp[Tw.mix]
 |_::a,_::b=>by have:=MO a b;simp only[Tw.mix,S0];omega
theorem MP:∀(a b:List UInt8) (n:Nat),a.length=n->b.length=n->(Tw.mix a b).length=2*n
 | [],_,n,h,_=>by simp only[U2]at h;subst h;simp[Tw.mix]
 |_::_,[],n,h,h'=>by simp only[U2,S0]at h h';omega
 |_::a,_::b,n,h,h'=>by simp only[S0]at h h';have:=MP a b (n-1) C0 C0;simp only[Tw.mix,S0];omega
theorem CA:∀(n:Nat) (a b:List UInt8),a.length=2*n->Tw.drawPairs (a++b)=Tw.drawPairs a++Tw.drawPairs b
 |0,a,b,h=>by obtain rfl:=V2 h;simp[Tw.drawPairs]
 |n+1,a,b,h=>by
  match a,h with
  |x::y::a,h=>simp only[S0]at h;simp only[P2,Tw.drawPairs,G1];rw[CA n a b C0]
theorem aW (s:ByteArray) (p q r:Nat) (hq:q=p+1) (hr:r=p+2) (h1:p<s.size) (h2:q<s.size):s.data.toList.take r=s.data.toList.take p++[s[p],s[q]]:=by subst hq hr;rw[show p+2=p+1+1 by omega,ZP s (p+1) h2,ZP s p C0,G1];rfl
theorem aX (cs ps:ByteArray) (bc bp bz ba bn:Nat) (s:ByteArray) (h:Nat) (w:World) (hI:C8 w bc bp bz ba bn) (hA:ZA w bc bp bz cs ps 5) (hcs:cs.data.toList=Tw.cItf) (hps:ps.data.toList=Tw.pItf) (hs:s.size<=100000)
 (hev:s.size=2*h) (hdig:∀c∈s.data.toList,(Tw.pat Tw.cItf Tw.pItf 5 c).1.length=5):
 Calls prog 173 #[.string s,.pointer (some ⟨ba,0,none⟩)] w
  fun e w'=>e=.returned (strV (Tw.drawItf s.data.toList))∧Ext w w':=by
 have kc:=fun(w:World) (C:Array Value) (n c:Nat)=>CB (P:=prog) w 90 5 C n c underlying90 underlying5
 have HP:Hid (∀w',Ext w w'->∀c:UInt8,Calls prog 236 #[.int .u8 (c.toNat:Int),.pointer (some ⟨bc,0,none⟩),.pointer (some ⟨bp,0,none⟩),.pointer (some ⟨bz,0,none⟩)] w'
  fun e w''=>e=.returned (.tuple #[.string ⟨(Tw.pat Tw.cItf Tw.pItf 5 c).1.toArray⟩,.bool (Tw.pat Tw.cItf Tw.pItf 5 c).2])∧w'=w''):=
  B0 fun w' hx c=>by have h1:cs.size=10:=(by rw[Zc hcs];rfl);have h2:ps.size=50:=(by rw[Zc hps];rfl);have:=VY cs ps 5 c bc bp bz w' (hA.ext hx) (.inl rfl) C0 C0;rw[hcs,hps]at this;exact R2
 have HI:=B0 hI
 have HD:=B0 hdig
 have HE:=B0 hev
 have HT:=B0 (Tw.drawItf.eq_1 s.data.toList)
 generalize Tw.drawItf s.data.toList=res at*
 have hh:2*h<=s.size:=by omega
 have hh':s.size<=2*h:=by omega
 clear hI hA hdig hcs hps hev
 go_enter func173,ntmps173
 go_wp2
 clear kc
 go_loopw [5,4] (fun i c wr=>∃j:Nat,j<=h∧i=.int .i64 ((2*j:Nat):Int)∧OwnG 5 wr w.heap.size c (([110,110,110,110]++Tw.drawPairs (s.data.toList.take (2*j))).map encB)∧Hid ((Tw.drawPairs (s.data.toList.take (2*j))).length=10*j)∧Ext w wr) (fun i _ _=>s.size-(intOf i).toNat)
 case atStart=>refine⟨0,U0 _,rfl,.inr ⟨w.heap.size,rfl,I0 _,by simp,?_⟩,rfl,Xe⟩;intro j u hu;rw[MQ];simp only[RD,W9,Tw.drawPairs]at hu;simpa[encB]using hu
 case round=>
  obtain⟨j,hj,rfl,hown,HL,hxr⟩:=hrel;by_cases hlt:j<h
  ·have hz2:∀x:Zr wr,x.at'.cell? ⟨ba,1,none⟩=_:=fun x=>(HI.out.ext (hxr.trans x.ext)).a1;have HQ:=B0 (fun(x:Zr wr)=>HP.out x.at' (hxr.trans x.ext));obtain⟨p,hp⟩:∃p,2*j=p:=⟨_,rfl⟩;obtain⟨q,hq⟩:∃q,p+1=q:=⟨_,rfl⟩;have k1:p<s.size:=C0;have k2:q<s.size:=C0;have HTT:=B0 (aW s p q (2*(j+1)) hq.symm C0 k1 k2);rw[hp]at hown HL;have HDA:=B0 (CA j (s.data.toList.take p) [s[p],s[q]] (by rw[VC s p C0];omega));rw[<-HTT.out]at HDA;have HPQ:Hid (p=2*j∧q=2*j+1):=B0 C0;have hpq:(p:Int)+1=(q:Int):=C0;have hp':((2*j:Nat):Int)=(p:Int):=C0;rw[hp'];clear hp hq hp';have d1:decide (p<s.size)=true:=(by simpa using k1);have la:=HD.out s[p] (Zq s p k1);have lb:=HD.out s[q] (Zq s q k2);have HQ1:=B0 (fun x=>HQ.out x s[p]);have HQ2:=B0 (fun(x:Zr wr) (y:Zr x.at')=>HP.out y.at' ((hxr.trans x.ext).trans y.ext) s[q]);simp only[Tw.drawPairs,B3]at HDA;generalize(Tw.pat Tw.cItf Tw.pItf 5 s[p]).1=pa at*;generalize(Tw.pat Tw.cItf Tw.pItf 5 s[q]).1=pb at*;generalize(Tw.pat Tw.cItf Tw.pItf 5 s[p]).2=oa at*;generalize(Tw.pat Tw.cItf Tw.pItf 5 s[q]).2=ob at*;obtain⟨PA,rfl⟩:∃D:ByteArray,pa=D.data.toList:=⟨⟨pa.toArray⟩,by simp⟩;obtain⟨PB,rfl⟩:∃D:ByteArray,pb=D.data.toList:=⟨⟨pb.toArray⟩,by simp⟩;rw[Zt]at HQ1 HQ2;rw[Za]at la lb;clear HP HQ;go_wp2;refine T6 (C:=fun w'=>∃x:Zr wr,w'=x.at') M0 M0 (Zr.drawn _) ?_;(try dsimp only);(repeat(first|go_big_quiet_step ((go_at_call 236;exact Zp ((HQ1.out _).mono fun _ _ h=>⟨h.1,h.2▸Ext.refl _⟩)))|quiet_step ((go_at_call 236;exact Zp ((HQ1.out _).mono fun _ _ h=>⟨h.1,h.2▸Ext.refl _⟩)))));refine U6 ?_;intro _ hx0;obtain⟨x0,hx0⟩:=hx0;subst hx0;obtain⟨w3,hx3⟩:=x0;(try dsimp only);have hz3:∀x:Zr w3,x.at'.cell? ⟨ba,1,none⟩=_:=fun x=>hz2 ⟨x.at',hx3.trans x.ext⟩;go_wp2;refine T6 (C:=fun w'=>∃x:Zr w3,w'=x.at') M0 M0 (Zr.drawn _) ?_;(try dsimp only);(repeat(first|go_big_quiet_step ((go_at_call 236;exact Zp ((HQ2.out ⟨w3,hx3⟩ _).mono fun _ _ h=>⟨h.1,h.2▸Ext.refl _⟩)))|quiet_step ((go_at_call 236;exact Zp ((HQ2.out ⟨w3,hx3⟩ _).mono fun _ _ h=>⟨h.1,h.2▸Ext.refl _⟩)))));refine U6 ?_;intro _ hx0;obtain⟨x0,hx0⟩:=hx0;subst hx0;obtain⟨w4,hx4⟩:=x0;(try dsimp only);have hz4:=(HI.out.ext ((hxr.trans hx3).trans hx4)).a0;replace hown:=hown.ext (hx3.trans hx4);replace hxr:=(hxr.trans hx3).trans hx4;clear hx3 hx4 hz2 hz3 HQ1 HQ2 HD;obtain⟨wo,rfl⟩:∃wo:World,wo=w4:=⟨_,rfl⟩;go_wp2;clear hz4;go_loopw [40,4] (fun i c wq=>∃k:Nat,k<=5∧i=.int .i64 (k:Int)∧OwnG 5 wq w.heap.size c (([110,110,110,110]++Tw.drawPairs (s.data.toList.take p)++Tw.mix (PA.data.toList.take k) (PB.data.toList.take k)).map encB)∧Ext w wq) (fun i _ _=>5-(intOf i).toNat);(case atStart=>exact⟨0,U0 _,rfl,by simpa[Tw.mix]using hown,hxr⟩);case round=>
    obtain⟨k,hk,rfl,hown,hxr⟩:=hrel;by_cases hlt5:k<5
    ·have ka:k<PA.size:=C0;have kb:k<PB.size:=C0;have HM:=B0 (aV PA.data.toList PB.data.toList k (by rw[Za];exact ka) (by rw[Za];exact kb));have hmx:(Tw.mix (PA.data.toList.take k) (PB.data.toList.take k)).length<=2*k:=L3 (MO _ _) O5;have hdl:(Tw.drawPairs (s.data.toList.take p)).length<=10*j:=(by rw[HL.out];omega);generalize hL: [110,110,110,110]++Tw.drawPairs (s.data.toList.take p)++Tw.mix (PA.data.toList.take k) (PB.data.toList.take k)=L at*;have hLl:L.length<=2000000:=(by rw[<-hL];simp only[O0,S0,U2];omega);obtain⟨v',w5,hrun,hown5,hg5⟩:=ES (w:=(wr.alloc (.cells #[encB PA[k],encB PB[k]] 5)).drew) 90 5 (.int .u8 0) 1 underlying90 XG rfl J0 w.heap.size u4 (L.map encB) (hown.ext ((Ext.refl _).alloc _).drew) wr.heap.size 0 2 2 [encB PA[k],encB PB[k]] rfl J0
      (fun j u hj=>by
       match j with
       |0=>simp only[E3,A2]at hj;subst hj;simp[go_sem]
       |1=>simp only[R3,E3,A2]at hj;subst hj;simp[go_sem]
       |j+2=>simp at hj)
      (fun u hu=>by simp only[U1,L4,M4]at hu;rcases hu with rfl|rfl<;>rfl)
      D5 (by have:=hxr.size;simp;omega)
     have hx5:Ext w w5:=((hxr.alloc (.cells #[encB PA[k],encB PB[k]] 5)).drew).ofGrown hg5 hown.low;have HO5:Hid (OwnG 5 w5 w.heap.size v' (([110,110,110,110]++Tw.drawPairs (s.data.toList.take p)++Tw.mix (PA.data.toList.take (k+1)) (PB.data.toList.take (k+1))).map encB)):=B0 (by rw[HM.out,<-G1,hL,B4];exact .inl hown5);clear hown5 hg5 hown hL hmx hdl;unfold encB at hrun;go_wp2;go_region_law ((refine ET (by rfl) _ _ _ (by rfl) (by rfl) _ _ (by rfl) (by rfl) _ _ hrun ?_));all_goals go_wp2;go_roundw;(case rel=>exact⟨k+1,by omega,by go_num,HO5.out,hx5⟩);case measure=>exact QD
    ·obtain rfl:k=5:=C0;have ta:PA.data.toList.take 5=PA.data.toList:=(by rw[<-la];exact ZI PA);have tb:PB.data.toList.take 5=PB.data.toList:=(by rw[<-lb];exact ZI PB);rw[ta,tb,G1,<-HDA.out]at hown;have HLL:Hid ((Tw.drawPairs (s.data.toList.take (2*(j+1)))).length=10*(j+1)):=B0 (by rw[HDA.out,O0,HL.out,MP _ _ 5 (by rw[Za];exact la) (by rw[Za];exact lb)];omega);clear ta tb hlt5 hk;go_wp2;go_roundw;(case rel=>exact⟨j+1,by omega,by rw[show((2*(j+1):Nat):Int)=(p:Int)+2 by have:=HPQ.out;omega],hown,HLL,hxr⟩);case measure=>exact QD
  ·obtain rfl:j=h:=C0;obtain⟨p,hp⟩:∃p,2*j=p:=⟨_,rfl⟩;have hta:s.data.toList.take (2*j)=s.data.toList:=(by rw[show 2*j=s.size by omega,ZI]);rw[hta]at hown;have hcv:=Zn hown.sl;rw[hta]at HL;have hLl:([110,110,110,110]++Tw.drawPairs s.data.toList).length<=2000000:=(by simp only[O0,S0,U2,HL.out];omega);generalize [110,110,110,110]++Tw.drawPairs s.data.toList=L at*;obtain⟨D,rfl⟩:∃D:ByteArray,L=D.data.toList:=⟨⟨L.toArray⟩,by simp⟩;rw[Zt]at hcv;rw[Za]at hLl;rw[hp];have d1:decide (p<s.size)=false:=E1;clear hj hlt hta hp HL;go_wp2;go_ret;exact⟨by rw[HT.out];exact XL L0,hxr⟩
end
end Go.Proofs.YtbngggoccndefaaGreatDoor
