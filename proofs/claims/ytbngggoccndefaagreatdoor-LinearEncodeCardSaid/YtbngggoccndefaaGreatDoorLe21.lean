/-
  Laid.
-/
import Derived.Test.YtbngggoccndefaaGreatDoorLe20
set_option maxHeartbeats 8000000
set_option maxRecDepth 100000
set_option linter.all false
section
namespace Go.Proofs.Enc
open Go.Proofs.Tryz
open Go.RowKit
def Zkc:∀i:Fin 256,(decide (65<=i.val)&&decide (i.val<=68))=decide (0<=Lib.indexByte Tw.Es (UInt8.ofNat i.val)):=L2
def Zly:∀i:Fin 256,(decide (0<=Lib.indexByte Tw.Bb (UInt8.ofNat i.val))&& !decide (0<=Lib.indexByte Tw.Es (UInt8.ofNat i.val)))=decide (0<=Lib.indexByte Tw.Ep (UInt8.ofNat i.val)):=L2
def oZ:∀i:Fin 256,(decide (48<=i.val)&&decide (i.val<=57))=decide (0<=Lib.indexByte Tw.IH (UInt8.ofNat i.val)):=L2
def yD(c:UInt8)(w:World):Calls prog 195 #[.int .u8 (c.toNat:Int)] w λe w'=>e=.returned (.bool (decide (0<=Lib.indexByte Tw.Es c)))/\w=w':=by have HE:=B0 (Zkc ⟨c.toNat,c.toNat_lt⟩);simp only[VO]at HE;generalize decide (0<=Lib.indexByte Tw.Es c)=r at*;go_enter func195,ntmps195;go_wp2;all_goals go_ret;refine⟨Zn ?_,rfl⟩;rw[<-HE.out,K4];simp;omega
def ZiN(c:UInt8)(w:World):Calls prog 196 #[.int .i64 5,.int .u8 (c.toNat:Int)] w λe w'=>e=.returned (.bool (decide (0<=Lib.indexByte Cd.syms c)))/\w=w':=by have HP:=B0 (λw=>zV c w);unfold Cd.Hd at HP;generalize Lib.indexByte Cd.syms c=x at*;exact pB
def ZiO(c:UInt8)(w:World):Calls prog 196 #[.int .i64 6,.int .u8 (c.toNat:Int)] w λe w'=>e=.returned (.bool (decide (0<=Lib.indexByte Tw.Ep c)))/\w=w':=by
 have HE:=Zly ⟨c.toNat,c.toNat_lt⟩;simp only[VO]at HE;rw[<-HE];have HP:Hid (∀w,Calls prog 198 #[.string ⟨#[48,49,50,51,52,53,54,55,56,57,45,36,58,47,46,43,65,66,67,68]⟩,.int .u8 (c.toNat:Int)] w λe w'=>e=.returned (.int .i64 (Lib.indexByte Tw.Bb c))/\w=w'):=B0 (λw=>SN Tw.Bb c I0 w);have HL:=B0 (λw=>yD c w);generalize decide (0<=Lib.indexByte Tw.Es c)=le at*;clear HE;by_cases h:0<=Lib.indexByte Tw.Bb c;·rw[C1 h];generalize Lib.indexByte Tw.Bb c=x at*;have d1:decide (0<=x)=true:=Y4;cases le;all_goals go_enter func196,ntmps196;go_wp2_with fail;refine(HP.out _).mono ?_;rintro e w1 ⟨rfl,rfl⟩;go_wp2_with fail;refine(HL.out _).mono ?_;rintro e w1 ⟨rfl,rfl⟩;go_wp2;go_ret;exact⟨rfl,rfl⟩
 .rw[G1 h];generalize Lib.indexByte Tw.Bb c=x at*;have d1:decide (0<=x)=false:=Y4;exact pB
end Go.Proofs.Enc
namespace Go.Proofs.Enc
open Go.Proofs.Tryz
open Go.RowKit
def XU(l cs:List UInt8):Tw.only l cs=l.all λc=>decide (0<=Lib.indexByte cs c):=rfl
def pC(l:List UInt8)(h0:1<=l.length)(h1:l.length<=1001)(ho:Tw.only l Cd.syms=true):(Cd.compI 7 l).2=0:=by
 have k7:l≠ []:=by intro e;rw[e]at h0;simp at h0
 have Ff:(l.all λc=>Cd.datB 7 c.toNat)=true:=by rw[M1];intro c hc;rw[XU,M1]at ho;have:=ho c hc;unfold Cd.datB Cd.Hd;rw[G0 rfl,RM];exact L3
 unfold Cd.compI;rw[D0 C0];unfold Cd.comp;rw[D0 k7,D0 C0,D0 (by rw[show Int.toNat 7=7 from rfl,Ff];exact Bool.noConfusion),D0 pD]
def yE(l:List UInt8)(h0:1<=l.length)(h1:l.length<=1001)(ho:Tw.only l Tw.IH=true):(Cd.compI 1 l).2=0:=by
 have k7:l≠ []:=by intro e;rw[e]at h0;simp at h0
 have Ff:(l.all λc=>Cd.datB 1 c.toNat)=true:=by rw[M1];intro c hc;rw[XU,M1]at ho;have h2:=ho c hc;have h3:=oZ ⟨c.toNat,c.toNat_lt⟩;simp only[VO]at h3;rw[<-h3]at h2;unfold Cd.datB Cd.isDig;rw[D0 I0];simp only[P1,G2]at h2⊢;omega
 unfold Cd.compI;rw[D0 C0];unfold Cd.comp;rw[D0 k7,D0 C0,D0 (by rw[show Int.toNat 1=1 from rfl,Ff];exact Bool.noConfusion),D0 pD]
def pE(l:List UInt8)(check:Bool)(h0:1<=l.length)(h1:l.length<=1000):(Tw.comp39 l check).2=if Tw.only l Cd.syms=true then 0 else 6:=by
 unfold Tw.comp39;cases ho:Tw.only l Cd.syms;·rw[G0 rfl];rfl
 .rw[D0 Bool.noConfusion,G0 rfl];cases check;(·rw[G0 rfl]);·rw[D0 Bool.noConfusion,G0 (pC l h0 C0 ho)]
def yF(l:List UInt8)(check:Bool):(Tw.compCb l check).2=if l.length<2 then 7 else if Tw.only (l.take 1) Tw.Es=false then 19 else if Tw.only (l.drop (l.length-1)) Tw.Es=false then 20 else if Tw.only ((l.drop 1).take (l.length-2)) Tw.Ep=false then 6 else 0:=by
 unfold Tw.compCb;split;·rfl
 split;·rfl
 split;·rfl
 split;·rfl
 split<;>rfl
def yG(l:List UInt8)(check:Bool)(h0:1<=l.length)(h1:l.length<=1000):(Tw.compItf l check).2=if Tw.only l Tw.IH=false then 6 else if(decide (l.length%2=1) !=check)then 7 else 0:=by
 unfold Tw.compItf;cases ho:Tw.only l Tw.IH;·rw[G0 rfl,G0 rfl]
 .rw[D0 (show¬(true=false)from Bool.noConfusion),D0 (show¬(true=false)from Bool.noConfusion)];cases check;(·rw[G0 rfl];by_cases h:l.length%2=0;(·rw[G0 h,D0 J3]);·rw[D0 h,G0 J3]);·rw[D0 Bool.noConfusion];have hz:(Cd.compI 1 l).2=0:=yE l h0 C0 ho;rw[G0 hz,S0,EY 1 l hz,show(Cd.cmp (Int.toNat 1) l).length=1 from rfl];by_cases h:(l.length+1)%2=0;(·rw[G0 h,D0 J3]);·rw[D0 h,G0 J3]
def OL(s:ByteArray)(check:Bool)(w:World)(h0:1<=s.size)(h1:s.size<=1000):
 Calls prog 125 #[.int .i64 5,.string s,.bool check] w λe w'=>e=.returned (.int .i64 (Tw.IJ 0 s.data.toList check).2)/\w=w':=by
 have HE:Hid ((Tw.IJ 0 s.data.toList check).2=if Tw.only s.data.toList Cd.syms=true then 0 else 6):=B0 (pE s.data.toList check yH (by rw[Za];exact h1));generalize(Tw.IJ 0 s.data.toList check).2=res at*;go_enter func125,ntmps125;go_wp2;go_loop [9] (λi=>∃j:Nat,j<=s.size/\i=.int .i64 (j:Int)/\Hid (∀c∈s.data.toList.take j,0<=Lib.indexByte Cd.syms c)) (λi=>s.size-(intOf i).toNat)
 case atStart=>exact EH
 case round=>obtain⟨j,hj,rfl,HB⟩:=hrel;by_cases hlt:j<s.size;(·have HI:=B0 (λw=>ZiN s[j] w);by_cases hx:0<=Lib.indexByte Cd.syms s[j];(·rw[C1 hx]at HI;have HX:=B0 hx;clear hx;go_wp2_with fail;refine(HI.out _).mono ?_;rintro e w1 ⟨rfl,rfl⟩;exact pF);·rw[G1 hx]at HI;have Bz:¬(Tw.only s.data.toList Cd.syms=true):=(by rw[XU,M1];intro h;exact hx (by simpa using h s[j] (Zl s j hlt)));rw[D0 Bz]at HE;clear Bz hx;go_wp2_with fail;refine(HI.out _).mono ?_;exact yI);·obtain rfl:j=s.size:=C0;rw[Zu]at HB;have Yz:Tw.only s.data.toList Cd.syms=true:=(by rw[XU,M1];intro c hc;simpa using HB.out c hc);rw[G0 Yz]at HE;clear Yz hj hlt;exact TG
def OM(s:ByteArray)(check:Bool)(w:World)(h0:1<=s.size)(h1:s.size<=1000):
 Calls prog 125 #[.int .i64 7,.string s,.bool check] w λe w'=>e=.returned (.int .i64 (Tw.IJ 2 s.data.toList check).2)/\w=w':=by
 have HE:Hid ((Tw.IJ 2 s.data.toList check).2=if Tw.only s.data.toList Tw.IH=false then 6 else if(decide (s.size%2=1) !=check)then 7 else 0):=B0 (by have:=yG s.data.toList check yH (by rw[Za];exact h1);rw[Za]at this;exact this);generalize(Tw.IJ 2 s.data.toList check).2=res at*;go_enter func125,ntmps125;go_wp2;go_loop [9] (λi=>∃j:Nat,j<=s.size/\i=.int .i64 (j:Int)/\Hid (∀c∈s.data.toList.take j,0<=Lib.indexByte Tw.IH c)) (λi=>s.size-(intOf i).toNat)
 case atStart=>exact EH
 case round=>obtain⟨j,hj,rfl,HB⟩:=hrel;by_cases hlt:j<s.size;(·have hde:=oZ ⟨s[j].toNat,s[j].toNat_lt⟩;simp only[VO]at hde;by_cases hx:0<=Lib.indexByte Tw.IH s[j];(·have HX:=B0 hx;rw[C1 hx]at hde;simp only[P1,G2]at hde;obtain⟨g1,g2⟩:=hde;have d1:decide ((s[j].toNat:Int)<48)=false:=X0;have d2:decide (57<(s[j].toNat:Int))=false:=X0;clear hx g1 g2;exact pF);·have Bz:Tw.only s.data.toList Tw.IH=false:=(by rw[XU,WT];exact⟨s[j],Zl s j hlt,by simpa using hx⟩);rw[G0 Bz]at HE;rw[G1 hx]at hde;have hor:s[j].toNat<48\/57<s[j].toNat:=(by rw[Bool.and_eq_false_iff,PJ,PJ]at hde;omega);clear Bz hx hde;by_cases g1:s[j].toNat<48;(·have d1:decide ((s[j].toNat:Int)<48)=true:=X0;exact TG);·have d1:decide ((s[j].toNat:Int)<48)=false:=X0;have d2:decide (57<(s[j].toNat:Int))=true:=X0;exact TG);·obtain rfl:j=s.size:=C0;rw[Zu]at HB;have Yz:¬(Tw.only s.data.toList Tw.IH=false):=pG;rw[D0 Yz]at HE;clear Yz hj hlt;by_cases hp:s.size%2=1;(·have dp:((s.size:Int)%2==1)=true:=GF;rw[C1 hp]at HE;exact pH);·have dp:((s.size:Int)%2==1)=false:=QJ;rw[G1 hp]at HE;exact pH
def pI(c:UInt8)(cs:List UInt8):Tw.only [c] cs=decide (0<=Lib.indexByte cs c):=by simp[Tw.only]
def pJ(s:ByteArray)(h:0<s.size):s.data.toList.take 1=[s[0]]:=by rw[Z1 s 0 h];rfl
def ZjI(s:ByteArray)(k:Nat)(h:k<s.size)(hk:k+1=s.size):s.data.toList.drop k=[s[k]]:=by rw[R8 s k h,hk,V7]
def pK(s:ByteArray)(j:Nat)(h1:1<=j)(h:j<s.size):(s.data.toList.drop 1).take (j-1+1)=(s.data.toList.drop 1).take (j-1)++[s[j]]:=by
 have hl:j-1<(s.data.toList.drop 1).length:=by rw[Z7];omega
 rw[L9 hl,List.getElem_drop];congr 2;simp only[show 1+(j-1)=j by omega];rfl
def Znj(s:ByteArray)(j z:Nat)(h1:1<=j)(h:j<z)(hz:z<s.size):(s[j]' C0)∈(s.data.toList.drop 1).take (z-1):=by have e:(s.data.toList.drop 1).take (j-1+1)<+:(s.data.toList.drop 1).take (z-1):=List.take_prefix_take_left C0;apply e.subset;rw[pK s j h1 C0];simp
def ON(s:ByteArray)(check:Bool)(w:World)(h0:1<=s.size)(h1:s.size<=1000):
 Calls prog 125 #[.int .i64 6,.string s,.bool check] w λe w'=>e=.returned (.int .i64 (Tw.IJ 1 s.data.toList check).2)/\w=w':=by
 have HE:Hid ((Tw.IJ 1 s.data.toList check).2=_):=B0 (yF s.data.toList check);rw[Za]at HE;generalize(Tw.IJ 1 s.data.toList check).2=res at*;by_cases h2:s.size<2
 .rw[G0 h2]at HE;go_enter func125,ntmps125;exact TG
 rw[D0 h2]at HE;obtain⟨z,hz⟩:∃z,s.size-1=z:=⟨_,rfl⟩;have Mr:z<s.size:=by omega
 have p8:1<=z:=by omega
 have hzi:(s.size:Int)-1=(z:Int):=by omega
 have IC:0<s.size:=by omega
 have Cz:2<=s.size:=by omega
 rw[pJ s IC,pI,show s.size-1=z from hz,ZjI s z Mr C0,pI,show s.size-2=z-1 by omega]at HE;have HL0:=B0 (λw=>yD (s[0]'IC) w);have HLZ:=B0 (λw=>yD s[z] w);have Mg:decide ((s.size:Int)<2)=false:=X0;have HZS:Hid (z+1=s.size):=B0 C0;clear hz h2;generalize decide (0<=Lib.indexByte Tw.Es (s[0]'IC))=b0 at*;generalize decide (0<=Lib.indexByte Tw.Es s[z])=bz at*;cases b0
 .rw[G0 rfl]at HE;go_enter func125,ntmps125;go_wp2_with fail;refine(HL0.out _).mono ?_;exact yI
 rw[D0 (show¬(true=false)from Bool.noConfusion)]at HE;cases bz
 .rw[G0 rfl]at HE;go_enter func125,ntmps125;go_wp2_with fail;refine(HL0.out _).mono ?_;rintro e w1 ⟨rfl,rfl⟩;go_wp2_with fail;refine(HLZ.out _).mono ?_;exact yI
 rw[D0 (show¬(true=false)from Bool.noConfusion)]at HE;go_enter func125,ntmps125;go_wp2_with fail;refine(HL0.out _).mono ?_;rintro e w1 ⟨rfl,rfl⟩;go_wp2_with fail;refine(HLZ.out _).mono ?_;rintro e w1 ⟨rfl,rfl⟩;have aBZ:Hid (res=if Tw.only ((s.data.toList.drop 1).take (z-1)) Tw.Ep=false then 6 else 0):=B0 HE.out;clear HL0 HLZ;go_wp2;go_loop [9] (λi=>∃j:Nat,1<=j/\j<=z/\i=.int .i64 (j:Int)/\Hid (∀c∈(s.data.toList.drop 1).take (j-1),0<=Lib.indexByte Tw.Ep c)) (λi=>z-(intOf i).toNat)
 case atStart=>exact⟨1,J0 _,p8,rfl,B0 (λc hc=>by simp at hc)⟩
 case round=>obtain⟨j,hj1,hj,rfl,HB⟩:=hrel;by_cases hlt:j<z;(·have hjs:j<s.size:=C0;have HI:=B0 (λw=>ZiO s[j] w);by_cases hx:0<=Lib.indexByte Tw.Ep s[j];(·rw[C1 hx]at HI;have HX:=B0 hx;clear hx;go_wp2_with fail;refine(HI.out _).mono ?_;rintro e w1 ⟨rfl,rfl⟩;go_wp2;go_round;(case rel=>exact⟨j+1,by omega,by omega,by go_num,B0 (λc hc=>by rw[show j+1-1=(j-1)+1 by omega,pK s j hj1 hjs,E3]at hc;rcases hc with h|h;(·exact HB.out c h);·rw[D3]at h;rw[h];exact HX.out)⟩);case measure=>exact QH);·rw[G1 hx]at HI;have Bz:Tw.only ((s.data.toList.drop 1).take (z-1)) Tw.Ep=false:=(by rw[XU,WT];exact⟨s[j],Znj s j z hj1 hlt Mr,by simpa using hx⟩);rw[G0 Bz]at aBZ;clear Bz hx;go_wp2_with fail;refine(HI.out _).mono ?_;rintro e w1 ⟨rfl,rfl⟩;go_wp2;go_ret;exact⟨Zo aBZ.out.symm,rfl⟩);·obtain rfl:j=z:=C0;have Yz:¬(Tw.only ((s.data.toList.drop 1).take (j-1)) Tw.Ep=false):=pG;rw[D0 Yz]at aBZ;clear Yz hj hlt;go_wp2;go_ret;exact⟨Zo aBZ.out.symm,rfl⟩
end Go.Proofs.Enc
namespace Go.Proofs.Enc
open Go.Proofs.Tryz
open Go.RowKit
def Tw.cbc(l:List UInt8):List UInt8:=l.take (l.length-1)++[Tw.Ep.getD ((16-Tw.sumCb l%16)%16).toNat 0]++l.drop (l.length-1)
def Tw.chkK(k:Nat)(l:List UInt8):List UInt8:=match k with
 |0=>(Cd.app 7 l).1
 |1=>Tw.cbc l
 |_=>(Cd.app 1 l).1
def yJ(k:Int)(l:List UInt8)(hl:l.length<=1001)(h:(Cd.compI k l).2=0):Cd.app k l=(l++(Cd.compI k l).1,0):=by have:=yC k l;unfold Cd.app;rw[G0 h,D0 C0]
def ZjC(l:List UInt8)(hl:l.length<=1000)(h0:1<=l.length)(h:(Tw.comp39 l true).2=0):(Tw.comp39 l true).1=42::(Cd.app 7 l).1++[42]:=by
 have he:=pE l true h0 hl;rw[h]at he;have ho:Tw.only l Cd.syms=true:=by cases hh:Tw.only l Cd.syms;(·rw[hh]at he;simp at he);·rfl
 have hz:=pC l h0 C0 ho;unfold Tw.comp39;rw[ho,D0 Bool.noConfusion,D0 Bool.noConfusion,G0 hz,yJ 7 l C0 hz];simp
def ZjD(l:List UInt8)(h:(Tw.compCb l true).2=0):(Tw.compCb l true).1=Tw.cbc l:=by
 have he:=yF l true;rw[h]at he;unfold Tw.compCb;split;·exact GG
 .rename_i g;rw[D0 g]at he;split;(·exact GG);·rename_i g;rw[D0 g]at he;split;(·exact GG);·rename_i g;rw[D0 g]at he;split;(·exact GG);·rw[D0 Bool.noConfusion];rfl
def ZjE(l:List UInt8)(hl:l.length<=1000)(h0:1<=l.length)(h:(Tw.compItf l true).2=0):(Tw.compItf l true).1=(Cd.app 1 l).1:=by
 have he:=yG l true h0 hl;rw[h]at he;have ho:Tw.only l Tw.IH=true:=pL;have hz:=yE l h0 C0 ho;unfold Tw.compItf at h⊢;rw[ho,D0 (show¬(true=false)from Bool.noConfusion),D0 (show¬(true=false)from Bool.noConfusion),G0 hz]at h⊢;rw[yJ 1 l C0 hz];exact pM
def ZnK:∀v:Nat,v<16->((⟨#[48,49,50,51,52,53,54,55,56,57,45,36,58,47,46,43,65,66,67,68]⟩:ByteArray).extract v (v+1)).data.toList=[Tw.Ep.getD v 0]:=by
 intro v hv;rw[Zr];have:∀v:Fin 16,(([48,49,50,51,52,53,54,55,56,57,45,36,58,47,46,43,65,66,67,68]:List UInt8).drop v.val).take (v.val+1-v.val)=[Tw.Ep.getD v.val 0]:=by decide
 exact this ⟨v,hv⟩
def Zmb{a:ByteArray}{l:List UInt8}(h1:a.data.toList=l):Ending.returned (.string a)=.returned (strV l):=by rw[<-h1];unfold strV;rw[Z0]
def Zj7(s:ByteArray)(w:World)(hs:s.size<=1000000):
 Calls prog 126 #[.int .i64 5,.string s] w λe w'=>e=.returned (strV (Tw.chkK 0 s.data.toList))/\Ext w w':=by
 have HA:=B0 (λw=>oV 7 s w C0);show Calls prog 126 #[.int .i64 5,.string s] w λe w'=>e=.returned (strV (Cd.app 7 s.data.toList).1)/\Ext w w'
 unfold strV;generalize Cd.app 7 s.data.toList=r at*;obtain⟨r1,r2⟩:=r;dsimp only at HA⊢;go_enter func126,ntmps126;go_wp2_with fail;refine(HA.out _).mono ?_;rintro e w1 ⟨rfl,rfl⟩;go_wp2;go_ret;exact⟨rfl,Ext.refl _⟩
def Zj9(s:ByteArray)(w:World)(hs:s.size<=1000000):
 Calls prog 126 #[.int .i64 7,.string s] w λe w'=>e=.returned (strV (Tw.chkK 2 s.data.toList))/\Ext w w':=by
 have HA:=B0 (λw=>oV 1 s w C0);show Calls prog 126 #[.int .i64 7,.string s] w λe w'=>e=.returned (strV (Cd.app 1 s.data.toList).1)/\Ext w w'
 unfold strV;generalize Cd.app 1 s.data.toList=r at*;obtain⟨r1,r2⟩:=r;dsimp only at HA⊢;go_enter func126,ntmps126;go_wp2_with fail;refine(HA.out _).mono ?_;rintro e w1 ⟨rfl,rfl⟩;go_wp2;go_ret;exact⟨rfl,Ext.refl _⟩
def Zj8(s:ByteArray)(w:World)(hs:s.size<=1000000)(h1:1<=s.size)(Az:Hid (∀c∈s.data.toList,0<=Lib.indexByte Tw.Bb c)):
 Calls prog 126 #[.int .i64 6,.string s] w λe w'=>e=.returned (strV (Tw.chkK 1 s.data.toList))/\Ext w w':=by
 have HT:Hid (Tw.chkK 1 s.data.toList=_):=B0 (Tw.cbc.eq_1 s.data.toList);rw[Za]at HT;generalize Tw.chkK 1 s.data.toList=res at*;go_enter func126,ntmps126;go_wp2;go_loop [10,9] (λi x=>∃j:Nat,j<=s.size/\i=.int .i64 (j:Int)/\x=.int .i64 (Tw.sumCb (s.data.toList.take j))) (λi _=>s.size-(intOf i).toNat)
 case atStart=>exact WQ
 case round=>obtain⟨j,hj,rfl,rfl⟩:=hrel;have hb:=jJ (s.data.toList.take j) (λc hc=>Az.out c (I4 hc));rw[W7 s j hj]at hb;obtain⟨o8,n7⟩:=hb;by_cases hlt:j<s.size;(·have HI:Hid (∀w,Calls prog 198 #[.string ⟨#[48,49,50,51,52,53,54,55,56,57,45,36,58,47,46,43,65,66,67,68]⟩,.int .u8 (s[j].toNat:Int)] w λe w'=>e=.returned (.int .i64 (Lib.indexByte Tw.Bb s[j]))/\w=w'):=B0 (λw=>SN Tw.Bb s[j] I0 w);have Nx:=B0 (jI (s.data.toList.take j) s[j]);rw[<-Z1 s j hlt]at Nx;have Mj:=Az.out s[j] (Zl s j hlt);have Gh:Lib.indexByte Tw.Bb s[j]<20:=jM;exact jN);·obtain rfl:j=s.size:=C0;rw[Zu]at o8 n7⊢;clear hj hlt;generalize Tw.sumCb s.data.toList=g at*;obtain⟨v,hv,aCf⟩:∃v:Nat,(16-g%16)%16=(v:Int)/\v<16:=⟨((16-g%16)%16).toNat,by omega,by omega⟩;rw[hv,H6]at HT;have Io:=B0 (ZnK v aCf);obtain⟨u,hu⟩:∃u:Nat,v+1=u:=⟨_,rfl⟩;rw[hu]at Io;have Aw:(v:Int)+1=(u:Int):=C0;have Ca:v<=u:=C0;have ID:u<=16:=C0;have hsn:((s.size:Int)-1).toNat=s.size-1:=C0;clear hu;go_wp2;go_region;go_wp2;go_ret;refine⟨?_,?_⟩;(·rw[HT.out];refine Zmb ?_;rw[NP,Zx,Io.out,Z8]);·exact(Ext.refl _).drewN _
end Go.Proofs.Enc
end
namespace Go.Proofs.Enc
open Go.Proofs.Tryz
section
open Go.RowKit
def Tw.wB(r:Int)(bits:List Bool):List Int:=bits.map λb=>if b then r else 1
def ZnC(r:Int)(bits:List Bool)(k:Nat)(h:k<bits.length):Tw.wB r (bits.take (k+1))=Tw.wB r (bits.take k)++[if bits[k]then r else 1]:=by unfold Tw.wB;rw[L9 h,R2];rfl
def Zo8(r:Int)(bits:List Bool):(Tw.wB r bits).length=bits.length:=M0 _
def XV(r:Int)(l:List UInt8):Tw.wB r (Tw.bits l)=Tw.widths r l:=by unfold Tw.wB Tw.bits Tw.widths;rw[K7];refine VM (λc _=> ?_);simp only[Function.comp,I1]
def ElR(B:Nat)(v:Value)(l:List Int)(w:World)(e:Ending)(w':World):Prop:=∃v',e=.returned v'/\Own 3 w' B v' (l.map encI)/\Below B w w'/\N5 w w' v v'
def ZU(B C:Nat)(v p:Value)(xs:List Int)(bits:List Bool)(r:Int)(w:World)(hv:Own 3 w B v (xs.map encI))(hp:SlN w C p (bits.map encT))(ha:Z2 v p)(hB:B<=w.heap.size)(hx:xs.length<=1000000)(hb:bits.length<=100):
 Calls prog 129 #[v,p,.int .i64 r] w (ElR B v (xs++Tw.wB r bits) w):=by
 obtain⟨a1,c1,rfl⟩:=hp.1.form;rw[M0]at hp ha⊢;go_enter func129,ntmps129;go_wp2;go_loopw [0,7] (λc i wr=>∃k:Nat,k<=bits.length/\i=.int .i64 (k:Int)/\Own 3 wr B c ((xs++Tw.wB r (bits.take k)).map encI)/\Below B w wr/\N5 w wr v c) (λ_ i _=>bits.length-(intOf i).toNat)
 case atStart=>exact⟨0,R0 _,rfl,by simpa[Tw.wB]using hv,YK _ _,N5.refl _ _⟩
 case round=>obtain⟨k,hk,rfl,b8,hbw,hbs⟩:=hrel;by_cases hlt:k<bits.length;(·have j8:=(hbs C _ _ hp ha).1.1;obtain⟨b,off,rfl,n7,hc⟩:=j8.at_ (k:=k) CQ;rw[X9]at hc;have HS:=B0 (ZnC r bits k hlt);have De:(xs++Tw.wB r (bits.take k)).length<=1000100:=(by rw[S0,Zo8,J1];omega);have Te:=hbw.size;generalize Dt:bits[k]=bk at*;generalize Tw.wB r (bits.take k)=got at*;generalize hgg:xs++got=gg at*;clear j8 Dt;cases bk;(·simp only[encT]at hc;go_wp2_with (at_builtin;refine ZF rfl _ _ rfl B _ gg rfl (b8.alloc _) _ 1 rfl ?c1 ?c2 ?c3 ?_);(case c1=>exact V2);(case c2=>omega);(case c3=>exact VW);exact pN);·simp only[encT]at hc;go_wp2_with (at_builtin;refine ZF rfl _ _ rfl B _ gg rfl (b8.alloc _) _ r rfl ?c1 ?c2 ?c3 ?_);(case c1=>exact V2);(case c2=>omega);(case c3=>exact VW);exact pN);·obtain rfl:k=bits.length:=C0;rw[J6]at b8;clear hk hlt;go_wp2;go_ret;exact⟨_,rfl,b8,hbw,hbs⟩
def ZlB(W:World)(a b:Bool):Own 4 (W.alloc (.cells #[.bool a,.bool b] 4)) W.heap.size (.slice (some ⟨W.heap.size,0,none⟩) 2 2) ([a,b].map encT):=World.ownsRow_lit W #[.bool a,.bool b] 2 (J0 _) I0 rfl
def ZlC(W:World):Own 3 (W.alloc (.cells #[.int .i64 1,.int .i64 1,.int .i64 1,.int .i64 1] 3)) W.heap.size (.slice (some ⟨W.heap.size,0,none⟩) 4 4) (([1,1,1,1]:List Int).map encI):=World.ownsRow_lit W #[.int .i64 1,.int .i64 1,.int .i64 1,.int .i64 1] 4 (J0 _) I0 rfl
def Z2.fresh{t:TypeId}{w:World}{B:Nat}{c:Value}{xs:List Value}(h:Own t w B c xs)(n k m:Nat)(hn:w.heap.size<=n):Z2 c (.slice (some ⟨n,0,none⟩) k m):=by refine .inr (λe=> ?_);have:=(R4 h n (by rw[e];rfl)).2;omega
def Z2.later{t:TypeId}{w w':World}{B:Nat}{c p:Value}{xs ys:List Value}(h:Own t w B c xs)(hp:SlN w' w.heap.size p ys):Z2 c p:=by
 cases hc:c.ownBlock with
 |none=>exact .inl hc
 |some k=>refine .inr (λe=> ?_);have h1:=(R4 h k hc).2;have h2:=(hp.2 k (by rw[<-e,hc])).1;omega
def Zhc{w:World}{ops:Array Oper}{rest:List Oper}{o:Oper}{a:Act}{Q:Exit->Act->World->Prop}(IG:o.guard=none)(s x:Operand)
 (ho:o.op=.call {callee:=.builtin .append,args:= #[s,x],argTypes:= #[43,43]})
 (B:Nat)(v:Value)(l:List Int)(hs:a.eval s=v)(b8:Own 3 w B v (l.map encI))(b:Nat)(u u1 u2:Int)(hx:a.eval x=.slice (some ⟨b,0,none⟩) 3 3)
 (hc:w.cell? ⟨b,0,none⟩=some (encI u))(Am:w.cell? ⟨b,1,none⟩=some (encI u1))(IS:w.cell? ⟨b,2,none⟩=some (encI u2))(hn:l.length<=999999990)(hB:B<=w.heap.size)
 (h:∀v' w',Own 3 w' B v' ((l++[u,u1,u2]).map encI)->w.grownBy w' v.ownBlock->wpList prog ops Q rest (a.put o.dst v') w'):wpList prog ops Q (o::rest) a w:=
 ZS IG s x 43 3 (.int .i64 0) 8 ho underlying43 WP rfl I0 B v _ hs b8 b 0 3 3 [encI u,encI u1,encI u2] hx rfl
  (λj u' hj=>by
   match j with
   |0=>simp only[List.getElem?_cons_zero,P2]at hj;subst hj;exact hc
   |1=>simp only[List.getElem?_cons_succ,List.getElem?_cons_zero,P2]at hj;subst hj;exact Am
   |2=>simp only[List.getElem?_cons_succ,List.getElem?_cons_zero,P2]at hj;subst hj;exact IS
   |j+3=>simp at hj)
  (λu' hu=>by simp only[E2,J4,F4]at hu;rcases hu with rfl|rfl|rfl<;>rfl) J5 hB
  (λv' w' h1 h2=>h v' w' WO h2)
def SO(r:Int)(a b:List UInt8):Tw.widths r (a++b)=Tw.widths r a++Tw.widths r b:=R2
def yK(r:Int)(a:List UInt8):(Tw.widths r a).length=a.length:=M0 _
def Zkg(r:Int)(x y:List UInt8)(k:Nat)(hx:k<x.length)(hy:k<y.length):
 Tw.widths r (Tw.mix (x.take (k+1)) (y.take (k+1)))=Tw.widths r (Tw.mix (x.take k) (y.take k))++Tw.wB r [x[k]==119,y[k]==119]:=by
 rw[jR x y k hx hy,SO];congr 1;simp[Tw.widths,Tw.wB]
def ZiT(s:ByteArray)(u z:Nat)(he:u%2=0)(hz:z=u+1)(h:z<s.size):
 Tw.drawPairs (s.data.toList.take (u+2))=Tw.drawPairs (s.data.toList.take u)++Tw.mix (Tw.pat Tw.IH Tw.Cg 5 (s[u]' C0)).1 (Tw.pat Tw.IH Tw.Cg 5 s[z]).1:=by
 subst hz;rw[Z1 s (u+1) h,Z1 s u C0,V1,EN (u/2) _ _ (by rw[W7 s u C0];omega)];simp[Tw.drawPairs]
def pO(c:UInt8)(h:0<=Lib.indexByte Tw.IH c):Tw.Ao 2 c=(Tw.bits (Tw.pat Tw.IH Tw.Cg 5 c).1,0):=by show(if(Tw.pat Tw.IH Tw.Cg 5 c).2 then(Tw.bits (Tw.pat Tw.IH Tw.Cg 5 c).1,0)else([],6))=_;rw[G0];unfold Tw.pat;rw[D0 C0]
def pP(x:List UInt8)(k:Nat)(h:k<x.length):((Tw.bits x).map encT)[k]'(by simp[Tw.bits];exact h)=.bool (x[k]==119):=by simp[Tw.bits,encT]
def OO(x:List UInt8):(Tw.bits x).length=x.length:=M0 _
def GH(s:ByteArray)(r:Int)(w:World)(hs:s.size<=2000)(he:s.size%2=0)(HD:Hid (∀c∈s.data.toList,0<=Lib.indexByte Tw.IH c)):
 Calls prog 127 #[.string s,.int .i64 r] w λe w'=>∃v,e=.returned v/\Own 3 w' w.heap.size v ((Tw.widths r (Tw.drawItf s.data.toList)).map encI)/\Ext w w':=by
 have Ak:Hid (Tw.widths r (Tw.drawItf s.data.toList)=[1,1,1,1]++Tw.widths r (Tw.drawPairs s.data.toList)++[r,1,1]):=B0 (by unfold Tw.drawItf;rw[SO,SO];rfl);generalize Tw.widths r (Tw.drawItf s.data.toList)=res at*;have Na:=B0 (ZlC w);go_enter func127,ntmps127;go_wp2;go_loopw [6,5] (λi c wr=>∃u:Nat,u<=s.size/\u%2=0/\i=.int .i64 (u:Int)/\Own 3 wr w.heap.size c ((([1,1,1,1]:List Int)++Tw.widths r (Tw.drawPairs (s.data.toList.take u))).map encI)/\Ext w wr) (λi _ _=>s.size-(intOf i).toNat)
 case atStart=>exact⟨0,R0 _,rfl,rfl,Na.out,Xe⟩
 case round=>obtain⟨u,hu,hue,rfl,b8,j3⟩:=hrel;by_cases hlt:u<s.size;(·obtain⟨z,hz⟩:∃z,z=u+1:=⟨_,rfl⟩;have Mr:z<s.size:=C0;have hzi:(u:Int)+1=(z:Int):=C0;have d1:decide ((z:Int)<(s.size:Int))=true:=X0;have HS:=B0 (ZiT s u z hue hz Mr);have Ft:=HD.out s[u] (Zl s u hlt);have Jm:=HD.out s[z] (Zl s z Mr);have hla:=NY s[u] Ft;have Uh:=NY s[z] Jm;have Ts:=B0 (λw=>oN s[u] w);have HPB:=B0 (λw=>oN s[z] w);rw[pO s[u] Ft]at Ts;rw[pO s[z] Jm]at HPB;have De:(([1,1,1,1]:List Int)++Tw.widths r (Tw.drawPairs (s.data.toList.take u))).length<=100000:=(by have:=NZ (s.data.toList.take u);rw[W7 s u hu]at this;exact pQ);have Ke:Hid ((([1,1,1,1]:List Int)++Tw.widths r (Tw.drawPairs (s.data.toList.take (u+2))))=([1,1,1,1]++Tw.widths r (Tw.drawPairs (s.data.toList.take u)))++Tw.widths r (Tw.mix (Tw.pat Tw.IH Tw.Cg 5 s[u]).1 (Tw.pat Tw.IH Tw.Cg 5 s[z]).1)):=B0 (by rw[HS.out,SO,V1]);generalize([1,1,1,1]:List Int)++Tw.widths r (Tw.drawPairs (s.data.toList.take u))=gg at*;generalize(Tw.pat Tw.IH Tw.Cg 5 s[u]).1=x at*;generalize(Tw.pat Tw.IH Tw.Cg 5 s[z]).1=y at*;clear HS Ft Jm hz;go_wp2_with fail;refine(Ts.out _).mono ?_;rintro e w1 ⟨pa,rfl,Oi,b7⟩;go_wp2_with fail;refine(HPB.out _).mono ?_;rintro e w2 ⟨pb,rfl,hpb,j0⟩;have aCL:Z2 _ pa:=Z2.later b8 Oi;have aBI:=b8.ext b7;have aCM:Z2 _ pb:=Z2.later aBI hpb;have Hs:=aBI.ext j0;have aAg:=Oi.ext j0;have aBl:=(j3.trans b7).trans j0;have hB2:=aBl.size;have aBg:=hpb.mono (B':=0) (R0 _);replace aAg:=aAg.mono (B':=0) (R0 _);clear b8 aBI Oi hpb b7 j0 j3 Ts HPB;obtain⟨a1,c1,rfl⟩:=aAg.1.form;obtain⟨b1,e1,rfl⟩:=aBg.1.form;have e5a:(List.map encT (Tw.bits x)).length=5:=(by rw[M0,OO,hla]);have e5b:(List.map encT (Tw.bits y)).length=5:=(by rw[M0,OO,Uh]);simp only[e5a,e5b]at aAg aCL aBg aCM⊢;go_wp2;go_loopw [11,5] (λi c wq=>∃k:Nat,k<=5/\i=.int .i64 (k:Int)/\Own 3 wq w.heap.size c ((gg++Tw.widths r (Tw.mix (x.take k) (y.take k))).map encI)/\Ext w wq/\SlN wq 0 (.slice a1 5 c1) ((Tw.bits x).map encT)/\SlN wq 0 (.slice b1 5 e1) ((Tw.bits y).map encT)/\Z2 c (.slice a1 5 c1)/\Z2 c (.slice b1 5 e1)) (λi _ _=>5-(intOf i).toNat);(case atStart=>exact⟨0,R0 _,rfl,by simpa[Tw.mix,Tw.widths]using Hs,aBl,aAg,aBg,aCL,aCM⟩);case round=>clear Hs aBl aAg aBg aCL aCM;obtain⟨k,hk,rfl,b8,j3,hsa,Fv,ha,hb⟩:=hrel;by_cases hk5:k<5;(·obtain⟨ba,oa,rfl,aIa,hca⟩:=hsa.1.at_ (k:=k) (by rw[M0,OO,hla];exact hk5);obtain⟨bb,ob,rfl,aCV,Ho⟩:=Fv.1.at_ (k:=k) (by rw[M0,OO,Uh];exact hk5);rw[pP x k C0]at hca;rw[pP y k C0]at Ho;have HM:=B0 (Zkg r x y k C0 C0);have Gz:(Tw.widths r (Tw.mix (x.take k) (y.take k))).length<=10:=(by have:=NR (x.take k) (y.take k);rw[J1]at this;rw[yK];omega);generalize Tw.widths r (Tw.mix (x.take k) (y.take k))=mm at*;generalize(x[k]==119)=bx at*;generalize(y[k]==119)=by' at*;have Mi:(gg++mm).length<=1000000:=(by rw[S0];omega);have hB3:=j3.size;go_wp2;go_region_with (go_at_call 129;refine(ZU w.heap.size 0 _ _ (gg++mm) [bx,by'] r _ (Own.drew (b8.alloc _)) ((SlN.aCm (Own.drew (ZlB wr bx by'))).mono (R0 _)) (Z2.fresh b8 _ _ _ (J0 _)) J3 Mi L0).mono ?_;rintro e w5 ⟨v',rfl,l6,aB8,aBA⟩);all_goals have hxA:Ext wr (wr.alloc (.cells #[.bool bx,.bool by'] 4)).drew:=Xe;have hs5:=aBA 0 _ _ (hsa.ext hxA) ha;have ht5:=aBA 0 _ _ (Fv.ext hxA) hb;have j5:Ext w w5:=O4 (j3.trans hxA) aB8;clear aBA aB8 b8 hsa Fv ha hb;go_wp2;go_roundw;(case rel=>exact⟨k+1,by omega,by go_num,by rw[HM.out,<-V1];exact l6,j5,hs5.1,ht5.1,hs5.2,ht5.2⟩);case measure=>exact QH);·obtain rfl:k=5:=C0;rw[S1 C0,S1 C0,<-Ke.out]at b8;clear hk hk5 hsa Fv ha hb;go_wp2;go_roundw;(case rel=>exact⟨u+2,by omega,by omega,by go_num,b8,j3⟩);case measure=>exact QH);·obtain rfl:u=s.size:=C0;rw[Zu]at b8;have De:(([1,1,1,1]:List Int)++Tw.widths r (Tw.drawPairs s.data.toList)).length<=100000:=(by have:=NZ s.data.toList;rw[Za]at this;exact pQ);generalize([1,1,1,1]:List Int)++Tw.widths r (Tw.drawPairs s.data.toList)=gg at*;have d1:decide ((s.size:Int)+1<(s.size:Int))=false:=X0;clear hu hlt;go_wp2_with (at_builtin;refine Zhc rfl _ _ rfl w.heap.size _ gg rfl (b8.alloc _) _ r 1 1 rfl ?c1 ?c2 ?c3 ?c4 ?c5 ?_);(case c1=>exact V2);(case c2=>exact V2);(case c3=>exact V2);(case c4=>omega);(case c5=>have:=j3.size;exact VW);intro v' w5 l6 j6;have j5:=(j3.alloc _).l8 j6 b8.low;clear b8 j6;go_wp2;go_ret;exact⟨v',rfl,by rw[Ak.out,R2];exact l6,j5⟩
def ZjY(L:List (List UInt8))(x:List UInt8)(h:L≠ []):Lib.join (L++[x]) [110]=Lib.join L [110]++[110]++x:=by have h1:=eH (L++[x]) L0;have h2:=eH L h;rw[R2,xV,<-h2]at h1;simp at h1;rw[h1];simp
def XW(k:Nat)(c:UInt8):(Tw.Ao k c).1=Tw.bits (Tw.patK k c).1:=by
 have hz:∀cs ps z,(Tw.pat cs ps z c).2=false->(Tw.pat cs ps z c).1=[]:=by intro cs ps z h;unfold Tw.pat at h⊢;exact pM
 unfold Tw.Ao;cases h:(Tw.patK k c).2;·have:(Tw.patK k c).1=[]:=(by unfold Tw.patK at h⊢;split;all_goals first|exact hz _ _ _ h|(simp only at h;exact hz _ _ _ h));rw[this];rfl
 .rfl
def Tw.IV(k:Nat)(l:List UInt8):List UInt8:=Lib.join (l.map λc=>(Tw.patK k c).1) [110]
def XX(k:Nat)(C:ByteArray)(h:0<C.size):Tw.IV k (C.data.toList.take 1)=(Tw.patK k (C[0]'h)).1:=by unfold Tw.IV;rw[pJ C h,M4,H7,Lib.join_one]
def XY(k:Nat)(C:ByteArray)(j:Nat)(h0:0<j)(h:j<C.size):Tw.IV k (C.data.toList.take (j+1))=Tw.IV k (C.data.toList.take j)++[110]++(Tw.patK k C[j]).1:=by unfold Tw.IV;rw[Z1 C j h,R2,M4,H7,ZjY _ _ (by intro e;have:=V0 List.length e;rw[M0,W7 C j C0,I3]at this;omega)]
def YI(k:Nat)(c:UInt8):(Tw.patK k c).1.length<=9:=by unfold Tw.patK;split;all_goals exact EW _ _ _ _ C0
def pR(k:Nat)(l:List UInt8):(Tw.IV k l).length<=10*l.length:=by unfold Tw.IV;refine F3 (EI _ (λx hx=> ?_)) J5;rw[I5]at hx;obtain⟨c,_,rfl⟩:=hx;exact YI k c
def ZlM(s C:ByteArray)(p5:ByteArray)(w:World)(h0:1<=s.size)(hs:s.size<=1000)(x8:C.size<=1100)(HE:Hid ((Tw.IJ 0 s.data.toList false).2=0))
 (HX:Hid ((⟨#[42]⟩++s++⟨#[42]⟩:ByteArray)=C))
 :Calls prog 71 #[.int .i64 5,.string s,.agg #[.int .i64 2,.bool false,.string p5]] w (EncR (Tw.widths 2 (Tw.IV 0 C.data.toList),0) w):=by
 have HW:=B0 (λw=>OL s false w h0 hs);rw[HE.out]at HW;have d0:((s.size:Int)==0)=false:=QJ;have d1:decide (1000<(s.size:Int))=false:=X0;clear HE;go_enter func71,ntmps71;go_wp2_with fail;refine(HW.out _).mono ?_;rintro e w1 ⟨rfl,rfl⟩;have b7:=Ext.refl (w.alloc (.cells #[.int .i64 2,.bool false,.string p5] 24));clear HW;go_wp2;rw[HX.out];go_loopw [10,9] (λi c wr=>∃j:Nat,j<=C.size/\i=.int .i64 (j:Int)/\Own 3 wr (w.heap.size+1) c ((Tw.widths 2 (Tw.IV 0 (C.data.toList.take j))).map encI)/\Ext (w.alloc (.cells #[.int .i64 2,.bool false,.string p5] 24)) wr) (λi _ _=>C.size-(intOf i).toNat)
 case atStart=>exact XZ
 case round=>clear b7;obtain⟨j,hj,rfl,b8,j3⟩:=hrel;have Te:w.heap.size+1<=wr.heap.size:=WA;by_cases hlt:j<C.size;(·have HP:=B0 (λw=>GC C[j] w);rw[show Tw.Ao 0 C[j]=(Tw.bits (Tw.patK 0 C[j]).1,(Tw.Ao 0 C[j]).2)from WB (XW _ _) rfl]at HP;have Lg:=YI 0 C[j];have De:(Tw.widths 2 (Tw.IV 0 (C.data.toList.take j))).length<=100000:=GI;by_cases Cx:j=0;(·subst Cx;have HS:=B0 (XX 0 C hlt);generalize(Tw.Ao 0 C[0]).2=pe at*;generalize(Tw.patK 0 C[0]).1=x at*;exact QR);·have Mk:0<j:=C0;have dj:decide (0<(j:Int))=true:=X0;have HS:=B0 (XY 0 C j Mk hlt);have Xj:Hid (Tw.widths 2 (Tw.IV 0 (C.data.toList.take (j+1)))=Tw.widths 2 (Tw.IV 0 (C.data.toList.take j))++[1]++Tw.widths 2 (Tw.patK 0 C[j]).1):=B0 WC;generalize Tw.widths 2 (Tw.IV 0 (C.data.toList.take j))=gg at*;generalize(Tw.Ao 0 C[j]).2=pe at*;generalize(Tw.patK 0 C[j]).1=x at*;exact Qu);·exact QN
def ZlN(s C:ByteArray)(p5:ByteArray)(w:World)(h0:1<=s.size)(hs:s.size<=1000)(x8:C.size<=1100)(HE:Hid ((Tw.IJ 0 s.data.toList false).2=0))
 (HX:Hid ((⟨#[42]⟩++s++⟨#[42]⟩:ByteArray)=C))
 :Calls prog 71 #[.int .i64 5,.string s,.agg #[.int .i64 3,.bool false,.string p5]] w (EncR (Tw.widths 3 (Tw.IV 0 C.data.toList),0) w):=by
 have HW:=B0 (λw=>OL s false w h0 hs);rw[HE.out]at HW;have d0:((s.size:Int)==0)=false:=QJ;have d1:decide (1000<(s.size:Int))=false:=X0;clear HE;go_enter func71,ntmps71;go_wp2_with fail;refine(HW.out _).mono ?_;rintro e w1 ⟨rfl,rfl⟩;have b7:=Ext.refl (w.alloc (.cells #[.int .i64 3,.bool false,.string p5] 24));clear HW;go_wp2;rw[HX.out];go_loopw [10,9] (λi c wr=>∃j:Nat,j<=C.size/\i=.int .i64 (j:Int)/\Own 3 wr (w.heap.size+1) c ((Tw.widths 3 (Tw.IV 0 (C.data.toList.take j))).map encI)/\Ext (w.alloc (.cells #[.int .i64 3,.bool false,.string p5] 24)) wr) (λi _ _=>C.size-(intOf i).toNat)
 case atStart=>exact XZ
 case round=>clear b7;obtain⟨j,hj,rfl,b8,j3⟩:=hrel;have Te:w.heap.size+1<=wr.heap.size:=WA;by_cases hlt:j<C.size;(·have HP:=B0 (λw=>GC C[j] w);rw[show Tw.Ao 0 C[j]=(Tw.bits (Tw.patK 0 C[j]).1,(Tw.Ao 0 C[j]).2)from WB (XW _ _) rfl]at HP;have Lg:=YI 0 C[j];have De:(Tw.widths 3 (Tw.IV 0 (C.data.toList.take j))).length<=100000:=GI;by_cases Cx:j=0;(·subst Cx;have HS:=B0 (XX 0 C hlt);generalize(Tw.Ao 0 C[0]).2=pe at*;generalize(Tw.patK 0 C[0]).1=x at*;exact QQ);·have Mk:0<j:=C0;have dj:decide (0<(j:Int))=true:=X0;have HS:=B0 (XY 0 C j Mk hlt);have Xj:Hid (Tw.widths 3 (Tw.IV 0 (C.data.toList.take (j+1)))=Tw.widths 3 (Tw.IV 0 (C.data.toList.take j))++[1]++Tw.widths 3 (Tw.patK 0 C[j]).1):=B0 WC;generalize Tw.widths 3 (Tw.IV 0 (C.data.toList.take j))=gg at*;generalize(Tw.Ao 0 C[j]).2=pe at*;generalize(Tw.patK 0 C[j]).1=x at*;exact Qt);·exact QN
def ZlO(s C:ByteArray)(p5:ByteArray)(w:World)(h0:1<=s.size)(hs:s.size<=1000)(x8:C.size<=1100)(HE:Hid ((Tw.IJ 0 s.data.toList true).2=0))
 (D:ByteArray)(HK:Hid (∀w,Calls prog 126 #[.int .i64 5,.string s] w λe w'=>e=.returned (.string D)/\Ext w w'))
 (HX:Hid ((⟨#[42]⟩++D++⟨#[42]⟩:ByteArray)=C))
 :Calls prog 71 #[.int .i64 5,.string s,.agg #[.int .i64 2,.bool true,.string p5]] w (EncR (Tw.widths 2 (Tw.IV 0 C.data.toList),0) w):=by
 have HW:=B0 (λw=>OL s true w h0 hs);rw[HE.out]at HW;have d0:((s.size:Int)==0)=false:=QJ;have d1:decide (1000<(s.size:Int))=false:=X0;clear HE;have Oc:D.size<=1100:=by have:=V0 ByteArray.size HX.out;exact W6
 go_enter func71,ntmps71;go_wp2_with fail;refine(HW.out _).mono ?_;rintro e w1 ⟨rfl,rfl⟩;go_wp2_with fail;refine(HK.out _).mono ?_;rintro e w1 ⟨rfl,b7⟩;obtain⟨hc,Gg⟩:=b7.cells;have hz:w.heap.size<w1.heap.size:=O7;clear HW;go_wp2;rw[HX.out];go_loopw [10,9] (λi c wr=>∃j:Nat,j<=C.size/\i=.int .i64 (j:Int)/\Own 3 wr (w.heap.size+1) c ((Tw.widths 2 (Tw.IV 0 (C.data.toList.take j))).map encI)/\Ext (w.alloc (.cells #[.int .i64 2,.bool true,.string p5] 24)) wr) (λi _ _=>C.size-(intOf i).toNat)
 case atStart=>exact XZ
 case round=>clear b7;obtain⟨j,hj,rfl,b8,j3⟩:=hrel;have Te:w.heap.size+1<=wr.heap.size:=WA;by_cases hlt:j<C.size;(·have HP:=B0 (λw=>GC C[j] w);rw[show Tw.Ao 0 C[j]=(Tw.bits (Tw.patK 0 C[j]).1,(Tw.Ao 0 C[j]).2)from WB (XW _ _) rfl]at HP;have Lg:=YI 0 C[j];have De:(Tw.widths 2 (Tw.IV 0 (C.data.toList.take j))).length<=100000:=GI;by_cases Cx:j=0;(·subst Cx;have HS:=B0 (XX 0 C hlt);generalize(Tw.Ao 0 C[0]).2=pe at*;generalize(Tw.patK 0 C[0]).1=x at*;exact QT);·have Mk:0<j:=C0;have dj:decide (0<(j:Int))=true:=X0;have HS:=B0 (XY 0 C j Mk hlt);have Xj:Hid (Tw.widths 2 (Tw.IV 0 (C.data.toList.take (j+1)))=Tw.widths 2 (Tw.IV 0 (C.data.toList.take j))++[1]++Tw.widths 2 (Tw.patK 0 C[j]).1):=B0 WC;generalize Tw.widths 2 (Tw.IV 0 (C.data.toList.take j))=gg at*;generalize(Tw.Ao 0 C[j]).2=pe at*;generalize(Tw.patK 0 C[j]).1=x at*;exact Qw);·exact QN
def ZlP(s C:ByteArray)(p5:ByteArray)(w:World)(h0:1<=s.size)(hs:s.size<=1000)(x8:C.size<=1100)(HE:Hid ((Tw.IJ 0 s.data.toList true).2=0))
 (D:ByteArray)(HK:Hid (∀w,Calls prog 126 #[.int .i64 5,.string s] w λe w'=>e=.returned (.string D)/\Ext w w'))
 (HX:Hid ((⟨#[42]⟩++D++⟨#[42]⟩:ByteArray)=C))
 :Calls prog 71 #[.int .i64 5,.string s,.agg #[.int .i64 3,.bool true,.string p5]] w (EncR (Tw.widths 3 (Tw.IV 0 C.data.toList),0) w):=by
 have HW:=B0 (λw=>OL s true w h0 hs);rw[HE.out]at HW;have d0:((s.size:Int)==0)=false:=QJ;have d1:decide (1000<(s.size:Int))=false:=X0;clear HE;have Oc:D.size<=1100:=by have:=V0 ByteArray.size HX.out;exact W6
 go_enter func71,ntmps71;go_wp2_with fail;refine(HW.out _).mono ?_;rintro e w1 ⟨rfl,rfl⟩;go_wp2_with fail;refine(HK.out _).mono ?_;rintro e w1 ⟨rfl,b7⟩;obtain⟨hc,Gg⟩:=b7.cells;have hz:w.heap.size<w1.heap.size:=O7;clear HW;go_wp2;rw[HX.out];go_loopw [10,9] (λi c wr=>∃j:Nat,j<=C.size/\i=.int .i64 (j:Int)/\Own 3 wr (w.heap.size+1) c ((Tw.widths 3 (Tw.IV 0 (C.data.toList.take j))).map encI)/\Ext (w.alloc (.cells #[.int .i64 3,.bool true,.string p5] 24)) wr) (λi _ _=>C.size-(intOf i).toNat)
 case atStart=>exact XZ
 case round=>clear b7;obtain⟨j,hj,rfl,b8,j3⟩:=hrel;have Te:w.heap.size+1<=wr.heap.size:=WA;by_cases hlt:j<C.size;(·have HP:=B0 (λw=>GC C[j] w);rw[show Tw.Ao 0 C[j]=(Tw.bits (Tw.patK 0 C[j]).1,(Tw.Ao 0 C[j]).2)from WB (XW _ _) rfl]at HP;have Lg:=YI 0 C[j];have De:(Tw.widths 3 (Tw.IV 0 (C.data.toList.take j))).length<=100000:=GI;by_cases Cx:j=0;(·subst Cx;have HS:=B0 (XX 0 C hlt);generalize(Tw.Ao 0 C[0]).2=pe at*;generalize(Tw.patK 0 C[0]).1=x at*;exact QS);·have Mk:0<j:=C0;have dj:decide (0<(j:Int))=true:=X0;have HS:=B0 (XY 0 C j Mk hlt);have Xj:Hid (Tw.widths 3 (Tw.IV 0 (C.data.toList.take (j+1)))=Tw.widths 3 (Tw.IV 0 (C.data.toList.take j))++[1]++Tw.widths 3 (Tw.patK 0 C[j]).1):=B0 WC;generalize Tw.widths 3 (Tw.IV 0 (C.data.toList.take j))=gg at*;generalize(Tw.Ao 0 C[j]).2=pe at*;generalize(Tw.patK 0 C[j]).1=x at*;exact Qv);·exact QN
def ZlQ(s C:ByteArray)(p5:ByteArray)(w:World)(h0:1<=s.size)(hs:s.size<=1000)(x8:C.size<=1100)(HE:Hid ((Tw.IJ 1 s.data.toList false).2=0))
 (HX:C=s)
 :Calls prog 71 #[.int .i64 6,.string s,.agg #[.int .i64 2,.bool false,.string p5]] w (EncR (Tw.widths 2 (Tw.IV 1 C.data.toList),0) w):=by
 have HW:=B0 (λw=>ON s false w h0 hs);rw[HE.out]at HW;have d0:((s.size:Int)==0)=false:=QJ;have d1:decide (1000<(s.size:Int))=false:=X0;clear HE;subst HX;go_enter func71,ntmps71;go_wp2_with fail;refine(HW.out _).mono ?_;rintro e w1 ⟨rfl,rfl⟩;have b7:=Ext.refl (w.alloc (.cells #[.int .i64 2,.bool false,.string p5] 24));clear HW;go_wp2;go_loopw [10,9] (λi c wr=>∃j:Nat,j<=C.size/\i=.int .i64 (j:Int)/\Own 3 wr (w.heap.size+1) c ((Tw.widths 2 (Tw.IV 1 (C.data.toList.take j))).map encI)/\Ext (w.alloc (.cells #[.int .i64 2,.bool false,.string p5] 24)) wr) (λi _ _=>C.size-(intOf i).toNat)
 case atStart=>exact XZ
 case round=>clear b7;obtain⟨j,hj,rfl,b8,j3⟩:=hrel;have Te:w.heap.size+1<=wr.heap.size:=WA;by_cases hlt:j<C.size;(·have HP:=B0 (λw=>GA C[j] w);rw[show Tw.Ao 1 C[j]=(Tw.bits (Tw.patK 1 C[j]).1,(Tw.Ao 1 C[j]).2)from WB (XW _ _) rfl]at HP;have Lg:=YI 1 C[j];have De:(Tw.widths 2 (Tw.IV 1 (C.data.toList.take j))).length<=100000:=GJ;by_cases Cx:j=0;(·subst Cx;have HS:=B0 (XX 1 C hlt);generalize(Tw.Ao 1 C[0]).2=pe at*;generalize(Tw.patK 1 C[0]).1=x at*;exact QR);·have Mk:0<j:=C0;have dj:decide (0<(j:Int))=true:=X0;have HS:=B0 (XY 1 C j Mk hlt);have Xj:Hid (Tw.widths 2 (Tw.IV 1 (C.data.toList.take (j+1)))=Tw.widths 2 (Tw.IV 1 (C.data.toList.take j))++[1]++Tw.widths 2 (Tw.patK 1 C[j]).1):=B0 WC;generalize Tw.widths 2 (Tw.IV 1 (C.data.toList.take j))=gg at*;generalize(Tw.Ao 1 C[j]).2=pe at*;generalize(Tw.patK 1 C[j]).1=x at*;exact Qu);·exact QN
def ZlR(s C:ByteArray)(p5:ByteArray)(w:World)(h0:1<=s.size)(hs:s.size<=1000)(x8:C.size<=1100)(HE:Hid ((Tw.IJ 1 s.data.toList false).2=0))
 (HX:C=s)
 :Calls prog 71 #[.int .i64 6,.string s,.agg #[.int .i64 3,.bool false,.string p5]] w (EncR (Tw.widths 3 (Tw.IV 1 C.data.toList),0) w):=by
 have HW:=B0 (λw=>ON s false w h0 hs);rw[HE.out]at HW;have d0:((s.size:Int)==0)=false:=QJ;have d1:decide (1000<(s.size:Int))=false:=X0;clear HE;subst HX;go_enter func71,ntmps71;go_wp2_with fail;refine(HW.out _).mono ?_;rintro e w1 ⟨rfl,rfl⟩;have b7:=Ext.refl (w.alloc (.cells #[.int .i64 3,.bool false,.string p5] 24));clear HW;go_wp2;go_loopw [10,9] (λi c wr=>∃j:Nat,j<=C.size/\i=.int .i64 (j:Int)/\Own 3 wr (w.heap.size+1) c ((Tw.widths 3 (Tw.IV 1 (C.data.toList.take j))).map encI)/\Ext (w.alloc (.cells #[.int .i64 3,.bool false,.string p5] 24)) wr) (λi _ _=>C.size-(intOf i).toNat)
 case atStart=>exact XZ
 case round=>clear b7;obtain⟨j,hj,rfl,b8,j3⟩:=hrel;have Te:w.heap.size+1<=wr.heap.size:=WA;by_cases hlt:j<C.size;(·have HP:=B0 (λw=>GA C[j] w);rw[show Tw.Ao 1 C[j]=(Tw.bits (Tw.patK 1 C[j]).1,(Tw.Ao 1 C[j]).2)from WB (XW _ _) rfl]at HP;have Lg:=YI 1 C[j];have De:(Tw.widths 3 (Tw.IV 1 (C.data.toList.take j))).length<=100000:=GJ;by_cases Cx:j=0;(·subst Cx;have HS:=B0 (XX 1 C hlt);generalize(Tw.Ao 1 C[0]).2=pe at*;generalize(Tw.patK 1 C[0]).1=x at*;exact QQ);·have Mk:0<j:=C0;have dj:decide (0<(j:Int))=true:=X0;have HS:=B0 (XY 1 C j Mk hlt);have Xj:Hid (Tw.widths 3 (Tw.IV 1 (C.data.toList.take (j+1)))=Tw.widths 3 (Tw.IV 1 (C.data.toList.take j))++[1]++Tw.widths 3 (Tw.patK 1 C[j]).1):=B0 WC;generalize Tw.widths 3 (Tw.IV 1 (C.data.toList.take j))=gg at*;generalize(Tw.Ao 1 C[j]).2=pe at*;generalize(Tw.patK 1 C[j]).1=x at*;exact Qt);·exact QN
def ZlS(s C:ByteArray)(p5:ByteArray)(w:World)(h0:1<=s.size)(hs:s.size<=1000)(x8:C.size<=1100)(HE:Hid ((Tw.IJ 1 s.data.toList true).2=0))
 (D:ByteArray)(HK:Hid (∀w,Calls prog 126 #[.int .i64 6,.string s] w λe w'=>e=.returned (.string D)/\Ext w w'))
 (HX:C=D)
 :Calls prog 71 #[.int .i64 6,.string s,.agg #[.int .i64 2,.bool true,.string p5]] w (EncR (Tw.widths 2 (Tw.IV 1 C.data.toList),0) w):=by
 have HW:=B0 (λw=>ON s true w h0 hs);rw[HE.out]at HW;have d0:((s.size:Int)==0)=false:=QJ;have d1:decide (1000<(s.size:Int))=false:=X0;clear HE;subst HX;go_enter func71,ntmps71;go_wp2_with fail;refine(HW.out _).mono ?_;rintro e w1 ⟨rfl,rfl⟩;go_wp2_with fail;refine(HK.out _).mono ?_;rintro e w1 ⟨rfl,b7⟩;obtain⟨hc,Gg⟩:=b7.cells;have hz:w.heap.size<w1.heap.size:=O7;clear HW;go_wp2;go_loopw [10,9] (λi c wr=>∃j:Nat,j<=C.size/\i=.int .i64 (j:Int)/\Own 3 wr (w.heap.size+1) c ((Tw.widths 2 (Tw.IV 1 (C.data.toList.take j))).map encI)/\Ext (w.alloc (.cells #[.int .i64 2,.bool true,.string p5] 24)) wr) (λi _ _=>C.size-(intOf i).toNat)
 case atStart=>exact XZ
 case round=>clear b7;obtain⟨j,hj,rfl,b8,j3⟩:=hrel;have Te:w.heap.size+1<=wr.heap.size:=WA;by_cases hlt:j<C.size;(·have HP:=B0 (λw=>GA C[j] w);rw[show Tw.Ao 1 C[j]=(Tw.bits (Tw.patK 1 C[j]).1,(Tw.Ao 1 C[j]).2)from WB (XW _ _) rfl]at HP;have Lg:=YI 1 C[j];have De:(Tw.widths 2 (Tw.IV 1 (C.data.toList.take j))).length<=100000:=GJ;by_cases Cx:j=0;(·subst Cx;have HS:=B0 (XX 1 C hlt);generalize(Tw.Ao 1 C[0]).2=pe at*;generalize(Tw.patK 1 C[0]).1=x at*;exact QT);·have Mk:0<j:=C0;have dj:decide (0<(j:Int))=true:=X0;have HS:=B0 (XY 1 C j Mk hlt);have Xj:Hid (Tw.widths 2 (Tw.IV 1 (C.data.toList.take (j+1)))=Tw.widths 2 (Tw.IV 1 (C.data.toList.take j))++[1]++Tw.widths 2 (Tw.patK 1 C[j]).1):=B0 WC;generalize Tw.widths 2 (Tw.IV 1 (C.data.toList.take j))=gg at*;generalize(Tw.Ao 1 C[j]).2=pe at*;generalize(Tw.patK 1 C[j]).1=x at*;exact Qw);·exact QN
def ZlT(s C:ByteArray)(p5:ByteArray)(w:World)(h0:1<=s.size)(hs:s.size<=1000)(x8:C.size<=1100)(HE:Hid ((Tw.IJ 1 s.data.toList true).2=0))
 (D:ByteArray)(HK:Hid (∀w,Calls prog 126 #[.int .i64 6,.string s] w λe w'=>e=.returned (.string D)/\Ext w w'))
 (HX:C=D)
 :Calls prog 71 #[.int .i64 6,.string s,.agg #[.int .i64 3,.bool true,.string p5]] w (EncR (Tw.widths 3 (Tw.IV 1 C.data.toList),0) w):=by
 have HW:=B0 (λw=>ON s true w h0 hs);rw[HE.out]at HW;have d0:((s.size:Int)==0)=false:=QJ;have d1:decide (1000<(s.size:Int))=false:=X0;clear HE;subst HX;go_enter func71,ntmps71;go_wp2_with fail;refine(HW.out _).mono ?_;rintro e w1 ⟨rfl,rfl⟩;go_wp2_with fail;refine(HK.out _).mono ?_;rintro e w1 ⟨rfl,b7⟩;obtain⟨hc,Gg⟩:=b7.cells;have hz:w.heap.size<w1.heap.size:=O7;clear HW;go_wp2;go_loopw [10,9] (λi c wr=>∃j:Nat,j<=C.size/\i=.int .i64 (j:Int)/\Own 3 wr (w.heap.size+1) c ((Tw.widths 3 (Tw.IV 1 (C.data.toList.take j))).map encI)/\Ext (w.alloc (.cells #[.int .i64 3,.bool true,.string p5] 24)) wr) (λi _ _=>C.size-(intOf i).toNat)
 case atStart=>exact XZ
 case round=>clear b7;obtain⟨j,hj,rfl,b8,j3⟩:=hrel;have Te:w.heap.size+1<=wr.heap.size:=WA;by_cases hlt:j<C.size;(·have HP:=B0 (λw=>GA C[j] w);rw[show Tw.Ao 1 C[j]=(Tw.bits (Tw.patK 1 C[j]).1,(Tw.Ao 1 C[j]).2)from WB (XW _ _) rfl]at HP;have Lg:=YI 1 C[j];have De:(Tw.widths 3 (Tw.IV 1 (C.data.toList.take j))).length<=100000:=GJ;by_cases Cx:j=0;(·subst Cx;have HS:=B0 (XX 1 C hlt);generalize(Tw.Ao 1 C[0]).2=pe at*;generalize(Tw.patK 1 C[0]).1=x at*;exact QS);·have Mk:0<j:=C0;have dj:decide (0<(j:Int))=true:=X0;have HS:=B0 (XY 1 C j Mk hlt);have Xj:Hid (Tw.widths 3 (Tw.IV 1 (C.data.toList.take (j+1)))=Tw.widths 3 (Tw.IV 1 (C.data.toList.take j))++[1]++Tw.widths 3 (Tw.patK 1 C[j]).1):=B0 WC;generalize Tw.widths 3 (Tw.IV 1 (C.data.toList.take j))=gg at*;generalize(Tw.Ao 1 C[j]).2=pe at*;generalize(Tw.patK 1 C[j]).1=x at*;exact Qv);·exact QN
end
end Go.Proofs.Enc
