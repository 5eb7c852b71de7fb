/-
  Laid together.
-/
import Derived.Test.YtbngggoccndefaaGreatDoorDd28
set_option maxHeartbeats 16000000
set_option maxRecDepth 100000
set_option linter.unusedVariables false
set_option linter.unusedSimpArgs false
set_option linter.ambiguousOpen false
section
namespace Go.Proofs.YtbngggoccndefaaGreatDoor
open Go.Proofs.Tryz
open Go.RowKit
theorem ZhG:∀i:Fin 256,(decide (65<=i.val)&&decide (i.val<=68))=decide (0<=Lib.indexByte Tw.eCb (UInt8.ofNat i.val)):=Qct
theorem ZiT:∀i:Fin 256,(decide (0<=Lib.indexByte Tw.cCb (UInt8.ofNat i.val))&& !decide (0<=Lib.indexByte Tw.eCb (UInt8.ofNat i.val)))=decide (0<=Lib.indexByte Tw.dCb (UInt8.ofNat i.val)):=Qct
theorem Zll:∀i:Fin 256,(decide (48<=i.val)&&decide (i.val<=57))=decide (0<=Lib.indexByte Tw.cItf (UInt8.ofNat i.val)):=Qct
theorem Zda (c:UInt8) (w:World):Calls prog 195 #[.int .u8 (c.toNat:Int)] w fun e w'=>e=.returned (.bool (decide (0<=Lib.indexByte Tw.eCb c)))∧w=w':=by have HE:=ZmE (ZhG ⟨c.toNat,c.toNat_lt⟩);simp only[ZA]at HE;generalize decide (0<=Lib.indexByte Tw.eCb c)=r at*;go_enter func195,ntmps195;go_wp2;all_goals go_ret;refine⟨Zi ?_,rfl⟩;rw[<-HE.out,Zn7];simp;omega
theorem Zg8 (c:UInt8) (w:World):Calls prog 196 #[.int .i64 5,.int .u8 (c.toNat:Int)] w fun e w'=>e=.returned (.bool (decide (0<=Lib.indexByte Cd.syms c)))∧w=w':=by have HP:=ZmE (fun w=>Zd6 c w);unfold Cd.plc at HP;generalize Lib.indexByte Cd.syms c=x at*;exact QgW
theorem Zg9 (c:UInt8) (w:World):Calls prog 196 #[.int .i64 6,.int .u8 (c.toNat:Int)] w fun e w'=>e=.returned (.bool (decide (0<=Lib.indexByte Tw.dCb c)))∧w=w':=by
 have HE:=ZiT ⟨c.toNat,c.toNat_lt⟩;simp only[ZA]at HE;rw[<-HE];have HP:Hid (∀w,Calls prog 198 #[.string ⟨#[48,49,50,51,52,53,54,55,56,57,45,36,58,47,46,43,65,66,67,68]⟩,.int .u8 (c.toNat:Int)] w fun e w'=>e=.returned (.int .i64 (Lib.indexByte Tw.cCb c))∧w=w'):=ZmE (fun w=>Zaq Tw.cCb c QhP w);have HL:=ZmE (fun w=>Zda c w);generalize decide (0<=Lib.indexByte Tw.eCb c)=le at*;clear HE;by_cases h:0<=Lib.indexByte Tw.cCb c;·rw[ZmR h];generalize Lib.indexByte Tw.cCb c=x at*;have d1:decide (0<=x)=true:=Qh1;cases le;all_goals go_enter func196,ntmps196;go_wp2_with fail;refine(HP.out _).mono ?_;rintro e w1 ⟨rfl,rfl⟩;go_wp2_with fail;refine(HL.out _).mono ?_;rintro e w1 ⟨rfl,rfl⟩;go_wp2;go_ret;exact⟨rfl,rfl⟩
 ·rw[ZmS h];generalize Lib.indexByte Tw.cCb c=x at*;have d1:decide (0<=x)=false:=Qh1;exact QgW
end Go.Proofs.YtbngggoccndefaaGreatDoor
namespace Go.Proofs.YtbngggoccndefaaGreatDoor
open Go.Proofs.Tryz
open Go.RowKit
theorem ZaV (l cs:List UInt8):Tw.only l cs=l.all fun c=>decide (0<=Lib.indexByte cs c):=rfl
theorem Ze5 (l:List UInt8) (h0:1<=l.length) (h1:l.length<=1001) (ho:Tw.only l Cd.syms=true):(Cd.compI 7 l).2=0:=by
 have hne:l≠ []:=by intro e;rw[e]at h0;simp at h0
 have hall:(l.all fun c=>Cd.datB 7 c.toNat)=true:=by rw[Znd];intro c hc;rw[ZaV,Znd]at ho;have:=ho c hc;unfold Cd.datB Cd.plc;rw[ZmH rfl,ZaT];exact QeN
 unfold Cd.compI;rw[ZmF QhN];unfold Cd.comp;rw[ZmF hne,ZmF QhN,ZmF (by rw[show Int.toNat 7=7 from rfl,hall];exact Bool.noConfusion),ZmF QjH]
theorem Ze4 (l:List UInt8) (h0:1<=l.length) (h1:l.length<=1001) (ho:Tw.only l Tw.cItf=true):(Cd.compI 1 l).2=0:=by
 have hne:l≠ []:=by intro e;rw[e]at h0;simp at h0
 have hall:(l.all fun c=>Cd.datB 1 c.toNat)=true:=by rw[Znd];intro c hc;rw[ZaV,Znd]at ho;have h2:=ho c hc;have h3:=Zll ⟨c.toNat,c.toNat_lt⟩;simp only[ZA]at h3;rw[<-h3]at h2;unfold Cd.datB Cd.isDig;rw[ZmF QhP];simp only[Zno,Zna]at h2⊢;omega
 unfold Cd.compI;rw[ZmF QhN];unfold Cd.comp;rw[ZmF hne,ZmF QhN,ZmF (by rw[show Int.toNat 1=1 from rfl,hall];exact Bool.noConfusion),ZmF QjH]
theorem ZcP (l:List UInt8) (check:Bool) (h0:1<=l.length) (h1:l.length<=1000):(Tw.comp39 l check).2=if Tw.only l Cd.syms=true then 0 else 6:=by
 unfold Tw.comp39;cases ho:Tw.only l Cd.syms;·rw[ZmH rfl];rfl
 ·rw[ZmF Bool.noConfusion,ZmH rfl];cases check;(·rw[ZmH rfl]);·rw[ZmF Bool.noConfusion,ZmH (Ze5 l h0 QhN ho)]
theorem Zb2 (l:List UInt8) (check:Bool):(Tw.compCb l check).2=if l.length<2 then 7 else if Tw.only (l.take 1) Tw.eCb=false then 19 else if Tw.only (l.drop (l.length-1)) Tw.eCb=false then 20 else if Tw.only ((l.drop 1).take (l.length-2)) Tw.dCb=false then 6 else 0:=by
 unfold Tw.compCb;split;·rfl
 split;·rfl
 split;·rfl
 split;·rfl
 split<;>rfl
theorem Zcz (l:List UInt8) (check:Bool) (h0:1<=l.length) (h1:l.length<=1000):(Tw.compItf l check).2=if Tw.only l Tw.cItf=false then 6 else if(decide (l.length%2=1) !=check)then 7 else 0:=by
 unfold Tw.compItf;cases ho:Tw.only l Tw.cItf;·rw[ZmH rfl,ZmH rfl]
 ·rw[ZmF (show¬(true=false)from Bool.noConfusion),ZmF (show¬(true=false)from Bool.noConfusion)];cases check;(·rw[ZmH rfl];by_cases h:l.length%2=0;(·rw[ZmH h,ZmF QhY]);·rw[ZmF h,ZmH QhY]);·rw[ZmF Bool.noConfusion];have hz:(Cd.compI 1 l).2=0:=Ze4 l h0 QhN ho;rw[ZmH hz,ZmM,ZgY 1 l hz,show(Cd.cmp (Int.toNat 1) l).length=1 from rfl];by_cases h:(l.length+1)%2=0;(·rw[ZmH h,ZmF QhY]);·rw[ZmF h,ZmH QhY]
end Go.Proofs.YtbngggoccndefaaGreatDoor
namespace Go.Proofs.YtbngggoccndefaaGreatDoor
open Go.Proofs.Tryz
open Go.RowKit
def Tw.cbc (l:List UInt8):List UInt8:=l.take (l.length-1)++[Tw.dCb.getD ((16-Tw.sumCb l%16)%16).toNat 0]++l.drop (l.length-1)
def Tw.chkK (k:Nat) (l:List UInt8):List UInt8:=match k with
 |0=>(Cd.app 7 l).1
 |1=>Tw.cbc l
 |_=>(Cd.app 1 l).1
theorem Zhm (k:Int) (l:List UInt8) (hl:l.length<=1001) (h:(Cd.compI k l).2=0):Cd.app k l=(l++(Cd.compI k l).1,0):=by have:=Zdg k l;unfold Cd.app;rw[ZmH h,ZmF QhN]
theorem Zhv (l:List UInt8) (hl:l.length<=1000) (h0:1<=l.length) (h:(Tw.comp39 l true).2=0):(Tw.comp39 l true).1=42::(Cd.app 7 l).1++[42]:=by
 have he:=ZcP l true h0 hl;rw[h]at he;have ho:Tw.only l Cd.syms=true:=by cases hh:Tw.only l Cd.syms;(·rw[hh]at he;simp at he);·rfl
 have hz:=Ze5 l h0 QhN ho;unfold Tw.comp39;rw[ho,ZmF Bool.noConfusion,ZmF Bool.noConfusion,ZmH hz,Zhm 7 l QhN hz];simp
theorem Zhw (l:List UInt8) (h:(Tw.compCb l true).2=0):(Tw.compCb l true).1=Tw.cbc l:=by
 have he:=Zb2 l true;rw[h]at he;unfold Tw.compCb;split;·exact Qeu
 ·rename_i g;rw[ZmF g]at he;split;(·exact Qeu);·rename_i g;rw[ZmF g]at he;split;(·exact Qeu);·rename_i g;rw[ZmF g]at he;split;(·exact Qeu);·rw[ZmF Bool.noConfusion];rfl
theorem Zhx (l:List UInt8) (hl:l.length<=1000) (h0:1<=l.length) (h:(Tw.compItf l true).2=0):(Tw.compItf l true).1=(Cd.app 1 l).1:=by
 have he:=Zcz l true h0 hl;rw[h]at he;have ho:Tw.only l Tw.cItf=true:=by cases hh:Tw.only l Tw.cItf;(·rw[hh]at he;simp at he);·rfl
 have hz:=Ze4 l h0 QhN ho;unfold Tw.compItf at h⊢;rw[ho,ZmF (show¬(true=false)from Bool.noConfusion),ZmF (show¬(true=false)from Bool.noConfusion),ZmH hz]at h⊢;rw[Zhm 1 l QhN hz];split;·rfl
 ·rename_i g;rw[ZmF g]at h;simp at h
theorem Zlh:∀v:Nat,v<16->((⟨#[48,49,50,51,52,53,54,55,56,57,45,36,58,47,46,43,65,66,67,68]⟩:ByteArray).extract v (v+1)).data.toList=[Tw.dCb.getD v 0]:=by
 intro v hv;rw[Zs];have:∀v:Fin 16,(([48,49,50,51,52,53,54,55,56,57,45,36,58,47,46,43,65,66,67,68]:List UInt8).drop v.val).take (v.val+1-v.val)=[Tw.dCb.getD v.val 0]:=by decide
 exact this ⟨v,hv⟩
theorem Zjy {a:ByteArray} {l:List UInt8} (h1:a.data.toList=l):Ending.returned (.string a)=.returned (strV l):=by rw[<-h1];unfold strV;rw[Zy]
theorem Zhr (s:ByteArray) (w:World) (hs:s.size<=1000000):
 Calls prog 126 #[.int .i64 5,.string s] w fun e w'=>e=.returned (strV (Tw.chkK 0 s.data.toList))∧Ext w w':=by
 have HA:=ZmE (fun w=>Zc5 7 s w QhN)
 show Calls prog 126 #[.int .i64 5,.string s] w fun e w'=>e=.returned (strV (Cd.app 7 s.data.toList).1)∧Ext w w'
 unfold strV
 generalize Cd.app 7 s.data.toList=r at*
 obtain⟨r1,r2⟩:=r
 dsimp only at HA⊢
 go_enter func126,ntmps126
 go_wp2_with fail
 refine(HA.out _).mono ?_
 rintro e w1 ⟨rfl,rfl⟩
 go_wp2
 go_ret
 exact⟨rfl,Ext.refl _⟩
theorem Zht (s:ByteArray) (w:World) (hs:s.size<=1000000):
 Calls prog 126 #[.int .i64 7,.string s] w fun e w'=>e=.returned (strV (Tw.chkK 2 s.data.toList))∧Ext w w':=by
 have HA:=ZmE (fun w=>Zc5 1 s w QhN)
 show Calls prog 126 #[.int .i64 7,.string s] w fun e w'=>e=.returned (strV (Cd.app 1 s.data.toList).1)∧Ext w w'
 unfold strV
 generalize Cd.app 1 s.data.toList=r at*
 obtain⟨r1,r2⟩:=r
 dsimp only at HA⊢
 go_enter func126,ntmps126
 go_wp2_with fail
 refine(HA.out _).mono ?_
 rintro e w1 ⟨rfl,rfl⟩
 go_wp2
 go_ret
 exact⟨rfl,Ext.refl _⟩
theorem Zhs (s:ByteArray) (w:World) (hs:s.size<=1000000) (h1:1<=s.size) (HVV:Hid (∀c∈s.data.toList,0<=Lib.indexByte Tw.cCb c)):
 Calls prog 126 #[.int .i64 6,.string s] w fun e w'=>e=.returned (strV (Tw.chkK 1 s.data.toList))∧Ext w w':=by
 have HT:Hid (Tw.chkK 1 s.data.toList=_):=ZmE (Tw.cbc.eq_1 s.data.toList)
 rw[Zb]at HT
 generalize Tw.chkK 1 s.data.toList=res at*
 go_enter func126,ntmps126
 go_wp2
 go_loop [10,9] (fun i x=>∃j:Nat,j<=s.size∧i=.int .i64 (j:Int)∧x=.int .i64 (Tw.sumCb (s.data.toList.take j))) (fun i _=>s.size-(intOf i).toNat)
 case atStart=>exact Qde
 case round=>obtain⟨j,hj,rfl,rfl⟩:=hrel;have hb:=Zfb (s.data.toList.take j) (fun c hc=>HVV.out c (Zn0 hc));rw[Zaj s j hj]at hb;obtain⟨hb1,hb2⟩:=hb;by_cases hlt:j<s.size;(·have HI:Hid (∀w,Calls prog 198 #[.string ⟨#[48,49,50,51,52,53,54,55,56,57,45,36,58,47,46,43,65,66,67,68]⟩,.int .u8 (s[j].toNat:Int)] w fun e w'=>e=.returned (.int .i64 (Lib.indexByte Tw.cCb s[j]))∧w=w'):=ZmE (fun w=>Zaq Tw.cCb s[j] QhP w);have HSN:=ZmE (Zdp (s.data.toList.take j) s[j]);rw[<-Z4 s j hlt]at HSN;have hi0:=HVV.out s[j] (Zj s j hlt);have hi1:Lib.indexByte Tw.cCb s[j]<20:=Qem;exact Qb6);·obtain rfl:j=s.size:=QhN;rw[Zx]at hb1 hb2⊢;clear hj hlt;generalize Tw.sumCb s.data.toList=g at*;obtain⟨v,hv,hv16⟩:∃v:Nat,(16-g%16)%16=(v:Int)∧v<16:=⟨((16-g%16)%16).toNat,by omega,by omega⟩;rw[hv,ZnW]at HT;have HDC:=ZmE (Zlh v hv16);obtain⟨u,hu⟩:∃u:Nat,v+1=u:=⟨_,rfl⟩;rw[hu]at HDC;have hv1:(v:Int)+1=(u:Int):=QhN;have hu1:v<=u:=QhN;have hu2:u<=16:=QhN;have hsn:((s.size:Int)-1).toNat=s.size-1:=QhN;clear hu;go_wp2;go_region;go_wp2;go_ret;refine⟨?_,?_⟩;(·rw[HT.out];refine Zjy ?_;rw[Zle,Zr,HDC.out,Z2]);·exact(Ext.refl _).drewN _
end Go.Proofs.YtbngggoccndefaaGreatDoor
end
namespace Go.Proofs.YtbngggoccndefaaGreatDoor
open Go.Proofs.Tryz
section
open Go.RowKit
theorem Own.open_ {t:TypeId} {w:World} {B:Nat} {v:Value} {xs:List Value} (h:Own t w B v xs) (hpos:0<xs.length):
 ∃g cap,v=.slice (some ⟨g,0,none⟩) xs.length cap∧xs.length<=cap∧cap<=maxLen∧g<w.heap.size∧∀i,i<xs.length->w.cell? ⟨g,i,none⟩=xs[i]? :=by
 have hh:=h
 rcases h.2 with⟨_,h0⟩|⟨g,cap,cur,hv,hbase,hb,h1,h2,h3,h4⟩
 ·omega
 ·refine⟨g,cap,hv,h1,h2,(Znn.1 hb).1,fun i hi=> ?_⟩;unfold Own at hh;rw[hv]at hh;rw[hh.cellAt i QhN]
theorem Zif {w:World} {g:Nat} {bits:List Bool} (hc:∀i,i<bits.length->w.cell? ⟨g,i,none⟩=some (.bool (bits.getD i false))) (hg:g<w.heap.size) (p z c:Nat) (h:p+z<=bits.length):
 Sl w (.slice (some ⟨g,p,none⟩) z c) (((bits.drop p).take z).map encT):=by
 have hl:(((bits.drop p).take z).map encT).length=z:=by rw[ZmI,ZmY,Znr];omega
 refine .inr ⟨g,p,c,by rw[hl],hg,fun i hi=> ?_⟩
 rw[hl]at hi
 rw[hc (p+i) QhN,Znm,Zog,ZmH hi,Zp3,ZmL,ZmG (show p+i<bits.length by omega)]
 rfl
theorem Zan (l:List Bool):(Tw.elems l).length=l.length:=ZmI _
theorem Zbg (l:List Bool) (p z:Nat):((Tw.elems l).drop p).take z=Tw.elems ((l.drop p).take z):=by unfold Tw.elems;rw[<-Zn6,<-Zn5]
theorem ZdE (l:List Bool) (i:Nat) (h:i<l.length):((Tw.elems l).getD i 0=119)=(l.getD i false=true):=by unfold Tw.elems;rw[ZmL,Znm,ZmL,ZmG h];cases l[i]<;>simp
theorem ZaO (set cs ps:List UInt8) (z:Nat) (p:List UInt8) (h0:Lib.indexByte set 0<0):Tw.isIn set (Tw.chr cs ps z p)=decide (0<=Lib.indexByte set (Tw.chr cs ps z p).1):=by
 unfold Tw.isIn;rcases Zam cs ps z p with e|⟨i,_,_,e⟩;·rw[e];exact Qcm
 ·rw[e];simp
theorem Zgn (c:UInt8):((c.toNat:Int)==42)=decide (0<=Lib.indexByte [42] c):=by
 have h:∀i:Fin 256,(((UInt8.ofNat i.val).toNat:Int)==42)=decide (0<=Lib.indexByte [42] (UInt8.ofNat i.val)):=Qct
 have:=h ⟨c.toNat,c.toNat_lt⟩;simp only[ZA]at this;exact QeN
theorem Zbz (f:Nat->UInt8) (j:Nat):(List.range (j+1)).map f=(List.range j).map f++[f j]:=Qew
theorem Zjr (v:Value) (bits:List Bool) (w:World) (B n:Nat) (hv:Own 4 w B v (bits.map encT)) (hl:bits.length<=20000) (hn:bits.length+1=n*10) (hn2:2<=n):
 Calls prog 151 #[.int .i64 5,v] w (DecR (Tw.readK 0 (Tw.elems bits)) w):=by
 obtain⟨g,cap,rfl,hlc,hcm,hg,hcell⟩:=hv.open_ QhR
 rw[ZmI]at hlc hcell⊢
 have HC:Hid (∀w',Ext w w'->∀i,i<bits.length->w'.cell? ⟨g,i,none⟩=some (.bool (bits.getD i false))):=ZmE (fun w' hx i hi=>by rw[hx.cell (p:=⟨g,i,none⟩) hg,hcell i hi,Znm,ZmL,ZmG hi];rfl)
 have hnn:n=((Tw.elems bits).length+1)/(9+1):=by rw[Zan];omega
 have HRT:=ZmE (fun j=>Tw.read_at Tw.c39 Tw.p39 [42] Cd.syms 9 (Tw.elems bits) n j hnn)
 have HRA:=ZmE (Tw.read_all Tw.c39 Tw.p39 [42] Cd.syms 9 (Tw.elems bits) n hnn)
 have HRD:=ZmE (fun j=>Tw.rdErr.eq_1 Tw.c39 Tw.p39 [42] Cd.syms 9 (Tw.elems bits) n j)
 have HDR:Hid (Tw.readK 0 (Tw.elems bits)=Tw.read Tw.c39 Tw.p39 [42] Cd.syms 9 (Tw.elems bits)):=ZmE rfl
 have HED:=ZmE (fun j=>ZaO [42] Tw.c39 Tw.p39 9 (((Tw.elems bits).drop (j*(9+1))).take 9) QhP)
 have HIN:=ZmE (fun j=>ZaO Cd.syms Tw.c39 Tw.p39 9 (((Tw.elems bits).drop (j*(9+1))).take 9) QhP)
 have HGB:=ZmE (ZdE bits)
 have HFN:Hid (∀w',Ext w w'->∀j p c,p=j*10->p+9<=bits.length->Calls prog 226 #[.int .i64 5,.slice (some ⟨g,p,none⟩) 9 c] w' fun e w''=>e=.returned (.int .u8 ((Tw.rdAt Tw.c39 Tw.p39 9 (Tw.elems bits) j).1.toNat:Int))∧Ext w' w''):=ZmE (fun w' hx j p c hp hpz=>by have h1:=Zln (.slice (some ⟨g,p,none⟩) 9 c) ((bits.drop p).take 9) w' (Zif (HC.out w' hx) (Znc hg hx.size) p 9 c hpz) QhS;have h2:Tw.chrK 0 (Tw.elems ((bits.drop p).take 9))=Tw.rdAt Tw.c39 Tw.p39 9 (Tw.elems bits) j:=(by unfold Tw.rdAt;rw[<-Zbg,hp];rfl);rw[h2]at h1;exact h1)
 have hmx:maxLen=9223372036854775807:=rfl
 rw[hmx]at hcm
 have d5:((bits.length:Int)+1)/10=(n:Int):=by omega
 clear hcell hv hmx
 generalize hrr:Tw.rdErr Tw.c39 Tw.p39 [42] Cd.syms 9 (Tw.elems bits) n=rdE at*
 generalize hra:Tw.rdAt Tw.c39 Tw.p39 9 (Tw.elems bits)=rdA at*
 generalize hrk:Tw.readK 0 (Tw.elems bits)=res at*
 go_enter func151,ntmps151
 go_wp2
 rw[d5]
 go_loopw [9,8] (fun i s wr=>∃(j:Nat) (G:ByteArray),j<=n∧i=.int .i64 (j:Int)∧s=.string G∧Hid (G.data.toList=(List.range j).map fun i=>(rdA i).1)∧G.size=j∧Hid (∀i,i<j->rdE i=0)∧Ext w wr) (fun i _ _=>n-(intOf i).toNat)
 case atStart=>exact QeB
 case round=>obtain⟨j,G,hj,rfl,rfl,HG,hGs,HB,hxr⟩:=hrel;by_cases hlt:j<n;(·obtain⟨p,hp⟩:∃p,p=j*10:=⟨_,rfl⟩;have hpi:(j:Int)*10=(p:Int):=QhN;have hpz:p+9<=bits.length:=QhN;obtain⟨pz,hpz2⟩:∃pz,pz=p+9:=⟨_,rfl⟩;have hpzi:(p:Int)+9=(pz:Int):=QhN;have hle1:p<=pz:=QhN;have hle2:pz<=cap:=QhN;have hsub:pz-p=9:=QhN;have HF:=ZmE (fun w' hx c=>HFN.out w' hx j p c hp hpz);have HE:=ZmE (HRD.out j);have HRTJ:=ZmE (fun h=>HRT.out j hlt h HB.out);have hed:=HED.out j;have hin:=HIN.out j;have HRJ:Hid (Tw.rdAt Tw.c39 Tw.p39 9 (Tw.elems bits) j=rdA j):=ZmE (by rw[hra]);rw[show Tw.chr Tw.c39 Tw.p39 9 (((Tw.elems bits).drop (j*(9+1))).take 9)=rdA j from HRJ.out]at hed hin;rw[hed,hin]at HE;have HSN:Hid (∀H:ByteArray,H.data.toList=G.data.toList++[(rdA j).1]->H.data.toList=(List.range (j+1)).map fun i=>(rdA i).1):=ZmE (fun H hH=>by rw[hH,HG.out,Zbz]);have HBN:Hid (rdE j=0->Hid (∀i,i<j+1->rdE i=0)):=ZmE (fun h=>ZmE (fun i hi=>by rcases ZoP (ZoY hi)with h1|rfl;(·exact HB.out i h1);·exact h));obtain⟨n1,hn1⟩:∃n1,n1=n-1:=⟨_,rfl⟩;have hn1i:(n:Int)-1=(n1:Int):=QhN;generalize hcj:(rdA j).1=c at*;have dst:=Zgn c;have HI:=ZmE (fun w=>Zg8 c w);have HI0:Hid (c=0->decide (0<=Lib.indexByte Cd.syms c)=false):=ZmE (fun h=>by rw[h];decide);generalize decide (0<=Lib.indexByte [42] c)=be at*;generalize decide (0<=Lib.indexByte Cd.syms c)=bi at*;have hcv:=ZeX;have hsz:(strOfNums [(c.toNat:Int)]).size=1:=strOfNums_size _;have HAA:Hid ((G++strOfNums [(c.toNat:Int)]).data.toList=G.data.toList++[c]):=ZmE Qjo;have HAS:Hid ((G++strOfNums [(c.toNat:Int)]).size=j+1):=ZmE Qjm;clear HED HIN HRD HRT HRA HFN hed hin HRJ HB HG hrr hra hcj hnn;by_cases hj0:j=0;(·subst hj0;obtain rfl:p=0:=QhN;obtain rfl:pz=9:=QhN;have dl:((0:Int)==(n1:Int))=false:=Qai;have hng:¬(0<0∧(Tw.elems bits).getD (0*(9+1)-1) 0=119):=QhN;rw[ZmF hng]at HE;have HN1:Hid (0+1≠n):=ZmE (by show 0+1≠n;omega);clear hp hpz2 hn1 hpz hng hn hlc hsub hpi hpzi;cases be;(·have hE:rdE 0=19:=(by rw[HE.out,ZmH ⟨rfl,rfl⟩]);exact Qha);·have hE:rdE 0=0:=Qec;clear HE;go_wp2_with fail;refine(HF.out _ Xe _).mono ?_;rintro e w2 ⟨rfl,hx2⟩;exact QcI);·have hjp:0<j:=QhN;have dg:decide (0<(j:Int))=true:=Qcm;have dz:((j:Int)==0)=false:=Qai;obtain⟨q,hq⟩:∃q,q=p-1:=⟨_,rfl⟩;have hqi:(p:Int)-1=(q:Int):=QhN;have hql:q<bits.length:=QhN;have hcq:=HC.out wr hxr q hql;have hgq:=HGB.out q hql;have hqe:j*(9+1)-1=q:=QhN;rw[hqe]at HE;generalize bits.getD q false=bg at*;have HGQ:=ZmE hgq;clear hgq hqe hq hp hpz2 hpz hn hlc;cases bg;(·have hng:¬(0<j∧(Tw.elems bits).getD q 0=119):=QjQ;rw[ZmF hng,ZmF QhN]at HE;clear hng;by_cases hjl:j=n1;(·have hjn:j+1=n:=QhN;have dl:((j:Int)==(n1:Int))=true:=QjU;have dm:decide ((j:Int)<(n1:Int))=false:=Qcm;have hjm:n1<=j:=QhN;have HJN:=ZmE hjn;clear hjn hjl hn1 hj0;cases be;(·have hE:rdE j=20:=(by rw[HE.out,ZmH ⟨HJN.out,rfl⟩]);exact Qha);·have hE:rdE j=0:=QeH;clear HE;go_wp2_with fail;refine(HF.out _ Xe _).mono ?_;rintro e w2 ⟨rfl,hx2⟩;exact QcH);·have dl:((j:Int)==(n1:Int))=false:=Qai;have dm:decide ((j:Int)<(n1:Int))=true:=Qcm;have hjm:j<n1:=QhN;rw[ZmF QhN]at HE;have hjn:j+1<n:=QhN;clear hn1 hj0 hjl;by_cases hc0:c=0;(·have hbi:=HI0.out hc0;have dc:((c.toNat:Int)==0)=true:=(by rw[hc0];rfl);have hE:rdE j=18:=(by rw[HE.out,ZmH ⟨hjp,hjn,hbi⟩]);clear HE hbi hc0;cases be;all_goals go_wp2_with fail;refine(HF.out _ Xe _).mono ?_;rintro e w2 ⟨rfl,hx2⟩;go_wp2;go_ret2;exact⟨by rw[HDR.out,HRTJ.out QiN,hE];rfl,hxr.trans hx2⟩);·have dc:((c.toNat:Int)==0)=false:=Qe4;cases bi;(·have hE:rdE j=18:=(by rw[HE.out,ZmH ⟨hjp,hjn,rfl⟩]);clear HE hc0;cases be;all_goals go_wp2_with fail;refine(HF.out _ Xe _).mono ?_;rintro e w2 ⟨rfl,hx2⟩;go_wp2_with fail;refine(HI.out _).mono ?_;rintro e w4 ⟨rfl,rfl⟩;go_wp2;go_ret2;exact⟨by rw[HDR.out,HRTJ.out QiN,hE];rfl,hxr.trans hx2⟩);·have hE:rdE j=0:=Qfz;clear HE hc0;cases be;all_goals go_wp2_with fail;refine(HF.out _ Xe _).mono ?_;rintro e w2 ⟨rfl,hx2⟩;go_wp2_with fail;refine(HI.out _).mono ?_;rintro e w4 ⟨rfl,rfl⟩;go_wp2;go_roundw;(case rel=>exact Qbs);case measure=>exact Q8);·exact Qdo);·exact Qcu
theorem Zjs (v:Value) (bits:List Bool) (w:World) (B n:Nat) (hv:Own 4 w B v (bits.map encT)) (hl:bits.length<=20000) (hn:bits.length+1=n*8) (hn2:2<=n):
 Calls prog 151 #[.int .i64 6,v] w (DecR (Tw.readK 1 (Tw.elems bits)) w):=by
 obtain⟨g,cap,rfl,hlc,hcm,hg,hcell⟩:=hv.open_ QhR
 rw[ZmI]at hlc hcell⊢
 have HC:Hid (∀w',Ext w w'->∀i,i<bits.length->w'.cell? ⟨g,i,none⟩=some (.bool (bits.getD i false))):=ZmE (fun w' hx i hi=>by rw[hx.cell (p:=⟨g,i,none⟩) hg,hcell i hi,Znm,ZmL,ZmG hi];rfl)
 have hnn:n=((Tw.elems bits).length+1)/(7+1):=by rw[Zan];omega
 have HRT:=ZmE (fun j=>Tw.read_at Tw.cCb Tw.pCb Tw.eCb Tw.dCb 7 (Tw.elems bits) n j hnn)
 have HRA:=ZmE (Tw.read_all Tw.cCb Tw.pCb Tw.eCb Tw.dCb 7 (Tw.elems bits) n hnn)
 have HRD:=ZmE (fun j=>Tw.rdErr.eq_1 Tw.cCb Tw.pCb Tw.eCb Tw.dCb 7 (Tw.elems bits) n j)
 have HDR:Hid (Tw.readK 1 (Tw.elems bits)=Tw.read Tw.cCb Tw.pCb Tw.eCb Tw.dCb 7 (Tw.elems bits)):=ZmE rfl
 have HED:=ZmE (fun j=>ZaO Tw.eCb Tw.cCb Tw.pCb 7 (((Tw.elems bits).drop (j*(7+1))).take 7) QhP)
 have HIN:=ZmE (fun j=>ZaO Tw.dCb Tw.cCb Tw.pCb 7 (((Tw.elems bits).drop (j*(7+1))).take 7) QhP)
 have HGB:=ZmE (ZdE bits)
 have HFN:Hid (∀w',Ext w w'->∀j p c,p=j*8->p+7<=bits.length->Calls prog 226 #[.int .i64 6,.slice (some ⟨g,p,none⟩) 7 c] w' fun e w''=>e=.returned (.int .u8 ((Tw.rdAt Tw.cCb Tw.pCb 7 (Tw.elems bits) j).1.toNat:Int))∧Ext w' w''):=ZmE (fun w' hx j p c hp hpz=>by have h1:=Zlo (.slice (some ⟨g,p,none⟩) 7 c) ((bits.drop p).take 7) w' (Zif (HC.out w' hx) (Znc hg hx.size) p 7 c hpz) QhS;have h2:Tw.chrK 1 (Tw.elems ((bits.drop p).take 7))=Tw.rdAt Tw.cCb Tw.pCb 7 (Tw.elems bits) j:=(by unfold Tw.rdAt;rw[<-Zbg,hp];rfl);rw[h2]at h1;exact h1)
 have hmx:maxLen=9223372036854775807:=rfl
 rw[hmx]at hcm
 have d5:((bits.length:Int)+1)/8=(n:Int):=by omega
 clear hcell hv hmx
 generalize hrr:Tw.rdErr Tw.cCb Tw.pCb Tw.eCb Tw.dCb 7 (Tw.elems bits) n=rdE at*
 generalize hra:Tw.rdAt Tw.cCb Tw.pCb 7 (Tw.elems bits)=rdA at*
 generalize hrk:Tw.readK 1 (Tw.elems bits)=res at*
 go_enter func151,ntmps151
 go_wp2
 rw[d5]
 go_loopw [9,8] (fun i s wr=>∃(j:Nat) (G:ByteArray),j<=n∧i=.int .i64 (j:Int)∧s=.string G∧Hid (G.data.toList=(List.range j).map fun i=>(rdA i).1)∧G.size=j∧Hid (∀i,i<j->rdE i=0)∧Ext w wr) (fun i _ _=>n-(intOf i).toNat)
 case atStart=>exact QeB
 case round=>obtain⟨j,G,hj,rfl,rfl,HG,hGs,HB,hxr⟩:=hrel;by_cases hlt:j<n;(·obtain⟨p,hp⟩:∃p,p=j*8:=⟨_,rfl⟩;have hpi:(j:Int)*8=(p:Int):=QhN;have hpz:p+7<=bits.length:=QhN;obtain⟨pz,hpz2⟩:∃pz,pz=p+7:=⟨_,rfl⟩;have hpzi:(p:Int)+7=(pz:Int):=QhN;have hle1:p<=pz:=QhN;have hle2:pz<=cap:=QhN;have hsub:pz-p=7:=QhN;have HF:=ZmE (fun w' hx c=>HFN.out w' hx j p c hp hpz);have HE:=ZmE (HRD.out j);have HRTJ:=ZmE (fun h=>HRT.out j hlt h HB.out);have hed:=HED.out j;have hin:=HIN.out j;have HRJ:Hid (Tw.rdAt Tw.cCb Tw.pCb 7 (Tw.elems bits) j=rdA j):=ZmE (by rw[hra]);rw[show Tw.chr Tw.cCb Tw.pCb 7 (((Tw.elems bits).drop (j*(7+1))).take 7)=rdA j from HRJ.out]at hed hin;rw[hed,hin]at HE;have HSN:Hid (∀H:ByteArray,H.data.toList=G.data.toList++[(rdA j).1]->H.data.toList=(List.range (j+1)).map fun i=>(rdA i).1):=ZmE (fun H hH=>by rw[hH,HG.out,Zbz]);have HBN:Hid (rdE j=0->Hid (∀i,i<j+1->rdE i=0)):=ZmE (fun h=>ZmE (fun i hi=>by rcases ZoP (ZoY hi)with h1|rfl;(·exact HB.out i h1);·exact h));obtain⟨n1,hn1⟩:∃n1,n1=n-1:=⟨_,rfl⟩;have hn1i:(n:Int)-1=(n1:Int):=QhN;generalize hcj:(rdA j).1=c at*;have HL:=ZmE (fun w=>Zda c w);have HI:=ZmE (fun w=>Zg9 c w);have HI0:Hid (c=0->decide (0<=Lib.indexByte Tw.dCb c)=false):=ZmE (fun h=>by rw[h];decide);generalize decide (0<=Lib.indexByte Tw.eCb c)=be at*;generalize decide (0<=Lib.indexByte Tw.dCb c)=bi at*;have hcv:=ZeX;have hsz:(strOfNums [(c.toNat:Int)]).size=1:=strOfNums_size _;have HAA:Hid ((G++strOfNums [(c.toNat:Int)]).data.toList=G.data.toList++[c]):=ZmE Qjo;have HAS:Hid ((G++strOfNums [(c.toNat:Int)]).size=j+1):=ZmE Qjm;clear HED HIN HRD HRT HRA HFN hed hin HRJ HB HG hrr hra hcj hnn;by_cases hj0:j=0;(·subst hj0;obtain rfl:p=0:=QhN;obtain rfl:pz=7:=QhN;have dl:((0:Int)==(n1:Int))=false:=Qai;have hng:¬(0<0∧(Tw.elems bits).getD (0*(7+1)-1) 0=119):=QhN;rw[ZmF hng]at HE;have HN1:Hid (0+1≠n):=ZmE (by show 0+1≠n;omega);clear hp hpz2 hn1 hpz hng hn hlc hsub hpi hpzi;cases be;(·have hE:rdE 0=19:=(by rw[HE.out,ZmH ⟨rfl,rfl⟩]);exact QgD);·have hE:rdE 0=0:=Qec;clear HE;go_wp2_with fail;refine(HF.out _ Xe _).mono ?_;rintro e w2 ⟨rfl,hx2⟩;go_wp2_with fail;refine(HL.out _).mono ?_;rintro e w3 ⟨rfl,rfl⟩;exact QcI);·have hjp:0<j:=QhN;have dg:decide (0<(j:Int))=true:=Qcm;have dz:((j:Int)==0)=false:=Qai;obtain⟨q,hq⟩:∃q,q=p-1:=⟨_,rfl⟩;have hqi:(p:Int)-1=(q:Int):=QhN;have hql:q<bits.length:=QhN;have hcq:=HC.out wr hxr q hql;have hgq:=HGB.out q hql;have hqe:j*(7+1)-1=q:=QhN;rw[hqe]at HE;generalize bits.getD q false=bg at*;have HGQ:=ZmE hgq;clear hgq hqe hq hp hpz2 hpz hn hlc;cases bg;(·have hng:¬(0<j∧(Tw.elems bits).getD q 0=119):=QjQ;rw[ZmF hng,ZmF QhN]at HE;clear hng;by_cases hjl:j=n1;(·have hjn:j+1=n:=QhN;have dl:((j:Int)==(n1:Int))=true:=QjU;have dm:decide ((j:Int)<(n1:Int))=false:=Qcm;have hjm:n1<=j:=QhN;have HJN:=ZmE hjn;clear hjn hjl hn1 hj0;cases be;(·have hE:rdE j=20:=(by rw[HE.out,ZmH ⟨HJN.out,rfl⟩]);exact QgD);·have hE:rdE j=0:=QeH;clear HE;go_wp2_with fail;refine(HF.out _ Xe _).mono ?_;rintro e w2 ⟨rfl,hx2⟩;go_wp2_with fail;refine(HL.out _).mono ?_;rintro e w3 ⟨rfl,rfl⟩;exact QcH);·have dl:((j:Int)==(n1:Int))=false:=Qai;have dm:decide ((j:Int)<(n1:Int))=true:=Qcm;have hjm:j<n1:=QhN;rw[ZmF QhN]at HE;have hjn:j+1<n:=QhN;clear hn1 hj0 hjl;by_cases hc0:c=0;(·have hbi:=HI0.out hc0;have dc:((c.toNat:Int)==0)=true:=(by rw[hc0];rfl);have hE:rdE j=18:=(by rw[HE.out,ZmH ⟨hjp,hjn,hbi⟩]);clear HE hbi hc0;cases be;all_goals go_wp2_with fail;refine(HF.out _ Xe _).mono ?_;rintro e w2 ⟨rfl,hx2⟩;go_wp2_with fail;refine(HL.out _).mono ?_;rintro e w3 ⟨rfl,rfl⟩;go_wp2;go_ret2;exact⟨by rw[HDR.out,HRTJ.out QiN,hE];rfl,hxr.trans hx2⟩);·have dc:((c.toNat:Int)==0)=false:=Qe4;cases bi;(·have hE:rdE j=18:=(by rw[HE.out,ZmH ⟨hjp,hjn,rfl⟩]);clear HE hc0;cases be;all_goals go_wp2_with fail;refine(HF.out _ Xe _).mono ?_;rintro e w2 ⟨rfl,hx2⟩;go_wp2_with fail;refine(HL.out _).mono ?_;rintro e w3 ⟨rfl,rfl⟩;go_wp2_with fail;refine(HI.out _).mono ?_;rintro e w4 ⟨rfl,rfl⟩;go_wp2;go_ret2;exact⟨by rw[HDR.out,HRTJ.out QiN,hE];rfl,hxr.trans hx2⟩);·have hE:rdE j=0:=Qfz;clear HE hc0;cases be;all_goals go_wp2_with fail;refine(HF.out _ Xe _).mono ?_;rintro e w2 ⟨rfl,hx2⟩;go_wp2_with fail;refine(HL.out _).mono ?_;rintro e w3 ⟨rfl,rfl⟩;go_wp2_with fail;refine(HI.out _).mono ?_;rintro e w4 ⟨rfl,rfl⟩;go_wp2;go_roundw;(case rel=>exact Qbs);case measure=>exact Q8);·exact Qdo);·exact Qcu
end
end Go.Proofs.YtbngggoccndefaaGreatDoor
