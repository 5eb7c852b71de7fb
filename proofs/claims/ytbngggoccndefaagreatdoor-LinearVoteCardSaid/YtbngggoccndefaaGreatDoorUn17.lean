/-
  Laid.
-/
import Derived.Test.YtbngggoccndefaaGreatDoorUn11
import Derived.Test.YtbngggoccndefaaGreatDoorUn16
set_option maxHeartbeats 16000000
set_option maxRecDepth 100000
set_option linter.all false
namespace Go.Proofs.YtbngggoccndefaaGreatDoor
open Go.Proofs.Tryz
section
open Go.RowKit
theorem Own.open_ {t:TypeId} {w:World} {B:Nat} {v:Value} {xs:List Value} (h:Own t w B v xs) (hpos:0<xs.length):
 ∃g cap,v=.slice (some ⟨g,0,none⟩) xs.length cap∧xs.length<=cap∧cap<=maxLen∧g<w.heap.size∧∀i,i<xs.length->w.cell? ⟨g,i,none⟩=xs[i]? :=by
 have hh:=h
 rcases h.2 with⟨_,h0⟩|⟨g,cap,cur,hv,hbase,hb,h1,h2,h3,h4⟩
 ·omega
 ·refine⟨g,cap,hv,h1,h2,(O3.1 hb).1,fun i hi=> ?_⟩;exact qW
theorem oU {w:World} {g:Nat} {bits:List Bool} (hc:∀i,i<bits.length->w.cell? ⟨g,i,none⟩=some (.bool (bits.getD i false))) (hg:g<w.heap.size) (p z c:Nat) (h:p+z<=bits.length):
 Sl w (.slice (some ⟨g,p,none⟩) z c) (((bits.drop p).take z).map encT):=by
 have hl:(((bits.drop p).take z).map encT).length=z:=by rw[J0,M1,X2];omega
 refine .inr ⟨g,p,c,by rw[hl],hg,fun i hi=> ?_⟩
 rw[hl]at hi
 rw[hc (p+i) B0,J2,W6,D0 hi,RK,U0,M0 (show p+i<bits.length by omega)]
 rfl
theorem TS (l:List Bool):(Tw.elems l).length=l.length:=J0 _
theorem JO (l:List Bool) (p z:Nat):((Tw.elems l).drop p).take z=Tw.elems ((l.drop p).take z):=by unfold Tw.elems;rw[<-R3,<-I3]
theorem oV (l:List Bool) (i:Nat) (h:i<l.length):((Tw.elems l).getD i 0=119)=(l.getD i false=true):=by unfold Tw.elems;rw[U0,J2,U0,M0 h];cases l[i]<;>simp
theorem TT (set cs ps:List UInt8) (z:Nat) (p:List UInt8) (h0:Lib.indexByte set 0<0):Tw.isIn set (Tw.chr cs ps z p)=decide (0<=Lib.indexByte set (Tw.chr cs ps z p).1):=by
 unfold Tw.isIn;rcases TR cs ps z p with e|⟨i,_,_,e⟩;·rw[e];exact S0
 ·rw[e];simp
theorem oY (c:UInt8):((c.toNat:Int)==42)=decide (0<=Lib.indexByte [42] c):=by
 have h:∀i:Fin 256,(((UInt8.ofNat i.val).toNat:Int)==42)=decide (0<=Lib.indexByte [42] (UInt8.ofNat i.val)):=E2
 have:=h ⟨c.toNat,c.toNat_lt⟩;simp only[YX]at this;exact F3
theorem oZ (f:Nat->UInt8) (j:Nat):(List.range (j+1)).map f=(List.range j).map f++[f j]:=NT
theorem Zl1 (v:Value) (bits:List Bool) (w:World) (B n:Nat) (hv:Own 4 w B v (bits.map encT)) (hl:bits.length<=20000) (hn:bits.length+1=n*10) (hn2:2<=n):
 Calls prog 151 #[.int .i64 5,v] w (DecR (Tw.readK 0 (Tw.elems bits)) w):=by
 obtain⟨g,cap,rfl,hlc,hcm,hg,hcell⟩:=hv.open_ A3
 rw[J0]at hlc hcell⊢
 have HC:Hid (∀w',Ext w w'->∀i,i<bits.length->w'.cell? ⟨g,i,none⟩=some (.bool (bits.getD i false))):=A0 (fun w' hx i hi=>by rw[hx.cell (p:=⟨g,i,none⟩) hg,hcell i hi,J2,U0,M0 hi];rfl)
 have hnn:n=((Tw.elems bits).length+1)/(9+1):=by rw[TS];omega
 have HRT:=A0 (fun j=>Tw.read_at Tw.c39 Tw.p39 [42] Cd.syms 9 (Tw.elems bits) n j hnn)
 have HRA:=A0 (Tw.read_all Tw.c39 Tw.p39 [42] Cd.syms 9 (Tw.elems bits) n hnn)
 have HRD:=A0 (fun j=>Tw.rdErr.eq_1 Tw.c39 Tw.p39 [42] Cd.syms 9 (Tw.elems bits) n j)
 have HDR:Hid (Tw.readK 0 (Tw.elems bits)=Tw.read Tw.c39 Tw.p39 [42] Cd.syms 9 (Tw.elems bits)):=A0 rfl
 have HED:=A0 (fun j=>TT [42] Tw.c39 Tw.p39 9 (((Tw.elems bits).drop (j*(9+1))).take 9) I0)
 have HIN:=A0 (fun j=>TT Cd.syms Tw.c39 Tw.p39 9 (((Tw.elems bits).drop (j*(9+1))).take 9) I0)
 have HGB:=A0 (oV bits)
 have HFN:Hid (∀w',Ext w w'->∀j p c,p=j*10->p+9<=bits.length->Calls prog 226 #[.int .i64 5,.slice (some ⟨g,p,none⟩) 9 c] w' fun e w''=>e=.returned (.int .u8 ((Tw.rdAt Tw.c39 Tw.p39 9 (Tw.elems bits) j).1.toNat:Int))∧Ext w' w''):=A0 (fun w' hx j p c hp hpz=>by have h1:=Zn5 (.slice (some ⟨g,p,none⟩) 9 c) ((bits.drop p).take 9) w' (oU (HC.out w' hx) (G2 hg hx.size) p 9 c hpz) X3;have h2:Tw.chrK 0 (Tw.elems ((bits.drop p).take 9))=Tw.rdAt Tw.c39 Tw.p39 9 (Tw.elems bits) j:=(by unfold Tw.rdAt;rw[<-JO,hp];rfl);rw[h2]at h1;exact h1)
 have hmx:maxLen=9223372036854775807:=rfl
 rw[hmx]at hcm
 have d5:((bits.length:Int)+1)/10=(n:Int):=by omega
 clear hcell hv hmx
 generalize hrr:Tw.rdErr Tw.c39 Tw.p39 [42] Cd.syms 9 (Tw.elems bits) n=rdE at*
 generalize hra:Tw.rdAt Tw.c39 Tw.p39 9 (Tw.elems bits)=rdA at*
 generalize hrk:Tw.readK 0 (Tw.elems bits)=res at*
 go_enter func151,ntmps151
 go_wp2
 rw[d5]
 go_loopw [9,8] (fun i s wr=>∃(j:Nat) (G:ByteArray),j<=n∧i=.int .i64 (j:Int)∧s=.string G∧Hid (G.data.toList=(List.range j).map fun i=>(rdA i).1)∧G.size=j∧Hid (∀i,i<j->rdE i=0)∧Ext w wr) (fun i _ _=>n-(intOf i).toNat)
 case atStart=>exact pA
 case round=>obtain⟨j,G,hj,rfl,rfl,HG,hGs,HB,hxr⟩:=hrel;by_cases hlt:j<n;(·obtain⟨p,hp⟩:∃p,p=j*10:=⟨_,rfl⟩;have hpi:(j:Int)*10=(p:Int):=B0;have hpz:p+9<=bits.length:=B0;obtain⟨pz,hpz2⟩:∃pz,pz=p+9:=⟨_,rfl⟩;have hpzi:(p:Int)+9=(pz:Int):=B0;have hle1:p<=pz:=B0;have hle2:pz<=cap:=B0;have hsub:pz-p=9:=B0;have HF:=A0 (fun w' hx c=>HFN.out w' hx j p c hp hpz);have HE:=A0 (HRD.out j);have HRTJ:=A0 (fun h=>HRT.out j hlt h HB.out);have hed:=HED.out j;have hin:=HIN.out j;have HRJ:Hid (Tw.rdAt Tw.c39 Tw.p39 9 (Tw.elems bits) j=rdA j):=A0 (by rw[hra]);rw[show Tw.chr Tw.c39 Tw.p39 9 (((Tw.elems bits).drop (j*(9+1))).take 9)=rdA j from HRJ.out]at hed hin;rw[hed,hin]at HE;have HSN:Hid (∀H:ByteArray,H.data.toList=G.data.toList++[(rdA j).1]->H.data.toList=(List.range (j+1)).map fun i=>(rdA i).1):=A0 (fun H hH=>by rw[hH,HG.out,oZ]);have HBN:Hid (rdE j=0->Hid (∀i,i<j+1->rdE i=0)):=A0 (fun h=>A0 (fun i hi=>by rcases XT (XU hi)with h1|rfl;(·exact HB.out i h1);·exact h));obtain⟨n1,hn1⟩:∃n1,n1=n-1:=⟨_,rfl⟩;have hn1i:(n:Int)-1=(n1:Int):=B0;generalize hcj:(rdA j).1=c at*;have dst:=oY c;have HI:=A0 (fun w=>Zi5 c w);have HI0:Hid (c=0->decide (0<=Lib.indexByte Cd.syms c)=false):=A0 (fun h=>by rw[h];decide);generalize decide (0<=Lib.indexByte [42] c)=be at*;generalize decide (0<=Lib.indexByte Cd.syms c)=bi at*;have hcv:=cH;have hsz:(strOfNums [(c.toNat:Int)]).size=1:=strOfNums_size _;have HAA:Hid ((G++strOfNums [(c.toNat:Int)]).data.toList=G.data.toList++[c]):=A0 xH;have HAS:Hid ((G++strOfNums [(c.toNat:Int)]).size=j+1):=A0 pB;clear HED HIN HRD HRT HRA HFN hed hin HRJ HB HG hrr hra hcj hnn;by_cases hj0:j=0;(·subst hj0;obtain rfl:p=0:=B0;obtain rfl:pz=9:=B0;have dl:((0:Int)==(n1:Int))=false:=O2;have hng:¬(0<0∧(Tw.elems bits).getD (0*(9+1)-1) 0=119):=B0;rw[C0 hng]at HE;have HN1:Hid (0+1≠n):=A0 (by show 0+1≠n;omega);clear hp hpz2 hn1 hpz hng hn hlc hsub hpi hpzi;cases be;(·have hE:rdE 0=19:=(by rw[HE.out,D0 ⟨rfl,rfl⟩]);exact pC);·have hE:rdE 0=0:=pD;clear HE;go_wp2_with fail;refine(HF.out _ Xe _).mono ?_;rintro e w2 ⟨rfl,hx2⟩;exact pE);·have hjp:0<j:=B0;have dg:decide (0<(j:Int))=true:=S0;have dz:((j:Int)==0)=false:=O2;obtain⟨q,hq⟩:∃q,q=p-1:=⟨_,rfl⟩;have hqi:(p:Int)-1=(q:Int):=B0;have hql:q<bits.length:=B0;have hcq:=HC.out wr hxr q hql;have hgq:=HGB.out q hql;have hqe:j*(9+1)-1=q:=B0;rw[hqe]at HE;generalize bits.getD q false=bg at*;have HGQ:=A0 hgq;clear hgq hqe hq hp hpz2 hpz hn hlc;cases bg;(·have hng:¬(0<j∧(Tw.elems bits).getD q 0=119):=pF;rw[C0 hng,C0 B0]at HE;clear hng;by_cases hjl:j=n1;(·have hjn:j+1=n:=B0;have dl:((j:Int)==(n1:Int))=true:=xI;have dm:decide ((j:Int)<(n1:Int))=false:=S0;have hjm:n1<=j:=B0;have HJN:=A0 hjn;clear hjn hjl hn1 hj0;cases be;(·have hE:rdE j=20:=(by rw[HE.out,D0 ⟨HJN.out,rfl⟩]);exact pC);·have hE:rdE j=0:=pG;clear HE;go_wp2_with fail;refine(HF.out _ Xe _).mono ?_;rintro e w2 ⟨rfl,hx2⟩;exact pH);·have dl:((j:Int)==(n1:Int))=false:=O2;have dm:decide ((j:Int)<(n1:Int))=true:=S0;have hjm:j<n1:=B0;rw[C0 B0]at HE;have hjn:j+1<n:=B0;clear hn1 hj0 hjl;by_cases hc0:c=0;(·have hbi:=HI0.out hc0;have dc:((c.toNat:Int)==0)=true:=(by rw[hc0];rfl);have hE:rdE j=18:=(by rw[HE.out,D0 ⟨hjp,hjn,hbi⟩]);clear HE hbi hc0;cases be;all_goals go_wp2_with fail;refine(HF.out _ Xe _).mono ?_;rintro e w2 ⟨rfl,hx2⟩;go_wp2;go_ret2;exact⟨by rw[HDR.out,HRTJ.out TU,hE];rfl,hxr.trans hx2⟩);·have dc:((c.toNat:Int)==0)=false:=pI;cases bi;(·have hE:rdE j=18:=(by rw[HE.out,D0 ⟨hjp,hjn,rfl⟩]);clear HE hc0;cases be;all_goals go_wp2_with fail;refine(HF.out _ Xe _).mono ?_;rintro e w2 ⟨rfl,hx2⟩;go_wp2_with fail;refine(HI.out _).mono ?_;rintro e w4 ⟨rfl,rfl⟩;go_wp2;go_ret2;exact⟨by rw[HDR.out,HRTJ.out TU,hE];rfl,hxr.trans hx2⟩);·have hE:rdE j=0:=pJ;clear HE hc0;cases be;all_goals go_wp2_with fail;refine(HF.out _ Xe _).mono ?_;rintro e w2 ⟨rfl,hx2⟩;go_wp2_with fail;refine(HI.out _).mono ?_;rintro e w4 ⟨rfl,rfl⟩;go_wp2;go_roundw;(case rel=>exact xJ);case measure=>exact Q8);·exact pK);·exact pL
theorem Zl2 (v:Value) (bits:List Bool) (w:World) (B n:Nat) (hv:Own 4 w B v (bits.map encT)) (hl:bits.length<=20000) (hn:bits.length+1=n*8) (hn2:2<=n):
 Calls prog 151 #[.int .i64 6,v] w (DecR (Tw.readK 1 (Tw.elems bits)) w):=by
 obtain⟨g,cap,rfl,hlc,hcm,hg,hcell⟩:=hv.open_ A3
 rw[J0]at hlc hcell⊢
 have HC:Hid (∀w',Ext w w'->∀i,i<bits.length->w'.cell? ⟨g,i,none⟩=some (.bool (bits.getD i false))):=A0 (fun w' hx i hi=>by rw[hx.cell (p:=⟨g,i,none⟩) hg,hcell i hi,J2,U0,M0 hi];rfl)
 have hnn:n=((Tw.elems bits).length+1)/(7+1):=by rw[TS];omega
 have HRT:=A0 (fun j=>Tw.read_at Tw.cCb Tw.pCb Tw.eCb Tw.dCb 7 (Tw.elems bits) n j hnn)
 have HRA:=A0 (Tw.read_all Tw.cCb Tw.pCb Tw.eCb Tw.dCb 7 (Tw.elems bits) n hnn)
 have HRD:=A0 (fun j=>Tw.rdErr.eq_1 Tw.cCb Tw.pCb Tw.eCb Tw.dCb 7 (Tw.elems bits) n j)
 have HDR:Hid (Tw.readK 1 (Tw.elems bits)=Tw.read Tw.cCb Tw.pCb Tw.eCb Tw.dCb 7 (Tw.elems bits)):=A0 rfl
 have HED:=A0 (fun j=>TT Tw.eCb Tw.cCb Tw.pCb 7 (((Tw.elems bits).drop (j*(7+1))).take 7) I0)
 have HIN:=A0 (fun j=>TT Tw.dCb Tw.cCb Tw.pCb 7 (((Tw.elems bits).drop (j*(7+1))).take 7) I0)
 have HGB:=A0 (oV bits)
 have HFN:Hid (∀w',Ext w w'->∀j p c,p=j*8->p+7<=bits.length->Calls prog 226 #[.int .i64 6,.slice (some ⟨g,p,none⟩) 7 c] w' fun e w''=>e=.returned (.int .u8 ((Tw.rdAt Tw.cCb Tw.pCb 7 (Tw.elems bits) j).1.toNat:Int))∧Ext w' w''):=A0 (fun w' hx j p c hp hpz=>by have h1:=Zn6 (.slice (some ⟨g,p,none⟩) 7 c) ((bits.drop p).take 7) w' (oU (HC.out w' hx) (G2 hg hx.size) p 7 c hpz) X3;have h2:Tw.chrK 1 (Tw.elems ((bits.drop p).take 7))=Tw.rdAt Tw.cCb Tw.pCb 7 (Tw.elems bits) j:=(by unfold Tw.rdAt;rw[<-JO,hp];rfl);rw[h2]at h1;exact h1)
 have hmx:maxLen=9223372036854775807:=rfl
 rw[hmx]at hcm
 have d5:((bits.length:Int)+1)/8=(n:Int):=by omega
 clear hcell hv hmx
 generalize hrr:Tw.rdErr Tw.cCb Tw.pCb Tw.eCb Tw.dCb 7 (Tw.elems bits) n=rdE at*
 generalize hra:Tw.rdAt Tw.cCb Tw.pCb 7 (Tw.elems bits)=rdA at*
 generalize hrk:Tw.readK 1 (Tw.elems bits)=res at*
 go_enter func151,ntmps151
 go_wp2
 rw[d5]
 go_loopw [9,8] (fun i s wr=>∃(j:Nat) (G:ByteArray),j<=n∧i=.int .i64 (j:Int)∧s=.string G∧Hid (G.data.toList=(List.range j).map fun i=>(rdA i).1)∧G.size=j∧Hid (∀i,i<j->rdE i=0)∧Ext w wr) (fun i _ _=>n-(intOf i).toNat)
 case atStart=>exact pA
 case round=>obtain⟨j,G,hj,rfl,rfl,HG,hGs,HB,hxr⟩:=hrel;by_cases hlt:j<n;(·obtain⟨p,hp⟩:∃p,p=j*8:=⟨_,rfl⟩;have hpi:(j:Int)*8=(p:Int):=B0;have hpz:p+7<=bits.length:=B0;obtain⟨pz,hpz2⟩:∃pz,pz=p+7:=⟨_,rfl⟩;have hpzi:(p:Int)+7=(pz:Int):=B0;have hle1:p<=pz:=B0;have hle2:pz<=cap:=B0;have hsub:pz-p=7:=B0;have HF:=A0 (fun w' hx c=>HFN.out w' hx j p c hp hpz);have HE:=A0 (HRD.out j);have HRTJ:=A0 (fun h=>HRT.out j hlt h HB.out);have hed:=HED.out j;have hin:=HIN.out j;have HRJ:Hid (Tw.rdAt Tw.cCb Tw.pCb 7 (Tw.elems bits) j=rdA j):=A0 (by rw[hra]);rw[show Tw.chr Tw.cCb Tw.pCb 7 (((Tw.elems bits).drop (j*(7+1))).take 7)=rdA j from HRJ.out]at hed hin;rw[hed,hin]at HE;have HSN:Hid (∀H:ByteArray,H.data.toList=G.data.toList++[(rdA j).1]->H.data.toList=(List.range (j+1)).map fun i=>(rdA i).1):=A0 (fun H hH=>by rw[hH,HG.out,oZ]);have HBN:Hid (rdE j=0->Hid (∀i,i<j+1->rdE i=0)):=A0 (fun h=>A0 (fun i hi=>by rcases XT (XU hi)with h1|rfl;(·exact HB.out i h1);·exact h));obtain⟨n1,hn1⟩:∃n1,n1=n-1:=⟨_,rfl⟩;have hn1i:(n:Int)-1=(n1:Int):=B0;generalize hcj:(rdA j).1=c at*;have HL:=A0 (fun w=>oM c w);have HI:=A0 (fun w=>Zi6 c w);have HI0:Hid (c=0->decide (0<=Lib.indexByte Tw.dCb c)=false):=A0 (fun h=>by rw[h];decide);generalize decide (0<=Lib.indexByte Tw.eCb c)=be at*;generalize decide (0<=Lib.indexByte Tw.dCb c)=bi at*;have hcv:=cH;have hsz:(strOfNums [(c.toNat:Int)]).size=1:=strOfNums_size _;have HAA:Hid ((G++strOfNums [(c.toNat:Int)]).data.toList=G.data.toList++[c]):=A0 xH;have HAS:Hid ((G++strOfNums [(c.toNat:Int)]).size=j+1):=A0 pB;clear HED HIN HRD HRT HRA HFN hed hin HRJ HB HG hrr hra hcj hnn;by_cases hj0:j=0;(·subst hj0;obtain rfl:p=0:=B0;obtain rfl:pz=7:=B0;have dl:((0:Int)==(n1:Int))=false:=O2;have hng:¬(0<0∧(Tw.elems bits).getD (0*(7+1)-1) 0=119):=B0;rw[C0 hng]at HE;have HN1:Hid (0+1≠n):=A0 (by show 0+1≠n;omega);clear hp hpz2 hn1 hpz hng hn hlc hsub hpi hpzi;cases be;(·have hE:rdE 0=19:=(by rw[HE.out,D0 ⟨rfl,rfl⟩]);exact pM);·have hE:rdE 0=0:=pD;clear HE;go_wp2_with fail;refine(HF.out _ Xe _).mono ?_;rintro e w2 ⟨rfl,hx2⟩;go_wp2_with fail;refine(HL.out _).mono ?_;rintro e w3 ⟨rfl,rfl⟩;exact pE);·have hjp:0<j:=B0;have dg:decide (0<(j:Int))=true:=S0;have dz:((j:Int)==0)=false:=O2;obtain⟨q,hq⟩:∃q,q=p-1:=⟨_,rfl⟩;have hqi:(p:Int)-1=(q:Int):=B0;have hql:q<bits.length:=B0;have hcq:=HC.out wr hxr q hql;have hgq:=HGB.out q hql;have hqe:j*(7+1)-1=q:=B0;rw[hqe]at HE;generalize bits.getD q false=bg at*;have HGQ:=A0 hgq;clear hgq hqe hq hp hpz2 hpz hn hlc;cases bg;(·have hng:¬(0<j∧(Tw.elems bits).getD q 0=119):=pF;rw[C0 hng,C0 B0]at HE;clear hng;by_cases hjl:j=n1;(·have hjn:j+1=n:=B0;have dl:((j:Int)==(n1:Int))=true:=xI;have dm:decide ((j:Int)<(n1:Int))=false:=S0;have hjm:n1<=j:=B0;have HJN:=A0 hjn;clear hjn hjl hn1 hj0;cases be;(·have hE:rdE j=20:=(by rw[HE.out,D0 ⟨HJN.out,rfl⟩]);exact pM);·have hE:rdE j=0:=pG;clear HE;go_wp2_with fail;refine(HF.out _ Xe _).mono ?_;rintro e w2 ⟨rfl,hx2⟩;go_wp2_with fail;refine(HL.out _).mono ?_;rintro e w3 ⟨rfl,rfl⟩;exact pH);·have dl:((j:Int)==(n1:Int))=false:=O2;have dm:decide ((j:Int)<(n1:Int))=true:=S0;have hjm:j<n1:=B0;rw[C0 B0]at HE;have hjn:j+1<n:=B0;clear hn1 hj0 hjl;by_cases hc0:c=0;(·have hbi:=HI0.out hc0;have dc:((c.toNat:Int)==0)=true:=(by rw[hc0];rfl);have hE:rdE j=18:=(by rw[HE.out,D0 ⟨hjp,hjn,hbi⟩]);clear HE hbi hc0;cases be;all_goals go_wp2_with fail;refine(HF.out _ Xe _).mono ?_;rintro e w2 ⟨rfl,hx2⟩;go_wp2_with fail;refine(HL.out _).mono ?_;rintro e w3 ⟨rfl,rfl⟩;go_wp2;go_ret2;exact⟨by rw[HDR.out,HRTJ.out TU,hE];rfl,hxr.trans hx2⟩);·have dc:((c.toNat:Int)==0)=false:=pI;cases bi;(·have hE:rdE j=18:=(by rw[HE.out,D0 ⟨hjp,hjn,rfl⟩]);clear HE hc0;cases be;all_goals go_wp2_with fail;refine(HF.out _ Xe _).mono ?_;rintro e w2 ⟨rfl,hx2⟩;go_wp2_with fail;refine(HL.out _).mono ?_;rintro e w3 ⟨rfl,rfl⟩;go_wp2_with fail;refine(HI.out _).mono ?_;rintro e w4 ⟨rfl,rfl⟩;go_wp2;go_ret2;exact⟨by rw[HDR.out,HRTJ.out TU,hE];rfl,hxr.trans hx2⟩);·have hE:rdE j=0:=pJ;clear HE hc0;cases be;all_goals go_wp2_with fail;refine(HF.out _ Xe _).mono ?_;rintro e w2 ⟨rfl,hx2⟩;go_wp2_with fail;refine(HL.out _).mono ?_;rintro e w3 ⟨rfl,rfl⟩;go_wp2_with fail;refine(HI.out _).mono ?_;rintro e w4 ⟨rfl,rfl⟩;go_wp2;go_roundw;(case rel=>exact xJ);case measure=>exact Q8);·exact pK);·exact pL
theorem Zop (bits:List Bool) (h:4<=bits.length):((Tw.elems bits).take 4=[110,110,110,110])=((bits.getD 0 false || (bits.getD 1 false || (bits.getD 2 false || bits.getD 3 false)))=false):=by
 match bits,h with
 |b0::b1::b2::b3::r,_=>cases b0<;>cases b1<;>cases b2<;>cases b3<;>simp[Tw.elems]
theorem ZoN (bits:List Bool) (m m1 m2:Nat) (h1:m1=m+1) (h2:m2=m+2) (h:bits.length=m+3):((Tw.elems bits).drop m=[119,110,110])=((!bits.getD m false || (bits.getD m1 false || bits.getD m2 false))=false):=by
 subst h1 h2;have e:bits.drop m=[bits.getD m false,bits.getD (m+1) false,bits.getD (m+2) false]:=by
  apply YP;(·exact S0)
  ·intro i g1 g2
   simp at g2
   rw[qU]
   match i,g2 with
   |0,_=>simp[U0,M0 (show m<bits.length by omega)]
   |1,_=>simp[U0,M0 (show m+1<bits.length by omega)]
   |2,_=>simp[U0,M0 (show m+2<bits.length by omega)]
 unfold Tw.elems;rw[<-R3,e];cases bits.getD m false<;>cases bits.getD (m+1) false<;>cases bits.getD (m+2) false<;>simp
theorem ten (bits:List Bool) (t:Nat) (h:t+10<=bits.length):(bits.drop t).take 10=(List.range 10).map fun m=>bits.getD (t+m) false:=by
 apply YP;·exact S0
 ·intro i g1 g2;simp at g2;rw[List.getElem_take,qU,E5,List.getElem_range,U0,M0 (show t+i<bits.length by omega)];rfl
def evB (bits:List Bool) (t k:Nat):List Bool:=(List.range k).map fun m=>bits.getD (t+2*m) false
def odB (bits:List Bool) (t k:Nat):List Bool:=(List.range k).map fun m=>bits.getD (t+2*m+1) false
theorem Zm1 (bits:List Bool) (t k:Nat):evB bits t (k+1)=evB bits t k++[bits.getD (t+2*k) false]:=by unfold evB;exact NT
theorem ZmP (bits:List Bool) (t k:Nat):odB bits t (k+1)=odB bits t k++[bits.getD (t+2*k+1) false]:=by unfold odB;exact NT
theorem Zm0 (bits:List Bool) (i:Nat) (h:4+10*i+10<=bits.length):Tw.evens (Tw.pairAt (Tw.elems bits) i)=Tw.elems (evB bits (4+10*i) 5):=by unfold Tw.pairAt;rw[JO,ten bits _ h];rfl
theorem ZmO (bits:List Bool) (i:Nat) (h:4+10*i+10<=bits.length):Tw.odds (Tw.pairAt (Tw.elems bits) i)=Tw.elems (odB bits (4+10*i) 5):=by unfold Tw.pairAt;rw[JO,ten bits _ h];rfl
theorem Zk9:∀i:Fin 10,(((Tw.cItf.getD i.val 0).toNat:Int)==0)=false:=by decide
theorem pN (p:List UInt8):(((Tw.chr Tw.cItf Tw.pItf 5 p).1.toNat:Int)==0)= !(Tw.chr Tw.cItf Tw.pItf 5 p).2:=by
 rcases TR Tw.cItf Tw.pItf 5 p with e|⟨i,hi,_,e⟩;·rw[e];rfl
 ·rw[e];exact Zk9 ⟨i,hi⟩
theorem pO (f:Nat->List UInt8) (i:Nat):(List.range (i+1)).flatMap f=(List.range i).flatMap f++f i:=by rw[NY,VD];simp
theorem pP {w:World} {ops:Array Oper} {rest:List Oper} {o:Oper} {a:Act} {Q:Exit->Act->World->Prop} (hgd:o.guard=none) (s x:Operand)
 (ho:o.op=.call {callee:=.builtin .append,args:= #[s,x],argTypes:= #[26,26]})
 (B:Nat) (v:Value) (l:List Bool) (hs:a.eval s=v) (hown:Own 4 w B v (l.map encT)) (b:Nat) (u:Bool) (hx:a.eval x=.slice (some ⟨b,0,none⟩) 1 1)
 (hc:w.cell? ⟨b,0,none⟩=some (encT u)) (hn:l.length<=999999999) (hB:B<=w.heap.size)
 (h:∀v' w',Own 4 w' B v' ((l++[u]).map encT)->w.grownBy w' v.ownBlock->(v'.ownBlock=v.ownBlock∨v'.ownBlock=some w.heap.size)->wpList prog ops Q rest (a.put o.dst v') w'):wpList prog ops Q (o::rest) a w:=
 NE hgd s x 26 4 (.bool false) 1 ho underlying26 VJ rfl I0 B v _ hs hown b 0 1 1 [encT u] hx rfl
  (fun j u' hj=>by
   match j with
   |0=>simp only[B3,I2]at hj;subst hj;exact hc
   |j+1=>simp at hj)
  (fun u' hu=>by simp only[U3]at hu;subst hu;rfl) A3 hB
  (fun v' w' h1 h2 h3=>h v' w' SG h2 h3)
theorem ZiR (v:Value) (bits:List Bool) (w:World) (B h:Nat) (hv:Own 4 w B v (bits.map encT)) (hh:h<=1000) (hn:bits.length=10*h+7) (hh1:1<=h):
 Calls prog 150 #[v] w (DecR (Tw.readItf (Tw.elems bits)) w):=by
 obtain⟨g,cap,rfl,hlc,hcm,hg,hcell⟩:=hv.open_ A3
 rw[J0]at hlc hcell⊢
 have HC:Hid (∀w',Ext w w'->∀i,i<bits.length->w'.cell? ⟨g,i,none⟩=some (.bool (bits.getD i false))):=A0 (fun w' hx i hi=>by rw[hx.cell (p:=⟨g,i,none⟩) hg,hcell i hi,J2,U0,M0 hi];rfl)
 have HT:=A0 (Tw.readItf.eq_1 (Tw.elems bits))
 rw[TS,show(bits.length-7)/10=h by omega]at HT
 have HS4:=A0 (Zop bits B0)
 have h0:=HC.out w (Ext.refl _) 0 B0
 have h1:=HC.out w (Ext.refl _) 1 B0
 have h2:=HC.out w (Ext.refl _) 2 B0
 have h3:=HC.out w (Ext.refl _) 3 B0
 have hl17:17<=bits.length:=by omega
 clear hcell hv
 generalize Tw.readItf (Tw.elems bits)=res at*
 generalize bits.getD 0 false=b0 at*
 generalize bits.getD 1 false=b1 at*
 generalize bits.getD 2 false=b2 at*
 generalize bits.getD 3 false=b3 at*
 by_cases hst:(b0 || (b1 || (b2 || b3)))=true
 ·have HR:Hid (res=([],19)):=A0 (by rw[HT.out,D0 (by intro e;rw[HS4.out,hst]at e;exact Bool.noConfusion e)]);clear HT HS4;cases b0;(·cases b1;(·cases b2;(·cases b3;(·exact absurd hst Bool.noConfusion);·exact JP);·exact JP);·exact JP);·exact JP
 have hst':(b0 || (b1 || (b2 || b3)))=false:=by simpa using hst
 rw[C0 (by rw[Ne,L5,HS4.out];exact hst')]at HT
 obtain⟨rfl,rfl,rfl,rfl⟩:b0=false∧b1=false∧b2=false∧b3=false:=by cases b0<;>cases b1<;>cases b2<;>cases b3<;>first|exact⟨rfl,rfl,rfl,rfl⟩|exact absurd hst' Bool.noConfusion
 have HN:=A0 hn
 clear hst hst' HS4 hn hlc hcm
 go_enter func150,ntmps150
 go_wp2
 clear h0 h1 h2 h3
 go_loopw [5,4] (fun i s wr=>∃(j t:Nat) (G:ByteArray),j<=h∧t=4+10*j∧i=.int .i64 (t:Int)∧s=.string G∧Hid (G.data.toList=(List.range j).flatMap fun i=>[(Tw.digA (Tw.elems bits) i).1,(Tw.digB (Tw.elems bits) i).1])∧G.size=2*j∧Hid (∀i,i<j->Tw.pairOk (Tw.elems bits) i=true)∧Ext w wr) (fun i _ _=>10*h+20-(intOf i).toNat)
 case atStart=>exact⟨0,4,⟨#[]⟩,O0 _,rfl,rfl,rfl,A0 rfl,rfl,A0 (fun i h=>by omega),Ext.refl _⟩
 case round=>obtain⟨j,t,G,hj,ht,rfl,rfl,HG,hGs,HB,hxr⟩:=hrel;have hn:=HN.out;have hlb:bits.length<=20000:=B0;have htb:t<=20000:=B0;by_cases hlt:j<h;(·have dlt:(t:Int)+10<(bits.length:Int):=B0;have HEV:=A0 (Zm0 bits j B0);have HOD:=A0 (ZmO bits j B0);rw[<-ht]at HEV HOD;have ht10:t+10<=bits.length:=B0;have HJ:Hid (t=4+10*j):=A0 ht;clear ht hn;have HSN:Hid (∀H:ByteArray,H.data.toList=G.data.toList++[(Tw.digA (Tw.elems bits) j).1,(Tw.digB (Tw.elems bits) j).1]->H.data.toList=(List.range (j+1)).flatMap fun i=>[(Tw.digA (Tw.elems bits) i).1,(Tw.digB (Tw.elems bits) i).1]):=A0 (fun H hH=>by rw[hH,HG.out,pO]);have HPO:Hid (Tw.pairOk (Tw.elems bits) j=((Tw.digA (Tw.elems bits) j).2&&(Tw.digB (Tw.elems bits) j).2)):=A0 rfl;have HBN:Hid (Tw.pairOk (Tw.elems bits) j=true->Hid (∀i,i<j+1->Tw.pairOk (Tw.elems bits) i=true)):=A0 (fun h=>A0 (fun i hi=>by rcases XT (XU hi)with h1|rfl;(·exact HB.out i h1);·exact h));have HBAD:Hid (Tw.pairOk (Tw.elems bits) j=false->res=([],18)):=A0 (fun hf=>by rw[HT.out,D0];rw[YG];exact⟨j,by simpa using hlt,by rw[hf];exact Bool.noConfusion⟩);have HDA:Hid (Tw.digA (Tw.elems bits) j=Tw.chrK 2 (Tw.elems (evB bits t 5))):=A0 (by unfold Tw.digA;rw[HEV.out];rfl);have HDB:Hid (Tw.digB (Tw.elems bits) j=Tw.chrK 2 (Tw.elems (odB bits t 5))):=A0 (by unfold Tw.digB;rw[HOD.out];rfl);have dza:(((Tw.digA (Tw.elems bits) j).1.toNat:Int)==0)= !(Tw.digA (Tw.elems bits) j).2:=pN _;have dzb:(((Tw.digB (Tw.elems bits) j).1.toNat:Int)==0)= !(Tw.digB (Tw.elems bits) j).2:=pN _;have hle5:(evB bits t 5).length<=1000:=(by simp[evB]);have hlo5:(odB bits t 5).length<=1000:=(by simp[odB]);have HL5:=A0 hle5;have HM5:=A0 hlo5;clear HEV HOD HT HB HG hle5 hlo5;generalize Tw.digA (Tw.elems bits) j=DA at*;generalize Tw.digB (Tw.elems bits) j=DB at*;obtain⟨da,fa⟩:=DA;obtain⟨db,fb⟩:=DB;dsimp only at dza dzb;obtain⟨wo,rfl⟩:∃wo:World,wo=wr:=⟨_,rfl⟩;go_wp2;go_loopw [8,6,7] (fun i ca cb wq=>∃k:Nat,k<=5∧i=.int .i64 (k:Int)∧Own 4 wq wo.heap.size ca ((evB bits t k).map encT)∧Own 4 wq wo.heap.size cb ((odB bits t k).map encT)∧ZL ca cb∧Ext wo wq) (fun i _ _ _=>5-(intOf i).toNat);(case atStart=>exact jO);case round=>obtain⟨k,hk,rfl,howa,howb,hap,hxq⟩:=hrel;by_cases hk5:k<5;(·obtain⟨u,hu⟩:∃u,u=t+2*k:=⟨_,rfl⟩;obtain⟨u1,hu1⟩:∃u1,u1=u+1:=⟨_,rfl⟩;have hui:(t:Int)+2*(k:Int)=(u:Int):=B0;have hu1i:(u:Int)+1=(u1:Int):=B0;have hul:u<bits.length:=B0;have hu1l:u1<bits.length:=B0;have hcu:=HC.out wr (hxr.trans hxq) u hul;have HES:=A0 (Zm1 bits t k);have HOS:=A0 (ZmP bits t k);rw[<-hu]at HES HOS;rw[<-hu1]at HOS;have hga:(evB bits t k).length<=5:=(by simp[evB];omega);have hgb:(odB bits t k).length<=5:=(by simp[odB];omega);have HCU:=A0 (fun w' hx=>HC.out w' hx u1 hu1l);have hwo:=hxq.size;generalize evB bits t k=ga at*;generalize odB bits t k=gb at*;generalize bits.getD u false=xa at*;generalize bits.getD u1 false=xb at*;clear hu hu1;go_wp2_with (at_builtin;refine pP rfl _ _ rfl wo.heap.size _ ga rfl (howa.alloc _) _ xa rfl ?c1 ?c2 ?c3 ?_);(case c1=>exact K7);(case c2=>omega);(case c3=>exact RJ);intro v5 w5 how5 hg5 hat5;have howb5:=(howb.alloc _).beside hg5 hap;have hap5:=ZL.grow hap (howb.alloc (.cells #[.bool xa] 4)) (wr.heap.size+1) L0 hat5;have hx5:=(hxq.alloc _).ofGrown hg5 howa.low;have hcu1:=HCU.out w5 (hxr.trans hx5);have hwo5:=hx5.size;replace how5:Own 4 w5 wo.heap.size v5 ((ga++[xa]).map encT):=(by rw[E3];exact how5);clear howa howb hap hg5 hat5 hxq hcu;go_wp2_with (at_builtin;refine pP rfl _ _ rfl wo.heap.size _ gb rfl (howb5.alloc _) _ xb rfl ?d1 ?d2 ?d3 ?_);(case d1=>exact K7);(case d2=>omega);(case d3=>exact RJ);intro v6 w6 how6 hg6 hat6;have howa6:=(how5.alloc _).beside hg6 hap5.symm;have hap6:=(ZL.grow hap5.symm (how5.alloc (.cells #[.bool xb] 4)) (w5.heap.size+1) L0 hat6).symm;have hx6:=(hx5.alloc _).ofGrown hg6 howb5.low;clear how5 howb5 hap5 hg6 hat6 hx5 hcu1;go_wp2;go_roundw;(case rel=>exact⟨k+1,by omega,by go_num,by rw[HES.out];exact howa6,by rw[HOS.out,E3];exact how6,hap6,hx6⟩);case measure=>exact Q8);·obtain rfl:k=5:=B0;have HFA:=A0 (oB _ _ wr howa.sl HL5.out);have HFB:=A0 (fun w' hx=>oB _ _ w' (howb.ext hx).sl HM5.out);rw[<-HDA.out]at HFA;rw[<-HDB.out]at HFB;clear howa howb hap hk hk5;dsimp only at HFA HFB;cases fa;(·exact pQ);·cases fb;(·exact pQ);·have hcv:=ZlC;have hsz:(strOfNums [(da.toNat:Int),(db.toNat:Int)]).size=2:=strOfNums_size _;have HAA:Hid ((G++strOfNums [(da.toNat:Int),(db.toNat:Int)]).data.toList=G.data.toList++[da,db]):=A0 xH;have HAS:Hid ((G++strOfNums [(da.toNat:Int),(db.toNat:Int)]).size=2*(j+1)):=A0 (by rw[Zf HAA.out,T0,Zd,hGs];simp;omega);have HBO:=HBN.out (by rw[HPO.out];rfl);go_wp2_with fail;refine HFA.out.mono ?_;rintro e w2 ⟨rfl,hx2⟩;go_wp2_with fail;refine(HFB.out _ hx2).mono ?_;rintro e w3 ⟨rfl,hx3⟩;go_wp2;go_roundw;(case rel=>exact⟨j+1,t+10,G++strOfNums [(da.toNat:Int),(db.toNat:Int)],by omega,by have:=HJ.out;omega,by go_num,rfl,A0 (HSN.out _ HAA.out),HAS.out,HBO,by exact(((hxr.trans hxq).trans hx2).trans hx3).alloc _⟩);case measure=>simp[intOf];have:=HJ.out;omega);·obtain rfl:j=h:=B0;have hall:¬((List.range j).all (Tw.pairOk (Tw.elems bits))=false):=(by rw[UE,U1];intro i hi;exact HB.out i WY);rw[C0 hall,<-HG.out]at HT;obtain⟨m1,hm1⟩:∃m1,m1=t+1:=⟨_,rfl⟩;obtain⟨m2,hm2⟩:∃m2,m2=t+2:=⟨_,rfl⟩;have hE3:=ZoN bits t m1 m2 hm1 hm2 B0;rw[show bits.length-3=t by omega]at HT;have hti:(bits.length:Int)-3=(t:Int):=B0;have h1i:(t:Int)+1=(m1:Int):=B0;have h2i:(t:Int)+2=(m2:Int):=B0;have htl:t<bits.length:=B0;have h1l:m1<bits.length:=B0;have h2l:m2<bits.length:=B0;have c0:=HC.out wr hxr t htl;have c1:=HC.out wr hxr m1 h1l;have c2:=HC.out wr hxr m2 h2l;have dlt:(bits.length:Int)<=(t:Int)+10:=B0;have HE3:=A0 hE3;generalize bits.getD t false=x0 at*;generalize bits.getD m1 false=x1 at*;generalize bits.getD m2 false=x2 at*;clear hj hlt hall HB HG hE3 hm1 hm2 ht hn;have key:∀y,(!x0 || (x1 || x2))=y->Hid (res=if y then([],20)else(G.data.toList,0)):=fun y hy=>A0 (by cases y;(·rw[HT.out,C0 (by rw[Ne,L5,HE3.out];exact hy)];rfl);·rw[HT.out,D0 (by intro e;rw[HE3.out,hy]at e;exact Bool.noConfusion e)];rfl);clear HT HE3;cases x0;(·exact xK);·cases x1;(·cases x2;(·have HR:=key false E4;clear key;go_wp2;go_ret2;exact⟨by rw[HR.out];exact ZX rfl rfl,hxr⟩);·exact xK);·exact xK
theorem Zl5 (cs ps edge inner:List UInt8) (z:Nat) (e:List UInt8) (n:Nat) (hn:n=(e.length+1)/(z+1)) (h:(Tw.read cs ps edge inner z e).2=0):
 (Tw.read cs ps edge inner z e).1=(List.range n).map (fun i=>(Tw.rdAt cs ps z e i).1)∧∀i,i<n->Tw.rdErr cs ps edge inner z e n i=0:=by
 unfold Tw.read at h⊢
 rw[<-hn]at h⊢
 split
 ·rename_i i hi;rw[hi]at h;have:=VP hi;simp at this;exact absurd h this
 ·rename_i hi;refine⟨rfl,fun i hin=> ?_⟩;rw[KW]at hi;simpa using hi i (by simpa using hin)
theorem pR (cs ps edge inner:List UInt8) (z:Nat) (e:List UInt8) (n:Nat) (hn:n=(e.length+1)/(z+1)) (hn2:2<=n) (he0:Lib.indexByte edge 0<0) (hi0:Lib.indexByte inner 0<0) (h:(Tw.read cs ps edge inner z e).2=0):
 ∃a M b,(Tw.read cs ps edge inner z e).1=a::(M++[b])∧M.length=n-2∧0<=Lib.indexByte edge a∧0<=Lib.indexByte edge b∧∀c∈M,0<=Lib.indexByte inner c:=by
 obtain⟨h1,h2⟩:=Zl5 cs ps edge inner z e n hn h
 have key:∀i,Tw.isIn edge (Tw.rdAt cs ps z e i)=decide (0<=Lib.indexByte edge (Tw.rdAt cs ps z e i).1):=fun i=>TT edge cs ps z _ he0
 have key2:∀i,Tw.isIn inner (Tw.rdAt cs ps z e i)=decide (0<=Lib.indexByte inner (Tw.rdAt cs ps z e i).1):=fun i=>TT inner cs ps z _ hi0
 have g0:=h2 0 B0
 have gz:=h2 (n-1) B0
 refine⟨(Tw.rdAt cs ps z e 0).1,(List.range (n-2)).map (fun i=>(Tw.rdAt cs ps z e (i+1)).1),(Tw.rdAt cs ps z e (n-1)).1,?_,by simp,?_,?_,?_⟩
 ·rw[h1];obtain⟨m,rfl⟩:∃m,n=m+2:=⟨n-2,by omega⟩;rw[NY,E3,List.range_succ_eq_map];simp
 ·unfold Tw.rdErr at g0;rw[C0 B0]at g0;by_cases hb:Tw.isIn edge (Tw.rdAt cs ps z e 0)=false;(·rw[D0 ⟨rfl,hb⟩]at g0;simp at g0);·rw[key 0]at hb;simpa using hb
 ·unfold Tw.rdErr at gz;by_cases hb:Tw.isIn edge (Tw.rdAt cs ps z e (n-1))=false;(·have q1:¬(0<n-1∧e.getD ((n-1)*(z+1)-1) 0=119):=(by intro c;rw[D0 c]at gz;simp at gz);rw[C0 q1,C0 B0,D0 ⟨by omega,hb⟩]at gz;simp at gz);·rw[key]at hb;simpa using hb
 ·intro c hc;rw[E7]at hc;obtain⟨i,hi,rfl⟩:=hc;have hi':i<n-2:=WY;have gi:=h2 (i+1) B0;unfold Tw.rdErr at gi;by_cases hb:Tw.isIn inner (Tw.rdAt cs ps z e (i+1))=false;(·have q1:¬(0<i+1∧e.getD ((i+1)*(z+1)-1) 0=119):=(by intro c;rw[D0 c]at gi;simp at gi);rw[C0 q1,C0 B0,C0 B0,D0 ⟨by omega,by omega,hb⟩]at gi;simp at gi);·rw[key2]at hb;simpa using hb
theorem pS (c:UInt8) (h:0<=Lib.indexByte [42] c):c=42:=by have:=oY c;rw[V0 h,Y0]at this;exact R4.1 (by simpa using(by omega:c.toNat=42))
theorem xL (a b:UInt8) (M:List UInt8) (k:Nat) (h:k<=M.length):((a::(M++[b])).drop 1).take k=M.take k:=by simp[SU h]
theorem Zo1 (M:List UInt8) (h2:2<=M.length) (hl:M.length<=1001) (hM:∀c∈M,0<=Lib.indexByte Cd.syms c):
 (Tw.comp39 (M.take (M.length-1)) true=(42::(M++[42]),0))↔(Cd.app 7 (M.take (M.length-1))).1=M:=by
 have ho:Tw.only (M.take (M.length-1)) Cd.syms=true:=by rw[PY,U1];intro c hc;simpa using hM c (G4 hc)
 have hl1:(M.take (M.length-1)).length=M.length-1:=WA
 generalize M.take (M.length-1)=T at*
 have h0:=oR T true B0 B0
 rw[D0 ho]at h0
 have hc:=Zjw T B0 B0 h0
 rw[show Tw.comp39 T true=((Tw.comp39 T true).1,(Tw.comp39 T true).2)from rfl,hc,h0,N3]
 simp
theorem Zn0 (l:List UInt8) (check:Bool) (h:(Tw.compCb l check).2=0):∀c∈l,0<=Lib.indexByte Tw.cCb c:=by
 rw[xG]at h;by_cases g0:l.length<2;·rw[D0 g0]at h;simp at h
 rw[C0 g0]at h;cases g1:Tw.only (l.take 1) Tw.eCb;·rw[g1,D0 rfl]at h;simp at h
 cases g2:Tw.only (l.drop (l.length-1)) Tw.eCb;·rw[g1,g2,C0 Bool.noConfusion,D0 rfl]at h;simp at h
 cases g3:Tw.only ((l.drop 1).take (l.length-2)) Tw.dCb;·rw[g1,g2,g3,C0 Bool.noConfusion,C0 Bool.noConfusion,D0 rfl]at h;simp at h
 exact kV l B0 g1 g2 g3
theorem pT (a b:UInt8) (M:List UInt8) (h1:1<=M.length) (ha:0<=Lib.indexByte Tw.eCb a) (hb:0<=Lib.indexByte Tw.eCb b) (hM:∀c∈M,0<=Lib.indexByte Tw.dCb c):
 Tw.compCb (a::(M.take (M.length-1)++[b])) true=(Tw.cbc (a::(M.take (M.length-1)++[b])),0)∧∀c∈a::(M.take (M.length-1)++[b]),0<=Lib.indexByte Tw.cCb c:=by
 have hl1:(M.take (M.length-1)).length=M.length-1:=WA
 have hN:∀c∈M.take (M.length-1),0<=Lib.indexByte Tw.dCb c:=fun c hc=>hM c (G4 hc)
 generalize M.take (M.length-1)=N at*
 have e1:Tw.only ((a::(N++[b])).take 1) Tw.eCb=true:=by simpa[Tw.only]using ha
 have hlen:(a::(N++[b])).length=N.length+2:=by simp
 have e2:(a::(N++[b])).drop ((a::(N++[b])).length-1)=[b]:=by rw[hlen,show N.length+2-1=N.length+1 by omega];simp
 have e3:((a::(N++[b])).drop 1).take ((a::(N++[b])).length-2)=N:=by rw[hlen,show N.length+2-2=N.length by omega];simp
 have hz:(Tw.compCb (a::(N++[b])) true).2=0:=by rw[xG,C0 (by rw[hlen];omega),e1,C0 Bool.noConfusion,e2,C0 (by simpa[Tw.only]using hb),e3,C0];rw[UE,PY,U1];intro c hc;simpa using hN c hc
 refine⟨XC (Zjx _ hz) hz,(Zn0 _ true hz)⟩
theorem Zo2 (l:List UInt8) (h1:1<=l.length) (hl:l.length<=1000) (ho:l.length%2=1) (hd:∀c∈l,0<=Lib.indexByte Tw.cItf c):Tw.compItf l true=((Cd.app 1 l).1,0):=by
 have hon:Tw.only l Tw.cItf=true:=by rw[PY,U1];intro c hc;simpa using hd c hc
 have hz:(Tw.compItf l true).2=0:=by rw[oS l true h1 hl,hon,C0 (show¬(true=false)from Bool.noConfusion),ho];rfl
 exact XC (Zjy l hl h1 hz) hz
theorem ZjH (e:List UInt8) (h:Nat) (he:(e.length-7)/10=h) (hz:(Tw.readItf e).2=0):(Tw.readItf e).1.length=2*h∧∀c∈(Tw.readItf e).1,0<=Lib.indexByte Tw.cItf c:=by
 unfold Tw.readItf at hz⊢;rw[he]at hz⊢;split;·exact xM
 ·rename_i g;rw[C0 g]at hz;split;(·exact xM)
  ·rename_i g;rw[C0 g]at hz;split;(·exact xM)
   ·rw[UE,U1]at g;have dig:∀p,(Tw.chr Tw.cItf Tw.pItf 5 p).2=true->0<=Lib.indexByte Tw.cItf (Tw.chr Tw.cItf Tw.pItf 5 p).1:=(by intro p hp;have hk:∀i:Fin 10,0<=Lib.indexByte Tw.cItf (Tw.cItf.getD i.val 0):=I0;rcases TR Tw.cItf Tw.pItf 5 p with q|⟨i,hi,_,q⟩;(·rw[q]at hp;simp at hp);·rw[q];exact hk ⟨i,hi⟩);constructor
    ·clear g he hz
     induction h with
     |zero=>rfl
     |succ k ih=>rw[pO,T0,ih];simp;omega
    ·intro c hc;simp only[List.mem_flatMap]at hc;obtain⟨i,hi,hc⟩:=hc;have hp:=g i hi;unfold Tw.pairOk at hp;rw[M2]at hp;simp only[V3,D8,E8]at hc;rcases hc with rfl|rfl;(·exact dig _ hp.1);·exact dig _ hp.2
theorem R8 (l:List UInt8):∃C:ByteArray,C.data.toList=l∧C.size=l.length:=⟨⟨l.toArray⟩,by simp,by simp[ByteArray.size]⟩
theorem ckB {f:Nat} {args:Array Value} {w:World} {l:List UInt8} {D:ByteArray} (hD:D.data.toList=l) (h:Calls prog f args w fun e w'=>e=.returned (strV l)∧Ext w w'):
 Calls prog f args w fun e w'=>e=.returned (.string D)∧Ext w w':=
 h.mono fun e w' ⟨he,hx⟩=>⟨by rw[he,<-hD];simp only[strV,Z4],hx⟩
theorem pU {a b:ByteArray} (h:a.data.toList≠b.data.toList):(a.toList==b.toList)=false:=by rw[C2,C2,N0];exact h
structure JQ (k:Nat) (chars:List UInt8) (check:Bool) (s:List UInt8):Prop where
 plain:check=false->Tw.textK k chars false=s
 size:check=true->2<=s.length∧s.length<=2000
 same:check=true->((Tw.compK k (Tw.textK k chars true) true=(chars,0))↔Tw.chkK k (Tw.textK k chars true)=s)
theorem ZmS (bits:List Bool) (n:Nat) (check:Bool) (hn:bits.length+1=n*10) (hn2:3+check.toNat<=n) (hn3:n<=1002+check.toNat) (hz:(Tw.readK 0 (Tw.elems bits)).2=0):
 ∃M,(Tw.readK 0 (Tw.elems bits)).1=42::(M++[42])∧M.length=n-2∧JQ 0 (42::(M++[42])) check M∧Tw.textK 0 (42::(M++[42])) true=M.take (M.length-1):=by
 obtain⟨a,M,b,h1,h2,h3,h4,h5⟩:=pR Tw.c39 Tw.p39 [42] Cd.syms 9 (Tw.elems bits) n (by rw[TS];omega) B0 I0 I0 hz
 have ha:=pS a h3
 have hb:=pS b h4
 subst ha hb
 have ht:Tw.textK 0 (42::(M++[42])) true=M.take (M.length-1):=by show((42::(M++[42])).drop 1).take ((42::(M++[42])).length-2-1)=_;rw[xL 42 42 M _ L0];congr 1;simp
 refine⟨M,h1,h2,⟨fun _=> ?_,fun hc=> ?_,fun hc=> ?_⟩,ht⟩
 ·show((42::(M++[42])).drop 1).take ((42::(M++[42])).length-2-0)=_;rw[xL 42 42 M _ L0];simp
 ·subst hc;simp at hn2 hn3;omega
 ·subst hc;simp at hn2 hn3;rw[ht];exact Zo1 M B0 B0 h5
theorem ZmT (bits:List Bool) (n:Nat) (check:Bool) (hn:bits.length+1=n*8) (hn2:2+check.toNat<=n) (hn3:n<=1000+check.toNat) (hz:(Tw.readK 1 (Tw.elems bits)).2=0):
 (Tw.readK 1 (Tw.elems bits)).1.length=n∧JQ 1 (Tw.readK 1 (Tw.elems bits)).1 check (Tw.readK 1 (Tw.elems bits)).1∧(check=true->∀c∈Tw.textK 1 (Tw.readK 1 (Tw.elems bits)).1 true,0<=Lib.indexByte Tw.cCb c):=by
 obtain⟨a,M,b,h1,h2,h3,h4,h5⟩:=pR Tw.cCb Tw.pCb Tw.eCb Tw.dCb 7 (Tw.elems bits) n (by rw[TS];omega) B0 I0 I0 hz
 have h1':(Tw.readK 1 (Tw.elems bits)).1=a::(M++[b]):=h1
 rw[h1']
 have hlen:(a::(M++[b])).length=M.length+2:=by simp
 have ht:check=true->Tw.textK 1 (a::(M++[b])) true=a::(M.take (M.length-1)++[b]):=by intro hc;subst hc;simp at hn2;show(a::(M++[b])).take ((a::(M++[b])).length-2)++(a::(M++[b])).drop ((a::(M++[b])).length-1)=_;rw[hlen];obtain⟨q,hq⟩:∃q,M.length=q+1:=⟨M.length-1,by omega⟩;rw[show M.length+2-2=q+1 by omega,show M.length+2-1=M.length+1 by omega,show M.length-1=q by omega,SV,VC,SU B0,List.drop_left];rfl
 refine⟨by rw[hlen];omega,⟨fun _=>rfl,fun hc=> ?_,fun hc=> ?_⟩,fun hc=> ?_⟩
 ·subst hc;simp at hn2 hn3;rw[hlen];omega
 ·rw[ht hc];subst hc;simp at hn2;obtain⟨c1,_⟩:=pT a b M B0 h3 h4 h5;show Tw.compCb _ true=_↔Tw.cbc _=_;rw[c1,N3];simp
 ·rw[ht hc];subst hc;simp at hn2;exact(pT a b M B0 h3 h4 h5).2
theorem ZmU (bits:List Bool) (h:Nat) (check:Bool) (hn:bits.length=10*h+7) (hh1:1<=h) (hh:h<=500) (hz:(Tw.readK 2 (Tw.elems bits)).2=0):
 (Tw.readK 2 (Tw.elems bits)).1.length=2*h∧JQ 2 (Tw.readK 2 (Tw.elems bits)).1 check (Tw.readK 2 (Tw.elems bits)).1:=by
 obtain⟨h1,h2⟩:=ZjH (Tw.elems bits) h (by rw[TS];omega) hz
 have h1':(Tw.readK 2 (Tw.elems bits)).1.length=2*h:=h1
 have h2':∀c∈(Tw.readK 2 (Tw.elems bits)).1,0<=Lib.indexByte Tw.cItf c:=h2
 generalize(Tw.readK 2 (Tw.elems bits)).1=l at*
 refine⟨h1',⟨fun _=>rfl,fun _=>by omega,fun _=> ?_⟩⟩
 have hl:(l.take (l.length-1)).length=l.length-1:=WA
 have hc:=Zo2 (l.take (l.length-1)) B0 B0 B0 (fun c hc=>h2' c (G4 hc))
 show Tw.compItf (l.take (l.length-1)) true=(l,0)↔(Cd.app 1 (l.take (l.length-1))).1=l
 rw[hc,N3]
 simp
theorem xN {f:Nat} {args:Array Value} {w:World} {D:ByteArray} {x:Int} (h:Calls prog f args w (DecR (D.data.toList,x) w)):
 Calls prog f args w fun e w'=>e=.returned (.tuple #[.string D,.int .i64 x])∧Ext w w':=
 h.mono fun e w' ⟨he,hx⟩=>⟨by rw[he];simp only[strV,Z4],hx⟩
theorem Zng (ws:List Int) (check:Bool) (hl:ws.length<=1000000) (hcnt:Tw.countsK 0 ws.length check=true) (hw0:(Tw.wide ws).2=0) (w:World) (v:Value) (B:Nat) (hv:Own 4 w B v ((Tw.wide ws).1.map encT)):
 Calls prog 151 #[.int .i64 5,v] w (DecR (Tw.readK 0 (Tw.elems (Tw.wide ws).1)) w):=by
 have hbl:=P9 ws hw0
 simp[Tw.countsK,Tw.counts]at hcnt
 have hb1:check.toNat<=1:=PZ
 exact Zl1 v _ w B ((ws.length+1)/10) hv B0 B0 B0
theorem Znh (ws:List Int) (check:Bool) (hl:ws.length<=1000000) (hcnt:Tw.countsK 1 ws.length check=true) (hw0:(Tw.wide ws).2=0) (w:World) (v:Value) (B:Nat) (hv:Own 4 w B v ((Tw.wide ws).1.map encT)):
 Calls prog 151 #[.int .i64 6,v] w (DecR (Tw.readK 1 (Tw.elems (Tw.wide ws).1)) w):=by
 have hbl:=P9 ws hw0
 simp[Tw.countsK,Tw.counts]at hcnt
 have hb1:check.toNat<=1:=PZ
 exact Zl2 v _ w B ((ws.length+1)/8) hv B0 B0 B0
theorem Zni (ws:List Int) (check:Bool) (hl:ws.length<=1000000) (hcnt:Tw.countsK 2 ws.length check=true) (hw0:(Tw.wide ws).2=0) (w:World) (v:Value) (B:Nat) (hv:Own 4 w B v ((Tw.wide ws).1.map encT)):
 Calls prog 150 #[v] w (DecR (Tw.readK 2 (Tw.elems (Tw.wide ws).1)) w):=by
 have hbl:=P9 ws hw0
 simp[Tw.countsK,Tw.countsItf]at hcnt
 exact ZiR v _ w B ((ws.length-7)/10) hv B0 B0 B0
theorem Zoe (v:Value) (ws:List Int) (check:Bool) (w:World) (hv:Sl w v (ws.map encI)) (hl:ws.length<=1000000):
 Calls prog 84 #[.int .i64 5,v,.bool check] w (DecR (Tw.decK 0 ws check) w):=by
 have HT:=A0 (Tw.decK.eq_1 0 ws check)
 generalize Tw.decK 0 ws check=res at*
 obtain⟨a,c,rfl⟩:=hv.form
 rw[J0]at hv⊢
 have HV:=A0 hv
 have HP:=A0 (fun w=>ZnP ws.length check w hl)
 have HW:=A0 (fun w' hx=>ME _ ws w' (HV.out.ext hx) hl)
 clear hv
 cases hcnt:Tw.countsK 0 ws.length check
 ·exact xO
 have HRR:=A0 (Zng ws check hl hcnt)
 have HCN:=A0 hcnt
 rw[hcnt]at HP HT
 rw[C0 Bool.noConfusion]at HT
 clear hcnt
 by_cases hw:(Tw.wide ws).2≠0
 ·exact xP
 rw[C0 hw]at HT
 have hw0:(Tw.wide ws).2=0:=H6 hw
 have HR:=A0 (HRR.out hw0)
 have hbl:=P9 ws hw0
 rw[show Tw.wide ws=((Tw.wide ws).1,0)from XC rfl hw0]at HW
 clear HRR hw hw0
 generalize(Tw.wide ws).1=bits at*
 by_cases hr:(Tw.readK 0 (Tw.elems bits)).2≠0
 ·rw[D0 hr]at HT;have dr:((Tw.readK 0 (Tw.elems bits)).2 !=0)=true:=C3.2 hr;generalize Tw.readK 0 (Tw.elems bits)=R at*;exact xQ
 rw[C0 hr]at HT
 have hr0:(Tw.readK 0 (Tw.elems bits)).2=0:=H6 hr
 have hcn:=HCN.out
 have hb1:check.toNat<=1:=PZ
 simp[Tw.countsK,Tw.counts]at hcn
 obtain⟨M,hch,hMl,hPT,htx⟩:=ZmS bits ((ws.length+1)/10) check B0 B0 B0 hr0
 obtain⟨C,hC,hCs⟩:=R8 (42::(M++[42]))
 obtain⟨MB,hMB,hMBs⟩:=R8 M
 have hCz:C.size=MB.size+2:=by rw[hCs,hMBs];simp
 have hMb:1<=MB.size∧MB.size<=2000:=by rw[hMBs,hMl];omega
 have hc3:3<=C.size:=by omega
 have hc4:C.size<=2002:=by omega
 have hsc:((C.size:Int)-1).toNat=C.size-1:=by omega
 have hS:C.extract 1 (C.size-1)=MB:=Zl (by rw[Z0,hC,hMB,xL 42 42 M _ B0,X1 B0])
 have hRK:Tw.readK 0 (Tw.elems bits)=(C.data.toList,0):=XC (by rw[hch,hC]) hr0
 rw[hRK,hC]at HT
 rw[hRK]at HR
 replace hPT:JQ 0 (42::(M++[42])) check MB.data.toList:=by rw[hMB];exact hPT
 replace HR:=A0 (fun w' v' B how=>xN (HR.out w' v' B how))
 obtain⟨hMb1,hMb2⟩:=hMb
 cases check
 ·rw[C0 xR,hPT.plain rfl]at HT;clear hPT htx hch hMl hC hCs hMBs hMB hCz hcn hb1 hr hr0 hRK hbl;exact xS
 ·obtain⟨hz2,_⟩:=hPT.size rfl;rw[Zd]at hz2;have hsn:((MB.size:Int)-1).toNat=MB.size-1:=B0;obtain⟨TB,hTB,hTBs⟩:=R8 (Tw.textK 0 (42::(M++[42])) true);have hT:MB.extract 0 (MB.size-1)=TB:=Zl (by rw[Zy,hTB,htx,hMB,hMBs]);have hTs:TB.size<=1000000:=(by rw[<-hT,S9];omega);have hsm:=hPT.same rfl;rw[<-hTB]at HT hsm;obtain⟨DB,hDB,hDBs⟩:=R8 (Tw.chkK 0 TB.data.toList);have HK:=A0 (fun w=>ckB hDB (Zjs TB w hTs));rw[<-hDB]at hsm;clear hPT htx hch hMl hC hCs hMBs hMB hCz hcn hb1 hr hr0 hRK hbl hTB hTBs hDB hDBs;exact Q9
theorem Zof (v:Value) (ws:List Int) (check:Bool) (w:World) (hv:Sl w v (ws.map encI)) (hl:ws.length<=1000000):
 Calls prog 84 #[.int .i64 6,v,.bool check] w (DecR (Tw.decK 1 ws check) w):=by
 have HT:=A0 (Tw.decK.eq_1 1 ws check)
 generalize Tw.decK 1 ws check=res at*
 obtain⟨a,c,rfl⟩:=hv.form
 rw[J0]at hv⊢
 have HV:=A0 hv
 have HP:=A0 (fun w=>ZnQ ws.length check w hl)
 have HW:=A0 (fun w' hx=>ME _ ws w' (HV.out.ext hx) hl)
 clear hv
 cases hcnt:Tw.countsK 1 ws.length check
 ·exact xO
 have HRR:=A0 (Znh ws check hl hcnt)
 have HCN:=A0 hcnt
 rw[hcnt]at HP HT
 rw[C0 Bool.noConfusion]at HT
 clear hcnt
 by_cases hw:(Tw.wide ws).2≠0
 ·exact xP
 rw[C0 hw]at HT
 have hw0:(Tw.wide ws).2=0:=H6 hw
 have HR:=A0 (HRR.out hw0)
 have hbl:=P9 ws hw0
 rw[show Tw.wide ws=((Tw.wide ws).1,0)from XC rfl hw0]at HW
 clear HRR hw hw0
 generalize(Tw.wide ws).1=bits at*
 by_cases hr:(Tw.readK 1 (Tw.elems bits)).2≠0
 ·rw[D0 hr]at HT;have dr:((Tw.readK 1 (Tw.elems bits)).2 !=0)=true:=C3.2 hr;generalize Tw.readK 1 (Tw.elems bits)=R at*;exact xQ
 rw[C0 hr]at HT
 have hr0:(Tw.readK 1 (Tw.elems bits)).2=0:=H6 hr
 have hcn:=HCN.out
 have hb1:check.toNat<=1:=PZ
 simp[Tw.countsK,Tw.counts]at hcn
 obtain⟨hMl,hPT,hva⟩:=ZmT bits ((ws.length+1)/8) check B0 B0 B0 hr0
 obtain⟨C,hC,hCs⟩:=R8 (Tw.readK 1 (Tw.elems bits)).1
 obtain⟨MB,rfl⟩:∃MB:ByteArray,MB=C:=⟨_,rfl⟩
 have hMB:=hC
 have hMb:1<=MB.size∧MB.size<=2000:=by rw[hCs,hMl];omega
 have hRK:Tw.readK 1 (Tw.elems bits)=(MB.data.toList,0):=XC (by rw[hC]) hr0
 rw[hRK]at HT HR
 rw[<-hC]at hPT hva
 replace HR:=A0 (fun w' v' B how=>xN (HR.out w' v' B how))
 obtain⟨hMb1,hMb2⟩:=hMb
 cases check
 ·rw[C0 xR,hPT.plain rfl]at HT;clear hPT hva hMl hC hCs hMB hcn hb1 hr hr0 hRK hbl;exact xS
 ·obtain⟨hz2,_⟩:=hPT.size rfl;rw[Zd]at hz2;have hsn:((MB.size:Int)-1).toNat=MB.size-1:=B0;have hsn2:((MB.size:Int)-2).toNat=MB.size-2:=B0;obtain⟨TB,hTB,hTBs⟩:=R8 (Tw.textK 1 MB.data.toList true);have hT:MB.extract 0 (MB.size-2)++MB.extract (MB.size-1) MB.size=TB:=Zl (by rw[FQ,Zy,ZD,hTB];show _=MB.data.toList.take (MB.data.toList.length-2)++MB.data.toList.drop (MB.data.toList.length-1);rw[Zd]);have hTs:TB.size<=1000000∧1<=TB.size:=(by rw[<-hT];simp[S9];omega);have hsm:=hPT.same rfl;have hv2:=hva rfl;rw[<-hTB]at HT hsm hv2;obtain⟨DB,hDB,hDBs⟩:=R8 (Tw.chkK 1 TB.data.toList);have HK:=A0 (fun w=>ckB hDB (Zjt TB w hTs.1 hTs.2 (A0 hv2)));clear hv2 hva;rw[<-hDB]at hsm;clear hPT hMl hC hCs hMB hcn hb1 hr hr0 hRK hbl hTB hTBs hDB hDBs;by_cases heq:DB.data.toList=MB.data.toList;(·rw[C0 (by intro h;exact h.2 (hsm.2 heq))]at HT;obtain rfl:DB=MB:=Zl heq;clear hsm heq;go_enter func84,ntmps84;go_wp2_with fail;refine(HP.out _).mono ?_;rintro e w1 ⟨rfl,rfl⟩;go_wp2_with fail;refine(HW.out _ (Ext.refl _)).mono ?_;rintro e w2 ⟨wv,rfl,how,hx2⟩;have HRC:=A0 (HR.out w2 wv _ how);clear how HR;go_wp2_with fail;refine HRC.out.mono ?_;rintro e w3 ⟨rfl,hx3⟩;go_wp2;go_region;(first|rw[hT]|skip);exact pV);·rw[D0 ⟨rfl,fun h=>heq (hsm.1 h)⟩]at HT;have hne:=pU heq;clear hsm heq;go_enter func84,ntmps84;go_wp2_with fail;refine(HP.out _).mono ?_;rintro e w1 ⟨rfl,rfl⟩;go_wp2_with fail;refine(HW.out _ (Ext.refl _)).mono ?_;rintro e w2 ⟨wv,rfl,how,hx2⟩;have HRC:=A0 (HR.out w2 wv _ how);clear how HR;go_wp2_with fail;refine HRC.out.mono ?_;rintro e w3 ⟨rfl,hx3⟩;go_wp2;go_region;(first|rw[hT]|skip);exact pW
theorem Zog (v:Value) (ws:List Int) (check:Bool) (w:World) (hv:Sl w v (ws.map encI)) (hl:ws.length<=1000000):
 Calls prog 84 #[.int .i64 7,v,.bool check] w (DecR (Tw.decK 2 ws check) w):=by
 have HT:=A0 (Tw.decK.eq_1 2 ws check)
 generalize Tw.decK 2 ws check=res at*
 obtain⟨a,c,rfl⟩:=hv.form
 rw[J0]at hv⊢
 have HV:=A0 hv
 have HP:=A0 (fun w=>ZnR ws.length check w hl)
 have HW:=A0 (fun w' hx=>ME _ ws w' (HV.out.ext hx) hl)
 clear hv
 cases hcnt:Tw.countsK 2 ws.length check
 ·exact xO
 have HRR:=A0 (Zni ws check hl hcnt)
 have HCN:=A0 hcnt
 rw[hcnt]at HP HT
 rw[C0 Bool.noConfusion]at HT
 clear hcnt
 by_cases hw:(Tw.wide ws).2≠0
 ·exact xP
 rw[C0 hw]at HT
 have hw0:(Tw.wide ws).2=0:=H6 hw
 have HR:=A0 (HRR.out hw0)
 have hbl:=P9 ws hw0
 rw[show Tw.wide ws=((Tw.wide ws).1,0)from XC rfl hw0]at HW
 clear HRR hw hw0
 generalize(Tw.wide ws).1=bits at*
 by_cases hr:(Tw.readK 2 (Tw.elems bits)).2≠0
 ·rw[D0 hr]at HT;have dr:((Tw.readK 2 (Tw.elems bits)).2 !=0)=true:=C3.2 hr;generalize Tw.readK 2 (Tw.elems bits)=R at*;exact xQ
 rw[C0 hr]at HT
 have hr0:(Tw.readK 2 (Tw.elems bits)).2=0:=H6 hr
 have hcn:=HCN.out
 have hb1:check.toNat<=1:=PZ
 simp[Tw.countsK,Tw.countsItf]at hcn
 obtain⟨hMl,hPT⟩:=ZmU bits ((ws.length-7)/10) check B0 B0 B0 hr0
 obtain⟨C,hC,hCs⟩:=R8 (Tw.readK 2 (Tw.elems bits)).1
 obtain⟨MB,rfl⟩:∃MB:ByteArray,MB=C:=⟨_,rfl⟩
 have hMB:=hC
 have hMb:1<=MB.size∧MB.size<=2000:=by rw[hCs,hMl];omega
 have hRK:Tw.readK 2 (Tw.elems bits)=(MB.data.toList,0):=XC (by rw[hC]) hr0
 rw[hRK]at HT HR
 rw[<-hC]at hPT
 replace HR:=A0 (fun w' v' B how=>xN (HR.out w' v' B how))
 obtain⟨hMb1,hMb2⟩:=hMb
 cases check
 ·rw[C0 xR,hPT.plain rfl]at HT;clear hPT hMl hC hCs hMB hcn hb1 hr hr0 hRK hbl;exact xS
 ·obtain⟨hz2,_⟩:=hPT.size rfl;rw[Zd]at hz2;have hsn:((MB.size:Int)-1).toNat=MB.size-1:=B0;obtain⟨TB,hTB,hTBs⟩:=R8 (Tw.textK 2 MB.data.toList true);have hT:MB.extract 0 (MB.size-1)=TB:=Zl (by rw[Zy,hTB];show _=MB.data.toList.take (MB.data.toList.length-1);rw[Zd]);have hTs:TB.size<=1000000:=(by rw[<-hT,S9];omega);have hsm:=hPT.same rfl;rw[<-hTB]at HT hsm;obtain⟨DB,hDB,hDBs⟩:=R8 (Tw.chkK 2 TB.data.toList);have HK:=A0 (fun w=>ckB hDB (Zju TB w hTs));rw[<-hDB]at hsm;clear hPT hMl hC hCs hMB hcn hb1 hr hr0 hRK hbl hTB hTBs hDB hDBs;exact Q9
end
section
open Go.RowKit Go.ChangeShapes Go.WideShapes Go.Deep Go.Joins
theorem Znw:prog.globalNamed "strings.asciiSpace"=some 0:=B1
theorem Zim:(Rows.laid_strings_asciiSpace:DataW Unit)=Lib.tabData .u8 Lib.asciiSpaceTab:=B1
theorem spaces_of {W:World} (h:laidMetH prog [("unicode.White_Space",Rows.laid_unicode_White_Space),("strings.asciiSpace",Rows.laid_strings_asciiSpace)] W):ZY W:=by
 have h1:=laidMetH.filter (fun p=>p.1== "strings.asciiSpace") h;have e:([("unicode.White_Space",Rows.laid_unicode_White_Space),("strings.asciiSpace",Rows.laid_strings_asciiSpace)]:List (String×DataW Unit)).filter (fun p=>p.1== "strings.asciiSpace")=[("strings.asciiSpace",Lib.tabData .u8 Lib.asciiSpaceTab)]:=by rw[<-Zim];rfl
 rw[e]at h1;exact Lib.tabIs_of_head (rest:=[]) Znw (t:=195) (e:=5) (n:=256) G0 underlying195 underlying5 G0 G0 h1
end
end Go.Proofs.YtbngggoccndefaaGreatDoor
