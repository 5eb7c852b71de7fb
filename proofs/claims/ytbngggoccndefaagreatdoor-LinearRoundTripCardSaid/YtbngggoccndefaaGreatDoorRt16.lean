/-
  Laid.
-/
import Derived.Test.YtbngggoccndefaaGreatDoorRt08
import Derived.Test.YtbngggoccndefaaGreatDoorRt15
set_option maxHeartbeats 8000000
set_option maxRecDepth 100000
set_option linter.all false
namespace Go.Proofs.YtbngggoccndefaaGreatDoor
open Go.Proofs.Tryz
section
open Go.RowKit
theorem PC (c:Int) (w:World):
 Calls prog 98 #[.int .u8 c] w fun e w'=>e=.returned (.bool (Cd.isDig c))∧w=w':=by
 go_enter func98,ntmps98
 go_wp2
 ·exact EX
 ·exact EY
def Gs.symbols:List UInt8:=[33,34,37,38,39,42,43,44,45,46,47,58,59,60,61,62,63,95]
def Gs.charB (c:UInt8):Bool:=(decide (65<=c.toNat)&&decide (c.toNat<=90)) || ((decide (97<=c.toNat)&&decide (c.toNat<=122)) || decide (0<=Lib.indexByte Gs.symbols c))
theorem qG (c:UInt8) (w:World):
 Calls prog 99 #[.int .u8 (c.toNat:Int)] w fun e w'=>e=.returned (.bool (Gs.charB c))∧w=w':=by
 have HI:Hid (∀w,Calls prog 56 #[.string ⟨#[33,34,37,38,39,42,43,44,45,46,47,58,59,60,61,62,63,95]⟩,.int .u8 (c.toNat:Int)] w fun e w'=>e=.returned (.int .i64 (Lib.indexByte Gs.symbols c))∧w=w'):=B0 (fun w=>by have:=SS ⟨#[33,34,37,38,39,42,43,44,45,46,47,58,59,60,61,62,63,95]⟩ (c.toNat:Int) w;rw[SU]at this;exact this)
 have HB:=B0 (Gs.charB.eq_1 c)
 generalize Lib.indexByte Gs.symbols c=x at*
 generalize Gs.charB c=res at*
 by_cases h1:65<=c.toNat∧c.toNat<=90
 ·obtain⟨n1,n2⟩:=h1;have HR:Hid (res=true):=B0 (by rw[HB.out,F1 n1,F1 n2];rfl);clear HB;go_enter func99,ntmps99;exact KE
 have e1:(decide (65<=c.toNat)&&decide (c.toNat<=90))=false:=qH
 by_cases h2:97<=c.toNat∧c.toNat<=122
 ·obtain⟨n1,n2⟩:=h2;have n3:90<c.toNat:=C0;have HR:Hid (res=true):=B0 (by rw[HB.out,e1,F1 n1,F1 n2];rfl);clear HB e1 h1;go_enter func99,ntmps99;exact KE
 have e2:(decide (97<=c.toNat)&&decide (c.toNat<=122))=false:=qH
 have HR:Hid (res=decide (0<=x)):=B0 (by rw[HB.out,e1,e2];rfl)
 clear HB e1 e2
 by_cases g1:c.toNat<65
 ·clear h1 h2;go_enter func99,ntmps99;go_wp2_with fail;refine(HI.out _).mono ?_;rintro e w1 ⟨rfl,rfl⟩;exact KE
 ·have n1:65<=c.toNat:=C0;have n2:90<c.toNat:=C0;by_cases g2:c.toNat<97;(·clear h1 h2 g1;go_enter func99,ntmps99;go_wp2_with fail;refine(HI.out _).mono ?_;rintro e w1 ⟨rfl,rfl⟩;go_wp2;go_ret;exact⟨Zm (by rw[HR.out,D1 (show¬((c.toNat:Int)<=90) by omega)];rfl),rfl⟩);·have n3:97<=c.toNat:=C0;have n4:122<c.toNat:=C0;clear h1 h2 g1 g2;go_enter func99,ntmps99;go_wp2_with fail;refine(HI.out _).mono ?_;rintro e w1 ⟨rfl,rfl⟩;go_wp2;go_ret;exact⟨Zm (by rw[HR.out,D1 (show¬((c.toNat:Int)<=90) by omega),D1 (show¬((c.toNat:Int)<=122) by omega)];rfl),rfl⟩
def Gs.num2 (l:List UInt8) (k:Nat):Int:=10*Cd.dg (l.getD k 0)+Cd.dg (l.getD (k+1) 0)
def Gs.days:List Int:=[31,28,31,30,31,30,31,31,30,31,30,31]
def Gs.dateOf (y m d:Int):Bool:=if m<1∨12<m then false else decide (d<=Gs.days.getD (m-1).toNat 0+(if m=2∧y%4=0 then 1 else 0))
def Gs.dateB (l:List UInt8):Bool:=Gs.dateOf (Gs.num2 l 0) (Gs.num2 l 2) (Gs.num2 l 4)
theorem gdat (s:ByteArray) (i:Nat) (h:i<s.size):s.data.toList.getD i 0=s[i]:=Q6
theorem KF {l:List UInt8} (h:Cd.AllDig l) {k:Nat} (hk:k+1<l.length):0<=Gs.num2 l k∧Gs.num2 l k<=99:=by
 have h1:∀i,i<l.length->0<=Cd.dg (l.getD i 0)∧Cd.dg (l.getD i 0)<=9:=fun i hi=>by rw[A1,P0 hi];exact Cd.dg_bd (h _ (K4 _))
 have a:=h1 k C0;have b:=h1 (k+1) hk;unfold Gs.num2;omega
theorem KG (s:ByteArray) (k:Nat) (h1:k+1<s.size) (hd:Cd.AllDig s.data.toList) (b:Nat) (w:World) (hc:w.cell? ⟨b,0,none⟩=some (.string s)) (hs:s.size<=1000):
 Calls prog 162 #[.int .i64 (k:Int),.pointer (some ⟨b,0,none⟩)] w fun e w'=>e=.returned (.int .i64 (Gs.num2 s.data.toList k))∧Ext w w':=by
 have HN:=B0 (Gs.num2.eq_1 s.data.toList k)
 have hk0:k<s.size:=by omega
 rw[gdat s k hk0,gdat s (k+1) h1]at HN
 generalize Gs.num2 s.data.toList k=N at*
 obtain⟨a1,a2⟩:=hd _ (Zq s k hk0)
 obtain⟨a3,a4⟩:=hd _ (Zq s (k+1) h1)
 obtain⟨j,hj⟩:∃j,j=k+1:=⟨_,rfl⟩
 have hji:(k:Int)+1=(j:Int):=by omega
 have hjs:j<s.size:=by omega
 have HJ:Hid (s[k+1]=s[j]):=B0 (by subst hj;rfl)
 rw[HJ.out]at a3 a4 HN
 clear HJ h1 hd
 have HE:=B0 hj
 clear hj
 go_enter func162,ntmps162
 go_wp2
 go_quiet (fail)
 go_wp2
 go_ret
 exact⟨Z3 (by rw[HN.out];simp[Cd.dg]),Xf⟩
theorem dM (s:ByteArray) (hs:s.size=6) (hd:Cd.AllDig s.data.toList) (w:World):
 Calls prog 100 #[.string s] w fun e w'=>e=.returned (.bool (Gs.dateB s.data.toList))∧Ext w w':=by
 have hl:s.data.toList.length=6:=by rw[Za];exact hs
 obtain⟨y0,y9⟩:=KF hd (k:=0) C0
 obtain⟨m0,m9⟩:=KF hd (k:=2) C0
 obtain⟨d0,d9⟩:=KF hd (k:=4) C0
 have H0:=B0 (fun w' h=>KG s 0 C0 hd w.heap.size w' h C0)
 have H2:=B0 (fun w' h=>KG s 2 C0 hd w.heap.size w' h C0)
 have H4:=B0 (fun w' h=>KG s 4 C0 hd w.heap.size w' h C0)
 have HB:=B0 (Gs.dateB.eq_1 s.data.toList)
 generalize Gs.dateB s.data.toList=res at*
 generalize Gs.num2 s.data.toList 0=y at*
 generalize Gs.num2 s.data.toList 2=m at*
 generalize Gs.num2 s.data.toList 4=d at*
 clear hl hs hd
 go_enter func100,ntmps100
 go_wp2_with fail
 have hc0:(w.alloc (.cells #[.string s] 9)).cell? ⟨w.heap.size,0,none⟩=some (.string s):=QH
 refine(H0.out _ hc0).mono ?_
 rintro e w1 ⟨rfl,hx1⟩
 have hc1:=(hx1.cell (p:=⟨w.heap.size,0,none⟩) L0).trans hc0
 go_wp2_with fail
 refine(H2.out _ hc1).mono ?_
 rintro e w2 ⟨rfl,hx2⟩
 have hc2:=(hx2.cell (p:=⟨w.heap.size,0,none⟩) (by have:=hx1.size;simp at this⊢;omega)).trans hc1
 go_wp2_with fail
 refine(H4.out _ hc2).mono ?_
 rintro e w3 ⟨rfl,hx3⟩
 have hx:Ext w w3:=((((Ext.refl w).alloc _).trans hx1).trans hx2).trans hx3
 clear hx1 hx2 hx3 hc0 hc1 hc2 H0 H2 H4
 by_cases hm1:m<1
 ·have HR:Hid (res=false):=B0 (by rw[HB.out,Gs.dateOf,G0 (.inl hm1)]);clear HB;go_wp2;go_ret;exact⟨Zm HR.out.symm,hx⟩
 by_cases hm2:12<m
 ·have HR:Hid (res=false):=B0 (by rw[HB.out,Gs.dateOf,G0 (.inr hm2)]);have hm3:1<=m:=C0;clear HB hm1;go_wp2;go_ret;exact⟨Zm HR.out.symm,hx⟩
 have HR:Hid (res=decide (d<=Gs.days.getD (m-1).toNat 0+(if m=2∧y%4=0 then 1 else 0))):=B0 (by rw[HB.out,Gs.dateOf,D0 C0])
 have hmm:m=1∨m=2∨m=3∨m=4∨m=5∨m=6∨m=7∨m=8∨m=9∨m=10∨m=11∨m=12:=by omega
 clear HB hm1 hm2 m0 m9
 rcases hmm with rfl|hmm
 ·replace HR:Hid (res=decide (d<=31)):=B0 HR.out;exact KH
 rcases hmm with rfl|hmm
 ·have HR1:Hid (res=decide (d<=28+(if(2:Int)=2∧y%4=0 then 1 else 0))):=B0 HR.out;clear HR;by_cases hy:y%4=0;(·have HR:Hid (res=decide (d<=29)):=B0 (by rw[HR1.out,G0 ⟨rfl,hy⟩];rfl);clear HR1;exact KH);·have HR:Hid (res=decide (d<=28)):=B0 (by rw[HR1.out,D0 (fun h=>hy h.2)];rfl);clear HR1;exact KH
 rcases hmm with rfl|rfl|rfl|rfl|rfl|rfl|rfl|rfl|rfl|rfl
 all_goals replace HR:Hid (res=decide (d<=_)):=B0 HR.out;go_wp2;go_ret;exact⟨Zm HR.out.symm,Xf⟩
end
section
open Go.RowKit Go.WideMaps Go.Maps
def Gs.RuleOk (r:Gs.Rule):Prop:=0<=r.1∧r.1<=3∧1<=r.2.1∧r.2.1<=r.2.2.1∧r.2.2.1<=90∧(r.1=2->r.2.1=6∧r.2.2.1=6)∧(r.1=1->r.2.1=r.2.2.1)∧(r.1=3->r.2.1=1∧20<=r.2.2.1)
instance (r:Gs.Rule):Decidable (Gs.RuleOk r):=by unfold Gs.RuleOk;infer_instance
theorem qI:∀p∈Gs.dir,Gs.RuleOk p.2:=Y1
theorem PD {l:List (List UInt8×Gs.Rule)} {k:List UInt8} {r:Gs.Rule} (h:Gs.get l k=some r):(k,r)∈l:=by
 unfold Gs.get at h;rw[XN]at h;obtain⟨p,hp,rfl⟩:=h;have h1:=List.mem_of_find?_eq_some hp;have h2:=KI hp;have h3:p.1=k:=by simpa using h2
 subst h3;exact SF.1 h1
theorem UP {l:List UInt8} {r:Gs.Rule} (h:Gs.find l=some r):Gs.RuleOk r:=by
 have key2:∀r',Gs.find2 l=some r'->Gs.RuleOk r':=by intro r' h';unfold Gs.find2 at h';split at h';(·rename_i r1 h1;split at h';(·simp at h');·simp only[A2]at h';subst h';exact qI _ (PD h1));·simp at h'
 unfold Gs.find at h;split at h;·rename_i r1 h1;split at h;(·simp only[A2]at h;subst h;exact qI _ (PD h1));·exact key2 _ h
 ·split at h;(·simp at h);·exact key2 _ h
def Gs.okc (k:Int) (c:UInt8):Bool:=Cd.isDig c.toNat || (k==3&&Gs.charB c)
def Gs.verR (r:Gs.Rule) (d:List UInt8):Int:=
 if(d.length:Int)<r.2.1∨r.2.2.1<(d.length:Int)then 7
 else if d.all (Gs.okc r.1)=false then 6
 else if r.1=2∧Gs.dateB d=false then 9
 else if r.1=1∧Cd.verI 1 d≠0 then 8
 else 0
def Gs.ver (ai d:List UInt8):Int:=match Gs.find ai with
 |none=>29
 |some r=>Gs.verR r d
theorem dN {k:Int} {l:List UInt8} (hk:k≠3) (h:l.all (Gs.okc k)=true):Cd.AllDig l:=by intro c hc;have:=S1.1 h c hc;unfold Gs.okc at this;rw[show(k==3)=false by simpa using hk]at this;simp[Cd.isDig]at this;omega
theorem KJ (ai d:ByteArray) (b:Nat) (w:World) (hd:Dir w b) (ha:ai.size<=maxLen) (hs:d.size<=maxLen):
 Calls prog 57 #[.map (some b),.agg #[.string ai,.string d]] w fun e w'=>e=.returned (.int .i64 (Gs.ver ai.data.toList d.data.toList))∧Ext w w':=by
 have HF:=B0 (fun o:Obj=>KC ai b (w.alloc o) (hd.ext ((Ext.refl w).alloc _)) ha)
 have HV:=B0 (Gs.ver.eq_1 ai.data.toList d.data.toList)
 generalize Gs.ver ai.data.toList d.data.toList=res at*
 have hmx:d.size<=9223372036854775807:=hs
 cases hg:Gs.find ai.data.toList with
 |none=>rw[hg]at HV HF;dsimp only at HV;clear hg hd;go_enter func57,ntmps57;go_wp2_with fail;refine(HF.out _).mono ?_;rintro e w1 ⟨rfl,hx1⟩;dsimp only[W5,Z4,Option.isSome];go_wp2;go_ret;exact⟨Z3 HV.out.symm,(((Ext.refl w).alloc _).trans hx1).alloc _⟩
 |some r=>rw[hg]at HV HF;dsimp only at HV;obtain⟨k0,k3,l1,lh,h9,hk2,hk1,hk3⟩:=UP hg;clear hg hd;obtain⟨k,lo,hi,sf⟩:=r;dsimp only at k0 k3 l1 lh h9 hk2 hk1 hk3;have HV2:=B0 (HV.out.trans (Gs.verR.eq_1 (k,lo,hi,sf) d.data.toList));dsimp only at HV2;rw[Za]at HV2;clear HV;have HK:=B0 (And.intro hk2 hk1);clear hk2 hk1 hk3;go_enter func57,ntmps57;go_wp2_with fail;refine(HF.out _).mono ?_;rintro e w1 ⟨rfl,hx1⟩;dsimp only[W5,Z4,Option.isSome];clear HF;have hbl:w.heap.size<w1.heap.size:=XU;have hx:Ext w (w1.alloc (.cells #[.int .i64 k,.int .i64 lo,.int .i64 hi,.int .u8 (sf.toNat:Int)] 138)):=(((Ext.refl w).alloc _).trans hx1).alloc _;have cD:(w1.alloc (.cells #[.int .i64 k,.int .i64 lo,.int .i64 hi,.int .u8 (sf.toNat:Int)] 138)).cell? ⟨w.heap.size,1,none⟩=some (.string d):=(by rw[((Ext.refl w1).alloc _).cell (p:=⟨w.heap.size,1,none⟩) hbl,hx1.cell (p:=⟨w.heap.size,1,none⟩) L0];exact QH);have cK:(w1.alloc (.cells #[.int .i64 k,.int .i64 lo,.int .i64 hi,.int .u8 (sf.toNat:Int)] 138)).cell? ⟨w1.heap.size,0,none⟩=some (.int .i64 k):=QH;have HX:=B0 hx;clear hx1 hx;by_cases c1:(d.size:Int)<lo;(·have HR:Hid (res=7):=B0 (by rw[HV2.out,G0 (.inl c1)]);clear HV2;exact UQ);have n1:lo<=(d.size:Int):=C0;by_cases c2:hi<(d.size:Int);(·have HR:Hid (res=7):=B0 (by rw[HV2.out,G0 (.inr c2)]);clear HV2 c1;exact UQ);have n2:(d.size:Int)<=hi:=C0;have HV3:=B0 (HV2.out.trans (D0 C0));clear HV2 c1 c2;go_wp2;go_loop [35] (fun i=>∃j:Nat,j<=d.size∧i=.int .i64 j∧Hid ((d.data.toList.take j).all (Gs.okc k)=true)) (fun i=>d.size-(intOf i).toNat);(case atStart=>exact WC);case round=>obtain⟨j,hj,rfl,hal⟩:=hrel;by_cases hlt:j<d.size;(·have HA:=B0 (MD d (Gs.okc k) j hlt);have HN:=B0 (ME d (Gs.okc k) j hlt);cases hp:Cd.isDig (d[j].toNat:Int);(·by_cases hk3:k=3;(·subst hk3;cases hq:Gs.charB d[j];(·have HR:Hid (res=6):=B0 (by rw[HV3.out,G0 (HN.out (by rw[Gs.okc,hp,hq];rfl))]);have HP:=B0 hp;have HQ:=B0 hq;clear hp hq HV3 HA HN HK;go_wp2_with fail;refine(PC _ _).mono ?_;rintro e w' ⟨rfl,rfl⟩;rw[HP.out];go_wp2_with fail;refine(qG _ _).mono ?_;rintro e w' ⟨rfl,rfl⟩;rw[HQ.out];exact UQ);·have HO:Hid ((d.data.toList.take (j+1)).all (Gs.okc 3)=true):=B0 (by rw[HA.out,hal.out,Gs.okc,hp,hq];rfl);have HP:=B0 hp;have HQ:=B0 hq;clear hp hq HA HN HK;go_wp2_with fail;refine(PC _ _).mono ?_;rintro e w' ⟨rfl,rfl⟩;rw[HP.out];go_wp2_with fail;refine(qG _ _).mono ?_;rintro e w' ⟨rfl,rfl⟩;rw[HQ.out];exact qJ);·have hkf:(k==3)=false:=(by simpa using hk3);have HR:Hid (res=6):=B0 (by rw[HV3.out,G0 (HN.out (by rw[Gs.okc,hp,hkf];rfl))]);have HP:=B0 hp;clear hp HV3 HA HN HK hkf;go_wp2_with fail;refine(PC _ _).mono ?_;rintro e w' ⟨rfl,rfl⟩;rw[HP.out];exact UQ);·have HO:Hid ((d.data.toList.take (j+1)).all (Gs.okc k)=true):=B0 (by rw[HA.out,hal.out,Gs.okc,hp];rfl);have HP:=B0 hp;clear hp HV3 HA HN HK;go_wp2_with fail;refine(PC _ _).mono ?_;rintro e w' ⟨rfl,rfl⟩;rw[HP.out];exact qJ);·obtain rfl:j=d.size:=C0;rw[ZI]at hal;have HV4:=B0 (HV3.out.trans (D0 (by rw[hal.out];exact Bool.noConfusion)));clear hj hlt HV3;by_cases k2:k=2;(·subst k2;have h6:d.size=6:=(by have:=HK.out.1 rfl;omega);have HDT:=B0 (fun w=>dM d h6 (dN J0 hal.out) w);cases hdt:Gs.dateB d.data.toList;(·have HR:Hid (res=9):=B0 (by rw[HV4.out,G0 ⟨rfl,hdt⟩]);have HP:=B0 hdt;clear hdt HV4 HK hal h6;go_wp2_with fail;refine(HDT.out _).mono ?_;rintro e w2 ⟨rfl,hx2⟩;rw[HP.out];exact KK);·have HR:Hid (res=0):=B0 (by rw[HV4.out,D0 (by rw[hdt];simp),D0 (fun h=>absurd h.1 J0)]);have HP:=B0 hdt;clear hdt HV4 HK hal h6;go_wp2_with fail;refine(HDT.out _).mono ?_;rintro e w2 ⟨rfl,hx2⟩;have cK2:=(hx2.cell (p:=⟨w1.heap.size,0,none⟩) L0).trans cK;rw[HP.out];exact KK);·have HV5:=B0 (HV4.out.trans (D0 (fun h=>k2 h.1)));clear HV4;by_cases k1:k=1;(·subst k1;have HDT:=B0 (fun w=>MG 1 d w hmx);obtain⟨x,hx⟩:∃x,Cd.verI 1 d.data.toList=x:=⟨_,rfl⟩;rw[hx]at HDT HV5;clear hx HK hal k2;by_cases h0:x=0;(·subst h0;have HR:Hid (res=0):=B0 (by rw[HV5.out,D0 L0]);exact qK);·have HR:Hid (res=8):=B0 (by rw[HV5.out,G0 ⟨rfl,h0⟩]);have h0':(x==0)=false:=W8;exact qK);·have HR:Hid (res=0):=B0 (by rw[HV5.out,D0 (fun h=>k1 h.1)]);have k2':(k==2)=false:=(by simpa using k2);have k1':(k==1)=false:=(by simpa using k1);clear HV5 HK hal;exact UQ
end
section
open Go.RowKit
abbrev Gs.El:=List UInt8×List UInt8
def Gs.isFix (r:Gs.Rule):Bool:=r.2.1==r.2.2.1
def Gs.verL:List Gs.El->Int
 | []=>0
 |x::xs=>if Gs.ver x.1 x.2=0 then Gs.verL xs else Gs.ver x.1 x.2
def Gs.verAll (xs:List Gs.El):Int:=if xs=[]then 5 else Gs.verL xs
def Gs.upto (c:UInt8):List UInt8->List UInt8
 | []=>[]
 |b::l=>if b=c then []else b::Gs.upto c l
def Gs.parseF:Nat->List UInt8->List Gs.El->List Gs.El×Int
 |0,_,acc=>(acc,0)
 |n+1,l,acc=>match l with
  | []=>(acc,0)
  |b::r=>if b≠40 then([],9)
   else if(Gs.upto 41 r).length=r.length then([],9)
   else if Gs.ver (Gs.upto 41 r) (Gs.upto 40 (r.drop ((Gs.upto 41 r).length+1)))≠0 then([],Gs.ver (Gs.upto 41 r) (Gs.upto 40 (r.drop ((Gs.upto 41 r).length+1))))
   else Gs.parseF n ((r.drop ((Gs.upto 41 r).length+1)).drop (Gs.upto 40 (r.drop ((Gs.upto 41 r).length+1))).length) (acc++[(Gs.upto 41 r,Gs.upto 40 (r.drop ((Gs.upto 41 r).length+1)))])
def Gs.parse (l:List UInt8):List Gs.El×Int:=if 4096<l.length then([],4)else if l=[]then([],5)else Gs.parseF l.length l []
def Gs.fmtE (x:Gs.El):List UInt8:=(40::x.1)++(41::x.2)
def Gs.format (xs:List Gs.El):List UInt8×Int:=
 if Gs.verAll xs≠0 then([],Gs.verAll xs)else if 4096<(xs.flatMap Gs.fmtE).length then([],4)else(xs.flatMap Gs.fmtE,0)
def Gs.fixed (ai:List UInt8):Bool:=match Gs.find ai with
 |none=>true
 |some r=>Gs.isFix r
def Gs.ints (l:List UInt8):List Int:=l.map fun c=>(c.toNat:Int)
def Gs.chG:List Gs.El->List Int
 | []=>[]
 |x::xs=>Gs.ints (x.1++x.2)++((if Gs.fixed x.1 || xs.isEmpty then []else [256])++Gs.chG xs)
def Gs.chars (xs:List Gs.El):List Int×Int:=
 if Gs.verAll xs≠0 then([],Gs.verAll xs)else if 4096<(256::Gs.chG xs).length then([],4)else(256::Gs.chG xs,0)
def Gs.run:List Int->List Int
 | []=>[]
 |c::l=>if c=256 then []else c::Gs.run l
def Gs.byte (c:Int):UInt8:=UInt8.ofNat (c%256).toNat
def Gs.text (l:List Int):List UInt8:=l.map Gs.byte
def Gs.preN (l:List UInt8) (n:Nat):Option (List UInt8×Gs.Rule):=
 if n<=l.length then(Gs.find (l.take n)).map fun r=>(l.take n,r)else none
def Gs.pre (l:List UInt8):Option (List UInt8×Gs.Rule):=(Gs.preN l 2).or ((Gs.preN l 3).or (Gs.preN l 4))
def Gs.next (c:List Int):Gs.El×Nat×Int:=
 if(Gs.run c).length=0 then(([],[]),0,9)
 else match Gs.pre (Gs.text (Gs.run c))with
  |none=>(([],[]),0,29)
  |some (ai,r)=>
   if Gs.isFix r then
    if(Gs.run c).length<ai.length+r.2.2.1.toNat then(([],[]),0,10)
    else if Gs.ver ai (((Gs.text (Gs.run c)).drop ai.length).take r.2.2.1.toNat)≠0 then(([],[]),0,Gs.ver ai (((Gs.text (Gs.run c)).drop ai.length).take r.2.2.1.toNat))
    else((ai,((Gs.text (Gs.run c)).drop ai.length).take r.2.2.1.toNat),ai.length+r.2.2.1.toNat,0)
   else if Gs.ver ai ((Gs.text (Gs.run c)).drop ai.length)≠0 then(([],[]),0,Gs.ver ai ((Gs.text (Gs.run c)).drop ai.length))
   else if(Gs.run c).length+1=c.length then(([],[]),0,9)
   else((ai,(Gs.text (Gs.run c)).drop ai.length),min ((Gs.run c).length+1) c.length,0)
def Gs.fromF:Nat->List Int->List Gs.El->List Gs.El×Int
 |0,_,acc=>(acc,0)
 |n+1,c,acc=>if c=[]then(acc,0)else if(Gs.next c).2.2≠0 then([],(Gs.next c).2.2)else Gs.fromF n (c.drop (Gs.next c).2.1) (acc++[(Gs.next c).1])
def Gs.okCh (c:Int):Bool:=(c==256) || (decide (0<=c)&&decide (c<=127))
def Gs.frChars (c:List Int):List Gs.El×Int:=
 if 4096<c.length then([],4)
 else if c.all Gs.okCh=false then([],6)
 else if c.headD 0≠256 then([],9)
 else if c.length=1 then([],5)
 else Gs.fromF c.length (c.drop 1) []
end
section
namespace Ea
theorem dig_iff {c:UInt8}:Cd.isDig c.toNat=true↔48<=c.toNat∧c.toNat<=57:=by unfold Cd.isDig;exact E1
theorem digs_iff {l:List UInt8}:digs l=true↔∀c∈l,48<=c.toNat∧c.toNat<=57:=by unfold digs;rw[S1];exact⟨fun h c hc=>dig_iff.1 (h c hc),fun h c hc=>dig_iff.2 (h c hc)⟩
theorem digs_app {a b:List UInt8}:digs (a++b)=true↔digs a=true∧digs b=true:=by unfold digs;simp
theorem digs_take {l:List UInt8} (h:digs l=true) (n:Nat):digs (l.take n)=true:=digs_iff.2 fun c hc=>digs_iff.1 h c (L5 hc)
theorem digs_drop {l:List UInt8} (h:digs l=true) (n:Nat):digs (l.drop n)=true:=digs_iff.2 fun c hc=>digs_iff.1 h c (X7 hc)
theorem idx_some {α:Type} [DecidableEq α]:∀ {l:List α} {y:α} {n:Nat},idx l y=some n->l[n]? =some y:=by
 intro l
 induction l with
 |nil=>intro y n h;cases h
 |cons x l ih=>
  intro y n h;unfold idx at h;split at h;(·rename_i e;subst e;cases h;rfl)
  ·cases hi:idx l y with
   |none=>rw[hi]at h;cases h
   |some m=>rw[hi]at h;cases h;simpa using ih hi
theorem modl_len:∀(t:Fin 3) (d:Fin 10),(modl t d).length=7:=by decide
theorem modl_len' {t d:Nat} (ht:t<3) (hd:d<10):(modl t d).length=7:=modl_len ⟨t,ht⟩ ⟨d,hd⟩
theorem look_modl:∀(t:Fin 2) (d:Fin 10),look true 0 (modl t d)=some (d.1,t.1):=by decide
theorem look_one:∀(t:Fin 3) (d:Fin 10),look false t (modl t d)=some (d.1,t.1):=by decide
theorem lookT_some {t d:Nat} {m:List Bool} (ht:t<3) (h:lookT t m=some d):d<10∧m=modl t d:=by
 have h1:=idx_some h;have h2:(tab.getD t []).length=10:=by have:∀t:Fin 3,(tab.getD t []).length=10:=J0;exact this ⟨t,ht⟩
 obtain⟨h3,h4⟩:=J1.1 h1;refine⟨by omega,?_⟩;unfold modl;rw[A1,h1];rfl
def may (both:Bool) (t u:Nat):Prop:=if both=true then u<2 else u=t
theorem look_some {both:Bool} {t d u:Nat} {m:List Bool} (ht:t<3) (h:look both t m=some (d,u)):d<10∧m=modl u d∧may both t u:=by
 unfold look at h
 cases both with
 |true=>
  rw[G0 rfl]at h
  cases h1:lookT 1 m with
  |some d1=>rw[h1]at h;cases h;obtain⟨h3,h4⟩:=lookT_some C0 h1;exact⟨h3,h4,by unfold may;rw[G0 rfl];omega⟩
  |none=>
   rw[h1]at h
   cases h2:lookT 0 m with
   |none=>rw[h2]at h;cases h
   |some d2=>rw[h2]at h;cases h;obtain⟨h3,h4⟩:=lookT_some C0 h2;exact⟨h3,h4,by unfold may;rw[G0 rfl];omega⟩
 |false=>
  rw[D0 L0]at h
  cases h2:lookT t m with
  |none=>rw[h2]at h;cases h
  |some d2=>rw[h2]at h;cases h;obtain⟨h3,h4⟩:=lookT_some ht h2;exact⟨h3,h4,by unfold may;rw[D0 L0]⟩
theorem look_of {both:Bool} {t d u:Nat} (ht:t<3) (hd:d<10) (hu:may both t u):look both t (modl u d)=some (d,u):=by
 unfold may at hu
 cases both with
 |true=>rw[G0 rfl]at hu;have h1:look true t (modl u d)=look true 0 (modl u d):=(by unfold look;simp);rw[h1];exact look_modl ⟨u,hu⟩ ⟨d,hd⟩
 |false=>rw[D0 L0]at hu;subst hu;exact look_one ⟨u,ht⟩ ⟨d,hd⟩
theorem may_lt {both:Bool} {t u:Nat} (ht:t<3) (h:may both t u):u<3:=by unfold may at h;cases both<;>simp at h<;>omega
theorem chr_sub {c:UInt8} (h:48<=c.toNat∧c.toNat<=57):UInt8.ofNat (48+(c.toNat-48))=c:=by rw[show 48+(c.toNat-48)=c.toNat by omega];simp
theorem chr_nat {d:Nat} (h:d<10):(UInt8.ofNat (48+d)).toNat=48+d:=E1
theorem drw_cons (sep:List Bool) (c:UInt8) (l:List UInt8) (t:Nat) (ts:List Nat):drw sep (c::l) (t::ts)=modl t (c.toNat-48)++(if l=[]then []else sep++drw sep l ts):=by
 cases l with
 |nil=>simp[drw]
 |cons d l=>simp[drw]
theorem drw_len (sep:List Bool):∀(l:List UInt8) (us:List Nat),digs l=true->us.length=l.length->(∀u∈us,u<3)->(drw sep l us).length=7*l.length+sep.length*(l.length-1):=by
 intro l
 induction l with
 |nil=>intro us _ _ _;simp[drw]
 |cons c l ih=>
  intro us h1 h2 h3
  cases us with
  |nil=>simp at h2
  |cons u us=>have hc:=digs_iff.1 h1 c (B1 ..);rw[drw_cons,O0,modl_len' (h3 u (B1 ..)) C0];by_cases h0:l=[];(·subst h0;simp);·have hp:=F6.2 h0;rw[D0 h0,O0,ih us (digs_iff.2 fun c hc=>digs_iff.1 h1 c (C1 _ hc)) F4 (fun u hu=>h3 u (C1 _ hu))];simp only[S0,WE];have:sep.length*l.length=sep.length*(l.length-1)+sep.length:=(by(conv=>lhs;rw[show l.length=(l.length-1)+1 by omega]);rw[Nat.mul_add,U8]);omega
theorem drop_app {α:Type} (a b:List α) (n:Nat) (h:n=a.length):(a++b).drop n=b:=by subst h;simp
theorem take_app {α:Type} (a b:List α) (n:Nat) (h:n=a.length):(a++b).take n=a:=by subst h;simp
theorem rcg_drw (both:Bool) (t:Nat) (ht:t<3) (sep:List Bool):∀(l:List UInt8) (us:List Nat) (rest:List Bool),digs l=true->us.length=l.length->(∀u∈us,may both t u)->
 rcg both t sep.length l.length (drw sep l us++rest)=some (l,us):=by
 intro l
 induction l with
 |nil=>intro us rest _ h2 _;rw[U2]at h2;rw[V2 h2];rfl
 |cons c l ih=>
  intro us rest h1 h2 h3
  cases us with
  |nil=>simp at h2
  |cons u us=>have hc:=digs_iff.1 h1 c (B1 ..);have hu:=h3 u (B1 ..);have hm:=modl_len' (may_lt ht hu) (show c.toNat-48<10 by omega);rw[drw_cons,S0,rcg,G1,take_app _ _ 7 hm.symm,look_of ht C0 hu];dsimp only;have hi:=fun rest=>ih us rest (digs_iff.2 fun c hc=>digs_iff.1 h1 c (C1 _ hc)) F4 (fun u hu=>h3 u (C1 _ hu));by_cases h0:l=[];(·subst h0;have:us=[]:=V2 F4;subst this;simp only[U2,rcg,chr_sub hc]);·rw[D0 h0,show(modl u (c.toNat-48)++(sep++drw sep l us++rest))=(modl u (c.toNat-48)++sep)++(drw sep l us++rest) by simp,drop_app _ _ (7+sep.length) (by rw[O0,hm]),hi];simp only[chr_sub hc]
theorem rcg_inv (both:Bool) (t:Nat) (ht:t<3):∀(n:Nat) (s:List Bool) (l:List UInt8) (us:List Nat),rcg both t 0 n s=some (l,us)->7*n<=s.length->
 s.take (7*n)=drw [] l us∧l.length=n∧us.length=n∧digs l=true∧∀u∈us,may both t u:=by
 intro n
 induction n with
 |zero=>intro s l us h _;cases h;exact⟨rfl,rfl,rfl,rfl,fun u hu=>by cases hu⟩
 |succ n ih=>
  intro s l us h hs
  rw[rcg]at h
  cases h1:look both t (s.take 7)with
  |none=>rw[h1]at h;cases h
  |some p=>
   obtain⟨d,u⟩:=p
   rw[h1]at h
   dsimp only at h
   cases h2:rcg both t 0 n (s.drop (7+0))with
   |none=>rw[h2]at h;cases h
   |some q=>obtain⟨ds,vs⟩:=q;rw[h2]at h;dsimp only at h;cases h;obtain⟨e1,e2,e3⟩:=look_some ht h1;obtain⟨f1,f2,f3,f4,f5⟩:=ih _ _ _ h2 E7;refine⟨?_,by simp[f2],by simp[f3],?_,?_⟩;(·rw[drw_cons,chr_nat e1,SN,<-e2,Nat.mul_add,U8,Nat.add_comm,List.take_add,<-f1];congr 1;by_cases h0:ds=[];(·rw[G0 h0];have:n=0:=(by rw[<-f2,h0];rfl);subst this;simp);·rw[D0 h0];simp);(·refine digs_iff.2 fun c hc=> ?_;rcases U1.1 hc with rfl|hc;(·rw[chr_nat e1];omega);·exact digs_iff.1 f4 c hc);·intro v hv;rcases U1.1 hv with rfl|hv;(·exact e3);·exact f5 v hv
def sofar (r:Option (List UInt8×List Nat)) (ds:List UInt8) (us:List Nat):Option (List UInt8×List Nat):=r.map (fun p=>(ds++p.1,us++p.2))
theorem sofar_nil (r:Option (List UInt8×List Nat)):sofar r [] []=r:=by unfold sofar;cases r<;>rfl
theorem sofar_end (ds:List UInt8) (us:List Nat):sofar (some ([],[])) ds us=some (ds,us):=by unfold sofar;simp
theorem rcg_none {both:Bool} {t gap n:Nat} {s:List Bool} (h:look both t (s.take 7)=none):rcg both t gap (n+1) s=none:=by rw[rcg,h]
theorem rcg_some {both:Bool} {t gap n:Nat} {s:List Bool} {d u:Nat} (h:look both t (s.take 7)=some (d,u)) (ds:List UInt8) (us:List Nat):sofar (rcg both t gap (n+1) s) ds us=sofar (rcg both t gap n (s.drop (7+gap))) (ds++[chr d]) (us++[u]):=by
 rw[rcg,h]
 dsimp only
 cases rcg both t gap n (s.drop (7+gap))with
 |none=>rfl
 |some p=>obtain⟨l,v⟩:=p;unfold sofar chr;simp
theorem ldg_lgt (n:Nat) (l:List Bool):ldg (lgt n++true::l)=n:=by
 unfold lgt
 induction n with
 |zero=>rfl
 |succ n ih=>rw[D4,P2,ldg];simp[ih]
theorem ldg_le (l:List Bool):ldg l<=l.length:=by
 induction l with
 |nil=>simp[ldg]
 |cons b l ih=>unfold ldg;split<;>simp;omega
theorem ldg_split:∀(l:List Bool),ldg l<l.length->∃r,l=lgt (ldg l)++true::r:=by
 intro l
 induction l with
 |nil=>intro h;simp[ldg]at h
 |cons b l ih=>
  intro h
  cases b with
  |true=>exact⟨l,by simp[ldg,lgt]⟩
  |false=>have e:ldg (false::l)=ldg l+1:=(by simp[ldg]);rw[e]at h⊢;obtain⟨r,hr⟩:=ih A6;refine⟨r,?_⟩;unfold lgt at*;rw[D4,P2,<-hr]
theorem rev_lgt (n:Nat):(lgt n).reverse=lgt n:=by unfold lgt;simp
theorem lgt_len (n:Nat):(lgt n).length=n:=by unfold lgt;simp
theorem trl_lgt (n:Nat) (l:List Bool):trl (l++[true]++lgt n)=n:=by unfold trl;rw[O4,rev_lgt,O4];exact ldg_lgt _ _
theorem dec_mid (L R:Nat) (m:List Bool) (h7:7<=L∧7<=R) (h1:m.head? =some true) (h2:m.getLast? =some true) (hlen:L+m.length+R<=65536):
 dec (lgt L++m++lgt R)=decF m 7 shapes:=by
 obtain⟨r,rfl⟩:∃r,m=true::r:=by cases m with
  |nil=>cases h1
  |cons b r=>simp at h1;exact⟨r,by rw[h1]⟩
 obtain⟨q,hq⟩:∃q,true::r=q++[true]:=by obtain⟨q,hq⟩:=List.getLast?_eq_some_iff.1 h2;exact⟨q,hq⟩
 have e1:ldg (lgt L++(true::r)++lgt R)=L:=by rw[G1,P2];exact ldg_lgt _ _
 have e2:trl (lgt L++(true::r)++lgt R)=R:=by rw[hq,<-G1 (lgt L) q [true]];exact trl_lgt _ _
 have e3:(lgt L++(true::r)++lgt R).length=L+(true::r).length+R:=by rw[O0,O0,lgt_len,lgt_len]
 unfold dec
 rw[e1,e2,e3,D0 C0,D0 I2,D0 C0]
 rw[G1,drop_app _ _ L (lgt_len _).symm,take_app _ _ _ C0]
end Ea
end
end Go.Proofs.YtbngggoccndefaaGreatDoor
