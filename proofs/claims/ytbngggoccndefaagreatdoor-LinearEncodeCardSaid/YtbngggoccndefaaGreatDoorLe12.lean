/-
  Laid.
-/
import Derived.Test.YtbngggoccndefaaGreatDoorLe11
set_option maxHeartbeats 8000000
set_option maxRecDepth 100000
set_option linter.all false
namespace Go.Proofs.Enc
open Go.Proofs.Tryz
section
open Go.RowKit
def MV(c:Int)(w:World):
 Calls prog 98 #[.int .u8 c] w λe w'=>e=.returned (.bool (Cd.isDig c))/\w=w':=by
 go_enter func98,ntmps98;go_wp2
 .exact NB
 .exact NC
def Gs.symbols:List UInt8:=[33,34,37,38,39,42,43,44,45,46,47,58,59,60,61,62,63,95]
def Gs.charB(c:UInt8):Bool:=(decide (65<=c.toNat)&&decide (c.toNat<=90)) || ((decide (97<=c.toNat)&&decide (c.toNat<=122)) || decide (0<=Lib.indexByte Gs.symbols c))
def aB(c:UInt8)(w:World):
 Calls prog 99 #[.int .u8 (c.toNat:Int)] w λe w'=>e=.returned (.bool (Gs.charB c))/\w=w':=by
 have HI:Hid (∀w,Calls prog 56 #[.string ⟨#[33,34,37,38,39,42,43,44,45,46,47,58,59,60,61,62,63,95]⟩,.int .u8 (c.toNat:Int)] w λe w'=>e=.returned (.int .i64 (Lib.indexByte Gs.symbols c))/\w=w'):=B0 (λw=>by have:=NI ⟨#[33,34,37,38,39,42,43,44,45,46,47,58,59,60,61,62,63,95]⟩ (c.toNat:Int) w;rw[RM]at this;exact this);have HB:=B0 (Gs.charB.eq_1 c);generalize Lib.indexByte Gs.symbols c=x at*;generalize Gs.charB c=res at*;by_cases h1:65<=c.toNat/\c.toNat<=90
 .obtain⟨n1,n2⟩:=h1;have HR:Hid (res=true):=B0 (by rw[HB.out,C1 n1,C1 n2];rfl);clear HB;go_enter func99,ntmps99;exact CI
 have e1:(decide (65<=c.toNat)&&decide (c.toNat<=90))=false:=MW;by_cases h2:97<=c.toNat/\c.toNat<=122
 .obtain⟨n1,n2⟩:=h2;have n3:90<c.toNat:=C0;have HR:Hid (res=true):=B0 (by rw[HB.out,e1,C1 n1,C1 n2];rfl);clear HB e1 h1;go_enter func99,ntmps99;exact CI
 have e2:(decide (97<=c.toNat)&&decide (c.toNat<=122))=false:=MW;have HR:Hid (res=decide (0<=x)):=B0 (by rw[HB.out,e1,e2];rfl);clear HB e1 e2;by_cases g1:c.toNat<65
 .clear h1 h2;go_enter func99,ntmps99;go_wp2_with fail;refine(HI.out _).mono ?_;rintro e w1 ⟨rfl,rfl⟩;exact CI
 .have n1:65<=c.toNat:=C0;have n2:90<c.toNat:=C0;by_cases g2:c.toNat<97;(·clear h1 h2 g1;go_enter func99,ntmps99;go_wp2_with fail;refine(HI.out _).mono ?_;rintro e w1 ⟨rfl,rfl⟩;go_wp2;go_ret;exact⟨Zn (by rw[HR.out,G1 (show¬((c.toNat:Int)<=90) by omega)];rfl),rfl⟩);·have n3:97<=c.toNat:=C0;have n4:122<c.toNat:=C0;clear h1 h2 g1 g2;go_enter func99,ntmps99;go_wp2_with fail;refine(HI.out _).mono ?_;rintro e w1 ⟨rfl,rfl⟩;go_wp2;go_ret;exact⟨Zn (by rw[HR.out,G1 (show¬((c.toNat:Int)<=90) by omega),G1 (show¬((c.toNat:Int)<=122) by omega)];rfl),rfl⟩
def Gs.num2(l:List UInt8)(k:Nat):Int:=10*Cd.dg (l.getD k 0)+Cd.dg (l.getD (k+1) 0)
def Gs.days:List Int:=[31,28,31,30,31,30,31,31,30,31,30,31]
def Gs.dateOf(y m d:Int):Bool:=if m<1\/12<m then false else decide (d<=Gs.days.getD (m-1).toNat 0+(if m=2/\y%4=0 then 1 else 0))
def Gs.dateB(l:List UInt8):Bool:=Gs.dateOf (Gs.num2 l 0) (Gs.num2 l 2) (Gs.num2 l 4)
def gdat(s:ByteArray)(i:Nat)(h:i<s.size):s.data.toList.getD i 0=s[i]:=UT
def TH{l:List UInt8}(h:Cd.IP l){k:Nat}(hk:k+1<l.length):0<=Gs.num2 l k/\Gs.num2 l k<=99:=by
 have h1:∀i,i<l.length->0<=Cd.dg (l.getD i 0)/\Cd.dg (l.getD i 0)<=9:=λi hi=>by rw[F1,P0 hi];exact Cd.dg_bd (h _ (YL _))
 have a:=h1 k C0;have b:=h1 (k+1) hk;unfold Gs.num2;omega
def CK(s:ByteArray)(k:Nat)(h1:k+1<s.size)(hd:Cd.IP s.data.toList)(b:Nat)(w:World)(hc:w.cell? ⟨b,0,none⟩=some (.string s))(hs:s.size<=1000):
 Calls prog 162 #[.int .i64 (k:Int),.pointer (some ⟨b,0,none⟩)] w λe w'=>e=.returned (.int .i64 (Gs.num2 s.data.toList k))/\Ext w w':=by
 have HN:=B0 (Gs.num2.eq_1 s.data.toList k);have Ew:k<s.size:=by omega
 rw[gdat s k Ew,gdat s (k+1) h1]at HN;generalize Gs.num2 s.data.toList k=N at*;obtain⟨a1,a2⟩:=hd _ (Zl s k Ew);obtain⟨a3,a4⟩:=hd _ (Zl s (k+1) h1);obtain⟨j,hj⟩:∃j,j=k+1:=⟨_,rfl⟩;have hji:(k:Int)+1=(j:Int):=by omega
 have hjs:j<s.size:=by omega
 have HJ:Hid (s[k+1]=s[j]):=B0 (by subst hj;rfl);rw[HJ.out]at a3 a4 HN;clear HJ h1 hd;have HE:=B0 hj;clear hj;go_enter func162,ntmps162;go_wp2;go_quiet (fail);go_wp2;go_ret;exact⟨Zo (by rw[HN.out];simp[Cd.dg]),Xf⟩
def Zld(s:ByteArray)(hs:s.size=6)(hd:Cd.IP s.data.toList)(w:World):
 Calls prog 100 #[.string s] w λe w'=>e=.returned (.bool (Gs.dateB s.data.toList))/\Ext w w':=by
 have hl:s.data.toList.length=6:=by rw[Za];exact hs
 obtain⟨y0,y9⟩:=TH hd (k:=0) C0;obtain⟨m0,m9⟩:=TH hd (k:=2) C0;obtain⟨d0,d9⟩:=TH hd (k:=4) C0;have H0:=B0 (λw' h=>CK s 0 C0 hd w.heap.size w' h C0);have H2:=B0 (λw' h=>CK s 2 C0 hd w.heap.size w' h C0);have H4:=B0 (λw' h=>CK s 4 C0 hd w.heap.size w' h C0);have HB:=B0 (Gs.dateB.eq_1 s.data.toList);generalize Gs.dateB s.data.toList=res at*;generalize Gs.num2 s.data.toList 0=y at*;generalize Gs.num2 s.data.toList 2=m at*;generalize Gs.num2 s.data.toList 4=d at*;clear hl hs hd;go_enter func100,ntmps100;go_wp2_with fail;have Bc:(w.alloc (.cells #[.string s] 9)).cell? ⟨w.heap.size,0,none⟩=some (.string s):=VB;refine(H0.out _ Bc).mono ?_;rintro e w1 ⟨rfl,b7⟩;have Am:=(b7.cell (p:=⟨w.heap.size,0,none⟩) L0).trans Bc;go_wp2_with fail;refine(H2.out _ Am).mono ?_;rintro e w2 ⟨rfl,j0⟩;have IS:=(j0.cell (p:=⟨w.heap.size,0,none⟩) (by have:=b7.size;simp at this⊢;omega)).trans Am;go_wp2_with fail;refine(H4.out _ IS).mono ?_;rintro e w3 ⟨rfl,j4⟩;have hx:Ext w w3:=((((Ext.refl w).alloc _).trans b7).trans j0).trans j4;clear b7 j0 j4 Bc Am IS H0 H2 H4;by_cases Be:m<1
 .have HR:Hid (res=false):=B0 (by rw[HB.out,Gs.dateOf,G0 (.inl Be)]);clear HB;go_wp2;go_ret;exact⟨Zn HR.out.symm,hx⟩
 by_cases Cl:12<m
 .have HR:Hid (res=false):=B0 (by rw[HB.out,Gs.dateOf,G0 (.inr Cl)]);have Ss:1<=m:=C0;clear HB Be;go_wp2;go_ret;exact⟨Zn HR.out.symm,hx⟩
 have HR:Hid (res=decide (d<=Gs.days.getD (m-1).toNat 0+(if m=2/\y%4=0 then 1 else 0))):=B0 (by rw[HB.out,Gs.dateOf,D0 C0]);have Bm:m=1\/m=2\/m=3\/m=4\/m=5\/m=6\/m=7\/m=8\/m=9\/m=10\/m=11\/m=12:=by omega
 clear HB Be Cl m0 m9;rcases Bm with rfl|Bm
 .replace HR:Hid (res=decide (d<=31)):=B0 HR.out;exact MX
 rcases Bm with rfl|Bm
 .have p6:Hid (res=decide (d<=28+(if(2:Int)=2/\y%4=0 then 1 else 0))):=B0 HR.out;clear HR;by_cases hy:y%4=0;(·have HR:Hid (res=decide (d<=29)):=B0 (by rw[p6.out,G0 ⟨rfl,hy⟩];rfl);clear p6;exact MX);·have HR:Hid (res=decide (d<=28)):=B0 (by rw[p6.out,D0 (λh=>hy h.2)];rfl);clear p6;exact MX
 rcases Bm with rfl|rfl|rfl|rfl|rfl|rfl|rfl|rfl|rfl|rfl;all_goals replace HR:Hid (res=decide (d<=_)):=B0 HR.out;go_wp2;go_ret;exact⟨Zn HR.out.symm,Xf⟩
end
section
open Go.RowKit Go.WideMaps Go.Maps
def Gs.Vg(r:Gs.y7):Prop:=0<=r.1/\r.1<=3/\1<=r.2.1/\r.2.1<=r.2.2.1/\r.2.2.1<=90/\(r.1=2->r.2.1=6/\r.2.2.1=6)/\(r.1=1->r.2.1=r.2.2.1)/\(r.1=3->r.2.1=1/\20<=r.2.2.1)
instance (r:Gs.y7):Decidable (Gs.Vg r):=by unfold Gs.Vg;infer_instance
def aC:∀p∈Gs.dir,Gs.Vg p.2:=L2
def PE{l:List (List UInt8×Gs.y7)}{k:List UInt8}{r:Gs.y7}(h:Gs.get l k=some r):(k,r)∈l:=by
 unfold Gs.get at h;rw[UQ]at h;obtain⟨p,hp,rfl⟩:=h;have h1:=CM hp;have h2:=MY hp;have h3:p.1=k:=B9;subst h3;exact CN.1 h1
def VC{l:List UInt8}{r:Gs.y7}(h:Gs.find l=some r):Gs.Vg r:=by
 have aBN:∀r',Gs.find2 l=some r'->Gs.Vg r':=by intro r' h';unfold Gs.find2 at h';split at h';(·rename_i r1 h1;split at h';(·simp at h');·simp only[P2]at h';subst h';exact aC _ (PE h1));·simp at h'
 unfold Gs.find at h;split at h;·rename_i r1 h1;split at h;(·simp only[P2]at h;subst h;exact aC _ (PE h1));·exact aBN _ h
 .split at h;(·simp at h);·exact aBN _ h
def Gs.okc(k:Int)(c:UInt8):Bool:=Cd.isDig c.toNat || (k==3&&Gs.charB c)
def Gs.verR(r:Gs.y7)(d:List UInt8):Int:=
 if(d.length:Int)<r.2.1\/r.2.2.1<(d.length:Int)then 7
 else if d.all (Gs.okc r.1)=false then 6
 else if r.1=2/\Gs.dateB d=false then 9
 else if r.1=1/\Cd.verI 1 d≠0 then 8
 else 0
def Gs.ver(ai d:List UInt8):Int:=match Gs.find ai with
 |none=>29
 |some r=>Gs.verR r d
def Znq{k:Int}{l:List UInt8}(hk:k≠3)(h:l.all (Gs.okc k)=true):Cd.IP l:=by intro c hc;have:=M1.1 h c hc;unfold Gs.okc at this;rw[show(k==3)=false by simpa using hk]at this;simp[Cd.isDig]at this;omega
def CO(ai d:ByteArray)(b:Nat)(w:World)(hd:Dir w b)(ha:ai.size<=maxLen)(hs:d.size<=maxLen):
 Calls prog 57 #[.map (some b),.agg #[.string ai,.string d]] w λe w'=>e=.returned (.int .i64 (Gs.ver ai.data.toList d.data.toList))/\Ext w w':=by
 have HF:=B0 (λo:Obj=>CG ai b (w.alloc o) (hd.ext ((Ext.refl w).alloc _)) ha);have HV:=B0 (Gs.ver.eq_1 ai.data.toList d.data.toList);generalize Gs.ver ai.data.toList d.data.toList=res at*;have Le:d.size<=9223372036854775807:=hs;cases hg:Gs.find ai.data.toList with
 |none=>rw[hg]at HV HF;dsimp only at HV;clear hg hd;go_enter func57,ntmps57;go_wp2_with fail;refine(HF.out _).mono ?_;rintro e w1 ⟨rfl,b7⟩;dsimp only[B7,ZI,Option.isSome];go_wp2;go_ret;exact⟨Zo HV.out.symm,(((Ext.refl w).alloc _).trans b7).alloc _⟩
 |some r=>rw[hg]at HV HF;dsimp only at HV;obtain⟨k0,k3,l1,lh,h9,Dy,Hr,Jb⟩:=VC hg;clear hg hd;obtain⟨k,lo,hi,sf⟩:=r;dsimp only at k0 k3 l1 lh h9 Dy Hr Jb;have Hh:=B0 (HV.out.trans (Gs.verR.eq_1 (k,lo,hi,sf) d.data.toList));dsimp only at Hh;rw[Za]at Hh;clear HV;have HK:=B0 (And.intro Dy Hr);clear Dy Hr Jb;go_enter func57,ntmps57;go_wp2_with fail;refine(HF.out _).mono ?_;rintro e w1 ⟨rfl,b7⟩;dsimp only[B7,ZI,Option.isSome];clear HF;have Ce:w.heap.size<w1.heap.size:=O7;have hx:Ext w (w1.alloc (.cells #[.int .i64 k,.int .i64 lo,.int .i64 hi,.int .u8 (sf.toNat:Int)] 138)):=(((Ext.refl w).alloc _).trans b7).alloc _;have cD:(w1.alloc (.cells #[.int .i64 k,.int .i64 lo,.int .i64 hi,.int .u8 (sf.toNat:Int)] 138)).cell? ⟨w.heap.size,1,none⟩=some (.string d):=(by rw[((Ext.refl w1).alloc _).cell (p:=⟨w.heap.size,1,none⟩) Ce,b7.cell (p:=⟨w.heap.size,1,none⟩) L0];exact VB);have cK:(w1.alloc (.cells #[.int .i64 k,.int .i64 lo,.int .i64 hi,.int .u8 (sf.toNat:Int)] 138)).cell? ⟨w1.heap.size,0,none⟩=some (.int .i64 k):=VB;have HX:=B0 hx;clear b7 hx;by_cases c1:(d.size:Int)<lo;(·have HR:Hid (res=7):=B0 (by rw[Hh.out,G0 (.inl c1)]);clear Hh;exact PF);have n1:lo<=(d.size:Int):=C0;by_cases c2:hi<(d.size:Int);(·have HR:Hid (res=7):=B0 (by rw[Hh.out,G0 (.inr c2)]);clear Hh c1;exact PF);have n2:(d.size:Int)<=hi:=C0;have En:=B0 (Hh.out.trans (D0 C0));clear Hh c1 c2;go_wp2;go_loop [35] (λi=>∃j:Nat,j<=d.size/\i=.int .i64 j/\Hid ((d.data.toList.take j).all (Gs.okc k)=true)) (λi=>d.size-(intOf i).toNat);(case atStart=>exact C7);case round=>obtain⟨j,hj,rfl,IL⟩:=hrel;by_cases hlt:j<d.size;(·have HA:=B0 (NE d (Gs.okc k) j hlt);have HN:=B0 (NF d (Gs.okc k) j hlt);cases hp:Cd.isDig (d[j].toNat:Int);(·by_cases Jb:k=3;(·subst Jb;cases hq:Gs.charB d[j];(·have HR:Hid (res=6):=B0 (by rw[En.out,G0 (HN.out (by rw[Gs.okc,hp,hq];rfl))]);have HP:=B0 hp;have HQ:=B0 hq;clear hp hq En HA HN HK;go_wp2_with fail;refine(MV _ _).mono ?_;rintro e w' ⟨rfl,rfl⟩;rw[HP.out];go_wp2_with fail;refine(aB _ _).mono ?_;rintro e w' ⟨rfl,rfl⟩;rw[HQ.out];exact PF);·have HO:Hid ((d.data.toList.take (j+1)).all (Gs.okc 3)=true):=B0 (by rw[HA.out,IL.out,Gs.okc,hp,hq];rfl);have HP:=B0 hp;have HQ:=B0 hq;clear hp hq HA HN HK;go_wp2_with fail;refine(MV _ _).mono ?_;rintro e w' ⟨rfl,rfl⟩;rw[HP.out];go_wp2_with fail;refine(aB _ _).mono ?_;rintro e w' ⟨rfl,rfl⟩;rw[HQ.out];exact aD);·have Pm:(k==3)=false:=(by simpa using Jb);have HR:Hid (res=6):=B0 (by rw[En.out,G0 (HN.out (by rw[Gs.okc,hp,Pm];rfl))]);have HP:=B0 hp;clear hp En HA HN HK Pm;go_wp2_with fail;refine(MV _ _).mono ?_;rintro e w' ⟨rfl,rfl⟩;rw[HP.out];exact PF);·have HO:Hid ((d.data.toList.take (j+1)).all (Gs.okc k)=true):=B0 (by rw[HA.out,IL.out,Gs.okc,hp];rfl);have HP:=B0 hp;clear hp En HA HN HK;go_wp2_with fail;refine(MV _ _).mono ?_;exact QW);·obtain rfl:j=d.size:=C0;rw[Zu]at IL;have Oy:=B0 (En.out.trans (D0 (by rw[IL.out];exact Bool.noConfusion)));clear hj hlt En;by_cases k2:k=2;(·subst k2;have h6:d.size=6:=(by have:=HK.out.1 rfl;omega);have Ra:=B0 (λw=>Zld d h6 (Znq I0 IL.out) w);cases Sj:Gs.dateB d.data.toList;(·have HR:Hid (res=9):=B0 (by rw[Oy.out,G0 ⟨rfl,Sj⟩]);have HP:=B0 Sj;clear Sj Oy HK IL h6;go_wp2_with fail;refine(Ra.out _).mono ?_;rintro e w2 ⟨rfl,j0⟩;rw[HP.out];exact CP);·have HR:Hid (res=0):=B0 (by rw[Oy.out,D0 (by rw[Sj];simp),D0 (λh=>absurd h.1 I0)]);have HP:=B0 Sj;clear Sj Oy HK IL h6;go_wp2_with fail;refine(Ra.out _).mono ?_;rintro e w2 ⟨rfl,j0⟩;have cK2:=(j0.cell (p:=⟨w1.heap.size,0,none⟩) L0).trans cK;rw[HP.out];exact CP);·have HV5:=B0 (Oy.out.trans (D0 (λh=>k2 h.1)));clear Oy;by_cases k1:k=1;(·subst k1;have Ra:=B0 (λw=>ED 1 d w Le);obtain⟨x,hx⟩:∃x,Cd.verI 1 d.data.toList=x:=⟨_,rfl⟩;rw[hx]at Ra HV5;clear hx HK IL k2;by_cases h0:x=0;(·subst h0;have HR:Hid (res=0):=B0 (by rw[HV5.out,D0 L0]);exact aE);·have HR:Hid (res=8):=B0 (by rw[HV5.out,G0 ⟨rfl,h0⟩]);have h0':(x==0)=false:=UN;exact aE);·have HR:Hid (res=0):=B0 (by rw[HV5.out,D0 (λh=>k1 h.1)]);have k2':(k==2)=false:=(by simpa using k2);have k1':(k==1)=false:=(by simpa using k1);clear HV5 HK IL;exact PF
end
section
open Go.RowKit
abbrev Gs.El:=List UInt8×List UInt8
def Gs.isFix(r:Gs.y7):Bool:=r.2.1==r.2.2.1
def Gs.verL:List Gs.El->Int
 | []=>0
 |x::xs=>if Gs.ver x.1 x.2=0 then Gs.verL xs else Gs.ver x.1 x.2
def Gs.verAll(xs:List Gs.El):Int:=if xs=[]then 5 else Gs.verL xs
def Gs.upto(c:UInt8):List UInt8->List UInt8
 | []=>[]
 |b::l=>if b=c then []else b::Gs.upto c l
def Gs.parseF:Nat->List UInt8->List Gs.El->List Gs.El×Int
 |0,_,acc=>(acc,0)
 |n+1,l,acc=>match l with
  | []=>(acc,0)
  |b::r=>if b≠40 then([],9)
   else if(Gs.upto 41 r).length=r.length then([],9)
   else if Gs.ver (Gs.upto 41 r) (Gs.upto 40 (r.drop ((Gs.upto 41 r).length+1)))≠0 then([],Gs.ver (Gs.upto 41 r) (Gs.upto 40 (r.drop ((Gs.upto 41 r).length+1))))
   else Gs.parseF n ((r.drop ((Gs.upto 41 r).length+1)).drop (Gs.upto 40 (r.drop ((Gs.upto 41 r).length+1))).length) (acc++[(Gs.upto 41 r,Gs.upto 40 (r.drop ((Gs.upto 41 r).length+1)))])
def Gs.parse(l:List UInt8):List Gs.El×Int:=if 4096<l.length then([],4)else if l=[]then([],5)else Gs.parseF l.length l []
def Gs.fmtE(x:Gs.El):List UInt8:=(40::x.1)++(41::x.2)
def Gs.format(xs:List Gs.El):List UInt8×Int:=
 if Gs.verAll xs≠0 then([],Gs.verAll xs)else if 4096<(xs.flatMap Gs.fmtE).length then([],4)else(xs.flatMap Gs.fmtE,0)
def Gs.fixed(ai:List UInt8):Bool:=match Gs.find ai with
 |none=>true
 |some r=>Gs.isFix r
def Gs.ints(l:List UInt8):List Int:=l.map λc=>(c.toNat:Int)
def Gs.chG:List Gs.El->List Int
 | []=>[]
 |x::xs=>Gs.ints (x.1++x.2)++((if Gs.fixed x.1 || xs.isEmpty then []else [256])++Gs.chG xs)
def Gs.chars(xs:List Gs.El):List Int×Int:=
 if Gs.verAll xs≠0 then([],Gs.verAll xs)else if 4096<(256::Gs.chG xs).length then([],4)else(256::Gs.chG xs,0)
def Gs.run:List Int->List Int
 | []=>[]
 |c::l=>if c=256 then []else c::Gs.run l
def Gs.byte(c:Int):UInt8:=UInt8.ofNat (c%256).toNat
def Gs.text(l:List Int):List UInt8:=l.map Gs.byte
def Gs.preN(l:List UInt8)(n:Nat):Option (List UInt8×Gs.y7):=
 if n<=l.length then(Gs.find (l.take n)).map λr=>(l.take n,r)else none
def Gs.pre(l:List UInt8):Option (List UInt8×Gs.y7):=(Gs.preN l 2).or ((Gs.preN l 3).or (Gs.preN l 4))
def Gs.next(c:List Int):Gs.El×Nat×Int:=
 if(Gs.run c).length=0 then(([],[]),0,9)
 else match Gs.pre (Gs.text (Gs.run c))with
  |none=>(([],[]),0,29)
  |some (ai,r)=>
   if Gs.isFix r then
    if(Gs.run c).length<ai.length+r.2.2.1.toNat then(([],[]),0,10)
    else if Gs.ver ai (((Gs.text (Gs.run c)).drop ai.length).take r.2.2.1.toNat)≠0 then(([],[]),0,Gs.ver ai (((Gs.text (Gs.run c)).drop ai.length).take r.2.2.1.toNat))
    else((ai,((Gs.text (Gs.run c)).drop ai.length).take r.2.2.1.toNat),ai.length+r.2.2.1.toNat,0)
   else if Gs.ver ai ((Gs.text (Gs.run c)).drop ai.length)≠0 then(([],[]),0,Gs.ver ai ((Gs.text (Gs.run c)).drop ai.length))
   else if(Gs.run c).length+1=c.length then(([],[]),0,9)
   else((ai,(Gs.text (Gs.run c)).drop ai.length),min ((Gs.run c).length+1) c.length,0)
def Gs.fromF:Nat->List Int->List Gs.El->List Gs.El×Int
 |0,_,acc=>(acc,0)
 |n+1,c,acc=>if c=[]then(acc,0)else if(Gs.next c).2.2≠0 then([],(Gs.next c).2.2)else Gs.fromF n (c.drop (Gs.next c).2.1) (acc++[(Gs.next c).1])
def Gs.okCh(c:Int):Bool:=(c==256) || (decide (0<=c)&&decide (c<=127))
def Gs.frChars(c:List Int):List Gs.El×Int:=
 if 4096<c.length then([],4)
 else if c.all Gs.okCh=false then([],6)
 else if c.headD 0≠256 then([],9)
 else if c.length=1 then([],5)
 else Gs.fromF c.length (c.drop 1) []
end
section
namespace Ea
def dig_iff{c:UInt8}:Cd.isDig c.toNat=true↔48<=c.toNat/\c.toNat<=57:=by unfold Cd.isDig;exact X0
def Ck{l:List UInt8}:o6 l=true↔∀c∈l,48<=c.toNat/\c.toNat<=57:=by unfold o6;rw[M1];exact⟨λh c hc=>dig_iff.1 (h c hc),λh c hc=>dig_iff.2 (h c hc)⟩
def aAw{a b:List UInt8}:o6 (a++b)=true↔o6 a=true/\o6 b=true:=by unfold o6;simp
def Gx{l:List UInt8}(h:o6 l=true)(n:Nat):o6 (l.take n)=true:=Ck.2 λc hc=>Ck.1 h c (I4 hc)
def Gn{l:List UInt8}(h:o6 l=true)(n:Nat):o6 (l.drop n)=true:=Ck.2 λc hc=>Ck.1 h c (X7 hc)
def aCk{α:Type} [DecidableEq α]:∀ {l:List α}{y:α}{n:Nat},idx l y=some n->l[n]? =some y:=by
 intro l
 induction l with
 |nil=>intro y n h;cases h
 |cons x l ih=>
  intro y n h;unfold idx at h;split at h;(·rename_i e;subst e;cases h;rfl)
  .cases hi:idx l y with
   |none=>rw[hi]at h;cases h
   |some m=>rw[hi]at h;cases h;simpa using ih hi
def aHB:∀(t:Fin 3)(d:Fin 10),(Bf t d).length=7:=by decide
def aHC{t d:Nat}(ht:t<3)(hd:d<10):(Bf t d).length=7:=aHB ⟨t,ht⟩ ⟨d,hd⟩
def lookT_some{t d:Nat}{m:List Bool}(ht:t<3)(h:Jy t m=some d):d<10/\m=Bf t d:=by
 have h1:=aCk h;have h2:(tab.getD t []).length=10:=by have:∀t:Fin 3,(tab.getD t []).length=10:=I0;exact this ⟨t,ht⟩
 obtain⟨h3,h4⟩:=N1.1 h1;refine⟨by omega,?_⟩;unfold Bf;rw[F1,h1];rfl
def may(both:Bool)(t u:Nat):Prop:=if both=true then u<2 else u=t
def look_some{both:Bool}{t d u:Nat}{m:List Bool}(ht:t<3)(h:look both t m=some (d,u)):d<10/\m=Bf u d/\may both t u:=by
 unfold look at h;cases both with
 |true=>
  rw[G0 rfl]at h
  cases h1:Jy 1 m with
  |some d1=>rw[h1]at h;cases h;obtain⟨h3,h4⟩:=lookT_some C0 h1;exact⟨h3,h4,by unfold may;rw[G0 rfl];omega⟩
  |none=>
   rw[h1]at h
   cases h2:Jy 0 m with
   |none=>rw[h2]at h;cases h
   |some d2=>rw[h2]at h;cases h;obtain⟨h3,h4⟩:=lookT_some C0 h2;exact⟨h3,h4,by unfold may;rw[G0 rfl];omega⟩
 |false=>
  rw[D0 L0]at h
  cases h2:Jy t m with
  |none=>rw[h2]at h;cases h
  |some d2=>rw[h2]at h;cases h;obtain⟨h3,h4⟩:=lookT_some ht h2;exact⟨h3,h4,by unfold may;rw[D0 L0]⟩
def may_lt{both:Bool}{t u:Nat}(ht:t<3)(h:may both t u):u<3:=by unfold may at h;cases both<;>simp at h<;>omega
def chr_nat{d:Nat}(h:d<10):(UInt8.ofNat (48+d)).toNat=48+d:=X0
def aCE(sep:List Bool)(c:UInt8)(l:List UInt8)(t:Nat)(ts:List Nat):drw sep (c::l) (t::ts)=Bf t (c.toNat-48)++(if l=[]then []else sep++drw sep l ts):=by
 cases l with
 |nil=>simp[drw]
 |cons d l=>simp[drw]
def drw_len(sep:List Bool):∀(l:List UInt8)(us:List Nat),o6 l=true->us.length=l.length->(∀u∈us,u<3)->(drw sep l us).length=7*l.length+sep.length*(l.length-1):=by
 intro l
 induction l with
 |nil=>intro us _ _ _;simp[drw]
 |cons c l ih=>
  intro us h1 h2 h3
  cases us with
  |nil=>simp at h2
  |cons u us=>have hc:=Ck.1 h1 c (C2 ..);rw[aCE,S0,aHC (h3 u (C2 ..)) C0];by_cases h0:l=[];(·subst h0;simp);·have hp:=D8.2 h0;rw[D0 h0,S0,ih us (Ck.2 λc hc=>Ck.1 h1 c (Y1 _ hc)) YU (λu hu=>h3 u (Y1 _ hu))];simp only[B1,TI];have:sep.length*l.length=sep.length*(l.length-1)+sep.length:=(by(conv=>lhs;rw[show l.length=(l.length-1)+1 by omega]);rw[Nat.mul_add,G6]);omega
def aFV{α:Type}(a b:List α)(n:Nat)(h:n=a.length):(a++b).drop n=b:=by subst h;simp
def aEd{α:Type}(a b:List α)(n:Nat)(h:n=a.length):(a++b).take n=a:=by subst h;simp
def rcg_inv(both:Bool)(t:Nat)(ht:t<3):∀(n:Nat)(s:List Bool)(l:List UInt8)(us:List Nat),rcg both t 0 n s=some (l,us)->7*n<=s.length->
 s.take (7*n)=drw [] l us/\l.length=n/\us.length=n/\o6 l=true/\∀u∈us,may both t u:=by
 intro n
 induction n with
 |zero=>intro s l us h _;cases h;exact⟨rfl,rfl,rfl,rfl,λu hu=>by cases hu⟩
 |succ n ih=>
  intro s l us h hs
  rw[rcg]at h
  cases h1:look both t (s.take 7)with
  |none=>rw[h1]at h;cases h
  |some p=>
   obtain⟨d,u⟩:=p
   rw[h1]at h
   dsimp only at h
   cases h2:rcg both t 0 n (s.drop (7+0))with
   |none=>rw[h2]at h;cases h
   |some q=>obtain⟨ds,vs⟩:=q;rw[h2]at h;dsimp only at h;cases h;obtain⟨e1,e2,e3⟩:=look_some ht h1;obtain⟨f1,f2,f3,f4,f5⟩:=ih _ _ _ h2 YO;refine⟨?_,by simp[f2],by simp[f3],?_,?_⟩;(·rw[aCE,chr_nat e1,RG,<-e2,Nat.mul_add,G6,Nat.add_comm,List.take_add,<-f1];congr 1;by_cases h0:ds=[];(·rw[G0 h0];have:n=0:=(by rw[<-f2,h0];rfl);subst this;simp);·rw[D0 h0];simp);(·refine Ck.2 λc hc=> ?_;rcases E2.1 hc with rfl|hc;(·rw[chr_nat e1];omega);·exact Ck.1 f4 c hc);·intro v hv;rcases E2.1 hv with rfl|hv;(·exact e3);·exact f5 v hv
def Up(r:Option (List UInt8×List Nat))(ds:List UInt8)(us:List Nat):Option (List UInt8×List Nat):=r.map (λp=>(ds++p.1,us++p.2))
def aHb(r:Option (List UInt8×List Nat)):Up r [] []=r:=by unfold Up;cases r<;>rfl
def aHa(ds:List UInt8)(us:List Nat):Up (some ([],[])) ds us=some (ds,us):=by unfold Up;simp
def aHP{both:Bool}{t Iy n:Nat}{s:List Bool}(h:look both t (s.take 7)=none):rcg both t Iy (n+1) s=none:=by rw[rcg,h]
def aHQ{both:Bool}{t Iy n:Nat}{s:List Bool}{d u:Nat}(h:look both t (s.take 7)=some (d,u))(ds:List UInt8)(us:List Nat):Up (rcg both t Iy (n+1) s) ds us=Up (rcg both t Iy n (s.drop (7+Iy))) (ds++[chr d]) (us++[u]):=by
 rw[rcg,h];dsimp only;cases rcg both t Iy n (s.drop (7+Iy))with
 |none=>rfl
 |some p=>obtain⟨l,v⟩:=p;unfold Up chr;simp
def ldg_le(l:List Bool):ldg l<=l.length:=by
 induction l with
 |nil=>simp[ldg]
 |cons b l ih=>unfold ldg;split<;>simp;omega
def ldg_split:∀(l:List Bool),ldg l<l.length->∃r,l=lgt (ldg l)++true::r:=by
 intro l
 induction l with
 |nil=>intro h;simp[ldg]at h
 |cons b l ih=>
  intro h
  cases b with
  |true=>exact⟨l,by simp[ldg,lgt]⟩
  |false=>have e:ldg (false::l)=ldg l+1:=(by simp[ldg]);rw[e]at h⊢;obtain⟨r,hr⟩:=ih Y4;refine⟨r,?_⟩;unfold lgt at*;rw[G5,C3,<-hr]
def Nn(n:Nat):(lgt n).length=n:=by unfold lgt;simp
end Ea
namespace Ln
abbrev S:=List UInt8
abbrev II:=Int×S×S
def zero:II:=(0,[],[])
def aCl(d:List Int×Int):Option II:=
 if d.2≠0 then none
 else if d.1.head? =some 256 then
  (
   if(Gs.frChars d.1).2≠0 then none
   else if(Gs.format (Gs.frChars d.1).1).2≠0 then none
   else some (9,(Gs.format (Gs.frChars d.1).1).1,[]))
 else if d.1.any (λc=>decide (127<c))then none
 else some (8,d.1.map (λc=>UInt8.ofNat c.toNat),[])
def aAl(row:List Bool):Option II:=aCl (Cc.dec row)
def aBQ(row:List Bool):Option II:=if(Ea.dec row).2=0 then some (Ea.dec row).1 else none
def Np(k:Int)(row:List Bool):Option II:=if(Tw.dec k (Rn.widths row) false).2=0 then some (k,(Tw.dec k (Rn.widths row) false).1,[])else none
def reader(i:Nat)(row:List Bool):Option II:=if i=0 then aBQ row else if i=1 then aAl row else if i=2 then Np 5 row else if i=3 then Np 6 row else Np 7 row
def found(row:List Bool):Nat->Nat×II
 |0=>(0,zero)
 |n+1=>match reader n row with
  |none=>found row n
  |some x=>((found row n).1+1,x)
def outcome(p:Nat×II):II×Int:=if p.1=0 then(zero,18)else if 1<p.1 then(zero,34)else(p.2,0)
def Ro(row:List Bool):Bool:=row.any λb=>b
def decode(row:List Bool):II×Int:=if 65536<row.length then(zero,4)else if Ro row=false then(zero,5)else outcome (found row 5)
def total11(n:Nat):Int:=11*((n:Int)-7)/6+13
def quants(ws:List Int):List Int->List (List Int)
 | []=>[]
 |t::r=>(if(Rn.quant ws t).2=0 then [(Rn.quant ws t).1]else [])++quants ws r
def aA3(ws:List Int):List (List Int):=if(Tw.wide ws).2=0 then [(Tw.wide ws).1.map λb=>if b then 3 else 1]else []
def aBW(n:Nat):List Int:=
 (if n=59 then [95]else if n=43 then [67]else if n=33 then [51]else [])++(if 13<=n/\(n-7)%6=0 then [total11 n]else [])
def Vj(ws:List Int):List (List Int):=(ws.map λx=>x/Rn.unit ws)::(quants ws (aBW ws.length)++aA3 ws)
def quiet(m:List Bool)(a b:Nat):List Bool:=List.replicate a false++m++List.replicate b false
def rowOf(l:List Int)(left right s:Int):List Bool:=quiet (Rn.modules l).1 (min 64 (left*Rn.sum l/s)).toNat (min 64 (right*Rn.sum l/s)).toNat
def tryGo(left right s:Int):List (List Int)->Option II
 | []=>none
 |l::r=>if(Rn.modules l).2=0/\(decode (rowOf l left right s)).2=0 then some (decode (rowOf l left right s)).1 else tryGo left right s r
def aAE(ws:List Int)(left right:Nat):Option II:=tryGo left right (Rn.sum ws) (Vj ws)
def aAZ(row:List Bool):Option II:=aAE (Rn.widths row) (Ea.ldg row) (Ea.Ac row)
def read(row:List Bool):II×Int:=
 if 65536<row.length then(zero,4)else if Ro row=false then(zero,5)
 else match aAZ row with
  |some x=>(x,0)
  |none=>match aAZ row.reverse with
   |some x=>(x,0)
   |none=>(zero,18)
def Ap(rows:List (List Bool)):List II:=rows.filterMap λr=>if(read r).2=0 then some (read r).1 else none
def bestGo(all:List II):II×Nat->List II->II×Nat
 |p,[]=>p
 |p,x::r=>bestGo all (if p.2<all.count x then(x,all.count x)else p) r
def vote(rows:List (List Bool)):II×Int×Int:=
 if 4096<rows.length then(zero,0,4)
 else if(bestGo (Ap rows) (zero,0) (Ap rows)).2=0 then(zero,0,29)
 else((bestGo (Ap rows) (zero,0) (Ap rows)).1,((bestGo (Ap rows) (zero,0) (Ap rows)).2:Int),0)
end Ln
namespace Ea
def mb(b:Bool):UInt8:=if b then 49 else 48
def mS(l:List Bool):List UInt8:=l.map mb
def aHA{a b:Bool}(h:mb a=mb b):a=b:=by cases a<;>cases b<;>first|rfl|(revert h;decide)
def aBO{a b:List Bool}:mS a=mS b↔a=b:=by
 refine⟨λh=> ?_,λh=>by rw[h]⟩
 induction a generalizing b with
 |nil=>cases b with
  |nil=>rfl
  |cons y b=>simp[mS]at h
 |cons x a ih=>cases b with
  |nil=>simp[mS]at h
  |cons y b=>simp only[mS,M4,RZ]at h;rw[aHA h.1,ih h.2]
def aAX(a b:List Bool):mS (a++b)=mS a++mS b:=by simp[mS]
def Lk(a:List Bool):(mS a).length=a.length:=by simp[mS]
def Wp(a:List Bool)(n:Nat):(mS a).take n=mS (a.take n):=by simp[mS,J8]
def Wo(a:List Bool)(n:Nat):(mS a).drop n=mS (a.drop n):=by simp[mS,C9]
def mS_prefix(s p:List Bool):Lib.hasPrefix (mS s) (mS p)=decide (s.take p.length=p):=by rw[<-Lib.hasPrefix_of_take,Lk,Lk,Wp,K4];simp only[P1,G2,I1,aBO];refine⟨λh=>h.2,λh=>⟨?_,h⟩⟩;have:=V0 List.length h;exact EE
def aGz(s p:List Bool)(hp:p.length<=s.length):Lib.hasSuffix (mS s) (mS p)=decide (s.drop (s.length-p.length)=p):=by rw[<-Lib.hasSuffix_of_drop,Lk,Lk,Wo,K4];simp only[P1,G2,I1,aBO];exact⟨λh=>h.2,λh=>⟨hp,h⟩⟩
def cS(t:Nat):UInt8:=UInt8.ofNat (65+t)
def sS(u:List Nat):List UInt8:=u.map cS
def aFF:∀a b:Fin 3,cS a=cS b->a=b:=by decide
def aFG{a b:Nat}(ha:a<3)(hb:b<3)(h:cS a=cS b):a=b:=by have:=aFF ⟨a,ha⟩ ⟨b,hb⟩ h;exact I6
def aCw{a b:List Nat}(ha:∀u∈a,u<3)(hb:∀u∈b,u<3)(h:sS a=sS b):a=b:=by
 induction a generalizing b with
 |nil=>cases b with
  |nil=>rfl
  |cons y b=>simp[sS]at h
 |cons x a ih=>cases b with
  |nil=>simp[sS]at h
  |cons y b=>simp only[sS,M4,RZ]at h;rw[aFG (ha x (C2 ..)) (hb y (C2 ..)) h.1,ih (λu hu=>ha u (Y1 _ hu)) (λu hu=>hb u (Y1 _ hu)) h.2]
def aE9(a b:List Nat):sS (a++b)=sS a++sS b:=by simp[sS]
def aEa(a:List Nat):(sS a).length=a.length:=by simp[sS]
def bS(l:List UInt8):ByteArray:=⟨l.toArray⟩
def aAv{a b:List UInt8}:bS a=bS b↔a=b:=⟨λh=>by simpa[bS]using h,λh=>by rw[h]⟩
def Bw(a:List UInt8):(bS a).data.toList=a:=rfl
def Xm(s:ByteArray):bS s.data.toList=s:=Lib.mk_data s
def idxFromS_map{α:Type} [DecidableEq α](f:α->ByteArray)(y:α):∀(l:List α)(i:Nat),(∀z∈l,f z=f y->z=y)->
 Lib.idxFromS (l.map f) (f y) i=(match idx l y with|some n=>((i+n:Nat):Int)|none=> -1):=by
 intro l
 induction l with
 |nil=>intro i _;rfl
 |cons z l ih=>
  intro i h;rw[M4,Lib.idxFromS,idx];by_cases e:z=y;(·subst e;rw[G0 rfl,G0 rfl];rfl)
  .rw[D0 (λe2=>e (h z (C2 ..) e2)),D0 e,ih (i+1) (λz hz=>h z (Y1 _ hz))]
   cases idx l y with
   |none=>rfl
   |some n=>simp only[YS];congr 1;omega
def plcO(o:Option Nat):Int:=match o with
 |some n=>(n:Int)
 |none=> -1
def aCj{α:Type} [DecidableEq α](f:α->ByteArray)(l:List α)(y:α)(h:∀z∈l,f z=f y->z=y):Lib.idxOfS (l.map f) (f y)=plcO (idx l y):=by
 unfold Lib.idxOfS plcO;rw[idxFromS_map f y l 0 h];cases idx l y with
 |none=>rfl
 |some n=>simp
def Ms(t:Nat):List ByteArray:=(tab.getD t []).map (λm=>bS (mS m))
def aH0(t:Nat)(m:List Bool):Lib.idxOfS (Ms t) (bS (mS m))=plcO (Jy t m):=by unfold Ms Jy;exact aCj (λm=>bS (mS m)) _ m (λz _ h=>aBO.1 (aAv.1 h))
def Pu:List ByteArray:=aBT.map (λu=>bS (sS u))
def aGy:∀u∈aBT,∀x∈u,x<3:=by decide
def aGx(u:List Nat)(h:∀x∈u,x<3):Lib.idxOfS Pu (bS (sS u))=plcO (Xp u):=
 aCj (λu=>bS (sS u)) _ u (λz hz e=>aCw (aGy z hz) h (aAv.1 e))
def Nq:List (List Nat):=setsE0.map (λl=>l.map (λx=>1-x))
def Cu(y:Nat):List ByteArray:=(if y=0 then setsE0 else Nq).map (λu=>bS (sS u))
def aFN:∀u∈setsE0,∀x∈u,x<3:=by decide
def aFO:∀u∈Nq,∀x∈u,x<3:=by decide
def aFM(y:Nat)(u:List Nat)(h:∀x∈u,x<3):Lib.idxOfS (Cu y) (bS (sS u))=plcO (idx (if y=0 then setsE0 else Nq) u):=
 aCj (λu=>bS (sS u)) _ u (λz hz e=>aCw (by split at hz;(·exact aFN z hz);·exact aFO z hz) h (aAv.1 e))
def aDZ(u:List Nat):Xq u=match idx setsE0 u with
 |some c=>some (0,c)
 |none=>(idx Nq u).map (λc=>(1,c)):=rfl
def dl(l:List UInt8)(us:List Nat):List (List Bool):=List.zipWith (λc t=>Bf t (c.toNat-48)) l us
def aDW{l:List UInt8}{us:List Nat}(h:us.length=l.length):(dl l us).length=l.length:=by unfold dl;rw[List.length_zipWith,h,Nat.min_self]
def aFU{l:List UInt8}{us:List Nat}{i:Nat}{c:UInt8}{t:Nat}(h1:l[i]? =some c)(h2:us[i]? =some t):(dl l us)[i]? =some (Bf t (c.toNat-48)):=by unfold dl;rw[List.getElem?_zipWith,h1,h2]
def aGv(sep:List Bool):∀(l:List UInt8)(us:List Nat),us.length=l.length->Lib.join ((dl l us).map mS) (mS sep)=mS (drw sep l us):=by
 intro l
 induction l with
 |nil=>intro us _;rfl
 |cons c l ih=>
  intro us h
  cases us with
  |nil=>simp at h
  |cons u us=>
   have h':us.length=l.length:=Y4;have e:dl (c::l) (u::us)=Bf u (c.toNat-48)::dl l us:=rfl;rw[aCE,e,M4,aAX];by_cases h0:l=[];(·subst h0;have:us=[]:=U3 (by simpa using h');subst this;rw[G0 rfl,show dl [] []=[]from rfl,H7,Lib.join_one];simp[mS])
   .rw[D0 h0,aAX,<-ih us h',NM]
    congr 1
    have hp:0<(dl l us).length:=by rw[aDW h'];exact MZ
    cases hd:dl l us with
    |nil=>rw[hd]at hp;simp at hp
    |cons m r=>rw[M4,NM];simp[Lib.joinTail]
end Ea
end
section
open Go.RowKit
def ZnD(m:List Bool)(w:World)(e:Ending)(w':World):Prop:=∃v,e=.returned v/\SlK w' v (m.map encT)/\Ext w w'
def LA(s:ByteArray)(m:List Bool)(hs:s.data.toList=Ea.mS m)(hm:m.length<=1000000)(w:World):
 Calls prog 113 #[.string s] w (ZnD m w):=by
 have o4:s.size=m.length:=VD;have HS:=B0 hs;have HZ:=B0 o4;have hss:s.size<=1000000:=by omega
 have IT:=J7 (P:=prog) 26 4 (.bool false) 1 underlying26 N0 rfl .i64 .i64 s.size C0 C0;clear hs o4;go_enter func113,ntmps113;go_wp2;clear IT;go_loopw [10] (λi wr=>∃j:Nat,j<=s.size/\i=.int .i64 (j:Int)/\wr.rowIs w.heap.size 4 s.size (λk=>if k<j then encT (m.getD k false)else .bool false)/\Ext w wr) (λi _=>s.size-(intOf i).toNat)
 case atStart=>exact NN
 case round=>
  obtain⟨j,hj,rfl,k9,j3⟩:=hrel;by_cases hlt:j<s.size
  .have Eh:=k9.cell hlt;have Gg:=k9.frozen j;obtain⟨b,hb⟩:∃b,m[j]? =some b:=⟨_,P0 (by rw[<-HZ.out];exact hlt)⟩;have hsj:s[j]=Ea.mb b:=(by have h1:s.data.toList[j]? =some s[j]:=P0 VE;exact aG);have HB:Hid (m.getD j false=b):=B0 (by rw[F1,hb];rfl);have aDg:((s[j].toNat:Int)==49)=b:=(by rw[hsj];cases b<;>rfl);have HR5:Hid ((wr.setCell ⟨w.heap.size,j,none⟩ (.bool b)).rowIs w.heap.size 4 s.size (λk=>if k<j+1 then encT (m.getD k false)else .bool false)):=
    B0 ((k9.set j (.bool b)).congr (λk hk=>by by_cases h1:k=j;(·subst h1;rw[G0 rfl,G0 C0,HB.out];rfl);·rw[D0 h1];by_cases h2:k<j;(·exact V8);·rw[D0 h2,D0 C0]))
   have HX:=B0 (j3.setCell (p:=⟨w.heap.size,j,none⟩) (J0 _) (.bool b));clear k9 j3 hb hsj;exact aH
  .obtain rfl:j=s.size:=C0;have j8:=SlK.row k9;clear hj hlt k9;go_wp2;go_ret;refine⟨_,rfl,j8.congr ?_,j3⟩;apply V9;(·simp[HZ.out]);·intro i h1 h2;simp at h1 h2;simp[h1,h2]
def Zmx(v:Value)(m:List Bool)(w:World)(hv:SlK w v (m.map encT))(hm:m.length<=1000000):
 Calls prog 137 #[v] w λe w'=>e=.returned (.string (Ea.bS (Ea.mS m)))/\Ext w w':=by
 obtain⟨j8,a,c,rfl,_⟩:=hv;rw[M0]at j8⊢;have HV:=B0 j8;have IT:=J7 (P:=prog) 90 5 (.int .u8 0) 1 underlying90 N0 rfl .i64 .i64 m.length C0 C0;clear j8;go_enter func137,ntmps137;go_wp2;clear IT;go_loopw [11] (λi wr=>∃j:Nat,j<=m.length/\i=.int .i64 (j:Int)/\wr.rowIs w.heap.size 5 m.length (λk=>if k<j then encB (Ea.mb (m.getD k false))else .int .u8 0)/\Ext w wr) (λi _=>m.length-(intOf i).toNat)
 case atStart=>exact NN
 case round=>
  obtain⟨j,hj,rfl,k9,j3⟩:=hrel;by_cases hlt:j<m.length
  .have Eh:=k9.cell hlt
   have Gg:=k9.frozen j
   obtain⟨bb,off,ha,Ce,Bc⟩:=HV.out.at_ (k:=j) CQ
   subst ha
   obtain⟨b,hb⟩:∃b,m[j]=b:=⟨_,rfl⟩
   rw[X9,hb]at Bc
   have Eg:=(j3.cell (p:=⟨bb,off+j,none⟩) Ce).trans Bc
   have HB:Hid (m.getD j false=b):=B0 (by rw[F1,P0 hlt];exact hb)
   have k7:¬bb=w.heap.size:=by omega
   have IK:=B0 (λu=>j3.setCell (p:=⟨w.heap.size,j,none⟩) (J0 _) u)
   have IA:=B0 (λu v=>(j3.setCell (p:=⟨w.heap.size,j,none⟩) (J0 _) u).setCell (p:=⟨w.heap.size,j,none⟩) (J0 _) v)
   have p6:∀x,encB (Ea.mb b)=x->Hid ((wr.setCell ⟨w.heap.size,j,none⟩ x).rowIs w.heap.size 5 m.length (λk=>if k<j+1 then encB (Ea.mb (m.getD k false))else .int .u8 0)):=λx hx=>
    B0 ((k9.set j x).congr (λk hk=>by by_cases h1:k=j;(·exact aI);·rw[D0 h1];by_cases h2:k<j;(·exact V8);·rw[D0 h2,D0 C0]))
   have Aj:∀x y,encB (Ea.mb b)=y->Hid (((wr.setCell ⟨w.heap.size,j,none⟩ x).setCell ⟨w.heap.size,j,none⟩ y).rowIs w.heap.size 5 m.length (λk=>if k<j+1 then encB (Ea.mb (m.getD k false))else .int .u8 0)):=λx y hx=>
    B0 (((k9.set j x).set j y).congr (λk hk=>by by_cases h1:k=j;(·exact aI);·rw[D0 h1,D0 h1];by_cases h2:k<j;(·exact V8);·rw[D0 h2,D0 C0]))
   cases b with
   |true=>have hR:=Aj (.int .u8 48) (.int .u8 49) rfl;have Kn:=k9.set j (.int .u8 48);have aIP:=Kn.cell hlt;have aBc:=Kn.frozen j;clear k9 j3 p6 Aj Kn hb;go_wp2;go_roundw;(case rel=>exact⟨j+1,by omega,by go_num,by first|exact hR.out|simpa using hR.out,by first|exact IA.out _ _|simpa using IA.out _ _⟩);case measure=>exact QH
   |false=>have hR:=p6 (.int .u8 48) rfl;clear k9 j3 p6 Aj hb;go_wp2;go_roundw;(case rel=>exact⟨j+1,by omega,by go_num,hR.out,IK.out _⟩);case measure=>exact QH
  .obtain rfl:j=m.length:=C0;have j8:=Sl.row k9;have Cv:=Zp (l:=Ea.mS m) (j8.congr (by apply V9;(·simp[Ea.mS]);·intro i h1 h2;simp at h1;simp[h1,Ea.mS]));clear hj hlt k9 j8;exact DJ
end
section
namespace Ea
def aAL{k:Int}{l:List UInt8}(h:full k l=0):size k≠0/\o6 l=true/\l.length=size k/\(k=4->l.getD 0 0<=49)/\l=l.take (size k-1)++[Hm k (l.take (size k-1))]:=by
 unfold full at h;split at h;·cases h
 rename_i h1;unfold comp at h;split at h;·cases h
 rename_i h2;split at h;·cases h
 rename_i h3;have h3:o6 l=true:=by simpa using h3
 split at h;·cases h
 rename_i h4;split at h;·cases h
 rename_i h5;split at h;·cases h
 rename_i h6;have hl:l.length=size k:=by by_cases e:l.length=size k;(·exact e);·exact absurd ⟨h2,h3,by by_cases e2:l.length+1=size k;exact e2;exact absurd ⟨e,e2⟩ h4⟩ h1
 refine⟨h2,h3,hl,λe=> ?_,?_⟩;·have:¬49<l.getD 0 0:=λe2=>h5 ⟨e,e2⟩;exact LB.1 this
 .by_cases e:l=l.take (size k-1)++[Hm k (l.take (size k-1))];(·exact e);·exact absurd ⟨hl,e⟩ h6
def full_of{k:Int}{l:List UInt8}(h1:size k≠0)(h2:o6 l=true)(h3:l.length=size k)(h4:k=4->l.getD 0 0<=49)(h5:l=l.take (size k-1)++[Hm k (l.take (size k-1))]):full k l=0:=by unfold full;rw[D0 C0];unfold comp;rw[D0 h1,D0 (by simp[h2]),D0 C0,D0 (λh=>by have:=h4 h.1;exact LB.2 this h.2),D0 (λh=>h.2 h5)]
def aF2{k:Int}{l:List UInt8}(h1:size k≠0)(h2:o6 l=true)(h3:l.length=size k)(h4:k=4->l.getD 0 0<=49):full k l=if l=l.take (size k-1)++[Hm k (l.take (size k-1))]then 0 else 8:=by
 by_cases h5:l=l.take (size k-1)++[Hm k (l.take (size k-1))];·rw[G0 h5];exact full_of h1 h2 h3 h4 h5
 .rw[D0 h5];unfold full;rw[D0 C0];unfold comp;rw[D0 h1,D0 (by simp[h2]),D0 C0,D0 (λh=>by have:=h4 h.1;exact LB.2 this h.2),G0 ⟨h3,h5⟩]
def aAn:∀d:Fin 10,(Fb d).length=6/\(∀u∈Fb d,u<2)/\Xp (Fb d)=some d.1:=by decide
def aBq:∀(s:Fin 2)(c:Fin 10),(Fj s c).length=6/\(∀u∈Fj s c,u<2)/\Xq (Fj s c)=some (s.1,c.1):=by decide
def aH8:∀d:Fin 4,(aAC.getD d []).length=2/\∀u∈aAC.getD d [],u<2:=by decide
def aH9:∀d:Fin 10,(aAD.getD d []).length=5/\∀u∈aAD.getD d [],u<2:=by decide
def setsAdd_ok{a:List UInt8}(h:a.length=2\/a.length=5):(Da a).length=a.length/\∀u∈Da a,u<2:=by
 unfold Da;rcases h with h|h;·rw[G0 h,h];exact aH8 ⟨_,WZ _ C0⟩
 .rw[D0 C0,h];exact aH9 ⟨_,WZ _ C0⟩
def aDY{u:List Nat}{d:Nat}(h:Xp u=some d):d<10/\u=Fb d:=by have h1:=aCk h;obtain⟨h2,h3⟩:=N1.1 h1;exact⟨h2,by unfold Fb;rw[F1,h1];rfl⟩
def dv_lt{l:List UInt8}(h:o6 l=true)(i:Nat):dv l i<10:=by
 unfold dv;rw[F1];cases e:l[i]? with
 |none=>simp
 |some c=>have:=Ck.1 h c (L1 e);simp;omega
def drw6_len{l:List UInt8}{us:List Nat}(h1:o6 l=true)(h2:l.length=6)(h3:us.length=6)(h4:∀u∈us,u<3):(drw [] l us).length=42:=by rw[drw_len [] l us h1 C0 h4,h2];rfl
def drw4_len{l:List UInt8}{us:List Nat}(h1:o6 l=true)(h2:l.length=4)(h3:us.length=4)(h4:∀u∈us,u<3):(drw [] l us).length=28:=by rw[drw_len [] l us h1 C0 h4,h2];rfl
def aCG:gd.length=3:=rfl
def aES:md.length=5:=rfl
def aFX:eE.length=6:=rfl
def sym13_len{l:List UInt8}(h1:o6 l=true)(h2:l.length=13):(sym13 l).length=95:=by unfold sym13;obtain⟨a,b,_⟩:=aAn ⟨dv l 0,dv_lt h1 0⟩;simp only[S0,aCG,aES];rw[drw6_len (Gx (Gn h1 1) 6) J3 a (λu hu=>by have:=b u hu;omega),drw6_len (Gn h1 7) J3 rfl L0]
def sym8_len{l:List UInt8}(h1:o6 l=true)(h2:l.length=8):(sym8 l).length=67:=by unfold sym8;simp only[S0,aCG,aES];rw[drw4_len (Gx h1 4) J3 rfl L0,drw4_len (Gn h1 4) J3 rfl L0]
def symE_len{l:List UInt8}(h1:o6 l=true)(h2:l.length=8)(h3:dv l 0<2):(symE l).length=51:=by unfold symE;obtain⟨a,b,_⟩:=aBq ⟨dv l 0,h3⟩ ⟨dv l 7,dv_lt h1 7⟩;simp only[S0,aCG,aFX];rw[drw6_len (Gx (Gn h1 1) 6) J3 a (λu hu=>by have:=b u hu;omega)]
def wOf(k:Int):Nat:=if k=1\/k=3 then 95 else if k=2 then 67 else 51
def kinds{k:Int}(h:size k≠0):k=1\/k=2\/k=3\/k=4:=by unfold size at h;(repeat' split at h)<;>omega
def dv2{l:List UInt8}(h1:o6 l=true)(h2:0<l.length)(h:l.getD 0 0<=49):dv l 0<2:=by unfold dv;rw[F1,P0 h2]at*;have:(l[0]).toNat<=49:=h;exact X0
def Vk{c:UInt8}{l:List UInt8}(hc:48<=c.toNat/\c.toNat<=57)(h:o6 l=true):o6 (c::l)=true:=Ck.2 λx hx=>by
 rcases E2.1 hx with rfl|hx;·exact hc
 .exact Ck.1 h x hx
def sym_len{k:Int}{l:List UInt8}(h:full k l=0):(sym k l).length=wOf k:=by
 obtain⟨h1,h2,h3,h4,_⟩:=aAL h;rcases kinds h1 with rfl|rfl|rfl|rfl;·exact sym13_len h2 h3
 .exact sym8_len h2 h3
 .exact sym13_len (Vk I0 h2) CR
 .exact symE_len h2 h3 (dv2 h2 D9 (h4 rfl))
def aF6(l:List UInt8):(Cd.gsP (48::l)).1=(Cd.gsP l).1:=by
 have:Cd.dg 48=0:=by decide
 rw[Cd.gsP,this];simp
def aFI(l:List UInt8):Bk (48::l)=Bk l:=by unfold Bk;rw[aF6]
def aF1{l:List UInt8}(h:full 3 l=0):full 1 (48::l)=0:=by
 obtain⟨h1,h2,h3,h4,h5⟩:=aAL h;refine full_of I0 (Vk I0 h2) CR (λe=>by cases e) ?_;have e1:size 1-1=12:=rfl;have e3:size 3-1=11:=rfl;rw[e3]at h5;rw[e1,OY,C3];congr 1;conv=>lhs;rw[h5]
 congr 2;unfold Hm;simp[aFI]
def aAt{a:List UInt8}(h1:o6 a=true)(h2:a.length=2\/a.length=5):(addn a).length=Co a.length:=by obtain⟨e1,e2⟩:=setsAdd_ok h2;unfold addn;rw[S0,drw_len gA a _ h1 e1 (λu hu=>by have:=e2 u hu;omega)];rcases h2 with h2|h2<;>rw[h2]<;>rfl
end Ea
end
end Go.Proofs.Enc
