/-
  Laid.
-/
import Derived.Test.YtbngggoccndefaaGreatDoorLe01
import Derived.Test.YtbngggoccndefaaGreatDoorLe04
set_option maxHeartbeats 8000000
set_option maxRecDepth 100000
set_option linter.all false
section
namespace Go.Proofs.Enc
open Go.Proofs.Tryz
open Go.RowKit
def FT(c:Int)(w:World):
 Calls prog 338 #[.int .u8 c] w λe w'=>e=.returned (.bool (Cd.isDig c))/\w=w':=by
 go_enter func338,ntmps338;go_wp2
 .exact NB
 .exact NC
def FU(v:Int)(w:World)(h0:0<=v)(h1:v<=10):
 Calls prog 340 #[.int .i64 v] w λe w'=>e=.returned (.string ⟨#[Cd.chr v]⟩)/\w=w':=by
 by_cases h:v=10
 .subst h;go_enter func340,ntmps340;exact Q9
 .have hb:(v==10)=false:=Y4;obtain⟨n,rfl⟩:=C4 h0;have hd:=Cd.dec_chr n C0;have HD:=B0 hd;clear hd h;go_enter func340,ntmps340;go_wp2_with fail;refine(Tryz.strconv_Itoa_small n C0 _).mono ?_;rintro e w' ⟨rfl,rfl⟩;go_wp2;go_ret;exact⟨ZC (by rw[HD.out]),rfl⟩
def wI(s:ByteArray)(w:World)(hs:s.size<=4096)(hd:Cd.IP s.data.toList):
 Calls prog 339 #[.agg #[],.string s] w λe w'=>e=.returned (.string ⟨(Cd.cmp 1 s.data.toList).toArray⟩)/\Ext w w':=by
 have HD:=B0 hd;clear hd;go_enter func339,ntmps339;go_wp2;go_loop [5,6,7] (λt u i=>∃k:Nat,k<=s.size/\i=.int .i64 ((k:Int)-1)/\t=.int .i64 (Cd.gsP (s.data.toList.drop k)).1/\u=.int .i64 (Cd.gsP (s.data.toList.drop k)).2) (λ_ _ i=>(intOf i+1).toNat)
 case atStart=>exact kE
 case round=>obtain⟨k,hk,rfl,rfl,rfl⟩:=hrel;have hb:=Cd.gsP_bd _ (Cd.Vh HD.out k);rw[Z7]at hb;obtain⟨o8,n7⟩:=hb;by_cases hlt:k=0;(·exact kF);·obtain⟨j,rfl⟩:∃j,k=j+1:=⟨k-1,by omega⟩;obtain⟨b7,j0⟩:=HD.out _ (Zl s j C0);have hw:=Cd.gsP_w (s.data.toList.drop (j+1));have Du:j<s.size:=C0;have s5:Cd.gsP (s.data.toList.drop j)=((Cd.gsP (s.data.toList.drop (j+1))).1+(Cd.gsP (s.data.toList.drop (j+1))).2*Cd.dg s[j],4-(Cd.gsP (s.data.toList.drop (j+1))).2):=V0 Cd.gsP (R8 s j Du);generalize Cd.gsP (s.data.toList.drop (j+1))=g at*;have HS:=B0 s5;clear s5;obtain⟨a,b⟩:=g;dsimp only at hw o8 n7 HS⊢;split at hw;all_goals subst hw;clear hlt;go_wp2;go_round;(case rel=>exact kG);case measure=>simp[intOf]
def wJ(s:ByteArray)(w:World)(hs:s.size<=4096)(hd:Cd.IP s.data.toList):
 Calls prog 355 #[.agg #[],.string s] w λe w'=>e=.returned (.string ⟨(Cd.cmp 2 s.data.toList).toArray⟩)/\Ext w w':=by
 have HD:=B0 hd;clear hd;go_enter func355,ntmps355;go_wp2;go_loop [5,6,7] (λt u i=>∃k:Nat,k<=s.size/\i=.int .i64 ((k:Int)-1)/\t=.int .i64 (Cd.lnP (s.data.toList.drop k)).1/\u=.bool (Cd.lnP (s.data.toList.drop k)).2) (λ_ _ i=>(intOf i+1).toNat)
 case atStart=>exact kE
 case round=>obtain⟨k,hk,rfl,rfl,rfl⟩:=hrel;have hb:=Cd.lnP_bd _ (Cd.Vh HD.out k);rw[Z7]at hb;obtain⟨o8,n7⟩:=hb;by_cases hlt:k=0;(·exact kF);·obtain⟨j,rfl⟩:∃j,k=j+1:=⟨k-1,by omega⟩;obtain⟨b7,j0⟩:=HD.out _ (Zl s j C0);have Du:j<s.size:=C0;have s5:Cd.lnP (s.data.toList.drop j)=((Cd.lnP (s.data.toList.drop (j+1))).1+(if(Cd.lnP (s.data.toList.drop (j+1))).2 then Cd.dbl (Cd.dg s[j])else Cd.dg s[j]),!(Cd.lnP (s.data.toList.drop (j+1))).2):=V0 Cd.lnP (R8 s j Du);generalize Cd.lnP (s.data.toList.drop (j+1))=g at*;have HS:=B0 s5;clear s5;obtain⟨a,b⟩:=g;dsimp only at o8 n7 HS⊢;clear hlt;cases b;(·go_wp2;go_round;(case rel=>exact kG);case measure=>simp[intOf]);·by_cases h9:9<((s[j].toNat:Int)-48)*2;(·go_wp2;go_round;(case rel=>exact⟨j,by omega,by go_num,by rw[HS.out];simp only[M3,Cd.dg,Cd.dbl_hi _ h9],by rw[HS.out];rfl⟩);case measure=>simp[intOf]);·go_wp2;go_round;(case rel=>exact⟨j,by omega,by go_num,by rw[HS.out];simp only[M3,Cd.dg,Cd.dbl_lo _ h9],by rw[HS.out];rfl⟩);case measure=>simp[intOf]
def wK(s:ByteArray)(w:World)(hs:s.size<=4096)(hd:Cd.IP s.data.toList):
 Calls prog 362 #[.agg #[],.string s] w λe w'=>e=.returned (.string ⟨(Cd.cmp 6 s.data.toList).toArray⟩)/\Ext w w':=by
 have HD:=B0 hd;clear hd;go_enter func362,ntmps362;go_wp2;go_loop [5,10] (λt i=>∃k:Nat,k<=s.size/\i=.int .i64 (k:Int)/\t=.int .i64 (Cd.i97 (s.data.toList.take k))) (λ_ i=>s.size-(intOf i).toNat)
 case atStart=>exact WQ
 case round=>obtain⟨k,hk,rfl,rfl⟩:=hrel;obtain⟨o8,n7⟩:=Cd.i97_bd (s.data.toList.take k);by_cases hlt:k<s.size;(·obtain⟨b7,j0⟩:=HD.out _ (Zl s k hlt);have s5:Cd.i97 (s.data.toList.take (k+1))=(10*Cd.i97 (s.data.toList.take k)+Cd.dg s[k])%97:=(by rw[Z1 s k hlt];unfold Cd.i97;rw[Cd.aA8]);generalize Cd.i97 (s.data.toList.take k)=g at*;exact kH);·obtain rfl:k=s.size:=C0;rw[Zu]at o8 n7⊢;clear hk hlt;have H1:=B0 (Cd.dec_chr ((98-100*Cd.i97 s.data.toList%97)/10).toNat C0);have H2:=B0 (Cd.dec_chr ((98-100*Cd.i97 s.data.toList%97)%10).toNat C0);go_wp2_with fail;obtain⟨n1,IU⟩:∃n1:Nat,(98-100*Cd.i97 s.data.toList%97)/10=(n1:Int):=⟨((98-100*Cd.i97 s.data.toList%97)/10).toNat,by omega⟩;rw[IU];refine(Tryz.strconv_Itoa_small n1 C0 _).mono ?_;rintro e w' ⟨rfl,rfl⟩;have Gc:=B0 IU;clear IU;go_wp2_with fail;obtain⟨n2,Av⟩:∃n2:Nat,(98-100*Cd.i97 s.data.toList%97)%10=(n2:Int):=⟨((98-100*Cd.i97 s.data.toList%97)%10).toNat,by omega⟩;rw[Av];refine(Tryz.strconv_Itoa_small n2 C0 _).mono ?_;rintro e w' ⟨rfl,rfl⟩;have Db:=B0 Av;clear Av;rw[Cd.dec_chr n1 (by have:=Gc.out;omega),Cd.dec_chr n2 (by have:=Db.out;omega)];go_wp2;go_ret;exact⟨ZC (by simp only[Cd.cmp];rw[Gc.out,Db.out];rfl),Xe⟩
def wL(s:ByteArray)(w:World)(hs:s.size<=4096)(hd:Cd.IP s.data.toList):
 Calls prog 370 #[.agg #[],.string s] w λe w'=>e=.returned (.string ⟨(Cd.cmp 8 s.data.toList).toArray⟩)/\Ext w w':=by
 have HD:=B0 hd;clear hd;go_enter func370,ntmps370;go_wp2;go_loop [5,9] (λt i=>∃k:Nat,k<=s.size/\i=.int .i64 (k:Int)/\t=.int .i64 (Cd.i11 (s.data.toList.take k))) (λ_ i=>s.size-(intOf i).toNat)
 case atStart=>exact WQ
 case round=>obtain⟨k,hk,rfl,rfl⟩:=hrel;obtain⟨o8,n7⟩:=Cd.i11_bd (s.data.toList.take k);by_cases hlt:k<s.size;(·obtain⟨b7,j0⟩:=HD.out _ (Zl s k hlt);have s5:Cd.i11 (s.data.toList.take (k+1))=2*(Cd.i11 (s.data.toList.take k)+Cd.dg s[k])%11:=(by rw[Z1 s k hlt];unfold Cd.i11;rw[Cd.aA8]);generalize Cd.i11 (s.data.toList.take k)=g at*;exact kH);·obtain rfl:k=s.size:=C0;rw[Zu]at o8 n7⊢;clear hk hlt;exact FV
def wM(s:ByteArray)(w:World)(hs:s.size=9)(hd:Cd.IP s.data.toList):
 Calls prog 357 #[.agg #[],.string s] w λe w'=>e=.returned (.string ⟨(Cd.cmp 3 s.data.toList).toArray⟩)/\Ext w w':=by
 have HD:=B0 hd;have HN:=B0 hs;have Sz:s.size<=9:=by omega
 clear hd hs;go_enter func357,ntmps357;go_wp2;go_loop [5,9] (λt i=>∃k:Nat,k<=s.size/\i=.int .i64 (k:Int)/\t=.int .i64 (Cd.isb s.data.toList-Cd.isb (s.data.toList.drop k))) (λ_ i=>s.size-(intOf i).toNat)
 case atStart=>exact⟨0,R0 _,rfl,by simp⟩
 case round=>obtain⟨k,hk,rfl,rfl⟩:=hrel;obtain⟨Bu,IB⟩:=Cd.isb_bd s.data.toList HD.out (by rw[Za];exact Sz);obtain⟨o8,n7⟩:=Cd.isb_bd (s.data.toList.drop k) (Cd.Vh HD.out k) (by rw[Z7];omega);rw[Za]at IB;rw[Z7]at n7;by_cases hlt:k<s.size;(·obtain⟨b7,j0⟩:=HD.out _ (Zl s k hlt);have s5:Cd.isb (s.data.toList.drop k)=Cd.isb (s.data.toList.drop (k+1))+(((s.data.toList.drop (k+1)).length:Int)+2)*Cd.dg s[k]:=(by rw[R8 s k hlt];rfl);rw[Z7,show((s.size-(k+1):Nat):Int)+2=10-(k:Int) by have:=HN.out;omega]at s5;have Be:0<=(10-(k:Int))*((s[k].toNat:Int)-48):=S8 C0 C0;have Cl:(10-(k:Int))*((s[k].toNat:Int)-48)<=10*9:=YM C0 C0 C0 C0;generalize Cd.isb (s.data.toList.drop k)=g at*;generalize Cd.isb s.data.toList=g0 at*;have HS:=B0 s5;clear s5;go_wp2;go_round;(case rel=>exact⟨k+1,by omega,by go_num,by have:=HS.out;simp only[Cd.dg]at this;congr 1;omega⟩);case measure=>exact QH);·obtain rfl:k=s.size:=C0;rw[V7]at o8 n7⊢;clear hk hlt;simp only[Cd.isb,Int.sub_zero]at o8 n7⊢;exact FV
end Go.Proofs.Enc
namespace Go.Proofs.Enc
open Go.Proofs.Tryz
open Go.RowKit
def wN(c:UInt8):((c.toNat:Int).toNat).toUInt8=c:=by simp
def FW(c:Int)(w:World):
 Calls prog 56 #[.string ⟨#[48,49,50,51,52,53,54,55,56,57,65,66,67,68,69,70,71,72,73,74,75,76,77,78,79,80,81,82,83,84,85,86,87,88,89,90,45,46,32,36,47,43,37]⟩,.int .u8 c] w λe w'=>e=.returned (.int .i64 (Cd.Hd c.toNat.toUInt8))/\w=w':=
 (Tryz.strings_IndexByte _ c w).mono λ_ _ ⟨he,hw⟩=>⟨he,hw.symm⟩
def wO:∀n:Fin 43,((⟨Cd.syms.toArray⟩:ByteArray).extract n.1 (n.1+1)).data.toList=[Cd.syms.getD n.1 48]:=L2
def wP(n:Nat)(h:n<43):(⟨Cd.syms.toArray⟩:ByteArray).extract (n:Int).toNat ((n:Int)+1).toNat=⟨[Cd.syms.getD (n:Int).toNat 48].toArray⟩:=by
 have h1:=wO ⟨n,h⟩;have e:((n:Int)+1).toNat=n+1:=by omega
 rw[e,H6];dsimp only at h1;rw[<-h1]
def wQ(s:ByteArray)(w:World)(hs:s.size<=4096)(hd:∀c∈s.data.toList,0<=Cd.Hd c):
 Calls prog 365 #[.agg #[],.string s] w λe w'=>e=.returned (.string ⟨(Cd.cmp 7 s.data.toList).toArray⟩)/\Ext w w':=by
 have HD:=B0 hd;clear hd;go_enter func365,ntmps365;go_wp2;go_loop [5,10] (λt i=>∃k:Nat,k<=s.size/\i=.int .i64 (k:Int)/\t=.int .i64 (Cd.c39 (s.data.toList.take k))) (λ_ i=>s.size-(intOf i).toNat)
 case atStart=>exact WQ
 case round=>obtain⟨k,hk,rfl,rfl⟩:=hrel;obtain⟨o8,n7⟩:=Cd.c39_bd (s.data.toList.take k) (λc hc=>HD.out c (I4 hc));rw[W7 s k hk]at n7;by_cases hlt:k<s.size;(·have b7:=HD.out _ (Zl s k hlt);have j0:=(Cd.plc_bd s[k]).2;have s5:Cd.c39 (s.data.toList.take (k+1))=Cd.c39 (s.data.toList.take k)+Cd.Hd s[k]:=kI;generalize Cd.c39 (s.data.toList.take k)=g at*;have HS:=B0 s5;clear s5;go_wp2_with fail;refine(FW _ _).mono ?_;rintro e w' ⟨rfl,rfl⟩;rw[wN];exact kJ);·obtain rfl:k=s.size:=C0;rw[Zu]at o8 n7⊢;clear hk hlt;go_wp2;go_ret;exact⟨ZC kK,Xe⟩
def FX(a b:Int)(w:World)(h0:0<=a)(h1:a<=9)(h2:0<=b)(h3:b<=9):
 Calls prog 360 #[.int .i64 a,.int .i64 b] w λe w'=>e=.returned (.int .i64 (Cd.Jj a b))/\w=w':=by
 by_cases ha:a<5<;>by_cases hb:b<5;all_goals
  go_enter func360,ntmps360;go_wp2;go_ret;exact⟨Zo (by
   unfold Cd.Jj
   repeat' split
   all_goals omega),rfl⟩
def ND:Obj:=.cells #[.string ⟨#[48,51,49,55,53,57,56,54,52,50]⟩,.string ⟨#[55,48,57,50,49,53,52,56,54,51]⟩,.string ⟨#[52,50,48,54,56,55,49,51,53,57]⟩,.string ⟨#[49,55,53,48,57,56,51,52,50,54]⟩,.string ⟨#[54,49,50,51,48,52,53,57,55,56]⟩,.string ⟨#[51,54,55,52,50,48,57,53,56,49]⟩,.string ⟨#[53,56,54,57,55,50,48,49,51,52]⟩,.string ⟨#[56,57,52,53,51,54,50,48,49,55]⟩,.string ⟨#[57,52,51,56,54,49,55,50,48,53]⟩,.string ⟨#[50,53,56,49,52,51,54,55,57,48]⟩] 210
def WR(c:Nat):ByteArray:=⟨(Cd.dmT.getD c []).toArray⟩
def wR(w:World):∀c:Nat,c<10->((w.alloc (.cells #[] 191)).alloc ND).cell? ⟨w.heap.size+1,c,none⟩=some (.string (WR c)):=by
 intro c hc;rw[ND,World.cell?_alloc2_new];have h:∀c:Fin 10,(#[.string ⟨#[48,51,49,55,53,57,56,54,52,50]⟩,.string ⟨#[55,48,57,50,49,53,52,56,54,51]⟩,.string ⟨#[52,50,48,54,56,55,49,51,53,57]⟩,.string ⟨#[49,55,53,48,57,56,51,52,50,54]⟩,.string ⟨#[54,49,50,51,48,52,53,57,55,56]⟩,.string ⟨#[51,54,55,52,50,48,57,53,56,49]⟩,.string ⟨#[53,56,54,57,55,50,48,49,51,52]⟩,.string ⟨#[56,57,52,53,51,54,50,48,49,55]⟩,.string ⟨#[57,52,51,56,54,49,55,50,48,53]⟩,.string ⟨#[50,53,56,49,52,51,54,55,57,48]⟩]:Array Value)[c.1]? =some (.string (WR c.1)):=by
  intro c
  match c with
  |⟨0,_⟩=>rfl
  |⟨1,_⟩=>rfl
  |⟨2,_⟩=>rfl
  |⟨3,_⟩=>rfl
  |⟨4,_⟩=>rfl
  |⟨5,_⟩=>rfl
  |⟨6,_⟩=>rfl
  |⟨7,_⟩=>rfl
  |⟨8,_⟩=>rfl
  |⟨9,_⟩=>rfl
 exact h ⟨c,hc⟩
def wS:∀(c x:Fin 10),∃h:x.1<(WR c.1).size,48<=((WR c.1)[x.1]'h).toNat/\((WR c.1)[x.1]'h).toNat<=57/\Cd.Rr (c.1:Int) (x.1:Int)=(((WR c.1)[x.1]'h).toNat:Int)-48:=by decide
def wU(s:ByteArray)(w:World)(hs:s.size<=4096)(hd:Cd.IP s.data.toList):
 Calls prog 361 #[.agg #[],.string s] w λe w'=>e=.returned (.string ⟨(Cd.cmp 5 s.data.toList).toArray⟩)/\Ext w w':=by
 have HD:=B0 hd;clear hd;go_enter func361,ntmps361;go_wp2;have HC:=B0 (wR w);have HX:Ext w ((w.alloc (.cells #[] 191)).alloc ND):=((Ext.refl _).alloc _).alloc _;unfold ND at HC HX;generalize(w.alloc (.cells #[] 191)).alloc (.cells #[.string ⟨#[48,51,49,55,53,57,56,54,52,50]⟩,.string ⟨#[55,48,57,50,49,53,52,56,54,51]⟩,.string ⟨#[52,50,48,54,56,55,49,51,53,57]⟩,.string ⟨#[49,55,53,48,57,56,51,52,50,54]⟩,.string ⟨#[54,49,50,51,48,52,53,57,55,56]⟩,.string ⟨#[51,54,55,52,50,48,57,53,56,49]⟩,.string ⟨#[53,56,54,57,55,50,48,49,51,52]⟩,.string ⟨#[56,57,52,53,51,54,50,48,49,55]⟩,.string ⟨#[57,52,51,56,54,49,55,50,48,53]⟩,.string ⟨#[50,53,56,49,52,51,54,55,57,48]⟩] 210)=W at*;go_loopw [6,11] (λt i wr=>(∃k:Nat,k<=s.size/\i=.int .i64 (k:Int)/\t=.int .i64 (Cd.dm (s.data.toList.take k)))/\∃n,wr=W.drewN n) (λ_ i _=>s.size-(intOf i).toNat)
 case atStart=>exact⟨⟨0,R0 _,rfl,rfl⟩,0,rfl⟩
 case round=>obtain⟨⟨k,hk,rfl,rfl⟩,n,rfl⟩:=hrel;obtain⟨o8,n7⟩:=Cd.dm_bd (s.data.toList.take k) (Cd.aDS HD.out k);by_cases hlt:k<s.size;(·obtain⟨b7,j0⟩:=HD.out _ (Zl s k hlt);have s5:Cd.dm (s.data.toList.take (k+1))=Cd.Rr (Cd.dm (s.data.toList.take k)) (Cd.dg s[k]):=(by rw[Z1 s k hlt];unfold Cd.dm;rw[Cd.aA8]);generalize Cd.dm (s.data.toList.take k)=g at*;obtain⟨c,rfl⟩:=C4 o8;obtain⟨x,hx⟩:∃x:Nat,Cd.dg s[k]=(x:Int):=⟨(Cd.dg s[k]).toNat,by unfold Cd.dg;omega⟩;have hx':(s[k].toNat:Int)-48=(x:Int):=hx;rw[hx]at s5;obtain⟨hr,Aw,Ez,hv3⟩:=wS ⟨c,by omega⟩ ⟨x,by unfold Cd.dg at hx;omega⟩;dsimp only at hr Aw Ez hv3;rw[hv3]at s5;have Eh:=HC.out c C0;generalize WR c=r at*;have HS:=B0 s5;clear s5 hv3 hx;go_wp2;go_quiet (fail);go_wp2;go_roundw;(case rel=>exact⟨⟨k+1,by omega,by go_num,by rw[HS.out]⟩,_,rfl⟩);case measure=>exact QH);·obtain rfl:k=s.size:=C0;rw[Zu]at o8 n7⊢;clear hk hlt;go_wp2_with fail;refine(FU _ _ C0 C0).mono ?_;rintro e w' ⟨rfl,rfl⟩;go_wp2;go_ret;exact⟨ZC YR,HX.drewN _⟩
def pwL(m d:Nat):List Value:=(List.range 10).map λj=>.int .i64 (if j<d then Cd.permN (m+1) (j:Int)else Cd.permN m (j:Int))
def pw(m d:Nat):Array Value:=(pwL m d).toArray
def wV(m d:Nat)(h:d<10):(pw m d)[d]? =some (.int .i64 (Cd.permN m (d:Int))):=by simp[pw,pwL,h]
def wW(m x:Nat)(h:x<10):(pw m 0)[x]? =some (.int .i64 (Cd.permN m (x:Int))):=by simp[pw,pwL,h]
def wX(m d:Nat)(h:d<10):(pw m d).setIfInBounds d (.int .i64 (Cd.perm (Cd.permN m (d:Int))))=pw m (d+1):=by
 apply FZ;intro i;rw[Array.getElem?_setIfInBounds];by_cases e:d=i;·subst e;simp[pw,pwL,h,Cd.permN]
 .rw[D0 e];by_cases hi:i<10;(·simp only[pw,pwL,RI,B3,EA hi,YS];by_cases hl:i<d;(·rw[G0 hl,G0 C0]);·rw[D0 hl,D0 C0]);·have e1:∀m d,(pw m d)[i]? =none:=(by intro m d;rw[Array.getElem?_eq_none_iff];simp[pw,pwL];omega);rw[e1,e1]
def wY(m:Nat):pw m 10=pw (m+1) 0:=by unfold pw pwL;congr 1
def RJ:Obj:=.cells #[.int .i64 1,.int .i64 5,.int .i64 7,.int .i64 6,.int .i64 2,.int .i64 8,.int .i64 3,.int .i64 0,.int .i64 9,.int .i64 4] 386
def wZ(w:World):∀c:Nat,c<10->((w.alloc (.cells #[] 190)).alloc RJ).cell? ⟨w.heap.size+1,c,none⟩=some (.int .i64 (Cd.perm (c:Int))):=by
 intro c hc;rw[RJ,World.cell?_alloc2_new];have h:∀c:Fin 10,(#[.int .i64 1,.int .i64 5,.int .i64 7,.int .i64 6,.int .i64 2,.int .i64 8,.int .i64 3,.int .i64 0,.int .i64 9,.int .i64 4]:Array Value)[c.1]? =some (.int .i64 (Cd.perm (c.1:Int))):=by
  intro c
  match c with
  |⟨0,_⟩=>rfl
  |⟨1,_⟩=>rfl
  |⟨2,_⟩=>rfl
  |⟨3,_⟩=>rfl
  |⟨4,_⟩=>rfl
  |⟨5,_⟩=>rfl
  |⟨6,_⟩=>rfl
  |⟨7,_⟩=>rfl
  |⟨8,_⟩=>rfl
  |⟨9,_⟩=>rfl
 exact h ⟨c,hc⟩
def ZlE:(#[.int .i64 0,.int .i64 1,.int .i64 2,.int .i64 3,.int .i64 4,.int .i64 5,.int .i64 6,.int .i64 7,.int .i64 8,.int .i64 9]:Array Value)=pw 0 0:=rfl
def ZgU(s:ByteArray)(w:World)(hs:s.size<=4096)(hd:Cd.IP s.data.toList):
 Calls prog 359 #[.agg #[],.string s] w λe w'=>e=.returned (.string ⟨(Cd.cmp 4 s.data.toList).toArray⟩)/\Ext w w':=by
 have HD:=B0 hd;clear hd;go_enter func359,ntmps359;go_wp2;have HC:=B0 (wZ w);have HX:Ext w ((w.alloc (.cells #[] 190)).alloc RJ):=((Ext.refl _).alloc _).alloc _;have hz:((w.alloc (.cells #[] 190)).alloc RJ).heap.size=w.heap.size+2:=by simp
 have HZ:=B0 hz;clear hz;unfold RJ at HC HX HZ;rw[ZlE];generalize(w.alloc (.cells #[] 190)).alloc (.cells #[.int .i64 1,.int .i64 5,.int .i64 7,.int .i64 6,.int .i64 2,.int .i64 8,.int .i64 3,.int .i64 0,.int .i64 9,.int .i64 4] 386)=W at*;go_loopw [7,8] (λt i wr=>∃k:Nat,k<=s.size/\i=.int .i64 ((k:Int)-1)/\t=.int .i64 (Cd.vh (s.data.toList.drop k))/\wr=W.alloc (.cells (pw (s.size-k) 0) 386)) (λ_ i _=>(intOf i+1).toNat)
 case atStart=>exact⟨s.size,J0 _,rfl,by rw[V7];rfl,by rw[Y3]⟩
 case round=>obtain⟨k,hk,rfl,rfl,rfl⟩:=hrel;obtain⟨o8,n7⟩:=Cd.aCx _ (Cd.Vh HD.out k);by_cases hlt:k=0;(·subst hlt;simp only[B5,T8]at o8 n7⊢;rw[show((0:Nat):Int)-1= -1 from rfl];have hX:=HX.alloc (.cells (pw s.size 0) 386);have HE:Hid (Cd.cmp 4 s.data.toList=[Cd.chr (Cd.inv (Cd.vh s.data.toList))]):=rfl;generalize Cd.vh s.data.toList=c at*;generalize W.alloc (.cells (pw s.size 0) 386)=W2 at*;have hi:=Cd.inv_bd c ⟨o8,n7⟩;go_wp2;go_loop [10] (λt=>∃n:Int,0<=n/\n<=Cd.inv c/\t=.int .i64 n) (λt=>(9-intOf t).toNat);(case atStart=>exact⟨0,by omega,by omega,rfl⟩);case round=>obtain⟨n,IU,Av,rfl⟩:=hrel;by_cases hn:n=Cd.inv c;(·have h0:(Cd.Jj n c !=0)=false:=(by rw[hn,Cd.dih_inv c ⟨o8,n7⟩];rfl);have HN:=B0 hn;obtain⟨Gh,So⟩:=hi;clear hn;go_wp2_with fail;refine(FX _ _ _ IU C0 o8 n7).mono ?_;rintro e w' ⟨rfl,rfl⟩;go_wp2_with fail;refine(FU _ _ IU C0).mono ?_;rintro e w' ⟨rfl,rfl⟩;go_wp2;go_ret;exact⟨ZC (by rw[HE.out,<-HN.out]),hX⟩);·have h0:(Cd.Jj n c !=0)=true:=(by simp only[R1,ne_eq];exact kL);have hn9:n<9:=C0;have HN:Hid (n+1<=Cd.inv c):=(by show n+1<=Cd.inv c;omega);clear hn;go_wp2_with fail;refine(FX _ _ _ IU C0 o8 n7).mono ?_;exact kM);·obtain⟨j,rfl⟩:∃j,k=j+1:=⟨k-1,by omega⟩;obtain⟨b7,j0⟩:=HD.out _ (Zl s j C0);have Du:j<s.size:=C0;have s5:Cd.vh (s.data.toList.drop j)=Cd.Jj (Cd.vh (s.data.toList.drop (j+1))) (Cd.permN ((s.data.toList.drop (j+1)).length+1) (Cd.dg s[j])):=V0 Cd.vh (R8 s j Du);rw[Z7]at s5;generalize Cd.vh (s.data.toList.drop (j+1))=g at*;have hm:s.size-j=s.size-(j+1)+1:=C0;have HM:=B0 hm;clear hm;generalize s.size-(j+1)=m at*;have HS:=B0 s5;clear s5 hlt;go_wp2;go_loopw [20] (λi wr=>∃d:Nat,d<=10/\i=.int .i64 (d:Int)/\wr=W.alloc (.cells (pw m d) 386)) (λi _=>10-(intOf i).toNat);(case atStart=>exact⟨0,by omega,rfl,rfl⟩);case round=>obtain⟨d,hd,rfl,rfl⟩:=hrel;have Hc:=HZ.out;have hf:=λx=>World.frozen?_alloc_at (w:=W) (pw m d) 386 (w.heap.size+2) x Hc.symm;have x8:=λx=>World.cell?_alloc_at (w:=W) (pw m d) 386 (w.heap.size+2) x Hc.symm;have hco:=λx=>World.cell?_alloc_past (w:=W) (.cells (pw m d) 386) (w.heap.size+1) x C0;by_cases hlt:d<10;(·have hq:=Cd.aBn m (d:Int) C0;have h1:=(x8 d).trans (wV m d hlt);have hset:=wX m d hlt;generalize Cd.permN m (d:Int)=q at*;obtain⟨q,rfl⟩:=C4 hq.1;have h2:=(hco q).trans (HC.out q C0);have h3:=hf d;have p9:=λv=>World.setCell_alloc_at (w:=W) (pw m d) 386 (w.heap.size+2) d v Hc.symm;obtain⟨_,Dh⟩:=hq;clear hf x8 hco;have HT:=B0 hset;have HZ2:=B0 Hc;clear hset Hc;go_wp2;go_roundw;(case rel=>exact⟨d+1,by omega,by go_num,by rw[HT.out]⟩);case measure=>exact QH);·obtain rfl:d=10:=C0;rw[wY]at x8⊢;obtain⟨x,hx⟩:∃x:Nat,Cd.dg s[j]=(x:Int):=⟨(Cd.dg s[j]).toNat,by unfold Cd.dg;omega⟩;have Bo:(s[j].toNat:Int)-48=(x:Int):=hx;have Bj:x<10:=C0;have h1:=(x8 x).trans (wW (m+1) x Bj);have hq:=Cd.aBn (m+1) (x:Int) C0;have Dc:=B0 (hx▸HS.out);generalize Cd.permN (m+1) (x:Int)=q at*;obtain⟨Ii,Dh⟩:=hq;have HZ2:=B0 Hc;clear x8 hco hf hlt hd hx Hc;go_wp2_with fail;refine(FX _ _ _ o8 n7 Ii Dh).mono ?_;rintro e w' ⟨rfl,rfl⟩;go_wp2;go_roundw;(case rel=>exact⟨j,by omega,by go_num,by rw[Dc.out],by rw[HM.out]⟩);case measure=>simp[intOf]
end Go.Proofs.Enc
namespace Go.Proofs.Enc
open Go.Proofs.Tryz
open Go.RowKit
def UL(w:World):Calls prog 337 #[.agg #[]] w λe w'=>e=.returned (.int .i64 1)/\Ext w w':=by go_enter func337,ntmps337;exact P9
def UM(w:World):Calls prog 336 #[.agg #[]] w λe w'=>e=.returned (.int .i64 0)/\Ext w w':=by go_enter func336,ntmps336;exact P9
def Zhu(w:World):Calls prog 358 #[.agg #[]] w λe w'=>e=.returned (.int .i64 9)/\Ext w w':=by go_enter func358,ntmps358;exact P9
def ZiQ(w:World):Calls prog 363 #[.agg #[]] w λe w'=>e=.returned (.int .i64 2)/\Ext w w':=by go_enter func363,ntmps363;exact P9
def Zhh(w:World):Calls prog 368 #[.agg #[]] w λe w'=>e=.returned (.int .i64 1)/\Ext w w':=by go_enter func368,ntmps368;exact P9
def ZfO(w:World):Calls prog 367 #[.agg #[]] w λe w'=>e=.returned (.int .i64 0)/\Ext w w':=by go_enter func367,ntmps367;exact P9
def WS(c:Int)(w:World):Calls prog 335 #[.agg #[],.int .u8 c] w λe w'=>e=.returned (.bool (Cd.isDig c))/\Ext w w':=by go_enter func335,ntmps335;exact kN
def RK(c:Int)(w:World):Calls prog 334 #[.agg #[],.int .u8 c] w λe w'=>e=.returned (.bool (Cd.isDig c))/\Ext w w':=by go_enter func334,ntmps334;exact kN
def ZiP(c:Int)(w:World):Calls prog 356 #[.agg #[],.int .u8 c] w λe w'=>e=.returned (.bool (Cd.isDig c || (c==88)))/\Ext w w':=by cases h:Cd.isDig c;all_goals have hd:=FT c;rw[h]at hd;have HD:=B0 hd;clear hd h;go_enter func356,ntmps356;go_wp2_with fail;refine(HD.out _).mono ?_;rintro e w' ⟨rfl,rfl⟩;go_wp2;go_ret;exact⟨rfl,Xe⟩
def Zhv(c:Int)(w:World):Calls prog 369 #[.agg #[],.int .u8 c] w λe w'=>e=.returned (.bool (Cd.isDig c || (c==88)))/\Ext w w':=by cases h:Cd.isDig c;all_goals have hd:=FT c;rw[h]at hd;have HD:=B0 hd;clear hd h;go_enter func369,ntmps369;go_wp2_with fail;refine(HD.out _).mono ?_;rintro e w' ⟨rfl,rfl⟩;go_wp2;go_ret;exact⟨rfl,Xe⟩
def Zhg(c:Int)(w:World):Calls prog 366 #[.agg #[],.int .u8 c] w λe w'=>e=.returned (.bool (decide (0<=Cd.Hd c.toNat.toUInt8)))/\Ext w w':=by go_enter func366,ntmps366;go_wp2_with fail;refine(FW _ _).mono ?_;exact EB
def Zgp(c:Int)(w:World):Calls prog 364 #[.agg #[],.int .u8 c] w λe w'=>e=.returned (.bool (decide (0<=Cd.Hd c.toNat.toUInt8)))/\Ext w w':=by go_enter func364,ntmps364;go_wp2_with fail;refine(FW _ _).mono ?_;exact EB
def Meth(T:Nat)(name:String)(args:Array Value)(v:Value):Prop:=
 ∃f,(∀w,(method 505 T (.agg #[]) name).run prog w=.ok (f,.agg #[]) w)/\(∀xs w,(callFunc f xs).run prog w=.ok (.enter f xs) w)/\
  ∀w,Calls prog f (#[.agg #[]]++args) w λe w'=>e=.returned v/\Ext w w'
structure I7 (k:Nat) (T:Nat):Prop where
 size:Meth T "barscan/checkdigit.size" #[] (.int .i64 (Cd.size k))
 length:Meth T "barscan/checkdigit.length" #[] (.int .i64 (if k=3 then 9 else 0))
 data:∀c:Int,Meth T "barscan/checkdigit.data" #[.int .u8 c] (.bool (Cd.datB k c))
 check:∀c:Int,Meth T "barscan/checkdigit.check" #[.int .u8 c] (.bool (Cd.chkB k c))
 compute:∀s:ByteArray,s.size<=4096->(∀c∈s.data.toList,Cd.datB k (c.toNat:Int)=true)->(k=3->s.size=9)->Meth T "barscan/checkdigit.compute" #[.string s] (.string ⟨(Cd.cmp k s.data.toList).toArray⟩)
 found:∀w,Calls prog 90 #[.int .i64 k] w λe w'=>e=.returned (.tuple #[.iface T (.agg #[]),.bool true])/\Ext w w'
def ZN{l:List UInt8}(h:∀c∈l,Cd.isDig (c.toNat:Int)=true):Cd.IP l:=λc hc=>by have:=h c hc;simp only[Cd.isDig,P1,G2]at this;omega
def Zpj:I7 1 187 where
 size:=⟨337,λ_=>by kernel_rfl,λ_ _=>by kernel_rfl,λw=>UL w⟩
 length:=⟨336,λ_=>by kernel_rfl,λ_ _=>by kernel_rfl,λw=>UM w⟩
 data c:=⟨335,λ_=>by kernel_rfl,λ_ _=>by kernel_rfl,λw=>WS c w⟩
 check c:=⟨334,λ_=>by kernel_rfl,λ_ _=>by kernel_rfl,λw=>RK c w⟩
 compute s h1 h2 h3:=⟨339,λ_=>by kernel_rfl,λ_ _=>by kernel_rfl,λw=>wI s w h1 (ZN h2)⟩
 found w:=R9
def Zpk:I7 2 188 where
 size:=⟨337,λ_=>by kernel_rfl,λ_ _=>by kernel_rfl,λw=>UL w⟩
 length:=⟨336,λ_=>by kernel_rfl,λ_ _=>by kernel_rfl,λw=>UM w⟩
 data c:=⟨335,λ_=>by kernel_rfl,λ_ _=>by kernel_rfl,λw=>WS c w⟩
 check c:=⟨334,λ_=>by kernel_rfl,λ_ _=>by kernel_rfl,λw=>RK c w⟩
 compute s h1 h2 h3:=⟨355,λ_=>by kernel_rfl,λ_ _=>by kernel_rfl,λw=>wJ s w h1 (ZN h2)⟩
 found w:=R9
def Zpl:I7 3 189 where
 size:=⟨337,λ_=>by kernel_rfl,λ_ _=>by kernel_rfl,λw=>UL w⟩
 length:=⟨358,λ_=>by kernel_rfl,λ_ _=>by kernel_rfl,λw=>Zhu w⟩
 data c:=⟨335,λ_=>by kernel_rfl,λ_ _=>by kernel_rfl,λw=>WS c w⟩
 check c:=⟨356,λ_=>by kernel_rfl,λ_ _=>by kernel_rfl,λw=>ZiP c w⟩
 compute s h1 h2 h3:=⟨357,λ_=>by kernel_rfl,λ_ _=>by kernel_rfl,λw=>wM s w (h3 rfl) (ZN h2)⟩
 found w:=R9
def Zpm:I7 4 190 where
 size:=⟨337,λ_=>by kernel_rfl,λ_ _=>by kernel_rfl,λw=>UL w⟩
 length:=⟨336,λ_=>by kernel_rfl,λ_ _=>by kernel_rfl,λw=>UM w⟩
 data c:=⟨335,λ_=>by kernel_rfl,λ_ _=>by kernel_rfl,λw=>WS c w⟩
 check c:=⟨334,λ_=>by kernel_rfl,λ_ _=>by kernel_rfl,λw=>RK c w⟩
 compute s h1 h2 h3:=⟨359,λ_=>by kernel_rfl,λ_ _=>by kernel_rfl,λw=>ZgU s w h1 (ZN h2)⟩
 found w:=R9
def Zpn:I7 5 191 where
 size:=⟨337,λ_=>by kernel_rfl,λ_ _=>by kernel_rfl,λw=>UL w⟩
 length:=⟨336,λ_=>by kernel_rfl,λ_ _=>by kernel_rfl,λw=>UM w⟩
 data c:=⟨335,λ_=>by kernel_rfl,λ_ _=>by kernel_rfl,λw=>WS c w⟩
 check c:=⟨334,λ_=>by kernel_rfl,λ_ _=>by kernel_rfl,λw=>RK c w⟩
 compute s h1 h2 h3:=⟨361,λ_=>by kernel_rfl,λ_ _=>by kernel_rfl,λw=>wU s w h1 (ZN h2)⟩
 found w:=R9
def Zpo:I7 6 192 where
 size:=⟨363,λ_=>by kernel_rfl,λ_ _=>by kernel_rfl,λw=>ZiQ w⟩
 length:=⟨336,λ_=>by kernel_rfl,λ_ _=>by kernel_rfl,λw=>UM w⟩
 data c:=⟨335,λ_=>by kernel_rfl,λ_ _=>by kernel_rfl,λw=>WS c w⟩
 check c:=⟨334,λ_=>by kernel_rfl,λ_ _=>by kernel_rfl,λw=>RK c w⟩
 compute s h1 h2 h3:=⟨362,λ_=>by kernel_rfl,λ_ _=>by kernel_rfl,λw=>wK s w h1 (ZN h2)⟩
 found w:=R9
def Zpp:I7 7 193 where
 size:=⟨368,λ_=>by kernel_rfl,λ_ _=>by kernel_rfl,λw=>Zhh w⟩
 length:=⟨367,λ_=>by kernel_rfl,λ_ _=>by kernel_rfl,λw=>ZfO w⟩
 data c:=⟨366,λ_=>by kernel_rfl,λ_ _=>by kernel_rfl,λw=>Zhg c w⟩
 check c:=⟨364,λ_=>by kernel_rfl,λ_ _=>by kernel_rfl,λw=>Zgp c w⟩
 compute s h1 h2 h3:=⟨365,λ_=>by kernel_rfl,λ_ _=>by kernel_rfl,λw=>wQ s w h1 (λc hc=>by have:=h2 c hc;simpa[Cd.datB]using this)⟩
 found w:=R9
def Zpq:I7 8 194 where
 size:=⟨337,λ_=>by kernel_rfl,λ_ _=>by kernel_rfl,λw=>UL w⟩
 length:=⟨336,λ_=>by kernel_rfl,λ_ _=>by kernel_rfl,λw=>UM w⟩
 data c:=⟨335,λ_=>by kernel_rfl,λ_ _=>by kernel_rfl,λw=>WS c w⟩
 check c:=⟨369,λ_=>by kernel_rfl,λ_ _=>by kernel_rfl,λw=>Zhv c w⟩
 compute s h1 h2 h3:=⟨370,λ_=>by kernel_rfl,λ_ _=>by kernel_rfl,λw=>wL s w h1 (ZN h2)⟩
 found w:=R9
def kO(k:Nat)(h1:1<=k)(h2:k<=8):∃T,I7 k T:=by
 match k,h1,h2 with
 |1,_,_=>exact⟨_,Zpj⟩
 |2,_,_=>exact⟨_,Zpk⟩
 |3,_,_=>exact⟨_,Zpl⟩
 |4,_,_=>exact⟨_,Zpm⟩
 |5,_,_=>exact⟨_,Zpn⟩
 |6,_,_=>exact⟨_,Zpo⟩
 |7,_,_=>exact⟨_,Zpp⟩
 |8,_,_=>exact⟨_,Zpq⟩
def kP(k:Int)(w:World)(h:k<1\/8<k):Calls prog 90 #[.int .i64 k] w λe w'=>e=.returned (.tuple #[.nilIface,.bool false])/\Ext w w':=by
 have h1:(k==1)=false:=X0;have h2:(k==2)=false:=X0;have h3:(k==3)=false:=X0;have h4:(k==4)=false:=X0;have h5:(k==5)=false:=X0;have h6:(k==6)=false:=X0;have h7:(k==7)=false:=X0;have h8:(k==8)=false:=X0;clear h;exact R9
end Go.Proofs.Enc
namespace Go.Proofs.Enc
open Go.Proofs.Tryz
open Go.RowKit
def NE(s:ByteArray)(p:UInt8->Bool)(k:Nat)(h:k<s.size):(s.data.toList.take (k+1)).all p=((s.data.toList.take k).all p&&p s[k]):=by rw[Z1 s k h];simp
def NF(s:ByteArray)(p:UInt8->Bool)(k:Nat)(h:k<s.size)(hp:p s[k]=false):s.data.toList.all p=false:=by rw[WT];exact⟨s[k],Zl s k h,by simp[hp]⟩
def EC(nm:String)(T:Nat)(p:Int->Bool)(hm:∀c:Int,Meth T nm #[.int .u8 c] (.bool (p c)))(s:ByteArray)(w:World)(hs:s.size<=9223372036854775807):
 Calls prog 91 #[.string s,.func (.method nm) #[.iface T (.agg #[])] #[]] w λe w'=>e=.returned (.bool (s.data.toList.all λc=>p c.toNat))/\Ext w w':=by
 have HM:=B0 hm;clear hm;go_enter func91,ntmps91;go_wp2;go_loopw [8] (λi wr=>∃k:Nat,k<=s.size/\i=.int .i64 k/\Hid ((s.data.toList.take k).all (λc=>p c.toNat)=true)/\Ext w wr) (λi _=>s.size-(intOf i).toNat)
 case atStart=>exact⟨0,R0 _,rfl,rfl,Ext.refl _⟩
 case round=>obtain⟨k,hk,rfl,ha,hx⟩:=hrel;by_cases hlt:k<s.size;(·obtain⟨f,h1,h2,h3⟩:=HM.out (s[k].toNat:Int);have HA:=B0 (NE s (λc=>p c.toNat) k hlt);have HF:=B0 (NF s (λc=>p c.toNat) k hlt);have H3:=B0 h3;clear h3;cases hp:p (s[k].toNat:Int);(·rw[hp]at H3;have HP:=B0 hp;clear hp;go_wp2_with fail;refine(H3.out _).mono ?_;rintro e w1 ⟨rfl,b7⟩;go_wp2;go_ret;exact⟨Zn (HF.out HP.out).symm,hx.trans b7⟩);·rw[hp]at H3;have HP:=B0 hp;clear hp;go_wp2_with fail;refine(H3.out _).mono ?_;rintro e w1 ⟨rfl,b7⟩;go_wp2;go_roundw;(case rel=>exact⟨k+1,by omega,by go_num,by show _=_;rw[HA.out,ha.out];simpa using HP.out,hx.trans b7⟩);case measure=>exact QH);·obtain rfl:k=s.size:=C0;rw[Zu]at ha;clear hk hlt;go_wp2;go_ret;exact⟨Zn ha.out.symm,hx⟩
def kQ(k:Nat)(T:Nat)(hy:I7 k T)(n:Nat)(w:World)(_hn:n<=1000000):
 Calls prog 92 #[.iface T (.agg #[]),.int .i64 n] w λe w'=>e=.returned (.bool (Cd.fits k n))/\Ext w w':=by
 obtain⟨f1,h1,h2,h3⟩:=hy.size;obtain⟨f2,g1,g2,g3⟩:=hy.length;have H3:=B0 h3;have G3:=B0 g3;clear h3 g3 hy;by_cases hk:k=3
 .subst hk;simp only[M3]at G3;rw[show Cd.size 3=1 from rfl]at H3;go_enter func92,ntmps92;go_wp2_with fail;refine(G3.out _).mono ?_;rintro e w1 ⟨rfl,b7⟩;go_wp2_with fail;refine(G3.out _).mono ?_;rintro e w2 ⟨rfl,j0⟩;go_wp2_with fail;refine(H3.out _).mono ?_;rintro e w3 ⟨rfl,j4⟩;go_wp2;go_ret;exact⟨Zn (by rw[K4];simp[Cd.fits];omega),(b7.trans j0).trans j4⟩
 .simp only[hk,E4]at G3;have o4:Cd.size k<=2:=(by unfold Cd.size;exact Y7);have HK:=B0 hk;clear hk;go_enter func92,ntmps92;go_wp2_with fail;refine(G3.out _).mono ?_;rintro e w1 ⟨rfl,b7⟩;go_wp2_with fail;refine(H3.out _).mono ?_;rintro e w3 ⟨rfl,j4⟩;go_wp2;go_ret;exact⟨Zn (by simp[Cd.fits,HK.out]),b7.trans j4⟩
def Zjs(k:Int)(s:ByteArray)(w:World)(h:k<1\/8<k):
 Calls prog 89 #[.int .i64 k,.string s] w λe w'=>e=.returned (.int .i64 1)/\Ext w w':=by
 have H:=B0 (kP k w h);clear h;go_enter func89,ntmps89;go_wp2_with fail;refine H.out.mono ?_;rintro e w1 ⟨rfl,b7⟩;go_wp2;go_ret;exact⟨rfl,b7⟩
def Zjt(k:Nat)(T:Nat)(hy:I7 k T)(s:ByteArray)(w:World)(hs:s.size<=9223372036854775807):
 Calls prog 89 #[.int .i64 k,.string s] w λe w'=>e=.returned (.int .i64 (Cd.ver k s.data.toList))/\Ext w w':=by
 have HF:=B0 (hy.found w);by_cases hl:4096<s.size
 .have HV:Hid (Cd.ver k s.data.toList=4):=(by show _=_;unfold Cd.ver;rw[Za,G0 hl]);clear hy;go_enter func89,ntmps89;go_wp2_with fail;refine HF.out.mono ?_;rintro e w1 ⟨rfl,b7⟩;go_wp2;go_ret;exact⟨Zo HV.out.symm,b7⟩
 .have HC:=B0 (λw=>kQ k T hy s.size w C0);have Ih:s.size<=4096:=C0;cases hf:Cd.fits k s.size;(·have HV:Hid (Cd.ver k s.data.toList=7):=(by show _=_;unfold Cd.ver;rw[Za,D0 hl,G0 hf]);rw[hf]at HC;clear hy hl hf;go_enter func89,ntmps89;go_wp2_with fail;refine HF.out.mono ?_;rintro e w1 ⟨rfl,b7⟩;go_wp2_with fail;refine(HC.out _).mono ?_;rintro e w2 ⟨rfl,j0⟩;go_wp2;go_ret;exact⟨Zo HV.out.symm,b7.trans j0⟩);·have hlt:=Cd.aD0 k s.size hf;have h9:Hid (k=3->s.size=10):=(by rintro rfl;exact Cd.aCF _ hf);obtain⟨f1,h1,h2,h3⟩:=hy.size;have HS:=B0 h3;have HY:=B0 hy;rw[hf]at HC;have HFT:=B0 hf;clear h3 hy hl hf;go_enter func89,ntmps89;go_wp2_with fail;refine HF.out.mono ?_;rintro e w1 ⟨rfl,b7⟩;go_wp2_with fail;refine(HC.out _).mono ?_;rintro e w2 ⟨rfl,j0⟩;go_wp2_with fail;refine T6 (C:=λw'=>∃x:Zw w2,w'=x.at') N0 N0 (Zw.drawn _) ?_;(try dsimp only);(repeat(first|go_big_quiet_step ((exact Zq (HS.out _)))|quiet_step ((exact Zq (HS.out _)))));refine U6 ?_;intro _ n9;obtain⟨x0,n9⟩:=n9;subst n9;obtain⟨w3,j4⟩:=x0;(try dsimp only);have hD:=Zx s (s.size-Cd.size k);have hE:=Z8 s (s.size-Cd.size k);have Ky:(s.extract 0 (s.size-Cd.size k)).size=s.size-Cd.size k:=(by rw[Zd hD,W7 _ _ C0]);have hEs:(s.extract (s.size-Cd.size k) s.size).size=s.size-(s.size-Cd.size k):=(by rw[Zd hE,Z7]);generalize s.extract 0 (s.size-Cd.size k)=D at*;generalize s.extract (s.size-Cd.size k) s.size=E at*;have hDl:D.size<=4096:=C0;have hEl:E.size<=4096:=C0;have HV:Hid (Cd.ver k s.data.toList=if D.data.toList.all (λc=>Cd.datB k c.toNat)=false then 6 else if E.data.toList.all (λc=>Cd.chkB k c.toNat)=false then 6 else if Cd.cmp k D.data.toList=E.data.toList then 0 else 8):=(by show _=_;unfold Cd.ver;rw[Za,D0 C0,D0 (by rw[HFT.out];exact Bool.noConfusion),<-hD,<-hE]);(have h9':Hid (k=3->D.size=9):=λe=>by have h1:=h9.out e;subst e;have h2:Cd.size 3=1:=rfl;omega);clear hD hE Ky hEs;have Il:=B0 (λw=>EC "barscan/checkdigit.data" T (Cd.datB k) HY.out.data D w C0);have Bv:=B0 (λw=>EC "barscan/checkdigit.check" T (Cd.chkB k) HY.out.check E w C0);have Dm:=B0 (λh=>HY.out.compute D hDl h h9'.out);have hXX:=(b7.trans j0).trans j4;clear b7 j0 j4;cases Ft:D.data.toList.all (λc=>Cd.datB k c.toNat);(·rw[Ft]at Il HV;simp only[M3]at HV;clear Ft Dm;go_wp2_with fail;refine(Il.out _).mono ?_;rintro e w4 ⟨rfl,j9⟩;go_wp2;go_ret;exact⟨Zo HV.out.symm,hXX.trans j9⟩);·rw[Ft]at Il HV;simp only[NG,E4]at HV;have aAb:∀c∈D.data.toList,Cd.datB k (c.toNat:Int)=true:=M1.1 Ft;obtain⟨f2,g1,g2,g3⟩:=Dm.out aAb;have HG:=B0 g3;clear g3 Ft aAb Dm;cases hea:E.data.toList.all (λc=>Cd.chkB k c.toNat);(·rw[hea]at Bv HV;simp only[M3]at HV;clear hea;go_wp2_with fail;refine(Il.out _).mono ?_;rintro e w4 ⟨rfl,j9⟩;go_wp2_with fail;refine(Bv.out _).mono ?_;rintro e w5 ⟨rfl,j5⟩;go_wp2;go_ret;exact⟨Zo HV.out.symm,(hXX.trans j9).trans j5⟩);·rw[hea]at Bv HV;simp only[NG,E4]at HV;clear hea;go_wp2_with fail;refine(Il.out _).mono ?_;rintro e w4 ⟨rfl,j9⟩;go_wp2_with fail;refine(Bv.out _).mono ?_;rintro e w5 ⟨rfl,j5⟩;go_wp2_with fail;refine(HG.out _).mono ?_;rintro e w6 ⟨rfl,o9⟩;have hXY:=((hXX.trans j9).trans j5).trans o9;by_cases hq:Cd.cmp k D.data.toList=E.data.toList;(·have hq':(!Cd.cmp k D.data.toList==E.toList)=false:=(by rw[I2,hq];simp);rw[G0 hq]at HV;exact kR);·have hq':(!Cd.cmp k D.data.toList==E.toList)=true:=(by rw[I2];simpa using hq);rw[D0 hq]at HV;exact kR
def ED(k:Int)(s:ByteArray)(w:World)(hs:s.size<=9223372036854775807):
 Calls prog 89 #[.int .i64 k,.string s] w λe w'=>e=.returned (.int .i64 (Cd.verI k s.data.toList))/\Ext w w':=by
 by_cases h:k<1\/8<k
 .rw[Cd.verI,G0 h];exact Zjs k s w h
 .rw[Cd.verI,D0 h];obtain⟨n,rfl⟩:=C4 (show 0<=k by omega);obtain⟨T,hT⟩:=kO n C0 C0;exact Zjt n T hT s w hs
def Zma{a b:ByteArray}{x y:Int}(h1:a=b)(h2:x=y):Ending.returned (.tuple #[.string a,.int .i64 x])=.returned (.tuple #[.string b,.int .i64 y]):=by rw[h1,h2]
def C8(s:ByteArray):s.data.toList=[]↔s.size=0:=by rw[<-Za];exact⟨λh=>by rw[h];rfl,λh=>U3 h⟩
def Zhj(k:Int)(s:ByteArray)(w:World)(h:k<1\/8<k):
 Calls prog 52 #[.int .i64 k,.string s] w λe w'=>e=.returned (.tuple #[.string ⟨#[]⟩,.int .i64 1])/\Ext w w':=by
 have H:=B0 (kP k w h);clear h;go_enter func52,ntmps52;go_wp2_with fail;refine H.out.mono ?_;rintro e w1 ⟨rfl,b7⟩;go_wp2;go_ret2;exact⟨rfl,b7⟩
def Zhk(k:Nat)(T:Nat)(hy:I7 k T)(s:ByteArray)(w:World)(hs:s.size<=9223372036854775807):
 Calls prog 52 #[.int .i64 k,.string s] w λe w'=>e=.returned (.tuple #[.string ⟨(Cd.comp k s.data.toList).1.toArray⟩,.int .i64 (Cd.comp k s.data.toList).2])/\Ext w w':=by
 have HF:=B0 (hy.found w);by_cases h0:s.size=0
 .have HV:Hid (Cd.comp k s.data.toList=([],5)):=kS;have h1:s.toList=[]:=(by rw[I2];exact(C8 s).2 h0);have h2:s.toList.isEmpty=true:=RL;clear hy h0;exact kT
 .have k7:s.data.toList≠ []:=λh=>h0 ((C8 s).1 h);have h2:s.toList.isEmpty=false:=(by rw[I2];simpa using k7);have h1:¬s.toList=[]:=(by rw[I2];exact k7);by_cases hl:4096<s.size;(·have HV:Hid (Cd.comp k s.data.toList=([],4)):=kU;clear hy k7 h0;exact kT);·have HV:Hid (Cd.comp k s.data.toList=if s.data.toList.all (λc=>Cd.datB k c.toNat)=false then([],6)else if Cd.fits k (s.size+Cd.size k)=false then([],7)else(Cd.cmp k s.data.toList,0)):=kV;have Il:=B0 (λw=>EC "barscan/checkdigit.data" T (Cd.datB k) hy.data s w hs);obtain⟨p8,x9⟩:=Cd.size_bd k;have Ih:s.size<=4096:=C0;cases Ft:s.data.toList.all (λc=>Cd.datB k c.toNat);(·rw[Ft]at Il HV;simp only[M3]at HV;clear hy k7 h0 hl Ft;go_enter func52,ntmps52;go_wp2_with fail;refine HF.out.mono ?_;rintro e w1 ⟨rfl,b7⟩;go_wp2_with fail;refine(Il.out _).mono ?_;rintro e w2 ⟨rfl,j0⟩;go_wp2;go_ret2;exact⟨by rw[HV.out];rfl,b7.trans j0⟩);·rw[Ft]at Il HV;simp only[NG,E4]at HV;have HC:=B0 (λw=>kQ k T hy (s.size+Cd.size k) w C0);obtain⟨f1,g1,g2,g3⟩:=hy.size;have HS:=B0 g3;have aAb:=M1.1 Ft;cases hf:Cd.fits k (s.size+Cd.size k);(·rw[hf]at HC HV;simp only[M3]at HV;clear g3 hy k7 h0 hl Ft aAb hf;go_enter func52,ntmps52;go_wp2_with fail;refine HF.out.mono ?_;rintro e w1 ⟨rfl,b7⟩;go_wp2_with fail;refine(Il.out _).mono ?_;rintro e w2 ⟨rfl,j0⟩;go_wp2_with fail;refine(HS.out _).mono ?_;rintro e w3 ⟨rfl,j4⟩;go_wp2_with fail;refine(HC.out _).mono ?_;rintro e w4 ⟨rfl,j9⟩;go_wp2;go_ret2;exact⟨by rw[HV.out];rfl,((b7.trans j0).trans j4).trans j9⟩);·rw[hf]at HC HV;simp only[NG,E4]at HV;obtain⟨f2,k1,k2,k3⟩:=hy.compute s Ih aAb (λe=>by subst e;have:=Cd.aCF _ hf;have h2:Cd.size 3=1:=rfl;omega);have HG:=B0 k3;clear g3 k3 hy k7 h0 hl Ft aAb hf;go_enter func52,ntmps52;go_wp2_with fail;refine HF.out.mono ?_;rintro e w1 ⟨rfl,b7⟩;go_wp2_with fail;refine(Il.out _).mono ?_;rintro e w2 ⟨rfl,j0⟩;go_wp2_with fail;refine(HS.out _).mono ?_;rintro e w3 ⟨rfl,j4⟩;go_wp2_with fail;refine(HC.out _).mono ?_;rintro e w4 ⟨rfl,j9⟩;go_wp2_with fail;refine(HG.out _).mono ?_;rintro e w5 ⟨rfl,j5⟩;go_wp2;go_ret2;exact⟨by rw[HV.out];rfl,(((b7.trans j0).trans j4).trans j9).trans j5⟩
def NH(k:Int)(s:ByteArray)(w:World)(hs:s.size<=9223372036854775807):
 Calls prog 52 #[.int .i64 k,.string s] w λe w'=>e=.returned (.tuple #[.string ⟨(Cd.compI k s.data.toList).1.toArray⟩,.int .i64 (Cd.compI k s.data.toList).2])/\Ext w w':=by
 by_cases h:k<1\/8<k
 .rw[Cd.compI,G0 h];exact Zhj k s w h
 .rw[Cd.compI,D0 h];obtain⟨n,rfl⟩:=C4 (show 0<=k by omega);obtain⟨T,hT⟩:=kO n C0 C0;exact Zhk n T hT s w hs
end Go.Proofs.Enc
end
namespace Go.Proofs.Enc
open Go.Proofs.Tryz
section
open Go.RowKit
def NI(s:ByteArray)(c:Int)(w:World):
 Calls prog 56 #[.string s,.int .u8 c] w λe w'=>e=.returned (.int .i64 (Lib.indexByte s.data.toList c.toNat.toUInt8))/\w=w':=
 (Tryz.strings_IndexByte _ c w).mono λ_ _ ⟨he,hw⟩=>⟨he,hw.symm⟩
def RM(c:UInt8):((c.toNat:Int).toNat).toUInt8=c:=by rw[H6];simp
def YT(l:List UInt8)(c:UInt8)(n:Nat)(h:Lib.indexByte l c=(n:Int)):n<l.length:=by have:=(Lib.indexByte_some h).1;rw[N1]at this;exact this.1
end
end Go.Proofs.Enc
