/-
  Laid.
-/
import Derived.Test.YtbngggoccndefaaGreatDoorUn03
set_option maxHeartbeats 16000000
set_option maxRecDepth 100000
set_option linter.all false
section
namespace Go.Proofs.YtbngggoccndefaaGreatDoor
open Go.Proofs.Tryz
open Go.RowKit
theorem GJ (c:Int) (w:World):
 Calls prog 338 #[.int .u8 c] w fun e w'=>e=.returned (.bool (Cd.isDig c))∧w=w':=by
 go_enter func338,ntmps338
 go_wp2
 ·exact OO
 ·exact OP
theorem GK (v:Int) (w:World) (h0:0<=v) (h1:v<=10):
 Calls prog 340 #[.int .i64 v] w fun e w'=>e=.returned (.string ⟨#[Cd.chr v]⟩)∧w=w':=by
 by_cases h:v=10
 ·subst h;go_enter func340,ntmps340;exact C6
 ·have hb:(v==10)=false:=M5;obtain⟨n,rfl⟩:=K4 h0;have hd:=Cd.dec_chr n B0;have HD:=A0 hd;clear hd h;go_enter func340,ntmps340;go_wp2_with fail;refine(Tryz.strconv_Itoa_small n B0 _).mono ?_;rintro e w' ⟨rfl,rfl⟩;go_wp2;go_ret;exact⟨Z8 (by rw[HD.out]),rfl⟩
theorem wQ (s:ByteArray) (w:World) (hs:s.size<=4096) (hd:Cd.AllDig s.data.toList):
 Calls prog 339 #[.agg #[],.string s] w fun e w'=>e=.returned (.string ⟨(Cd.cmp 1 s.data.toList).toArray⟩)∧Ext w w':=by
 have HD:=A0 hd
 clear hd
 go_enter func339,ntmps339
 go_wp2
 go_loop [5,6,7] (fun t u i=>∃k:Nat,k<=s.size∧i=.int .i64 ((k:Int)-1)∧t=.int .i64 (Cd.gsP (s.data.toList.drop k)).1∧u=.int .i64 (Cd.gsP (s.data.toList.drop k)).2) (fun _ _ i=>(intOf i+1).toNat)
 case atStart=>exact yC
 case round=>obtain⟨k,hk,rfl,rfl,rfl⟩:=hrel;have hb:=Cd.gsP_bd _ (Cd.allDig_drop HD.out k);rw[Z7]at hb;obtain⟨hb1,hb2⟩:=hb;by_cases hlt:k=0;(·exact yD);·obtain⟨j,rfl⟩:∃j,k=j+1:=⟨k-1,by omega⟩;obtain⟨hx1,hx2⟩:=HD.out _ (Zn s j B0);have hw:=Cd.gsP_w (s.data.toList.drop (j+1));have hjl:j<s.size:=B0;have hs1:Cd.gsP (s.data.toList.drop j)=((Cd.gsP (s.data.toList.drop (j+1))).1+(Cd.gsP (s.data.toList.drop (j+1))).2*Cd.dg s[j],4-(Cd.gsP (s.data.toList.drop (j+1))).2):=R0 Cd.gsP (XF s j hjl);generalize Cd.gsP (s.data.toList.drop (j+1))=g at*;have HS:=A0 hs1;clear hs1;obtain⟨a,b⟩:=g;dsimp only at hw hb1 hb2 HS⊢;split at hw;all_goals subst hw;clear hlt;go_wp2;go_round;(case rel=>exact yE);case measure=>simp[intOf]
theorem wR (s:ByteArray) (w:World) (hs:s.size<=4096) (hd:Cd.AllDig s.data.toList):
 Calls prog 355 #[.agg #[],.string s] w fun e w'=>e=.returned (.string ⟨(Cd.cmp 2 s.data.toList).toArray⟩)∧Ext w w':=by
 have HD:=A0 hd
 clear hd
 go_enter func355,ntmps355
 go_wp2
 go_loop [5,6,7] (fun t u i=>∃k:Nat,k<=s.size∧i=.int .i64 ((k:Int)-1)∧t=.int .i64 (Cd.lnP (s.data.toList.drop k)).1∧u=.bool (Cd.lnP (s.data.toList.drop k)).2) (fun _ _ i=>(intOf i+1).toNat)
 case atStart=>exact yC
 case round=>obtain⟨k,hk,rfl,rfl,rfl⟩:=hrel;have hb:=Cd.lnP_bd _ (Cd.allDig_drop HD.out k);rw[Z7]at hb;obtain⟨hb1,hb2⟩:=hb;by_cases hlt:k=0;(·exact yD);·obtain⟨j,rfl⟩:∃j,k=j+1:=⟨k-1,by omega⟩;obtain⟨hx1,hx2⟩:=HD.out _ (Zn s j B0);have hjl:j<s.size:=B0;have hs1:Cd.lnP (s.data.toList.drop j)=((Cd.lnP (s.data.toList.drop (j+1))).1+(if(Cd.lnP (s.data.toList.drop (j+1))).2 then Cd.dbl (Cd.dg s[j])else Cd.dg s[j]),!(Cd.lnP (s.data.toList.drop (j+1))).2):=R0 Cd.lnP (XF s j hjl);generalize Cd.lnP (s.data.toList.drop (j+1))=g at*;have HS:=A0 hs1;clear hs1;obtain⟨a,b⟩:=g;dsimp only at hb1 hb2 HS⊢;clear hlt;cases b;(·go_wp2;go_round;(case rel=>exact yE);case measure=>simp[intOf]);·by_cases h9:9<((s[j].toNat:Int)-48)*2;(·go_wp2;go_round;(case rel=>exact⟨j,by omega,by go_num,by rw[HS.out];simp only[W4,Cd.dg,Cd.dbl_hi _ h9],by rw[HS.out];rfl⟩);case measure=>simp[intOf]);·go_wp2;go_round;(case rel=>exact⟨j,by omega,by go_num,by rw[HS.out];simp only[W4,Cd.dg,Cd.dbl_lo _ h9],by rw[HS.out];rfl⟩);case measure=>simp[intOf]
theorem wS (s:ByteArray) (w:World) (hs:s.size<=4096) (hd:Cd.AllDig s.data.toList):
 Calls prog 362 #[.agg #[],.string s] w fun e w'=>e=.returned (.string ⟨(Cd.cmp 6 s.data.toList).toArray⟩)∧Ext w w':=by
 have HD:=A0 hd
 clear hd
 go_enter func362,ntmps362
 go_wp2
 go_loop [5,10] (fun t i=>∃k:Nat,k<=s.size∧i=.int .i64 (k:Int)∧t=.int .i64 (Cd.i97 (s.data.toList.take k))) (fun _ i=>s.size-(intOf i).toNat)
 case atStart=>exact XK
 case round=>obtain⟨k,hk,rfl,rfl⟩:=hrel;obtain⟨hb1,hb2⟩:=Cd.i97_bd (s.data.toList.take k);by_cases hlt:k<s.size;(·obtain⟨hx1,hx2⟩:=HD.out _ (Zn s k hlt);have hs1:Cd.i97 (s.data.toList.take (k+1))=(10*Cd.i97 (s.data.toList.take k)+Cd.dg s[k])%97:=(by rw[ZF s k hlt];unfold Cd.i97;rw[Cd.foldl_snoc]);generalize Cd.i97 (s.data.toList.take k)=g at*;exact yF);·obtain rfl:k=s.size:=B0;rw[Z3]at hb1 hb2⊢;clear hk hlt;have H1:=A0 (Cd.dec_chr ((98-100*Cd.i97 s.data.toList%97)/10).toNat B0);have H2:=A0 (Cd.dec_chr ((98-100*Cd.i97 s.data.toList%97)%10).toNat B0);go_wp2_with fail;obtain⟨n1,hn1⟩:∃n1:Nat,(98-100*Cd.i97 s.data.toList%97)/10=(n1:Int):=⟨((98-100*Cd.i97 s.data.toList%97)/10).toNat,by omega⟩;rw[hn1];refine(Tryz.strconv_Itoa_small n1 B0 _).mono ?_;rintro e w' ⟨rfl,rfl⟩;have HN1:=A0 hn1;clear hn1;go_wp2_with fail;obtain⟨n2,hn2⟩:∃n2:Nat,(98-100*Cd.i97 s.data.toList%97)%10=(n2:Int):=⟨((98-100*Cd.i97 s.data.toList%97)%10).toNat,by omega⟩;rw[hn2];refine(Tryz.strconv_Itoa_small n2 B0 _).mono ?_;rintro e w' ⟨rfl,rfl⟩;have HN2:=A0 hn2;clear hn2;rw[Cd.dec_chr n1 (by have:=HN1.out;omega),Cd.dec_chr n2 (by have:=HN2.out;omega)];go_wp2;go_ret;exact⟨Z8 (by simp only[Cd.cmp];rw[HN1.out,HN2.out];rfl),Xe⟩
theorem wU (s:ByteArray) (w:World) (hs:s.size<=4096) (hd:Cd.AllDig s.data.toList):
 Calls prog 370 #[.agg #[],.string s] w fun e w'=>e=.returned (.string ⟨(Cd.cmp 8 s.data.toList).toArray⟩)∧Ext w w':=by
 have HD:=A0 hd
 clear hd
 go_enter func370,ntmps370
 go_wp2
 go_loop [5,9] (fun t i=>∃k:Nat,k<=s.size∧i=.int .i64 (k:Int)∧t=.int .i64 (Cd.i11 (s.data.toList.take k))) (fun _ i=>s.size-(intOf i).toNat)
 case atStart=>exact XK
 case round=>obtain⟨k,hk,rfl,rfl⟩:=hrel;obtain⟨hb1,hb2⟩:=Cd.i11_bd (s.data.toList.take k);by_cases hlt:k<s.size;(·obtain⟨hx1,hx2⟩:=HD.out _ (Zn s k hlt);have hs1:Cd.i11 (s.data.toList.take (k+1))=2*(Cd.i11 (s.data.toList.take k)+Cd.dg s[k])%11:=(by rw[ZF s k hlt];unfold Cd.i11;rw[Cd.foldl_snoc]);generalize Cd.i11 (s.data.toList.take k)=g at*;exact yF);·obtain rfl:k=s.size:=B0;rw[Z3]at hb1 hb2⊢;clear hk hlt;exact GL
theorem wV (s:ByteArray) (w:World) (hs:s.size=9) (hd:Cd.AllDig s.data.toList):
 Calls prog 357 #[.agg #[],.string s] w fun e w'=>e=.returned (.string ⟨(Cd.cmp 3 s.data.toList).toArray⟩)∧Ext w w':=by
 have HD:=A0 hd
 have HN:=A0 hs
 have hs':s.size<=9:=by omega
 clear hd hs
 go_enter func357,ntmps357
 go_wp2
 go_loop [5,9] (fun t i=>∃k:Nat,k<=s.size∧i=.int .i64 (k:Int)∧t=.int .i64 (Cd.isb s.data.toList-Cd.isb (s.data.toList.drop k))) (fun _ i=>s.size-(intOf i).toNat)
 case atStart=>exact⟨0,O0 _,rfl,by simp⟩
 case round=>obtain⟨k,hk,rfl,rfl⟩:=hrel;obtain⟨ha1,ha2⟩:=Cd.isb_bd s.data.toList HD.out (by rw[Zd];exact hs');obtain⟨hb1,hb2⟩:=Cd.isb_bd (s.data.toList.drop k) (Cd.allDig_drop HD.out k) (by rw[Z7];omega);rw[Zd]at ha2;rw[Z7]at hb2;by_cases hlt:k<s.size;(·obtain⟨hx1,hx2⟩:=HD.out _ (Zn s k hlt);have hs1:Cd.isb (s.data.toList.drop k)=Cd.isb (s.data.toList.drop (k+1))+(((s.data.toList.drop (k+1)).length:Int)+2)*Cd.dg s[k]:=(by rw[XF s k hlt];rfl);rw[Z7,show((s.size-(k+1):Nat):Int)+2=10-(k:Int) by have:=HN.out;omega]at hs1;have hm1:0<=(10-(k:Int))*((s[k].toNat:Int)-48):=T7 B0 B0;have hm2:(10-(k:Int))*((s[k].toNat:Int)-48)<=10*9:=S8 B0 B0 B0 B0;generalize Cd.isb (s.data.toList.drop k)=g at*;generalize Cd.isb s.data.toList=g0 at*;have HS:=A0 hs1;clear hs1;go_wp2;go_round;(case rel=>exact⟨k+1,by omega,by go_num,by have:=HS.out;simp only[Cd.dg]at this;congr 1;omega⟩);case measure=>exact Q8);·obtain rfl:k=s.size:=B0;rw[YB]at hb1 hb2⊢;clear hk hlt;simp only[Cd.isb,Int.sub_zero]at hb1 hb2⊢;exact GL
end Go.Proofs.YtbngggoccndefaaGreatDoor
namespace Go.Proofs.YtbngggoccndefaaGreatDoor
open Go.Proofs.Tryz
open Go.RowKit
theorem wW (c:UInt8):((c.toNat:Int).toNat).toUInt8=c:=by simp
theorem GM (c:Int) (w:World):
 Calls prog 56 #[.string ⟨#[48,49,50,51,52,53,54,55,56,57,65,66,67,68,69,70,71,72,73,74,75,76,77,78,79,80,81,82,83,84,85,86,87,88,89,90,45,46,32,36,47,43,37]⟩,.int .u8 c] w fun e w'=>e=.returned (.int .i64 (Cd.plc c.toNat.toUInt8))∧w=w':=
 (Tryz.strings_IndexByte _ c w).mono fun _ _ ⟨he,hw⟩=>⟨he,hw.symm⟩
theorem wX:∀n:Fin 43,((⟨Cd.syms.toArray⟩:ByteArray).extract n.1 (n.1+1)).data.toList=[Cd.syms.getD n.1 48]:=E2
theorem wY (n:Nat) (h:n<43):(⟨Cd.syms.toArray⟩:ByteArray).extract (n:Int).toNat ((n:Int)+1).toNat=⟨[Cd.syms.getD (n:Int).toNat 48].toArray⟩:=by
 have h1:=wX ⟨n,h⟩;have e:((n:Int)+1).toNat=n+1:=by omega
 rw[e,Y5];dsimp only at h1;rw[<-h1]
theorem wZ (s:ByteArray) (w:World) (hs:s.size<=4096) (hd:∀c∈s.data.toList,0<=Cd.plc c):
 Calls prog 365 #[.agg #[],.string s] w fun e w'=>e=.returned (.string ⟨(Cd.cmp 7 s.data.toList).toArray⟩)∧Ext w w':=by
 have HD:=A0 hd
 clear hd
 go_enter func365,ntmps365
 go_wp2
 go_loop [5,10] (fun t i=>∃k:Nat,k<=s.size∧i=.int .i64 (k:Int)∧t=.int .i64 (Cd.c39 (s.data.toList.take k))) (fun _ i=>s.size-(intOf i).toNat)
 case atStart=>exact XK
 case round=>obtain⟨k,hk,rfl,rfl⟩:=hrel;obtain⟨hb1,hb2⟩:=Cd.c39_bd (s.data.toList.take k) (fun c hc=>HD.out c (G4 hc));rw[XG s k hk]at hb2;by_cases hlt:k<s.size;(·have hx1:=HD.out _ (Zn s k hlt);have hx2:=(Cd.plc_bd s[k]).2;have hs1:Cd.c39 (s.data.toList.take (k+1))=Cd.c39 (s.data.toList.take k)+Cd.plc s[k]:=yG;generalize Cd.c39 (s.data.toList.take k)=g at*;have HS:=A0 hs1;clear hs1;go_wp2_with fail;refine(GM _ _).mono ?_;rintro e w' ⟨rfl,rfl⟩;rw[wW];exact yH);·obtain rfl:k=s.size:=B0;rw[Z3]at hb1 hb2⊢;clear hk hlt;go_wp2;go_ret;exact⟨Z8 yI,Xe⟩
theorem GN (a b:Int) (w:World) (h0:0<=a) (h1:a<=9) (h2:0<=b) (h3:b<=9):
 Calls prog 360 #[.int .i64 a,.int .i64 b] w fun e w'=>e=.returned (.int .i64 (Cd.dih a b))∧w=w':=by
 by_cases ha:a<5<;>by_cases hb:b<5
 all_goals
  go_enter func360,ntmps360;go_wp2;go_ret;exact⟨Z1 (by
   unfold Cd.dih
   repeat' split
   all_goals omega),rfl⟩
def OQ:Obj:=.cells #[.string ⟨#[48,51,49,55,53,57,56,54,52,50]⟩,.string ⟨#[55,48,57,50,49,53,52,56,54,51]⟩,.string ⟨#[52,50,48,54,56,55,49,51,53,57]⟩,.string ⟨#[49,55,53,48,57,56,51,52,50,54]⟩,.string ⟨#[54,49,50,51,48,52,53,57,55,56]⟩,.string ⟨#[51,54,55,52,50,48,57,53,56,49]⟩,.string ⟨#[53,56,54,57,55,50,48,49,51,52]⟩,.string ⟨#[56,57,52,53,51,54,50,48,49,55]⟩,.string ⟨#[57,52,51,56,54,49,55,50,48,53]⟩,.string ⟨#[50,53,56,49,52,51,54,55,57,48]⟩] 210
def XL (c:Nat):ByteArray:=⟨(Cd.dmT.getD c []).toArray⟩
theorem Zmz (w:World):∀c:Nat,c<10->((w.alloc (.cells #[] 191)).alloc OQ).cell? ⟨w.heap.size+1,c,none⟩=some (.string (XL c)):=by
 intro c hc;rw[OQ,World.cell?_alloc2_new];have h:∀c:Fin 10,(#[.string ⟨#[48,51,49,55,53,57,56,54,52,50]⟩,.string ⟨#[55,48,57,50,49,53,52,56,54,51]⟩,.string ⟨#[52,50,48,54,56,55,49,51,53,57]⟩,.string ⟨#[49,55,53,48,57,56,51,52,50,54]⟩,.string ⟨#[54,49,50,51,48,52,53,57,55,56]⟩,.string ⟨#[51,54,55,52,50,48,57,53,56,49]⟩,.string ⟨#[53,56,54,57,55,50,48,49,51,52]⟩,.string ⟨#[56,57,52,53,51,54,50,48,49,55]⟩,.string ⟨#[57,52,51,56,54,49,55,50,48,53]⟩,.string ⟨#[50,53,56,49,52,51,54,55,57,48]⟩]:Array Value)[c.1]? =some (.string (XL c.1)):=by
  intro c
  match c with
  |⟨0,_⟩=>rfl
  |⟨1,_⟩=>rfl
  |⟨2,_⟩=>rfl
  |⟨3,_⟩=>rfl
  |⟨4,_⟩=>rfl
  |⟨5,_⟩=>rfl
  |⟨6,_⟩=>rfl
  |⟨7,_⟩=>rfl
  |⟨8,_⟩=>rfl
  |⟨9,_⟩=>rfl
 exact h ⟨c,hc⟩
theorem ZkK:∀(c x:Fin 10),∃h:x.1<(XL c.1).size,48<=((XL c.1)[x.1]'h).toNat∧((XL c.1)[x.1]'h).toNat<=57∧Cd.dmAt (c.1:Int) (x.1:Int)=(((XL c.1)[x.1]'h).toNat:Int)-48:=by decide
theorem ZkH (s:ByteArray) (w:World) (hs:s.size<=4096) (hd:Cd.AllDig s.data.toList):
 Calls prog 361 #[.agg #[],.string s] w fun e w'=>e=.returned (.string ⟨(Cd.cmp 5 s.data.toList).toArray⟩)∧Ext w w':=by
 have HD:=A0 hd
 clear hd
 go_enter func361,ntmps361
 go_wp2
 have HC:=A0 (Zmz w)
 have HX:Ext w ((w.alloc (.cells #[] 191)).alloc OQ):=((Ext.refl _).alloc _).alloc _
 unfold OQ at HC HX
 generalize(w.alloc (.cells #[] 191)).alloc (.cells #[.string ⟨#[48,51,49,55,53,57,56,54,52,50]⟩,.string ⟨#[55,48,57,50,49,53,52,56,54,51]⟩,.string ⟨#[52,50,48,54,56,55,49,51,53,57]⟩,.string ⟨#[49,55,53,48,57,56,51,52,50,54]⟩,.string ⟨#[54,49,50,51,48,52,53,57,55,56]⟩,.string ⟨#[51,54,55,52,50,48,57,53,56,49]⟩,.string ⟨#[53,56,54,57,55,50,48,49,51,52]⟩,.string ⟨#[56,57,52,53,51,54,50,48,49,55]⟩,.string ⟨#[57,52,51,56,54,49,55,50,48,53]⟩,.string ⟨#[50,53,56,49,52,51,54,55,57,48]⟩] 210)=W at*
 go_loopw [6,11] (fun t i wr=>(∃k:Nat,k<=s.size∧i=.int .i64 (k:Int)∧t=.int .i64 (Cd.dm (s.data.toList.take k)))∧∃n,wr=W.drewN n) (fun _ i _=>s.size-(intOf i).toNat)
 case atStart=>exact⟨⟨0,O0 _,rfl,rfl⟩,0,rfl⟩
 case round=>obtain⟨⟨k,hk,rfl,rfl⟩,n,rfl⟩:=hrel;obtain⟨hb1,hb2⟩:=Cd.dm_bd (s.data.toList.take k) (Cd.allDig_take HD.out k);by_cases hlt:k<s.size;(·obtain⟨hx1,hx2⟩:=HD.out _ (Zn s k hlt);have hs1:Cd.dm (s.data.toList.take (k+1))=Cd.dmAt (Cd.dm (s.data.toList.take k)) (Cd.dg s[k]):=(by rw[ZF s k hlt];unfold Cd.dm;rw[Cd.foldl_snoc]);generalize Cd.dm (s.data.toList.take k)=g at*;obtain⟨c,rfl⟩:=K4 hb1;obtain⟨x,hx⟩:∃x:Nat,Cd.dg s[k]=(x:Int):=⟨(Cd.dg s[k]).toNat,by unfold Cd.dg;omega⟩;have hx':(s[k].toNat:Int)-48=(x:Int):=hx;rw[hx]at hs1;obtain⟨hr,hv1,hv2,hv3⟩:=ZkK ⟨c,by omega⟩ ⟨x,by unfold Cd.dg at hx;omega⟩;dsimp only at hr hv1 hv2 hv3;rw[hv3]at hs1;have hcell:=HC.out c B0;generalize XL c=r at*;have HS:=A0 hs1;clear hs1 hv3 hx;go_wp2;go_quiet (fail);go_wp2;go_roundw;(case rel=>exact⟨⟨k+1,by omega,by go_num,by rw[HS.out]⟩,_,rfl⟩);case measure=>exact Q8);·obtain rfl:k=s.size:=B0;rw[Z3]at hb1 hb2⊢;clear hk hlt;go_wp2_with fail;refine(GK _ _ B0 B0).mono ?_;rintro e w' ⟨rfl,rfl⟩;go_wp2;go_ret;exact⟨Z8 YE,HX.drewN _⟩
def pwL (m d:Nat):List Value:=(List.range 10).map fun j=>.int .i64 (if j<d then Cd.permN (m+1) (j:Int)else Cd.permN m (j:Int))
def pw (m d:Nat):Array Value:=(pwL m d).toArray
theorem ZoC (m d:Nat) (h:d<10):(pw m d)[d]? =some (.int .i64 (Cd.permN m (d:Int))):=by simp[pw,pwL,h]
theorem ZnS (m x:Nat) (h:x<10):(pw m 0)[x]? =some (.int .i64 (Cd.permN m (x:Int))):=by simp[pw,pwL,h]
theorem ZnT (m d:Nat) (h:d<10):(pw m d).setIfInBounds d (.int .i64 (Cd.perm (Cd.permN m (d:Int))))=pw m (d+1):=by
 apply GO;intro i;rw[Array.getElem?_setIfInBounds];by_cases e:d=i;·subst e;simp[pw,pwL,h,Cd.permN]
 ·rw[C0 e];by_cases hi:i<10;(·simp only[pw,pwL,SI,J2,SJ hi,YF];by_cases hl:i<d;(·rw[D0 hl,D0 B0]);·rw[C0 hl,C0 B0]);·have e1:∀m d,(pw m d)[i]? =none:=(by intro m d;rw[Array.getElem?_eq_none_iff];simp[pw,pwL];omega);rw[e1,e1]
theorem ZmW (m:Nat):pw m 10=pw (m+1) 0:=by unfold pw pwL;congr 1
def SK:Obj:=.cells #[.int .i64 1,.int .i64 5,.int .i64 7,.int .i64 6,.int .i64 2,.int .i64 8,.int .i64 3,.int .i64 0,.int .i64 9,.int .i64 4] 386
theorem ZjQ (w:World):∀c:Nat,c<10->((w.alloc (.cells #[] 190)).alloc SK).cell? ⟨w.heap.size+1,c,none⟩=some (.int .i64 (Cd.perm (c:Int))):=by
 intro c hc;rw[SK,World.cell?_alloc2_new];have h:∀c:Fin 10,(#[.int .i64 1,.int .i64 5,.int .i64 7,.int .i64 6,.int .i64 2,.int .i64 8,.int .i64 3,.int .i64 0,.int .i64 9,.int .i64 4]:Array Value)[c.1]? =some (.int .i64 (Cd.perm (c.1:Int))):=by
  intro c
  match c with
  |⟨0,_⟩=>rfl
  |⟨1,_⟩=>rfl
  |⟨2,_⟩=>rfl
  |⟨3,_⟩=>rfl
  |⟨4,_⟩=>rfl
  |⟨5,_⟩=>rfl
  |⟨6,_⟩=>rfl
  |⟨7,_⟩=>rfl
  |⟨8,_⟩=>rfl
  |⟨9,_⟩=>rfl
 exact h ⟨c,hc⟩
theorem Zlw:(#[.int .i64 0,.int .i64 1,.int .i64 2,.int .i64 3,.int .i64 4,.int .i64 5,.int .i64 6,.int .i64 7,.int .i64 8,.int .i64 9]:Array Value)=pw 0 0:=rfl
theorem ZgQ (s:ByteArray) (w:World) (hs:s.size<=4096) (hd:Cd.AllDig s.data.toList):
 Calls prog 359 #[.agg #[],.string s] w fun e w'=>e=.returned (.string ⟨(Cd.cmp 4 s.data.toList).toArray⟩)∧Ext w w':=by
 have HD:=A0 hd
 clear hd
 go_enter func359,ntmps359
 go_wp2
 have HC:=A0 (ZjQ w)
 have HX:Ext w ((w.alloc (.cells #[] 190)).alloc SK):=((Ext.refl _).alloc _).alloc _
 have hz:((w.alloc (.cells #[] 190)).alloc SK).heap.size=w.heap.size+2:=by simp
 have HZ:=A0 hz
 clear hz
 unfold SK at HC HX HZ
 rw[Zlw]
 generalize(w.alloc (.cells #[] 190)).alloc (.cells #[.int .i64 1,.int .i64 5,.int .i64 7,.int .i64 6,.int .i64 2,.int .i64 8,.int .i64 3,.int .i64 0,.int .i64 9,.int .i64 4] 386)=W at*
 go_loopw [7,8] (fun t i wr=>∃k:Nat,k<=s.size∧i=.int .i64 ((k:Int)-1)∧t=.int .i64 (Cd.vh (s.data.toList.drop k))∧wr=W.alloc (.cells (pw (s.size-k) 0) 386)) (fun _ i _=>(intOf i+1).toNat)
 case atStart=>exact⟨s.size,K0 _,rfl,by rw[YB];rfl,by rw[I4]⟩
 case round=>obtain⟨k,hk,rfl,rfl,rfl⟩:=hrel;obtain⟨hb1,hb2⟩:=Cd.vh_bd _ (Cd.allDig_drop HD.out k);by_cases hlt:k=0;(·subst hlt;simp only[R5,C7]at hb1 hb2⊢;rw[show((0:Nat):Int)-1= -1 from rfl];have hX:=HX.alloc (.cells (pw s.size 0) 386);have HE:Hid (Cd.cmp 4 s.data.toList=[Cd.chr (Cd.inv (Cd.vh s.data.toList))]):=rfl;generalize Cd.vh s.data.toList=c at*;generalize W.alloc (.cells (pw s.size 0) 386)=W2 at*;have hi:=Cd.inv_bd c ⟨hb1,hb2⟩;go_wp2;go_loop [10] (fun t=>∃n:Int,0<=n∧n<=Cd.inv c∧t=.int .i64 n) (fun t=>(9-intOf t).toNat);(case atStart=>exact⟨0,by omega,by omega,rfl⟩);case round=>obtain⟨n,hn1,hn2,rfl⟩:=hrel;by_cases hn:n=Cd.inv c;(·have h0:(Cd.dih n c !=0)=false:=(by rw[hn,Cd.dih_inv c ⟨hb1,hb2⟩];rfl);have HN:=A0 hn;obtain⟨hi1,hi2⟩:=hi;clear hn;go_wp2_with fail;refine(GN _ _ _ hn1 B0 hb1 hb2).mono ?_;rintro e w' ⟨rfl,rfl⟩;go_wp2_with fail;refine(GK _ _ hn1 B0).mono ?_;rintro e w' ⟨rfl,rfl⟩;go_wp2;go_ret;exact⟨Z8 (by rw[HE.out,<-HN.out]),hX⟩);·have h0:(Cd.dih n c !=0)=true:=(by simp only[C3,ne_eq];exact yJ);have hn9:n<9:=B0;have HN:Hid (n+1<=Cd.inv c):=(by show n+1<=Cd.inv c;omega);clear hn;go_wp2_with fail;refine(GN _ _ _ hn1 B0 hb1 hb2).mono ?_;exact yK);·obtain⟨j,rfl⟩:∃j,k=j+1:=⟨k-1,by omega⟩;obtain⟨hx1,hx2⟩:=HD.out _ (Zn s j B0);have hjl:j<s.size:=B0;have hs1:Cd.vh (s.data.toList.drop j)=Cd.dih (Cd.vh (s.data.toList.drop (j+1))) (Cd.permN ((s.data.toList.drop (j+1)).length+1) (Cd.dg s[j])):=R0 Cd.vh (XF s j hjl);rw[Z7]at hs1;generalize Cd.vh (s.data.toList.drop (j+1))=g at*;have hm:s.size-j=s.size-(j+1)+1:=B0;have HM:=A0 hm;clear hm;generalize s.size-(j+1)=m at*;have HS:=A0 hs1;clear hs1 hlt;go_wp2;go_loopw [20] (fun i wr=>∃d:Nat,d<=10∧i=.int .i64 (d:Int)∧wr=W.alloc (.cells (pw m d) 386)) (fun i _=>10-(intOf i).toNat);(case atStart=>exact⟨0,by omega,rfl,rfl⟩);case round=>obtain⟨d,hd,rfl,rfl⟩:=hrel;have hzz:=HZ.out;have hf:=fun x=>World.frozen?_alloc_at (w:=W) (pw m d) 386 (w.heap.size+2) x hzz.symm;have hcl:=fun x=>World.cell?_alloc_at (w:=W) (pw m d) 386 (w.heap.size+2) x hzz.symm;have hco:=fun x=>World.cell?_alloc_past (w:=W) (.cells (pw m d) 386) (w.heap.size+1) x B0;by_cases hlt:d<10;(·have hq:=Cd.permN_bd m (d:Int) B0;have h1:=(hcl d).trans (ZoC m d hlt);have hset:=ZnT m d hlt;generalize Cd.permN m (d:Int)=q at*;obtain⟨q,rfl⟩:=K4 hq.1;have h2:=(hco q).trans (HC.out q B0);have h3:=hf d;have hst:=fun v=>World.setCell_alloc_at (w:=W) (pw m d) 386 (w.heap.size+2) d v hzz.symm;obtain⟨_,hq2⟩:=hq;clear hf hcl hco;have HT:=A0 hset;have HZ2:=A0 hzz;clear hset hzz;go_wp2;go_roundw;(case rel=>exact⟨d+1,by omega,by go_num,by rw[HT.out]⟩);case measure=>exact Q8);·obtain rfl:d=10:=B0;rw[ZmW]at hcl⊢;obtain⟨x,hx⟩:∃x:Nat,Cd.dg s[j]=(x:Int):=⟨(Cd.dg s[j]).toNat,by unfold Cd.dg;omega⟩;have hxx:(s[j].toNat:Int)-48=(x:Int):=hx;have hx9:x<10:=B0;have h1:=(hcl x).trans (ZnS (m+1) x hx9);have hq:=Cd.permN_bd (m+1) (x:Int) B0;have HS2:=A0 (hx▸HS.out);generalize Cd.permN (m+1) (x:Int)=q at*;obtain⟨hq1,hq2⟩:=hq;have HZ2:=A0 hzz;clear hcl hco hf hlt hd hx hzz;go_wp2_with fail;refine(GN _ _ _ hb1 hb2 hq1 hq2).mono ?_;rintro e w' ⟨rfl,rfl⟩;go_wp2;go_roundw;(case rel=>exact⟨j,by omega,by go_num,by rw[HS2.out],by rw[HM.out]⟩);case measure=>simp[intOf]
end Go.Proofs.YtbngggoccndefaaGreatDoor
namespace Go.Proofs.YtbngggoccndefaaGreatDoor
open Go.Proofs.Tryz
open Go.RowKit
theorem VL (w:World):Calls prog 337 #[.agg #[]] w fun e w'=>e=.returned (.int .i64 1)∧Ext w w':=by go_enter func337,ntmps337;exact A8
theorem VM (w:World):Calls prog 336 #[.agg #[]] w fun e w'=>e=.returned (.int .i64 0)∧Ext w w':=by go_enter func336,ntmps336;exact A8
theorem Zhq (w:World):Calls prog 358 #[.agg #[]] w fun e w'=>e=.returned (.int .i64 9)∧Ext w w':=by go_enter func358,ntmps358;exact A8
theorem Zi8 (w:World):Calls prog 363 #[.agg #[]] w fun e w'=>e=.returned (.int .i64 2)∧Ext w w':=by go_enter func363,ntmps363;exact A8
theorem Zhc (w:World):Calls prog 368 #[.agg #[]] w fun e w'=>e=.returned (.int .i64 1)∧Ext w w':=by go_enter func368,ntmps368;exact A8
theorem ZfD (w:World):Calls prog 367 #[.agg #[]] w fun e w'=>e=.returned (.int .i64 0)∧Ext w w':=by go_enter func367,ntmps367;exact A8
theorem XM (c:Int) (w:World):Calls prog 335 #[.agg #[],.int .u8 c] w fun e w'=>e=.returned (.bool (Cd.isDig c))∧Ext w w':=by go_enter func335,ntmps335;exact yL
theorem SL (c:Int) (w:World):Calls prog 334 #[.agg #[],.int .u8 c] w fun e w'=>e=.returned (.bool (Cd.isDig c))∧Ext w w':=by go_enter func334,ntmps334;exact yL
theorem Zi7 (c:Int) (w:World):Calls prog 356 #[.agg #[],.int .u8 c] w fun e w'=>e=.returned (.bool (Cd.isDig c || (c==88)))∧Ext w w':=by cases h:Cd.isDig c;all_goals have hd:=GJ c;rw[h]at hd;have HD:=A0 hd;clear hd h;go_enter func356,ntmps356;go_wp2_with fail;refine(HD.out _).mono ?_;rintro e w' ⟨rfl,rfl⟩;go_wp2;go_ret;exact⟨rfl,Xe⟩
theorem Zhr (c:Int) (w:World):Calls prog 369 #[.agg #[],.int .u8 c] w fun e w'=>e=.returned (.bool (Cd.isDig c || (c==88)))∧Ext w w':=by cases h:Cd.isDig c;all_goals have hd:=GJ c;rw[h]at hd;have HD:=A0 hd;clear hd h;go_enter func369,ntmps369;go_wp2_with fail;refine(HD.out _).mono ?_;rintro e w' ⟨rfl,rfl⟩;go_wp2;go_ret;exact⟨rfl,Xe⟩
theorem Zhb (c:Int) (w:World):Calls prog 366 #[.agg #[],.int .u8 c] w fun e w'=>e=.returned (.bool (decide (0<=Cd.plc c.toNat.toUInt8)))∧Ext w w':=by go_enter func366,ntmps366;go_wp2_with fail;refine(GM _ _).mono ?_;exact GP
theorem Zgi (c:Int) (w:World):Calls prog 364 #[.agg #[],.int .u8 c] w fun e w'=>e=.returned (.bool (decide (0<=Cd.plc c.toNat.toUInt8)))∧Ext w w':=by go_enter func364,ntmps364;go_wp2_with fail;refine(GM _ _).mono ?_;exact GP
def Meth (T:Nat) (name:String) (args:Array Value) (v:Value):Prop:=
 ∃f,(∀w,(method 505 T (.agg #[]) name).run prog w=.ok (f,.agg #[]) w)∧(∀xs w,(callFunc f xs).run prog w=.ok (.enter f xs) w)∧
  ∀w,Calls prog f (#[.agg #[]]++args) w fun e w'=>e=.returned v∧Ext w w'
structure P6 (k:Nat) (T:Nat):Prop where
 size:Meth T "barscan/checkdigit.size" #[] (.int .i64 (Cd.size k))
 length:Meth T "barscan/checkdigit.length" #[] (.int .i64 (if k=3 then 9 else 0))
 data:∀c:Int,Meth T "barscan/checkdigit.data" #[.int .u8 c] (.bool (Cd.datB k c))
 check:∀c:Int,Meth T "barscan/checkdigit.check" #[.int .u8 c] (.bool (Cd.chkB k c))
 compute:∀s:ByteArray,s.size<=4096->(∀c∈s.data.toList,Cd.datB k (c.toNat:Int)=true)->(k=3->s.size=9)->Meth T "barscan/checkdigit.compute" #[.string s] (.string ⟨(Cd.cmp k s.data.toList).toArray⟩)
 found:∀w,Calls prog 90 #[.int .i64 k] w fun e w'=>e=.returned (.tuple #[.iface T (.agg #[]),.bool true])∧Ext w w'
theorem ZE {l:List UInt8} (h:∀c∈l,Cd.isDig (c.toNat:Int)=true):Cd.AllDig l:=fun c hc=>by have:=h c hc;simp only[Cd.isDig,M2,Y1]at this;omega
theorem ZoV:P6 1 187 where
 size:=⟨337,fun _=>by kernel_rfl,fun _ _=>by kernel_rfl,fun w=>VL w⟩
 length:=⟨336,fun _=>by kernel_rfl,fun _ _=>by kernel_rfl,fun w=>VM w⟩
 data c:=⟨335,fun _=>by kernel_rfl,fun _ _=>by kernel_rfl,fun w=>XM c w⟩
 check c:=⟨334,fun _=>by kernel_rfl,fun _ _=>by kernel_rfl,fun w=>SL c w⟩
 compute s h1 h2 h3:=⟨339,fun _=>by kernel_rfl,fun _ _=>by kernel_rfl,fun w=>wQ s w h1 (ZE h2)⟩
 found w:=C9
theorem ZoW:P6 2 188 where
 size:=⟨337,fun _=>by kernel_rfl,fun _ _=>by kernel_rfl,fun w=>VL w⟩
 length:=⟨336,fun _=>by kernel_rfl,fun _ _=>by kernel_rfl,fun w=>VM w⟩
 data c:=⟨335,fun _=>by kernel_rfl,fun _ _=>by kernel_rfl,fun w=>XM c w⟩
 check c:=⟨334,fun _=>by kernel_rfl,fun _ _=>by kernel_rfl,fun w=>SL c w⟩
 compute s h1 h2 h3:=⟨355,fun _=>by kernel_rfl,fun _ _=>by kernel_rfl,fun w=>wR s w h1 (ZE h2)⟩
 found w:=C9
theorem ZoX:P6 3 189 where
 size:=⟨337,fun _=>by kernel_rfl,fun _ _=>by kernel_rfl,fun w=>VL w⟩
 length:=⟨358,fun _=>by kernel_rfl,fun _ _=>by kernel_rfl,fun w=>Zhq w⟩
 data c:=⟨335,fun _=>by kernel_rfl,fun _ _=>by kernel_rfl,fun w=>XM c w⟩
 check c:=⟨356,fun _=>by kernel_rfl,fun _ _=>by kernel_rfl,fun w=>Zi7 c w⟩
 compute s h1 h2 h3:=⟨357,fun _=>by kernel_rfl,fun _ _=>by kernel_rfl,fun w=>wV s w (h3 rfl) (ZE h2)⟩
 found w:=C9
theorem ZoY:P6 4 190 where
 size:=⟨337,fun _=>by kernel_rfl,fun _ _=>by kernel_rfl,fun w=>VL w⟩
 length:=⟨336,fun _=>by kernel_rfl,fun _ _=>by kernel_rfl,fun w=>VM w⟩
 data c:=⟨335,fun _=>by kernel_rfl,fun _ _=>by kernel_rfl,fun w=>XM c w⟩
 check c:=⟨334,fun _=>by kernel_rfl,fun _ _=>by kernel_rfl,fun w=>SL c w⟩
 compute s h1 h2 h3:=⟨359,fun _=>by kernel_rfl,fun _ _=>by kernel_rfl,fun w=>ZgQ s w h1 (ZE h2)⟩
 found w:=C9
theorem Zpa:P6 5 191 where
 size:=⟨337,fun _=>by kernel_rfl,fun _ _=>by kernel_rfl,fun w=>VL w⟩
 length:=⟨336,fun _=>by kernel_rfl,fun _ _=>by kernel_rfl,fun w=>VM w⟩
 data c:=⟨335,fun _=>by kernel_rfl,fun _ _=>by kernel_rfl,fun w=>XM c w⟩
 check c:=⟨334,fun _=>by kernel_rfl,fun _ _=>by kernel_rfl,fun w=>SL c w⟩
 compute s h1 h2 h3:=⟨361,fun _=>by kernel_rfl,fun _ _=>by kernel_rfl,fun w=>ZkH s w h1 (ZE h2)⟩
 found w:=C9
theorem Zpb:P6 6 192 where
 size:=⟨363,fun _=>by kernel_rfl,fun _ _=>by kernel_rfl,fun w=>Zi8 w⟩
 length:=⟨336,fun _=>by kernel_rfl,fun _ _=>by kernel_rfl,fun w=>VM w⟩
 data c:=⟨335,fun _=>by kernel_rfl,fun _ _=>by kernel_rfl,fun w=>XM c w⟩
 check c:=⟨334,fun _=>by kernel_rfl,fun _ _=>by kernel_rfl,fun w=>SL c w⟩
 compute s h1 h2 h3:=⟨362,fun _=>by kernel_rfl,fun _ _=>by kernel_rfl,fun w=>wS s w h1 (ZE h2)⟩
 found w:=C9
theorem Zpc:P6 7 193 where
 size:=⟨368,fun _=>by kernel_rfl,fun _ _=>by kernel_rfl,fun w=>Zhc w⟩
 length:=⟨367,fun _=>by kernel_rfl,fun _ _=>by kernel_rfl,fun w=>ZfD w⟩
 data c:=⟨366,fun _=>by kernel_rfl,fun _ _=>by kernel_rfl,fun w=>Zhb c w⟩
 check c:=⟨364,fun _=>by kernel_rfl,fun _ _=>by kernel_rfl,fun w=>Zgi c w⟩
 compute s h1 h2 h3:=⟨365,fun _=>by kernel_rfl,fun _ _=>by kernel_rfl,fun w=>wZ s w h1 (fun c hc=>by have:=h2 c hc;simpa[Cd.datB]using this)⟩
 found w:=C9
theorem Zpd:P6 8 194 where
 size:=⟨337,fun _=>by kernel_rfl,fun _ _=>by kernel_rfl,fun w=>VL w⟩
 length:=⟨336,fun _=>by kernel_rfl,fun _ _=>by kernel_rfl,fun w=>VM w⟩
 data c:=⟨335,fun _=>by kernel_rfl,fun _ _=>by kernel_rfl,fun w=>XM c w⟩
 check c:=⟨369,fun _=>by kernel_rfl,fun _ _=>by kernel_rfl,fun w=>Zhr c w⟩
 compute s h1 h2 h3:=⟨370,fun _=>by kernel_rfl,fun _ _=>by kernel_rfl,fun w=>wU s w h1 (ZE h2)⟩
 found w:=C9
theorem yM (k:Nat) (h1:1<=k) (h2:k<=8):∃T,P6 k T:=by
 match k,h1,h2 with
 |1,_,_=>exact⟨_,ZoV⟩
 |2,_,_=>exact⟨_,ZoW⟩
 |3,_,_=>exact⟨_,ZoX⟩
 |4,_,_=>exact⟨_,ZoY⟩
 |5,_,_=>exact⟨_,Zpa⟩
 |6,_,_=>exact⟨_,Zpb⟩
 |7,_,_=>exact⟨_,Zpc⟩
 |8,_,_=>exact⟨_,Zpd⟩
theorem yN (k:Int) (w:World) (h:k<1∨8<k):Calls prog 90 #[.int .i64 k] w fun e w'=>e=.returned (.tuple #[.nilIface,.bool false])∧Ext w w':=by
 have h1:(k==1)=false:=S0
 have h2:(k==2)=false:=S0
 have h3:(k==3)=false:=S0
 have h4:(k==4)=false:=S0
 have h5:(k==5)=false:=S0
 have h6:(k==6)=false:=S0
 have h7:(k==7)=false:=S0
 have h8:(k==8)=false:=S0
 clear h;exact C9
end Go.Proofs.YtbngggoccndefaaGreatDoor
namespace Go.Proofs.YtbngggoccndefaaGreatDoor
open Go.Proofs.Tryz
open Go.RowKit
theorem OR (s:ByteArray) (p:UInt8->Bool) (k:Nat) (h:k<s.size):(s.data.toList.take (k+1)).all p=((s.data.toList.take k).all p&&p s[k]):=by rw[ZF s k h];simp
theorem OS (s:ByteArray) (p:UInt8->Bool) (k:Nat) (h:k<s.size) (hp:p s[k]=false):s.data.toList.all p=false:=by rw[YG];exact⟨s[k],Zn s k h,by simp[hp]⟩
theorem GQ (nm:String) (T:Nat) (p:Int->Bool) (hm:∀c:Int,Meth T nm #[.int .u8 c] (.bool (p c))) (s:ByteArray) (w:World) (hs:s.size<=9223372036854775807):
 Calls prog 91 #[.string s,.func (.method nm) #[.iface T (.agg #[])] #[]] w fun e w'=>e=.returned (.bool (s.data.toList.all fun c=>p c.toNat))∧Ext w w':=by
 have HM:=A0 hm
 clear hm
 go_enter func91,ntmps91
 go_wp2
 go_loopw [8] (fun i wr=>∃k:Nat,k<=s.size∧i=.int .i64 k∧Hid ((s.data.toList.take k).all (fun c=>p c.toNat)=true)∧Ext w wr) (fun i _=>s.size-(intOf i).toNat)
 case atStart=>exact⟨0,O0 _,rfl,rfl,Ext.refl _⟩
 case round=>obtain⟨k,hk,rfl,ha,hx⟩:=hrel;by_cases hlt:k<s.size;(·obtain⟨f,h1,h2,h3⟩:=HM.out (s[k].toNat:Int);have HA:=A0 (OR s (fun c=>p c.toNat) k hlt);have HF:=A0 (OS s (fun c=>p c.toNat) k hlt);have H3:=A0 h3;clear h3;cases hp:p (s[k].toNat:Int);(·rw[hp]at H3;have HP:=A0 hp;clear hp;go_wp2_with fail;refine(H3.out _).mono ?_;rintro e w1 ⟨rfl,hx1⟩;go_wp2;go_ret;exact⟨Zm (HF.out HP.out).symm,hx.trans hx1⟩);·rw[hp]at H3;have HP:=A0 hp;clear hp;go_wp2_with fail;refine(H3.out _).mono ?_;rintro e w1 ⟨rfl,hx1⟩;go_wp2;go_roundw;(case rel=>exact⟨k+1,by omega,by go_num,by show _=_;rw[HA.out,ha.out];simpa using HP.out,hx.trans hx1⟩);case measure=>exact Q8);·obtain rfl:k=s.size:=B0;rw[Z3]at ha;clear hk hlt;go_wp2;go_ret;exact⟨Zm ha.out.symm,hx⟩
theorem yO (k:Nat) (T:Nat) (hy:P6 k T) (n:Nat) (w:World) (_hn:n<=1000000):
 Calls prog 92 #[.iface T (.agg #[]),.int .i64 n] w fun e w'=>e=.returned (.bool (Cd.fits k n))∧Ext w w':=by
 obtain⟨f1,h1,h2,h3⟩:=hy.size
 obtain⟨f2,g1,g2,g3⟩:=hy.length
 have H3:=A0 h3
 have G3:=A0 g3
 clear h3 g3 hy
 by_cases hk:k=3
 ·subst hk;simp only[W4]at G3;rw[show Cd.size 3=1 from rfl]at H3;go_enter func92,ntmps92;go_wp2_with fail;refine(G3.out _).mono ?_;rintro e w1 ⟨rfl,hx1⟩;go_wp2_with fail;refine(G3.out _).mono ?_;rintro e w2 ⟨rfl,hx2⟩;go_wp2_with fail;refine(H3.out _).mono ?_;rintro e w3 ⟨rfl,hx3⟩;go_wp2;go_ret;exact⟨Zm (by rw[C4];simp[Cd.fits];omega),(hx1.trans hx2).trans hx3⟩
 ·simp only[hk,R6]at G3;have hsz:Cd.size k<=2:=(by unfold Cd.size;exact Y6);have HK:=A0 hk;clear hk;go_enter func92,ntmps92;go_wp2_with fail;refine(G3.out _).mono ?_;rintro e w1 ⟨rfl,hx1⟩;go_wp2_with fail;refine(H3.out _).mono ?_;rintro e w3 ⟨rfl,hx3⟩;go_wp2;go_ret;exact⟨Zm (by simp[Cd.fits,HK.out]),hx1.trans hx3⟩
theorem Zjb (k:Int) (s:ByteArray) (w:World) (h:k<1∨8<k):
 Calls prog 89 #[.int .i64 k,.string s] w fun e w'=>e=.returned (.int .i64 1)∧Ext w w':=by
 have H:=A0 (yN k w h)
 clear h
 go_enter func89,ntmps89
 go_wp2_with fail
 refine H.out.mono ?_
 rintro e w1 ⟨rfl,hx1⟩
 go_wp2
 go_ret
 exact⟨rfl,hx1⟩
theorem Zjc (k:Nat) (T:Nat) (hy:P6 k T) (s:ByteArray) (w:World) (hs:s.size<=9223372036854775807):
 Calls prog 89 #[.int .i64 k,.string s] w fun e w'=>e=.returned (.int .i64 (Cd.ver k s.data.toList))∧Ext w w':=by
 have HF:=A0 (hy.found w)
 by_cases hl:4096<s.size
 ·have HV:Hid (Cd.ver k s.data.toList=4):=(by show _=_;unfold Cd.ver;rw[Zd,D0 hl]);clear hy;go_enter func89,ntmps89;go_wp2_with fail;refine HF.out.mono ?_;rintro e w1 ⟨rfl,hx1⟩;go_wp2;go_ret;exact⟨Z1 HV.out.symm,hx1⟩
 ·have HC:=A0 (fun w=>yO k T hy s.size w B0);have hl':s.size<=4096:=B0;cases hf:Cd.fits k s.size;(·have HV:Hid (Cd.ver k s.data.toList=7):=(by show _=_;unfold Cd.ver;rw[Zd,C0 hl,D0 hf]);rw[hf]at HC;clear hy hl hf;go_enter func89,ntmps89;go_wp2_with fail;refine HF.out.mono ?_;rintro e w1 ⟨rfl,hx1⟩;go_wp2_with fail;refine(HC.out _).mono ?_;rintro e w2 ⟨rfl,hx2⟩;go_wp2;go_ret;exact⟨Z1 HV.out.symm,hx1.trans hx2⟩);·have hlt:=Cd.fits_lt k s.size hf;have h9:Hid (k=3->s.size=10):=(by rintro rfl;exact Cd.fits_isbn _ hf);obtain⟨f1,h1,h2,h3⟩:=hy.size;have HS:=A0 h3;have HY:=A0 hy;rw[hf]at HC;have HFT:=A0 hf;clear h3 hy hl hf;go_enter func89,ntmps89;go_wp2_with fail;refine HF.out.mono ?_;rintro e w1 ⟨rfl,hx1⟩;go_wp2_with fail;refine(HC.out _).mono ?_;rintro e w2 ⟨rfl,hx2⟩;go_wp2_with fail;refine D6 (C:=fun w'=>∃x:Zx w2,w'=x.at') G0 G0 (Zx.drawn _) ?_;(try dsimp only);(repeat(first|go_big_quiet_step ((exact Zu (HS.out _)))|quiet_step ((exact Zu (HS.out _)))));refine E6 ?_;intro _ hx0;obtain⟨x0,hx0⟩:=hx0;subst hx0;obtain⟨w3,hx3⟩:=x0;(try dsimp only);have hD:=Zy s (s.size-Cd.size k);have hE:=ZD s (s.size-Cd.size k);have hDs:(s.extract 0 (s.size-Cd.size k)).size=s.size-Cd.size k:=(by rw[Zf hD,XG _ _ B0]);have hEs:(s.extract (s.size-Cd.size k) s.size).size=s.size-(s.size-Cd.size k):=(by rw[Zf hE,Z7]);generalize s.extract 0 (s.size-Cd.size k)=D at*;generalize s.extract (s.size-Cd.size k) s.size=E at*;have hDl:D.size<=4096:=B0;have hEl:E.size<=4096:=B0;have HV:Hid (Cd.ver k s.data.toList=if D.data.toList.all (fun c=>Cd.datB k c.toNat)=false then 6 else if E.data.toList.all (fun c=>Cd.chkB k c.toNat)=false then 6 else if Cd.cmp k D.data.toList=E.data.toList then 0 else 8):=(by show _=_;unfold Cd.ver;rw[Zd,C0 B0,C0 (by rw[HFT.out];exact Bool.noConfusion),<-hD,<-hE]);(have h9':Hid (k=3->D.size=9):=fun e=>by have h1:=h9.out e;subst e;have h2:Cd.size 3=1:=rfl;omega);clear hD hE hDs hEs;have HAD:=A0 (fun w=>GQ "barscan/checkdigit.data" T (Cd.datB k) HY.out.data D w B0);have HAE:=A0 (fun w=>GQ "barscan/checkdigit.check" T (Cd.chkB k) HY.out.check E w B0);have HDA:=A0 (fun h=>HY.out.compute D hDl h h9'.out);have hXX:=(hx1.trans hx2).trans hx3;clear hx1 hx2 hx3;cases hda:D.data.toList.all (fun c=>Cd.datB k c.toNat);(·rw[hda]at HAD HV;simp only[W4]at HV;clear hda HDA;go_wp2_with fail;refine(HAD.out _).mono ?_;rintro e w4 ⟨rfl,hx4⟩;go_wp2;go_ret;exact⟨Z1 HV.out.symm,hXX.trans hx4⟩);·rw[hda]at HAD HV;simp only[OT,R6]at HV;have hda':∀c∈D.data.toList,Cd.datB k (c.toNat:Int)=true:=U1.1 hda;obtain⟨f2,g1,g2,g3⟩:=HDA.out hda';have HG:=A0 g3;clear g3 hda hda' HDA;cases hea:E.data.toList.all (fun c=>Cd.chkB k c.toNat);(·rw[hea]at HAE HV;simp only[W4]at HV;clear hea;go_wp2_with fail;refine(HAD.out _).mono ?_;rintro e w4 ⟨rfl,hx4⟩;go_wp2_with fail;refine(HAE.out _).mono ?_;rintro e w5 ⟨rfl,hx5⟩;go_wp2;go_ret;exact⟨Z1 HV.out.symm,(hXX.trans hx4).trans hx5⟩);·rw[hea]at HAE HV;simp only[OT,R6]at HV;clear hea;go_wp2_with fail;refine(HAD.out _).mono ?_;rintro e w4 ⟨rfl,hx4⟩;go_wp2_with fail;refine(HAE.out _).mono ?_;rintro e w5 ⟨rfl,hx5⟩;go_wp2_with fail;refine(HG.out _).mono ?_;rintro e w6 ⟨rfl,hx6⟩;have hXY:=((hXX.trans hx4).trans hx5).trans hx6;by_cases hq:Cd.cmp k D.data.toList=E.data.toList;(·have hq':(!Cd.cmp k D.data.toList==E.toList)=false:=(by rw[C2,hq];simp);rw[D0 hq]at HV;exact yP);·have hq':(!Cd.cmp k D.data.toList==E.toList)=true:=(by rw[C2];simpa using hq);rw[C0 hq]at HV;exact yP
theorem GR (k:Int) (s:ByteArray) (w:World) (hs:s.size<=9223372036854775807):
 Calls prog 89 #[.int .i64 k,.string s] w fun e w'=>e=.returned (.int .i64 (Cd.verI k s.data.toList))∧Ext w w':=by
 by_cases h:k<1∨8<k
 ·rw[Cd.verI,D0 h];exact Zjb k s w h
 ·rw[Cd.verI,C0 h];obtain⟨n,rfl⟩:=K4 (show 0<=k by omega);obtain⟨T,hT⟩:=yM n B0 B0;exact Zjc n T hT s w hs
theorem Zl7 {a b:ByteArray} {x y:Int} (h1:a=b) (h2:x=y):Ending.returned (.tuple #[.string a,.int .i64 x])=.returned (.tuple #[.string b,.int .i64 y]):=by rw[h1,h2]
theorem XN (s:ByteArray):s.data.toList=[]↔s.size=0:=by rw[<-Zd];exact⟨fun h=>by rw[h];rfl,fun h=>L4 h⟩
theorem Zhe (k:Int) (s:ByteArray) (w:World) (h:k<1∨8<k):
 Calls prog 52 #[.int .i64 k,.string s] w fun e w'=>e=.returned (.tuple #[.string ⟨#[]⟩,.int .i64 1])∧Ext w w':=by
 have H:=A0 (yN k w h)
 clear h
 go_enter func52,ntmps52
 go_wp2_with fail
 refine H.out.mono ?_
 rintro e w1 ⟨rfl,hx1⟩
 go_wp2
 go_ret2
 exact⟨rfl,hx1⟩
theorem Zhf (k:Nat) (T:Nat) (hy:P6 k T) (s:ByteArray) (w:World) (hs:s.size<=9223372036854775807):
 Calls prog 52 #[.int .i64 k,.string s] w fun e w'=>e=.returned (.tuple #[.string ⟨(Cd.comp k s.data.toList).1.toArray⟩,.int .i64 (Cd.comp k s.data.toList).2])∧Ext w w':=by
 have HF:=A0 (hy.found w)
 by_cases h0:s.size=0
 ·have HV:Hid (Cd.comp k s.data.toList=([],5)):=yQ;have h1:s.toList=[]:=(by rw[C2];exact(XN s).2 h0);have h2:s.toList.isEmpty=true:=SN;clear hy h0;exact yR
 ·have hne:s.data.toList≠ []:=fun h=>h0 ((XN s).1 h);have h2:s.toList.isEmpty=false:=(by rw[C2];simpa using hne);have h1:¬s.toList=[]:=(by rw[C2];exact hne);by_cases hl:4096<s.size;(·have HV:Hid (Cd.comp k s.data.toList=([],4)):=yS;clear hy hne h0;exact yR);·have HV:Hid (Cd.comp k s.data.toList=if s.data.toList.all (fun c=>Cd.datB k c.toNat)=false then([],6)else if Cd.fits k (s.size+Cd.size k)=false then([],7)else(Cd.cmp k s.data.toList,0)):=yT;have HAD:=A0 (fun w=>GQ "barscan/checkdigit.data" T (Cd.datB k) hy.data s w hs);obtain⟨hz1,hz2⟩:=Cd.size_bd k;have hl':s.size<=4096:=B0;cases hda:s.data.toList.all (fun c=>Cd.datB k c.toNat);(·rw[hda]at HAD HV;simp only[W4]at HV;clear hy hne h0 hl hda;go_enter func52,ntmps52;go_wp2_with fail;refine HF.out.mono ?_;rintro e w1 ⟨rfl,hx1⟩;go_wp2_with fail;refine(HAD.out _).mono ?_;rintro e w2 ⟨rfl,hx2⟩;go_wp2;go_ret2;exact⟨by rw[HV.out];rfl,hx1.trans hx2⟩);·rw[hda]at HAD HV;simp only[OT,R6]at HV;have HC:=A0 (fun w=>yO k T hy (s.size+Cd.size k) w B0);obtain⟨f1,g1,g2,g3⟩:=hy.size;have HS:=A0 g3;have hda':=U1.1 hda;cases hf:Cd.fits k (s.size+Cd.size k);(·rw[hf]at HC HV;simp only[W4]at HV;clear g3 hy hne h0 hl hda hda' hf;go_enter func52,ntmps52;go_wp2_with fail;refine HF.out.mono ?_;rintro e w1 ⟨rfl,hx1⟩;go_wp2_with fail;refine(HAD.out _).mono ?_;rintro e w2 ⟨rfl,hx2⟩;go_wp2_with fail;refine(HS.out _).mono ?_;rintro e w3 ⟨rfl,hx3⟩;go_wp2_with fail;refine(HC.out _).mono ?_;rintro e w4 ⟨rfl,hx4⟩;go_wp2;go_ret2;exact⟨by rw[HV.out];rfl,((hx1.trans hx2).trans hx3).trans hx4⟩);·rw[hf]at HC HV;simp only[OT,R6]at HV;obtain⟨f2,k1,k2,k3⟩:=hy.compute s hl' hda' (fun e=>by subst e;have:=Cd.fits_isbn _ hf;have h2:Cd.size 3=1:=rfl;omega);have HG:=A0 k3;clear g3 k3 hy hne h0 hl hda hda' hf;go_enter func52,ntmps52;go_wp2_with fail;refine HF.out.mono ?_;rintro e w1 ⟨rfl,hx1⟩;go_wp2_with fail;refine(HAD.out _).mono ?_;rintro e w2 ⟨rfl,hx2⟩;go_wp2_with fail;refine(HS.out _).mono ?_;rintro e w3 ⟨rfl,hx3⟩;go_wp2_with fail;refine(HC.out _).mono ?_;rintro e w4 ⟨rfl,hx4⟩;go_wp2_with fail;refine(HG.out _).mono ?_;rintro e w5 ⟨rfl,hx5⟩;go_wp2;go_ret2;exact⟨by rw[HV.out];rfl,(((hx1.trans hx2).trans hx3).trans hx4).trans hx5⟩
theorem OU (k:Int) (s:ByteArray) (w:World) (hs:s.size<=9223372036854775807):
 Calls prog 52 #[.int .i64 k,.string s] w fun e w'=>e=.returned (.tuple #[.string ⟨(Cd.compI k s.data.toList).1.toArray⟩,.int .i64 (Cd.compI k s.data.toList).2])∧Ext w w':=by
 by_cases h:k<1∨8<k
 ·rw[Cd.compI,D0 h];exact Zhe k s w h
 ·rw[Cd.compI,C0 h];obtain⟨n,rfl⟩:=K4 (show 0<=k by omega);obtain⟨T,hT⟩:=yM n B0 B0;exact Zhf n T hT s w hs
end Go.Proofs.YtbngggoccndefaaGreatDoor
end
namespace Go.Proofs.YtbngggoccndefaaGreatDoor
open Go.Proofs.Tryz
section
open Go.RowKit
theorem OV (s:ByteArray) (c:Int) (w:World):
 Calls prog 56 #[.string s,.int .u8 c] w fun e w'=>e=.returned (.int .i64 (Lib.indexByte s.data.toList c.toNat.toUInt8))∧w=w':=
 (Tryz.strings_IndexByte _ c w).mono fun _ _ ⟨he,hw⟩=>⟨he,hw.symm⟩
theorem SO (c:UInt8):((c.toNat:Int).toNat).toUInt8=c:=by rw[Y5];simp
theorem XO (l:List UInt8) (c:UInt8) (n:Nat) (h:Lib.indexByte l c=(n:Int)):n<l.length:=by have:=(Lib.indexByte_some h).1;rw[I1]at this;exact this.1
theorem OW (c:Int) (w:World):
 Calls prog 98 #[.int .u8 c] w fun e w'=>e=.returned (.bool (Cd.isDig c))∧w=w':=by
 go_enter func98,ntmps98
 go_wp2
 ·exact OO
 ·exact OP
def Gs.symbols:List UInt8:=[33,34,37,38,39,42,43,44,45,46,47,58,59,60,61,62,63,95]
def Gs.charB (c:UInt8):Bool:=(decide (65<=c.toNat)&&decide (c.toNat<=90)) || ((decide (97<=c.toNat)&&decide (c.toNat<=122)) || decide (0<=Lib.indexByte Gs.symbols c))
theorem yU (c:UInt8) (w:World):
 Calls prog 99 #[.int .u8 (c.toNat:Int)] w fun e w'=>e=.returned (.bool (Gs.charB c))∧w=w':=by
 have HI:Hid (∀w,Calls prog 56 #[.string ⟨#[33,34,37,38,39,42,43,44,45,46,47,58,59,60,61,62,63,95]⟩,.int .u8 (c.toNat:Int)] w fun e w'=>e=.returned (.int .i64 (Lib.indexByte Gs.symbols c))∧w=w'):=A0 (fun w=>by have:=OV ⟨#[33,34,37,38,39,42,43,44,45,46,47,58,59,60,61,62,63,95]⟩ (c.toNat:Int) w;rw[SO]at this;exact this)
 have HB:=A0 (Gs.charB.eq_1 c)
 generalize Lib.indexByte Gs.symbols c=x at*
 generalize Gs.charB c=res at*
 by_cases h1:65<=c.toNat∧c.toNat<=90
 ·obtain⟨n1,n2⟩:=h1;have HR:Hid (res=true):=A0 (by rw[HB.out,V0 n1,V0 n2];rfl);clear HB;go_enter func99,ntmps99;exact GS
 have e1:(decide (65<=c.toNat)&&decide (c.toNat<=90))=false:=OX
 by_cases h2:97<=c.toNat∧c.toNat<=122
 ·obtain⟨n1,n2⟩:=h2;have n3:90<c.toNat:=B0;have HR:Hid (res=true):=A0 (by rw[HB.out,e1,V0 n1,V0 n2];rfl);clear HB e1 h1;go_enter func99,ntmps99;exact GS
 have e2:(decide (97<=c.toNat)&&decide (c.toNat<=122))=false:=OX
 have HR:Hid (res=decide (0<=x)):=A0 (by rw[HB.out,e1,e2];rfl)
 clear HB e1 e2
 by_cases g1:c.toNat<65
 ·clear h1 h2;go_enter func99,ntmps99;go_wp2_with fail;refine(HI.out _).mono ?_;rintro e w1 ⟨rfl,rfl⟩;exact GS
 ·have n1:65<=c.toNat:=B0;have n2:90<c.toNat:=B0;by_cases g2:c.toNat<97;(·clear h1 h2 g1;go_enter func99,ntmps99;go_wp2_with fail;refine(HI.out _).mono ?_;rintro e w1 ⟨rfl,rfl⟩;go_wp2;go_ret;exact⟨Zm (by rw[HR.out,X0 (show¬((c.toNat:Int)<=90) by omega)];rfl),rfl⟩);·have n3:97<=c.toNat:=B0;have n4:122<c.toNat:=B0;clear h1 h2 g1 g2;go_enter func99,ntmps99;go_wp2_with fail;refine(HI.out _).mono ?_;rintro e w1 ⟨rfl,rfl⟩;go_wp2;go_ret;exact⟨Zm (by rw[HR.out,X0 (show¬((c.toNat:Int)<=90) by omega),X0 (show¬((c.toNat:Int)<=122) by omega)];rfl),rfl⟩
def Gs.num2 (l:List UInt8) (k:Nat):Int:=10*Cd.dg (l.getD k 0)+Cd.dg (l.getD (k+1) 0)
def Gs.days:List Int:=[31,28,31,30,31,30,31,31,30,31,30,31]
def Gs.dateOf (y m d:Int):Bool:=if m<1∨12<m then false else decide (d<=Gs.days.getD (m-1).toNat 0+(if m=2∧y%4=0 then 1 else 0))
def Gs.dateB (l:List UInt8):Bool:=Gs.dateOf (Gs.num2 l 0) (Gs.num2 l 2) (Gs.num2 l 4)
theorem gdat (s:ByteArray) (i:Nat) (h:i<s.size):s.data.toList.getD i 0=s[i]:=VK
theorem VN {l:List UInt8} (h:Cd.AllDig l) {k:Nat} (hk:k+1<l.length):0<=Gs.num2 l k∧Gs.num2 l k<=99:=by
 have h1:∀i,i<l.length->0<=Cd.dg (l.getD i 0)∧Cd.dg (l.getD i 0)<=9:=fun i hi=>by rw[U0,M0 hi];exact Cd.dg_bd (h _ (GT _))
 have a:=h1 k B0;have b:=h1 (k+1) hk;unfold Gs.num2;omega
theorem GU (s:ByteArray) (k:Nat) (h1:k+1<s.size) (hd:Cd.AllDig s.data.toList) (b:Nat) (w:World) (hc:w.cell? ⟨b,0,none⟩=some (.string s)) (hs:s.size<=1000):
 Calls prog 162 #[.int .i64 (k:Int),.pointer (some ⟨b,0,none⟩)] w fun e w'=>e=.returned (.int .i64 (Gs.num2 s.data.toList k))∧Ext w w':=by
 have HN:=A0 (Gs.num2.eq_1 s.data.toList k)
 have hk0:k<s.size:=by omega
 rw[gdat s k hk0,gdat s (k+1) h1]at HN
 generalize Gs.num2 s.data.toList k=N at*
 obtain⟨a1,a2⟩:=hd _ (Zn s k hk0)
 obtain⟨a3,a4⟩:=hd _ (Zn s (k+1) h1)
 obtain⟨j,hj⟩:∃j,j=k+1:=⟨_,rfl⟩
 have hji:(k:Int)+1=(j:Int):=by omega
 have hjs:j<s.size:=by omega
 have HJ:Hid (s[k+1]=s[j]):=A0 (by subst hj;rfl)
 rw[HJ.out]at a3 a4 HN
 clear HJ h1 hd
 have HE:=A0 hj
 clear hj
 go_enter func162,ntmps162
 go_wp2
 go_quiet (fail)
 go_wp2
 go_ret
 exact⟨Z1 (by rw[HN.out];simp[Cd.dg]),Xf⟩
theorem ZkI (s:ByteArray) (hs:s.size=6) (hd:Cd.AllDig s.data.toList) (w:World):
 Calls prog 100 #[.string s] w fun e w'=>e=.returned (.bool (Gs.dateB s.data.toList))∧Ext w w':=by
 have hl:s.data.toList.length=6:=by rw[Zd];exact hs
 obtain⟨y0,y9⟩:=VN hd (k:=0) B0
 obtain⟨m0,m9⟩:=VN hd (k:=2) B0
 obtain⟨d0,d9⟩:=VN hd (k:=4) B0
 have H0:=A0 (fun w' h=>GU s 0 B0 hd w.heap.size w' h B0)
 have H2:=A0 (fun w' h=>GU s 2 B0 hd w.heap.size w' h B0)
 have H4:=A0 (fun w' h=>GU s 4 B0 hd w.heap.size w' h B0)
 have HB:=A0 (Gs.dateB.eq_1 s.data.toList)
 generalize Gs.dateB s.data.toList=res at*
 generalize Gs.num2 s.data.toList 0=y at*
 generalize Gs.num2 s.data.toList 2=m at*
 generalize Gs.num2 s.data.toList 4=d at*
 clear hl hs hd
 go_enter func100,ntmps100
 go_wp2_with fail
 have hc0:(w.alloc (.cells #[.string s] 9)).cell? ⟨w.heap.size,0,none⟩=some (.string s):=SP
 refine(H0.out _ hc0).mono ?_
 rintro e w1 ⟨rfl,hx1⟩
 have hc1:=(hx1.cell (p:=⟨w.heap.size,0,none⟩) L0).trans hc0
 go_wp2_with fail
 refine(H2.out _ hc1).mono ?_
 rintro e w2 ⟨rfl,hx2⟩
 have hc2:=(hx2.cell (p:=⟨w.heap.size,0,none⟩) (by have:=hx1.size;simp at this⊢;omega)).trans hc1
 go_wp2_with fail
 refine(H4.out _ hc2).mono ?_
 rintro e w3 ⟨rfl,hx3⟩
 have hx:Ext w w3:=((((Ext.refl w).alloc _).trans hx1).trans hx2).trans hx3
 clear hx1 hx2 hx3 hc0 hc1 hc2 H0 H2 H4
 by_cases hm1:m<1
 ·have HR:Hid (res=false):=A0 (by rw[HB.out,Gs.dateOf,D0 (.inl hm1)]);clear HB;go_wp2;go_ret;exact⟨Zm HR.out.symm,hx⟩
 by_cases hm2:12<m
 ·have HR:Hid (res=false):=A0 (by rw[HB.out,Gs.dateOf,D0 (.inr hm2)]);have hm3:1<=m:=B0;clear HB hm1;go_wp2;go_ret;exact⟨Zm HR.out.symm,hx⟩
 have HR:Hid (res=decide (d<=Gs.days.getD (m-1).toNat 0+(if m=2∧y%4=0 then 1 else 0))):=A0 (by rw[HB.out,Gs.dateOf,C0 B0])
 have hmm:m=1∨m=2∨m=3∨m=4∨m=5∨m=6∨m=7∨m=8∨m=9∨m=10∨m=11∨m=12:=by omega
 clear HB hm1 hm2 m0 m9
 rcases hmm with rfl|hmm
 ·replace HR:Hid (res=decide (d<=31)):=A0 HR.out;exact OY
 rcases hmm with rfl|hmm
 ·have HR1:Hid (res=decide (d<=28+(if(2:Int)=2∧y%4=0 then 1 else 0))):=A0 HR.out;clear HR;by_cases hy:y%4=0;(·have HR:Hid (res=decide (d<=29)):=A0 (by rw[HR1.out,D0 ⟨rfl,hy⟩];rfl);clear HR1;exact OY);·have HR:Hid (res=decide (d<=28)):=A0 (by rw[HR1.out,C0 (fun h=>hy h.2)];rfl);clear HR1;exact OY
 rcases hmm with rfl|rfl|rfl|rfl|rfl|rfl|rfl|rfl|rfl|rfl
 all_goals replace HR:Hid (res=decide (d<=_)):=A0 HR.out;go_wp2;go_ret;exact⟨Zm HR.out.symm,Xf⟩
end
section
open Go.RowKit Go.WideMaps Go.Maps
def Gs.RuleOk (r:Gs.Rule):Prop:=0<=r.1∧r.1<=3∧1<=r.2.1∧r.2.1<=r.2.2.1∧r.2.2.1<=90∧(r.1=2->r.2.1=6∧r.2.2.1=6)∧(r.1=1->r.2.1=r.2.2.1)∧(r.1=3->r.2.1=1∧20<=r.2.2.1)
instance (r:Gs.Rule):Decidable (Gs.RuleOk r):=by unfold Gs.RuleOk;infer_instance
theorem yV:∀p∈Gs.dir,Gs.RuleOk p.2:=E2
theorem SQ {l:List (List UInt8×Gs.Rule)} {k:List UInt8} {r:Gs.Rule} (h:Gs.get l k=some r):(k,r)∈l:=by
 unfold Gs.get at h;rw[VO]at h;obtain⟨p,hp,rfl⟩:=h;have h1:=OZ hp;have h2:=VP hp;have h3:p.1=k:=B8
 subst h3;exact SR.1 h1
theorem XP {l:List UInt8} {r:Gs.Rule} (h:Gs.find l=some r):Gs.RuleOk r:=by
 have key2:∀r',Gs.find2 l=some r'->Gs.RuleOk r':=by intro r' h';unfold Gs.find2 at h';split at h';(·rename_i r1 h1;split at h';(·simp at h');·simp only[I2]at h';subst h';exact yV _ (SQ h1));·simp at h'
 unfold Gs.find at h;split at h;·rename_i r1 h1;split at h;(·simp only[I2]at h;subst h;exact yV _ (SQ h1));·exact key2 _ h
 ·split at h;(·simp at h);·exact key2 _ h
def Gs.okc (k:Int) (c:UInt8):Bool:=Cd.isDig c.toNat || (k==3&&Gs.charB c)
def Gs.verR (r:Gs.Rule) (d:List UInt8):Int:=
 if(d.length:Int)<r.2.1∨r.2.2.1<(d.length:Int)then 7
 else if d.all (Gs.okc r.1)=false then 6
 else if r.1=2∧Gs.dateB d=false then 9
 else if r.1=1∧Cd.verI 1 d≠0 then 8
 else 0
def Gs.ver (ai d:List UInt8):Int:=match Gs.find ai with
 |none=>29
 |some r=>Gs.verR r d
theorem ZmQ {k:Int} {l:List UInt8} (hk:k≠3) (h:l.all (Gs.okc k)=true):Cd.AllDig l:=by intro c hc;have:=U1.1 h c hc;unfold Gs.okc at this;rw[show(k==3)=false by simpa using hk]at this;simp[Cd.isDig]at this;omega
theorem yW (ai d:ByteArray) (b:Nat) (w:World) (hd:Dir w b) (ha:ai.size<=maxLen) (hs:d.size<=maxLen):
 Calls prog 57 #[.map (some b),.agg #[.string ai,.string d]] w fun e w'=>e=.returned (.int .i64 (Gs.ver ai.data.toList d.data.toList))∧Ext w w':=by
 have HF:=A0 (fun o:Obj=>yA ai b (w.alloc o) (hd.ext ((Ext.refl w).alloc _)) ha)
 have HV:=A0 (Gs.ver.eq_1 ai.data.toList d.data.toList)
 generalize Gs.ver ai.data.toList d.data.toList=res at*
 have hmx:d.size<=9223372036854775807:=hs
 cases hg:Gs.find ai.data.toList with
 |none=>rw[hg]at HV HF;dsimp only at HV;clear hg hd;go_enter func57,ntmps57;go_wp2_with fail;refine(HF.out _).mono ?_;rintro e w1 ⟨rfl,hx1⟩;dsimp only[X7,ZK,Option.isSome];go_wp2;go_ret;exact⟨Z1 HV.out.symm,(((Ext.refl w).alloc _).trans hx1).alloc _⟩
 |some r=>rw[hg]at HV HF;dsimp only at HV;obtain⟨k0,k3,l1,lh,h9,hk2,hk1,hk3⟩:=XP hg;clear hg hd;obtain⟨k,lo,hi,sf⟩:=r;dsimp only at k0 k3 l1 lh h9 hk2 hk1 hk3;have HV2:=A0 (HV.out.trans (Gs.verR.eq_1 (k,lo,hi,sf) d.data.toList));dsimp only at HV2;rw[Zd]at HV2;clear HV;have HK:=A0 (And.intro hk2 hk1);clear hk2 hk1 hk3;go_enter func57,ntmps57;go_wp2_with fail;refine(HF.out _).mono ?_;rintro e w1 ⟨rfl,hx1⟩;dsimp only[X7,ZK,Option.isSome];clear HF;have hbl:w.heap.size<w1.heap.size:=(by have:=hx1.size;exact D7);have hx:Ext w (w1.alloc (.cells #[.int .i64 k,.int .i64 lo,.int .i64 hi,.int .u8 (sf.toNat:Int)] 138)):=(((Ext.refl w).alloc _).trans hx1).alloc _;have cD:(w1.alloc (.cells #[.int .i64 k,.int .i64 lo,.int .i64 hi,.int .u8 (sf.toNat:Int)] 138)).cell? ⟨w.heap.size,1,none⟩=some (.string d):=(by rw[((Ext.refl w1).alloc _).cell (p:=⟨w.heap.size,1,none⟩) hbl,hx1.cell (p:=⟨w.heap.size,1,none⟩) L0];exact SP);have cK:(w1.alloc (.cells #[.int .i64 k,.int .i64 lo,.int .i64 hi,.int .u8 (sf.toNat:Int)] 138)).cell? ⟨w1.heap.size,0,none⟩=some (.int .i64 k):=SP;have HX:=A0 hx;clear hx1 hx;by_cases c1:(d.size:Int)<lo;(·have HR:Hid (res=7):=A0 (by rw[HV2.out,D0 (.inl c1)]);clear HV2;exact SS);have n1:lo<=(d.size:Int):=B0;by_cases c2:hi<(d.size:Int);(·have HR:Hid (res=7):=A0 (by rw[HV2.out,D0 (.inr c2)]);clear HV2 c1;exact SS);have n2:(d.size:Int)<=hi:=B0;have HV3:=A0 (HV2.out.trans (C0 B0));clear HV2 c1 c2;go_wp2;go_loop [35] (fun i=>∃j:Nat,j<=d.size∧i=.int .i64 j∧Hid ((d.data.toList.take j).all (Gs.okc k)=true)) (fun i=>d.size-(intOf i).toNat);(case atStart=>exact X4);case round=>obtain⟨j,hj,rfl,hal⟩:=hrel;by_cases hlt:j<d.size;(·have HA:=A0 (OR d (Gs.okc k) j hlt);have HN:=A0 (OS d (Gs.okc k) j hlt);cases hp:Cd.isDig (d[j].toNat:Int);(·by_cases hk3:k=3;(·subst hk3;cases hq:Gs.charB d[j];(·have HR:Hid (res=6):=A0 (by rw[HV3.out,D0 (HN.out (by rw[Gs.okc,hp,hq];rfl))]);have HP:=A0 hp;have HQ:=A0 hq;clear hp hq HV3 HA HN HK;go_wp2_with fail;refine(OW _ _).mono ?_;rintro e w' ⟨rfl,rfl⟩;rw[HP.out];go_wp2_with fail;refine(yU _ _).mono ?_;rintro e w' ⟨rfl,rfl⟩;rw[HQ.out];exact SS);·have HO:Hid ((d.data.toList.take (j+1)).all (Gs.okc 3)=true):=A0 (by rw[HA.out,hal.out,Gs.okc,hp,hq];rfl);have HP:=A0 hp;have HQ:=A0 hq;clear hp hq HA HN HK;go_wp2_with fail;refine(OW _ _).mono ?_;rintro e w' ⟨rfl,rfl⟩;rw[HP.out];go_wp2_with fail;refine(yU _ _).mono ?_;rintro e w' ⟨rfl,rfl⟩;rw[HQ.out];exact yX);·have hkf:(k==3)=false:=(by simpa using hk3);have HR:Hid (res=6):=A0 (by rw[HV3.out,D0 (HN.out (by rw[Gs.okc,hp,hkf];rfl))]);have HP:=A0 hp;clear hp HV3 HA HN HK hkf;go_wp2_with fail;refine(OW _ _).mono ?_;rintro e w' ⟨rfl,rfl⟩;rw[HP.out];exact SS);·have HO:Hid ((d.data.toList.take (j+1)).all (Gs.okc k)=true):=A0 (by rw[HA.out,hal.out,Gs.okc,hp];rfl);have HP:=A0 hp;clear hp HV3 HA HN HK;go_wp2_with fail;refine(OW _ _).mono ?_;exact GV);·obtain rfl:j=d.size:=B0;rw[Z3]at hal;have HV4:=A0 (HV3.out.trans (C0 (by rw[hal.out];exact Bool.noConfusion)));clear hj hlt HV3;by_cases k2:k=2;(·subst k2;have h6:d.size=6:=(by have:=HK.out.1 rfl;omega);have HDT:=A0 (fun w=>ZkI d h6 (ZmQ I0 hal.out) w);cases hdt:Gs.dateB d.data.toList;(·have HR:Hid (res=9):=A0 (by rw[HV4.out,D0 ⟨rfl,hdt⟩]);have HP:=A0 hdt;clear hdt HV4 HK hal h6;go_wp2_with fail;refine(HDT.out _).mono ?_;rintro e w2 ⟨rfl,hx2⟩;rw[HP.out];exact GW);·have HR:Hid (res=0):=A0 (by rw[HV4.out,C0 (by rw[hdt];simp),C0 (fun h=>absurd h.1 I0)]);have HP:=A0 hdt;clear hdt HV4 HK hal h6;go_wp2_with fail;refine(HDT.out _).mono ?_;rintro e w2 ⟨rfl,hx2⟩;have cK2:=(hx2.cell (p:=⟨w1.heap.size,0,none⟩) L0).trans cK;rw[HP.out];exact GW);·have HV5:=A0 (HV4.out.trans (C0 (fun h=>k2 h.1)));clear HV4;by_cases k1:k=1;(·subst k1;have HDT:=A0 (fun w=>GR 1 d w hmx);obtain⟨x,hx⟩:∃x,Cd.verI 1 d.data.toList=x:=⟨_,rfl⟩;rw[hx]at HDT HV5;clear hx HK hal k2;by_cases h0:x=0;(·subst h0;have HR:Hid (res=0):=A0 (by rw[HV5.out,C0 L0]);exact yY);·have HR:Hid (res=8):=A0 (by rw[HV5.out,D0 ⟨rfl,h0⟩]);have h0':(x==0)=false:=VQ;exact yY);·have HR:Hid (res=0):=A0 (by rw[HV5.out,C0 (fun h=>k1 h.1)]);have k2':(k==2)=false:=(by simpa using k2);have k1':(k==1)=false:=(by simpa using k1);clear HV5 HK hal;exact SS
end
section
open Go.RowKit
abbrev Gs.El:=List UInt8×List UInt8
def Gs.isFix (r:Gs.Rule):Bool:=r.2.1==r.2.2.1
def Gs.verL:List Gs.El->Int
 | []=>0
 |x::xs=>if Gs.ver x.1 x.2=0 then Gs.verL xs else Gs.ver x.1 x.2
def Gs.verAll (xs:List Gs.El):Int:=if xs=[]then 5 else Gs.verL xs
def Gs.fmtE (x:Gs.El):List UInt8:=(40::x.1)++(41::x.2)
def Gs.format (xs:List Gs.El):List UInt8×Int:=
 if Gs.verAll xs≠0 then([],Gs.verAll xs)else if 4096<(xs.flatMap Gs.fmtE).length then([],4)else(xs.flatMap Gs.fmtE,0)
def Gs.fixed (ai:List UInt8):Bool:=match Gs.find ai with
 |none=>true
 |some r=>Gs.isFix r
def Gs.ints (l:List UInt8):List Int:=l.map fun c=>(c.toNat:Int)
def Gs.chG:List Gs.El->List Int
 | []=>[]
 |x::xs=>Gs.ints (x.1++x.2)++((if Gs.fixed x.1 || xs.isEmpty then []else [256])++Gs.chG xs)
def Gs.chars (xs:List Gs.El):List Int×Int:=
 if Gs.verAll xs≠0 then([],Gs.verAll xs)else if 4096<(256::Gs.chG xs).length then([],4)else(256::Gs.chG xs,0)
def Gs.run:List Int->List Int
 | []=>[]
 |c::l=>if c=256 then []else c::Gs.run l
def Gs.byte (c:Int):UInt8:=UInt8.ofNat (c%256).toNat
def Gs.text (l:List Int):List UInt8:=l.map Gs.byte
def Gs.preN (l:List UInt8) (n:Nat):Option (List UInt8×Gs.Rule):=
 if n<=l.length then(Gs.find (l.take n)).map fun r=>(l.take n,r)else none
def Gs.pre (l:List UInt8):Option (List UInt8×Gs.Rule):=(Gs.preN l 2).or ((Gs.preN l 3).or (Gs.preN l 4))
def Gs.next (c:List Int):Gs.El×Nat×Int:=
 if(Gs.run c).length=0 then(([],[]),0,9)
 else match Gs.pre (Gs.text (Gs.run c))with
  |none=>(([],[]),0,29)
  |some (ai,r)=>
   if Gs.isFix r then
    if(Gs.run c).length<ai.length+r.2.2.1.toNat then(([],[]),0,10)
    else if Gs.ver ai (((Gs.text (Gs.run c)).drop ai.length).take r.2.2.1.toNat)≠0 then(([],[]),0,Gs.ver ai (((Gs.text (Gs.run c)).drop ai.length).take r.2.2.1.toNat))
    else((ai,((Gs.text (Gs.run c)).drop ai.length).take r.2.2.1.toNat),ai.length+r.2.2.1.toNat,0)
   else if Gs.ver ai ((Gs.text (Gs.run c)).drop ai.length)≠0 then(([],[]),0,Gs.ver ai ((Gs.text (Gs.run c)).drop ai.length))
   else if(Gs.run c).length+1=c.length then(([],[]),0,9)
   else((ai,(Gs.text (Gs.run c)).drop ai.length),min ((Gs.run c).length+1) c.length,0)
def Gs.fromF:Nat->List Int->List Gs.El->List Gs.El×Int
 |0,_,acc=>(acc,0)
 |n+1,c,acc=>if c=[]then(acc,0)else if(Gs.next c).2.2≠0 then([],(Gs.next c).2.2)else Gs.fromF n (c.drop (Gs.next c).2.1) (acc++[(Gs.next c).1])
def Gs.okCh (c:Int):Bool:=(c==256) || (decide (0<=c)&&decide (c<=127))
def Gs.frChars (c:List Int):List Gs.El×Int:=
 if 4096<c.length then([],4)
 else if c.all Gs.okCh=false then([],6)
 else if c.headD 0≠256 then([],9)
 else if c.length=1 then([],5)
 else Gs.fromF c.length (c.drop 1) []
end
section
namespace Ea
theorem dig_iff {c:UInt8}:Cd.isDig c.toNat=true↔48<=c.toNat∧c.toNat<=57:=by unfold Cd.isDig;exact S0
theorem digs_iff {l:List UInt8}:digs l=true↔∀c∈l,48<=c.toNat∧c.toNat<=57:=by unfold digs;rw[U1];exact⟨fun h c hc=>dig_iff.1 (h c hc),fun h c hc=>dig_iff.2 (h c hc)⟩
theorem digs_app {a b:List UInt8}:digs (a++b)=true↔digs a=true∧digs b=true:=by unfold digs;simp
theorem digs_take {l:List UInt8} (h:digs l=true) (n:Nat):digs (l.take n)=true:=digs_iff.2 fun c hc=>digs_iff.1 h c (G4 hc)
theorem digs_drop {l:List UInt8} (h:digs l=true) (n:Nat):digs (l.drop n)=true:=digs_iff.2 fun c hc=>digs_iff.1 h c (M6 hc)
theorem idx_some {α:Type} [DecidableEq α]:∀ {l:List α} {y:α} {n:Nat},idx l y=some n->l[n]? =some y:=by
 intro l
 induction l with
 |nil=>intro y n h;cases h
 |cons x l ih=>
  intro y n h;unfold idx at h;split at h;(·rename_i e;subst e;cases h;rfl)
  ·cases hi:idx l y with
   |none=>rw[hi]at h;cases h
   |some m=>rw[hi]at h;cases h;simpa using ih hi
theorem modl_len:∀(t:Fin 3) (d:Fin 10),(modl t d).length=7:=by decide
theorem modl_len' {t d:Nat} (ht:t<3) (hd:d<10):(modl t d).length=7:=modl_len ⟨t,ht⟩ ⟨d,hd⟩
theorem look_modl:∀(t:Fin 2) (d:Fin 10),look true 0 (modl t d)=some (d.1,t.1):=by decide
theorem look_one:∀(t:Fin 3) (d:Fin 10),look false t (modl t d)=some (d.1,t.1):=by decide
theorem lookT_some {t d:Nat} {m:List Bool} (ht:t<3) (h:lookT t m=some d):d<10∧m=modl t d:=by
 have h1:=idx_some h;have h2:(tab.getD t []).length=10:=by have:∀t:Fin 3,(tab.getD t []).length=10:=I0;exact this ⟨t,ht⟩
 obtain⟨h3,h4⟩:=I1.1 h1;refine⟨by omega,?_⟩;unfold modl;rw[U0,h1];rfl
def may (both:Bool) (t u:Nat):Prop:=if both=true then u<2 else u=t
theorem look_some {both:Bool} {t d u:Nat} {m:List Bool} (ht:t<3) (h:look both t m=some (d,u)):d<10∧m=modl u d∧may both t u:=by
 unfold look at h
 cases both with
 |true=>
  rw[D0 rfl]at h
  cases h1:lookT 1 m with
  |some d1=>rw[h1]at h;cases h;obtain⟨h3,h4⟩:=lookT_some B0 h1;exact⟨h3,h4,by unfold may;rw[D0 rfl];omega⟩
  |none=>
   rw[h1]at h
   cases h2:lookT 0 m with
   |none=>rw[h2]at h;cases h
   |some d2=>rw[h2]at h;cases h;obtain⟨h3,h4⟩:=lookT_some B0 h2;exact⟨h3,h4,by unfold may;rw[D0 rfl];omega⟩
 |false=>
  rw[C0 L0]at h
  cases h2:lookT t m with
  |none=>rw[h2]at h;cases h
  |some d2=>rw[h2]at h;cases h;obtain⟨h3,h4⟩:=lookT_some ht h2;exact⟨h3,h4,by unfold may;rw[C0 L0]⟩
theorem look_of {both:Bool} {t d u:Nat} (ht:t<3) (hd:d<10) (hu:may both t u):look both t (modl u d)=some (d,u):=by
 unfold may at hu
 cases both with
 |true=>rw[D0 rfl]at hu;have h1:look true t (modl u d)=look true 0 (modl u d):=(by unfold look;simp);rw[h1];exact look_modl ⟨u,hu⟩ ⟨d,hd⟩
 |false=>rw[C0 L0]at hu;subst hu;exact look_one ⟨u,ht⟩ ⟨d,hd⟩
theorem may_lt {both:Bool} {t u:Nat} (ht:t<3) (h:may both t u):u<3:=by unfold may at h;cases both<;>simp at h<;>omega
theorem chr_nat {d:Nat} (h:d<10):(UInt8.ofNat (48+d)).toNat=48+d:=S0
theorem drw_cons (sep:List Bool) (c:UInt8) (l:List UInt8) (t:Nat) (ts:List Nat):drw sep (c::l) (t::ts)=modl t (c.toNat-48)++(if l=[]then []else sep++drw sep l ts):=by
 cases l with
 |nil=>simp[drw]
 |cons d l=>simp[drw]
theorem drw_len (sep:List Bool):∀(l:List UInt8) (us:List Nat),digs l=true->us.length=l.length->(∀u∈us,u<3)->(drw sep l us).length=7*l.length+sep.length*(l.length-1):=by
 intro l
 induction l with
 |nil=>intro us _ _ _;simp[drw]
 |cons c l ih=>
  intro us h1 h2 h3
  cases us with
  |nil=>simp at h2
  |cons u us=>have hc:=digs_iff.1 h1 c (N2 ..);rw[drw_cons,T0,modl_len' (h3 u (N2 ..)) B0];by_cases h0:l=[];(·subst h0;simp);·have hp:=T6.2 h0;rw[C0 h0,T0,ih us (digs_iff.2 fun c hc=>digs_iff.1 h1 c (V2 _ hc)) D9 (fun u hu=>h3 u (V2 _ hu))];simp only[D1,VR];have:sep.length*l.length=sep.length*(l.length-1)+sep.length:=(by(conv=>lhs;rw[show l.length=(l.length-1)+1 by omega]);rw[Nat.mul_add,A9]);omega
theorem drop_app {α:Type} (a b:List α) (n:Nat) (h:n=a.length):(a++b).drop n=b:=by subst h;simp
theorem take_app {α:Type} (a b:List α) (n:Nat) (h:n=a.length):(a++b).take n=a:=by subst h;simp
theorem rcg_inv (both:Bool) (t:Nat) (ht:t<3):∀(n:Nat) (s:List Bool) (l:List UInt8) (us:List Nat),rcg both t 0 n s=some (l,us)->7*n<=s.length->
 s.take (7*n)=drw [] l us∧l.length=n∧us.length=n∧digs l=true∧∀u∈us,may both t u:=by
 intro n
 induction n with
 |zero=>intro s l us h _;cases h;exact⟨rfl,rfl,rfl,rfl,fun u hu=>by cases hu⟩
 |succ n ih=>
  intro s l us h hs
  rw[rcg]at h
  cases h1:look both t (s.take 7)with
  |none=>rw[h1]at h;cases h
  |some p=>
   obtain⟨d,u⟩:=p
   rw[h1]at h
   dsimp only at h
   cases h2:rcg both t 0 n (s.drop (7+0))with
   |none=>rw[h2]at h;cases h
   |some q=>obtain⟨ds,vs⟩:=q;rw[h2]at h;dsimp only at h;cases h;obtain⟨e1,e2,e3⟩:=look_some ht h1;obtain⟨f1,f2,f3,f4,f5⟩:=ih _ _ _ h2 C8;refine⟨?_,by simp[f2],by simp[f3],?_,?_⟩;(·rw[drw_cons,chr_nat e1,GX,<-e2,Nat.mul_add,A9,Nat.add_comm,List.take_add,<-f1];congr 1;by_cases h0:ds=[];(·rw[D0 h0];have:n=0:=(by rw[<-f2,h0];rfl);subst this;simp);·rw[C0 h0];simp);(·refine digs_iff.2 fun c hc=> ?_;rcases V3.1 hc with rfl|hc;(·rw[chr_nat e1];omega);·exact digs_iff.1 f4 c hc);·intro v hv;rcases V3.1 hv with rfl|hv;(·exact e3);·exact f5 v hv
theorem modl_inj:∀(t t':Fin 3) (d d':Fin 10),modl t d=modl t' d'->t=t'∧d=d':=E2
theorem look_uniq {both:Bool} {t:Nat} (ht:t<3) {m:List Bool} {d0 u0:Nat} (h:look both t m=some (d0,u0)) {d u:Nat} (hd:d<10) (hu:may both t u):m=modl u d↔d=d0∧u=u0:=by
 obtain⟨h1,h2,h3⟩:=look_some ht h;constructor;·rintro e;have:=modl_inj ⟨u,may_lt ht hu⟩ ⟨u0,may_lt ht h3⟩ ⟨d,hd⟩ ⟨d0,h1⟩ (e.symm.trans h2);simp at this;exact⟨this.2,this.1⟩
 ·rintro⟨rfl,rfl⟩;exact h2
def sofar (r:Option (List UInt8×List Nat)) (ds:List UInt8) (us:List Nat):Option (List UInt8×List Nat):=r.map (fun p=>(ds++p.1,us++p.2))
theorem sofar_nil (r:Option (List UInt8×List Nat)):sofar r [] []=r:=by unfold sofar;cases r<;>rfl
theorem sofar_end (ds:List UInt8) (us:List Nat):sofar (some ([],[])) ds us=some (ds,us):=by unfold sofar;simp
theorem rcg_none {both:Bool} {t gap n:Nat} {s:List Bool} (h:look both t (s.take 7)=none):rcg both t gap (n+1) s=none:=by rw[rcg,h]
theorem rcg_some {both:Bool} {t gap n:Nat} {s:List Bool} {d u:Nat} (h:look both t (s.take 7)=some (d,u)) (ds:List UInt8) (us:List Nat):sofar (rcg both t gap (n+1) s) ds us=sofar (rcg both t gap n (s.drop (7+gap))) (ds++[chr d]) (us++[u]):=by
 rw[rcg,h]
 dsimp only
 cases rcg both t gap n (s.drop (7+gap))with
 |none=>rfl
 |some p=>obtain⟨l,v⟩:=p;unfold sofar chr;simp
theorem ldg_lgt (n:Nat) (l:List Bool):ldg (lgt n++true::l)=n:=by
 unfold lgt
 induction n with
 |zero=>rfl
 |succ n ih=>rw[N5,J3,ldg];simp[ih]
theorem ldg_le (l:List Bool):ldg l<=l.length:=by
 induction l with
 |nil=>simp[ldg]
 |cons b l ih=>unfold ldg;split<;>simp;omega
theorem ldg_split:∀(l:List Bool),ldg l<l.length->∃r,l=lgt (ldg l)++true::r:=by
 intro l
 induction l with
 |nil=>intro h;simp[ldg]at h
 |cons b l ih=>
  intro h
  cases b with
  |true=>exact⟨l,by simp[ldg,lgt]⟩
  |false=>have e:ldg (false::l)=ldg l+1:=(by simp[ldg]);rw[e]at h⊢;obtain⟨r,hr⟩:=ih M5;refine⟨r,?_⟩;unfold lgt at*;rw[N5,J3,<-hr]
theorem rev_lgt (n:Nat):(lgt n).reverse=lgt n:=by unfold lgt;simp
theorem lgt_len (n:Nat):(lgt n).length=n:=by unfold lgt;simp
theorem trl_lgt (n:Nat) (l:List Bool):trl (l++[true]++lgt n)=n:=by unfold trl;rw[T5,rev_lgt,T5];exact ldg_lgt _ _
end Ea
end
end Go.Proofs.YtbngggoccndefaaGreatDoor
