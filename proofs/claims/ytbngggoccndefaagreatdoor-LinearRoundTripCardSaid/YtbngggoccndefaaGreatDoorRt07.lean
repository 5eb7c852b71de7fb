/-
  Laid.
-/
import Derived.Test.YtbngggoccndefaaGreatDoorRt01
import Derived.Test.YtbngggoccndefaaGreatDoorRt06
set_option maxHeartbeats 8000000
set_option maxRecDepth 100000
set_option linter.all false
section
namespace Go.Proofs.YtbngggoccndefaaGreatDoor
open Go.Proofs.Tryz
open Go.RowKit
theorem NX (c:Int) (w:World):
 Calls prog 338 #[.int .u8 c] w fun e w'=>e=.returned (.bool (Cd.isDig c))∧w=w':=by
 go_enter func338,ntmps338
 go_wp2
 ·exact EX
 ·exact EY
theorem NY (v:Int) (w:World) (h0:0<=v) (h1:v<=10):
 Calls prog 340 #[.int .i64 v] w fun e w'=>e=.returned (.string ⟨#[Cd.chr v]⟩)∧w=w':=by
 by_cases h:v=10
 ·subst h;go_enter func340,ntmps340;exact VR
 ·have hb:(v==10)=false:=A6;obtain⟨n,rfl⟩:=B6 h0;have hd:=Cd.dec_chr n C0;have HD:=B0 hd;clear hd h;go_enter func340,ntmps340;go_wp2_with fail;refine(Tryz.strconv_Itoa_small n C0 _).mono ?_;rintro e w' ⟨rfl,rfl⟩;go_wp2;go_ret;exact⟨YX (by rw[HD.out]),rfl⟩
theorem gQ (s:ByteArray) (w:World) (hs:s.size<=4096) (hd:Cd.AllDig s.data.toList):
 Calls prog 339 #[.agg #[],.string s] w fun e w'=>e=.returned (.string ⟨(Cd.cmp 1 s.data.toList).toArray⟩)∧Ext w w':=by
 have HD:=B0 hd
 clear hd
 go_enter func339,ntmps339
 go_wp2
 go_loop [5,6,7] (fun t u i=>∃k:Nat,k<=s.size∧i=.int .i64 ((k:Int)-1)∧t=.int .i64 (Cd.gsP (s.data.toList.drop k)).1∧u=.int .i64 (Cd.gsP (s.data.toList.drop k)).2) (fun _ _ i=>(intOf i+1).toNat)
 case atStart=>exact EZ
 case round=>obtain⟨k,hk,rfl,rfl,rfl⟩:=hrel;have hb:=Cd.gsP_bd _ (Cd.allDig_drop HD.out k);rw[S9]at hb;obtain⟨hb1,hb2⟩:=hb;by_cases hlt:k=0;(·exact DA);·obtain⟨j,rfl⟩:∃j,k=j+1:=⟨k-1,by omega⟩;obtain⟨hx1,hx2⟩:=HD.out _ (Zq s j C0);have hw:=Cd.gsP_w (s.data.toList.drop (j+1));have hjl:j<s.size:=C0;have hs1:Cd.gsP (s.data.toList.drop j)=((Cd.gsP (s.data.toList.drop (j+1))).1+(Cd.gsP (s.data.toList.drop (j+1))).2*Cd.dg s[j],4-(Cd.gsP (s.data.toList.drop (j+1))).2):=R0 Cd.gsP (TW s j hjl);generalize Cd.gsP (s.data.toList.drop (j+1))=g at*;have HS:=B0 hs1;clear hs1;obtain⟨a,b⟩:=g;dsimp only at hw hb1 hb2 HS⊢;split at hw;all_goals subst hw;clear hlt;go_wp2;go_round;(case rel=>exact DB);case measure=>simp[intOf]
theorem gR (s:ByteArray) (w:World) (hs:s.size<=4096) (hd:Cd.AllDig s.data.toList):
 Calls prog 355 #[.agg #[],.string s] w fun e w'=>e=.returned (.string ⟨(Cd.cmp 2 s.data.toList).toArray⟩)∧Ext w w':=by
 have HD:=B0 hd
 clear hd
 go_enter func355,ntmps355
 go_wp2
 go_loop [5,6,7] (fun t u i=>∃k:Nat,k<=s.size∧i=.int .i64 ((k:Int)-1)∧t=.int .i64 (Cd.lnP (s.data.toList.drop k)).1∧u=.bool (Cd.lnP (s.data.toList.drop k)).2) (fun _ _ i=>(intOf i+1).toNat)
 case atStart=>exact EZ
 case round=>obtain⟨k,hk,rfl,rfl,rfl⟩:=hrel;have hb:=Cd.lnP_bd _ (Cd.allDig_drop HD.out k);rw[S9]at hb;obtain⟨hb1,hb2⟩:=hb;by_cases hlt:k=0;(·exact DA);·obtain⟨j,rfl⟩:∃j,k=j+1:=⟨k-1,by omega⟩;obtain⟨hx1,hx2⟩:=HD.out _ (Zq s j C0);have hjl:j<s.size:=C0;have hs1:Cd.lnP (s.data.toList.drop j)=((Cd.lnP (s.data.toList.drop (j+1))).1+(if(Cd.lnP (s.data.toList.drop (j+1))).2 then Cd.dbl (Cd.dg s[j])else Cd.dg s[j]),!(Cd.lnP (s.data.toList.drop (j+1))).2):=R0 Cd.lnP (TW s j hjl);generalize Cd.lnP (s.data.toList.drop (j+1))=g at*;have HS:=B0 hs1;clear hs1;obtain⟨a,b⟩:=g;dsimp only at hb1 hb2 HS⊢;clear hlt;cases b;(·go_wp2;go_round;(case rel=>exact DB);case measure=>simp[intOf]);·by_cases h9:9<((s[j].toNat:Int)-48)*2;(·go_wp2;go_round;(case rel=>exact⟨j,by omega,by go_num,by rw[HS.out];simp only[R4,Cd.dg,Cd.dbl_hi _ h9],by rw[HS.out];rfl⟩);case measure=>simp[intOf]);·go_wp2;go_round;(case rel=>exact⟨j,by omega,by go_num,by rw[HS.out];simp only[R4,Cd.dg,Cd.dbl_lo _ h9],by rw[HS.out];rfl⟩);case measure=>simp[intOf]
theorem gS (s:ByteArray) (w:World) (hs:s.size<=4096) (hd:Cd.AllDig s.data.toList):
 Calls prog 362 #[.agg #[],.string s] w fun e w'=>e=.returned (.string ⟨(Cd.cmp 6 s.data.toList).toArray⟩)∧Ext w w':=by
 have HD:=B0 hd
 clear hd
 go_enter func362,ntmps362
 go_wp2
 go_loop [5,10] (fun t i=>∃k:Nat,k<=s.size∧i=.int .i64 (k:Int)∧t=.int .i64 (Cd.i97 (s.data.toList.take k))) (fun _ i=>s.size-(intOf i).toNat)
 case atStart=>exact SO
 case round=>obtain⟨k,hk,rfl,rfl⟩:=hrel;obtain⟨hb1,hb2⟩:=Cd.i97_bd (s.data.toList.take k);by_cases hlt:k<s.size;(·obtain⟨hx1,hx2⟩:=HD.out _ (Zq s k hlt);have hs1:Cd.i97 (s.data.toList.take (k+1))=(10*Cd.i97 (s.data.toList.take k)+Cd.dg s[k])%97:=(by rw[ZP s k hlt];unfold Cd.i97;rw[Cd.foldl_snoc]);generalize Cd.i97 (s.data.toList.take k)=g at*;exact DC);·obtain rfl:k=s.size:=C0;rw[ZI]at hb1 hb2⊢;clear hk hlt;have H1:=B0 (Cd.dec_chr ((98-100*Cd.i97 s.data.toList%97)/10).toNat C0);have H2:=B0 (Cd.dec_chr ((98-100*Cd.i97 s.data.toList%97)%10).toNat C0);go_wp2_with fail;obtain⟨n1,hn1⟩:∃n1:Nat,(98-100*Cd.i97 s.data.toList%97)/10=(n1:Int):=⟨((98-100*Cd.i97 s.data.toList%97)/10).toNat,by omega⟩;rw[hn1];refine(Tryz.strconv_Itoa_small n1 C0 _).mono ?_;rintro e w' ⟨rfl,rfl⟩;have HN1:=B0 hn1;clear hn1;go_wp2_with fail;obtain⟨n2,hn2⟩:∃n2:Nat,(98-100*Cd.i97 s.data.toList%97)%10=(n2:Int):=⟨((98-100*Cd.i97 s.data.toList%97)%10).toNat,by omega⟩;rw[hn2];refine(Tryz.strconv_Itoa_small n2 C0 _).mono ?_;rintro e w' ⟨rfl,rfl⟩;have HN2:=B0 hn2;clear hn2;rw[Cd.dec_chr n1 (by have:=HN1.out;omega),Cd.dec_chr n2 (by have:=HN2.out;omega)];go_wp2;go_ret;exact⟨YX (by simp only[Cd.cmp];rw[HN1.out,HN2.out];rfl),Xe⟩
theorem gT (s:ByteArray) (w:World) (hs:s.size<=4096) (hd:Cd.AllDig s.data.toList):
 Calls prog 370 #[.agg #[],.string s] w fun e w'=>e=.returned (.string ⟨(Cd.cmp 8 s.data.toList).toArray⟩)∧Ext w w':=by
 have HD:=B0 hd
 clear hd
 go_enter func370,ntmps370
 go_wp2
 go_loop [5,9] (fun t i=>∃k:Nat,k<=s.size∧i=.int .i64 (k:Int)∧t=.int .i64 (Cd.i11 (s.data.toList.take k))) (fun _ i=>s.size-(intOf i).toNat)
 case atStart=>exact SO
 case round=>obtain⟨k,hk,rfl,rfl⟩:=hrel;obtain⟨hb1,hb2⟩:=Cd.i11_bd (s.data.toList.take k);by_cases hlt:k<s.size;(·obtain⟨hx1,hx2⟩:=HD.out _ (Zq s k hlt);have hs1:Cd.i11 (s.data.toList.take (k+1))=2*(Cd.i11 (s.data.toList.take k)+Cd.dg s[k])%11:=(by rw[ZP s k hlt];unfold Cd.i11;rw[Cd.foldl_snoc]);generalize Cd.i11 (s.data.toList.take k)=g at*;exact DC);·obtain rfl:k=s.size:=C0;rw[ZI]at hb1 hb2⊢;clear hk hlt;exact QQ
theorem gU (s:ByteArray) (w:World) (hs:s.size=9) (hd:Cd.AllDig s.data.toList):
 Calls prog 357 #[.agg #[],.string s] w fun e w'=>e=.returned (.string ⟨(Cd.cmp 3 s.data.toList).toArray⟩)∧Ext w w':=by
 have HD:=B0 hd
 have HN:=B0 hs
 have hs':s.size<=9:=by omega
 clear hd hs
 go_enter func357,ntmps357
 go_wp2
 go_loop [5,9] (fun t i=>∃k:Nat,k<=s.size∧i=.int .i64 (k:Int)∧t=.int .i64 (Cd.isb s.data.toList-Cd.isb (s.data.toList.drop k))) (fun _ i=>s.size-(intOf i).toNat)
 case atStart=>exact⟨0,U0 _,rfl,by simp⟩
 case round=>obtain⟨k,hk,rfl,rfl⟩:=hrel;obtain⟨ha1,ha2⟩:=Cd.isb_bd s.data.toList HD.out (by rw[Za];exact hs');obtain⟨hb1,hb2⟩:=Cd.isb_bd (s.data.toList.drop k) (Cd.allDig_drop HD.out k) (by rw[S9];omega);rw[Za]at ha2;rw[S9]at hb2;by_cases hlt:k<s.size;(·obtain⟨hx1,hx2⟩:=HD.out _ (Zq s k hlt);have hs1:Cd.isb (s.data.toList.drop k)=Cd.isb (s.data.toList.drop (k+1))+(((s.data.toList.drop (k+1)).length:Int)+2)*Cd.dg s[k]:=(by rw[TW s k hlt];rfl);rw[S9,show((s.size-(k+1):Nat):Int)+2=10-(k:Int) by have:=HN.out;omega]at hs1;have hm1:0<=(10-(k:Int))*((s[k].toNat:Int)-48):=O8 C0 C0;have hm2:(10-(k:Int))*((s[k].toNat:Int)-48)<=10*9:=T9 C0 C0 C0 C0;generalize Cd.isb (s.data.toList.drop k)=g at*;generalize Cd.isb s.data.toList=g0 at*;have HS:=B0 hs1;clear hs1;go_wp2;go_round;(case rel=>exact⟨k+1,by omega,by go_num,by have:=HS.out;simp only[Cd.dg]at this;congr 1;omega⟩);case measure=>exact QD);·obtain rfl:k=s.size:=C0;rw[TY]at hb1 hb2⊢;clear hk hlt;simp only[Cd.isb,Int.sub_zero]at hb1 hb2⊢;exact QQ
end Go.Proofs.YtbngggoccndefaaGreatDoor
namespace Go.Proofs.YtbngggoccndefaaGreatDoor
open Go.Proofs.Tryz
open Go.RowKit
theorem gV (c:UInt8):((c.toNat:Int).toNat).toUInt8=c:=by simp
theorem NZ (c:Int) (w:World):
 Calls prog 56 #[.string ⟨#[48,49,50,51,52,53,54,55,56,57,65,66,67,68,69,70,71,72,73,74,75,76,77,78,79,80,81,82,83,84,85,86,87,88,89,90,45,46,32,36,47,43,37]⟩,.int .u8 c] w fun e w'=>e=.returned (.int .i64 (Cd.plc c.toNat.toUInt8))∧w=w':=
 (Tryz.strings_IndexByte _ c w).mono fun _ _ ⟨he,hw⟩=>⟨he,hw.symm⟩
theorem gW:∀n:Fin 43,((⟨Cd.syms.toArray⟩:ByteArray).extract n.1 (n.1+1)).data.toList=[Cd.syms.getD n.1 48]:=Y1
theorem gY (n:Nat) (h:n<43):(⟨Cd.syms.toArray⟩:ByteArray).extract (n:Int).toNat ((n:Int)+1).toNat=⟨[Cd.syms.getD (n:Int).toNat 48].toArray⟩:=by
 have h1:=gW ⟨n,h⟩;have e:((n:Int)+1).toNat=n+1:=by omega
 rw[e,R6];dsimp only at h1;rw[<-h1]
theorem gZ (s:ByteArray) (w:World) (hs:s.size<=4096) (hd:∀c∈s.data.toList,0<=Cd.plc c):
 Calls prog 365 #[.agg #[],.string s] w fun e w'=>e=.returned (.string ⟨(Cd.cmp 7 s.data.toList).toArray⟩)∧Ext w w':=by
 have HD:=B0 hd
 clear hd
 go_enter func365,ntmps365
 go_wp2
 go_loop [5,10] (fun t i=>∃k:Nat,k<=s.size∧i=.int .i64 (k:Int)∧t=.int .i64 (Cd.c39 (s.data.toList.take k))) (fun _ i=>s.size-(intOf i).toNat)
 case atStart=>exact SO
 case round=>obtain⟨k,hk,rfl,rfl⟩:=hrel;obtain⟨hb1,hb2⟩:=Cd.c39_bd (s.data.toList.take k) (fun c hc=>HD.out c (L5 hc));rw[VC s k hk]at hb2;by_cases hlt:k<s.size;(·have hx1:=HD.out _ (Zq s k hlt);have hx2:=(Cd.plc_bd s[k]).2;have hs1:Cd.c39 (s.data.toList.take (k+1))=Cd.c39 (s.data.toList.take k)+Cd.plc s[k]:=(by rw[ZP s k hlt];unfold Cd.c39;simp);generalize Cd.c39 (s.data.toList.take k)=g at*;have HS:=B0 hs1;clear hs1;go_wp2_with fail;refine(NZ _ _).mono ?_;rintro e w' ⟨rfl,rfl⟩;rw[gV];go_wp2;go_round;(case rel=>exact⟨k+1,by omega,by go_num,by rw[HS.out]⟩);case measure=>exact QD);·obtain rfl:k=s.size:=C0;rw[ZI]at hb1 hb2⊢;clear hk hlt;go_wp2;go_ret;exact⟨YX (by obtain⟨n,hn⟩:∃n:Nat,Cd.c39 s.data.toList%43=(n:Int):=⟨(Cd.c39 s.data.toList%43).toNat,by omega⟩;simp only[Cd.cmp,hn];exact gY n C0),Xe⟩
theorem MA (a b:Int) (w:World) (h0:0<=a) (h1:a<=9) (h2:0<=b) (h3:b<=9):
 Calls prog 360 #[.int .i64 a,.int .i64 b] w fun e w'=>e=.returned (.int .i64 (Cd.dih a b))∧w=w':=by
 by_cases ha:a<5<;>by_cases hb:b<5
 all_goals
  go_enter func360,ntmps360;go_wp2;go_ret;exact⟨Z3 (by
   unfold Cd.dih
   repeat' split
   all_goals omega),rfl⟩
def SP:Obj:=.cells #[.string ⟨#[48,51,49,55,53,57,56,54,52,50]⟩,.string ⟨#[55,48,57,50,49,53,52,56,54,51]⟩,.string ⟨#[52,50,48,54,56,55,49,51,53,57]⟩,.string ⟨#[49,55,53,48,57,56,51,52,50,54]⟩,.string ⟨#[54,49,50,51,48,52,53,57,55,56]⟩,.string ⟨#[51,54,55,52,50,48,57,53,56,49]⟩,.string ⟨#[53,56,54,57,55,50,48,49,51,52]⟩,.string ⟨#[56,57,52,53,51,54,50,48,49,55]⟩,.string ⟨#[57,52,51,56,54,49,55,50,48,53]⟩,.string ⟨#[50,53,56,49,52,51,54,55,57,48]⟩] 210
def YC (c:Nat):ByteArray:=⟨(Cd.dmT.getD c []).toArray⟩
theorem rA (w:World):∀c:Nat,c<10->((w.alloc (.cells #[] 191)).alloc SP).cell? ⟨w.heap.size+1,c,none⟩=some (.string (YC c)):=by
 intro c hc;rw[SP,World.cell?_alloc2_new];have h:∀c:Fin 10,(#[.string ⟨#[48,51,49,55,53,57,56,54,52,50]⟩,.string ⟨#[55,48,57,50,49,53,52,56,54,51]⟩,.string ⟨#[52,50,48,54,56,55,49,51,53,57]⟩,.string ⟨#[49,55,53,48,57,56,51,52,50,54]⟩,.string ⟨#[54,49,50,51,48,52,53,57,55,56]⟩,.string ⟨#[51,54,55,52,50,48,57,53,56,49]⟩,.string ⟨#[53,56,54,57,55,50,48,49,51,52]⟩,.string ⟨#[56,57,52,53,51,54,50,48,49,55]⟩,.string ⟨#[57,52,51,56,54,49,55,50,48,53]⟩,.string ⟨#[50,53,56,49,52,51,54,55,57,48]⟩]:Array Value)[c.1]? =some (.string (YC c.1)):=by
  intro c
  match c with
  |⟨0,_⟩=>rfl
  |⟨1,_⟩=>rfl
  |⟨2,_⟩=>rfl
  |⟨3,_⟩=>rfl
  |⟨4,_⟩=>rfl
  |⟨5,_⟩=>rfl
  |⟨6,_⟩=>rfl
  |⟨7,_⟩=>rfl
  |⟨8,_⟩=>rfl
  |⟨9,_⟩=>rfl
 exact h ⟨c,hc⟩
theorem rB:∀(c x:Fin 10),∃h:x.1<(YC c.1).size,48<=((YC c.1)[x.1]'h).toNat∧((YC c.1)[x.1]'h).toNat<=57∧Cd.dmAt (c.1:Int) (x.1:Int)=(((YC c.1)[x.1]'h).toNat:Int)-48:=by decide
theorem rC (s:ByteArray) (w:World) (hs:s.size<=4096) (hd:Cd.AllDig s.data.toList):
 Calls prog 361 #[.agg #[],.string s] w fun e w'=>e=.returned (.string ⟨(Cd.cmp 5 s.data.toList).toArray⟩)∧Ext w w':=by
 have HD:=B0 hd
 clear hd
 go_enter func361,ntmps361
 go_wp2
 have HC:=B0 (rA w)
 have HX:Ext w ((w.alloc (.cells #[] 191)).alloc SP):=((Ext.refl _).alloc _).alloc _
 unfold SP at HC HX
 generalize(w.alloc (.cells #[] 191)).alloc (.cells #[.string ⟨#[48,51,49,55,53,57,56,54,52,50]⟩,.string ⟨#[55,48,57,50,49,53,52,56,54,51]⟩,.string ⟨#[52,50,48,54,56,55,49,51,53,57]⟩,.string ⟨#[49,55,53,48,57,56,51,52,50,54]⟩,.string ⟨#[54,49,50,51,48,52,53,57,55,56]⟩,.string ⟨#[51,54,55,52,50,48,57,53,56,49]⟩,.string ⟨#[53,56,54,57,55,50,48,49,51,52]⟩,.string ⟨#[56,57,52,53,51,54,50,48,49,55]⟩,.string ⟨#[57,52,51,56,54,49,55,50,48,53]⟩,.string ⟨#[50,53,56,49,52,51,54,55,57,48]⟩] 210)=W at*
 go_loopw [6,11] (fun t i wr=>(∃k:Nat,k<=s.size∧i=.int .i64 (k:Int)∧t=.int .i64 (Cd.dm (s.data.toList.take k)))∧∃n,wr=W.drewN n) (fun _ i _=>s.size-(intOf i).toNat)
 case atStart=>exact⟨⟨0,U0 _,rfl,rfl⟩,0,rfl⟩
 case round=>obtain⟨⟨k,hk,rfl,rfl⟩,n,rfl⟩:=hrel;obtain⟨hb1,hb2⟩:=Cd.dm_bd (s.data.toList.take k) (Cd.allDig_take HD.out k);by_cases hlt:k<s.size;(·obtain⟨hx1,hx2⟩:=HD.out _ (Zq s k hlt);have hs1:Cd.dm (s.data.toList.take (k+1))=Cd.dmAt (Cd.dm (s.data.toList.take k)) (Cd.dg s[k]):=(by rw[ZP s k hlt];unfold Cd.dm;rw[Cd.foldl_snoc]);generalize Cd.dm (s.data.toList.take k)=g at*;obtain⟨c,rfl⟩:=B6 hb1;obtain⟨x,hx⟩:∃x:Nat,Cd.dg s[k]=(x:Int):=⟨(Cd.dg s[k]).toNat,by unfold Cd.dg;omega⟩;have hx':(s[k].toNat:Int)-48=(x:Int):=hx;rw[hx]at hs1;obtain⟨hr,hv1,hv2,hv3⟩:=rB ⟨c,by omega⟩ ⟨x,by unfold Cd.dg at hx;omega⟩;dsimp only at hr hv1 hv2 hv3;rw[hv3]at hs1;have hcell:=HC.out c C0;generalize YC c=r at*;have HS:=B0 hs1;clear hs1 hv3 hx;go_wp2;go_quiet (fail);go_wp2;go_roundw;(case rel=>exact⟨⟨k+1,by omega,by go_num,by rw[HS.out]⟩,_,rfl⟩);case measure=>exact QD);·obtain rfl:k=s.size:=C0;rw[ZI]at hb1 hb2⊢;clear hk hlt;go_wp2_with fail;refine(NY _ _ C0 C0).mono ?_;rintro e w' ⟨rfl,rfl⟩;go_wp2;go_ret;exact⟨YX (by simp[Cd.cmp]),HX.drewN _⟩
def pwL (m d:Nat):List Value:=(List.range 10).map fun j=>.int .i64 (if j<d then Cd.permN (m+1) (j:Int)else Cd.permN m (j:Int))
def pw (m d:Nat):Array Value:=(pwL m d).toArray
theorem rD (m d:Nat) (h:d<10):(pw m d)[d]? =some (.int .i64 (Cd.permN m (d:Int))):=by simp[pw,pwL,h]
theorem rE (m x:Nat) (h:x<10):(pw m 0)[x]? =some (.int .i64 (Cd.permN m (x:Int))):=by simp[pw,pwL,h]
theorem rF (m d:Nat) (h:d<10):(pw m d).setIfInBounds d (.int .i64 (Cd.perm (Cd.permN m (d:Int))))=pw m (d+1):=by
 apply MB;intro i;rw[Array.getElem?_setIfInBounds];by_cases e:d=i;·subst e;simp[pw,pwL,h,Cd.permN]
 ·rw[D0 e];by_cases hi:i<10;(·simp only[pw,pwL,VT,X2,List.getElem?_range hi,H7];by_cases hl:i<d;(·rw[G0 hl,G0 C0]);·rw[D0 hl,D0 C0]);·have e1:∀m d,(pw m d)[i]? =none:=(by intro m d;rw[Array.getElem?_eq_none_iff];simp[pw,pwL];omega);rw[e1,e1]
theorem rG (m:Nat):pw m 10=pw (m+1) 0:=by unfold pw pwL;congr 1
def VU:Obj:=.cells #[.int .i64 1,.int .i64 5,.int .i64 7,.int .i64 6,.int .i64 2,.int .i64 8,.int .i64 3,.int .i64 0,.int .i64 9,.int .i64 4] 386
theorem rH (w:World):∀c:Nat,c<10->((w.alloc (.cells #[] 190)).alloc VU).cell? ⟨w.heap.size+1,c,none⟩=some (.int .i64 (Cd.perm (c:Int))):=by
 intro c hc;rw[VU,World.cell?_alloc2_new];have h:∀c:Fin 10,(#[.int .i64 1,.int .i64 5,.int .i64 7,.int .i64 6,.int .i64 2,.int .i64 8,.int .i64 3,.int .i64 0,.int .i64 9,.int .i64 4]:Array Value)[c.1]? =some (.int .i64 (Cd.perm (c.1:Int))):=by
  intro c
  match c with
  |⟨0,_⟩=>rfl
  |⟨1,_⟩=>rfl
  |⟨2,_⟩=>rfl
  |⟨3,_⟩=>rfl
  |⟨4,_⟩=>rfl
  |⟨5,_⟩=>rfl
  |⟨6,_⟩=>rfl
  |⟨7,_⟩=>rfl
  |⟨8,_⟩=>rfl
  |⟨9,_⟩=>rfl
 exact h ⟨c,hc⟩
theorem rI:(#[.int .i64 0,.int .i64 1,.int .i64 2,.int .i64 3,.int .i64 4,.int .i64 5,.int .i64 6,.int .i64 7,.int .i64 8,.int .i64 9]:Array Value)=pw 0 0:=rfl
theorem rJ (s:ByteArray) (w:World) (hs:s.size<=4096) (hd:Cd.AllDig s.data.toList):
 Calls prog 359 #[.agg #[],.string s] w fun e w'=>e=.returned (.string ⟨(Cd.cmp 4 s.data.toList).toArray⟩)∧Ext w w':=by
 have HD:=B0 hd
 clear hd
 go_enter func359,ntmps359
 go_wp2
 have HC:=B0 (rH w)
 have HX:Ext w ((w.alloc (.cells #[] 190)).alloc VU):=((Ext.refl _).alloc _).alloc _
 have hz:((w.alloc (.cells #[] 190)).alloc VU).heap.size=w.heap.size+2:=by simp
 have HZ:=B0 hz
 clear hz
 unfold VU at HC HX HZ
 rw[rI]
 generalize(w.alloc (.cells #[] 190)).alloc (.cells #[.int .i64 1,.int .i64 5,.int .i64 7,.int .i64 6,.int .i64 2,.int .i64 8,.int .i64 3,.int .i64 0,.int .i64 9,.int .i64 4] 386)=W at*
 go_loopw [7,8] (fun t i wr=>∃k:Nat,k<=s.size∧i=.int .i64 ((k:Int)-1)∧t=.int .i64 (Cd.vh (s.data.toList.drop k))∧wr=W.alloc (.cells (pw (s.size-k) 0) 386)) (fun _ i _=>(intOf i+1).toNat)
 case atStart=>exact⟨s.size,I0 _,rfl,by rw[TY];rfl,by rw[O3]⟩
 case round=>obtain⟨k,hk,rfl,rfl,rfl⟩:=hrel;obtain⟨hb1,hb2⟩:=Cd.vh_bd _ (Cd.allDig_drop HD.out k);by_cases hlt:k=0;(·subst hlt;simp only[I4,YD]at hb1 hb2⊢;rw[show((0:Nat):Int)-1= -1 from rfl];have hX:=HX.alloc (.cells (pw s.size 0) 386);have HE:Hid (Cd.cmp 4 s.data.toList=[Cd.chr (Cd.inv (Cd.vh s.data.toList))]):=rfl;generalize Cd.vh s.data.toList=c at*;generalize W.alloc (.cells (pw s.size 0) 386)=W2 at*;have hi:=Cd.inv_bd c ⟨hb1,hb2⟩;go_wp2;go_loop [10] (fun t=>∃n:Int,0<=n∧n<=Cd.inv c∧t=.int .i64 n) (fun t=>(9-intOf t).toNat);(case atStart=>exact⟨0,by omega,by omega,rfl⟩);case round=>obtain⟨n,hn1,hn2,rfl⟩:=hrel;by_cases hn:n=Cd.inv c;(·have h0:(Cd.dih n c !=0)=false:=(by rw[hn,Cd.dih_inv c ⟨hb1,hb2⟩];rfl);have HN:=B0 hn;obtain⟨hi1,hi2⟩:=hi;clear hn;go_wp2_with fail;refine(MA _ _ _ hn1 C0 hb1 hb2).mono ?_;rintro e w' ⟨rfl,rfl⟩;go_wp2_with fail;refine(NY _ _ hn1 C0).mono ?_;rintro e w' ⟨rfl,rfl⟩;go_wp2;go_ret;exact⟨YX (by rw[HE.out,<-HN.out]),hX⟩);·have h0:(Cd.dih n c !=0)=true:=(by simp only[N2,ne_eq];exact fun h=>hn (Cd.dih_inv_only c n ⟨hb1,hb2⟩ C0 h));have hn9:n<9:=C0;have HN:Hid (n+1<=Cd.inv c):=(by show n+1<=Cd.inv c;omega);clear hn;go_wp2_with fail;refine(MA _ _ _ hn1 C0 hb1 hb2).mono ?_;rintro e w' ⟨rfl,rfl⟩;go_wp2;go_round;(case rel=>exact⟨n+1,by omega,HN.out,by go_num⟩);case measure=>exact QD);·obtain⟨j,rfl⟩:∃j,k=j+1:=⟨k-1,by omega⟩;obtain⟨hx1,hx2⟩:=HD.out _ (Zq s j C0);have hjl:j<s.size:=C0;have hs1:Cd.vh (s.data.toList.drop j)=Cd.dih (Cd.vh (s.data.toList.drop (j+1))) (Cd.permN ((s.data.toList.drop (j+1)).length+1) (Cd.dg s[j])):=R0 Cd.vh (TW s j hjl);rw[S9]at hs1;generalize Cd.vh (s.data.toList.drop (j+1))=g at*;have hm:s.size-j=s.size-(j+1)+1:=C0;have HM:=B0 hm;clear hm;generalize s.size-(j+1)=m at*;have HS:=B0 hs1;clear hs1 hlt;go_wp2;go_loopw [20] (fun i wr=>∃d:Nat,d<=10∧i=.int .i64 (d:Int)∧wr=W.alloc (.cells (pw m d) 386)) (fun i _=>10-(intOf i).toNat);(case atStart=>exact⟨0,by omega,rfl,rfl⟩);case round=>obtain⟨d,hd,rfl,rfl⟩:=hrel;have hzz:=HZ.out;have hf:=fun x=>World.frozen?_alloc_at (w:=W) (pw m d) 386 (w.heap.size+2) x hzz.symm;have hcl:=fun x=>World.cell?_alloc_at (w:=W) (pw m d) 386 (w.heap.size+2) x hzz.symm;have hco:=fun x=>World.cell?_alloc_past (w:=W) (.cells (pw m d) 386) (w.heap.size+1) x C0;by_cases hlt:d<10;(·have hq:=Cd.permN_bd m (d:Int) C0;have h1:=(hcl d).trans (rD m d hlt);have hset:=rF m d hlt;generalize Cd.permN m (d:Int)=q at*;obtain⟨q,rfl⟩:=B6 hq.1;have h2:=(hco q).trans (HC.out q C0);have h3:=hf d;have hst:=fun v=>World.setCell_alloc_at (w:=W) (pw m d) 386 (w.heap.size+2) d v hzz.symm;obtain⟨_,hq2⟩:=hq;clear hf hcl hco;have HT:=B0 hset;have HZ2:=B0 hzz;clear hset hzz;go_wp2;go_roundw;(case rel=>exact⟨d+1,by omega,by go_num,by rw[HT.out]⟩);case measure=>exact QD);·obtain rfl:d=10:=C0;rw[rG]at hcl⊢;obtain⟨x,hx⟩:∃x:Nat,Cd.dg s[j]=(x:Int):=⟨(Cd.dg s[j]).toNat,by unfold Cd.dg;omega⟩;have hxx:(s[j].toNat:Int)-48=(x:Int):=hx;have hx9:x<10:=C0;have h1:=(hcl x).trans (rE (m+1) x hx9);have hq:=Cd.permN_bd (m+1) (x:Int) C0;have HS2:=B0 (hx▸HS.out);generalize Cd.permN (m+1) (x:Int)=q at*;obtain⟨hq1,hq2⟩:=hq;have HZ2:=B0 hzz;clear hcl hco hf hlt hd hx hzz;go_wp2_with fail;refine(MA _ _ _ hb1 hb2 hq1 hq2).mono ?_;rintro e w' ⟨rfl,rfl⟩;go_wp2;go_roundw;(case rel=>exact⟨j,by omega,by go_num,by rw[HS2.out],by rw[HM.out]⟩);case measure=>simp[intOf]
end Go.Proofs.YtbngggoccndefaaGreatDoor
namespace Go.Proofs.YtbngggoccndefaaGreatDoor
open Go.Proofs.Tryz
open Go.RowKit
theorem XJ (w:World):Calls prog 337 #[.agg #[]] w fun e w'=>e=.returned (.int .i64 1)∧Ext w w':=by go_enter func337,ntmps337;exact YE
theorem ZQ (w:World):Calls prog 336 #[.agg #[]] w fun e w'=>e=.returned (.int .i64 0)∧Ext w w':=by go_enter func336,ntmps336;exact YE
theorem rK (w:World):Calls prog 358 #[.agg #[]] w fun e w'=>e=.returned (.int .i64 9)∧Ext w w':=by go_enter func358,ntmps358;exact YE
theorem rL (w:World):Calls prog 363 #[.agg #[]] w fun e w'=>e=.returned (.int .i64 2)∧Ext w w':=by go_enter func363,ntmps363;exact YE
theorem rM (w:World):Calls prog 368 #[.agg #[]] w fun e w'=>e=.returned (.int .i64 1)∧Ext w w':=by go_enter func368,ntmps368;exact YE
theorem rN (w:World):Calls prog 367 #[.agg #[]] w fun e w'=>e=.returned (.int .i64 0)∧Ext w w':=by go_enter func367,ntmps367;exact YE
theorem ZX (c:Int) (w:World):Calls prog 335 #[.agg #[],.int .u8 c] w fun e w'=>e=.returned (.bool (Cd.isDig c))∧Ext w w':=by go_enter func335,ntmps335;exact DD
theorem VV (c:Int) (w:World):Calls prog 334 #[.agg #[],.int .u8 c] w fun e w'=>e=.returned (.bool (Cd.isDig c))∧Ext w w':=by go_enter func334,ntmps334;exact DD
theorem rO (c:Int) (w:World):Calls prog 356 #[.agg #[],.int .u8 c] w fun e w'=>e=.returned (.bool (Cd.isDig c || (c==88)))∧Ext w w':=by cases h:Cd.isDig c;all_goals have hd:=NX c;rw[h]at hd;have HD:=B0 hd;clear hd h;go_enter func356,ntmps356;go_wp2_with fail;refine(HD.out _).mono ?_;rintro e w' ⟨rfl,rfl⟩;go_wp2;go_ret;exact⟨rfl,Xe⟩
theorem rP (c:Int) (w:World):Calls prog 369 #[.agg #[],.int .u8 c] w fun e w'=>e=.returned (.bool (Cd.isDig c || (c==88)))∧Ext w w':=by cases h:Cd.isDig c;all_goals have hd:=NX c;rw[h]at hd;have HD:=B0 hd;clear hd h;go_enter func369,ntmps369;go_wp2_with fail;refine(HD.out _).mono ?_;rintro e w' ⟨rfl,rfl⟩;go_wp2;go_ret;exact⟨rfl,Xe⟩
theorem rQ (c:Int) (w:World):Calls prog 366 #[.agg #[],.int .u8 c] w fun e w'=>e=.returned (.bool (decide (0<=Cd.plc c.toNat.toUInt8)))∧Ext w w':=by go_enter func366,ntmps366;go_wp2_with fail;refine(NZ _ _).mono ?_;exact MC
theorem rR (c:Int) (w:World):Calls prog 364 #[.agg #[],.int .u8 c] w fun e w'=>e=.returned (.bool (decide (0<=Cd.plc c.toNat.toUInt8)))∧Ext w w':=by go_enter func364,ntmps364;go_wp2_with fail;refine(NZ _ _).mono ?_;exact MC
def Meth (T:Nat) (name:String) (args:Array Value) (v:Value):Prop:=
 ∃f,(∀w,(method 505 T (.agg #[]) name).run prog w=.ok (f,.agg #[]) w)∧(∀xs w,(callFunc f xs).run prog w=.ok (.enter f xs) w)∧
  ∀w,Calls prog f (#[.agg #[]]++args) w fun e w'=>e=.returned v∧Ext w w'
structure E6 (k:Nat) (T:Nat):Prop where
 size:Meth T "barscan/checkdigit.size" #[] (.int .i64 (Cd.size k))
 length:Meth T "barscan/checkdigit.length" #[] (.int .i64 (if k=3 then 9 else 0))
 data:∀c:Int,Meth T "barscan/checkdigit.data" #[.int .u8 c] (.bool (Cd.datB k c))
 check:∀c:Int,Meth T "barscan/checkdigit.check" #[.int .u8 c] (.bool (Cd.chkB k c))
 compute:∀s:ByteArray,s.size<=4096->(∀c∈s.data.toList,Cd.datB k (c.toNat:Int)=true)->(k=3->s.size=9)->Meth T "barscan/checkdigit.compute" #[.string s] (.string ⟨(Cd.cmp k s.data.toList).toArray⟩)
 found:∀w,Calls prog 90 #[.int .i64 k] w fun e w'=>e=.returned (.tuple #[.iface T (.agg #[]),.bool true])∧Ext w w'
theorem YF {l:List UInt8} (h:∀c∈l,Cd.isDig (c.toNat:Int)=true):Cd.AllDig l:=fun c hc=>by have:=h c hc;simp only[Cd.isDig,N1,V1]at this;omega
theorem rS:E6 1 187 where
 size:=⟨337,fun _=>by kernel_rfl,fun _ _=>by kernel_rfl,fun w=>XJ w⟩
 length:=⟨336,fun _=>by kernel_rfl,fun _ _=>by kernel_rfl,fun w=>ZQ w⟩
 data c:=⟨335,fun _=>by kernel_rfl,fun _ _=>by kernel_rfl,fun w=>ZX c w⟩
 check c:=⟨334,fun _=>by kernel_rfl,fun _ _=>by kernel_rfl,fun w=>VV c w⟩
 compute s h1 h2 h3:=⟨339,fun _=>by kernel_rfl,fun _ _=>by kernel_rfl,fun w=>gQ s w h1 (YF h2)⟩
 found w:=QN
theorem rT:E6 2 188 where
 size:=⟨337,fun _=>by kernel_rfl,fun _ _=>by kernel_rfl,fun w=>XJ w⟩
 length:=⟨336,fun _=>by kernel_rfl,fun _ _=>by kernel_rfl,fun w=>ZQ w⟩
 data c:=⟨335,fun _=>by kernel_rfl,fun _ _=>by kernel_rfl,fun w=>ZX c w⟩
 check c:=⟨334,fun _=>by kernel_rfl,fun _ _=>by kernel_rfl,fun w=>VV c w⟩
 compute s h1 h2 h3:=⟨355,fun _=>by kernel_rfl,fun _ _=>by kernel_rfl,fun w=>gR s w h1 (YF h2)⟩
 found w:=QN
theorem rU:E6 3 189 where
 size:=⟨337,fun _=>by kernel_rfl,fun _ _=>by kernel_rfl,fun w=>XJ w⟩
 length:=⟨358,fun _=>by kernel_rfl,fun _ _=>by kernel_rfl,fun w=>rK w⟩
 data c:=⟨335,fun _=>by kernel_rfl,fun _ _=>by kernel_rfl,fun w=>ZX c w⟩
 check c:=⟨356,fun _=>by kernel_rfl,fun _ _=>by kernel_rfl,fun w=>rO c w⟩
 compute s h1 h2 h3:=⟨357,fun _=>by kernel_rfl,fun _ _=>by kernel_rfl,fun w=>gU s w (h3 rfl) (YF h2)⟩
 found w:=QN
theorem rV:E6 4 190 where
 size:=⟨337,fun _=>by kernel_rfl,fun _ _=>by kernel_rfl,fun w=>XJ w⟩
 length:=⟨336,fun _=>by kernel_rfl,fun _ _=>by kernel_rfl,fun w=>ZQ w⟩
 data c:=⟨335,fun _=>by kernel_rfl,fun _ _=>by kernel_rfl,fun w=>ZX c w⟩
 check c:=⟨334,fun _=>by kernel_rfl,fun _ _=>by kernel_rfl,fun w=>VV c w⟩
 compute s h1 h2 h3:=⟨359,fun _=>by kernel_rfl,fun _ _=>by kernel_rfl,fun w=>rJ s w h1 (YF h2)⟩
 found w:=QN
theorem rW:E6 5 191 where
 size:=⟨337,fun _=>by kernel_rfl,fun _ _=>by kernel_rfl,fun w=>XJ w⟩
 length:=⟨336,fun _=>by kernel_rfl,fun _ _=>by kernel_rfl,fun w=>ZQ w⟩
 data c:=⟨335,fun _=>by kernel_rfl,fun _ _=>by kernel_rfl,fun w=>ZX c w⟩
 check c:=⟨334,fun _=>by kernel_rfl,fun _ _=>by kernel_rfl,fun w=>VV c w⟩
 compute s h1 h2 h3:=⟨361,fun _=>by kernel_rfl,fun _ _=>by kernel_rfl,fun w=>rC s w h1 (YF h2)⟩
 found w:=QN
theorem rX:E6 6 192 where
 size:=⟨363,fun _=>by kernel_rfl,fun _ _=>by kernel_rfl,fun w=>rL w⟩
 length:=⟨336,fun _=>by kernel_rfl,fun _ _=>by kernel_rfl,fun w=>ZQ w⟩
 data c:=⟨335,fun _=>by kernel_rfl,fun _ _=>by kernel_rfl,fun w=>ZX c w⟩
 check c:=⟨334,fun _=>by kernel_rfl,fun _ _=>by kernel_rfl,fun w=>VV c w⟩
 compute s h1 h2 h3:=⟨362,fun _=>by kernel_rfl,fun _ _=>by kernel_rfl,fun w=>gS s w h1 (YF h2)⟩
 found w:=QN
theorem rY:E6 7 193 where
 size:=⟨368,fun _=>by kernel_rfl,fun _ _=>by kernel_rfl,fun w=>rM w⟩
 length:=⟨367,fun _=>by kernel_rfl,fun _ _=>by kernel_rfl,fun w=>rN w⟩
 data c:=⟨366,fun _=>by kernel_rfl,fun _ _=>by kernel_rfl,fun w=>rQ c w⟩
 check c:=⟨364,fun _=>by kernel_rfl,fun _ _=>by kernel_rfl,fun w=>rR c w⟩
 compute s h1 h2 h3:=⟨365,fun _=>by kernel_rfl,fun _ _=>by kernel_rfl,fun w=>gZ s w h1 (fun c hc=>by have:=h2 c hc;simpa[Cd.datB]using this)⟩
 found w:=QN
theorem rZ:E6 8 194 where
 size:=⟨337,fun _=>by kernel_rfl,fun _ _=>by kernel_rfl,fun w=>XJ w⟩
 length:=⟨336,fun _=>by kernel_rfl,fun _ _=>by kernel_rfl,fun w=>ZQ w⟩
 data c:=⟨335,fun _=>by kernel_rfl,fun _ _=>by kernel_rfl,fun w=>ZX c w⟩
 check c:=⟨369,fun _=>by kernel_rfl,fun _ _=>by kernel_rfl,fun w=>rP c w⟩
 compute s h1 h2 h3:=⟨370,fun _=>by kernel_rfl,fun _ _=>by kernel_rfl,fun w=>gT s w h1 (YF h2)⟩
 found w:=QN
theorem DE (k:Nat) (h1:1<=k) (h2:k<=8):∃T,E6 k T:=by
 match k,h1,h2 with
 |1,_,_=>exact⟨_,rS⟩
 |2,_,_=>exact⟨_,rT⟩
 |3,_,_=>exact⟨_,rU⟩
 |4,_,_=>exact⟨_,rV⟩
 |5,_,_=>exact⟨_,rW⟩
 |6,_,_=>exact⟨_,rX⟩
 |7,_,_=>exact⟨_,rY⟩
 |8,_,_=>exact⟨_,rZ⟩
theorem DF (k:Int) (w:World) (h:k<1∨8<k):Calls prog 90 #[.int .i64 k] w fun e w'=>e=.returned (.tuple #[.nilIface,.bool false])∧Ext w w':=by
 have h1:(k==1)=false:=E1
 have h2:(k==2)=false:=E1
 have h3:(k==3)=false:=E1
 have h4:(k==4)=false:=E1
 have h5:(k==5)=false:=E1
 have h6:(k==6)=false:=E1
 have h7:(k==7)=false:=E1
 have h8:(k==8)=false:=E1
 clear h;exact QN
end Go.Proofs.YtbngggoccndefaaGreatDoor
namespace Go.Proofs.YtbngggoccndefaaGreatDoor
open Go.Proofs.Tryz
open Go.RowKit
theorem MD (s:ByteArray) (p:UInt8->Bool) (k:Nat) (h:k<s.size):(s.data.toList.take (k+1)).all p=((s.data.toList.take k).all p&&p s[k]):=by rw[ZP s k h];simp
theorem ME (s:ByteArray) (p:UInt8->Bool) (k:Nat) (h:k<s.size) (hp:p s[k]=false):s.data.toList.all p=false:=by rw[VW];exact⟨s[k],Zq s k h,by simp[hp]⟩
theorem MF (nm:String) (T:Nat) (p:Int->Bool) (hm:∀c:Int,Meth T nm #[.int .u8 c] (.bool (p c))) (s:ByteArray) (w:World) (hs:s.size<=9223372036854775807):
 Calls prog 91 #[.string s,.func (.method nm) #[.iface T (.agg #[])] #[]] w fun e w'=>e=.returned (.bool (s.data.toList.all fun c=>p c.toNat))∧Ext w w':=by
 have HM:=B0 hm
 clear hm
 go_enter func91,ntmps91
 go_wp2
 go_loopw [8] (fun i wr=>∃k:Nat,k<=s.size∧i=.int .i64 k∧Hid ((s.data.toList.take k).all (fun c=>p c.toNat)=true)∧Ext w wr) (fun i _=>s.size-(intOf i).toNat)
 case atStart=>exact⟨0,U0 _,rfl,rfl,Ext.refl _⟩
 case round=>obtain⟨k,hk,rfl,ha,hx⟩:=hrel;by_cases hlt:k<s.size;(·obtain⟨f,h1,h2,h3⟩:=HM.out (s[k].toNat:Int);have HA:=B0 (MD s (fun c=>p c.toNat) k hlt);have HF:=B0 (ME s (fun c=>p c.toNat) k hlt);have H3:=B0 h3;clear h3;cases hp:p (s[k].toNat:Int);(·rw[hp]at H3;have HP:=B0 hp;clear hp;go_wp2_with fail;refine(H3.out _).mono ?_;rintro e w1 ⟨rfl,hx1⟩;go_wp2;go_ret;exact⟨Zm (HF.out HP.out).symm,hx.trans hx1⟩);·rw[hp]at H3;have HP:=B0 hp;clear hp;go_wp2_with fail;refine(H3.out _).mono ?_;rintro e w1 ⟨rfl,hx1⟩;go_wp2;go_roundw;(case rel=>exact⟨k+1,by omega,by go_num,by show _=_;rw[HA.out,ha.out];simpa using HP.out,hx.trans hx1⟩);case measure=>exact QD);·obtain rfl:k=s.size:=C0;rw[ZI]at ha;clear hk hlt;go_wp2;go_ret;exact⟨Zm ha.out.symm,hx⟩
theorem DG (k:Nat) (T:Nat) (hy:E6 k T) (n:Nat) (w:World) (_hn:n<=1000000):
 Calls prog 92 #[.iface T (.agg #[]),.int .i64 n] w fun e w'=>e=.returned (.bool (Cd.fits k n))∧Ext w w':=by
 obtain⟨f1,h1,h2,h3⟩:=hy.size
 obtain⟨f2,g1,g2,g3⟩:=hy.length
 have H3:=B0 h3
 have G3:=B0 g3
 clear h3 g3 hy
 by_cases hk:k=3
 ·subst hk;simp only[R4]at G3;rw[show Cd.size 3=1 from rfl]at H3;go_enter func92,ntmps92;go_wp2_with fail;refine(G3.out _).mono ?_;rintro e w1 ⟨rfl,hx1⟩;go_wp2_with fail;refine(G3.out _).mono ?_;rintro e w2 ⟨rfl,hx2⟩;go_wp2_with fail;refine(H3.out _).mono ?_;rintro e w3 ⟨rfl,hx3⟩;go_wp2;go_ret;exact⟨Zm (by rw[U4];simp[Cd.fits];omega),(hx1.trans hx2).trans hx3⟩
 ·simp only[hk,I7]at G3;have hsz:Cd.size k<=2:=(by unfold Cd.size;exact L6);have HK:=B0 hk;clear hk;go_enter func92,ntmps92;go_wp2_with fail;refine(G3.out _).mono ?_;rintro e w1 ⟨rfl,hx1⟩;go_wp2_with fail;refine(H3.out _).mono ?_;rintro e w3 ⟨rfl,hx3⟩;go_wp2;go_ret;exact⟨Zm (by simp[Cd.fits,HK.out]),hx1.trans hx3⟩
theorem aA (k:Int) (s:ByteArray) (w:World) (h:k<1∨8<k):
 Calls prog 89 #[.int .i64 k,.string s] w fun e w'=>e=.returned (.int .i64 1)∧Ext w w':=by
 have H:=B0 (DF k w h)
 clear h
 go_enter func89,ntmps89
 go_wp2_with fail
 refine H.out.mono ?_
 rintro e w1 ⟨rfl,hx1⟩
 go_wp2
 go_ret
 exact⟨rfl,hx1⟩
theorem aB (k:Nat) (T:Nat) (hy:E6 k T) (s:ByteArray) (w:World) (hs:s.size<=9223372036854775807):
 Calls prog 89 #[.int .i64 k,.string s] w fun e w'=>e=.returned (.int .i64 (Cd.ver k s.data.toList))∧Ext w w':=by
 have HF:=B0 (hy.found w)
 by_cases hl:4096<s.size
 ·have HV:Hid (Cd.ver k s.data.toList=4):=(by show _=_;unfold Cd.ver;rw[Za,G0 hl]);clear hy;go_enter func89,ntmps89;go_wp2_with fail;refine HF.out.mono ?_;rintro e w1 ⟨rfl,hx1⟩;go_wp2;go_ret;exact⟨Z3 HV.out.symm,hx1⟩
 ·have HC:=B0 (fun w=>DG k T hy s.size w C0);have hl':s.size<=4096:=C0;cases hf:Cd.fits k s.size;(·have HV:Hid (Cd.ver k s.data.toList=7):=(by show _=_;unfold Cd.ver;rw[Za,D0 hl,G0 hf]);rw[hf]at HC;clear hy hl hf;go_enter func89,ntmps89;go_wp2_with fail;refine HF.out.mono ?_;rintro e w1 ⟨rfl,hx1⟩;go_wp2_with fail;refine(HC.out _).mono ?_;rintro e w2 ⟨rfl,hx2⟩;go_wp2;go_ret;exact⟨Z3 HV.out.symm,hx1.trans hx2⟩);·have hlt:=Cd.fits_lt k s.size hf;have h9:Hid (k=3->s.size=10):=(by rintro rfl;exact Cd.fits_isbn _ hf);obtain⟨f1,h1,h2,h3⟩:=hy.size;have HS:=B0 h3;have HY:=B0 hy;rw[hf]at HC;have HFT:=B0 hf;clear h3 hy hl hf;go_enter func89,ntmps89;go_wp2_with fail;refine HF.out.mono ?_;rintro e w1 ⟨rfl,hx1⟩;go_wp2_with fail;refine(HC.out _).mono ?_;rintro e w2 ⟨rfl,hx2⟩;go_wp2_with fail;refine T6 (C:=fun w'=>∃x:Zr w2,w'=x.at') M0 M0 (Zr.drawn _) ?_;(try dsimp only);(repeat(first|go_big_quiet_step ((exact Zp (HS.out _)))|quiet_step ((exact Zp (HS.out _)))));refine U6 ?_;intro _ hx0;obtain⟨x0,hx0⟩:=hx0;subst hx0;obtain⟨w3,hx3⟩:=x0;(try dsimp only);have hD:=Zz s (s.size-Cd.size k);have hE:=ZG s (s.size-Cd.size k);have hDs:(s.extract 0 (s.size-Cd.size k)).size=s.size-Cd.size k:=(by rw[Zc hD,VC _ _ C0]);have hEs:(s.extract (s.size-Cd.size k) s.size).size=s.size-(s.size-Cd.size k):=(by rw[Zc hE,S9]);generalize s.extract 0 (s.size-Cd.size k)=D at*;generalize s.extract (s.size-Cd.size k) s.size=E at*;have hDl:D.size<=4096:=C0;have hEl:E.size<=4096:=C0;have HV:Hid (Cd.ver k s.data.toList=if D.data.toList.all (fun c=>Cd.datB k c.toNat)=false then 6 else if E.data.toList.all (fun c=>Cd.chkB k c.toNat)=false then 6 else if Cd.cmp k D.data.toList=E.data.toList then 0 else 8):=(by show _=_;unfold Cd.ver;rw[Za,D0 C0,D0 (by rw[HFT.out];exact Bool.noConfusion),<-hD,<-hE]);(have h9':Hid (k=3->D.size=9):=fun e=>by have h1:=h9.out e;subst e;have h2:Cd.size 3=1:=rfl;omega);clear hD hE hDs hEs;have HAD:=B0 (fun w=>MF "barscan/checkdigit.data" T (Cd.datB k) HY.out.data D w C0);have HAE:=B0 (fun w=>MF "barscan/checkdigit.check" T (Cd.chkB k) HY.out.check E w C0);have HDA:=B0 (fun h=>HY.out.compute D hDl h h9'.out);have hXX:=(hx1.trans hx2).trans hx3;clear hx1 hx2 hx3;cases hda:D.data.toList.all (fun c=>Cd.datB k c.toNat);(·rw[hda]at HAD HV;simp only[R4]at HV;clear hda HDA;go_wp2_with fail;refine(HAD.out _).mono ?_;rintro e w4 ⟨rfl,hx4⟩;go_wp2;go_ret;exact⟨Z3 HV.out.symm,hXX.trans hx4⟩);·rw[hda]at HAD HV;simp only[SQ,I7]at HV;have hda':∀c∈D.data.toList,Cd.datB k (c.toNat:Int)=true:=S1.1 hda;obtain⟨f2,g1,g2,g3⟩:=HDA.out hda';have HG:=B0 g3;clear g3 hda hda' HDA;cases hea:E.data.toList.all (fun c=>Cd.chkB k c.toNat);(·rw[hea]at HAE HV;simp only[R4]at HV;clear hea;go_wp2_with fail;refine(HAD.out _).mono ?_;rintro e w4 ⟨rfl,hx4⟩;go_wp2_with fail;refine(HAE.out _).mono ?_;rintro e w5 ⟨rfl,hx5⟩;go_wp2;go_ret;exact⟨Z3 HV.out.symm,(hXX.trans hx4).trans hx5⟩);·rw[hea]at HAE HV;simp only[SQ,I7]at HV;clear hea;go_wp2_with fail;refine(HAD.out _).mono ?_;rintro e w4 ⟨rfl,hx4⟩;go_wp2_with fail;refine(HAE.out _).mono ?_;rintro e w5 ⟨rfl,hx5⟩;go_wp2_with fail;refine(HG.out _).mono ?_;rintro e w6 ⟨rfl,hx6⟩;have hXY:=((hXX.trans hx4).trans hx5).trans hx6;by_cases hq:Cd.cmp k D.data.toList=E.data.toList;(·have hq':(!Cd.cmp k D.data.toList==E.toList)=false:=(by rw[G2,hq];simp);rw[G0 hq]at HV;exact DH);·have hq':(!Cd.cmp k D.data.toList==E.toList)=true:=(by rw[G2];simpa using hq);rw[D0 hq]at HV;exact DH
theorem MG (k:Int) (s:ByteArray) (w:World) (hs:s.size<=9223372036854775807):
 Calls prog 89 #[.int .i64 k,.string s] w fun e w'=>e=.returned (.int .i64 (Cd.verI k s.data.toList))∧Ext w w':=by
 by_cases h:k<1∨8<k
 ·rw[Cd.verI,G0 h];exact aA k s w h
 ·rw[Cd.verI,D0 h];obtain⟨n,rfl⟩:=B6 (show 0<=k by omega);obtain⟨T,hT⟩:=DE n C0 C0;exact aB n T hT s w hs
theorem XK (s:ByteArray):s.data.toList=[]↔s.size=0:=by rw[<-Za];exact⟨fun h=>by rw[h];rfl,fun h=>V2 h⟩
theorem aC (k:Int) (s:ByteArray) (w:World) (h:k<1∨8<k):
 Calls prog 52 #[.int .i64 k,.string s] w fun e w'=>e=.returned (.tuple #[.string ⟨#[]⟩,.int .i64 1])∧Ext w w':=by
 have H:=B0 (DF k w h)
 clear h
 go_enter func52,ntmps52
 go_wp2_with fail
 refine H.out.mono ?_
 rintro e w1 ⟨rfl,hx1⟩
 go_wp2
 go_ret2
 exact⟨rfl,hx1⟩
theorem aD (k:Nat) (T:Nat) (hy:E6 k T) (s:ByteArray) (w:World) (hs:s.size<=9223372036854775807):
 Calls prog 52 #[.int .i64 k,.string s] w fun e w'=>e=.returned (.tuple #[.string ⟨(Cd.comp k s.data.toList).1.toArray⟩,.int .i64 (Cd.comp k s.data.toList).2])∧Ext w w':=by
 have HF:=B0 (hy.found w)
 by_cases h0:s.size=0
 ·have HV:Hid (Cd.comp k s.data.toList=([],5)):=(by show _=_;unfold Cd.comp;rw[G0 ((XK s).2 h0)]);have h1:s.toList=[]:=(by rw[G2];exact(XK s).2 h0);have h2:s.toList.isEmpty=true:=VX;clear hy h0;exact DI
 ·have hne:s.data.toList≠ []:=fun h=>h0 ((XK s).1 h);have h2:s.toList.isEmpty=false:=(by rw[G2];simpa using hne);have h1:¬s.toList=[]:=(by rw[G2];exact hne);by_cases hl:4096<s.size;(·have HV:Hid (Cd.comp k s.data.toList=([],4)):=(by show _=_;unfold Cd.comp;rw[D0 hne,Za,G0 hl]);clear hy hne h0;exact DI);·have HV:Hid (Cd.comp k s.data.toList=if s.data.toList.all (fun c=>Cd.datB k c.toNat)=false then([],6)else if Cd.fits k (s.size+Cd.size k)=false then([],7)else(Cd.cmp k s.data.toList,0)):=(by show _=_;unfold Cd.comp;rw[D0 hne,Za,D0 hl]);have HAD:=B0 (fun w=>MF "barscan/checkdigit.data" T (Cd.datB k) hy.data s w hs);obtain⟨hz1,hz2⟩:=Cd.size_bd k;have hl':s.size<=4096:=C0;cases hda:s.data.toList.all (fun c=>Cd.datB k c.toNat);(·rw[hda]at HAD HV;simp only[R4]at HV;clear hy hne h0 hl hda;go_enter func52,ntmps52;go_wp2_with fail;refine HF.out.mono ?_;rintro e w1 ⟨rfl,hx1⟩;go_wp2_with fail;refine(HAD.out _).mono ?_;rintro e w2 ⟨rfl,hx2⟩;go_wp2;go_ret2;exact⟨by rw[HV.out];rfl,hx1.trans hx2⟩);·rw[hda]at HAD HV;simp only[SQ,I7]at HV;have HC:=B0 (fun w=>DG k T hy (s.size+Cd.size k) w C0);obtain⟨f1,g1,g2,g3⟩:=hy.size;have HS:=B0 g3;have hda':=S1.1 hda;cases hf:Cd.fits k (s.size+Cd.size k);(·rw[hf]at HC HV;simp only[R4]at HV;clear g3 hy hne h0 hl hda hda' hf;go_enter func52,ntmps52;go_wp2_with fail;refine HF.out.mono ?_;rintro e w1 ⟨rfl,hx1⟩;go_wp2_with fail;refine(HAD.out _).mono ?_;rintro e w2 ⟨rfl,hx2⟩;go_wp2_with fail;refine(HS.out _).mono ?_;rintro e w3 ⟨rfl,hx3⟩;go_wp2_with fail;refine(HC.out _).mono ?_;rintro e w4 ⟨rfl,hx4⟩;go_wp2;go_ret2;exact⟨by rw[HV.out];rfl,((hx1.trans hx2).trans hx3).trans hx4⟩);·rw[hf]at HC HV;simp only[SQ,I7]at HV;obtain⟨f2,k1,k2,k3⟩:=hy.compute s hl' hda' (fun e=>by subst e;have:=Cd.fits_isbn _ hf;have h2:Cd.size 3=1:=rfl;omega);have HG:=B0 k3;clear g3 k3 hy hne h0 hl hda hda' hf;go_enter func52,ntmps52;go_wp2_with fail;refine HF.out.mono ?_;rintro e w1 ⟨rfl,hx1⟩;go_wp2_with fail;refine(HAD.out _).mono ?_;rintro e w2 ⟨rfl,hx2⟩;go_wp2_with fail;refine(HS.out _).mono ?_;rintro e w3 ⟨rfl,hx3⟩;go_wp2_with fail;refine(HC.out _).mono ?_;rintro e w4 ⟨rfl,hx4⟩;go_wp2_with fail;refine(HG.out _).mono ?_;rintro e w5 ⟨rfl,hx5⟩;go_wp2;go_ret2;exact⟨by rw[HV.out];rfl,(((hx1.trans hx2).trans hx3).trans hx4).trans hx5⟩
theorem SR (k:Int) (s:ByteArray) (w:World) (hs:s.size<=9223372036854775807):
 Calls prog 52 #[.int .i64 k,.string s] w fun e w'=>e=.returned (.tuple #[.string ⟨(Cd.compI k s.data.toList).1.toArray⟩,.int .i64 (Cd.compI k s.data.toList).2])∧Ext w w':=by
 by_cases h:k<1∨8<k
 ·rw[Cd.compI,G0 h];exact aC k s w h
 ·rw[Cd.compI,D0 h];obtain⟨n,rfl⟩:=B6 (show 0<=k by omega);obtain⟨T,hT⟩:=DE n C0 C0;exact aD n T hT s w hs
end Go.Proofs.YtbngggoccndefaaGreatDoor
end
