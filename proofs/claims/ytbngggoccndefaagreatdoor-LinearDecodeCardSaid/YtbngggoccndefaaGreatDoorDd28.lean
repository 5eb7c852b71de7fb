/-
  Laid together.
-/
import Derived.Test.YtbngggoccndefaaGreatDoorDd27
set_option maxHeartbeats 16000000
set_option maxRecDepth 100000
set_option linter.unusedVariables false
set_option linter.unusedSimpArgs false
set_option linter.ambiguousOpen false
section
namespace Go.Proofs.YtbngggoccndefaaGreatDoor
open Go.Proofs.Tryz
open Go.RowKit
theorem ZgK (c:Int) (w:World):
 Calls prog 277 #[.int .u8 c] w fun e w'=>e=.returned (.bool (Cd.isDig c))∧w=w':=by
 go_enter func277,ntmps277
 go_wp2
 ·exact Qcw
 ·exact Qcs
theorem ZhS (k:Nat) (c:UInt8) (w:World) (hk:k<=8):
 Calls prog 270 #[.int .i64 (k:Int),.int .u8 (c.toNat:Int)] w fun e w'=>e=.returned (.bool (Cd.datB k (c.toNat:Int)))∧w=w':=by
 by_cases h7:k=7
 ·subst h7;go_enter func270,ntmps270;go_wp2_with fail;refine(Zd6 c _).mono ?_;rintro e w' ⟨rfl,rfl⟩;go_wp2;go_ret;exact⟨Zi (by simp[Cd.datB]),rfl⟩
 ·have hb:((k:Int)==7)=false:=Qai;have HE:Hid (Cd.datB k (c.toNat:Int)=Cd.isDig (c.toNat:Int)):=ZmF h7;clear h7;go_enter func270,ntmps270;go_wp2_with fail;refine(ZgK _ _).mono ?_;rintro e w' ⟨rfl,rfl⟩;go_wp2;go_ret;exact⟨Zi HE.out.symm,rfl⟩
theorem Zaa (s:ByteArray) (i:Nat) (w:World) (hs:s.size<=9223372036854775807) (h:i<s.size) (hd:Hid (Cd.AllDig s.data.toList)):
 Calls prog 293 #[.string s,.int .i64 (i:Int)] w fun e w'=>e=.returned (.int .i64 (Cd.dg (s[s.size-1-i]' QhN)))∧w=w':=by
 obtain⟨hx1,hx2⟩:=hd.out _ (Zj s (s.size-1-i) QhN)
 go_enter func293,ntmps293
 go_wp2
 go_ret
 exact⟨rfl,rfl⟩
theorem Zbf (s:ByteArray) (i:Nat) (h:i<s.size):s.data.toList.drop (s.size-(i+1))=(s[s.size-1-i]' QhN)::s.data.toList.drop (s.size-i):=by
 have e1:s.size-(i+1)=s.size-1-i:=by omega
 rw[e1,ZV s (s.size-1-i) QhN,show s.size-1-i+1=s.size-i by omega]
theorem Ziz:∀n:Fin 11,((⟨#[48,49,50,51,52,53,54,55,56,57,88]⟩:ByteArray).extract n.1 (n.1+1)).data.toList=[Cd.chr (n.1:Int)]:=Qct
theorem ZM (v:Int) (w:World) (h0:0<=v) (h1:v<=10):
 Calls prog 278 #[.int .i64 v] w fun e w'=>e=.returned (.string ⟨#[Cd.chr v]⟩)∧w=w':=by
 obtain⟨n,rfl⟩:=Znv h0
 have hn:n<=10:=by omega
 have HC:=ZmE (Zh (b:=⟨[Cd.chr (n:Int)].toArray⟩) (Ziz ⟨n,by omega⟩))
 go_enter func278,ntmps278
 go_wp2
 go_ret
 exact⟨Z0 HC.out,rfl⟩
end Go.Proofs.YtbngggoccndefaaGreatDoor
namespace Go.Proofs.YtbngggoccndefaaGreatDoor
open Go.Proofs.Tryz
open Go.RowKit
theorem Zcm (s:ByteArray) (j:Nat) (h:j<s.size):s.data.toList.take (s.size-j)=s.data.toList.take (s.size-(j+1))++[s[s.size-1-j]' QhN]:=by
 have e:s.size-j=s.size-1-j+1:=by omega
 rw[e,Z4 s (s.size-1-j) QhN,show s.size-(j+1)=s.size-1-j by omega]
theorem Zj0 (s:ByteArray) (w:World) (hs:s.size<=4096) (HD:Hid (Cd.AllDig s.data.toList)):
 Calls prog 279 #[.string s] w fun e w'=>e=.returned (.int .i64 ((10-(Cd.gsP s.data.toList).1%10)%10))∧w=w':=by
 go_enter func279,ntmps279
 go_wp2
 go_loop [3,4] (fun t i=>∃j:Nat,j<=s.size∧i=.int .i64 (j:Int)∧t=.int .i64 (Cd.gsP (s.data.toList.drop (s.size-j))).1) (fun _ i=>s.size-(intOf i).toNat)
 case atStart=>exact Qc5
 case round=>obtain⟨j,hj,rfl,rfl⟩:=hrel;have hb:=Cd.gsP_bd _ (Cd.allDig_drop HD.out (s.size-j));rw[Zz]at hb;obtain⟨hb1,hb2⟩:=hb;by_cases hlt:j<s.size;(·have hbd:=Cd.dg_bd (HD.out _ (Zj s (s.size-1-j) QhN));have HV:=ZmE (fun w=>Zaa s j w QhN hlt HD);have hw:=Cd.gsP_w (s.data.toList.drop (s.size-j));rw[Zz,show s.size-(s.size-j)=j by omega]at hw;have hs1:Cd.gsP (s.data.toList.drop (s.size-(j+1)))=((Cd.gsP (s.data.toList.drop (s.size-j))).1+(Cd.gsP (s.data.toList.drop (s.size-j))).2*Cd.dg (s[s.size-1-j]' QhN),4-(Cd.gsP (s.data.toList.drop (s.size-j))).2):=Znb Cd.gsP (Zbf s j hlt);generalize Cd.gsP (s.data.toList.drop (s.size-j))=g at*;generalize Cd.dg (s[s.size-1-j]' QhN)=d at*;have HS:=ZmE hs1;clear hs1;obtain⟨a,b⟩:=g;dsimp only at hw hb1 hb2 HS⊢;obtain⟨hd1,hd2⟩:=hbd;have HW:=ZmE hw;clear hw;by_cases hp:j%2=0;(·have hp':(j:Int)%2=0:=QhN;go_wp2_with fail;refine(HV.out _).mono ?_;rintro e w' ⟨rfl,rfl⟩;go_wp2;go_round;(case rel=>exact⟨j+1,by omega,by go_num,by rw[HS.out,HW.out,ZmH QhN];show Value.int _ _=Value.int _ _;congr 1;omega⟩);case measure=>exact Q8);·have hp':(j:Int)%2=1:=QhN;clear hp;go_wp2_with fail;refine(HV.out _).mono ?_;rintro e w' ⟨rfl,rfl⟩;go_wp2;go_round;(case rel=>exact⟨j+1,by omega,by go_num,by rw[HS.out,HW.out,ZmF QhN];show Value.int _ _=Value.int _ _;congr 1;omega⟩);case measure=>exact Q8);·exact Qgv
theorem ZhX (s:ByteArray) (w:World) (hs:s.size<=4096) (HD:Hid (Cd.AllDig s.data.toList)):
 Calls prog 280 #[.string s] w fun e w'=>e=.returned (.int .i64 ((10-(Cd.lnP s.data.toList).1%10)%10))∧w=w':=by
 go_enter func280,ntmps280
 go_wp2
 go_loop [3,4] (fun t i=>∃j:Nat,j<=s.size∧i=.int .i64 (j:Int)∧t=.int .i64 (Cd.lnP (s.data.toList.drop (s.size-j))).1) (fun _ i=>s.size-(intOf i).toNat)
 case atStart=>exact Qc5
 case round=>obtain⟨j,hj,rfl,rfl⟩:=hrel;have hb:=Cd.lnP_bd _ (Cd.allDig_drop HD.out (s.size-j));rw[Zz]at hb;obtain⟨hb1,hb2⟩:=hb;by_cases hlt:j<s.size;(·have hbd:=Cd.dg_bd (HD.out _ (Zj s (s.size-1-j) QhN));have HV:=ZmE (fun w=>Zaa s j w QhN hlt HD);have hw:=Cd.lnP_w (s.data.toList.drop (s.size-j));rw[Zz,show s.size-(s.size-j)=j by omega]at hw;have hs1:Cd.lnP (s.data.toList.drop (s.size-(j+1)))=((Cd.lnP (s.data.toList.drop (s.size-j))).1+(if(Cd.lnP (s.data.toList.drop (s.size-j))).2 then Cd.dbl (Cd.dg (s[s.size-1-j]' QhN))else Cd.dg (s[s.size-1-j]' QhN)),!(Cd.lnP (s.data.toList.drop (s.size-j))).2):=Znb Cd.lnP (Zbf s j hlt);generalize Cd.lnP (s.data.toList.drop (s.size-j))=g at*;generalize Cd.dg (s[s.size-1-j]' QhN)=d at*;have HS:=ZmE hs1;clear hs1;obtain⟨a,b⟩:=g;dsimp only at hw hb1 hb2 HS⊢;obtain⟨hd1,hd2⟩:=hbd;have HW:=ZmE hw;clear hw;by_cases hp:j%2=0;(·have hp':((j:Int)%2==0)=true:=Qcm;by_cases h9:9<2*d;(·go_wp2_with fail;refine(HV.out _).mono ?_;rintro e w' ⟨rfl,rfl⟩;go_wp2;go_round;(case rel=>exact⟨j+1,by omega,by go_num,by rw[HS.out,HW.out];show Value.int _ _=Value.int _ _;congr 1;rw[ZmH (by simpa using hp),Cd.dbl_hi d QhN];omega⟩);case measure=>exact Q8);·go_wp2_with fail;refine(HV.out _).mono ?_;rintro e w' ⟨rfl,rfl⟩;go_wp2;go_round;(case rel=>exact⟨j+1,by omega,by go_num,by rw[HS.out,HW.out];show Value.int _ _=Value.int _ _;congr 1;rw[ZmH (by simpa using hp),Cd.dbl_lo d QhN];omega⟩);case measure=>exact Q8);·have hp':((j:Int)%2==0)=false:=Qcm;have HP:=ZmE hp;clear hp;go_wp2_with fail;refine(HV.out _).mono ?_;rintro e w' ⟨rfl,rfl⟩;go_wp2;go_round;(case rel=>exact⟨j+1,by omega,by go_num,by rw[HS.out,HW.out];show Value.int _ _=Value.int _ _;congr 1;rw[ZmF (by simpa using HP.out)]⟩);case measure=>exact Q8);·exact Qgv
theorem ZhW (s:ByteArray) (w:World) (hs:s.size=9) (HD:Hid (Cd.AllDig s.data.toList)):
 Calls prog 281 #[.string s] w fun e w'=>e=.returned (.int .i64 ((11-Cd.isb s.data.toList%11)%11))∧w=w':=by
 have hs':s.size<=9:=by omega
 have HN:=ZmE hs
 clear hs
 go_enter func281,ntmps281
 go_wp2
 go_loop [3,4] (fun t i=>∃j:Nat,j<=s.size∧i=.int .i64 (j:Int)∧t=.int .i64 (Cd.isb (s.data.toList.drop (s.size-j)))) (fun _ i=>s.size-(intOf i).toNat)
 case atStart=>exact Qc5
 case round=>obtain⟨j,hj,rfl,rfl⟩:=hrel;have hb:=Cd.isb_bd _ (Cd.allDig_drop HD.out (s.size-j)) (by rw[Zz];omega);rw[Zz]at hb;obtain⟨hb1,hb2⟩:=hb;by_cases hlt:j<s.size;(·have hbd:=Cd.dg_bd (HD.out _ (Zj s (s.size-1-j) QhN));have HV:=ZmE (fun w=>Zaa s j w QhN hlt HD);have hs1:Cd.isb (s.data.toList.drop (s.size-(j+1)))=Cd.isb (s.data.toList.drop (s.size-j))+(((s.data.toList.drop (s.size-j)).length:Int)+2)*Cd.dg (s[s.size-1-j]' QhN):=Znb Cd.isb (Zbf s j hlt);rw[Zz,show s.size-(s.size-j)=j by omega]at hs1;generalize Cd.isb (s.data.toList.drop (s.size-j))=g at*;generalize Cd.dg (s[s.size-1-j]' QhN)=d at*;have HS:=ZmE hs1;clear hs1;obtain⟨hd1,hd2⟩:=hbd;have hm1:0<=d*((j:Int)+2):=ZoC hd1 QhN;have hm2:d*((j:Int)+2)<=9*11:=Zo2 hd2 QhN QhN QhN;go_wp2_with fail;refine(HV.out _).mono ?_;rintro e w' ⟨rfl,rfl⟩;go_wp2;go_round;(case rel=>exact⟨j+1,by omega,by go_num,by rw[HS.out,Int.mul_comm d]⟩);case measure=>exact Q8);·exact Qgv
theorem Zdj (s:ByteArray) (w:World) (hs:s.size<=4096) (HD:Hid (Cd.AllDig s.data.toList)):
 Calls prog 284 #[.string s] w fun e w'=>e=.returned (.int .i64 (98-100*Cd.i97 s.data.toList%97))∧w=w':=by
 go_enter func284,ntmps284
 go_wp2
 go_loop [3,4] (fun t i=>∃k:Nat,k<=s.size∧i=.int .i64 ((k:Int)-1)∧t=.int .i64 (Cd.i97 (s.data.toList.take (s.size-k)))) (fun _ i=>(intOf i+1).toNat)
 case atStart=>exact Qed
 case round=>obtain⟨k,hk,rfl,rfl⟩:=hrel;obtain⟨hb1,hb2⟩:=Cd.i97_bd (s.data.toList.take (s.size-k));by_cases h0:k=0;(·exact QgZ);·obtain⟨j,rfl⟩:∃j,k=j+1:=⟨k-1,by omega⟩;have hjl:j<s.size:=QhN;obtain⟨hd1,hd2⟩:=Cd.dg_bd (HD.out _ (Zj s (s.size-1-j) QhN));have HV:=ZmE (fun w=>Zaa s j w QhN hjl HD);have hs1:Cd.i97 (s.data.toList.take (s.size-j))=(10*Cd.i97 (s.data.toList.take (s.size-(j+1)))+Cd.dg (s[s.size-1-j]' QhN))%97:=(by rw[Zcm s j hjl];unfold Cd.i97;rw[Cd.foldl_snoc]);generalize Cd.i97 (s.data.toList.take (s.size-(j+1)))=g at*;exact Qcg
theorem ZgP (s:ByteArray) (w:World) (hs:s.size<=4096) (HD:Hid (Cd.AllDig s.data.toList)):
 Calls prog 285 #[.string s] w fun e w'=>e=.returned (.int .i64 ((12-Cd.i11 s.data.toList)%11))∧w=w':=by
 go_enter func285,ntmps285
 go_wp2
 go_loop [3,4] (fun t i=>∃k:Nat,k<=s.size∧i=.int .i64 ((k:Int)-1)∧t=.int .i64 (Cd.i11 (s.data.toList.take (s.size-k)))) (fun _ i=>(intOf i+1).toNat)
 case atStart=>exact Qed
 case round=>obtain⟨k,hk,rfl,rfl⟩:=hrel;obtain⟨hb1,hb2⟩:=Cd.i11_bd (s.data.toList.take (s.size-k));by_cases h0:k=0;(·exact QgZ);·obtain⟨j,rfl⟩:∃j,k=j+1:=⟨k-1,by omega⟩;have hjl:j<s.size:=QhN;obtain⟨hd1,hd2⟩:=Cd.dg_bd (HD.out _ (Zj s (s.size-1-j) QhN));have HV:=ZmE (fun w=>Zaa s j w QhN hjl HD);have hs1:Cd.i11 (s.data.toList.take (s.size-j))=2*(Cd.i11 (s.data.toList.take (s.size-(j+1)))+Cd.dg (s[s.size-1-j]' QhN))%11:=(by rw[Zcm s j hjl];unfold Cd.i11;rw[Cd.foldl_snoc]);generalize Cd.i11 (s.data.toList.take (s.size-(j+1)))=g at*;exact Qcg
theorem Zdk (s:ByteArray) (w:World) (hs:s.size<=4096) (HD:Hid (∀c∈s.data.toList,0<=Cd.plc c)):
 Calls prog 286 #[.string s] w fun e w'=>e=.returned (.int .i64 (Cd.c39 s.data.toList%43))∧w=w':=by
 go_enter func286,ntmps286
 go_wp2
 go_loop [3,4] (fun t i=>∃k:Nat,k<=s.size∧i=.int .i64 (k:Int)∧t=.int .i64 (Cd.c39 (s.data.toList.take k))) (fun _ i=>s.size-(intOf i).toNat)
 case atStart=>exact Qde
 case round=>obtain⟨k,hk,rfl,rfl⟩:=hrel;obtain⟨hb1,hb2⟩:=Cd.c39_bd (s.data.toList.take k) (fun c hc=>HD.out c (Zn0 hc));rw[Zaj s k hk]at hb2;by_cases hlt:k<s.size;(·have hx1:=HD.out _ (Zj s k hlt);have hx2:=(Cd.plc_bd s[k]).2;have hs1:Cd.c39 (s.data.toList.take (k+1))=Cd.c39 (s.data.toList.take k)+Cd.plc s[k]:=Qj3;generalize Cd.c39 (s.data.toList.take k)=g at*;have HS:=ZmE hs1;clear hs1;go_wp2_with fail;refine(Zd6 _ _).mono ?_;rintro e w' ⟨rfl,rfl⟩;exact Qd8);·obtain rfl:k=s.size:=QhN;rw[Zx]at hb1 hb2⊢;clear hk hlt;exact QaU
theorem Zbq (a b:Int) (w:World) (h0:0<=a) (h1:a<=9) (h2:0<=b) (h3:b<=9):
 Calls prog 294 #[.int .i64 a,.int .i64 b] w fun e w'=>e=.returned (.int .i64 (Cd.dih a b))∧w=w':=by
 by_cases ha:a<5<;>by_cases hb:b<5
 all_goals
  go_enter func294,ntmps294;go_wp2;go_ret;exact⟨Zt (by
   unfold Cd.dih
   repeat' split
   all_goals omega),rfl⟩
end Go.Proofs.YtbngggoccndefaaGreatDoor
namespace Go.Proofs.YtbngggoccndefaaGreatDoor
open Go.Proofs.Tryz
open Go.RowKit
theorem Zm4:∀(c x:Fin 10) (h:10*c.1+x.1<(⟨#[48,51,49,55,53,57,56,54,52,50,55,48,57,50,49,53,52,56,54,51,52,50,48,54,56,55,49,51,53,57,49,55,53,48,57,56,51,52,50,54,54,49,50,51,48,52,53,57,55,56,51,54,55,52,50,48,57,53,56,49,53,56,54,57,55,50,48,49,51,52,56,57,52,53,51,54,50,48,49,55,57,52,51,56,54,49,55,50,48,53,50,53,56,49,52,51,54,55,57,48]⟩:ByteArray).size),((((⟨#[48,51,49,55,53,57,56,54,52,50,55,48,57,50,49,53,52,56,54,51,52,50,48,54,56,55,49,51,53,57,49,55,53,48,57,56,51,52,50,54,54,49,50,51,48,52,53,57,55,56,51,54,55,52,50,48,57,53,56,49,53,56,54,57,55,50,48,49,51,52,56,57,52,53,51,54,50,48,49,55,57,52,51,56,54,49,55,50,48,53,50,53,56,49,52,51,54,55,57,48]⟩:ByteArray)[10*c.1+x.1]'h).toNat:Int)-48)%256=Cd.dmAt (c.1:Int) (x.1:Int):=Qct
theorem ZgS (s:ByteArray) (w:World) (hs:s.size<=4096) (HD:Hid (Cd.AllDig s.data.toList)):
 Calls prog 283 #[.string s] w fun e w'=>e=.returned (.int .i64 (Cd.dm s.data.toList))∧w=w':=by
 go_enter func283,ntmps283
 go_wp2
 go_loop [3,4] (fun t i=>∃k:Nat,k<=s.size∧i=.int .i64 ((k:Int)-1)∧t=.int .i64 (Cd.dm (s.data.toList.take (s.size-k)))) (fun _ i=>(intOf i+1).toNat)
 case atStart=>exact Qed
 case round=>obtain⟨k,hk,rfl,rfl⟩:=hrel;obtain⟨hb1,hb2⟩:=Cd.dm_bd (s.data.toList.take (s.size-k)) (Cd.allDig_take HD.out _);by_cases h0:k=0;(·exact QgZ);·obtain⟨j,rfl⟩:∃j,k=j+1:=⟨k-1,by omega⟩;have hjl:j<s.size:=QhN;obtain⟨hd1,hd2⟩:=Cd.dg_bd (HD.out _ (Zj s (s.size-1-j) QhN));have HV:=ZmE (fun w=>Zaa s j w QhN hjl HD);have hs1:Cd.dm (s.data.toList.take (s.size-j))=Cd.dmAt (Cd.dm (s.data.toList.take (s.size-(j+1)))) (Cd.dg (s[s.size-1-j]' QhN)):=(by rw[Zcm s j hjl];unfold Cd.dm;rw[Cd.foldl_snoc]);generalize Cd.dm (s.data.toList.take (s.size-(j+1)))=g at*;generalize Cd.dg (s[s.size-1-j]' QhN)=d at*;have HS:=ZmE hs1;clear hs1 h0;obtain⟨c,rfl⟩:=Znv hb1;obtain⟨x,rfl⟩:=Znv hd1;go_wp2_with fail;refine(HV.out _).mono ?_;rintro e w' ⟨rfl,rfl⟩;go_wp2;go_round;(case rel=>exact⟨j,by omega,by go_num,by rw[HS.out];exact Znb _ (Zm4 ⟨c,by omega⟩ ⟨x,by omega⟩ _)⟩);case measure=>simp[intOf]
theorem Zm3:∀(x:Fin 10) (h:x.1<(⟨#[49,53,55,54,50,56,51,48,57,52]⟩:ByteArray).size),((((⟨#[49,53,55,54,50,56,51,48,57,52]⟩:ByteArray)[x.1]'h).toNat:Int)-48)%256=Cd.perm (x.1:Int):=Qct
theorem Zmn:∀x:Fin 10,Cd.permN 8 (x.1:Int)=(x.1:Int):=Qct
theorem ZdQ (a b:Nat) (x:Int):Cd.permN (a+b) x=Cd.permN a (Cd.permN b x):=by
 induction a with
 |zero=>rw[Zoa];rfl
 |succ a ih=>rw[show a+1+b=(a+b)+1 by omega];exact Znb Cd.perm ih
theorem ZgF (q:Nat) (x:Nat) (h:x<10):Cd.permN (8*q) (x:Int)=(x:Int):=by
 induction q with
 |zero=>rfl
 |succ q ih=>rw[show 8*(q+1)=8*q+8 by omega,ZdQ,Zmn ⟨x,h⟩];exact ih
theorem ZhK (i x:Nat) (h:x<10):Cd.permN (i%8+1) (x:Int)=Cd.permN (i+1) (x:Int):=by
 have e:i+1=(i%8+1)+8*(i/8):=by omega
 have h2:Cd.permN (i+1) (x:Int)=Cd.permN ((i%8+1)+8*(i/8)) (x:Int):=Znb (fun n=>Cd.permN n (x:Int)) e;rw[h2,ZdQ (i%8+1) (8*(i/8)),ZgF (i/8) x h]
theorem Zes (s:ByteArray) (w:World) (hs:s.size<=4096) (HD:Hid (Cd.AllDig s.data.toList)):
 Calls prog 282 #[.string s] w fun e w'=>e=.returned (.int .i64 (Cd.inv (Cd.vh s.data.toList)))∧w=w':=by
 go_enter func282,ntmps282
 go_wp2
 go_loop [3,4] (fun t i=>∃j:Nat,j<=s.size∧i=.int .i64 (j:Int)∧t=.int .i64 (Cd.vh (s.data.toList.drop (s.size-j)))) (fun _ i=>s.size-(intOf i).toNat)
 case atStart=>exact Qc5
 case round=>obtain⟨j,hj,rfl,rfl⟩:=hrel;obtain⟨hb1,hb2⟩:=Cd.vh_bd _ (Cd.allDig_drop HD.out (s.size-j));by_cases hlt:j<s.size;(·obtain⟨hd1,hd2⟩:=Cd.dg_bd (HD.out _ (Zj s (s.size-1-j) QhN));have HV:=ZmE (fun w=>Zaa s j w QhN hlt HD);have hs1:Cd.vh (s.data.toList.drop (s.size-(j+1)))=Cd.dih (Cd.vh (s.data.toList.drop (s.size-j))) (Cd.permN ((s.data.toList.drop (s.size-j)).length+1) (Cd.dg (s[s.size-1-j]' QhN))):=Znb Cd.vh (Zbf s j hlt);rw[Zz,show s.size-(s.size-j)=j by omega]at hs1;generalize Cd.vh (s.data.toList.drop (s.size-j))=g at*;generalize Cd.dg (s[s.size-1-j]' QhN)=d at*;obtain⟨x,rfl⟩:=Znv hd1;rw[<-ZhK j x QhN]at hs1;have HS:=ZmE hs1;clear hs1;have hm:j%8<8:=Zqk _ QhN;have hx9:x<=9:=QhN;go_wp2_with fail;refine(HV.out _).mono ?_;rintro e w' ⟨rfl,rfl⟩;go_wp2;go_loop [5,6] (fun t i=>∃m:Nat,m<=j%8+1∧i=.int .i64 (m:Int)∧t=.int .i64 (Cd.permN m (x:Int))) (fun _ i=>j%8+1-(intOf i).toNat);(case atStart=>exact⟨0,by omega,rfl,rfl⟩);case round=>obtain⟨m,hm',rfl,rfl⟩:=hrel;obtain⟨hq1,hq2⟩:=Cd.permN_bd m (x:Int) QhN;by_cases hml:m<j%8+1;(·have HP:Hid (Cd.permN (m+1) (x:Int)=Cd.perm (Cd.permN m (x:Int))):=rfl;generalize Cd.permN m (x:Int)=q at*;obtain⟨q,rfl⟩:=Znv hq1;have hle:(m:Int)<=(j:Int)%8:=QhN;go_wp2;go_round;(case rel=>exact⟨m+1,by omega,by go_num,by rw[HP.out];exact Znb _ (Zm3 ⟨q,by omega⟩ _)⟩);case measure=>exact Q8);·obtain rfl:m=j%8+1:=QhN;have hgt:¬((j:Int)%8+1<=(j:Int)%8):=QhN;generalize Cd.permN (j%8+1) (x:Int)=q at*;have hcast:((j%8+1:Nat):Int)=(j:Int)%8+1:=QhN;rw[hcast];clear hm' hml hcast;go_wp2_with fail;refine(Zbq _ _ _ hb1 hb2 hq1 hq2).mono ?_;rintro e w' ⟨rfl,rfl⟩;go_wp2;go_round;(case rel=>exact⟨j+1,by omega,by go_num,by rw[HS.out]⟩);case measure=>exact Q8);·obtain rfl:j=s.size:=QhN;rw[ZnM,Zoh]at hb1 hb2⊢;clear hj hlt;obtain⟨c,hc⟩:∃c,Cd.vh s.data.toList=c:=⟨_,rfl⟩;rw[hc]at hb1 hb2⊢;have HC:=ZmE hc;clear hc;obtain⟨hi1,hi2⟩:=Cd.inv_bd c ⟨hb1,hb2⟩;go_wp2;go_loop [7] (fun t=>∃n:Int,0<=n∧n<=Cd.inv c∧t=.int .i64 n) (fun t=>(10-intOf t).toNat);(case atStart=>exact⟨0,by omega,by omega,rfl⟩);case round=>obtain⟨n,hn1,hn2,rfl⟩:=hrel;by_cases hn:n=Cd.inv c;(·have h0:(Cd.dih n c==0)=true:=(by rw[hn,Cd.dih_inv c ⟨hb1,hb2⟩];rfl);have HN:=ZmE hn;clear hn;go_wp2_with fail;refine(Zbq _ _ _ hn1 QhN hb1 hb2).mono ?_;rintro e w' ⟨rfl,rfl⟩;go_wp2;go_ret;exact⟨Zt (by rw[HN.out,HC.out]),rfl⟩);·have h0:(Cd.dih n c==0)=false:=(by rw[ZmJ];exact QfI);have HN:Hid (n+1<=Cd.inv c):=(by show n+1<=Cd.inv c;omega);clear hn;go_wp2_with fail;refine(Zbq _ _ _ hn1 QhN hb1 hb2).mono ?_;exact QdQ
theorem ZlA (s:ByteArray) (w:World) (hs:s.size<=4096) (HD:Hid (Cd.AllDig s.data.toList)):
 Calls prog 271 #[.int .i64 1,.string s] w fun e w'=>e=.returned (.string ⟨(Cd.cmp 1 s.data.toList).toArray⟩)∧w=w':=by
 go_enter func271,ntmps271
 go_wp2_with fail
 refine(Zj0 s _ hs HD).mono ?_
 rintro e w' ⟨rfl,rfl⟩
 go_wp2_with fail
 refine(ZM _ _ QhN QhN).mono ?_
 rintro e w' ⟨rfl,rfl⟩
 go_wp2
 go_ret
 exact⟨Z0 Qit,rfl⟩
theorem ZlB (s:ByteArray) (w:World) (hs:s.size<=4096) (HD:Hid (Cd.AllDig s.data.toList)):
 Calls prog 271 #[.int .i64 2,.string s] w fun e w'=>e=.returned (.string ⟨(Cd.cmp 2 s.data.toList).toArray⟩)∧w=w':=by
 go_enter func271,ntmps271
 go_wp2_with fail
 refine(ZhX s _ hs HD).mono ?_
 rintro e w' ⟨rfl,rfl⟩
 go_wp2_with fail
 refine(ZM _ _ QhN QhN).mono ?_
 rintro e w' ⟨rfl,rfl⟩
 go_wp2
 go_ret
 exact⟨Z0 Qit,rfl⟩
theorem ZlC (s:ByteArray) (w:World) (hs:s.size=9) (HD:Hid (Cd.AllDig s.data.toList)):
 Calls prog 271 #[.int .i64 3,.string s] w fun e w'=>e=.returned (.string ⟨(Cd.cmp 3 s.data.toList).toArray⟩)∧w=w':=by
 have HN:=ZmE hs
 clear hs
 go_enter func271,ntmps271
 go_wp2_with fail
 refine(ZhW s _ HN.out HD).mono ?_
 rintro e w' ⟨rfl,rfl⟩
 go_wp2_with fail
 refine(ZM _ _ QhN QhN).mono ?_
 rintro e w' ⟨rfl,rfl⟩
 go_wp2
 go_ret
 exact⟨Z0 Qit,rfl⟩
theorem ZlD (s:ByteArray) (w:World) (hs:s.size<=4096) (HD:Hid (Cd.AllDig s.data.toList)):
 Calls prog 271 #[.int .i64 4,.string s] w fun e w'=>e=.returned (.string ⟨(Cd.cmp 4 s.data.toList).toArray⟩)∧w=w':=by
 have hb:=Cd.inv_bd _ (Cd.vh_bd _ HD.out)
 go_enter func271,ntmps271
 go_wp2_with fail
 refine(Zes s _ hs HD).mono ?_
 rintro e w' ⟨rfl,rfl⟩
 go_wp2_with fail
 refine(ZM _ _ QhN QhN).mono ?_
 rintro e w' ⟨rfl,rfl⟩
 go_wp2
 go_ret
 exact⟨Z0 Qit,rfl⟩
theorem ZlE (s:ByteArray) (w:World) (hs:s.size<=4096) (HD:Hid (Cd.AllDig s.data.toList)):
 Calls prog 271 #[.int .i64 5,.string s] w fun e w'=>e=.returned (.string ⟨(Cd.cmp 5 s.data.toList).toArray⟩)∧w=w':=by
 have hb:=Cd.dm_bd _ HD.out
 go_enter func271,ntmps271
 go_wp2_with fail
 refine(ZgS s _ hs HD).mono ?_
 rintro e w' ⟨rfl,rfl⟩
 go_wp2_with fail
 refine(ZM _ _ QhN QhN).mono ?_
 rintro e w' ⟨rfl,rfl⟩
 go_wp2
 go_ret
 exact⟨Z0 Qit,rfl⟩
theorem ZlH (s:ByteArray) (w:World) (hs:s.size<=4096) (HD:Hid (Cd.AllDig s.data.toList)):
 Calls prog 271 #[.int .i64 8,.string s] w fun e w'=>e=.returned (.string ⟨(Cd.cmp 8 s.data.toList).toArray⟩)∧w=w':=by
 have hb:=Cd.i11_bd s.data.toList
 go_enter func271,ntmps271
 go_wp2_with fail
 refine(ZgP s _ hs HD).mono ?_
 rintro e w' ⟨rfl,rfl⟩
 go_wp2_with fail
 refine(ZM _ _ QhN QhN).mono ?_
 rintro e w' ⟨rfl,rfl⟩
 go_wp2
 go_ret
 exact⟨Z0 Qit,rfl⟩
theorem ZlF (s:ByteArray) (w:World) (hs:s.size<=4096) (HD:Hid (Cd.AllDig s.data.toList)):
 Calls prog 271 #[.int .i64 6,.string s] w fun e w'=>e=.returned (.string ⟨(Cd.cmp 6 s.data.toList).toArray⟩)∧w=w':=by
 obtain⟨hb1,hb2⟩:=Cd.i97_bd s.data.toList
 go_enter func271,ntmps271
 go_wp2_with fail
 refine(Zdj s _ hs HD).mono ?_
 rintro e w' ⟨rfl,rfl⟩
 go_wp2_with fail
 refine(ZM _ _ QhN QhN).mono ?_
 rintro e w' ⟨rfl,rfl⟩
 go_wp2_with fail
 refine(Zdj s _ hs HD).mono ?_
 rintro e w' ⟨rfl,rfl⟩
 go_wp2_with fail
 refine(ZM _ _ QhN QhN).mono ?_
 rintro e w' ⟨rfl,rfl⟩
 go_wp2
 go_ret
 exact⟨rfl,rfl⟩
theorem ZlG (s:ByteArray) (w:World) (hs:s.size<=4096) (HD:Hid (∀c∈s.data.toList,0<=Cd.plc c)):
 Calls prog 271 #[.int .i64 7,.string s] w fun e w'=>e=.returned (.string ⟨(Cd.cmp 7 s.data.toList).toArray⟩)∧w=w':=by
 go_enter func271,ntmps271
 go_wp2_with fail
 refine(Zdk s _ hs HD).mono ?_
 rintro e w' ⟨rfl,rfl⟩
 go_wp2_with fail
 refine(Zdk s _ hs HD).mono ?_
 rintro e w' ⟨rfl,rfl⟩
 go_wp2
 go_ret
 exact⟨Z0 Qkb,rfl⟩
theorem ZbN (k:Nat) (s:ByteArray) (w:World) (h1:1<=k) (h8:k<=8) (hs:s.size<=4096) (hd:∀c∈s.data.toList,Cd.datB k (c.toNat:Int)=true) (h9:k=3->s.size=9):
 Calls prog 271 #[.int .i64 (k:Int),.string s] w fun e w'=>e=.returned (.string ⟨(Cd.cmp k s.data.toList).toArray⟩)∧w=w':=by
 match k,h1,h8 with
 |1,_,_=>exact ZlA s w hs (Z3 hd)
 |2,_,_=>exact ZlB s w hs (Z3 hd)
 |3,_,_=>exact ZlC s w (h9 rfl) (Z3 hd)
 |4,_,_=>exact ZlD s w hs (Z3 hd)
 |5,_,_=>exact ZlE s w hs (Z3 hd)
 |6,_,_=>exact ZlF s w hs (Z3 hd)
 |7,_,_=>exact ZlG s w hs (fun c hc=>by have:=hd c hc;simpa[Cd.datB]using this)
 |8,_,_=>exact ZlH s w hs (Z3 hd)
end Go.Proofs.YtbngggoccndefaaGreatDoor
namespace Go.Proofs.YtbngggoccndefaaGreatDoor
open Go.Proofs.Tryz
open Go.RowKit
theorem ZeS (k:Int) (s:ByteArray) (w:World) (h:k<1∨8<k):
 Calls prog 247 #[.int .i64 k,.string s] w fun e w'=>e=.returned (.tuple #[.string ⟨#[]⟩,.int .i64 1])∧w=w':=by
 by_cases h1:k<1
 ·clear h;go_enter func247,ntmps247;exact QgK
 ·have h2:8<k:=QhN;clear h;go_enter func247,ntmps247;exact QgK
theorem Zkp (k n:Nat) (h:0<n):Cd.fits k (n+Cd.size k)=(decide (k≠3) || decide (n=9)):=by
 unfold Cd.fits;by_cases h3:k=3;·subst h3;rw[Zn7];simp[show Cd.size 3=1 from rfl]
 ·simp[h3];omega
theorem ZeT (k:Nat) (s:ByteArray) (w:World) (hk1:1<=k) (hk8:k<=8) (hs:s.size<=9223372036854775807):
 Calls prog 247 #[.int .i64 (k:Int),.string s] w fun e w'=>e=.returned (.tuple #[.string ⟨(Cd.comp k s.data.toList).1.toArray⟩,.int .i64 (Cd.comp k s.data.toList).2])∧w=w':=by
 by_cases h0:s.size=0
 ·have HV:Hid (Cd.comp k s.data.toList=([],5)):=Qjr;have hb:((s.size:Int)==0)=true:=Qjt;clear h0;exact QeZ
 ·have hne:s.data.toList≠ []:=fun h=>h0 ((ZW s).1 h);have hb:((s.size:Int)==0)=false:=Qai;have hpos:0<s.size:=QhN;clear h0;by_cases hl:4096<s.size;(·have HV:Hid (Cd.comp k s.data.toList=([],4)):=Qf6;clear hne;exact QeZ);·have HV:Hid (Cd.comp k s.data.toList=if s.data.toList.all (fun c=>Cd.datB k c.toNat)=false then([],6)else if Cd.fits k (s.size+Cd.size k)=false then([],7)else(Cd.cmp k s.data.toList,0)):=Qf5;have hl':s.size<=4096:=QhN;have HFT:=ZmE (Zkp k s.size hpos);clear hne hl;go_enter func247,ntmps247;go_wp2;go_loop [6] (fun i=>∃j:Nat,j<=s.size∧i=.int .i64 (j:Int)∧Hid ((s.data.toList.take j).all (fun c=>Cd.datB k c.toNat)=true)) (fun i=>s.size-(intOf i).toNat);(case atStart=>exact Qde);case round=>obtain⟨j,hj,rfl,ha⟩:=hrel;by_cases hlt:j<s.size;(·have H3:=ZmE (ZhS k s[j] w hk8);have HA:=ZmE (Zag s (fun c=>Cd.datB k c.toNat) j hlt);have HF:=ZmE (Zau s (fun c=>Cd.datB k c.toNat) j hlt);cases hp:Cd.datB k (s[j].toNat:Int);(·rw[hp]at H3;have HP:=ZmE hp;clear hp;go_wp2_with fail;refine H3.out.mono ?_;rintro e w1 ⟨rfl,rfl⟩;go_wp2;go_ret2;exact⟨by rw[HV.out,ZmH (HF.out HP.out)];rfl,rfl⟩);·rw[hp]at H3;have HP:=ZmE hp;clear hp;go_wp2_with fail;refine H3.out.mono ?_;rintro e w1 ⟨rfl,rfl⟩;go_wp2;go_round;(case rel=>exact⟨j+1,by omega,by go_num,by show _=_;rw[HA.out,ha.out];simpa using HP.out⟩);case measure=>exact Q8);·obtain rfl:j=s.size:=QhN;rw[Zx]at ha;have hda:=Znd.1 ha.out;have HV2:=ZmE (HV.out.trans (ZmF (by rw[ha.out];exact Bool.noConfusion)));rw[HFT.out]at HV2;clear hj hlt;by_cases h3:k=3;(·subst h3;by_cases h9:s.size=9;(·have hb9:((s.size:Int) !=9)=false:=(by rw[h9];rfl);have HC:=ZmE (ZbN 3 s w hk1 hk8 hl' hda (fun _=>h9));have HV3:Hid (Cd.comp 3 s.data.toList=(Cd.cmp 3 s.data.toList,0)):=(by show _=_;rw[HV2.out,h9];rfl);clear h9 hda;exact Qd7);·have hb9:((s.size:Int) !=9)=true:=Qi4;have HV3:Hid (Cd.comp 3 s.data.toList=([],7)):=(by show _=_;rw[HV2.out];simp[h9]);clear h9 hda;go_wp2;go_ret2;exact⟨by rw[HV3.out];rfl,rfl⟩);·have hb3:((k:Int)==3)=false:=Qai;have HC:=ZmE (ZbN k s w hk1 hk8 hl' hda (fun e=>absurd e h3));have HV3:Hid (Cd.comp k s.data.toList=(Cd.cmp k s.data.toList,0)):=(by show _=_;rw[HV2.out];simp[h3]);clear h3 hda;exact Qd7
theorem ZeR (k:Int) (s:ByteArray) (w:World) (hs:s.size<=9223372036854775807):
 Calls prog 247 #[.int .i64 k,.string s] w fun e w'=>e=.returned (.tuple #[.string ⟨(Cd.compI k s.data.toList).1.toArray⟩,.int .i64 (Cd.compI k s.data.toList).2])∧w=w':=by
 by_cases h:k<1∨8<k
 ·rw[Cd.compI,ZmH h];exact ZeS k s w h
 ·rw[Cd.compI,ZmF h];obtain⟨n,rfl⟩:=Znv (show 0<=k by omega);exact ZeT n s w QhN QhN hs
theorem Zjt (k:Nat) (l:List UInt8):(Cd.cmp k l).length<=2:=by unfold Cd.cmp;split<;>simp
theorem Zdg (k:Int) (l:List UInt8):(Cd.compI k l).1.length<=2:=by
 unfold Cd.compI Cd.comp
 repeat' split
 all_goals first|exact Zjt _ _|simp
theorem ZhQ (k:Int) (l:List UInt8) (h:(Cd.compI k l).2=0):l.length<=4096:=by
 unfold Cd.compI Cd.comp at h
 repeat' split at h
 all_goals first|omega|simp at h
theorem Zc5 (k:Int) (s:ByteArray) (w:World) (hs:s.size<=9223372036854775807):
 Calls prog 197 #[.int .i64 k,.string s] w fun e w'=>e=.returned (.tuple #[.string ⟨(Cd.app k s.data.toList).1.toArray⟩,.int .i64 (Cd.app k s.data.toList).2])∧w=w':=by
 have HC:=ZmE (ZeR k s w hs)
 have hl:=Zdg k s.data.toList
 have hok:=ZhQ k s.data.toList
 have HA:=ZmE (Cd.app.eq_1 k s.data.toList)
 rw[Zb]at HA hok
 generalize Cd.compI k s.data.toList=r at*
 obtain⟨c,x⟩:=r
 dsimp only at HA hl hok HC
 by_cases h0:x=0
 ·have hok':=hok h0;subst h0;rw[ZmH rfl]at HA;by_cases h4:4096<s.size+c.length;(·rw[ZmH h4]at HA;clear hok;exact Qdw);·rw[ZmF h4]at HA;have hX:=ZmE (show s++⟨c.toArray⟩=(⟨(s.data.toList++c).toArray⟩:ByteArray)from Zh QhQ);clear hok;go_enter func197,ntmps197;go_wp2_with fail;refine HC.out.mono ?_;rintro e w1 ⟨rfl,rfl⟩;go_wp2;go_ret2;exact⟨by rw[HA.out];exact Zjx hX.out rfl,rfl⟩
 ·rw[ZmF h0]at HA;have hb:(x !=0)=true:=QiH;clear hok h0;exact Qdw
end Go.Proofs.YtbngggoccndefaaGreatDoor
end
