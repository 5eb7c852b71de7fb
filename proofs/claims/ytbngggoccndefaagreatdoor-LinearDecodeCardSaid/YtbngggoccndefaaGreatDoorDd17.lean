/-
  Laid together.
-/
import Derived.Test.YtbngggoccndefaaGreatDoorDd13
import Derived.Test.YtbngggoccndefaaGreatDoorDd16
set_option maxHeartbeats 16000000
set_option maxRecDepth 100000
set_option linter.unusedVariables false
set_option linter.unusedSimpArgs false
set_option linter.ambiguousOpen false
namespace Go.Proofs.YtbngggoccndefaaGreatDoor
open Go.Proofs.Tryz
section
open Go.RowKit
theorem Zit (s:ByteArray) (p:UInt8->Bool) (k:Nat) (h:k<s.size):(s.data.toList.take (k+1)).all p=((s.data.toList.take k).all p&&p s[k]):=by rw[Z4 s k h,ZqF];simp
theorem Zhl (s:ByteArray) (p:UInt8->Bool) (k:Nat) (h:k<s.size) (hp:p s[k]=false):s.data.toList.all p=false:=Qe0
theorem Zc8 (s:ByteArray) (hs:s.size<=maxLen) (w:World):
 Calls prog 118 #[.string s] w fun e w'=>e=.returned (.bool (Ea.digs s.data.toList))∧w=w':=by
 have hmx:s.size<=9223372036854775807:=hs
 clear hs
 obtain⟨res,hres⟩:∃res,Ea.digs s.data.toList=res:=⟨_,rfl⟩
 rw[hres]
 have HRES:=ZmE hres
 clear hres
 go_enter func118,ntmps118
 go_wp2
 go_loop [3] (fun i=>∃k:Nat,k<=s.size∧i=.int .i64 (k:Int)∧Hid ((s.data.toList.take k).all (fun c=>Cd.isDig c.toNat)=true)) (fun i=>s.size-(intOf i).toNat)
 case atStart=>exact QaF
 case round=>obtain⟨k,hk,rfl,hal⟩:=hrel;by_cases hlt:k<s.size;(·have HA:=ZmE (Zit s (fun c=>Cd.isDig c.toNat) k hlt);by_cases h1:s[k].toNat<48;(·have hf:=Zhl s (fun c=>Cd.isDig c.toNat) k hlt QiI;have HF:Hid (res=false):=ZmE (by rw[<-HRES.out];exact hf);have d1:decide ((s[k].toNat:Int)<48)=true:=ZmR QhN;clear hf h1;exact QbY);·have d1:decide ((s[k].toNat:Int)<48)=false:=ZmS QhN;by_cases h2:57<s[k].toNat;(·have hf:=Zhl s (fun c=>Cd.isDig c.toNat) k hlt QiI;have HF:Hid (res=false):=ZmE (by rw[<-HRES.out];exact hf);have d2:decide (57<(s[k].toNat:Int))=true:=ZmR QhN;clear hf h1 h2;exact QbY);·have d2:decide (57<(s[k].toNat:Int))=false:=ZmS QhN;have HO:Hid ((s.data.toList.take (k+1)).all (fun c=>Cd.isDig c.toNat)=true):=ZmE QjR;clear h1 h2;exact QaZ);·obtain rfl:k=s.size:=QhN;have HF:Hid (res=true):=ZmE (by rw[<-HRES.out,<-hal.out,Zx];rfl);clear hk hlt hal;exact QbY
theorem Zi7 (s:ByteArray) (j:Nat) (h:j<s.size):s.data.toList.drop (s.size-(j+1))=(s[s.size-1-j]' QhN)::s.data.toList.drop (s.size-j):=by rw[show s.size-(j+1)=s.size-1-j by omega,ZV s (s.size-1-j) QhN,show s.size-1-j+1=s.size-j by omega]
theorem Zi1:∀n:Fin 10,(Cd.chr (n.1:Int)).toNat=48+n.1:=by decide
theorem Zb3 (w:World) (c:UInt8) (x:Int) (hx:x=(c.toNat:Int)):
 (convert 90 9 (.slice (some ⟨w.heap.size,0,none⟩) 1 1)).run prog (w.alloc (.cells #[.int .u8 x] 5))=.ok (.string (Ea.bS [c])) (w.alloc (.cells #[.int .u8 x] 5)):=by
 subst hx
 exact Zl (w:=w.alloc (.cells #[.int .u8 (c.toNat:Int)] 5)) (l:=[c]) (.inr ⟨w.heap.size,0,1,rfl,by simp,fun i hi=>by simp only[ZnU,ZoU,ZmQ,ZnE]at hi;obtain rfl:i=0:=QhN;exact ZC #[.int .u8 (c.toNat:Int)] 5 w rfl⟩)
theorem Zdv (s:ByteArray) (hs:s.size<=4096) (HD:Hid (Ea.digs s.data.toList=true)) (w:World):
 Calls prog 188 #[.string s] w fun e w'=>e=.returned (.string (Ea.bS [Ea.chk s.data.toList]))∧Ext w w':=by
 go_enter func188,ntmps188
 go_wp2
 go_loop [3,4,5] (fun t x i=>∃j:Nat,j<=s.size∧i=.int .i64 ((s.size:Int)-1-(j:Int))∧t=.int .i64 (Cd.gsP (s.data.toList.drop (s.size-j))).1∧x=.int .i64 (Cd.gsP (s.data.toList.drop (s.size-j))).2) (fun _ _ i=>(intOf i+1).toNat)
 case atStart=>exact⟨0,ZmP _,by rw[show(s.size:Int)-1-((0:Nat):Int)=(s.size:Int)-1 by omega],by rw[ZoH,ZU];rfl,by rw[ZoH,ZU];rfl⟩
 case round=>obtain⟨j,hj,rfl,rfl,rfl⟩:=hrel;have hb:=Cd.gsP_bd _ (Cd.allDig_drop (Ea.allDig HD.out) (s.size-j));rw[Zz]at hb;obtain⟨hb1,hb2⟩:=hb;by_cases hlt:j<s.size;(·have hdg:48<=(s[s.size-1-j]' QhN).toNat∧(s[s.size-1-j]' QhN).toNat<=57:=(Ea.allDig HD.out) _ (Zj s (s.size-1-j) QhN);have hw:=Cd.gsP_w (s.data.toList.drop (s.size-j));have hs1:Cd.gsP (s.data.toList.drop (s.size-(j+1)))=((Cd.gsP (s.data.toList.drop (s.size-j))).1+(Cd.gsP (s.data.toList.drop (s.size-j))).2*Cd.dg (s[s.size-1-j]' QhN),4-(Cd.gsP (s.data.toList.drop (s.size-j))).2):=Znb Cd.gsP (Zi7 s j hlt);generalize Cd.gsP (s.data.toList.drop (s.size-j))=g at*;obtain⟨q,hq⟩:∃q,s.size-1-j=q:=⟨_,rfl⟩;have hqi:(s.size:Int)-1-(j:Int)=(q:Int):=QhN;have hqs:q<s.size:=QhN;have hsq:(s[s.size-1-j]' QhN)=s[q]:=(by congr 1);rw[hsq]at hdg hs1;rw[hqi];have HQ:Hid (s.size-1-j=q∧(s.size:Int)-1-(j:Int)=(q:Int)):=ZmE ⟨hq,hqi⟩;obtain⟨e1,e2⟩:=hdg;have hdd:Cd.dg s[q]=(s[q].toNat:Int)-48:=rfl;rw[hdd]at hs1;have HS:=ZmE hs1;clear hs1 hq hqi hsq hdd;obtain⟨a,b⟩:=g;dsimp only at hw hb1 hb2 HS⊢;have hb3:1<=b∧b<=3:=(by split at hw<;>omega);obtain⟨f1,f2⟩:=hb3;clear hw;obtain⟨y,hy⟩:∃y,b*((s[q].toNat:Int)-48)=y:=⟨_,rfl⟩;have hyb:0<=y∧y<=27:=(by rw[<-hy];have hbb:b=1∨b=2∨b=3:=QhN;rcases hbb with rfl|rfl|rfl<;>omega);rw[hy]at HS;obtain⟨y1,y2⟩:=hyb;go_wp2;go_round;(case rel=>exact⟨j+1,by omega,by have:=HQ.out.2;congr 1;omega,by rw[HS.out],by rw[HS.out]⟩);case measure=>simp[intOf]);·obtain rfl:j=s.size:=QhN;rw[ZnM,Zoh]at hb1 hb2⊢;obtain⟨g,hg⟩:∃g,(Cd.gsP s.data.toList).1=g:=⟨_,rfl⟩;have HC:Hid (Ea.chk s.data.toList=Cd.chr ((10-g%10)%10)):=ZmE (by unfold Ea.chk;rw[hg]);rw[hg]at hb1 hb2⊢;clear hg hj hlt;rw[show(s.size:Int)-1-(s.size:Int)= -1 by omega];generalize(Cd.gsP s.data.toList).2=b;obtain⟨x,hx⟩:∃x:Nat,(10-g%10)%10=(x:Int):=⟨((10-g%10)%10).toNat,by omega⟩;have hx10:x<10:=QhN;have hcv:=Zb3 w (Cd.chr (x:Int)) (48+(x:Int)) (by have h:=Zi1 ⟨x,hx10⟩;dsimp only at h;rw[h];omega);rw[hx]at HC;go_wp2;go_ret;exact⟨by rw[HC.out];rfl,Xe⟩
theorem Zc9 (k:Int) (w:World):Calls prog 117 #[.int .i64 k] w fun e w'=>e=.returned (.int .i64 (Ea.size k:Int))∧w=w':=by
 have h:k=1∨k=2∨k=3∨k=4∨(k≠1∧k≠2∧k≠3∧k≠4):=by omega
 rcases h with rfl|rfl|rfl|rfl|⟨h1,h2,h3,h4⟩;iterate 4
  ·go_enter func117,ntmps117;exact QaU
 ·have e:Ea.size k=0:=Qf0;have b1:(k==1)=false:=ZmJ.2 h1;have b2:(k==2)=false:=ZmJ.2 h2;have b3:(k==3)=false:=ZmJ.2 h3;have b4:(k==4)=false:=ZmJ.2 h4;rw[e];clear h1 h2 h3 h4 e;go_enter func117,ntmps117;exact QaU
theorem Zm2 {l:List UInt8} (h:l.length=7):∃a0 a1 a2 a3 a4 a5 a6,l=[a0,a1,a2,a3,a4,a5,a6]:=by
 match l,h with
 | [a0,a1,a2,a3,a4,a5,a6],_=>exact⟨_,_,_,_,_,_,_,rfl⟩
theorem Zjz {a:ByteArray} {l:List UInt8} (h:a.data.toList=l):Ending.returned (.string a)=.returned (.string (Ea.bS l)):=by rw[<-h,Ea.bS_of]
theorem ZfO (s:ByteArray) (h7:s.size=7) (HD:Hid (Ea.digs s.data.toList=true)) (w:World):
 Calls prog 189 #[.string s] w fun e w'=>e=.returned (.string (Ea.bS (Ea.exp7 s.data.toList)))∧Ext w w':=by
 obtain⟨res,hres⟩:∃res,Ea.exp7 s.data.toList=res:=⟨_,rfl⟩
 rw[hres]
 obtain⟨a0,a1,a2,a3,a4,a5,a6,hl⟩:=Zm2 (l:=s.data.toList) QiY
 have h48:48<=a6.toNat:=((Ea.allDig HD.out) a6 (by rw[hl];simp)).1
 rw[hl]at hres
 have HR:=ZmE hres
 have HL:=ZmE hl
 have hs7:7<=s.size:=by omega
 have hs8:s.size<=7:=by omega
 have hi6:6<s.size:=by omega
 have h6:s[6]=a6:=by have h1:s.data.toList[6]? =some s[6]:=ZmG (by rw[Zb];exact hi6);rw[hl]at h1;simpa using h1.symm
 have h6n:s[6].toNat=a6.toNat:=by rw[h6]
 have HF:Hid (∀(x:ByteArray),x.data.toList=res->Ending.returned (.string x)=.returned (.string (Ea.bS res))):=ZmE (fun x hx=>Zjz hx)
 clear hres hl h7 h6
 have h:a6.toNat=48∨a6.toNat=49∨a6.toNat=50∨a6.toNat=51∨a6.toNat=52∨52<a6.toNat:=by omega
 have q0:a6.toNat≠48->((s[6].toNat:Int)==48)=false:=fun h=>ZmJ.2 QhN
 have q1:a6.toNat≠49->((s[6].toNat:Int)==49)=false:=fun h=>ZmJ.2 QhN
 have q2:a6.toNat≠50->((s[6].toNat:Int)==50)=false:=fun h=>ZmJ.2 QhN
 have q3:a6.toNat≠51->((s[6].toNat:Int)==51)=false:=fun h=>ZmJ.2 QhN
 have q4:a6.toNat≠52->((s[6].toNat:Int)==52)=false:=fun h=>ZmJ.2 QhN
 have HG:Hid (a6.toNat<=50->(s.extract 0 3++s.extract 6 7++⟨#[48,48,48,48]⟩++s.extract 3 6).data.toList=res):=ZmE (fun h=>by have c1:a6<=50:=(by rw[Zpi];exact h);rw[<-HR.out];simp only[Znt,Znw,Zs,HL.out];unfold Ea.exp7;simp[c1])
 rcases h with h|h|h|h|h|h
 ·have d0:((s[6].toNat:Int)==48)=true:=Znj.2 QhN;exact Qhf
 ·have d0:=q0 QhN;have d1:((s[6].toNat:Int)==49)=true:=Znj.2 QhN;exact Qhf
 ·have d0:=q0 QhN;have d1:=q1 QhN;have d2:((s[6].toNat:Int)==50)=true:=Znj.2 QhN;exact Qhf
 ·have d0:=q0 QhN;have d1:=q1 QhN;have d2:=q2 QhN;have d3:((s[6].toNat:Int)==51)=true:=Znj.2 QhN;obtain rfl:a6=51:=ZnJ.1 h;have HG2:Hid ((s.extract 0 4++⟨#[48,48,48,48,48]⟩++s.extract 4 6).data.toList=res):=ZmE QiM;exact Qa6
 ·have d0:=q0 QhN;have d1:=q1 QhN;have d2:=q2 QhN;have d3:=q3 QhN;have d4:((s[6].toNat:Int)==52)=true:=Znj.2 QhN;obtain rfl:a6=52:=ZnJ.1 h;have HG2:Hid ((s.extract 0 5++⟨#[48,48,48,48,48]⟩++s.extract 5 6).data.toList=res):=ZmE QiM;exact Qa6
 ·have d0:=q0 QhN;have d1:=q1 QhN;have d2:=q2 QhN;have d3:=q3 QhN;have d4:=q4 QhN;have n50:¬a6<=50:=QfT;have n51:¬a6=51:=QfO;have n52:¬a6=52:=QfO;have HG2:Hid ((s.extract 0 6++⟨#[48,48,48,48]⟩++s.extract 6 7).data.toList=res):=ZmE (by rw[<-HR.out];simp only[Znt,Znw,Zs,HL.out];unfold Ea.exp7;simp[n50,n51,n52]);clear h q0 q1 q2 q3 q4 h6n h48 n50 n51 n52;exact Qg3
theorem Zfg (k:Int) (s:ByteArray) (hk:k=4->s.size=7) (hs:s.size<=4096) (HD:Hid (Ea.digs s.data.toList=true)) (w:World):
 Calls prog 119 #[.int .i64 k,.string s] w fun e w'=>e=.returned (.string (Ea.bS [Ea.chkOf k s.data.toList]))∧Ext w w':=by
 by_cases h4:k=4
 ·subst h4;have h7:=hk rfl;have HE:=ZmE (fun w=>ZfO s h7 HD w);have hz:(Ea.bS (Ea.exp7 s.data.toList)).size=11:=(by rw[Zc (Ea.bS_list _),Ea.exp7_len QiY]);have HC:=ZmE (fun w=>Zdv (Ea.bS (Ea.exp7 s.data.toList)) QhN (ZmE (by rw[Ea.bS_list];exact Ea.exp7_digs HD.out)) w);rw[Ea.bS_list]at HC;have e:Ea.chkOf 4 s.data.toList=Ea.chk (Ea.exp7 s.data.toList):=rfl;rw[e];generalize Ea.exp7 s.data.toList=X at*;clear hz h7 hk hs e;go_enter func119,ntmps119;go_wp2_with fail;refine(HE.out _).mono ?_;rintro e w1 ⟨rfl,hx1⟩;go_wp2_with fail;refine(HC.out _).mono ?_;rintro e w2 ⟨rfl,hx2⟩;go_wp2;go_ret;exact⟨rfl,hx1.trans hx2⟩
 ·have HC:=ZmE (fun w=>Zdv s hs HD w);have e:Ea.chkOf k s.data.toList=Ea.chk s.data.toList:=(by unfold Ea.chkOf;rw[ZmF h4]);have b4:(k==4)=false:=ZmJ.2 h4;rw[e];clear hk hs e h4;go_enter func119,ntmps119;go_wp2_with fail;refine(HC.out _).mono ?_;exact QhC
def OwnsR (m:List Bool) (w:World) (e:Ending) (w':World):Prop:=∃v,e=.returned v∧Own 4 w' w.heap.size v (m.map encT)∧Ext w w'
theorem ZkB {w:World} {b B n:Nat} {t:TypeId} {f:Nat->Value} (h:w.rowIs b t n f) (hB:B<=b) (hn:n<=maxLen):Own t w B (.slice (some ⟨b,0,none⟩) n n) ((List.range n).map f):=by
 obtain⟨c,hb,hs,hc⟩:=h;refine⟨by simp,.inr ⟨b,n,c,by simp,hB,hb,by simp,hn,by simp[hs],?_⟩⟩;apply ZoX;intro i;rw[Zog];by_cases hi:i<n;·have h2:=hc i hi;simp only[ZmI,Zoj,Zpn,hi,ZoG,Zqe,h2];simp[hi]
 ·simp[hi]
theorem Own.congr {t:TypeId} {w:World} {B:Nat} {v:Value} {xs ys:List Value} (h:Own t w B v xs) (e:xs=ys):Own t w B v ys:=e▸h
def zS (u:List Nat):List UInt8:=u.map Ea.chr
theorem Zmb (u:List Nat):(zS u).length=u.length:=by simp[zS]
theorem Zma (u v:List Nat):zS (u++v)=zS u++zS v:=by simp[zS]
theorem Zfk {u v:List Nat} (hu:∀x∈u,x<10) (hv:∀x∈v,x<10) (h:zS u=zS v):u=v:=by
 induction u generalizing v with
 |nil=>cases v with
  |nil=>rfl
  |cons y v=>simp[zS]at h
 |cons x u ih=>cases v with
  |nil=>simp[zS]at h
  |cons y v=>simp only[zS,ZnU,Zp0]at h;have hc:∀a b:Fin 10,Ea.chr a.1=Ea.chr b.1->a=b:=QhP;have:=hc ⟨x,hu x (Znh ..)⟩ ⟨y,hv y (Znh ..)⟩ h.1;simp only[Fin.mk.injEq]at this;rw[this,ih (fun z hz=>hu z (Zne _ hz)) (fun z hz=>hv z (Zne _ hz)) h.2]
theorem Z1 (s:ByteArray) (m:List Bool) (hs:s.data.toList=Ea.mS m) (hm:m.length<=1000000) (w:World):
 Calls prog 190 #[.string s] w (OwnsR m w):=by
 have hsz:s.size=m.length:=QdB
 have HS:=ZmE hs
 have HZ:=ZmE hsz
 have hss:s.size<=1000000:=by omega
 clear hs hsz
 go_enter func190,ntmps190
 go_wp2
 go_loopw [3,4] (fun v3 v4 wr=>∃k:Nat,k<=s.size∧v4=.int .i64 (k:Int)∧Own 4 wr w.heap.size v3 ((m.take k).map encT)∧Ext w wr) (fun _ v4 _=>s.size-(intOf v4).toNat)
 case atStart=>exact Qet
 case round=>obtain⟨k,hk,rfl,hown,hxr⟩:=hrel;by_cases hlt:k<s.size;(·obtain⟨b,hb⟩:∃b,m[k]? =some b:=⟨_,ZmG (by rw[<-HZ.out];exact hlt)⟩;have hsj:s[k]=Ea.mb b:=(by have h1:s.data.toList[k]? =some s[k]:=ZmG Qij;exact QeX);have HT:Hid (m.take (k+1)=m.take k++[b]):=ZmE (by obtain⟨h1,h2⟩:=ZmN.1 hb;rw[ZnL h1,h2]);have hbit:((s[k].toNat:Int)==49)=b:=(by rw[hsj];cases b<;>rfl);have hgl:(m.take k).length<=k:=QeF;generalize m.take k=got at*;clear hb hsj;go_wp2_with (at_builtin;refine ZH rfl _ _ rfl w.heap.size _ got rfl (hown.alloc _) _ b rfl ?c1 ?c2 ?c3 ?_);(case c1=>exact QeO);(case c2=>omega);(case c3=>have:=hxr.size;exact Qcm);intro v' w5 hown5 hg5;have hx5:=(hxr.alloc _).ofGrown hg5 hown.low;clear hown hg5 hbit;exact QdA);·obtain rfl:k=s.size:=QhN;have HT:Hid (m.take s.size=m):=ZmE (by rw[HZ.out,ZnN]);clear hk hlt;go_wp2;go_ret;exact⟨_,rfl,by rw[HT.out]at hown;exact hown,hxr⟩
theorem ZjJ (d:Nat) (hd:d<10) (w:World):(w.alloc (.cells #[.string ⟨#[48,48,48,49,49,48,49]⟩,.string ⟨#[48,48,49,49,48,48,49]⟩,.string ⟨#[48,48,49,48,48,49,49]⟩,.string ⟨#[48,49,49,49,49,48,49]⟩,.string ⟨#[48,49,48,48,48,49,49]⟩,.string ⟨#[48,49,49,48,48,48,49]⟩,.string ⟨#[48,49,48,49,49,49,49]⟩,.string ⟨#[48,49,49,49,48,49,49]⟩,.string ⟨#[48,49,49,48,49,49,49]⟩,.string ⟨#[48,48,48,49,48,49,49]⟩] 9)).cell? ⟨w.heap.size,d,none⟩=some (.string (Ea.bS (Ea.mS (Ea.modl 0 d)))):=Qbi
theorem Zj4 (d:Nat) (hd:d<10) (w:World):(w.alloc (.cells #[.string ⟨#[48,48,48,48,48,48]⟩,.string ⟨#[48,48,49,48,49,49]⟩,.string ⟨#[48,48,49,49,48,49]⟩,.string ⟨#[48,48,49,49,49,48]⟩,.string ⟨#[48,49,48,48,49,49]⟩,.string ⟨#[48,49,49,48,48,49]⟩,.string ⟨#[48,49,49,49,48,48]⟩,.string ⟨#[48,49,48,49,48,49]⟩,.string ⟨#[48,49,48,49,49,48]⟩,.string ⟨#[48,49,49,48,49,48]⟩] 9)).cell? ⟨w.heap.size,d,none⟩=some (.string (Ea.bS (zS (Ea.sets13 d)))):=Qbi
theorem ZkS (d:Nat) (hd:d<10) (w:World):(w.alloc (.cells #[.string ⟨#[49,49,49,48,48,48]⟩,.string ⟨#[49,49,48,49,48,48]⟩,.string ⟨#[49,49,48,48,49,48]⟩,.string ⟨#[49,49,48,48,48,49]⟩,.string ⟨#[49,48,49,49,48,48]⟩,.string ⟨#[49,48,48,49,49,48]⟩,.string ⟨#[49,48,48,48,49,49]⟩,.string ⟨#[49,48,49,48,49,48]⟩,.string ⟨#[49,48,49,48,48,49]⟩,.string ⟨#[49,48,48,49,48,49]⟩] 9)).cell? ⟨w.heap.size,d,none⟩=some (.string (Ea.bS (zS (Ea.setsE 0 d)))):=Qbi
theorem Zka (d:Nat) (hd:d<4) (w:World):(w.alloc (.cells #[.string ⟨#[48,48]⟩,.string ⟨#[48,49]⟩,.string ⟨#[49,48]⟩,.string ⟨#[49,49]⟩] 9)).cell? ⟨w.heap.size,d,none⟩=some (.string (Ea.bS (zS (Ea.setsA2.getD d [])))):=by
 have h:d=0∨d=1∨d=2∨d=3:=by omega
 rcases h with rfl|rfl|rfl|rfl<;>exact ZC _ _ w rfl
theorem Zkb (d:Nat) (hd:d<10) (w:World):(w.alloc (.cells #[.string ⟨#[49,49,48,48,48]⟩,.string ⟨#[49,48,49,48,48]⟩,.string ⟨#[49,48,48,49,48]⟩,.string ⟨#[49,48,48,48,49]⟩,.string ⟨#[48,49,49,48,48]⟩,.string ⟨#[48,48,49,49,48]⟩,.string ⟨#[48,48,48,49,49]⟩,.string ⟨#[48,49,48,49,48]⟩,.string ⟨#[48,49,48,48,49]⟩,.string ⟨#[48,48,49,48,49]⟩] 9)).cell? ⟨w.heap.size,d,none⟩=some (.string (Ea.bS (zS (Ea.setsA5.getD d [])))):=Qbi
theorem ZfQ (d:Nat) (hd:d<10) (w:World):Calls prog 193 #[.int .i64 (d:Int)] w fun e w'=>e=.returned (.string (Ea.bS (zS (Ea.sets13 d))))∧Ext w w':=by have hc:=Zj4 d hd w;go_enter func193,ntmps193;exact Qb1
theorem Zjf:∀(d:Fin 10) (j:Fin 7),(Ea.modl 2 d.1).getD j.1 false= !(Ea.modl 0 d.1).getD j.1 false:=by decide
theorem Zje:∀(d:Fin 10) (j:Fin 7),(Ea.modl 1 d.1).getD j.1 false= !(Ea.modl 0 d.1).getD (6-j.1) false:=by decide
theorem Zce:∀(t:Fin 3) (d:Fin 10),(Ea.modl t.1 d.1).length=7:=by decide
theorem Own.cells {t:TypeId} {w:World} {B:Nat} {v:Value} {m:List Bool} (h:Own t w B v (m.map encT)) (hm:0<m.length):
 ∃g c,v=.slice (some ⟨g,0,none⟩) m.length c∧B<=g∧g<w.heap.size∧∀i,i<m.length->w.cell? ⟨g,i,none⟩=some (.bool (m.getD i false)):=by
 have h0:=h
 rcases h.2 with⟨_,hz⟩|⟨g,cap,cur,hv,hbase,hb,_⟩
 ·rw[ZmI]at hz;omega
 ·rw[ZmI]at hv;refine⟨g,cap,hv,hbase,(Znn.1 hb).1,fun i hi=> ?_⟩;subst hv;have:=World.ownsRow.cellAt (by unfold Own at h0;rw[ZmI]at h0;exact h0) i QhN;rw[this,Znm,ZmG hi,ZmL,ZmG hi];rfl
theorem Zhj (d t:Nat) (hd:d<10) (ht:t<3) (w:World):Calls prog 246 #[.int .i64 (d:Int),.int .i64 (t:Int)] w (OwnsR (Ea.modl t d) w):=by
 have hc:=ZjJ d hd w;have hl0:(Ea.modl 0 d).length=7:=Zce ⟨0,by omega⟩ ⟨d,hd⟩;have hlt7:(Ea.modl t d).length=7:=Zce ⟨t,ht⟩ ⟨d,hd⟩;have HM:=ZmE (fun w=>Z1 (Ea.bS (Ea.mS (Ea.modl 0 d))) (Ea.modl 0 d) (Ea.bS_list _) QhN w);have h':t=0∨t=1∨t=2:=by omega
 have H2:Hid (∀j,j<7->(Ea.modl 2 d).getD j false= !(Ea.modl 0 d).getD j false):=ZmE (fun j hj=>Zjf ⟨d,hd⟩ ⟨j,hj⟩);have H1:Hid (∀j,j<7->(Ea.modl 1 d).getD j false= !(Ea.modl 0 d).getD (6-j) false):=ZmE (fun j hj=>Zje ⟨d,hd⟩ ⟨j,hj⟩);obtain⟨m,hm⟩:∃m,Ea.modl 0 d=m:=⟨_,rfl⟩;have HM0:=ZmE hm;obtain⟨X,hX⟩:∃X,Ea.bS (Ea.mS (Ea.modl 0 d))=X:=⟨_,rfl⟩;rw[hX]at hc HM;rw[hm]at HM hl0 H1 H2;clear hm hX;rcases h' with rfl|rfl|rfl;·go_enter func246,ntmps246;go_wp2_with fail;refine(HM.out _).mono ?_;rintro e w1 ⟨v,rfl,hown,hx⟩;go_wp2;go_ret;exact⟨_,rfl,by rw[HM0.out];exact hown.mono QhQ,((Ext.refl w).alloc _).trans hx⟩
 ·obtain⟨r,hr⟩:∃r,Ea.modl 1 d=r:=⟨_,rfl⟩;rw[hr]at H1 hlt7⊢;rw[show((1:Nat):Int)=1 from rfl];clear hr H2;have hmk:∀w,(Instr.makeSlice 26 (.int .i64 7) (.int .i64 7)).run prog w=.ok (.slice (some ⟨w.heap.size,0,none⟩) 7 7) (w.alloc (.cells (madeCells #[.bool false] 7) 4)):=fun w=>Zpa (P:=prog) 26 4 (.bool false) 1 underlying26 QhO rfl .i64 .i64 7 QhN QhN w;have HL7:=ZmE (And.intro hl0 hlt7);clear hl0 hlt7 HM0;go_enter func246,ntmps246;go_wp2_with fail;refine(HM.out _).mono ?_;rintro e w1 ⟨v,rfl,hown,hx⟩;obtain⟨g,c,rfl,hgB,hgs,hgc⟩:=hown.cells (by rw[HL7.out.1];omega);rw[HL7.out.1]at hgc;rw[HL7.out.1];have HGC:=ZmE hgc;have hxw:=((Ext.refl w).alloc _).trans hx;have hsz:=hxw.size;clear hown hx hgB hgc hc;go_wp2;clear hmk;go_loopw [7] (fun i wr=>∃j:Nat,j<=7∧i=.int .i64 (j:Int)∧wr.rowIs w1.heap.size 4 7 (fun k=>if k<j then encT (r.getD k false)else .bool false)∧Ext w1 wr) (fun i _=>7-(intOf i).toNat);(case atStart=>exact QeP);case round=>obtain⟨j,hj,rfl,hrow,hxr⟩:=hrel;by_cases hlt:j<7;(·have hcell:=hrow.cell hlt;have hfz:=hrow.frozen j;have HV:=ZmE (H1.out j hlt);obtain⟨q,hq⟩:∃q,6-j=q:=⟨_,rfl⟩;have hqi:(6:Int)-(j:Int)=(q:Int):=QhN;have hq7:q<7:=QhN;rw[hq]at HV;clear hq;have hc0:=(hxr.cell (p:=⟨g,q,none⟩) hgs).trans (HGC.out q QhN);obtain⟨b,hb⟩:∃b,m.getD q false=b:=⟨_,rfl⟩;exact QaP);·exact Qb9
 ·obtain⟨r,hr⟩:∃r,Ea.modl 2 d=r:=⟨_,rfl⟩;rw[hr]at H2 hlt7⊢;rw[show((2:Nat):Int)=2 from rfl];clear hr H1;have hmk:∀w,(Instr.makeSlice 26 (.int .i64 7) (.int .i64 7)).run prog w=.ok (.slice (some ⟨w.heap.size,0,none⟩) 7 7) (w.alloc (.cells (madeCells #[.bool false] 7) 4)):=fun w=>Zpa (P:=prog) 26 4 (.bool false) 1 underlying26 QhO rfl .i64 .i64 7 QhN QhN w;have HL7:=ZmE (And.intro hl0 hlt7);clear hl0 hlt7 HM0;go_enter func246,ntmps246;go_wp2_with fail;refine(HM.out _).mono ?_;rintro e w1 ⟨v,rfl,hown,hx⟩;obtain⟨g,c,rfl,hgB,hgs,hgc⟩:=hown.cells (by rw[HL7.out.1];omega);rw[HL7.out.1]at hgc;rw[HL7.out.1];have HGC:=ZmE hgc;have hxw:=((Ext.refl w).alloc _).trans hx;have hsz:=hxw.size;clear hown hx hgB hgc hc;go_wp2;clear hmk;go_loopw [7] (fun i wr=>∃j:Nat,j<=7∧i=.int .i64 (j:Int)∧wr.rowIs w1.heap.size 4 7 (fun k=>if k<j then encT (r.getD k false)else .bool false)∧Ext w1 wr) (fun i _=>7-(intOf i).toNat);(case atStart=>exact QeP);case round=>obtain⟨j,hj,rfl,hrow,hxr⟩:=hrel;by_cases hlt:j<7;(·have hcell:=hrow.cell hlt;have hfz:=hrow.frozen j;have HV:=ZmE (H2.out j hlt);have hc0:=(hxr.cell (p:=⟨g,j,none⟩) hgs).trans (HGC.out j QhN);obtain⟨b,hb⟩:∃b,m.getD j false=b:=⟨_,rfl⟩;exact QaP);·exact Qb9
end
end Go.Proofs.YtbngggoccndefaaGreatDoor
section
namespace Go.Proofs.YtbngggoccndefaaGreatDoor
open Go.Proofs.Tryz
end Go.Proofs.YtbngggoccndefaaGreatDoor
namespace Go.Proofs.YtbngggoccndefaaGreatDoor
open Go.Proofs.Tryz
open Go.RowKit
def ArrAt (n x:Nat) (X:ByteArray):Rel:=fun v w=>∃b,v=.slice (some ⟨b,0,none⟩) n n∧b<w.heap.size∧w.cell? ⟨b,x,none⟩=some (.string X)
theorem ArrAt.stable {n x:Nat} {X:ByteArray}:Rel.Stable (ArrAt n x X):=fun _ _ _ ⟨b,h1,h2,h3⟩ hx=>⟨b,h1,Znc h2 hx.size,(hx.cell (p:=⟨b,x,none⟩) h2).trans h3⟩
def PtrAt (x:Nat) (X:ByteArray):Rel:=fun v w=>∃b,v=.pointer (some ⟨b,x,none⟩)∧b<w.heap.size∧w.cell? ⟨b,x,none⟩=some (.string X)
theorem PtrAt.stable {x:Nat} {X:ByteArray}:Rel.Stable (PtrAt x X):=fun _ _ _ ⟨b,h1,h2,h3⟩ hx=>⟨b,h1,Znc h2 hx.size,(hx.cell (p:=⟨b,x,none⟩) h2).trans h3⟩
theorem ZS {c:UInt8} {d:Nat} (h:c.toNat=48+d) (hd:d<=9):
 (c.toNat:Int)=((48+d:Nat):Int)∧IntKind.u8.wrap (d:Int)=(d:Int)∧IntKind.i64.wrap (d:Int)=(d:Int)∧(48:Int)+(d:Int)-48=(d:Int):=
 ⟨by omega,IntWalk.u8_in _ QhN,ZnB _ QhN,by omega⟩
theorem dig_of {s:ByteArray} (hd:Ea.digs s.data.toList=true) (i:Nat) (h:i<s.size):∃d,s[i].toNat=48+d∧d<=9∧Ea.dv s.data.toList i=d:=by have h1:=Ea.digs_iff.1 hd s[i] (Zj s i h);refine⟨s[i].toNat-48,by omega,by omega,?_⟩;unfold Ea.dv;exact Qbz
theorem ZgT:∀c:Fin 10,zS (Ea.setsE 1 c.1)=(zS (Ea.setsE 0 c.1)).map (fun x=>97-x):=by decide
theorem ZfE:∀c:Fin 10,(zS (Ea.setsE 0 c.1)).all (fun x=>decide (48<=x.toNat)&&decide (x.toNat<=49))=true:=by decide
theorem Zia:∀c:Fin 10,(zS (Ea.setsE 0 c.1)).length=6:=by decide
theorem Zhd (y c:Nat) (hy:y<2) (hc:c<10) (w:World):Calls prog 192 #[.int .i64 (y:Int),.int .i64 (c:Int)] w fun e w'=>e=.returned (.string (Ea.bS (zS (Ea.setsE y c))))∧Ext w w':=by
 have hcl:=ZkS c hc w;have h':y=0∨y=1:=by omega
 rcases h' with rfl|rfl;·go_enter func192,ntmps192;exact Qb1
 ·rw[ZgT ⟨c,hc⟩];have H1:=ZmE (ZfE ⟨c,hc⟩);have HL:=ZmE (Zia ⟨c,hc⟩);dsimp only at H1 HL⊢;obtain⟨S,hS⟩:∃S,Ea.bS (zS (Ea.setsE 0 c))=S:=⟨_,rfl⟩;have HS:Hid (S.data.toList=zS (Ea.setsE 0 c)):=ZmE (by rw[<-hS,Ea.bS_list]);rw[hS]at hcl;generalize zS (Ea.setsE 0 c)=l at*;have hSz:S.size=6:=(by rw[Zc HS.out,HL.out]);have hS6:S.size<=6:=QhN;rw[show((1:Nat):Int)=1 from rfl];have hxw:=(Ext.refl w).alloc (.cells #[.string ⟨#[49,49,49,48,48,48]⟩,.string ⟨#[49,49,48,49,48,48]⟩,.string ⟨#[49,49,48,48,49,48]⟩,.string ⟨#[49,49,48,48,48,49]⟩,.string ⟨#[49,48,49,49,48,48]⟩,.string ⟨#[49,48,48,49,49,48]⟩,.string ⟨#[49,48,48,48,49,49]⟩,.string ⟨#[49,48,49,48,49,48]⟩,.string ⟨#[49,48,49,48,48,49]⟩,.string ⟨#[49,48,48,49,48,49]⟩] 9);have HXW:=ZmE hxw;clear hS hSz hxw;go_enter func192,ntmps192;go_wp2;go_loopw [6,7] (fun v6 v7 wr=>∃k:Nat,k<=S.size∧v7=.int .i64 (k:Int)∧Own 5 wr w.heap.size v6 (((S.data.toList.take k).map (fun x=>97-x)).map encB)∧Ext w wr) (fun _ v7 _=>S.size-(intOf v7).toNat);(case atStart=>exact⟨0,ZmP _,rfl,Own.nil _ _ _,HXW.out⟩);case round=>obtain⟨k,hk,rfl,hown,hxr⟩:=hrel;by_cases hlt:k<S.size;(·have hb:48<=S[k].toNat∧S[k].toNat<=49:=(by have:=H1.out;rw[<-HS.out,Znd]at this;have:=this S[k] (Zj S k hlt);exact QfH);obtain⟨hb1,hb2⟩:=hb;have HT:Hid ((S.data.toList.take (k+1)).map (fun x=>97-x)=(S.data.toList.take k).map (fun x=>97-x)++[97-S[k]]):=ZmE (by rw[Z4 S k hlt,Zn1];rfl);have hsub:((97-S[k]:UInt8).toNat:Int)=97-(S[k].toNat:Int):=(by rw[UInt8.toNat_sub_of_le _ _ (by rw[Zpi,show(97:UInt8).toNat=97 from rfl];omega),show(97:UInt8).toNat=97 from rfl];omega);have hgl:((S.data.toList.take k).map (fun x=>97-x)).length<=k:=Qc2;generalize(S.data.toList.take k).map (fun x=>97-x)=got at*;go_wp2_with (at_builtin;refine Za4 rfl _ _ rfl w.heap.size _ got rfl (hown.alloc _) _ (97-S[k]) rfl ?c1 ?c2 ?c3 ?_);(case c1=>simp[go_sem,encB,hsub]);(case c2=>omega);(case c3=>have:=hxr.size;exact Qcm);intro v' w5 hown5 hg5;have hx5:=(hxr.alloc _).ofGrown hg5 hown.low;clear hown hg5 hsub;exact QdA);·obtain rfl:k=S.size:=QhN;rw[Zx]at hown;have hcv:=Zl hown.sl;have HG:Hid (Ending.returned (.string ⟨((S.data.toList.map (fun x=>97-x))).toArray⟩)=.returned (.string (Ea.bS (l.map (fun x=>97-x))))):=ZmE (by rw[HS.out];rfl);clear hk hlt hown;go_wp2;go_ret;exact⟨HG.out,hxr⟩
theorem Zfj (s:ByteArray) (h2:s.size=2) (hd:Ea.digs s.data.toList=true) (w:World):
 Calls prog 194 #[.string s] w fun e w'=>e=.returned (.string (Ea.bS (zS (Ea.setsAdd s.data.toList))))∧Ext w w':=by
 have b2:((s.size:Int)==2)=true:=by rw[h2];rfl
 have hz0:0<s.size:=by omega
 have hz1:1<s.size:=by omega
 obtain⟨d0,e0,l0,v0⟩:=dig_of hd 0 hz0
 obtain⟨d1,e1,l1,v1⟩:=dig_of hd 1 hz1
 obtain⟨hk0,hu0,hi0,hs0⟩:=ZS e0 l0
 obtain⟨hk1,hu1,hi1,hs1⟩:=ZS e1 l1
 obtain⟨x,hx⟩:∃x,(10*d0+d1)%4=x:=⟨_,rfl⟩
 have hmA:IntKind.i64.wrap (10*(d0:Int))=10*(d0:Int):=ZnB _ QhN
 have hmB:IntKind.i64.wrap (10*(d0:Int)+(d1:Int))=10*(d0:Int)+(d1:Int):=ZnB _ QhN
 have hm:(10*(d0:Int)+(d1:Int)).tmod 4=(x:Int):=QdF
 have hx4:x<4:=by omega
 have hxw:IntKind.i64.wrap (x:Int)=(x:Int):=ZnB _ QhN
 have HX:Hid (Ea.setsA2.getD x []=Ea.setsAdd s.data.toList):=ZmE (by unfold Ea.setsAdd;rw[ZmH (by rw[Zb];exact h2),v0,v1,hx])
 obtain⟨X,hX⟩:∃X,Ea.bS (zS (Ea.setsA2.getD x []))=X:=⟨_,rfl⟩
 have HCL:=ZmE (fun w=>Zka x hx4 w)
 rw[hX]at HCL
 rw[<-HX.out,hX]
 clear hX HX hd e0 e1 v0 v1 hx h2
 go_enter func194,ntmps194
 go_wp2_with fail
 refine wp_region_rel 14 1 rfl [7,8,9,10,11,12,13,14,15,16,17,18,19,20] [[],[],[1],[2],[3],[4],[],[6],[7],[8],[5,9],[10],[0,11],[12]] QhO QhO ?_
 refine relPlan_by (ArrAt 4 x X) (ArrAt.stable) ?_ ?_
 ·intro V w' hx hf;(with_reducible refine relAt_ops ?_);intro A ρ hA hρ hcst hfun;simp[relUpon,go_sem,hcst];exact⟨(Ext.refl w').alloc _,w'.heap.size,rfl,by simp,HCL.out w'⟩
 apply relPlan_eq'
 ·exact QgC
 apply relPlan_eq'
 ·intro V w' hx hf;(with_reducible refine relAt_ops ?_);intro A ρ hA hρ hcst hfun;obtain⟨f8,_⟩:=hf;have h8:ρ (.tmp 8)=_:=(Znf hρ _).trans ((evalHit hA 8 rfl).trans f8);simp[relUpon,go_sem,hcst,↓IntWalk.iteOmega,Ext.refl,h8,hk0];rfl
 apply relPlan_eq'
 ·intro V w' hx hf;(with_reducible refine relAt_ops ?_);intro A ρ hA hρ hcst hfun;obtain⟨f9,_⟩:=hf;have h9:ρ (.tmp 9)=_:=(Znf hρ _).trans ((evalHit hA 9 rfl).trans f9);simp[relUpon,go_sem,hcst,Ext.refl,h9,hu0,hs0];rfl
 apply relPlan_eq'
 ·intro V w' hx hf;(with_reducible refine relAt_ops ?_);intro A ρ hA hρ hcst hfun;obtain⟨f10,_⟩:=hf;have h10:ρ (.tmp 10)=_:=(Znf hρ _).trans ((evalHit hA 10 rfl).trans f10);simp[relUpon,go_sem,Ext.refl,h10,hi0];rfl
 apply relPlan_eq'
 ·intro V w' hx hf;(with_reducible refine relAt_ops ?_);intro A ρ hA hρ hcst hfun;obtain⟨f11,_⟩:=hf;have h11:ρ (.tmp 11)=_:=(Znf hρ _).trans ((evalHit hA 11 rfl).trans f11);simp[relUpon,go_sem,hcst,Ext.refl,h11,hmA];rfl
 apply relPlan_eq'
 ·exact QgC
 apply relPlan_eq'
 ·intro V w' hx hf;(with_reducible refine relAt_ops ?_);intro A ρ hA hρ hcst hfun;obtain⟨f13,_⟩:=hf;have h13:ρ (.tmp 13)=_:=(Znf hρ _).trans ((evalHit hA 13 rfl).trans f13);simp[relUpon,go_sem,hcst,↓IntWalk.iteOmega,Ext.refl,h13,hk1];rfl
 apply relPlan_eq'
 ·intro V w' hx hf;(with_reducible refine relAt_ops ?_);intro A ρ hA hρ hcst hfun;obtain⟨f14,_⟩:=hf;have h14:ρ (.tmp 14)=_:=(Znf hρ _).trans ((evalHit hA 14 rfl).trans f14);simp[relUpon,go_sem,hcst,Ext.refl,h14,hu1,hs1];rfl
 apply relPlan_eq'
 ·intro V w' hx hf;(with_reducible refine relAt_ops ?_);intro A ρ hA hρ hcst hfun;obtain⟨f15,_⟩:=hf;have h15:ρ (.tmp 15)=_:=(Znf hρ _).trans ((evalHit hA 15 rfl).trans f15);simp[relUpon,go_sem,Ext.refl,h15,hi1];rfl
 apply relPlan_eq'
 ·intro V w' hx hf;(with_reducible refine relAt_ops ?_);intro A ρ hA hρ hcst hfun;obtain⟨f12,f16,_⟩:=hf;have h12:ρ (.tmp 12)=_:=(Znf hρ _).trans ((evalHit hA 12 rfl).trans f12);have h16:ρ (.tmp 16)=_:=(Znf hρ _).trans ((evalHit hA 16 rfl).trans f16);simp[relUpon,go_sem,Ext.refl,h12,h16,hmB];rfl
 apply relPlan_eq'
 ·intro V w' hx hf;(with_reducible refine relAt_ops ?_);intro A ρ hA hρ hcst hfun;obtain⟨f17,_⟩:=hf;have h17:ρ (.tmp 17)=_:=(Znf hρ _).trans ((evalHit hA 17 rfl).trans f17);simp[relUpon,go_sem,hcst,Ext.refl,h17,hm];rfl
 refine relPlan_by (PtrAt x X) (PtrAt.stable) ?_ ?_
 ·intro V w' hx hf;(with_reducible refine relAt_ops ?_);intro A ρ hA hρ hcst hfun;obtain⟨f7,f18,_⟩:=hf;have h7:ρ (.tmp 7)=V 7:=(Znf hρ _).trans (evalHit hA 7 rfl);have h18:ρ (.tmp 18)=_:=(Znf hρ _).trans ((evalHit hA 18 rfl).trans f18);obtain⟨b,e1,e2,e3⟩:=f7;have h7:=h7.trans e1;simp[relUpon,go_sem,↓IntWalk.iteOmega,Ext.refl,h7,h18];exact⟨b,rfl,e2,e3⟩
 refine relPlan_by (eqv (.string X)) (eqv_stable _) ?_ ?_
 ·intro V w' hx hf;(with_reducible refine relAt_ops ?_);intro A ρ hA hρ hcst hfun;obtain⟨f19,_⟩:=hf;have h19:ρ (.tmp 19)=V 19:=(Znf hρ _).trans (evalHit hA 19 rfl);obtain⟨b,e1,e2,e3⟩:=f19;have h19:=h19.trans e1;simp[relUpon,go_sem,Ext.refl,h19,e3];rfl
 intro V wT hxT hf
 obtain⟨g7,g8,g9,g10,g11,g12,g13,g14,g15,g16,g17,g18,g19,g20,_⟩:=hf
 refine wpAny_tail1 14 20 2 _ QhO rfl rfl (.inr rfl) QhO rfl rfl ?_
 have g20':V 20=.string X:=g20
 rw[g20']
 simp only[fillA,ZmX,Zni,Act.put,ZmO,ZmV,ZmU]
 go_wp2
 go_ret
 exact⟨rfl,hxT⟩
end Go.Proofs.YtbngggoccndefaaGreatDoor
namespace Go.Proofs.YtbngggoccndefaaGreatDoor
open Go.Proofs.Tryz
open Go.RowKit
theorem Zex (s:ByteArray) (h2:s.size=5) (hd:Ea.digs s.data.toList=true) (w:World):
 Calls prog 194 #[.string s] w fun e w'=>e=.returned (.string (Ea.bS (zS (Ea.setsAdd s.data.toList))))∧Ext w w':=by
 have b2:((s.size:Int)==2)=false:=by rw[h2];rfl
 have hz0:0<s.size:=by omega
 obtain⟨d0,e0,l0,v0⟩:=dig_of hd 0 hz0
 obtain⟨hk0,hu0,hi0,hs0⟩:=ZS e0 l0
 have hz1:1<s.size:=by omega
 obtain⟨d1,e1,l1,v1⟩:=dig_of hd 1 hz1
 obtain⟨hk1,hu1,hi1,hs1⟩:=ZS e1 l1
 have hz2:2<s.size:=by omega
 obtain⟨d2,e2,l2,v2⟩:=dig_of hd 2 hz2
 obtain⟨hk2,hu2,hi2,hs2⟩:=ZS e2 l2
 have hz3:3<s.size:=by omega
 obtain⟨d3,e3,l3,v3⟩:=dig_of hd 3 hz3
 obtain⟨hk3,hu3,hi3,hs3⟩:=ZS e3 l3
 have hz4:4<s.size:=by omega
 obtain⟨d4,e4,l4,v4⟩:=dig_of hd 4 hz4
 obtain⟨hk4,hu4,hi4,hs4⟩:=ZS e4 l4
 have hmA:IntKind.i64.wrap ((d0:Int)+(d2:Int))=(d0:Int)+(d2:Int):=ZnB _ QhN
 have hmB:IntKind.i64.wrap ((d0:Int)+(d2:Int)+(d4:Int))=(d0:Int)+(d2:Int)+(d4:Int):=ZnB _ QhN
 have hmC:IntKind.i64.wrap (3*((d0:Int)+(d2:Int)+(d4:Int)))=3*((d0:Int)+(d2:Int)+(d4:Int)):=ZnB _ QhN
 have hmD:IntKind.i64.wrap ((d1:Int)+(d3:Int))=(d1:Int)+(d3:Int):=ZnB _ QhN
 have hmE:IntKind.i64.wrap (9*((d1:Int)+(d3:Int)))=9*((d1:Int)+(d3:Int)):=ZnB _ QhN
 have hmF:IntKind.i64.wrap (3*((d0:Int)+(d2:Int)+(d4:Int))+9*((d1:Int)+(d3:Int)))=3*((d0:Int)+(d2:Int)+(d4:Int))+9*((d1:Int)+(d3:Int)):=ZnB _ QhN
 obtain⟨x,hx⟩:∃x,(3*(d0+d2+d4)+9*(d1+d3))%10=x:=⟨_,rfl⟩
 have hm:(3*((d0:Int)+(d2:Int)+(d4:Int))+9*((d1:Int)+(d3:Int))).tmod 10=(x:Int):=QdF
 have hx10:x<10:=by omega
 have HX:Hid (Ea.setsA5.getD x []=Ea.setsAdd s.data.toList):=ZmE (by unfold Ea.setsAdd;rw[ZmF Qic,v0,v1,v2,v3,v4,hx])
 obtain⟨X,hX⟩:∃X,Ea.bS (zS (Ea.setsA5.getD x []))=X:=⟨_,rfl⟩
 have HCL:=ZmE (fun w=>Zkb x hx10 w)
 rw[hX]at HCL
 rw[<-HX.out,hX]
 have HM:=ZmE hm
 have HM2:Hid ((3*((d0:Int)+(d2:Int)+(d4:Int))+9*((d1:Int)+(d3:Int)))%10=(x:Int)):=ZmE (by rw[<-hx];omega)
 clear hX HX hd e0 e1 e2 e3 e4 v0 v1 v2 v3 v4 hx h2 hm
 go_enter func194,ntmps194
 go_wp2_with fail
 go_quiet (fail)
 have hm:=HM.out
 have hm2:=HM2.out
 have hcl:=HCL.out (w.drewN nq)
 rw[show(w.drewN nq).heap.size=w.heap.size from rfl]at hcl
 have HXT:=ZmE (((Ext.refl w).drewN nq).alloc)
 clear hk0 hk1 hk2 hk3 hk4 hu0 hu1 hu2 hu3 hu4 hi0 hi1 hi2 hi3 hi4 hs0 hs1 hs2 hs3 hs4 hmA hmB hmC hmD hmE hmF
 go_wp2
 go_ret
 exact⟨rfl,HXT.out _⟩
theorem Zfi (s:ByteArray) (h:s.size=2∨s.size=5) (hd:Ea.digs s.data.toList=true) (w:World):
 Calls prog 194 #[.string s] w fun e w'=>e=.returned (.string (Ea.bS (zS (Ea.setsAdd s.data.toList))))∧Ext w w':=by
 rcases h with h|h
 ·exact Zfj s h hd w
 ·exact Zex s h hd w
end Go.Proofs.YtbngggoccndefaaGreatDoor
end
