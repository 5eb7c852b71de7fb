/-
  Laid.
-/
import Derived.Test.YtbngggoccndefaaGreatDoorUn09
set_option maxHeartbeats 16000000
set_option maxRecDepth 100000
set_option linter.all false
namespace Go.Proofs.YtbngggoccndefaaGreatDoor
open Go.Proofs.Tryz
section
open Go.RowKit
theorem Zhp (l:List UInt8) (c:UInt8):∀k,k<l.length->(∀i,i<k->l.getD i 0≠c)->l.getD k 0=c->Lib.indexByte l c=(k:Int):=by
 induction l with
 |nil=>intro k hk;simp at hk
 |cons b l ih=>
  intro k hk hno he
  cases k with
  |zero=>simp only[TZ]at he;simp[Lib.indexByte,he]
  |succ k=>have hb:¬b=c:=(by have:=hno 0 B0;exact E9);have:=ih k (by simpa using hk) (fun i hi=>by have:=hno (i+1) B0;simpa using this) (by simpa using he);simp only[Lib.indexByte,Y0,C0 hb,this];rw[C0 B0];omega
theorem Zjq (l:List UInt8) (c:UInt8) (h:∀i,i<l.length->l.getD i 0≠c):Lib.indexByte l c= -1:=by
 induction l with
 |nil=>rfl
 |cons b l ih=>have hb:¬b=c:=(by have:=h 0 L0;exact E9);have:=ih (fun i hi=>by have:=h (i+1) WY;simpa using this);simp[Lib.indexByte,hb,this]
theorem Zn7 (s:ByteArray) (i:Nat) (h:i<s.size):s.data.toList.getD i 0=s[i]:=by
 have h':i<s.data.toList.length:=by rw[Zd];exact h
 rw[U0,M0 h'];rfl
theorem ZoJ (a b:UInt8) (h:a≠b):((a.toNat:Int)==(b.toNat:Int))=false:=by rw[N0];intro e;exact h (R4.1 B0)
theorem qS (s:ByteArray) (c:UInt8) (w:World) (hs:s.size<=9223372036854775807):
 Calls prog 198 #[.string s,.int .u8 (c.toNat:Int)] w fun e w'=>e=.returned (.int .i64 (Lib.indexByte s.data.toList c))∧w=w':=by
 go_enter func198,ntmps198
 go_wp2
 go_loop [5] (fun i=>∃j:Nat,j<=s.size∧i=.int .i64 (j:Int)∧Hid (∀i,i<j->s.data.toList.getD i 0≠c)) (fun i=>s.size-(intOf i).toNat)
 case atStart=>exact⟨0,O0 _,rfl,fun i hi=>by omega⟩
 case round=>obtain⟨j,hj,rfl,hno⟩:=hrel;by_cases hlt:j<s.size;(·have hg:=Zn7 s j hlt;by_cases he:s[j]=c;(·have HR:=A0 (Zhp s.data.toList c j RM hno.out (by rw[hg];exact he));have hb:((s[j].toNat:Int)==(c.toNat:Int))=true:=(by rw[he];simp);clear he hg;exact MI);·(have HN:Hid (∀i,i<j+1->s.data.toList.getD i 0≠c):=fun i hi=>by by_cases e:i=j;(·subst e;rw[hg];exact he);·exact hno.out i B0);have hb:=ZoJ _ _ he;clear he hg;go_wp2;go_round;(case rel=>exact⟨j+1,by omega,by go_num,HN⟩);case measure=>exact Q8);·obtain rfl:j=s.size:=B0;have HR:=A0 (Zjq s.data.toList c (by rw[Zd];exact hno.out));clear hj hlt;exact MI
theorem qT (c:UInt8) (w:World):
 Calls prog 198 #[.string ⟨#[48,49,50,51,52,53,54,55,56,57,65,66,67,68,69,70,71,72,73,74,75,76,77,78,79,80,81,82,83,84,85,86,87,88,89,90,45,46,32,36,47,43,37]⟩,.int .u8 (c.toNat:Int)] w fun e w'=>e=.returned (.int .i64 (Cd.plc c))∧w=w':=
 qS _ c w I0
def ZR (l:List UInt8) (i n:Nat):List Bool:=((l.drop (i*n)).take n).map fun c=>c==49
theorem nQ (c:UInt8):(((c.toNat:Int)==49)=(c==49)):=by
 rw[C4,Y0,Y0];constructor;·intro h;exact R4.1 (by have:(49:UInt8).toNat=49:=rfl;omega)
 ·intro h;rw[h];rfl
theorem nR (s:ByteArray) (i n k:Nat) (h:i*n+k<s.size) (_:k<n):((s.data.toList.drop (i*n)).take (k+1)).map (fun c=>c==49)=((s.data.toList.drop (i*n)).take k).map (fun c=>c==49)++[s[i*n+k]==49]:=by
 have hl:k<(s.data.toList.drop (i*n)).length:=by rw[Z7];omega
 rw[V8 hl,E3,qU];rfl
def qV (l:List Bool) (w:World) (e:Ending) (w':World):Prop:=∃v,e=.returned v∧Own 4 w' w.heap.size v (l.map encT)∧Ext w w'
theorem nS (s:ByteArray) (i:Nat) (w:World) (hs:(i+1)*5<=s.size) (hi:i<=1000):
 Calls prog 200 #[.string s,.int .i64 (i:Int),.int .i64 5] w (qV (ZR s.data.toList i 5) w):=by
 have HT:=A0 (ZR.eq_1 s.data.toList i 5)
 generalize ZR s.data.toList i 5=res at*
 go_enter func200,ntmps200
 go_wp2
 go_loopw [8,7] (fun j c wr=>∃k:Nat,k<=5∧j=.int .i64 (k:Int)∧Own 4 wr w.heap.size c ((((s.data.toList.drop (i*5)).take k).map fun c=>c==49).map encT)∧Ext w wr) (fun j _ _=>5-(intOf j).toNat)
 case atStart=>exact BI
 case round=>obtain⟨k,hk,rfl,hown,hxr⟩:=hrel;by_cases hlt:k<5;(·have hin:i*5+k<s.size:=B0;have HTS:=A0 (nR s i 5 k hin hlt);have hgl:(((s.data.toList.drop (i*5)).take k).map fun c=>c==49).length<=k:=UJ;obtain⟨q,hq⟩:∃q,i*5+k=q:=⟨_,rfl⟩;have hqi:(i:Int)*5+(k:Int)=(q:Int):=B0;have hqs:q<s.size:=B0;have hsq:s[i*5+k]=s[q]:=(by congr 1);rw[hsq]at HTS;have d1:=nQ s[q];generalize((s.data.toList.drop (i*5)).take k).map (fun c=>c==49)=got at*;exact nT);·obtain rfl:k=5:=B0;exact nU
theorem Zo3 (s:ByteArray) (i:Nat) (w:World) (hs:(i+1)*7<=s.size) (hi:i<=1000):
 Calls prog 200 #[.string s,.int .i64 (i:Int),.int .i64 7] w (qV (ZR s.data.toList i 7) w):=by
 have HT:=A0 (ZR.eq_1 s.data.toList i 7)
 generalize ZR s.data.toList i 7=res at*
 go_enter func200,ntmps200
 go_wp2
 go_loopw [8,7] (fun j c wr=>∃k:Nat,k<=7∧j=.int .i64 (k:Int)∧Own 4 wr w.heap.size c ((((s.data.toList.drop (i*7)).take k).map fun c=>c==49).map encT)∧Ext w wr) (fun j _ _=>7-(intOf j).toNat)
 case atStart=>exact BI
 case round=>obtain⟨k,hk,rfl,hown,hxr⟩:=hrel;by_cases hlt:k<7;(·have hin:i*7+k<s.size:=B0;have HTS:=A0 (nR s i 7 k hin hlt);have hgl:(((s.data.toList.drop (i*7)).take k).map fun c=>c==49).length<=k:=UJ;obtain⟨q,hq⟩:∃q,i*7+k=q:=⟨_,rfl⟩;have hqi:(i:Int)*7+(k:Int)=(q:Int):=B0;have hqs:q<s.size:=B0;have hsq:s[i*7+k]=s[q]:=(by congr 1);rw[hsq]at HTS;have d1:=nQ s[q];generalize((s.data.toList.drop (i*7)).take k).map (fun c=>c==49)=got at*;exact nT);·obtain rfl:k=7:=B0;exact nU
def fives:List UInt8:=[49,48,48,48,49,48,49,48,48,49,49,49,48,48,48,48,48,49,48,49,49,48,49,48,48,48,49,49,48,48,48,48,48,49,49,49,48,48,49,48,48,49,48,49,48,48,48,49,49,48]
def groups:List UInt8:=[85,86,87,88,89,90,45,46,32,42,49,50,51,52,53,54,55,56,57,48,65,66,67,68,69,70,71,72,73,74,75,76,77,78,79,80,81,82,83,84]
def narrows:List UInt8:=[37,43,47,36]
def rowA (a:Nat):List Bool:=(List.range 9).map fun i=>if i%2=0 then(ZR fives (a%10) 5).getD (i/2) false else decide (i=2*(a/10)+1)
def rowN (a:Nat):List Bool:=(List.range 9).map fun i=>if i%2=1 then decide (i/2≠a)else false
def P8 (c:UInt8):List Bool:=if 0<=Lib.indexByte groups c then rowA (Lib.indexByte groups c).toNat else if 0<=Lib.indexByte narrows c then rowN (Lib.indexByte narrows c).toNat else []
theorem ZmN:∀i:Fin 256,Tw.patB 0 (UInt8.ofNat i.val)=if P8 (UInt8.ofNat i.val)=[]then([],6)else(P8 (UInt8.ofNat i.val),0):=E2
theorem nV (w:World):(w.alloc (.cells #[.bool false,.bool false,.bool false,.bool false,.bool false,.bool false,.bool false,.bool false,.bool false] 4)).rowIs w.heap.size 4 9 (fun _=>.bool false):=
 ⟨_,L2 w _,rfl,fun i hi=>by obtain rfl|rfl|rfl|rfl|rfl|rfl|rfl|rfl|rfl:i=0∨i=1∨i=2∨i=3∨i=4∨i=5∨i=6∨i=7∨i=8:=B0;all_goals rfl⟩
theorem Own.at5 {t:TypeId} {w:World} {B:Nat} {v:Value} {xs:List Value} (h:Own t w B v xs) (hne:xs≠ []):
 ∃g cap,v=.slice (some ⟨g,0,none⟩) xs.length cap∧B<=g∧g<w.heap.size∧∀i,i<xs.length->w.cell? ⟨g,i,none⟩=xs[i]? :=by
 have hh:=h
 rcases h.2 with⟨_,h0⟩|⟨g,cap,cur,hv,hbase,hb,h1,h2,h3,h4⟩
 ·exact absurd (L4 h0) hne
 ·refine⟨g,cap,hv,hbase,(O3.1 hb).1,fun i hi=> ?_⟩;exact qW
theorem ZnK (c:UInt8) (a:Nat) (w:World) (ha:Lib.indexByte groups c=(a:Int)) (ha4:a<40):
 Calls prog 199 #[.int .u8 (c.toNat:Int)] w fun e w'=>∃v,e=.returned v∧SlN w' w.heap.size v ((rowA a).map encT)∧Ext w w':=by
 have HP:Hid (∀w,Calls prog 198 #[.string ⟨#[85,86,87,88,89,90,45,46,32,42,49,50,51,52,53,54,55,56,57,48,65,66,67,68,69,70,71,72,73,74,75,76,77,78,79,80,81,82,83,84]⟩,.int .u8 (c.toNat:Int)] w fun e w'=>e=.returned (.int .i64 (a:Int))∧w=w'):=A0 (fun w=>by have:=qS ⟨groups.toArray⟩ c w I0;rw[show(⟨groups.toArray⟩:ByteArray).data.toList=groups from rfl,ha]at this;exact this)
 have HC:Hid (∀w,Calls prog 200 #[.string ⟨#[49,48,48,48,49,48,49,48,48,49,49,49,48,48,48,48,48,49,48,49,49,48,49,48,48,48,49,49,48,48,48,48,48,49,49,49,48,48,49,48,48,49,48,49,48,48,48,49,49,48]⟩,.int .i64 ((a:Int)%10),.int .i64 5] w (qV (ZR fives (a%10) 5) w)):=A0 (fun w=>by have:=nS ⟨fives.toArray⟩ (a%10) w nW B0;rw[Int.natCast_emod]at this;exact this)
 have HRA:=A0 (rowA.eq_1 a)
 have hbl:(ZR fives (a%10) 5).length=5:=nX
 generalize ZR fives (a%10) 5=bars at*
 generalize rowA a=res at*
 clear ha
 have HM:=A0 (nV w)
 go_enter func199,ntmps199
 go_wp2_with fail
 refine(HP.out _).mono ?_
 rintro e w1 ⟨rfl,rfl⟩
 go_wp2_with fail
 refine(HC.out _).mono ?_
 rintro e w1 ⟨v,rfl,hown,hx1⟩
 obtain⟨g,cap,rfl,hg1,hg2,hgc⟩:=hown.at5 (by intro h0;have:=R0 List.length h0;simp at this;rw[this]at hbl;simp at hbl)
 rw[J0,hbl]at hgc⊢
 have HGC:Hid (∀i,i<5->w1.cell? ⟨g,i,none⟩=some (.bool (bars.getD i false))):=A0 (fun i hi=>by rw[hgc i hi,J2,U0,M0 B0];rfl)
 have HRW:Hid (w1.rowIs w.heap.size 4 9 (fun _=>.bool false)):=A0 (Ext.row HM.out hx1)
 have hgw:g≠w.heap.size:=by simp at hg1;omega
 have hxw:Ext w w1:=((Ext.refl w).alloc _).trans hx1
 clear hgc hown hx1 hg1 HM HP HC
 go_wp2
 go_loopw [7] (fun j wr=>∃k:Nat,k<=5∧j=.int .i64 (k:Int)∧wr.rowIs w.heap.size 4 9 (fun i=>.bool (if i%2=0∧i/2<k then bars.getD (i/2) false else false))∧Hid (∀i,i<5->wr.cell? ⟨g,i,none⟩=some (.bool (bars.getD i false)))∧Ext w wr) (fun j _=>5-(intOf j).toNat)
 case atStart=>exact⟨0,O0 _,rfl,HRW.out.congr (fun i _=>by simp),HGC,hxw⟩
 case round=>obtain⟨k,hk,rfl,hrow,HCL,hxr⟩:=hrel;by_cases hlt:k<5;(·have hbk:=HCL.out k hlt;obtain⟨p,hp⟩:∃p,2*k=p:=⟨_,rfl⟩;have hpi:2*(k:Int)=(p:Int):=B0;have hp9:p<9:=B0;have hcp:=hrow.cell hp9;have hfp:=hrow.frozen p;have HR1:=A0 ((hrow.set p (.bool (bars.getD k false))).congr (g:=fun i=>.bool (if i%2=0∧i/2<k+1 then bars.getD (i/2) false else false)) (fun i hi=>by by_cases h1:i=p;(·subst h1;rw[D0 rfl,D0 ⟨by omega,by omega⟩,show i/2=k by omega]);·rw[C0 h1];by_cases h2:i%2=0∧i/2<k;(·rw[D0 h2,D0 ⟨h2.1,by omega⟩]);·rw[C0 h2,C0 B0]));have HX1:=A0 (hxr.setCell (p:=⟨w.heap.size,p,none⟩) (K0 _) (.bool (bars.getD k false)));have HCL2:Hid (∀i,i<5->(wr.setCell ⟨w.heap.size,p,none⟩ (.bool (bars.getD k false))).cell? ⟨g,i,none⟩=some (.bool (bars.getD i false))):=A0 (fun i hi=>by rw[VX _ _ _ _ (by intro e;injection e with e1;exact hgw e1.symm)];exact HCL.out i hi);generalize bars.getD k false=bk at*;clear hrow HCL hp;go_wp2;go_roundw;(case rel=>exact⟨k+1,by omega,by go_num,HR1.out,HCL2,HX1.out⟩);case measure=>exact Q8);·obtain rfl:k=5:=B0;obtain⟨q,hq⟩:∃q,2*(a/10)+1=q:=⟨_,rfl⟩;have hqi:2*((a:Int)/10)+1=(q:Int):=B0;have hq9:q<9:=B0;have hcq:=hrow.cell hq9;have hfq:=hrow.frozen q;have HSL:Hid (Sl (wr.setCell ⟨w.heap.size,q,none⟩ (.bool true)) (.slice (some ⟨w.heap.size,0,none⟩) 9 9) (res.map encT)):=A0 ((Sl.row (hrow.set q (.bool true))).congr (by rw[HRA.out,G7];refine PK (fun i hi=> ?_);have hi9:i<9:=WY;simp only[Function.comp,encT];by_cases h1:i=q;(·subst h1;rw[D0 rfl,C0 B0];exact S0);·rw[C0 h1];by_cases h2:i%2=0;(·rw[D0 ⟨h2,by omega⟩,D0 h2]);·rw[C0 B0,C0 h2];congr 1;symm;simp;omega));have HX1:=A0 (hxr.setCell (p:=⟨w.heap.size,q,none⟩) (K0 _) (.bool true));clear hrow HCL hk hlt hq;go_wp2;go_ret;exact⟨_,rfl,SlN.of HSL.out nY (K0 _),HX1.out⟩
theorem TQ (l:List UInt8) (c:UInt8) (hl:l.length<=1000) (w:World):
 Calls prog 198 #[.string ⟨l.toArray⟩,.int .u8 (c.toNat:Int)] w fun e w'=>e=.returned (.int .i64 (Lib.indexByte l c))∧w=w':=
 qS ⟨l.toArray⟩ c w (by have:(⟨l.toArray⟩:ByteArray).size=l.length:=(by simp[ByteArray.size]);omega)
theorem ZnL (c:UInt8) (w:World) (ha:Lib.indexByte groups c<0):
 Calls prog 199 #[.int .u8 (c.toNat:Int)] w fun e w'=>∃v,e=.returned v∧SlN w' w.heap.size v ((if 0<=Lib.indexByte narrows c then rowN (Lib.indexByte narrows c).toNat else []).map encT)∧Ext w w':=by
 have HP:Hid (∀w,Calls prog 198 #[.string ⟨#[85,86,87,88,89,90,45,46,32,42,49,50,51,52,53,54,55,56,57,48,65,66,67,68,69,70,71,72,73,74,75,76,77,78,79,80,81,82,83,84]⟩,.int .u8 (c.toNat:Int)] w fun e w'=>e=.returned (.int .i64 (Lib.indexByte groups c))∧w=w'):=A0 (fun w=>TQ groups c I0 w)
 have HQ:Hid (∀w,Calls prog 198 #[.string ⟨#[37,43,47,36]⟩,.int .u8 (c.toNat:Int)] w fun e w'=>e=.returned (.int .i64 (Lib.indexByte narrows c))∧w=w'):=A0 (fun w=>TQ narrows c I0 w)
 generalize Lib.indexByte groups c=x at*
 have d1:decide (0<=x)=false:=S0
 by_cases hn:0<=Lib.indexByte narrows c
 ·rw[D0 hn];obtain⟨a,hna⟩:=K4 hn;have ha4:=XO _ _ _ hna;rw[show narrows.length=4 from rfl]at ha4;rw[hna]at HQ⊢;rw[Y5];clear hn hna;have d2:decide ((a:Int)<0)=false:=L0;have HRA:=A0 (rowN.eq_1 a);generalize rowN a=res at*;have HM:=A0 (nV w);go_enter func199,ntmps199;go_wp2_with fail;refine(HP.out _).mono ?_;rintro e w1 ⟨rfl,rfl⟩;go_wp2_with fail;refine(HQ.out _).mono ?_;rintro e w1 ⟨rfl,rfl⟩;clear HP HQ;go_wp2;go_loopw [9] (fun j wr=>∃k:Nat,k<=4∧j=.int .i64 (k:Int)∧wr.rowIs w.heap.size 4 9 (fun i=>.bool (if i%2=1∧i/2<k then decide (i/2≠a)else false))∧Ext w wr) (fun j _=>4-(intOf j).toNat);(case atStart=>exact⟨0,O0 _,rfl,HM.out.congr (fun i _=>by simp),Xe⟩);case round=>obtain⟨k,hk,rfl,hrow,hxr⟩:=hrel;by_cases hlt:k<4;(·obtain⟨p,hp⟩:∃p,2*k+1=p:=⟨_,rfl⟩;have hpi:2*(k:Int)+1=(p:Int):=B0;have hp9:p<9:=B0;have hcp:=hrow.cell hp9;have hfp:=hrow.frozen p;obtain⟨bk,hbk⟩:∃bk,decide (k≠a)=bk:=⟨_,rfl⟩;have hne:((k:Int) !=(a:Int))=bk:=(by rw[<-hbk,C4,C3,Y1];omega);have HR1:=A0 ((hrow.set p (.bool bk)).congr (g:=fun i=>.bool (if i%2=1∧i/2<k+1 then decide (i/2≠a)else false)) (fun i hi=>by by_cases h1:i=p;(·subst h1;rw[D0 rfl,D0 ⟨by omega,by omega⟩,show i/2=k by omega,hbk]);·rw[C0 h1];by_cases h2:i%2=1∧i/2<k;(·rw[D0 h2,D0 ⟨h2.1,by omega⟩]);·rw[C0 h2,C0 B0]));have HX1:=A0 (hxr.setCell (p:=⟨w.heap.size,p,none⟩) (K0 _) (.bool bk));clear hrow hp hbk;cases bk;all_goals go_wp2;go_roundw;(case rel=>exact⟨k+1,by omega,by go_num,HR1.out,HX1.out⟩);case measure=>exact Q8);·obtain rfl:k=4:=B0;have HSL:Hid (Sl wr (.slice (some ⟨w.heap.size,0,none⟩) 9 9) (res.map encT)):=A0 ((Sl.row hrow).congr (by rw[HRA.out,G7];refine PK (fun i hi=> ?_);have hi9:i<9:=WY;simp only[Function.comp,encT];by_cases h2:i%2=1;(·rw[D0 ⟨h2,by omega⟩,D0 h2]);·rw[C0 B0,C0 h2]));clear hrow hk hlt;go_wp2;go_ret;exact⟨_,rfl,SlN.of HSL.out nY (K0 _),hxr⟩
 ·rw[C0 hn];generalize Lib.indexByte narrows c=y at*;have d2:decide (y<0)=true:=S0;clear hn;go_enter func199,ntmps199;go_wp2_with fail;refine(HP.out _).mono ?_;rintro e w1 ⟨rfl,rfl⟩;go_wp2_with fail;refine(HQ.out _).mono ?_;rintro e w1 ⟨rfl,rfl⟩;go_wp2;go_ret;exact⟨_,rfl,SlN.nil _ _,Xe⟩
theorem Zlt (c:UInt8) (w:World):
 Calls prog 199 #[.int .u8 (c.toNat:Int)] w fun e w'=>∃v,e=.returned v∧SlN w' w.heap.size v ((P8 c).map encT)∧Ext w w':=by
 unfold P8
 by_cases h:0<=Lib.indexByte groups c
 ·rw[D0 h];obtain⟨a,ha⟩:=K4 h;have:=XO _ _ _ ha;rw[show groups.length=40 from rfl]at this;have h2:=ZnK c a w ha this;rw[ha,Y5];exact h2
 ·rw[C0 h];exact ZnL c w B0
def sevens:List UInt8:=[48,48,48,48,48,49,49,48,48,48,48,49,49,48,48,48,48,49,48,48,49,49,49,48,48,48,48,48,48,48,49,48,48,49,48,49,48,48,48,48,49,48,48,49,48,48,48,48,49,48,49,48,48,49,48,48,48,49,49,48,48,48,48,49,48,48,49,48,48,48,48,48,48,49,49,48,48,48,48,49,49,48,48,48,49,48,48,48,49,48,49,49,48,49,48,48,48,49,49,48,49,48,49,48,48,48,48,49,48,49,48,49,48,48,49,49,48,49,48,48,49,48,49,48,48,49,48,48,48,49,48,49,49,48,48,48,49,49,49,48]
theorem ZlM:∀i:Fin 256,Tw.patB 1 (UInt8.ofNat i.val)=if 0<=Lib.indexByte Tw.cCb (UInt8.ofNat i.val)then(ZR sevens (Lib.indexByte Tw.cCb (UInt8.ofNat i.val)).toNat 7,0)else([],6):=E2
def WZ:List UInt8:=[49,50,51,52,53,54,55,56,57,48]
theorem Zm5:∀i:Fin 256,Tw.patB 2 (UInt8.ofNat i.val)=if 0<=Lib.indexByte WZ (UInt8.ofNat i.val)then(ZR fives (Lib.indexByte WZ (UInt8.ofNat i.val)).toNat 5,0)else([],6):=E2
theorem ZjN (c:UInt8):(P8 c).length<=9:=by
 unfold P8 rowA rowN
 repeat' split
 all_goals simp
def PatO (r:List Bool×Int) (w:World) (e:Ending) (w':World):Prop:=∃v,e=.returned (.tuple #[v,.int .i64 r.2])∧SlN w' w.heap.size v (r.1.map encT)∧Ext w w'
theorem Zom (c:UInt8) (w:World):Calls prog 128 #[.int .i64 6,.int .u8 (c.toNat:Int)] w (PatO (Tw.patB 1 c) w):=by
 have HE:=ZlM ⟨c.toNat,c.toNat_lt⟩;simp only[YX]at HE;rw[HE];have HP:Hid (∀w,Calls prog 198 #[.string ⟨#[48,49,50,51,52,53,54,55,56,57,45,36,58,47,46,43,65,66,67,68]⟩,.int .u8 (c.toNat:Int)] w fun e w'=>e=.returned (.int .i64 (Lib.indexByte Tw.cCb c))∧w=w'):=A0 (fun w=>TQ Tw.cCb c I0 w);by_cases h:0<=Lib.indexByte Tw.cCb c;·rw[D0 h];obtain⟨a,ha⟩:=K4 h;have hal:=XO _ _ _ ha;rw[show Tw.cCb.length=20 from rfl]at hal;rw[ha]at HP⊢;rw[Y5];have hcl:(ZR sevens a 7).length=7:=(by unfold ZR;rw[J0,M1,X2,show sevens.length=140 from rfl];omega);have HC:=A0 (fun w=>Zo3 ⟨sevens.toArray⟩ a w (by rw[show(⟨sevens.toArray⟩:ByteArray).size=140 from rfl];omega) B0);rw[show(⟨sevens.toArray⟩:ByteArray).data.toList=sevens from rfl]at HC;generalize ZR sevens a 7=bits at*;exact nZ
 ·rw[C0 h];generalize Lib.indexByte Tw.cCb c=y at*;exact oA
theorem Zon (c:UInt8) (w:World):Calls prog 128 #[.int .i64 7,.int .u8 (c.toNat:Int)] w (PatO (Tw.patB 2 c) w):=by
 have HE:=Zm5 ⟨c.toNat,c.toNat_lt⟩;simp only[YX]at HE;rw[HE];have HP:Hid (∀w,Calls prog 198 #[.string ⟨#[49,50,51,52,53,54,55,56,57,48]⟩,.int .u8 (c.toNat:Int)] w fun e w'=>e=.returned (.int .i64 (Lib.indexByte WZ c))∧w=w'):=A0 (fun w=>TQ WZ c I0 w);by_cases h:0<=Lib.indexByte WZ c;·rw[D0 h];obtain⟨a,ha⟩:=K4 h;have hal:=XO _ _ _ ha;rw[show WZ.length=10 from rfl]at hal;rw[ha]at HP⊢;rw[Y5];have hcl:(ZR fives a 5).length=5:=nX;have HC:=A0 (fun w=>nS ⟨fives.toArray⟩ a w nW B0);rw[show(⟨fives.toArray⟩:ByteArray).data.toList=fives from rfl]at HC;generalize ZR fives a 5=bits at*;exact nZ
 ·rw[C0 h];generalize Lib.indexByte WZ c=y at*;exact oA
theorem Zol (c:UInt8) (w:World):Calls prog 128 #[.int .i64 5,.int .u8 (c.toNat:Int)] w (PatO (Tw.patB 0 c) w):=by
 have HE:=ZmN ⟨c.toNat,c.toNat_lt⟩;simp only[YX]at HE;rw[HE];have HN:=A0 (fun w=>Zlt c w);have hl:=ZjN c;by_cases h:P8 c=[];·rw[D0 h];rw[h]at HN;clear h HE hl;go_enter func128,ntmps128;go_wp2_with fail;refine(HN.out _).mono ?_;rintro e w1 ⟨v,rfl,hsl,hx1⟩;obtain⟨a1,c1,rfl⟩:=hsl.1.form;simp only[B9,O4];clear hsl;go_wp2;go_ret2;exact⟨.slice none 0 0,rfl,SlN.nil _ _,hx1⟩
 ·rw[C0 h];have hp:0<(P8 c).length:=T6.2 h;have d1:(((P8 c).length:Int)==0)=false:=O2;generalize P8 c=bits at*;clear h HE;go_enter func128,ntmps128;go_wp2_with fail;refine(HN.out _).mono ?_;rintro e w1 ⟨v,rfl,hsl,hx1⟩;obtain⟨a1,c1,rfl⟩:=hsl.1.form;rw[J0]at hsl⊢;go_wp2;go_ret2;exact⟨_,rfl,hsl,hx1⟩
def Tw.chrK (k:Nat) (p:List UInt8):UInt8×Bool:=match k with
 |0=>Tw.chr Tw.c39 Tw.p39 9 p
 |1=>Tw.chr Tw.cCb Tw.pCb 7 p
 |_=>Tw.chr Tw.cItf Tw.pItf 5 p
theorem TR (cs ps:List UInt8) (z:Nat) (p:List UInt8):Tw.chr cs ps z p=(0,false)∨∃i,i<cs.length∧Tw.cutAt ps z i=p∧Tw.chr cs ps z p=(cs.getD i 0,true):=by
 unfold Tw.chr;split;·rename_i i h;have h1:=VP h;have h2:=OZ h;exact .inr ⟨i,by simpa using h2,by simpa using h1,rfl⟩
 ·exact .inl rfl
theorem Zin (pb:List Bool):Tw.bits (Tw.elems pb)=pb:=by
 unfold Tw.bits Tw.elems;rw[G7];conv=>rhs;rw[<-List.map_id pb]
 refine PK (fun b _=> ?_);cases b<;>rfl
theorem ZoO:∀i:Fin 256,(Tw.patB 0 (UInt8.ofNat i.val)).2=0->Tw.chr Tw.c39 Tw.p39 9 (Tw.elems (Tw.patB 0 (UInt8.ofNat i.val)).1)=(UInt8.ofNat i.val,true):=E2
theorem ZoP:∀i:Fin 256,(Tw.patB 1 (UInt8.ofNat i.val)).2=0->Tw.chr Tw.cCb Tw.pCb 7 (Tw.elems (Tw.patB 1 (UInt8.ofNat i.val)).1)=(UInt8.ofNat i.val,true):=E2
theorem ZoQ:∀i:Fin 256,(Tw.patB 2 (UInt8.ofNat i.val)).2=0->Tw.chr Tw.cItf Tw.pItf 5 (Tw.elems (Tw.patB 2 (UInt8.ofNat i.val)).1)=(UInt8.ofNat i.val,true):=E2
theorem ZoK:∀i:Fin 44,Tw.patB 0 (Tw.c39.getD i.val 0)=(Tw.bits (Tw.cutAt Tw.p39 9 i.val),0)∧32<=(Tw.c39.getD i.val 0).toNat∧(Tw.c39.getD i.val 0).toNat<127:=E2
theorem ZoL:∀i:Fin 20,Tw.patB 1 (Tw.cCb.getD i.val 0)=(Tw.bits (Tw.cutAt Tw.pCb 7 i.val),0)∧32<=(Tw.cCb.getD i.val 0).toNat∧(Tw.cCb.getD i.val 0).toNat<127:=E2
theorem ZoM:∀i:Fin 10,Tw.patB 2 (Tw.cItf.getD i.val 0)=(Tw.bits (Tw.cutAt Tw.pItf 5 i.val),0)∧32<=(Tw.cItf.getD i.val 0).toNat∧(Tw.cItf.getD i.val 0).toNat<127:=E2
theorem Zo5 (c:UInt8) (pb:List Bool) (h:Tw.patB 0 c=(pb,0)):Tw.chrK 0 (Tw.elems pb)=(c,true):=by have h1:=ZoO ⟨c.toNat,c.toNat_lt⟩;exact qX
theorem ZnM (pb:List Bool) (h:∀c:UInt8,32<=c.toNat->c.toNat<127->Tw.patB 0 c≠(pb,0)):(Tw.chrK 0 (Tw.elems pb)).1=0:=by
 show(Tw.chr Tw.c39 Tw.p39 9 (Tw.elems pb)).1=0;rcases TR Tw.c39 Tw.p39 9 (Tw.elems pb)with e|⟨i,hi,hc,_⟩;·rw[e]
 ·obtain⟨a1,a2,a3⟩:=ZoK ⟨i,hi⟩;exact qY
theorem Zo6 (c:UInt8) (pb:List Bool) (h:Tw.patB 1 c=(pb,0)):Tw.chrK 1 (Tw.elems pb)=(c,true):=by have h1:=ZoP ⟨c.toNat,c.toNat_lt⟩;exact qX
theorem ZnN (pb:List Bool) (h:∀c:UInt8,32<=c.toNat->c.toNat<127->Tw.patB 1 c≠(pb,0)):(Tw.chrK 1 (Tw.elems pb)).1=0:=by
 show(Tw.chr Tw.cCb Tw.pCb 7 (Tw.elems pb)).1=0;rcases TR Tw.cCb Tw.pCb 7 (Tw.elems pb)with e|⟨i,hi,hc,_⟩;·rw[e]
 ·obtain⟨a1,a2,a3⟩:=ZoL ⟨i,hi⟩;exact qY
theorem Zo7 (c:UInt8) (pb:List Bool) (h:Tw.patB 2 c=(pb,0)):Tw.chrK 2 (Tw.elems pb)=(c,true):=by have h1:=ZoQ ⟨c.toNat,c.toNat_lt⟩;exact qX
theorem ZnO (pb:List Bool) (h:∀c:UInt8,32<=c.toNat->c.toNat<127->Tw.patB 2 c≠(pb,0)):(Tw.chrK 2 (Tw.elems pb)).1=0:=by
 show(Tw.chr Tw.cItf Tw.pItf 5 (Tw.elems pb)).1=0;rcases TR Tw.cItf Tw.pItf 5 (Tw.elems pb)with e|⟨i,hi,hc,_⟩;·rw[e]
 ·obtain⟨a1,a2,a3⟩:=ZoM ⟨i,hi⟩;exact qY
theorem ZiV (q p:List Bool) (j:Nat) (hq:j<q.length) (hp:j<p.length) (h:q.take j=p.take j):decide (q.take (j+1)=p.take (j+1))=(q[j]==p[j]):=by rw[V8 hq,V8 hp,h,C4,Y1,Y0,List.append_cancel_left_eq,VE];exact⟨fun e=>e.1,fun e=>⟨e,rfl⟩⟩
theorem Zn5 (pv:Value) (pb:List Bool) (w:World) (hp:Sl w pv (pb.map encT)) (hl:pb.length<=1000):
 Calls prog 226 #[.int .i64 5,pv] w fun e w'=>e=.returned (.int .u8 ((Tw.chrK 0 (Tw.elems pb)).1.toNat:Int))∧Ext w w':=by
 obtain⟨a1,c1,rfl⟩:=hp.form
 rw[J0]at hp⊢
 have HP:=A0 hp
 have HHIT:=A0 (fun c=>Zo5 c pb)
 have HNON:=A0 (ZnM pb)
 clear hp
 generalize Tw.chrK 0 (Tw.elems pb)=res at*
 go_enter func226,ntmps226
 go_wp2
 go_loopw [5] (fun c wr=>∃m:Nat,32<=m∧m<=127∧c=.int .i64 (m:Int)∧Hid (∀d:UInt8,32<=d.toNat->d.toNat<m->Tw.patB 0 d≠(pb,0))∧Ext w wr) (fun c _=>127-(intOf c).toNat)
 case atStart=>exact qZ
 case round=>obtain⟨m,hm1,hm2,rfl,HB,hxr⟩:=hrel;by_cases hlt:m<127;(·have he:(UInt8.ofNat m).toNat=m:=S0;have HPT:=A0 (fun w=>Zol (UInt8.ofNat m) w);rw[he]at HPT;have HNX:Hid (Tw.patB 0 (UInt8.ofNat m)≠(pb,0)->∀d:UInt8,32<=d.toNat->d.toNat<m+1->Tw.patB 0 d≠(pb,0)):=A0 (fun hne d h1 h2=>by by_cases hd:d.toNat<m;(·exact HB.out d h1 hd);·have:d=UInt8.ofNat m:=R4.1 (by rw[he];omega);rw[this];exact hne);have HHT:Hid (Tw.patB 0 (UInt8.ofNat m)=(pb,0)->(res.1.toNat:Int)=(m:Int)):=A0 (fun h=>by rw[HHIT.out _ h,<-he];simp);generalize Tw.patB 0 (UInt8.ofNat m)=q at*;exact Qh);·exact xA
theorem Zn6 (pv:Value) (pb:List Bool) (w:World) (hp:Sl w pv (pb.map encT)) (hl:pb.length<=1000):
 Calls prog 226 #[.int .i64 6,pv] w fun e w'=>e=.returned (.int .u8 ((Tw.chrK 1 (Tw.elems pb)).1.toNat:Int))∧Ext w w':=by
 obtain⟨a1,c1,rfl⟩:=hp.form
 rw[J0]at hp⊢
 have HP:=A0 hp
 have HHIT:=A0 (fun c=>Zo6 c pb)
 have HNON:=A0 (ZnN pb)
 clear hp
 generalize Tw.chrK 1 (Tw.elems pb)=res at*
 go_enter func226,ntmps226
 go_wp2
 go_loopw [5] (fun c wr=>∃m:Nat,32<=m∧m<=127∧c=.int .i64 (m:Int)∧Hid (∀d:UInt8,32<=d.toNat->d.toNat<m->Tw.patB 1 d≠(pb,0))∧Ext w wr) (fun c _=>127-(intOf c).toNat)
 case atStart=>exact qZ
 case round=>obtain⟨m,hm1,hm2,rfl,HB,hxr⟩:=hrel;by_cases hlt:m<127;(·have he:(UInt8.ofNat m).toNat=m:=S0;have HPT:=A0 (fun w=>Zom (UInt8.ofNat m) w);rw[he]at HPT;have HNX:Hid (Tw.patB 1 (UInt8.ofNat m)≠(pb,0)->∀d:UInt8,32<=d.toNat->d.toNat<m+1->Tw.patB 1 d≠(pb,0)):=A0 (fun hne d h1 h2=>by by_cases hd:d.toNat<m;(·exact HB.out d h1 hd);·have:d=UInt8.ofNat m:=R4.1 (by rw[he];omega);rw[this];exact hne);have HHT:Hid (Tw.patB 1 (UInt8.ofNat m)=(pb,0)->(res.1.toNat:Int)=(m:Int)):=A0 (fun h=>by rw[HHIT.out _ h,<-he];simp);generalize Tw.patB 1 (UInt8.ofNat m)=q at*;exact Qh);·exact xA
theorem oB (pv:Value) (pb:List Bool) (w:World) (hp:Sl w pv (pb.map encT)) (hl:pb.length<=1000):
 Calls prog 226 #[.int .i64 7,pv] w fun e w'=>e=.returned (.int .u8 ((Tw.chrK 2 (Tw.elems pb)).1.toNat:Int))∧Ext w w':=by
 obtain⟨a1,c1,rfl⟩:=hp.form
 rw[J0]at hp⊢
 have HP:=A0 hp
 have HHIT:=A0 (fun c=>Zo7 c pb)
 have HNON:=A0 (ZnO pb)
 clear hp
 generalize Tw.chrK 2 (Tw.elems pb)=res at*
 go_enter func226,ntmps226
 go_wp2
 go_loopw [5] (fun c wr=>∃m:Nat,32<=m∧m<=127∧c=.int .i64 (m:Int)∧Hid (∀d:UInt8,32<=d.toNat->d.toNat<m->Tw.patB 2 d≠(pb,0))∧Ext w wr) (fun c _=>127-(intOf c).toNat)
 case atStart=>exact qZ
 case round=>obtain⟨m,hm1,hm2,rfl,HB,hxr⟩:=hrel;by_cases hlt:m<127;(·have he:(UInt8.ofNat m).toNat=m:=S0;have HPT:=A0 (fun w=>Zon (UInt8.ofNat m) w);rw[he]at HPT;have HNX:Hid (Tw.patB 2 (UInt8.ofNat m)≠(pb,0)->∀d:UInt8,32<=d.toNat->d.toNat<m+1->Tw.patB 2 d≠(pb,0)):=A0 (fun hne d h1 h2=>by by_cases hd:d.toNat<m;(·exact HB.out d h1 hd);·have:d=UInt8.ofNat m:=R4.1 (by rw[he];omega);rw[this];exact hne);have HHT:Hid (Tw.patB 2 (UInt8.ofNat m)=(pb,0)->(res.1.toNat:Int)=(m:Int)):=A0 (fun h=>by rw[HHIT.out _ h,<-he];simp);generalize Tw.patB 2 (UInt8.ofNat m)=q at*;exact Qh);·exact xA
end
end Go.Proofs.YtbngggoccndefaaGreatDoor
section
namespace Go.Proofs.YtbngggoccndefaaGreatDoor
open Go.Proofs.Tryz
open Go.RowKit
theorem ZiI (c:Int) (w:World):
 Calls prog 277 #[.int .u8 c] w fun e w'=>e=.returned (.bool (Cd.isDig c))∧w=w':=by
 go_enter func277,ntmps277
 go_wp2
 ·exact OO
 ·exact OP
theorem Zkb (k:Nat) (c:UInt8) (w:World) (hk:k<=8):
 Calls prog 270 #[.int .i64 (k:Int),.int .u8 (c.toNat:Int)] w fun e w'=>e=.returned (.bool (Cd.datB k (c.toNat:Int)))∧w=w':=by
 by_cases h7:k=7
 ·subst h7;go_enter func270,ntmps270;go_wp2_with fail;refine(qT c _).mono ?_;rintro e w' ⟨rfl,rfl⟩;go_wp2;go_ret;exact⟨Zm (by simp[Cd.datB]),rfl⟩
 ·have hb:((k:Int)==7)=false:=O2;have HE:Hid (Cd.datB k (c.toNat:Int)=Cd.isDig (c.toNat:Int)):=C0 h7;clear h7;go_enter func270,ntmps270;go_wp2_with fail;refine(ZiI _ _).mono ?_;rintro e w' ⟨rfl,rfl⟩;go_wp2;go_ret;exact⟨Zm HE.out.symm,rfl⟩
theorem VA (s:ByteArray) (i:Nat) (w:World) (hs:s.size<=9223372036854775807) (h:i<s.size) (hd:Hid (Cd.AllDig s.data.toList)):
 Calls prog 293 #[.string s,.int .i64 (i:Int)] w fun e w'=>e=.returned (.int .i64 (Cd.dg (s[s.size-1-i]' B0)))∧w=w':=by
 obtain⟨hx1,hx2⟩:=hd.out _ (Zn s (s.size-1-i) B0)
 go_enter func293,ntmps293
 go_wp2
 go_ret
 exact⟨rfl,rfl⟩
theorem JL (s:ByteArray) (i:Nat) (h:i<s.size):s.data.toList.drop (s.size-(i+1))=(s[s.size-1-i]' B0)::s.data.toList.drop (s.size-i):=by
 have e1:s.size-(i+1)=s.size-1-i:=by omega
 rw[e1,XF s (s.size-1-i) B0,show s.size-1-i+1=s.size-i by omega]
theorem ZkB:∀n:Fin 11,((⟨#[48,49,50,51,52,53,54,55,56,57,88]⟩:ByteArray).extract n.1 (n.1+1)).data.toList=[Cd.chr (n.1:Int)]:=E2
theorem XB (v:Int) (w:World) (h0:0<=v) (h1:v<=10):
 Calls prog 278 #[.int .i64 v] w fun e w'=>e=.returned (.string ⟨#[Cd.chr v]⟩)∧w=w':=by
 obtain⟨n,rfl⟩:=K4 h0
 have hn:n<=10:=by omega
 have HC:=A0 (Zl (b:=⟨[Cd.chr (n:Int)].toArray⟩) (ZkB ⟨n,by omega⟩))
 go_enter func278,ntmps278
 go_wp2
 go_ret
 exact⟨Z8 HC.out,rfl⟩
end Go.Proofs.YtbngggoccndefaaGreatDoor
namespace Go.Proofs.YtbngggoccndefaaGreatDoor
open Go.Proofs.Tryz
open Go.RowKit
theorem xB (s:ByteArray) (j:Nat) (h:j<s.size):s.data.toList.take (s.size-j)=s.data.toList.take (s.size-(j+1))++[s[s.size-1-j]' B0]:=by
 have e:s.size-j=s.size-1-j+1:=by omega
 rw[e,ZF s (s.size-1-j) B0,show s.size-(j+1)=s.size-1-j by omega]
theorem ZlB (s:ByteArray) (w:World) (hs:s.size<=4096) (HD:Hid (Cd.AllDig s.data.toList)):
 Calls prog 279 #[.string s] w fun e w'=>e=.returned (.int .i64 ((10-(Cd.gsP s.data.toList).1%10)%10))∧w=w':=by
 go_enter func279,ntmps279
 go_wp2
 go_loop [3,4] (fun t i=>∃j:Nat,j<=s.size∧i=.int .i64 (j:Int)∧t=.int .i64 (Cd.gsP (s.data.toList.drop (s.size-j))).1) (fun _ i=>s.size-(intOf i).toNat)
 case atStart=>exact JM
 case round=>obtain⟨j,hj,rfl,rfl⟩:=hrel;have hb:=Cd.gsP_bd _ (Cd.allDig_drop HD.out (s.size-j));rw[Z7]at hb;obtain⟨hb1,hb2⟩:=hb;by_cases hlt:j<s.size;(·have hbd:=Cd.dg_bd (HD.out _ (Zn s (s.size-1-j) B0));have HV:=A0 (fun w=>VA s j w B0 hlt HD);have hw:=Cd.gsP_w (s.data.toList.drop (s.size-j));rw[Z7,show s.size-(s.size-j)=j by omega]at hw;have hs1:Cd.gsP (s.data.toList.drop (s.size-(j+1)))=((Cd.gsP (s.data.toList.drop (s.size-j))).1+(Cd.gsP (s.data.toList.drop (s.size-j))).2*Cd.dg (s[s.size-1-j]' B0),4-(Cd.gsP (s.data.toList.drop (s.size-j))).2):=R0 Cd.gsP (JL s j hlt);generalize Cd.gsP (s.data.toList.drop (s.size-j))=g at*;generalize Cd.dg (s[s.size-1-j]' B0)=d at*;have HS:=A0 hs1;clear hs1;obtain⟨a,b⟩:=g;dsimp only at hw hb1 hb2 HS⊢;obtain⟨hd1,hd2⟩:=hbd;have HW:=A0 hw;clear hw;by_cases hp:j%2=0;(·have hp':(j:Int)%2=0:=B0;go_wp2_with fail;refine(HV.out _).mono ?_;rintro e w' ⟨rfl,rfl⟩;go_wp2;go_round;(case rel=>exact⟨j+1,by omega,by go_num,by rw[HS.out,HW.out,D0 B0];show Value.int _ _=Value.int _ _;congr 1;omega⟩);case measure=>exact Q8);·have hp':(j:Int)%2=1:=B0;clear hp;go_wp2_with fail;refine(HV.out _).mono ?_;rintro e w' ⟨rfl,rfl⟩;go_wp2;go_round;(case rel=>exact⟨j+1,by omega,by go_num,by rw[HS.out,HW.out,C0 B0];show Value.int _ _=Value.int _ _;congr 1;omega⟩);case measure=>exact Q8);·exact xC
theorem Zkg (s:ByteArray) (w:World) (hs:s.size<=4096) (HD:Hid (Cd.AllDig s.data.toList)):
 Calls prog 280 #[.string s] w fun e w'=>e=.returned (.int .i64 ((10-(Cd.lnP s.data.toList).1%10)%10))∧w=w':=by
 go_enter func280,ntmps280
 go_wp2
 go_loop [3,4] (fun t i=>∃j:Nat,j<=s.size∧i=.int .i64 (j:Int)∧t=.int .i64 (Cd.lnP (s.data.toList.drop (s.size-j))).1) (fun _ i=>s.size-(intOf i).toNat)
 case atStart=>exact JM
 case round=>obtain⟨j,hj,rfl,rfl⟩:=hrel;have hb:=Cd.lnP_bd _ (Cd.allDig_drop HD.out (s.size-j));rw[Z7]at hb;obtain⟨hb1,hb2⟩:=hb;by_cases hlt:j<s.size;(·have hbd:=Cd.dg_bd (HD.out _ (Zn s (s.size-1-j) B0));have HV:=A0 (fun w=>VA s j w B0 hlt HD);have hw:=Cd.lnP_w (s.data.toList.drop (s.size-j));rw[Z7,show s.size-(s.size-j)=j by omega]at hw;have hs1:Cd.lnP (s.data.toList.drop (s.size-(j+1)))=((Cd.lnP (s.data.toList.drop (s.size-j))).1+(if(Cd.lnP (s.data.toList.drop (s.size-j))).2 then Cd.dbl (Cd.dg (s[s.size-1-j]' B0))else Cd.dg (s[s.size-1-j]' B0)),!(Cd.lnP (s.data.toList.drop (s.size-j))).2):=R0 Cd.lnP (JL s j hlt);generalize Cd.lnP (s.data.toList.drop (s.size-j))=g at*;generalize Cd.dg (s[s.size-1-j]' B0)=d at*;have HS:=A0 hs1;clear hs1;obtain⟨a,b⟩:=g;dsimp only at hw hb1 hb2 HS⊢;obtain⟨hd1,hd2⟩:=hbd;have HW:=A0 hw;clear hw;by_cases hp:j%2=0;(·have hp':((j:Int)%2==0)=true:=S0;by_cases h9:9<2*d;(·go_wp2_with fail;refine(HV.out _).mono ?_;rintro e w' ⟨rfl,rfl⟩;go_wp2;go_round;(case rel=>exact⟨j+1,by omega,by go_num,by rw[HS.out,HW.out];show Value.int _ _=Value.int _ _;congr 1;rw[D0 (by simpa using hp),Cd.dbl_hi d B0];omega⟩);case measure=>exact Q8);·go_wp2_with fail;refine(HV.out _).mono ?_;rintro e w' ⟨rfl,rfl⟩;go_wp2;go_round;(case rel=>exact⟨j+1,by omega,by go_num,by rw[HS.out,HW.out];show Value.int _ _=Value.int _ _;congr 1;rw[D0 (by simpa using hp),Cd.dbl_lo d B0];omega⟩);case measure=>exact Q8);·have hp':((j:Int)%2==0)=false:=S0;have HP:=A0 hp;clear hp;go_wp2_with fail;refine(HV.out _).mono ?_;rintro e w' ⟨rfl,rfl⟩;go_wp2;go_round;(case rel=>exact⟨j+1,by omega,by go_num,by rw[HS.out,HW.out];show Value.int _ _=Value.int _ _;congr 1;rw[C0 (by simpa using HP.out)]⟩);case measure=>exact Q8);·exact xC
theorem Zkf (s:ByteArray) (w:World) (hs:s.size=9) (HD:Hid (Cd.AllDig s.data.toList)):
 Calls prog 281 #[.string s] w fun e w'=>e=.returned (.int .i64 ((11-Cd.isb s.data.toList%11)%11))∧w=w':=by
 have hs':s.size<=9:=by omega
 have HN:=A0 hs
 clear hs
 go_enter func281,ntmps281
 go_wp2
 go_loop [3,4] (fun t i=>∃j:Nat,j<=s.size∧i=.int .i64 (j:Int)∧t=.int .i64 (Cd.isb (s.data.toList.drop (s.size-j)))) (fun _ i=>s.size-(intOf i).toNat)
 case atStart=>exact JM
 case round=>obtain⟨j,hj,rfl,rfl⟩:=hrel;have hb:=Cd.isb_bd _ (Cd.allDig_drop HD.out (s.size-j)) (by rw[Z7];omega);rw[Z7]at hb;obtain⟨hb1,hb2⟩:=hb;by_cases hlt:j<s.size;(·have hbd:=Cd.dg_bd (HD.out _ (Zn s (s.size-1-j) B0));have HV:=A0 (fun w=>VA s j w B0 hlt HD);have hs1:Cd.isb (s.data.toList.drop (s.size-(j+1)))=Cd.isb (s.data.toList.drop (s.size-j))+(((s.data.toList.drop (s.size-j)).length:Int)+2)*Cd.dg (s[s.size-1-j]' B0):=R0 Cd.isb (JL s j hlt);rw[Z7,show s.size-(s.size-j)=j by omega]at hs1;generalize Cd.isb (s.data.toList.drop (s.size-j))=g at*;generalize Cd.dg (s[s.size-1-j]' B0)=d at*;have HS:=A0 hs1;clear hs1;obtain⟨hd1,hd2⟩:=hbd;have hm1:0<=d*((j:Int)+2):=T7 hd1 B0;have hm2:d*((j:Int)+2)<=9*11:=S8 hd2 B0 B0 B0;go_wp2_with fail;refine(HV.out _).mono ?_;rintro e w' ⟨rfl,rfl⟩;go_wp2;go_round;(case rel=>exact⟨j+1,by omega,by go_num,by rw[HS.out,Int.mul_comm d]⟩);case measure=>exact Q8);·exact xC
theorem oC (s:ByteArray) (w:World) (hs:s.size<=4096) (HD:Hid (Cd.AllDig s.data.toList)):
 Calls prog 284 #[.string s] w fun e w'=>e=.returned (.int .i64 (98-100*Cd.i97 s.data.toList%97))∧w=w':=by
 go_enter func284,ntmps284
 go_wp2
 go_loop [3,4] (fun t i=>∃k:Nat,k<=s.size∧i=.int .i64 ((k:Int)-1)∧t=.int .i64 (Cd.i97 (s.data.toList.take (s.size-k)))) (fun _ i=>(intOf i+1).toNat)
 case atStart=>exact xD
 case round=>obtain⟨k,hk,rfl,rfl⟩:=hrel;obtain⟨hb1,hb2⟩:=Cd.i97_bd (s.data.toList.take (s.size-k));by_cases h0:k=0;(·exact xE);·obtain⟨j,rfl⟩:∃j,k=j+1:=⟨k-1,by omega⟩;have hjl:j<s.size:=B0;obtain⟨hd1,hd2⟩:=Cd.dg_bd (HD.out _ (Zn s (s.size-1-j) B0));have HV:=A0 (fun w=>VA s j w B0 hjl HD);have hs1:Cd.i97 (s.data.toList.take (s.size-j))=(10*Cd.i97 (s.data.toList.take (s.size-(j+1)))+Cd.dg (s[s.size-1-j]' B0))%97:=(by rw[xB s j hjl];unfold Cd.i97;rw[Cd.foldl_snoc]);generalize Cd.i97 (s.data.toList.take (s.size-(j+1)))=g at*;exact oD
theorem ZiP (s:ByteArray) (w:World) (hs:s.size<=4096) (HD:Hid (Cd.AllDig s.data.toList)):
 Calls prog 285 #[.string s] w fun e w'=>e=.returned (.int .i64 ((12-Cd.i11 s.data.toList)%11))∧w=w':=by
 go_enter func285,ntmps285
 go_wp2
 go_loop [3,4] (fun t i=>∃k:Nat,k<=s.size∧i=.int .i64 ((k:Int)-1)∧t=.int .i64 (Cd.i11 (s.data.toList.take (s.size-k)))) (fun _ i=>(intOf i+1).toNat)
 case atStart=>exact xD
 case round=>obtain⟨k,hk,rfl,rfl⟩:=hrel;obtain⟨hb1,hb2⟩:=Cd.i11_bd (s.data.toList.take (s.size-k));by_cases h0:k=0;(·exact xE);·obtain⟨j,rfl⟩:∃j,k=j+1:=⟨k-1,by omega⟩;have hjl:j<s.size:=B0;obtain⟨hd1,hd2⟩:=Cd.dg_bd (HD.out _ (Zn s (s.size-1-j) B0));have HV:=A0 (fun w=>VA s j w B0 hjl HD);have hs1:Cd.i11 (s.data.toList.take (s.size-j))=2*(Cd.i11 (s.data.toList.take (s.size-(j+1)))+Cd.dg (s[s.size-1-j]' B0))%11:=(by rw[xB s j hjl];unfold Cd.i11;rw[Cd.foldl_snoc]);generalize Cd.i11 (s.data.toList.take (s.size-(j+1)))=g at*;exact oD
theorem oE (s:ByteArray) (w:World) (hs:s.size<=4096) (HD:Hid (∀c∈s.data.toList,0<=Cd.plc c)):
 Calls prog 286 #[.string s] w fun e w'=>e=.returned (.int .i64 (Cd.c39 s.data.toList%43))∧w=w':=by
 go_enter func286,ntmps286
 go_wp2
 go_loop [3,4] (fun t i=>∃k:Nat,k<=s.size∧i=.int .i64 (k:Int)∧t=.int .i64 (Cd.c39 (s.data.toList.take k))) (fun _ i=>s.size-(intOf i).toNat)
 case atStart=>exact XK
 case round=>obtain⟨k,hk,rfl,rfl⟩:=hrel;obtain⟨hb1,hb2⟩:=Cd.c39_bd (s.data.toList.take k) (fun c hc=>HD.out c (G4 hc));rw[XG s k hk]at hb2;by_cases hlt:k<s.size;(·have hx1:=HD.out _ (Zn s k hlt);have hx2:=(Cd.plc_bd s[k]).2;have hs1:Cd.c39 (s.data.toList.take (k+1))=Cd.c39 (s.data.toList.take k)+Cd.plc s[k]:=yG;generalize Cd.c39 (s.data.toList.take k)=g at*;have HS:=A0 hs1;clear hs1;go_wp2_with fail;refine(qT _ _).mono ?_;rintro e w' ⟨rfl,rfl⟩;exact yH);·obtain rfl:k=s.size:=B0;rw[Z3]at hb1 hb2⊢;clear hk hlt;exact C6
theorem xF (a b:Int) (w:World) (h0:0<=a) (h1:a<=9) (h2:0<=b) (h3:b<=9):
 Calls prog 294 #[.int .i64 a,.int .i64 b] w fun e w'=>e=.returned (.int .i64 (Cd.dih a b))∧w=w':=by
 by_cases ha:a<5<;>by_cases hb:b<5
 all_goals
  go_enter func294,ntmps294;go_wp2;go_ret;exact⟨Z1 (by
   unfold Cd.dih
   repeat' split
   all_goals omega),rfl⟩
end Go.Proofs.YtbngggoccndefaaGreatDoor
namespace Go.Proofs.YtbngggoccndefaaGreatDoor
open Go.Proofs.Tryz
open Go.RowKit
theorem ZoT:∀(c x:Fin 10) (h:10*c.1+x.1<(⟨#[48,51,49,55,53,57,56,54,52,50,55,48,57,50,49,53,52,56,54,51,52,50,48,54,56,55,49,51,53,57,49,55,53,48,57,56,51,52,50,54,54,49,50,51,48,52,53,57,55,56,51,54,55,52,50,48,57,53,56,49,53,56,54,57,55,50,48,49,51,52,56,57,52,53,51,54,50,48,49,55,57,52,51,56,54,49,55,50,48,53,50,53,56,49,52,51,54,55,57,48]⟩:ByteArray).size),((((⟨#[48,51,49,55,53,57,56,54,52,50,55,48,57,50,49,53,52,56,54,51,52,50,48,54,56,55,49,51,53,57,49,55,53,48,57,56,51,52,50,54,54,49,50,51,48,52,53,57,55,56,51,54,55,52,50,48,57,53,56,49,53,56,54,57,55,50,48,49,51,52,56,57,52,53,51,54,50,48,49,55,57,52,51,56,54,49,55,50,48,53,50,53,56,49,52,51,54,55,57,48]⟩:ByteArray)[10*c.1+x.1]'h).toNat:Int)-48)%256=Cd.dmAt (c.1:Int) (x.1:Int):=E2
theorem ZiS (s:ByteArray) (w:World) (hs:s.size<=4096) (HD:Hid (Cd.AllDig s.data.toList)):
 Calls prog 283 #[.string s] w fun e w'=>e=.returned (.int .i64 (Cd.dm s.data.toList))∧w=w':=by
 go_enter func283,ntmps283
 go_wp2
 go_loop [3,4] (fun t i=>∃k:Nat,k<=s.size∧i=.int .i64 ((k:Int)-1)∧t=.int .i64 (Cd.dm (s.data.toList.take (s.size-k)))) (fun _ i=>(intOf i+1).toNat)
 case atStart=>exact xD
 case round=>obtain⟨k,hk,rfl,rfl⟩:=hrel;obtain⟨hb1,hb2⟩:=Cd.dm_bd (s.data.toList.take (s.size-k)) (Cd.allDig_take HD.out _);by_cases h0:k=0;(·exact xE);·obtain⟨j,rfl⟩:∃j,k=j+1:=⟨k-1,by omega⟩;have hjl:j<s.size:=B0;obtain⟨hd1,hd2⟩:=Cd.dg_bd (HD.out _ (Zn s (s.size-1-j) B0));have HV:=A0 (fun w=>VA s j w B0 hjl HD);have hs1:Cd.dm (s.data.toList.take (s.size-j))=Cd.dmAt (Cd.dm (s.data.toList.take (s.size-(j+1)))) (Cd.dg (s[s.size-1-j]' B0)):=(by rw[xB s j hjl];unfold Cd.dm;rw[Cd.foldl_snoc]);generalize Cd.dm (s.data.toList.take (s.size-(j+1)))=g at*;generalize Cd.dg (s[s.size-1-j]' B0)=d at*;have HS:=A0 hs1;clear hs1 h0;obtain⟨c,rfl⟩:=K4 hb1;obtain⟨x,rfl⟩:=K4 hd1;go_wp2_with fail;refine(HV.out _).mono ?_;rintro e w' ⟨rfl,rfl⟩;go_wp2;go_round;(case rel=>exact⟨j,by omega,by go_num,by rw[HS.out];exact R0 _ (ZoT ⟨c,by omega⟩ ⟨x,by omega⟩ _)⟩);case measure=>simp[intOf]
theorem ZoS:∀(x:Fin 10) (h:x.1<(⟨#[49,53,55,54,50,56,51,48,57,52]⟩:ByteArray).size),((((⟨#[49,53,55,54,50,56,51,48,57,52]⟩:ByteArray)[x.1]'h).toNat:Int)-48)%256=Cd.perm (x.1:Int):=E2
theorem ZoB:∀x:Fin 10,Cd.permN 8 (x.1:Int)=(x.1:Int):=E2
theorem oF (a b:Nat) (x:Int):Cd.permN (a+b) x=Cd.permN a (Cd.permN b x):=by
 induction a with
 |zero=>rw[T4];rfl
 |succ a ih=>rw[show a+1+b=(a+b)+1 by omega];exact R0 Cd.perm ih
theorem ZiD (q:Nat) (x:Nat) (h:x<10):Cd.permN (8*q) (x:Int)=(x:Int):=by
 induction q with
 |zero=>rfl
 |succ q ih=>rw[show 8*(q+1)=8*q+8 by omega,oF,ZoB ⟨x,h⟩];exact ih
theorem ZjP (i x:Nat) (h:x<10):Cd.permN (i%8+1) (x:Int)=Cd.permN (i+1) (x:Int):=by
 have e:i+1=(i%8+1)+8*(i/8):=by omega
 have h2:Cd.permN (i+1) (x:Int)=Cd.permN ((i%8+1)+8*(i/8)) (x:Int):=R0 (fun n=>Cd.permN n (x:Int)) e;rw[h2,oF (i%8+1) (8*(i/8)),ZiD (i/8) x h]
theorem ZfO (s:ByteArray) (w:World) (hs:s.size<=4096) (HD:Hid (Cd.AllDig s.data.toList)):
 Calls prog 282 #[.string s] w fun e w'=>e=.returned (.int .i64 (Cd.inv (Cd.vh s.data.toList)))∧w=w':=by
 go_enter func282,ntmps282
 go_wp2
 go_loop [3,4] (fun t i=>∃j:Nat,j<=s.size∧i=.int .i64 (j:Int)∧t=.int .i64 (Cd.vh (s.data.toList.drop (s.size-j)))) (fun _ i=>s.size-(intOf i).toNat)
 case atStart=>exact JM
 case round=>obtain⟨j,hj,rfl,rfl⟩:=hrel;obtain⟨hb1,hb2⟩:=Cd.vh_bd _ (Cd.allDig_drop HD.out (s.size-j));by_cases hlt:j<s.size;(·obtain⟨hd1,hd2⟩:=Cd.dg_bd (HD.out _ (Zn s (s.size-1-j) B0));have HV:=A0 (fun w=>VA s j w B0 hlt HD);have hs1:Cd.vh (s.data.toList.drop (s.size-(j+1)))=Cd.dih (Cd.vh (s.data.toList.drop (s.size-j))) (Cd.permN ((s.data.toList.drop (s.size-j)).length+1) (Cd.dg (s[s.size-1-j]' B0))):=R0 Cd.vh (JL s j hlt);rw[Z7,show s.size-(s.size-j)=j by omega]at hs1;generalize Cd.vh (s.data.toList.drop (s.size-j))=g at*;generalize Cd.dg (s[s.size-1-j]' B0)=d at*;obtain⟨x,rfl⟩:=K4 hd1;rw[<-ZjP j x B0]at hs1;have HS:=A0 hs1;clear hs1;have hm:j%8<8:=UO _ B0;have hx9:x<=9:=B0;go_wp2_with fail;refine(HV.out _).mono ?_;rintro e w' ⟨rfl,rfl⟩;go_wp2;go_loop [5,6] (fun t i=>∃m:Nat,m<=j%8+1∧i=.int .i64 (m:Int)∧t=.int .i64 (Cd.permN m (x:Int))) (fun _ i=>j%8+1-(intOf i).toNat);(case atStart=>exact⟨0,by omega,rfl,rfl⟩);case round=>obtain⟨m,hm',rfl,rfl⟩:=hrel;obtain⟨hq1,hq2⟩:=Cd.permN_bd m (x:Int) B0;by_cases hml:m<j%8+1;(·have HP:Hid (Cd.permN (m+1) (x:Int)=Cd.perm (Cd.permN m (x:Int))):=rfl;generalize Cd.permN m (x:Int)=q at*;obtain⟨q,rfl⟩:=K4 hq1;have hle:(m:Int)<=(j:Int)%8:=B0;go_wp2;go_round;(case rel=>exact⟨m+1,by omega,by go_num,by rw[HP.out];exact R0 _ (ZoS ⟨q,by omega⟩ _)⟩);case measure=>exact Q8);·obtain rfl:m=j%8+1:=B0;have hgt:¬((j:Int)%8+1<=(j:Int)%8):=B0;generalize Cd.permN (j%8+1) (x:Int)=q at*;have hcast:((j%8+1:Nat):Int)=(j:Int)%8+1:=B0;rw[hcast];clear hm' hml hcast;go_wp2_with fail;refine(xF _ _ _ hb1 hb2 hq1 hq2).mono ?_;rintro e w' ⟨rfl,rfl⟩;go_wp2;go_round;(case rel=>exact⟨j+1,by omega,by go_num,by rw[HS.out]⟩);case measure=>exact Q8);·obtain rfl:j=s.size:=B0;rw[I4,R5]at hb1 hb2⊢;clear hj hlt;obtain⟨c,hc⟩:∃c,Cd.vh s.data.toList=c:=⟨_,rfl⟩;rw[hc]at hb1 hb2⊢;have HC:=A0 hc;clear hc;obtain⟨hi1,hi2⟩:=Cd.inv_bd c ⟨hb1,hb2⟩;go_wp2;go_loop [7] (fun t=>∃n:Int,0<=n∧n<=Cd.inv c∧t=.int .i64 n) (fun t=>(10-intOf t).toNat);(case atStart=>exact⟨0,by omega,by omega,rfl⟩);case round=>obtain⟨n,hn1,hn2,rfl⟩:=hrel;by_cases hn:n=Cd.inv c;(·have h0:(Cd.dih n c==0)=true:=(by rw[hn,Cd.dih_inv c ⟨hb1,hb2⟩];rfl);have HN:=A0 hn;clear hn;go_wp2_with fail;refine(xF _ _ _ hn1 B0 hb1 hb2).mono ?_;rintro e w' ⟨rfl,rfl⟩;go_wp2;go_ret;exact⟨Z1 (by rw[HN.out,HC.out]),rfl⟩);·have h0:(Cd.dih n c==0)=false:=(by rw[N0];exact yJ);have HN:Hid (n+1<=Cd.inv c):=(by show n+1<=Cd.inv c;omega);clear hn;go_wp2_with fail;refine(xF _ _ _ hn1 B0 hb1 hb2).mono ?_;exact yK
theorem ZnU (s:ByteArray) (w:World) (hs:s.size<=4096) (HD:Hid (Cd.AllDig s.data.toList)):
 Calls prog 271 #[.int .i64 1,.string s] w fun e w'=>e=.returned (.string ⟨(Cd.cmp 1 s.data.toList).toArray⟩)∧w=w':=by
 go_enter func271,ntmps271
 go_wp2_with fail
 refine(ZlB s _ hs HD).mono ?_
 rintro e w' ⟨rfl,rfl⟩
 go_wp2_with fail
 refine(XB _ _ B0 B0).mono ?_
 rintro e w' ⟨rfl,rfl⟩
 go_wp2
 go_ret
 exact⟨Z8 YE,rfl⟩
theorem ZnV (s:ByteArray) (w:World) (hs:s.size<=4096) (HD:Hid (Cd.AllDig s.data.toList)):
 Calls prog 271 #[.int .i64 2,.string s] w fun e w'=>e=.returned (.string ⟨(Cd.cmp 2 s.data.toList).toArray⟩)∧w=w':=by
 go_enter func271,ntmps271
 go_wp2_with fail
 refine(Zkg s _ hs HD).mono ?_
 rintro e w' ⟨rfl,rfl⟩
 go_wp2_with fail
 refine(XB _ _ B0 B0).mono ?_
 rintro e w' ⟨rfl,rfl⟩
 go_wp2
 go_ret
 exact⟨Z8 YE,rfl⟩
theorem ZnW (s:ByteArray) (w:World) (hs:s.size=9) (HD:Hid (Cd.AllDig s.data.toList)):
 Calls prog 271 #[.int .i64 3,.string s] w fun e w'=>e=.returned (.string ⟨(Cd.cmp 3 s.data.toList).toArray⟩)∧w=w':=by
 have HN:=A0 hs
 clear hs
 go_enter func271,ntmps271
 go_wp2_with fail
 refine(Zkf s _ HN.out HD).mono ?_
 rintro e w' ⟨rfl,rfl⟩
 go_wp2_with fail
 refine(XB _ _ B0 B0).mono ?_
 rintro e w' ⟨rfl,rfl⟩
 go_wp2
 go_ret
 exact⟨Z8 YE,rfl⟩
theorem ZnX (s:ByteArray) (w:World) (hs:s.size<=4096) (HD:Hid (Cd.AllDig s.data.toList)):
 Calls prog 271 #[.int .i64 4,.string s] w fun e w'=>e=.returned (.string ⟨(Cd.cmp 4 s.data.toList).toArray⟩)∧w=w':=by
 have hb:=Cd.inv_bd _ (Cd.vh_bd _ HD.out)
 go_enter func271,ntmps271
 go_wp2_with fail
 refine(ZfO s _ hs HD).mono ?_
 rintro e w' ⟨rfl,rfl⟩
 go_wp2_with fail
 refine(XB _ _ B0 B0).mono ?_
 rintro e w' ⟨rfl,rfl⟩
 go_wp2
 go_ret
 exact⟨Z8 YE,rfl⟩
theorem ZnY (s:ByteArray) (w:World) (hs:s.size<=4096) (HD:Hid (Cd.AllDig s.data.toList)):
 Calls prog 271 #[.int .i64 5,.string s] w fun e w'=>e=.returned (.string ⟨(Cd.cmp 5 s.data.toList).toArray⟩)∧w=w':=by
 have hb:=Cd.dm_bd _ HD.out
 go_enter func271,ntmps271
 go_wp2_with fail
 refine(ZiS s _ hs HD).mono ?_
 rintro e w' ⟨rfl,rfl⟩
 go_wp2_with fail
 refine(XB _ _ B0 B0).mono ?_
 rintro e w' ⟨rfl,rfl⟩
 go_wp2
 go_ret
 exact⟨Z8 YE,rfl⟩
theorem Zoc (s:ByteArray) (w:World) (hs:s.size<=4096) (HD:Hid (Cd.AllDig s.data.toList)):
 Calls prog 271 #[.int .i64 8,.string s] w fun e w'=>e=.returned (.string ⟨(Cd.cmp 8 s.data.toList).toArray⟩)∧w=w':=by
 have hb:=Cd.i11_bd s.data.toList
 go_enter func271,ntmps271
 go_wp2_with fail
 refine(ZiP s _ hs HD).mono ?_
 rintro e w' ⟨rfl,rfl⟩
 go_wp2_with fail
 refine(XB _ _ B0 B0).mono ?_
 rintro e w' ⟨rfl,rfl⟩
 go_wp2
 go_ret
 exact⟨Z8 YE,rfl⟩
theorem Zoa (s:ByteArray) (w:World) (hs:s.size<=4096) (HD:Hid (Cd.AllDig s.data.toList)):
 Calls prog 271 #[.int .i64 6,.string s] w fun e w'=>e=.returned (.string ⟨(Cd.cmp 6 s.data.toList).toArray⟩)∧w=w':=by
 obtain⟨hb1,hb2⟩:=Cd.i97_bd s.data.toList
 go_enter func271,ntmps271
 go_wp2_with fail
 refine(oC s _ hs HD).mono ?_
 rintro e w' ⟨rfl,rfl⟩
 go_wp2_with fail
 refine(XB _ _ B0 B0).mono ?_
 rintro e w' ⟨rfl,rfl⟩
 go_wp2_with fail
 refine(oC s _ hs HD).mono ?_
 rintro e w' ⟨rfl,rfl⟩
 go_wp2_with fail
 refine(XB _ _ B0 B0).mono ?_
 rintro e w' ⟨rfl,rfl⟩
 go_wp2
 go_ret
 exact⟨rfl,rfl⟩
theorem Zob (s:ByteArray) (w:World) (hs:s.size<=4096) (HD:Hid (∀c∈s.data.toList,0<=Cd.plc c)):
 Calls prog 271 #[.int .i64 7,.string s] w fun e w'=>e=.returned (.string ⟨(Cd.cmp 7 s.data.toList).toArray⟩)∧w=w':=by
 go_enter func271,ntmps271
 go_wp2_with fail
 refine(oE s _ hs HD).mono ?_
 rintro e w' ⟨rfl,rfl⟩
 go_wp2_with fail
 refine(oE s _ hs HD).mono ?_
 rintro e w' ⟨rfl,rfl⟩
 go_wp2
 go_ret
 exact⟨Z8 yI,rfl⟩
theorem oG (k:Nat) (s:ByteArray) (w:World) (h1:1<=k) (h8:k<=8) (hs:s.size<=4096) (hd:∀c∈s.data.toList,Cd.datB k (c.toNat:Int)=true) (h9:k=3->s.size=9):
 Calls prog 271 #[.int .i64 (k:Int),.string s] w fun e w'=>e=.returned (.string ⟨(Cd.cmp k s.data.toList).toArray⟩)∧w=w':=by
 match k,h1,h8 with
 |1,_,_=>exact ZnU s w hs (ZE hd)
 |2,_,_=>exact ZnV s w hs (ZE hd)
 |3,_,_=>exact ZnW s w (h9 rfl) (ZE hd)
 |4,_,_=>exact ZnX s w hs (ZE hd)
 |5,_,_=>exact ZnY s w hs (ZE hd)
 |6,_,_=>exact Zoa s w hs (ZE hd)
 |7,_,_=>exact Zob s w hs (fun c hc=>by have:=hd c hc;simpa[Cd.datB]using this)
 |8,_,_=>exact Zoc s w hs (ZE hd)
end Go.Proofs.YtbngggoccndefaaGreatDoor
namespace Go.Proofs.YtbngggoccndefaaGreatDoor
open Go.Proofs.Tryz
open Go.RowKit
theorem ZgF (k:Int) (s:ByteArray) (w:World) (h:k<1∨8<k):
 Calls prog 247 #[.int .i64 k,.string s] w fun e w'=>e=.returned (.tuple #[.string ⟨#[]⟩,.int .i64 1])∧w=w':=by
 by_cases h1:k<1
 ·clear h;go_enter func247,ntmps247;exact SZ
 ·have h2:8<k:=B0;clear h;go_enter func247,ntmps247;exact SZ
theorem Zm4 (k n:Nat) (h:0<n):Cd.fits k (n+Cd.size k)=(decide (k≠3) || decide (n=9)):=by
 unfold Cd.fits;by_cases h3:k=3;·subst h3;rw[C4];simp[show Cd.size 3=1 from rfl]
 ·simp[h3];omega
theorem ZgG (k:Nat) (s:ByteArray) (w:World) (hk1:1<=k) (hk8:k<=8) (hs:s.size<=9223372036854775807):
 Calls prog 247 #[.int .i64 (k:Int),.string s] w fun e w'=>e=.returned (.tuple #[.string ⟨(Cd.comp k s.data.toList).1.toArray⟩,.int .i64 (Cd.comp k s.data.toList).2])∧w=w':=by
 by_cases h0:s.size=0
 ·have HV:Hid (Cd.comp k s.data.toList=([],5)):=yQ;have hb:((s.size:Int)==0)=true:=RO;clear h0;exact oH
 ·have hne:s.data.toList≠ []:=fun h=>h0 ((XN s).1 h);have hb:((s.size:Int)==0)=false:=O2;have hpos:0<s.size:=B0;clear h0;by_cases hl:4096<s.size;(·have HV:Hid (Cd.comp k s.data.toList=([],4)):=yS;clear hne;exact oH);·have HV:Hid (Cd.comp k s.data.toList=if s.data.toList.all (fun c=>Cd.datB k c.toNat)=false then([],6)else if Cd.fits k (s.size+Cd.size k)=false then([],7)else(Cd.cmp k s.data.toList,0)):=yT;have hl':s.size<=4096:=B0;have HFT:=A0 (Zm4 k s.size hpos);clear hne hl;go_enter func247,ntmps247;go_wp2;go_loop [6] (fun i=>∃j:Nat,j<=s.size∧i=.int .i64 (j:Int)∧Hid ((s.data.toList.take j).all (fun c=>Cd.datB k c.toNat)=true)) (fun i=>s.size-(intOf i).toNat);(case atStart=>exact XK);case round=>obtain⟨j,hj,rfl,ha⟩:=hrel;by_cases hlt:j<s.size;(·have H3:=A0 (Zkb k s[j] w hk8);have HA:=A0 (OR s (fun c=>Cd.datB k c.toNat) j hlt);have HF:=A0 (OS s (fun c=>Cd.datB k c.toNat) j hlt);cases hp:Cd.datB k (s[j].toNat:Int);(·rw[hp]at H3;have HP:=A0 hp;clear hp;go_wp2_with fail;refine H3.out.mono ?_;rintro e w1 ⟨rfl,rfl⟩;go_wp2;go_ret2;exact⟨by rw[HV.out,D0 (HF.out HP.out)];rfl,rfl⟩);·rw[hp]at H3;have HP:=A0 hp;clear hp;go_wp2_with fail;refine H3.out.mono ?_;rintro e w1 ⟨rfl,rfl⟩;go_wp2;go_round;(case rel=>exact⟨j+1,by omega,by go_num,by show _=_;rw[HA.out,ha.out];simpa using HP.out⟩);case measure=>exact Q8);·obtain rfl:j=s.size:=B0;rw[Z3]at ha;have hda:=U1.1 ha.out;have HV2:=A0 (HV.out.trans (C0 (by rw[ha.out];exact Bool.noConfusion)));rw[HFT.out]at HV2;clear hj hlt;by_cases h3:k=3;(·subst h3;by_cases h9:s.size=9;(·have hb9:((s.size:Int) !=9)=false:=(by rw[h9];rfl);have HC:=A0 (oG 3 s w hk1 hk8 hl' hda (fun _=>h9));have HV3:Hid (Cd.comp 3 s.data.toList=(Cd.cmp 3 s.data.toList,0)):=(by show _=_;rw[HV2.out,h9];rfl);clear h9 hda;exact oI);·have hb9:((s.size:Int) !=9)=true:=NW;have HV3:Hid (Cd.comp 3 s.data.toList=([],7)):=(by show _=_;rw[HV2.out];simp[h9]);clear h9 hda;go_wp2;go_ret2;exact⟨by rw[HV3.out];rfl,rfl⟩);·have hb3:((k:Int)==3)=false:=O2;have HC:=A0 (oG k s w hk1 hk8 hl' hda (fun e=>absurd e h3));have HV3:Hid (Cd.comp k s.data.toList=(Cd.cmp k s.data.toList,0)):=(by show _=_;rw[HV2.out];simp[h3]);clear h3 hda;exact oI
theorem ZgE (k:Int) (s:ByteArray) (w:World) (hs:s.size<=9223372036854775807):
 Calls prog 247 #[.int .i64 k,.string s] w fun e w'=>e=.returned (.tuple #[.string ⟨(Cd.compI k s.data.toList).1.toArray⟩,.int .i64 (Cd.compI k s.data.toList).2])∧w=w':=by
 by_cases h:k<1∨8<k
 ·rw[Cd.compI,D0 h];exact ZgF k s w h
 ·rw[Cd.compI,C0 h];obtain⟨n,rfl⟩:=K4 (show 0<=k by omega);exact ZgG n s w B0 B0 hs
theorem Zl3 (k:Nat) (l:List UInt8):(Cd.cmp k l).length<=2:=by unfold Cd.cmp;split<;>simp
theorem oJ (k:Int) (l:List UInt8):(Cd.compI k l).1.length<=2:=by
 unfold Cd.compI Cd.comp
 repeat' split
 all_goals first|exact Zl3 _ _|simp
theorem ZjY (k:Int) (l:List UInt8) (h:(Cd.compI k l).2=0):l.length<=4096:=by
 unfold Cd.compI Cd.comp at h
 repeat' split at h
 all_goals first|omega|simp at h
theorem oK (k:Int) (s:ByteArray) (w:World) (hs:s.size<=9223372036854775807):
 Calls prog 197 #[.int .i64 k,.string s] w fun e w'=>e=.returned (.tuple #[.string ⟨(Cd.app k s.data.toList).1.toArray⟩,.int .i64 (Cd.app k s.data.toList).2])∧w=w':=by
 have HC:=A0 (ZgE k s w hs)
 have hl:=oJ k s.data.toList
 have hok:=ZjY k s.data.toList
 have HA:=A0 (Cd.app.eq_1 k s.data.toList)
 rw[Zd]at HA hok
 generalize Cd.compI k s.data.toList=r at*
 obtain⟨c,x⟩:=r
 dsimp only at HA hl hok HC
 by_cases h0:x=0
 ·have hok':=hok h0;subst h0;rw[D0 rfl]at HA;by_cases h4:4096<s.size+c.length;(·rw[D0 h4]at HA;clear hok;exact oL);·rw[C0 h4]at HA;have hX:=A0 (show s++⟨c.toArray⟩=(⟨(s.data.toList++c).toArray⟩:ByteArray)from Zl L0);clear hok;go_enter func197,ntmps197;go_wp2_with fail;refine HC.out.mono ?_;rintro e w1 ⟨rfl,rfl⟩;go_wp2;go_ret2;exact⟨by rw[HA.out];exact Zl7 hX.out rfl,rfl⟩
 ·rw[C0 h0]at HA;have hb:(x !=0)=true:=VQ;clear hok h0;exact oL
end Go.Proofs.YtbngggoccndefaaGreatDoor
end
section
namespace Go.Proofs.YtbngggoccndefaaGreatDoor
open Go.Proofs.Tryz
open Go.RowKit
theorem ZjK:∀i:Fin 256,(decide (65<=i.val)&&decide (i.val<=68))=decide (0<=Lib.indexByte Tw.eCb (UInt8.ofNat i.val)):=E2
theorem Zlg:∀i:Fin 256,(decide (0<=Lib.indexByte Tw.cCb (UInt8.ofNat i.val))&& !decide (0<=Lib.indexByte Tw.eCb (UInt8.ofNat i.val)))=decide (0<=Lib.indexByte Tw.dCb (UInt8.ofNat i.val)):=E2
theorem Zn3:∀i:Fin 256,(decide (48<=i.val)&&decide (i.val<=57))=decide (0<=Lib.indexByte Tw.cItf (UInt8.ofNat i.val)):=E2
theorem oM (c:UInt8) (w:World):Calls prog 195 #[.int .u8 (c.toNat:Int)] w fun e w'=>e=.returned (.bool (decide (0<=Lib.indexByte Tw.eCb c)))∧w=w':=by have HE:=A0 (ZjK ⟨c.toNat,c.toNat_lt⟩);simp only[YX]at HE;generalize decide (0<=Lib.indexByte Tw.eCb c)=r at*;go_enter func195,ntmps195;go_wp2;all_goals go_ret;refine⟨Zm ?_,rfl⟩;rw[<-HE.out,C4];simp;omega
theorem Zi5 (c:UInt8) (w:World):Calls prog 196 #[.int .i64 5,.int .u8 (c.toNat:Int)] w fun e w'=>e=.returned (.bool (decide (0<=Lib.indexByte Cd.syms c)))∧w=w':=by have HP:=A0 (fun w=>qT c w);unfold Cd.plc at HP;generalize Lib.indexByte Cd.syms c=x at*;exact oN
theorem Zi6 (c:UInt8) (w:World):Calls prog 196 #[.int .i64 6,.int .u8 (c.toNat:Int)] w fun e w'=>e=.returned (.bool (decide (0<=Lib.indexByte Tw.dCb c)))∧w=w':=by
 have HE:=Zlg ⟨c.toNat,c.toNat_lt⟩;simp only[YX]at HE;rw[<-HE];have HP:Hid (∀w,Calls prog 198 #[.string ⟨#[48,49,50,51,52,53,54,55,56,57,45,36,58,47,46,43,65,66,67,68]⟩,.int .u8 (c.toNat:Int)] w fun e w'=>e=.returned (.int .i64 (Lib.indexByte Tw.cCb c))∧w=w'):=A0 (fun w=>TQ Tw.cCb c I0 w);have HL:=A0 (fun w=>oM c w);generalize decide (0<=Lib.indexByte Tw.eCb c)=le at*;clear HE;by_cases h:0<=Lib.indexByte Tw.cCb c;·rw[V0 h];generalize Lib.indexByte Tw.cCb c=x at*;have d1:decide (0<=x)=true:=M5;cases le;all_goals go_enter func196,ntmps196;go_wp2_with fail;refine(HP.out _).mono ?_;rintro e w1 ⟨rfl,rfl⟩;go_wp2_with fail;refine(HL.out _).mono ?_;rintro e w1 ⟨rfl,rfl⟩;go_wp2;go_ret;exact⟨rfl,rfl⟩
 ·rw[X0 h];generalize Lib.indexByte Tw.cCb c=x at*;have d1:decide (0<=x)=false:=M5;exact oN
end Go.Proofs.YtbngggoccndefaaGreatDoor
namespace Go.Proofs.YtbngggoccndefaaGreatDoor
open Go.Proofs.Tryz
open Go.RowKit
theorem PY (l cs:List UInt8):Tw.only l cs=l.all fun c=>decide (0<=Lib.indexByte cs c):=rfl
theorem oO (l:List UInt8) (h0:1<=l.length) (h1:l.length<=1001) (ho:Tw.only l Cd.syms=true):(Cd.compI 7 l).2=0:=by
 have hne:l≠ []:=by intro e;rw[e]at h0;simp at h0
 have hall:(l.all fun c=>Cd.datB 7 c.toNat)=true:=by rw[U1];intro c hc;rw[PY,U1]at ho;have:=ho c hc;unfold Cd.datB Cd.plc;rw[D0 rfl,SO];exact F3
 unfold Cd.compI;rw[C0 B0];unfold Cd.comp;rw[C0 hne,C0 B0,C0 (by rw[show Int.toNat 7=7 from rfl,hall];exact Bool.noConfusion),C0 oP]
theorem oQ (l:List UInt8) (h0:1<=l.length) (h1:l.length<=1001) (ho:Tw.only l Tw.cItf=true):(Cd.compI 1 l).2=0:=by
 have hne:l≠ []:=by intro e;rw[e]at h0;simp at h0
 have hall:(l.all fun c=>Cd.datB 1 c.toNat)=true:=by rw[U1];intro c hc;rw[PY,U1]at ho;have h2:=ho c hc;have h3:=Zn3 ⟨c.toNat,c.toNat_lt⟩;simp only[YX]at h3;rw[<-h3]at h2;unfold Cd.datB Cd.isDig;rw[C0 I0];simp only[M2,Y1]at h2⊢;omega
 unfold Cd.compI;rw[C0 B0];unfold Cd.comp;rw[C0 hne,C0 B0,C0 (by rw[show Int.toNat 1=1 from rfl,hall];exact Bool.noConfusion),C0 oP]
theorem oR (l:List UInt8) (check:Bool) (h0:1<=l.length) (h1:l.length<=1000):(Tw.comp39 l check).2=if Tw.only l Cd.syms=true then 0 else 6:=by
 unfold Tw.comp39;cases ho:Tw.only l Cd.syms;·rw[D0 rfl];rfl
 ·rw[C0 Bool.noConfusion,D0 rfl];cases check;(·rw[D0 rfl]);·rw[C0 Bool.noConfusion,D0 (oO l h0 B0 ho)]
theorem xG (l:List UInt8) (check:Bool):(Tw.compCb l check).2=if l.length<2 then 7 else if Tw.only (l.take 1) Tw.eCb=false then 19 else if Tw.only (l.drop (l.length-1)) Tw.eCb=false then 20 else if Tw.only ((l.drop 1).take (l.length-2)) Tw.dCb=false then 6 else 0:=by
 unfold Tw.compCb;split;·rfl
 split;·rfl
 split;·rfl
 split;·rfl
 split<;>rfl
theorem oS (l:List UInt8) (check:Bool) (h0:1<=l.length) (h1:l.length<=1000):(Tw.compItf l check).2=if Tw.only l Tw.cItf=false then 6 else if(decide (l.length%2=1) !=check)then 7 else 0:=by
 unfold Tw.compItf;cases ho:Tw.only l Tw.cItf;·rw[D0 rfl,D0 rfl]
 ·rw[C0 (show¬(true=false)from Bool.noConfusion),C0 (show¬(true=false)from Bool.noConfusion)];cases check;(·rw[D0 rfl];by_cases h:l.length%2=0;(·rw[D0 h,C0 N4]);·rw[C0 h,D0 N4]);·rw[C0 Bool.noConfusion];have hz:(Cd.compI 1 l).2=0:=oQ l h0 B0 ho;rw[D0 hz,T0,ZiY 1 l hz,show(Cd.cmp (Int.toNat 1) l).length=1 from rfl];by_cases h:(l.length+1)%2=0;(·rw[D0 h,C0 N4]);·rw[C0 h,D0 N4]
end Go.Proofs.YtbngggoccndefaaGreatDoor
namespace Go.Proofs.YtbngggoccndefaaGreatDoor
open Go.Proofs.Tryz
open Go.RowKit
def Tw.cbc (l:List UInt8):List UInt8:=l.take (l.length-1)++[Tw.dCb.getD ((16-Tw.sumCb l%16)%16).toNat 0]++l.drop (l.length-1)
def Tw.chkK (k:Nat) (l:List UInt8):List UInt8:=match k with
 |0=>(Cd.app 7 l).1
 |1=>Tw.cbc l
 |_=>(Cd.app 1 l).1
theorem oT (k:Int) (l:List UInt8) (hl:l.length<=1001) (h:(Cd.compI k l).2=0):Cd.app k l=(l++(Cd.compI k l).1,0):=by have:=oJ k l;unfold Cd.app;rw[D0 h,C0 B0]
theorem Zjw (l:List UInt8) (hl:l.length<=1000) (h0:1<=l.length) (h:(Tw.comp39 l true).2=0):(Tw.comp39 l true).1=42::(Cd.app 7 l).1++[42]:=by
 have he:=oR l true h0 hl;rw[h]at he;have ho:Tw.only l Cd.syms=true:=by cases hh:Tw.only l Cd.syms;(·rw[hh]at he;simp at he);·rfl
 have hz:=oO l h0 B0 ho;unfold Tw.comp39;rw[ho,C0 Bool.noConfusion,C0 Bool.noConfusion,D0 hz,oT 7 l B0 hz];simp
theorem Zjx (l:List UInt8) (h:(Tw.compCb l true).2=0):(Tw.compCb l true).1=Tw.cbc l:=by
 have he:=xG l true;rw[h]at he;unfold Tw.compCb;split;·exact JN
 ·rename_i g;rw[C0 g]at he;split;(·exact JN);·rename_i g;rw[C0 g]at he;split;(·exact JN);·rename_i g;rw[C0 g]at he;split;(·exact JN);·rw[C0 Bool.noConfusion];rfl
theorem Zjy (l:List UInt8) (hl:l.length<=1000) (h0:1<=l.length) (h:(Tw.compItf l true).2=0):(Tw.compItf l true).1=(Cd.app 1 l).1:=by
 have he:=oS l true h0 hl;rw[h]at he;have ho:Tw.only l Tw.cItf=true:=by cases hh:Tw.only l Tw.cItf;(·rw[hh]at he;simp at he);·rfl
 have hz:=oQ l h0 B0 ho;unfold Tw.compItf at h⊢;rw[ho,C0 (show¬(true=false)from Bool.noConfusion),C0 (show¬(true=false)from Bool.noConfusion),D0 hz]at h⊢;rw[oT 1 l B0 hz];split;·rfl
 ·rename_i g;rw[C0 g]at h;simp at h
theorem Znz:∀v:Nat,v<16->((⟨#[48,49,50,51,52,53,54,55,56,57,45,36,58,47,46,43,65,66,67,68]⟩:ByteArray).extract v (v+1)).data.toList=[Tw.dCb.getD v 0]:=by
 intro v hv;rw[Z0];have:∀v:Fin 16,(([48,49,50,51,52,53,54,55,56,57,45,36,58,47,46,43,65,66,67,68]:List UInt8).drop v.val).take (v.val+1-v.val)=[Tw.dCb.getD v.val 0]:=by decide
 exact this ⟨v,hv⟩
theorem Zl8 {a:ByteArray} {l:List UInt8} (h1:a.data.toList=l):Ending.returned (.string a)=.returned (strV l):=by rw[<-h1];unfold strV;rw[Z4]
theorem Zjs (s:ByteArray) (w:World) (hs:s.size<=1000000):
 Calls prog 126 #[.int .i64 5,.string s] w fun e w'=>e=.returned (strV (Tw.chkK 0 s.data.toList))∧Ext w w':=by
 have HA:=A0 (fun w=>oK 7 s w B0)
 show Calls prog 126 #[.int .i64 5,.string s] w fun e w'=>e=.returned (strV (Cd.app 7 s.data.toList).1)∧Ext w w'
 unfold strV
 generalize Cd.app 7 s.data.toList=r at*
 obtain⟨r1,r2⟩:=r
 dsimp only at HA⊢
 go_enter func126,ntmps126
 go_wp2_with fail
 refine(HA.out _).mono ?_
 rintro e w1 ⟨rfl,rfl⟩
 go_wp2
 go_ret
 exact⟨rfl,Ext.refl _⟩
theorem Zju (s:ByteArray) (w:World) (hs:s.size<=1000000):
 Calls prog 126 #[.int .i64 7,.string s] w fun e w'=>e=.returned (strV (Tw.chkK 2 s.data.toList))∧Ext w w':=by
 have HA:=A0 (fun w=>oK 1 s w B0)
 show Calls prog 126 #[.int .i64 7,.string s] w fun e w'=>e=.returned (strV (Cd.app 1 s.data.toList).1)∧Ext w w'
 unfold strV
 generalize Cd.app 1 s.data.toList=r at*
 obtain⟨r1,r2⟩:=r
 dsimp only at HA⊢
 go_enter func126,ntmps126
 go_wp2_with fail
 refine(HA.out _).mono ?_
 rintro e w1 ⟨rfl,rfl⟩
 go_wp2
 go_ret
 exact⟨rfl,Ext.refl _⟩
theorem Zjt (s:ByteArray) (w:World) (hs:s.size<=1000000) (h1:1<=s.size) (HVV:Hid (∀c∈s.data.toList,0<=Lib.indexByte Tw.cCb c)):
 Calls prog 126 #[.int .i64 6,.string s] w fun e w'=>e=.returned (strV (Tw.chkK 1 s.data.toList))∧Ext w w':=by
 have HT:Hid (Tw.chkK 1 s.data.toList=_):=A0 (Tw.cbc.eq_1 s.data.toList)
 rw[Zd]at HT
 generalize Tw.chkK 1 s.data.toList=res at*
 go_enter func126,ntmps126
 go_wp2
 go_loop [10,9] (fun i x=>∃j:Nat,j<=s.size∧i=.int .i64 (j:Int)∧x=.int .i64 (Tw.sumCb (s.data.toList.take j))) (fun i _=>s.size-(intOf i).toNat)
 case atStart=>exact XK
 case round=>obtain⟨j,hj,rfl,rfl⟩:=hrel;have hb:=kU (s.data.toList.take j) (fun c hc=>HVV.out c (G4 hc));rw[XG s j hj]at hb;obtain⟨hb1,hb2⟩:=hb;by_cases hlt:j<s.size;(·have HI:Hid (∀w,Calls prog 198 #[.string ⟨#[48,49,50,51,52,53,54,55,56,57,45,36,58,47,46,43,65,66,67,68]⟩,.int .u8 (s[j].toNat:Int)] w fun e w'=>e=.returned (.int .i64 (Lib.indexByte Tw.cCb s[j]))∧w=w'):=A0 (fun w=>TQ Tw.cCb s[j] I0 w);have HSN:=A0 (kT (s.data.toList.take j) s[j]);rw[<-ZF s j hlt]at HSN;have hi0:=HVV.out s[j] (Zn s j hlt);have hi1:Lib.indexByte Tw.cCb s[j]<20:=kY;exact kZ);·obtain rfl:j=s.size:=B0;rw[Z3]at hb1 hb2⊢;clear hj hlt;generalize Tw.sumCb s.data.toList=g at*;obtain⟨v,hv,hv16⟩:∃v:Nat,(16-g%16)%16=(v:Int)∧v<16:=⟨((16-g%16)%16).toNat,by omega,by omega⟩;rw[hv,Y5]at HT;have HDC:=A0 (Znz v hv16);obtain⟨u,hu⟩:∃u:Nat,v+1=u:=⟨_,rfl⟩;rw[hu]at HDC;have hv1:(v:Int)+1=(u:Int):=B0;have hu1:v<=u:=B0;have hu2:u<=16:=B0;have hsn:((s.size:Int)-1).toNat=s.size-1:=B0;clear hu;go_wp2;go_region;go_wp2;go_ret;refine⟨?_,?_⟩;(·rw[HT.out];refine Zl8 ?_;rw[kW,Zy,HDC.out,ZD]);·exact(Ext.refl _).drewN _
end Go.Proofs.YtbngggoccndefaaGreatDoor
end
