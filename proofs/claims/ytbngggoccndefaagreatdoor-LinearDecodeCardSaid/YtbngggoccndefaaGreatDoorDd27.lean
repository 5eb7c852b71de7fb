/-
  Laid together.
-/
import Derived.Test.YtbngggoccndefaaGreatDoorDd15
set_option maxHeartbeats 16000000
set_option maxRecDepth 100000
set_option linter.unusedVariables false
set_option linter.unusedSimpArgs false
set_option linter.ambiguousOpen false
namespace Go.Proofs.YtbngggoccndefaaGreatDoor
open Go.Proofs.Tryz
section
open Go.RowKit
theorem Zf0 (l:List UInt8) (c:UInt8):∀k,k<l.length->(∀i,i<k->l.getD i 0≠c)->l.getD k 0=c->Lib.indexByte l c=(k:Int):=by
 induction l with
 |nil=>intro k hk;simp at hk
 |cons b l ih=>
  intro k hk hno he
  cases k with
  |zero=>simp only[Zpv]at he;simp[Lib.indexByte,he]
  |succ k=>have hb:¬b=c:=(by have:=hno 0 QhN;exact QfH);have:=ih k (by simpa using hk) (fun i hi=>by have:=hno (i+1) QhN;simpa using this) (by simpa using he);simp only[Lib.indexByte,Znj,ZmF hb,this];rw[ZmF QhN];omega
theorem Zho (l:List UInt8) (c:UInt8) (h:∀i,i<l.length->l.getD i 0≠c):Lib.indexByte l c= -1:=by
 induction l with
 |nil=>rfl
 |cons b l ih=>have hb:¬b=c:=(by have:=h 0 QhQ;exact QfH);have:=ih (fun i hi=>by have:=h (i+1) Qiv;simpa using this);simp[Lib.indexByte,hb,this]
theorem getDat (s:ByteArray) (i:Nat) (h:i<s.size):s.data.toList.getD i 0=s[i]:=by
 have h':i<s.data.toList.length:=by rw[Zb];exact h
 rw[ZmL,ZmG h'];rfl
theorem Zmu (a b:UInt8) (h:a≠b):((a.toNat:Int)==(b.toNat:Int))=false:=by rw[ZmJ];intro e;exact h (ZnJ.1 QhN)
theorem Zcg (s:ByteArray) (c:UInt8) (w:World) (hs:s.size<=9223372036854775807):
 Calls prog 198 #[.string s,.int .u8 (c.toNat:Int)] w fun e w'=>e=.returned (.int .i64 (Lib.indexByte s.data.toList c))∧w=w':=by
 go_enter func198,ntmps198
 go_wp2
 go_loop [5] (fun i=>∃j:Nat,j<=s.size∧i=.int .i64 (j:Int)∧Hid (∀i,i<j->s.data.toList.getD i 0≠c)) (fun i=>s.size-(intOf i).toNat)
 case atStart=>exact⟨0,ZmP _,rfl,fun i hi=>by omega⟩
 case round=>obtain⟨j,hj,rfl,hno⟩:=hrel;by_cases hlt:j<s.size;(·have hg:=getDat s j hlt;by_cases he:s[j]=c;(·have HR:=ZmE (Zf0 s.data.toList c j Qij hno.out (by rw[hg];exact he));have hb:((s[j].toNat:Int)==(c.toNat:Int))=true:=(by rw[he];simp);clear he hg;exact Qda);·(have HN:Hid (∀i,i<j+1->s.data.toList.getD i 0≠c):=fun i hi=>by by_cases e:i=j;(·subst e;rw[hg];exact he);·exact hno.out i QhN);have hb:=Zmu _ _ he;clear he hg;go_wp2;go_round;(case rel=>exact⟨j+1,by omega,by go_num,HN⟩);case measure=>exact Q8);·obtain rfl:j=s.size:=QhN;have HR:=ZmE (Zho s.data.toList c (by rw[Zb];exact hno.out));clear hj hlt;exact Qda
theorem Zd6 (c:UInt8) (w:World):
 Calls prog 198 #[.string ⟨#[48,49,50,51,52,53,54,55,56,57,65,66,67,68,69,70,71,72,73,74,75,76,77,78,79,80,81,82,83,84,85,86,87,88,89,90,45,46,32,36,47,43,37]⟩,.int .u8 (c.toNat:Int)] w fun e w'=>e=.returned (.int .i64 (Cd.plc c))∧w=w':=
 Zcg _ c w QhP
def twCutB (l:List UInt8) (i n:Nat):List Bool:=((l.drop (i*n)).take n).map fun c=>c==49
theorem Zlt (c:UInt8):(((c.toNat:Int)==49)=(c==49)):=by
 rw[Zn7,Znj,Znj];constructor;·intro h;exact ZnJ.1 (by have:(49:UInt8).toNat=49:=rfl;omega)
 ·intro h;rw[h];rfl
theorem ZdD (s:ByteArray) (i n k:Nat) (h:i*n+k<s.size) (_:k<n):((s.data.toList.drop (i*n)).take (k+1)).map (fun c=>c==49)=((s.data.toList.drop (i*n)).take k).map (fun c=>c==49)++[s[i*n+k]==49]:=by
 have hl:k<(s.data.toList.drop (i*n)).length:=by rw[Zz];omega
 rw[ZnL hl,Zn1,Zq5];rfl
def BitsR (l:List Bool) (w:World) (e:Ending) (w':World):Prop:=∃v,e=.returned v∧Own 4 w' w.heap.size v (l.map encT)∧Ext w w'
theorem ZjS (s:ByteArray) (i:Nat) (w:World) (hs:(i+1)*5<=s.size) (hi:i<=1000):
 Calls prog 200 #[.string s,.int .i64 (i:Int),.int .i64 5] w (BitsR (twCutB s.data.toList i 5) w):=by
 have HT:=ZmE (twCutB.eq_1 s.data.toList i 5)
 generalize twCutB s.data.toList i 5=res at*
 go_enter func200,ntmps200
 go_wp2
 go_loopw [8,7] (fun j c wr=>∃k:Nat,k<=5∧j=.int .i64 (k:Int)∧Own 4 wr w.heap.size c ((((s.data.toList.drop (i*5)).take k).map fun c=>c==49).map encT)∧Ext w wr) (fun j _ _=>5-(intOf j).toNat)
 case atStart=>exact Qet
 case round=>obtain⟨k,hk,rfl,hown,hxr⟩:=hrel;by_cases hlt:k<5;(·have hin:i*5+k<s.size:=QhN;have HTS:=ZmE (ZdD s i 5 k hin hlt);have hgl:(((s.data.toList.drop (i*5)).take k).map fun c=>c==49).length<=k:=Qc2;obtain⟨q,hq⟩:∃q,i*5+k=q:=⟨_,rfl⟩;have hqi:(i:Int)*5+(k:Int)=(q:Int):=QhN;have hqs:q<s.size:=QhN;have hsq:s[i*5+k]=s[q]:=(by congr 1);rw[hsq]at HTS;have d1:=Zlt s[q];generalize((s.data.toList.drop (i*5)).take k).map (fun c=>c==49)=got at*;exact Qbh);·obtain rfl:k=5:=QhN;exact Qfn
theorem Zmf (s:ByteArray) (i:Nat) (w:World) (hs:(i+1)*7<=s.size) (hi:i<=1000):
 Calls prog 200 #[.string s,.int .i64 (i:Int),.int .i64 7] w (BitsR (twCutB s.data.toList i 7) w):=by
 have HT:=ZmE (twCutB.eq_1 s.data.toList i 7)
 generalize twCutB s.data.toList i 7=res at*
 go_enter func200,ntmps200
 go_wp2
 go_loopw [8,7] (fun j c wr=>∃k:Nat,k<=7∧j=.int .i64 (k:Int)∧Own 4 wr w.heap.size c ((((s.data.toList.drop (i*7)).take k).map fun c=>c==49).map encT)∧Ext w wr) (fun j _ _=>7-(intOf j).toNat)
 case atStart=>exact Qet
 case round=>obtain⟨k,hk,rfl,hown,hxr⟩:=hrel;by_cases hlt:k<7;(·have hin:i*7+k<s.size:=QhN;have HTS:=ZmE (ZdD s i 7 k hin hlt);have hgl:(((s.data.toList.drop (i*7)).take k).map fun c=>c==49).length<=k:=Qc2;obtain⟨q,hq⟩:∃q,i*7+k=q:=⟨_,rfl⟩;have hqi:(i:Int)*7+(k:Int)=(q:Int):=QhN;have hqs:q<s.size:=QhN;have hsq:s[i*7+k]=s[q]:=(by congr 1);rw[hsq]at HTS;have d1:=Zlt s[q];generalize((s.data.toList.drop (i*7)).take k).map (fun c=>c==49)=got at*;exact Qbh);·obtain rfl:k=7:=QhN;exact Qfn
def fives:List UInt8:=[49,48,48,48,49,48,49,48,48,49,49,49,48,48,48,48,48,49,48,49,49,48,49,48,48,48,49,49,48,48,48,48,48,49,49,49,48,48,49,48,48,49,48,49,48,48,48,49,49,48]
def groups:List UInt8:=[85,86,87,88,89,90,45,46,32,42,49,50,51,52,53,54,55,56,57,48,65,66,67,68,69,70,71,72,73,74,75,76,77,78,79,80,81,82,83,84]
def narrows:List UInt8:=[37,43,47,36]
def rowA (a:Nat):List Bool:=(List.range 9).map fun i=>if i%2=0 then(twCutB fives (a%10) 5).getD (i/2) false else decide (i=2*(a/10)+1)
def rowN (a:Nat):List Bool:=(List.range 9).map fun i=>if i%2=1 then decide (i/2≠a)else false
def nineF (c:UInt8):List Bool:=if 0<=Lib.indexByte groups c then rowA (Lib.indexByte groups c).toNat else if 0<=Lib.indexByte narrows c then rowN (Lib.indexByte narrows c).toNat else []
theorem Zk7:∀i:Fin 256,Tw.patB 0 (UInt8.ofNat i.val)=if nineF (UInt8.ofNat i.val)=[]then([],6)else(nineF (UInt8.ofNat i.val),0):=Qct
theorem ZjW (w:World):(w.alloc (.cells #[.bool false,.bool false,.bool false,.bool false,.bool false,.bool false,.bool false,.bool false,.bool false] 4)).rowIs w.heap.size 4 9 (fun _=>.bool false):=
 ⟨_,Znx w _,rfl,fun i hi=>by obtain rfl|rfl|rfl|rfl|rfl|rfl|rfl|rfl|rfl:i=0∨i=1∨i=2∨i=3∨i=4∨i=5∨i=6∨i=7∨i=8:=QhN;all_goals rfl⟩
theorem Own.at5 {t:TypeId} {w:World} {B:Nat} {v:Value} {xs:List Value} (h:Own t w B v xs) (hne:xs≠ []):
 ∃g cap,v=.slice (some ⟨g,0,none⟩) xs.length cap∧B<=g∧g<w.heap.size∧∀i,i<xs.length->w.cell? ⟨g,i,none⟩=xs[i]? :=by
 have hh:=h
 rcases h.2 with⟨_,h0⟩|⟨g,cap,cur,hv,hbase,hb,h1,h2,h3,h4⟩
 ·exact absurd (Znq h0) hne
 ·refine⟨g,cap,hv,hbase,(Znn.1 hb).1,fun i hi=> ?_⟩;unfold Own at hh;rw[hv]at hh;rw[hh.cellAt i QhN]
theorem Zl0 (c:UInt8) (a:Nat) (w:World) (ha:Lib.indexByte groups c=(a:Int)) (ha4:a<40):
 Calls prog 199 #[.int .u8 (c.toNat:Int)] w fun e w'=>∃v,e=.returned v∧SlN w' w.heap.size v ((rowA a).map encT)∧Ext w w':=by
 have HP:Hid (∀w,Calls prog 198 #[.string ⟨#[85,86,87,88,89,90,45,46,32,42,49,50,51,52,53,54,55,56,57,48,65,66,67,68,69,70,71,72,73,74,75,76,77,78,79,80,81,82,83,84]⟩,.int .u8 (c.toNat:Int)] w fun e w'=>e=.returned (.int .i64 (a:Int))∧w=w'):=ZmE (fun w=>by have:=Zcg ⟨groups.toArray⟩ c w QhP;rw[show(⟨groups.toArray⟩:ByteArray).data.toList=groups from rfl,ha]at this;exact this)
 have HC:Hid (∀w,Calls prog 200 #[.string ⟨#[49,48,48,48,49,48,49,48,48,49,49,49,48,48,48,48,48,49,48,49,49,48,49,48,48,48,49,49,48,48,48,48,48,49,49,49,48,48,49,48,48,49,48,49,48,48,48,49,49,48]⟩,.int .i64 ((a:Int)%10),.int .i64 5] w (BitsR (twCutB fives (a%10) 5) w)):=ZmE (fun w=>by have:=ZjS ⟨fives.toArray⟩ (a%10) w Qjl QhN;rw[Int.natCast_emod]at this;exact this)
 have HRA:=ZmE (rowA.eq_1 a)
 have hbl:(twCutB fives (a%10) 5).length=5:=Qer
 generalize twCutB fives (a%10) 5=bars at*
 generalize rowA a=res at*
 clear ha
 have HM:=ZmE (ZjW w)
 go_enter func199,ntmps199
 go_wp2_with fail
 refine(HP.out _).mono ?_
 rintro e w1 ⟨rfl,rfl⟩
 go_wp2_with fail
 refine(HC.out _).mono ?_
 rintro e w1 ⟨v,rfl,hown,hx1⟩
 obtain⟨g,cap,rfl,hg1,hg2,hgc⟩:=hown.at5 (by intro h0;have:=Znb List.length h0;simp at this;rw[this]at hbl;simp at hbl)
 rw[ZmI,hbl]at hgc⊢
 have HGC:Hid (∀i,i<5->w1.cell? ⟨g,i,none⟩=some (.bool (bars.getD i false))):=ZmE (fun i hi=>by rw[hgc i hi,Znm,ZmL,ZmG QhN];rfl)
 have HRW:Hid (w1.rowIs w.heap.size 4 9 (fun _=>.bool false)):=ZmE (Ext.row HM.out hx1)
 have hgw:g≠w.heap.size:=by simp at hg1;omega
 have hxw:Ext w w1:=((Ext.refl w).alloc _).trans hx1
 clear hgc hown hx1 hg1 HM HP HC
 go_wp2
 go_loopw [7] (fun j wr=>∃k:Nat,k<=5∧j=.int .i64 (k:Int)∧wr.rowIs w.heap.size 4 9 (fun i=>.bool (if i%2=0∧i/2<k then bars.getD (i/2) false else false))∧Hid (∀i,i<5->wr.cell? ⟨g,i,none⟩=some (.bool (bars.getD i false)))∧Ext w wr) (fun j _=>5-(intOf j).toNat)
 case atStart=>exact⟨0,ZmP _,rfl,HRW.out.congr (fun i _=>by simp),HGC,hxw⟩
 case round=>obtain⟨k,hk,rfl,hrow,HCL,hxr⟩:=hrel;by_cases hlt:k<5;(·have hbk:=HCL.out k hlt;obtain⟨p,hp⟩:∃p,2*k=p:=⟨_,rfl⟩;have hpi:2*(k:Int)=(p:Int):=QhN;have hp9:p<9:=QhN;have hcp:=hrow.cell hp9;have hfp:=hrow.frozen p;have HR1:=ZmE ((hrow.set p (.bool (bars.getD k false))).congr (g:=fun i=>.bool (if i%2=0∧i/2<k+1 then bars.getD (i/2) false else false)) (fun i hi=>by by_cases h1:i=p;(·subst h1;rw[ZmH rfl,ZmH ⟨by omega,by omega⟩,show i/2=k by omega]);·rw[ZmF h1];by_cases h2:i%2=0∧i/2<k;(·rw[ZmH h2,ZmH ⟨h2.1,by omega⟩]);·rw[ZmF h2,ZmF QhN]));have HX1:=ZmE (hxr.setCell (p:=⟨w.heap.size,p,none⟩) (ZmK _) (.bool (bars.getD k false)));have HCL2:Hid (∀i,i<5->(wr.setCell ⟨w.heap.size,p,none⟩ (.bool (bars.getD k false))).cell? ⟨g,i,none⟩=some (.bool (bars.getD i false))):=ZmE (fun i hi=>by rw[Zo7 _ _ _ _ (by intro e;injection e with e1;exact hgw e1.symm)];exact HCL.out i hi);generalize bars.getD k false=bk at*;clear hrow HCL hp;go_wp2;go_roundw;(case rel=>exact⟨k+1,by omega,by go_num,HR1.out,HCL2,HX1.out⟩);case measure=>exact Q8);·obtain rfl:k=5:=QhN;obtain⟨q,hq⟩:∃q,2*(a/10)+1=q:=⟨_,rfl⟩;have hqi:2*((a:Int)/10)+1=(q:Int):=QhN;have hq9:q<9:=QhN;have hcq:=hrow.cell hq9;have hfq:=hrow.frozen q;have HSL:Hid (Sl (wr.setCell ⟨w.heap.size,q,none⟩ (.bool true)) (.slice (some ⟨w.heap.size,0,none⟩) 9 9) (res.map encT)):=ZmE ((Sl.row (hrow.set q (.bool true))).congr (by rw[HRA.out,Zos];refine Zpd (fun i hi=> ?_);have hi9:i<9:=Qiv;simp only[Function.comp,encT];by_cases h1:i=q;(·subst h1;rw[ZmH rfl,ZmF QhN];exact Qcm);·rw[ZmF h1];by_cases h2:i%2=0;(·rw[ZmH ⟨h2,by omega⟩,ZmH h2]);·rw[ZmF QhN,ZmF h2];congr 1;symm;simp;omega));have HX1:=ZmE (hxr.setCell (p:=⟨w.heap.size,q,none⟩) (ZmK _) (.bool true));clear hrow HCL hk hlt hq;go_wp2;go_ret;exact⟨_,rfl,SlN.of HSL.out Qjc (ZmK _),HX1.out⟩
theorem Zaq (l:List UInt8) (c:UInt8) (hl:l.length<=1000) (w:World):
 Calls prog 198 #[.string ⟨l.toArray⟩,.int .u8 (c.toNat:Int)] w fun e w'=>e=.returned (.int .i64 (Lib.indexByte l c))∧w=w':=
 Zcg ⟨l.toArray⟩ c w (by have:(⟨l.toArray⟩:ByteArray).size=l.length:=(by simp[ByteArray.size]);omega)
theorem Zl1 (c:UInt8) (w:World) (ha:Lib.indexByte groups c<0):
 Calls prog 199 #[.int .u8 (c.toNat:Int)] w fun e w'=>∃v,e=.returned v∧SlN w' w.heap.size v ((if 0<=Lib.indexByte narrows c then rowN (Lib.indexByte narrows c).toNat else []).map encT)∧Ext w w':=by
 have HP:Hid (∀w,Calls prog 198 #[.string ⟨#[85,86,87,88,89,90,45,46,32,42,49,50,51,52,53,54,55,56,57,48,65,66,67,68,69,70,71,72,73,74,75,76,77,78,79,80,81,82,83,84]⟩,.int .u8 (c.toNat:Int)] w fun e w'=>e=.returned (.int .i64 (Lib.indexByte groups c))∧w=w'):=ZmE (fun w=>Zaq groups c QhP w)
 have HQ:Hid (∀w,Calls prog 198 #[.string ⟨#[37,43,47,36]⟩,.int .u8 (c.toNat:Int)] w fun e w'=>e=.returned (.int .i64 (Lib.indexByte narrows c))∧w=w'):=ZmE (fun w=>Zaq narrows c QhP w)
 generalize Lib.indexByte groups c=x at*
 have d1:decide (0<=x)=false:=Qcm
 by_cases hn:0<=Lib.indexByte narrows c
 ·rw[ZmH hn];obtain⟨a,hna⟩:=Znv hn;have ha4:=Zai _ _ _ hna;rw[show narrows.length=4 from rfl]at ha4;rw[hna]at HQ⊢;rw[ZnW];clear hn hna;have d2:decide ((a:Int)<0)=false:=QhQ;have HRA:=ZmE (rowN.eq_1 a);generalize rowN a=res at*;have HM:=ZmE (ZjW w);go_enter func199,ntmps199;go_wp2_with fail;refine(HP.out _).mono ?_;rintro e w1 ⟨rfl,rfl⟩;go_wp2_with fail;refine(HQ.out _).mono ?_;rintro e w1 ⟨rfl,rfl⟩;clear HP HQ;go_wp2;go_loopw [9] (fun j wr=>∃k:Nat,k<=4∧j=.int .i64 (k:Int)∧wr.rowIs w.heap.size 4 9 (fun i=>.bool (if i%2=1∧i/2<k then decide (i/2≠a)else false))∧Ext w wr) (fun j _=>4-(intOf j).toNat);(case atStart=>exact⟨0,ZmP _,rfl,HM.out.congr (fun i _=>by simp),Xe⟩);case round=>obtain⟨k,hk,rfl,hrow,hxr⟩:=hrel;by_cases hlt:k<4;(·obtain⟨p,hp⟩:∃p,2*k+1=p:=⟨_,rfl⟩;have hpi:2*(k:Int)+1=(p:Int):=QhN;have hp9:p<9:=QhN;have hcp:=hrow.cell hp9;have hfp:=hrow.frozen p;obtain⟨bk,hbk⟩:∃bk,decide (k≠a)=bk:=⟨_,rfl⟩;have hne:((k:Int) !=(a:Int))=bk:=(by rw[<-hbk,Zn7,ZnA,Zna];omega);have HR1:=ZmE ((hrow.set p (.bool bk)).congr (g:=fun i=>.bool (if i%2=1∧i/2<k+1 then decide (i/2≠a)else false)) (fun i hi=>by by_cases h1:i=p;(·subst h1;rw[ZmH rfl,ZmH ⟨by omega,by omega⟩,show i/2=k by omega,hbk]);·rw[ZmF h1];by_cases h2:i%2=1∧i/2<k;(·rw[ZmH h2,ZmH ⟨h2.1,by omega⟩]);·rw[ZmF h2,ZmF QhN]));have HX1:=ZmE (hxr.setCell (p:=⟨w.heap.size,p,none⟩) (ZmK _) (.bool bk));clear hrow hp hbk;cases bk;all_goals go_wp2;go_roundw;(case rel=>exact⟨k+1,by omega,by go_num,HR1.out,HX1.out⟩);case measure=>exact Q8);·obtain rfl:k=4:=QhN;have HSL:Hid (Sl wr (.slice (some ⟨w.heap.size,0,none⟩) 9 9) (res.map encT)):=ZmE ((Sl.row hrow).congr (by rw[HRA.out,Zos];refine Zpd (fun i hi=> ?_);have hi9:i<9:=Qiv;simp only[Function.comp,encT];by_cases h2:i%2=1;(·rw[ZmH ⟨h2,by omega⟩,ZmH h2]);·rw[ZmF QhN,ZmF h2]));clear hrow hk hlt;go_wp2;go_ret;exact⟨_,rfl,SlN.of HSL.out Qjc (ZmK _),hxr⟩
 ·rw[ZmF hn];generalize Lib.indexByte narrows c=y at*;have d2:decide (y<0)=true:=Qcm;clear hn;go_enter func199,ntmps199;go_wp2_with fail;refine(HP.out _).mono ?_;rintro e w1 ⟨rfl,rfl⟩;go_wp2_with fail;refine(HQ.out _).mono ?_;rintro e w1 ⟨rfl,rfl⟩;go_wp2;go_ret;exact⟨_,rfl,SlN.nil _ _,Xe⟩
theorem Zji (c:UInt8) (w:World):
 Calls prog 199 #[.int .u8 (c.toNat:Int)] w fun e w'=>∃v,e=.returned v∧SlN w' w.heap.size v ((nineF c).map encT)∧Ext w w':=by
 unfold nineF
 by_cases h:0<=Lib.indexByte groups c
 ·rw[ZmH h];obtain⟨a,ha⟩:=Znv h;have:=Zai _ _ _ ha;rw[show groups.length=40 from rfl]at this;have h2:=Zl0 c a w ha this;rw[ha,ZnW];exact h2
 ·rw[ZmF h];exact Zl1 c w QhN
def sevens:List UInt8:=[48,48,48,48,48,49,49,48,48,48,48,49,49,48,48,48,48,49,48,48,49,49,49,48,48,48,48,48,48,48,49,48,48,49,48,49,48,48,48,48,49,48,48,49,48,48,48,48,49,48,49,48,48,49,48,48,48,49,49,48,48,48,48,49,48,48,49,48,48,48,48,48,48,49,49,48,48,48,48,49,49,48,48,48,49,48,48,48,49,48,49,49,48,49,48,48,48,49,49,48,49,48,49,48,48,48,48,49,48,49,48,49,48,48,49,49,48,49,48,48,49,48,49,48,48,49,48,48,48,49,48,49,49,48,48,48,49,49,49,48]
theorem ZjB:∀i:Fin 256,Tw.patB 1 (UInt8.ofNat i.val)=if 0<=Lib.indexByte Tw.cCb (UInt8.ofNat i.val)then(twCutB sevens (Lib.indexByte Tw.cCb (UInt8.ofNat i.val)).toNat 7,0)else([],6):=Qct
def onesFirst:List UInt8:=[49,50,51,52,53,54,55,56,57,48]
theorem Zkq:∀i:Fin 256,Tw.patB 2 (UInt8.ofNat i.val)=if 0<=Lib.indexByte onesFirst (UInt8.ofNat i.val)then(twCutB fives (Lib.indexByte onesFirst (UInt8.ofNat i.val)).toNat 5,0)else([],6):=Qct
theorem ZhI (c:UInt8):(nineF c).length<=9:=by
 unfold nineF rowA rowN
 repeat' split
 all_goals simp
def PatO (r:List Bool×Int) (w:World) (e:Ending) (w':World):Prop:=∃v,e=.returned (.tuple #[v,.int .i64 r.2])∧SlN w' w.heap.size v (r.1.map encT)∧Ext w w'
theorem ZlR (c:UInt8) (w:World):Calls prog 128 #[.int .i64 6,.int .u8 (c.toNat:Int)] w (PatO (Tw.patB 1 c) w):=by
 have HE:=ZjB ⟨c.toNat,c.toNat_lt⟩;simp only[ZA]at HE;rw[HE];have HP:Hid (∀w,Calls prog 198 #[.string ⟨#[48,49,50,51,52,53,54,55,56,57,45,36,58,47,46,43,65,66,67,68]⟩,.int .u8 (c.toNat:Int)] w fun e w'=>e=.returned (.int .i64 (Lib.indexByte Tw.cCb c))∧w=w'):=ZmE (fun w=>Zaq Tw.cCb c QhP w);by_cases h:0<=Lib.indexByte Tw.cCb c;·rw[ZmH h];obtain⟨a,ha⟩:=Znv h;have hal:=Zai _ _ _ ha;rw[show Tw.cCb.length=20 from rfl]at hal;rw[ha]at HP⊢;rw[ZnW];have hcl:(twCutB sevens a 7).length=7:=(by unfold twCutB;rw[ZmI,ZmY,Znr,show sevens.length=140 from rfl];omega);have HC:=ZmE (fun w=>Zmf ⟨sevens.toArray⟩ a w (by rw[show(⟨sevens.toArray⟩:ByteArray).size=140 from rfl];omega) QhN);rw[show(⟨sevens.toArray⟩:ByteArray).data.toList=sevens from rfl]at HC;generalize twCutB sevens a 7=bits at*;exact QbC
 ·rw[ZmF h];generalize Lib.indexByte Tw.cCb c=y at*;exact Qcz
theorem ZlS (c:UInt8) (w:World):Calls prog 128 #[.int .i64 7,.int .u8 (c.toNat:Int)] w (PatO (Tw.patB 2 c) w):=by
 have HE:=Zkq ⟨c.toNat,c.toNat_lt⟩;simp only[ZA]at HE;rw[HE];have HP:Hid (∀w,Calls prog 198 #[.string ⟨#[49,50,51,52,53,54,55,56,57,48]⟩,.int .u8 (c.toNat:Int)] w fun e w'=>e=.returned (.int .i64 (Lib.indexByte onesFirst c))∧w=w'):=ZmE (fun w=>Zaq onesFirst c QhP w);by_cases h:0<=Lib.indexByte onesFirst c;·rw[ZmH h];obtain⟨a,ha⟩:=Znv h;have hal:=Zai _ _ _ ha;rw[show onesFirst.length=10 from rfl]at hal;rw[ha]at HP⊢;rw[ZnW];have hcl:(twCutB fives a 5).length=5:=Qer;have HC:=ZmE (fun w=>ZjS ⟨fives.toArray⟩ a w Qjl QhN);rw[show(⟨fives.toArray⟩:ByteArray).data.toList=fives from rfl]at HC;generalize twCutB fives a 5=bits at*;exact QbC
 ·rw[ZmF h];generalize Lib.indexByte onesFirst c=y at*;exact Qcz
theorem ZlQ (c:UInt8) (w:World):Calls prog 128 #[.int .i64 5,.int .u8 (c.toNat:Int)] w (PatO (Tw.patB 0 c) w):=by
 have HE:=Zk7 ⟨c.toNat,c.toNat_lt⟩;simp only[ZA]at HE;rw[HE];have HN:=ZmE (fun w=>Zji c w);have hl:=ZhI c;by_cases h:nineF c=[];·rw[ZmH h];rw[h]at HN;clear h HE hl;go_enter func128,ntmps128;go_wp2_with fail;refine(HN.out _).mono ?_;rintro e w1 ⟨v,rfl,hsl,hx1⟩;obtain⟨a1,c1,rfl⟩:=hsl.1.form;simp only[ZoU,ZnE];clear hsl;go_wp2;go_ret2;exact⟨.slice none 0 0,rfl,SlN.nil _ _,hx1⟩
 ·rw[ZmF h];have hp:0<(nineF c).length:=Zob.2 h;have d1:(((nineF c).length:Int)==0)=false:=Qai;generalize nineF c=bits at*;clear h HE;go_enter func128,ntmps128;go_wp2_with fail;refine(HN.out _).mono ?_;rintro e w1 ⟨v,rfl,hsl,hx1⟩;obtain⟨a1,c1,rfl⟩:=hsl.1.form;rw[ZmI]at hsl⊢;go_wp2;go_ret2;exact⟨_,rfl,hsl,hx1⟩
def Tw.chrK (k:Nat) (p:List UInt8):UInt8×Bool:=match k with
 |0=>Tw.chr Tw.c39 Tw.p39 9 p
 |1=>Tw.chr Tw.cCb Tw.pCb 7 p
 |_=>Tw.chr Tw.cItf Tw.pItf 5 p
theorem Zam (cs ps:List UInt8) (z:Nat) (p:List UInt8):Tw.chr cs ps z p=(0,false)∨∃i,i<cs.length∧Tw.cutAt ps z i=p∧Tw.chr cs ps z p=(cs.getD i 0,true):=by
 unfold Tw.chr;split;·rename_i i h;have h1:=Zp2 h;have h2:=Zpl h;exact .inr ⟨i,by simpa using h2,by simpa using h1,rfl⟩
 ·exact .inl rfl
theorem Zgs (pb:List Bool):Tw.bits (Tw.elems pb)=pb:=by
 unfold Tw.bits Tw.elems;rw[Zos];conv=>rhs;rw[<-List.map_id pb]
 refine Zpd (fun b _=> ?_);cases b<;>rfl
theorem Zmz:∀i:Fin 256,(Tw.patB 0 (UInt8.ofNat i.val)).2=0->Tw.chr Tw.c39 Tw.p39 9 (Tw.elems (Tw.patB 0 (UInt8.ofNat i.val)).1)=(UInt8.ofNat i.val,true):=Qct
theorem Zm0:∀i:Fin 256,(Tw.patB 1 (UInt8.ofNat i.val)).2=0->Tw.chr Tw.cCb Tw.pCb 7 (Tw.elems (Tw.patB 1 (UInt8.ofNat i.val)).1)=(UInt8.ofNat i.val,true):=Qct
theorem Zm1:∀i:Fin 256,(Tw.patB 2 (UInt8.ofNat i.val)).2=0->Tw.chr Tw.cItf Tw.pItf 5 (Tw.elems (Tw.patB 2 (UInt8.ofNat i.val)).1)=(UInt8.ofNat i.val,true):=Qct
theorem Zmv:∀i:Fin 44,Tw.patB 0 (Tw.c39.getD i.val 0)=(Tw.bits (Tw.cutAt Tw.p39 9 i.val),0)∧32<=(Tw.c39.getD i.val 0).toNat∧(Tw.c39.getD i.val 0).toNat<127:=Qct
theorem Zmw:∀i:Fin 20,Tw.patB 1 (Tw.cCb.getD i.val 0)=(Tw.bits (Tw.cutAt Tw.pCb 7 i.val),0)∧32<=(Tw.cCb.getD i.val 0).toNat∧(Tw.cCb.getD i.val 0).toNat<127:=Qct
theorem Zmx:∀i:Fin 10,Tw.patB 2 (Tw.cItf.getD i.val 0)=(Tw.bits (Tw.cutAt Tw.pItf 5 i.val),0)∧32<=(Tw.cItf.getD i.val 0).toNat∧(Tw.cItf.getD i.val 0).toNat<127:=Qct
theorem Zmh (c:UInt8) (pb:List Bool) (h:Tw.patB 0 c=(pb,0)):Tw.chrK 0 (Tw.elems pb)=(c,true):=by have h1:=Zmz ⟨c.toNat,c.toNat_lt⟩;exact QeU
theorem Zl2 (pb:List Bool) (h:∀c:UInt8,32<=c.toNat->c.toNat<127->Tw.patB 0 c≠(pb,0)):(Tw.chrK 0 (Tw.elems pb)).1=0:=by
 show(Tw.chr Tw.c39 Tw.p39 9 (Tw.elems pb)).1=0;rcases Zam Tw.c39 Tw.p39 9 (Tw.elems pb)with e|⟨i,hi,hc,_⟩;·rw[e]
 ·obtain⟨a1,a2,a3⟩:=Zmv ⟨i,hi⟩;exact Qd5
theorem Zmi (c:UInt8) (pb:List Bool) (h:Tw.patB 1 c=(pb,0)):Tw.chrK 1 (Tw.elems pb)=(c,true):=by have h1:=Zm0 ⟨c.toNat,c.toNat_lt⟩;exact QeU
theorem Zl3 (pb:List Bool) (h:∀c:UInt8,32<=c.toNat->c.toNat<127->Tw.patB 1 c≠(pb,0)):(Tw.chrK 1 (Tw.elems pb)).1=0:=by
 show(Tw.chr Tw.cCb Tw.pCb 7 (Tw.elems pb)).1=0;rcases Zam Tw.cCb Tw.pCb 7 (Tw.elems pb)with e|⟨i,hi,hc,_⟩;·rw[e]
 ·obtain⟨a1,a2,a3⟩:=Zmw ⟨i,hi⟩;exact Qd5
theorem Zmj (c:UInt8) (pb:List Bool) (h:Tw.patB 2 c=(pb,0)):Tw.chrK 2 (Tw.elems pb)=(c,true):=by have h1:=Zm1 ⟨c.toNat,c.toNat_lt⟩;exact QeU
theorem Zl4 (pb:List Bool) (h:∀c:UInt8,32<=c.toNat->c.toNat<127->Tw.patB 2 c≠(pb,0)):(Tw.chrK 2 (Tw.elems pb)).1=0:=by
 show(Tw.chr Tw.cItf Tw.pItf 5 (Tw.elems pb)).1=0;rcases Zam Tw.cItf Tw.pItf 5 (Tw.elems pb)with e|⟨i,hi,hc,_⟩;·rw[e]
 ·obtain⟨a1,a2,a3⟩:=Zmx ⟨i,hi⟩;exact Qd5
theorem ZgV (q p:List Bool) (j:Nat) (hq:j<q.length) (hp:j<p.length) (h:q.take j=p.take j):decide (q.take (j+1)=p.take (j+1))=(q[j]==p[j]):=by rw[ZnL hq,ZnL hp,h,Zn7,Zna,Znj,List.append_cancel_left_eq,Zp0];exact⟨fun e=>e.1,fun e=>⟨e,rfl⟩⟩
theorem Zln (pv:Value) (pb:List Bool) (w:World) (hp:Sl w pv (pb.map encT)) (hl:pb.length<=1000):
 Calls prog 226 #[.int .i64 5,pv] w fun e w'=>e=.returned (.int .u8 ((Tw.chrK 0 (Tw.elems pb)).1.toNat:Int))∧Ext w w':=by
 obtain⟨a1,c1,rfl⟩:=hp.form
 rw[ZmI]at hp⊢
 have HP:=ZmE hp
 have HHIT:=ZmE (fun c=>Zmh c pb)
 have HNON:=ZmE (Zl2 pb)
 clear hp
 generalize Tw.chrK 0 (Tw.elems pb)=res at*
 go_enter func226,ntmps226
 go_wp2
 go_loopw [5] (fun c wr=>∃m:Nat,32<=m∧m<=127∧c=.int .i64 (m:Int)∧Hid (∀d:UInt8,32<=d.toNat->d.toNat<m->Tw.patB 0 d≠(pb,0))∧Ext w wr) (fun c _=>127-(intOf c).toNat)
 case atStart=>exact Qdi
 case round=>obtain⟨m,hm1,hm2,rfl,HB,hxr⟩:=hrel;by_cases hlt:m<127;(·have he:(UInt8.ofNat m).toNat=m:=Qcm;have HPT:=ZmE (fun w=>ZlQ (UInt8.ofNat m) w);rw[he]at HPT;have HNX:Hid (Tw.patB 0 (UInt8.ofNat m)≠(pb,0)->∀d:UInt8,32<=d.toNat->d.toNat<m+1->Tw.patB 0 d≠(pb,0)):=ZmE (fun hne d h1 h2=>by by_cases hd:d.toNat<m;(·exact HB.out d h1 hd);·have:d=UInt8.ofNat m:=ZnJ.1 (by rw[he];omega);rw[this];exact hne);have HHT:Hid (Tw.patB 0 (UInt8.ofNat m)=(pb,0)->(res.1.toNat:Int)=(m:Int)):=ZmE (fun h=>by rw[HHIT.out _ h,<-he];simp);generalize Tw.patB 0 (UInt8.ofNat m)=q at*;exact Qh);·exact Qb4
theorem Zlo (pv:Value) (pb:List Bool) (w:World) (hp:Sl w pv (pb.map encT)) (hl:pb.length<=1000):
 Calls prog 226 #[.int .i64 6,pv] w fun e w'=>e=.returned (.int .u8 ((Tw.chrK 1 (Tw.elems pb)).1.toNat:Int))∧Ext w w':=by
 obtain⟨a1,c1,rfl⟩:=hp.form
 rw[ZmI]at hp⊢
 have HP:=ZmE hp
 have HHIT:=ZmE (fun c=>Zmi c pb)
 have HNON:=ZmE (Zl3 pb)
 clear hp
 generalize Tw.chrK 1 (Tw.elems pb)=res at*
 go_enter func226,ntmps226
 go_wp2
 go_loopw [5] (fun c wr=>∃m:Nat,32<=m∧m<=127∧c=.int .i64 (m:Int)∧Hid (∀d:UInt8,32<=d.toNat->d.toNat<m->Tw.patB 1 d≠(pb,0))∧Ext w wr) (fun c _=>127-(intOf c).toNat)
 case atStart=>exact Qdi
 case round=>obtain⟨m,hm1,hm2,rfl,HB,hxr⟩:=hrel;by_cases hlt:m<127;(·have he:(UInt8.ofNat m).toNat=m:=Qcm;have HPT:=ZmE (fun w=>ZlR (UInt8.ofNat m) w);rw[he]at HPT;have HNX:Hid (Tw.patB 1 (UInt8.ofNat m)≠(pb,0)->∀d:UInt8,32<=d.toNat->d.toNat<m+1->Tw.patB 1 d≠(pb,0)):=ZmE (fun hne d h1 h2=>by by_cases hd:d.toNat<m;(·exact HB.out d h1 hd);·have:d=UInt8.ofNat m:=ZnJ.1 (by rw[he];omega);rw[this];exact hne);have HHT:Hid (Tw.patB 1 (UInt8.ofNat m)=(pb,0)->(res.1.toNat:Int)=(m:Int)):=ZmE (fun h=>by rw[HHIT.out _ h,<-he];simp);generalize Tw.patB 1 (UInt8.ofNat m)=q at*;exact Qh);·exact Qb4
theorem Zh2 (pv:Value) (pb:List Bool) (w:World) (hp:Sl w pv (pb.map encT)) (hl:pb.length<=1000):
 Calls prog 226 #[.int .i64 7,pv] w fun e w'=>e=.returned (.int .u8 ((Tw.chrK 2 (Tw.elems pb)).1.toNat:Int))∧Ext w w':=by
 obtain⟨a1,c1,rfl⟩:=hp.form
 rw[ZmI]at hp⊢
 have HP:=ZmE hp
 have HHIT:=ZmE (fun c=>Zmj c pb)
 have HNON:=ZmE (Zl4 pb)
 clear hp
 generalize Tw.chrK 2 (Tw.elems pb)=res at*
 go_enter func226,ntmps226
 go_wp2
 go_loopw [5] (fun c wr=>∃m:Nat,32<=m∧m<=127∧c=.int .i64 (m:Int)∧Hid (∀d:UInt8,32<=d.toNat->d.toNat<m->Tw.patB 2 d≠(pb,0))∧Ext w wr) (fun c _=>127-(intOf c).toNat)
 case atStart=>exact Qdi
 case round=>obtain⟨m,hm1,hm2,rfl,HB,hxr⟩:=hrel;by_cases hlt:m<127;(·have he:(UInt8.ofNat m).toNat=m:=Qcm;have HPT:=ZmE (fun w=>ZlS (UInt8.ofNat m) w);rw[he]at HPT;have HNX:Hid (Tw.patB 2 (UInt8.ofNat m)≠(pb,0)->∀d:UInt8,32<=d.toNat->d.toNat<m+1->Tw.patB 2 d≠(pb,0)):=ZmE (fun hne d h1 h2=>by by_cases hd:d.toNat<m;(·exact HB.out d h1 hd);·have:d=UInt8.ofNat m:=ZnJ.1 (by rw[he];omega);rw[this];exact hne);have HHT:Hid (Tw.patB 2 (UInt8.ofNat m)=(pb,0)->(res.1.toNat:Int)=(m:Int)):=ZmE (fun h=>by rw[HHIT.out _ h,<-he];simp);generalize Tw.patB 2 (UInt8.ofNat m)=q at*;exact Qh);·exact Qb4
end
end Go.Proofs.YtbngggoccndefaaGreatDoor
