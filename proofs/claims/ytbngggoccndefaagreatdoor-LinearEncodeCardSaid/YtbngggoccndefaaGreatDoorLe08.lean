/-
  Laid.
-/
import Derived.Test.YtbngggoccndefaaGreatDoorLe07
set_option maxHeartbeats 8000000
set_option maxRecDepth 100000
set_option linter.all false
namespace Go.Proofs.Enc
open Go.Proofs.Tryz
section
open Go.RowKit
def ZkF:∀v:Fin 10,0<=Lib.indexByte Tw.IH (Cd.chr ((v.val:Nat):Int)):=L2
def NY(c:UInt8)(h:0<=Lib.indexByte Tw.IH c):(Tw.pat Tw.IH Tw.Cg 5 c).1.length=5:=by unfold Tw.pat;rw[D0 C0];obtain⟨n,hn⟩:=C4 h;have:=YT _ _ _ hn;have h4:Tw.IH.length=10:=rfl;have h5:Tw.Cg.length=50:=rfl;unfold Tw.cutAt;rw[hn,H6,J1,X1,h5];omega
def EY(k:Int)(l:List UInt8)(h:(Cd.compI k l).2=0):(Cd.compI k l).1=Cd.cmp k.toNat l:=by
 unfold Cd.compI at h⊢;split;·rename_i h1;rw[G0 h1]at h;simp at h
 .rename_i h1
  rw[D0 h1]at h
  unfold Cd.comp at h⊢
  repeat' split
  all_goals first|rfl|(simp_all;done)
def uI(l:List UInt8):∀c∈Cd.cmp 1 l,0<=Lib.indexByte Tw.IH c:=by intro c hc;simp only[Cd.cmp,D3]at hc;subst hc;obtain⟨v,hv,aGn⟩:∃v:Nat,(10-(Cd.gsP l).1%10)%10=(v:Int)/\v<10:=⟨((10-(Cd.gsP l).1%10)%10).toNat,by omega,by omega⟩;rw[hv];exact ZkF ⟨v,aGn⟩
def uJ(k:Nat)(l:List UInt8)(check:Bool)(hl:l.length<=1000)(h:(Tw.IJ k l check).2=0):ES k (Tw.IJ k l check).1:=by
 have hc7:=UP 7 l;have Am:=UP 1 l
 match k with
 |0=>
  refine⟨?_,λh=>by omega⟩
  show(Tw.comp39 l check).1.length<=10000
  unfold Tw.comp39
  repeat' split
  all_goals simp only[S0,B1,I3];omega
 |1=>
  refine⟨?_,λh=>by omega⟩
  show(Tw.compCb l check).1.length<=10000
  unfold Tw.compCb
  repeat' split
  all_goals simp only[S0,B1,I3,J1,X1];omega
 |k+2=>have h0:(Tw.compItf l check).2=0:=h;show ES (k+2) (Tw.compItf l check).1;unfold Tw.compItf at h0⊢;by_cases ho:Tw.only l Tw.IH=false;(·rw[G0 ho]at h0;simp at h0);·rw[D0 ho]at h0⊢;rw[WV]at ho;have hd:∀c∈l,0<=Lib.indexByte Tw.IH c:=(by intro c hc;unfold Tw.only at ho;rw[M1]at ho;simpa using ho c hc);by_cases Sd:check=false;(·rw[G0 Sd]at h0⊢;by_cases he:l.length%2=0;(·rw[G0 he]at h0⊢;exact⟨by simp only;omega,λ_=>⟨he,λc hc=>NY c (hd c hc)⟩⟩);·rw[D0 he]at h0;simp at h0);·rw[D0 Sd]at h0⊢;by_cases hz:(Cd.compI 1 l).2=0;(·rw[G0 hz]at h0⊢;have hcm:=EY 1 l hz;rw[hcm]at h0 Am⊢;by_cases he:(l++Cd.cmp (Int.toNat 1) l).length%2=0;(·rw[G0 he]at h0⊢;refine⟨by simp only[S0];omega,λ_=>⟨he,λc hc=>NY c ?_⟩⟩;rw[E3]at hc;rcases hc with hc|hc;(·exact hd c hc);·exact uI l c hc);·rw[D0 he]at h0;simp at h0);·rw[D0 hz]at h0;exact absurd h0 hz
def NZ:∀l:List UInt8,(Tw.drawPairs l).length<=10*l.length
 | []=>by simp[Tw.drawPairs]
 | [_]=>by simp[Tw.drawPairs]
 |a::b::l=>by have h1:=NZ l;have h2:=NR (Tw.pat Tw.IH Tw.Cg 5 a).1 (Tw.pat Tw.IH Tw.Cg 5 b).1;have h3:=EW Tw.IH Tw.Cg 5 a C0;simp only[Tw.drawPairs,S0,B1];omega
def EZ(k:Nat)(l:List UInt8):(Tw.Er k l).length<=10*l.length+10:=by
 unfold Tw.Er;split;·exact uK
 .exact uK
 .have:=NZ l;simp only[Tw.drawItf,S0,B1,I3];omega
def EncR(r:List Int×Int)(w:World)(e:Ending)(w':World):Prop:=∃v,e=.returned (.tuple #[v,.int .i64 r.2])/\Sl w' v (r.1.map encI)/\Ext w w'
def Zju(r:Int)(s:ByteArray):(List.range s.size).map (λk=>encI (if s.data.toList.getD k 0=119 then r else 1))=(Tw.widths r s.data.toList).map encI:=by
 apply V9;·simp[Tw.widths]
 .intro i h1 h2;simp[Tw.widths]at h1 h2⊢;simp[h1]
def Zlj(k:Nat)(kind:Int)(s:ByteArray)(check:Bool)(p5:ByteArray)(w:World)(hs:s.size<=9223372036854775807)(HF:Hid (∀w,Calls prog 62 #[.int .i64 kind] w (WW k w)))
 {res:List Int×Int}(HT:Hid (res=if s.data.toList=[]then([],5)else if 1000<s.size then([],4)else if(Tw.IJ k s.data.toList check).2≠0 then([],(Tw.IJ k s.data.toList check).2)else(Tw.widths 2 (Tw.Er k (Tw.IJ k s.data.toList check).1),0))):
 Calls prog 20 #[.int .i64 kind,.string s,.agg #[.int .i64 2,.bool check,.string p5]] w (EncR res w):=by
 by_cases h0:s.data.toList=[]
 .exact uL
 .rw[D0 h0]at HT;have Yp:s.toList.isEmpty=false:=uM;have hpz:¬s.toList=[]:=(by rw[I2];exact h0);clear h0;by_cases hl:1000<s.size;(·rw[G0 hl]at HT;exact Qz);·rw[D0 hl]at HT;have Ih:s.size<=1000:=C0;clear hl;go_enter func20,ntmps20;go_wp2_with fail;refine(HF.out _).mono ?_;rintro e w1 ⟨B,F,rfl,hF,b7⟩;obtain⟨hc,Gg⟩:=b7.cells;have hz:w.heap.size<w1.heap.size:=O7;unfold ZJ.val;have aCQ:∀xs w,(callFunc F.mf xs).run prog w=.ok (.enter F.mf xs) w:=hF.Tx.2.2.1;have aDp:∀xs w,(callFunc F.df xs).run prog w=.ok (.enter F.df xs) w:=hF.Tx.2.2.2.1;have HC:=B0 (λw' hx=>hF.comp w' hx s check C0);have HD0:=B0 (uJ k s.data.toList check (by rw[Za];exact Ih));have HD:=B0 (λw' hx t hd=>hF.draw w' hx t hd);clear hF;by_cases he:(Tw.IJ k s.data.toList check).2≠0;(·exact uN);·rw[D0 he]at HT;have Mh:(Tw.IJ k s.data.toList check).2=0:=L5 he;have Cp:=B0 (HD0.out Mh);rw[Mh]at HC;clear he Mh HD0;generalize(Tw.IJ k s.data.toList check).1=c1 at*;obtain⟨C,rfl⟩:∃D:ByteArray,c1=D.data.toList:=⟨⟨c1.toArray⟩,by simp⟩;simp only[strV,Z0]at HC;have Oc:=EZ k C.data.toList;have x8:=Cp.out.1;have Ga:=B0 (λw' hx=>HD.out w' hx C Cp.out);generalize Tw.Er k C.data.toList=el at*;obtain⟨E,rfl⟩:∃D:ByteArray,el=D.data.toList:=⟨⟨el.toArray⟩,by simp⟩;simp only[strV,Z0]at Ga;simp only[Za]at Oc x8;have hel:E.size<=1000000:=C0;have IT:=J7 (P:=prog) 43 3 (.int .i64 0) 8 underlying43 N0 rfl .i64 .i64 E.size C0 C0;clear HD Cp Oc x8;go_wp2_with fail;refine(HC.out _ (Z3.Ll _ Xe)).mono ?_;rintro e w2 ⟨rfl,j0⟩;obtain⟨IS,aBc⟩:=j0.cells;have x9:w1.heap.size<w2.heap.size:=DA;go_wp2_with fail;refine(Ga.out _ (Z3.Ll _ (((Ext.refl w1).alloc _).trans j0))).mono ?_;rintro e w3 ⟨rfl,j4⟩;have Yx:Ext (w.alloc (.cells #[.int .i64 2,.bool check,.string p5] 24)) w3:=(((b7.alloc _).trans j0).trans j4);have F0:Hid (w3.cell? ⟨w.heap.size,0,none⟩=some (.int .i64 2)):=B0 uO;have Ml:w.heap.size<w3.heap.size:=(by have:=Yx.size;exact W6);have n8:Ext w w3:=((Ext.refl w).alloc _).trans Yx;clear hc Gg IS aBc b7 j0 j4 Yx;go_wp2;clear IT;go_loopw [58] (λi wr=>∃j:Nat,j<=E.size/\i=.int .i64 (j:Int)/\wr.rowIs w3.heap.size 3 E.size (λk=>if k<j then encI (if E.data.toList.getD k 0=119 then 2 else 1)else .int .i64 0)/\Ext w3 wr) (λi _=>E.size-(intOf i).toNat);(case atStart=>exact uP);case round=>obtain⟨j,hj,rfl,k9,j3⟩:=hrel;by_cases hlt:j<E.size;(·have Nf:=k9.cell hlt;have hfj:=k9.frozen j;have Ey:wr.cell? ⟨w.heap.size,0,none⟩=some (.int .i64 2):=ER;have k7:w3.heap.size≠w.heap.size:=C0;by_cases Kw:E[j]=119;(·have d1:((E[j].toNat:Int)==119)=true:=(by rw[EX,Kw];rfl);have p6:=B0 (((k9.set j (.int .i64 1)).set j (.int .i64 2)).congr (g:=λk=>if k<j+1 then encI (if E.data.toList.getD k 0=119 then 2 else 1)else .int .i64 0) (λk hk=>by by_cases h1:k=j;(·exact uQ);·rw[D0 h1,D0 h1];by_cases h2:k<j;(·exact YV);·rw[D0 h2,D0 (show¬k<j+1 by omega)]));have IK:=B0 ((j3.setCell (p:=⟨w3.heap.size,j,none⟩) (J0 _) (.int .i64 1)).setCell (p:=⟨w3.heap.size,j,none⟩) (J0 _) (.int .i64 2));clear k9 Kw;exact Q1);·have d1:((E[j].toNat:Int)==119)=false:=uR;have p6:=B0 ((k9.set j (.int .i64 1)).congr (g:=λk=>if k<j+1 then encI (if E.data.toList.getD k 0=119 then 2 else 1)else .int .i64 0) (λk hk=>by by_cases h1:k=j;(·exact uS);·rw[D0 h1];by_cases h2:k<j;(·exact YV);·rw[D0 h2,D0 (show¬k<j+1 by omega)]));exact uT);·exact uU
def Zlk(k:Nat)(kind:Int)(s:ByteArray)(check:Bool)(p5:ByteArray)(w:World)(hs:s.size<=9223372036854775807)(HF:Hid (∀w,Calls prog 62 #[.int .i64 kind] w (WW k w)))
 {res:List Int×Int}(HT:Hid (res=if s.data.toList=[]then([],5)else if 1000<s.size then([],4)else if(Tw.IJ k s.data.toList check).2≠0 then([],(Tw.IJ k s.data.toList check).2)else(Tw.widths 3 (Tw.Er k (Tw.IJ k s.data.toList check).1),0))):
 Calls prog 20 #[.int .i64 kind,.string s,.agg #[.int .i64 3,.bool check,.string p5]] w (EncR res w):=by
 by_cases h0:s.data.toList=[]
 .exact uL
 .rw[D0 h0]at HT;have Yp:s.toList.isEmpty=false:=uM;have hpz:¬s.toList=[]:=(by rw[I2];exact h0);clear h0;by_cases hl:1000<s.size;(·rw[G0 hl]at HT;exact Qz);·rw[D0 hl]at HT;have Ih:s.size<=1000:=C0;clear hl;go_enter func20,ntmps20;go_wp2_with fail;refine(HF.out _).mono ?_;rintro e w1 ⟨B,F,rfl,hF,b7⟩;obtain⟨hc,Gg⟩:=b7.cells;have hz:w.heap.size<w1.heap.size:=O7;unfold ZJ.val;have aCQ:∀xs w,(callFunc F.mf xs).run prog w=.ok (.enter F.mf xs) w:=hF.Tx.2.2.1;have aDp:∀xs w,(callFunc F.df xs).run prog w=.ok (.enter F.df xs) w:=hF.Tx.2.2.2.1;have HC:=B0 (λw' hx=>hF.comp w' hx s check C0);have HD0:=B0 (uJ k s.data.toList check (by rw[Za];exact Ih));have HD:=B0 (λw' hx t hd=>hF.draw w' hx t hd);clear hF;by_cases he:(Tw.IJ k s.data.toList check).2≠0;(·exact uN);·rw[D0 he]at HT;have Mh:(Tw.IJ k s.data.toList check).2=0:=L5 he;have Cp:=B0 (HD0.out Mh);rw[Mh]at HC;clear he Mh HD0;generalize(Tw.IJ k s.data.toList check).1=c1 at*;obtain⟨C,rfl⟩:∃D:ByteArray,c1=D.data.toList:=⟨⟨c1.toArray⟩,by simp⟩;simp only[strV,Z0]at HC;have Oc:=EZ k C.data.toList;have x8:=Cp.out.1;have Ga:=B0 (λw' hx=>HD.out w' hx C Cp.out);generalize Tw.Er k C.data.toList=el at*;obtain⟨E,rfl⟩:∃D:ByteArray,el=D.data.toList:=⟨⟨el.toArray⟩,by simp⟩;simp only[strV,Z0]at Ga;simp only[Za]at Oc x8;have hel:E.size<=1000000:=C0;have IT:=J7 (P:=prog) 43 3 (.int .i64 0) 8 underlying43 N0 rfl .i64 .i64 E.size C0 C0;clear HD Cp Oc x8;go_wp2_with fail;refine(HC.out _ (Z3.Ll _ Xe)).mono ?_;rintro e w2 ⟨rfl,j0⟩;obtain⟨IS,aBc⟩:=j0.cells;have x9:w1.heap.size<w2.heap.size:=DA;go_wp2_with fail;refine(Ga.out _ (Z3.Ll _ (((Ext.refl w1).alloc _).trans j0))).mono ?_;rintro e w3 ⟨rfl,j4⟩;have Yx:Ext (w.alloc (.cells #[.int .i64 3,.bool check,.string p5] 24)) w3:=(((b7.alloc _).trans j0).trans j4);have F0:Hid (w3.cell? ⟨w.heap.size,0,none⟩=some (.int .i64 3)):=B0 uO;have Ml:w.heap.size<w3.heap.size:=(by have:=Yx.size;exact W6);have n8:Ext w w3:=((Ext.refl w).alloc _).trans Yx;clear hc Gg IS aBc b7 j0 j4 Yx;go_wp2;clear IT;go_loopw [58] (λi wr=>∃j:Nat,j<=E.size/\i=.int .i64 (j:Int)/\wr.rowIs w3.heap.size 3 E.size (λk=>if k<j then encI (if E.data.toList.getD k 0=119 then 3 else 1)else .int .i64 0)/\Ext w3 wr) (λi _=>E.size-(intOf i).toNat);(case atStart=>exact uP);case round=>obtain⟨j,hj,rfl,k9,j3⟩:=hrel;by_cases hlt:j<E.size;(·have Nf:=k9.cell hlt;have hfj:=k9.frozen j;have Ey:wr.cell? ⟨w.heap.size,0,none⟩=some (.int .i64 3):=ER;have k7:w3.heap.size≠w.heap.size:=C0;by_cases Kw:E[j]=119;(·have d1:((E[j].toNat:Int)==119)=true:=(by rw[EX,Kw];rfl);have p6:=B0 (((k9.set j (.int .i64 1)).set j (.int .i64 3)).congr (g:=λk=>if k<j+1 then encI (if E.data.toList.getD k 0=119 then 3 else 1)else .int .i64 0) (λk hk=>by by_cases h1:k=j;(·exact uQ);·rw[D0 h1,D0 h1];by_cases h2:k<j;(·exact YV);·rw[D0 h2,D0 (show¬k<j+1 by omega)]));have IK:=B0 ((j3.setCell (p:=⟨w3.heap.size,j,none⟩) (J0 _) (.int .i64 1)).setCell (p:=⟨w3.heap.size,j,none⟩) (J0 _) (.int .i64 3));clear k9 Kw;exact Q1);·have d1:((E[j].toNat:Int)==119)=false:=uR;have p6:=B0 ((k9.set j (.int .i64 1)).congr (g:=λk=>if k<j+1 then encI (if E.data.toList.getD k 0=119 then 3 else 1)else .int .i64 0) (λk hk=>by by_cases h1:k=j;(·exact uS);·rw[D0 h1];by_cases h2:k<j;(·exact YV);·rw[D0 h2,D0 (show¬k<j+1 by omega)]));exact uT);·exact uU
def DB(k:Nat)(kind:Int)(s:ByteArray)(r:Int)(check:Bool)(p5:ByteArray)(w:World)(hs:s.size<=9223372036854775807)(hf:∀w,Calls prog 62 #[.int .i64 kind] w (WW k w)):
 Calls prog 20 #[.int .i64 kind,.string s,.agg #[.int .i64 r,.bool check,.string p5]] w (EncR (Tw.encK k s.data.toList r check) w):=by
 have HF:=B0 hf;have HT:=B0 (Tw.encK.eq_1 k s.data.toList r check);rw[Za]at HT;generalize Tw.encK k s.data.toList r check=res at*;clear hf;by_cases hr:r≠2/\r≠3
 .rw[G0 hr]at HT;have d1:(r !=2)=true:=R1.2 hr.1;have d2:(r !=3)=true:=R1.2 hr.2;clear hr;exact Qz
 .rw[D0 hr]at HT;have Ui:r=2\/r=3:=C0;clear hr;rcases Ui with rfl|rfl;(·exact Zlj k kind s check p5 w hs HF HT);·exact Zlk k kind s check p5 w hs HF HT
def ZfU(l:List Int):∀a:Int,l.foldl min a=a\/l.foldl min a∈l:=by
 induction l with
 |nil=>intro a;simp
 |cons y l ih=>intro a;simp only[N3];rcases ih (min a y)with h|h;(·rw[h];rcases Int.le_total a y with h1|h1;(·exact .inl C0);·exact .inr (by rw[show min a y=y by omega];exact C2 ..));·exact .inr (Y1 _ h)
def ZfT(l:List Int):∀a:Int,l.foldl max a=a\/l.foldl max a∈l:=by
 induction l with
 |nil=>intro a;simp
 |cons y l ih=>intro a;simp only[N3];rcases ih (max a y)with h|h;(·rw[h];rcases Int.le_total a y with h1|h1;(·exact .inr (by rw[show max a y=y by omega];exact C2 ..));·exact .inl C0);·exact .inr (Y1 _ h)
def uV{ws:List Int}(h:ws≠ []):ws.getD 0 0∈ws:=by
 cases ws with
 |nil=>exact absurd rfl h
 |cons y l=>simp
def ZnY{ws:List Int}(h:ws≠ []):Tw.lo ws∈ws:=by
 unfold Tw.lo;rcases ZfU ws (ws.getD 0 0)with e|e;·rw[e];exact uV h
 .exact e
def ZnQ{ws:List Int}(h:ws≠ []):Tw.hi ws∈ws:=by
 unfold Tw.hi;rcases ZfT ws (ws.getD 0 0)with e|e;·rw[e];exact uV h
 .exact e
def RV{ws:List Int}(h:Tw.inRng ws=true){x:Int}(hx:x∈ws):1<=x/\x<=65536:=by unfold Tw.inRng at h;rw[M1]at h;have:=h x hx;exact I6
def ZoQ(ws l:List Int)(h:∀x∈l,1<=x/\x<=65536)(h2:1<=Tw.hi ws/\Tw.hi ws<=65536):1<=Tw.leastWide ws l/\Tw.leastWide ws l<=65536:=by
 unfold Tw.leastWide;generalize Tw.hi ws=a at h2⊢
 induction l generalizing a with
 |nil=>exact h2
 |cons y l ih=>exact uW
def ZoR(ws l:List Int)(h:∀x∈l,1<=x/\x<=65536)(h2:1<=Tw.lo ws/\Tw.lo ws<=65536):1<=Tw.mostNarrow ws l/\Tw.mostNarrow ws l<=65536:=by
 unfold Tw.mostNarrow;generalize Tw.lo ws=a at h2⊢
 induction l generalizing a with
 |nil=>exact h2
 |cons y l ih=>exact uW
def uX(ws:List Int)(j:Nat)(h:j<ws.length):ws.take (j+1)=ws.take j++[ws.getD j 0]:=by rw[L9 h,F1,P0 h];rfl
def uY(ws:List Int)(j:Nat)(h:j<ws.length):ws.getD j 0∈ws:=by rw[F1,P0 h];exact YL _
def Znh(ws l:List Int)(x:Int):Tw.leastWide ws (l++[x])=if Tw.Tf ws x then min (Tw.leastWide ws l) x else Tw.leastWide ws l:=by simp[Tw.leastWide]
def Znk(ws l:List Int)(x:Int):Tw.mostNarrow ws (l++[x])=if Tw.Tf ws x then Tw.mostNarrow ws l else max (Tw.mostNarrow ws l) x:=by simp[Tw.mostNarrow]
def ZoP(ws:List Int):Tw.lo ws=Lib.minOf ws:=by cases ws<;>rfl
def ZoO(ws:List Int):Tw.hi ws=Lib.maxOf ws:=by cases ws<;>rfl
def uZ(b off cap:Nat)(ws:List Int)(w:World)(hc:∀j,j<ws.length->w.cell? ⟨b,off+j,none⟩=some (.int .i64 (ws.getD j 0)))(hl:ws.length<=1000000000):
 Calls prog 105 #[.slice (some ⟨b,off,none⟩) ws.length cap] w λe w'=>e=.returned (.bool (Tw.inRng ws))/\w=w':=by
 have HC:=B0 hc;have HT:=B0 (Tw.inRng.eq_1 ws);generalize Tw.inRng ws=res at*;clear hc;go_enter func105,ntmps105;go_wp2;go_loop [7] (λi=>∃j:Nat,j<=ws.length/\i=.int .i64 (j:Int)/\Hid (∀x∈ws.take j,1<=x/\x<=65536)) (λi=>ws.length-(intOf i).toNat)
 case atStart=>exact DC
 case round=>obtain⟨j,hj,rfl,HB⟩:=hrel;by_cases hlt:j<ws.length;(·have Nf:=HC.out j hlt;have HM:=B0 (uY ws j hlt);have Jh:=B0 (uX ws j hlt);generalize ws.getD j 0=x at*;by_cases hx:1<=x/\x<=65536;(·obtain⟨b7,j0⟩:=hx;go_wp2;go_round;(case rel=>exact⟨j+1,by omega,by go_num,B0 (λy hy=>by rw[Jh.out,E3]at hy;rcases hy with h|h;(·exact HB.out y h);·rw[D3]at h;subst h;omega)⟩);case measure=>exact QH);·have HN:Hid (res=false):=B0 (by rw[HT.out,WT];exact⟨x,HM.out,by simp;omega⟩);by_cases h1:x<1;(·clear hx;exact DD);·have h2:65536<x:=C0;clear hx;exact DD);·obtain rfl:j=ws.length:=C0;rw[J6]at HB;have HN:Hid (res=true):=B0 (by rw[HT.out,M1];intro x hx;simpa using HB.out x hx);clear hj hlt;exact DD
def ZoK(r:List Bool×Int)(w:World)(e:Ending)(w':World):Prop:=∃v,e=.returned (.tuple #[v,.int .i64 r.2])/\Sl w' v (r.1.map encT)/\Ext w w'
def gB(v:Value)(ws:List Int)(w:World)(hv:Sl w v (ws.map encI))(hl:ws.length<=1000000):
 Calls prog 63 #[v] w (ZoK (Tw.wide ws) w):=by
 have HT:=B0 (Tw.wide.eq_1 ws);generalize Tw.wide ws=res at*;by_cases h0:ws=[]
 .rw[G0 h0]at HT;subst h0;obtain⟨a,c,rfl⟩:=hv.form;simp only[H7,I3];clear hv;go_enter func63,ntmps63;exact gC
 .rw[D0 h0]at HT;rcases hv with⟨h1,_⟩|⟨b,off,cap,rfl,hb,Eh⟩;(·exact absurd YW h0);rw[M0]at Eh⊢;have Ju:0<ws.length:=D8.2 h0;have Uh:((ws.length:Int)==0)=false:=O0.2 C0;have HC:Hid (∀w',Ext w w'->∀j,j<ws.length->w'.cell? ⟨b,off+j,none⟩=some (.int .i64 (ws.getD j 0))):=B0 (λw' hx j hj=>by rw[hx.cell (p:=⟨b,off+j,none⟩) hb,Eh j hj,B3,F1,P0 hj];rfl);have HI:=B0 (λw' hx=>uZ b off cap ws w' (HC.out w' hx) C0);have HLO:=B0 (ZnY h0);have HHI:=B0 (ZnQ h0);clear Eh h0;cases Bi:Tw.inRng ws;(·rw[Bi]at HI HT;rw[G0 rfl]at HT;clear Bi;go_enter func63,ntmps63;go_wp2_with fail;refine(HI.out _ (Ext.refl _)).mono ?_;rintro e w1 ⟨rfl,rfl⟩;exact gC)
  .have HR:=B0 (λx hx=>RV Bi (x:=x) hx);rw[Bi]at HI HT;rw[D0 Bool.noConfusion]at HT;clear Bi;have IT:=J7 (P:=prog) 26 4 (.bool false) 1 underlying26 N0 rfl .i64 .i64 ws.length C0 C0;have Xc:Hid (∀w',Ext w w'->Calls prog 106 #[.slice (some ⟨b,off,none⟩) ws.length cap] w' λe y8=>e=.returned (.int .i64 (Tw.lo ws))/\w'=y8):=B0 (λw' hx=>by have:=Tryz.slices_Min_int b off ws.length cap ws w' Ju (J0 _) C0 (HC.out w' hx);rw[J6,<-ZoP]at this;exact this.mono λ_ _ h=>⟨h.1,h.2.symm⟩);have aDF:Hid (∀w',Ext w w'->Calls prog 107 #[.slice (some ⟨b,off,none⟩) ws.length cap] w' λe y8=>e=.returned (.int .i64 (Tw.hi ws))/\w'=y8):=B0 (λw' hx=>by have:=Tryz.slices_Max_int b off ws.length cap ws w' Ju (J0 _) C0 (HC.out w' hx);rw[J6,<-ZoO]at this;exact this.mono λ_ _ h=>⟨h.1,h.2.symm⟩);have Df:=HR.out _ HLO.out;have Vw:=HR.out _ HHI.out;obtain⟨aGK,aGL⟩:=Df;obtain⟨aFu,aFv⟩:=Vw;have HW:Hid (∀x,Tw.Tf ws x=decide (Tw.lo ws+Tw.hi ws<2*x)):=B0 (λx=>rfl);have HLW:=B0 (λj=>ZoQ ws (ws.take j) (λx hx=>HR.out x (I4 hx)) ⟨aFu,aFv⟩);have HMN:=B0 (λj=>ZoR ws (ws.take j) (λx hx=>HR.out x (I4 hx)) ⟨aGK,aGL⟩);have HL0:Hid (Tw.leastWide ws []=Tw.hi ws/\Tw.mostNarrow ws []=Tw.lo ws):=B0 ⟨rfl,rfl⟩;clear HLO HHI;generalize Tw.lo ws=lo at*;generalize Tw.hi ws=hi at*;by_cases h23:2*hi<3*lo;(·rw[G0 h23]at HT;go_enter func63,ntmps63;go_wp2_with fail;refine(HI.out _ (Ext.refl _)).mono ?_;rintro e w1 ⟨rfl,rfl⟩;go_wp2_with fail;refine(Xc.out _ Xe).mono ?_;rintro e w1 ⟨rfl,rfl⟩;go_wp2_with fail;refine(aDF.out _ Xe).mono ?_;rintro e w1 ⟨rfl,rfl⟩;go_wp2;go_ret2;refine⟨.slice (some ⟨w.heap.size,0,none⟩) ws.length ws.length,by rw[HT.out];rfl,?_,Xe⟩;rw[HT.out];refine(Sl.row (YX w (.bool false) ws.length 4)).congr ?_;apply V9;(·simp);·intro i h1 h2;simp[encT])
   .rw[D0 h23]at HT;go_enter func63,ntmps63;go_wp2_with fail;refine(HI.out _ (Ext.refl _)).mono ?_;rintro e w1 ⟨rfl,rfl⟩;go_wp2_with fail;refine(Xc.out _ Xe).mono ?_;rintro e w1 ⟨rfl,rfl⟩;go_wp2_with fail;refine(aDF.out _ Xe).mono ?_;rintro e w1 ⟨rfl,rfl⟩;go_wp2;clear IT;go_loopw [34,7,8] (λi a c wr=>∃j:Nat,j<=ws.length/\i=.int .i64 (j:Int)/\a=.int .i64 (Tw.leastWide ws (ws.take j))/\c=.int .i64 (Tw.mostNarrow ws (ws.take j))/\wr.rowIs w.heap.size 4 ws.length (λk=>if k<j then encT (Tw.Tf ws (ws.getD k 0))else .bool false)/\Ext w wr) (λi _ _ _=>ws.length-(intOf i).toNat);(case atStart=>refine⟨0,R0 _,rfl,?_,?_,(YX w _ _ _).congr (λi _=>by simp),Xe⟩;(·rw[YP,HL0.out.1]);·rw[YP,HL0.out.2]);case round=>
     obtain⟨j,hj,rfl,rfl,rfl,k9,j3⟩:=hrel;obtain⟨b1,b2⟩:=HLW.out j;obtain⟨b3,b4⟩:=HMN.out j;by_cases hlt:j<ws.length
     .have Nf:=k9.cell hlt;have hfj:=k9.frozen j;have hwj:=HC.out wr j3 j hlt;obtain⟨b5,b6⟩:=HR.out _ (uY ws j hlt);have Tu:=B0 (Znh ws (ws.take j) (ws.getD j 0));have Dc:=B0 (Znk ws (ws.take j) (ws.getD j 0));rw[<-uX ws j hlt]at Tu Dc;have HWJ:=B0 (HW.out (ws.getD j 0));have Pf:b≠w.heap.size:=C0;have IQ:∀bb,Tw.Tf ws (ws.getD j 0)=bb->Hid ((wr.setCell ⟨w.heap.size,j,none⟩ (.bool bb)).rowIs w.heap.size 4 ws.length (λk=>if k<j+1 then encT (Tw.Tf ws (ws.getD k 0))else .bool false)):=λbb Ds=>
       B0 ((k9.set j (.bool bb)).congr (λk hk=>by by_cases h1:k=j;(·exact DE);·rw[D0 h1];by_cases h2:k<j;(·exact YV);·rw[D0 h2,D0 (show¬k<j+1 by omega)]))
      have HX:=B0 (λu=>j3.setCell (p:=⟨w.heap.size,j,none⟩) (J0 _) u);generalize Tw.leastWide ws (ws.take j)=lw at*;generalize Tw.mostNarrow ws (ws.take j)=mn at*;by_cases hw:lo+hi<2*ws.getD j 0;(·have hiw:Tw.Tf ws (ws.getD j 0)=true:=(by rw[HWJ.out];simpa using hw);have p6:=IQ true hiw;rw[hiw,G0 rfl]at Tu Dc;exact gD);·have hiw:Tw.Tf ws (ws.getD j 0)=false:=(by rw[HWJ.out];simpa using hw);have p6:=IQ false hiw;rw[hiw,D0 Bool.noConfusion]at Tu Dc;exact gD
     .obtain rfl:j=ws.length:=C0;rw[J6]at b1 b2 b3 b4⊢;have j8:=Sl.row k9;clear hj hlt k9;generalize Tw.leastWide ws ws=lw at*;generalize Tw.mostNarrow ws ws=mn at*;by_cases h5:2*lw<3*mn;(·rw[G0 h5]at HT;go_wp2;go_ret2;exact⟨.slice none 0 0,by rw[HT.out];rfl,by rw[HT.out];exact U9 _,j3⟩);·rw[D0 h5]at HT;go_wp2;go_ret2;refine⟨.slice (some ⟨w.heap.size,0,none⟩) ws.length ws.length,by rw[HT.out];rfl,?_,j3⟩;rw[HT.out];refine j8.congr ?_;apply V9;(·simp);·intro i h1 h2;simp at h1;simp[h1]
def SlK(w:World)(v:Value)(xs:List Value):Prop:=Sl w v xs/\∃a c,v=.slice a xs.length c/\xs.length<=c
def SlK.ext{w w':World}{v:Value}{xs:List Value}(h:SlK w v xs)(hx:Ext w w'):SlK w' v xs:=⟨h.1.ext hx,h.2⟩
def Own.IW{t:TypeId}{w:World}{B:Nat}{v:Value}{xs:List Value}(h:Own t w B v xs):SlK w v xs:=by
 refine⟨h.sl,?_⟩;rcases h.2 with⟨By,h0⟩|⟨g,cap,cur,hv,_,_,h1,_⟩;·exact⟨none,0,by rw[By,h0],by rw[h0];exact J0 _⟩
 .exact⟨_,cap,hv,h1⟩
def DF{w:World}{a:Option Addr}{c:Nat}{xs:List Value}{l h:Nat}(hs:Sl w (.slice a xs.length c) xs)(hc:xs.length<=c)(hl:l<=h)(hh:h<=xs.length):
 SlK w (sliced a l h c 1) ((xs.drop l).take (h-l)):=by
 have hlen:((xs.drop l).take (h-l)).length=h-l:=FI;unfold sliced;refine⟨?_,_,c-l,by rw[hlen],by rw[hlen];omega⟩;by_cases hz:h-l=0
 .left;exact⟨U3 (by rw[hlen];exact hz),_,_,by rw[hz]⟩
 .right;rw[D0 C0,G6];rcases hs with⟨h0,_⟩|⟨b,off,cap,he,hb,Eh⟩;(·rw[h0]at hh;simp at hh;omega);·injection he with h1 h2 h3;subst h1;refine⟨b,off+l,c-l,by rw[hlen];simp[UE],hb,λi hi=> ?_⟩;rw[hlen]at hi;rw[Nat.add_assoc,Eh (l+i) C0,YY,G0 hi,MA]
def SlK.nil(w:World):SlK w (.slice none 0 0) []:=⟨.inl ⟨rfl,none,0,rfl⟩,none,0,rfl,J0 _⟩
def SlK.row{w:World}{b:Nat}{t:TypeId}{n:Nat}{f:Nat->Value}(h:w.rowIs b t n f):SlK w (.slice (some ⟨b,0,none⟩) n n) ((List.range n).map f):=
 ⟨Sl.row h,_,n,by rw[M0,R6],by rw[M0,R6];exact J0 _⟩
def SlK.congr{w:World}{v:Value}{xs ys:List Value}(h:SlK w v xs)(e:xs=ys):SlK w v ys:=e▸h
def Zh9(w:World):(sizeOf 4).run prog w=.ok 1 w:=D1
def ZhC{w:World}{v:Value}{xs:List Value}(hs:SlK w v xs)(l h:Nat)(hl:l<=h)(hh:h<=xs.length):
 ∃v',(∀w',(Instr.slice 26 v (some (.int .i64 (l:Int))) (some (.int .i64 (h:Int))) none).run prog w'=.ok v' w')/\SlK w v' ((xs.drop l).take (h-l)):=by
 obtain⟨j8,a,c,rfl,hc⟩:=hs;refine⟨_,λw'=> ?_,DF j8 hc hl hh⟩;have e:prog.elem 26=4:=D1;have ht:prog.underlying 26=some (.slice (prog.elem 26)):=by rw[e];exact underlying26
 rw[run_slice_lh w' 26 a xs.length c ht .i64 .i64 (l:Int) (h:Int) C0 C0 C0,e,Zh9];rfl
def ZD(r:List Bool×Int)(w:World)(e:Ending)(w':World):Prop:=∃v,e=.returned (.tuple #[v,.int .i64 r.2])/\SlK w' v (r.1.map encT)/\Ext w w'
def Sl.Af{w wr:World}{a:Option Addr}{n c:Nat}{ws:List Int}(h:Sl w (.slice a n c) (ws.map encI))(hx:Ext w wr){i:Nat}{x:Int}(hi:ws[i]? =some x):∃b o,a=some ⟨b,o,none⟩/\b<w.heap.size/\wr.cell? ⟨b,o+i,none⟩=some (.int .i64 x):=gE
def Sl.Xn{w wr:World}{a:Option Addr}{n c:Nat}{ws:List Bool}(h:Sl w (.slice a n c) (ws.map encT))(hx:Ext w wr){i:Nat}{x:Bool}(hi:ws[i]? =some x):∃b o,a=some ⟨b,o,none⟩/\b<w.heap.size/\wr.cell? ⟨b,o+i,none⟩=some (.bool x):=gE
def Z5{α:Type}{l:List α}{i:Nat}{x:α}(h:l[i]? =some x):l.take (i+1)=l.take i++[x]:=by rw[M5,h];rfl
def Rn.mods_snoc:∀(l:List Int)(x:Int)(b:Bool),Rn.mods b (l++[x])=Rn.mods b l++List.replicate x.toNat (if l.length%2=0 then b else !b)
 | [],x,b=>by simp[Rn.mods]
 |y::l,x,b=>by rw[C3,Rn.mods,Rn.mods,Rn.mods_snoc l x (!b),V1,B1];exact FG
def Rn.sum_snoc(l:List Int)(x:Int):Rn.sum (l++[x])=Rn.sum l+x:=by rw[Rn.sum_app,Rn.sum_cons,Rn.sum_nil];omega
def Rn.sum_in{l:List Int}(h:∀x∈l,1<=x/\x<=65536):0<=Rn.sum l/\Rn.sum l<=65536*(l.length:Int):=by
 induction l with
 |nil=>rw[Rn.sum_nil];simp
 |cons x l ih=>have h1:=h x (C2 ..);have h2:=ih λy hy=>h y (Y1 _ hy);rw[Rn.sum_cons,B1];omega
def ZjR{ws:List Int}{x:Int}(hx:x∈ws)(h:¬(1<=x/\x<=65536)):Tw.inRng ws=false:=by unfold Tw.inRng;rw[<-UW,M1];intro h2;have:=h2 x hx;simp at this;exact h this
def ZiI{ws:List Int}(h:∀x∈ws,1<=x/\x<=65536):Tw.inRng ws=true:=by unfold Tw.inRng;rw[M1];intro x hx;have:=h x hx;exact X0
def Zmz(v:Value)(ws:List Int)(w:World)(hv:Sl w v (ws.map encI))(hl:ws.length<=1000000):
 Calls prog 130 #[v] w λe w'=>e=.returned (.int .i64 (if Tw.inRng ws then Rn.sum ws else-1))/\w=w':=by
 obtain⟨a,c,rfl⟩:=hv.form;rw[M0]at hv⊢;obtain⟨n,hn⟩:∃n,n=ws.length:=⟨_,rfl⟩;rw[<-hn]at hv hl⊢;have HN:=B0 hn;have HV:=B0 hv;obtain⟨res,j7⟩:∃res,res=(if Tw.inRng ws then Rn.sum ws else-1):=⟨_,rfl⟩;rw[<-j7];have HR:=B0 j7;clear hv hn j7;go_enter func130,ntmps130;go_wp2;go_loop [3,4] (λs i=>∃(j:Nat)(t:Int),j<=n/\i=.int .i64 (j:Int)/\s=.int .i64 t/\0<=t/\t<=65536*(j:Int)/\Hid (t=Rn.sum (ws.take j))/\Hid (∀x∈ws.take j,1<=x/\x<=65536)) (λ_ i=>n-(intOf i).toNat)
 case atStart=>exact⟨0,0,R0 _,rfl,rfl,by omega,by omega,B0 rfl,B0 (λx hx=>by simp at hx)⟩
 case round=>obtain⟨j,t,hj,rfl,rfl,Ko,Je,HT,HB⟩:=hrel;by_cases hlt:j<n;(·obtain⟨x,l9⟩:∃x,ws[j]? =some x:=⟨_,P0 X3⟩;obtain⟨b,o,ha,hb,hc⟩:=HV.out.Af (Ext.refl w) l9;subst ha;have Bx:(j:Int)<(n:Int):=C0;have Jp:=L1 l9;by_cases hx:1<=x/\x<=65536;(·have Ad:Hid (t+x=Rn.sum (ws.take (j+1))):=B0 DG;have Ch:Hid (∀y∈ws.take (j+1),1<=y/\y<=65536):=B0 (λy hy=>by rw[Z5 l9]at hy;rcases E3.1 hy with h|h;(·exact HB.out y h);·rw[D3]at h;subst h;exact hx);obtain⟨b7,j0⟩:=hx;clear l9 Jp;go_wp2;go_round;(case rel=>exact⟨j+1,t+x,by omega,by go_num,rfl,by omega,by omega,Ad,Ch⟩);case measure=>exact Qr);·have HF:Hid (res= -1):=B0 (by rw[HR.out,ZjR Jp hx,D0 I0]);by_cases h1:x<1;(·clear hx l9 Jp;exact DH);·have h2:65536<x:=C0;clear hx l9 Jp;exact DH);·obtain rfl:j=n:=C0;have HF:Hid (res=t):=B0 (by have h1:=HB.out;rw[S1 P7]at h1;have h2:=HT.out;rw[S1 P7]at h2;rw[HR.out,ZiI h1,G0 rfl,h2]);clear hj hlt;exact DH
def Zh0(v:Value)(ws:List Int)(w:World)(hv:Sl w v (ws.map encI))(hl:ws.length<=1000000):
 Calls prog 72 #[v] w (ZD (Rn.modules ws) w):=by
 have Ox:=B0 (Zmz v ws w hv hl);obtain⟨a,c,rfl⟩:=hv.form;rw[M0]at hv Ox⊢;obtain⟨n,hn⟩:∃n,n=ws.length:=⟨_,rfl⟩;rw[<-hn]at hv hl Ox⊢;have HN:=B0 hn;have HV:=B0 hv;have HR:=B0 (Rn.modules.eq_1 ws);rw[<-hn]at HR;generalize Rn.modules ws=res at*;clear hv hn;by_cases h0:n=0
 .have z0:((n:Int)==0)=true:=I1.2 C0;rw[G0 h0]at HR;clear h0 Ox;go_enter func72,ntmps72;exact QX
 have z0:((n:Int)==0)=false:=O0.2 C0;rw[D0 h0]at HR;clear h0;by_cases h2:n%2=0
 .have z2:((n:Int)%2==0)=true:=I1.2 C0;rw[G0 h2]at HR;clear h2 Ox;go_enter func72,ntmps72;exact QX
 have z2:((n:Int)%2==0)=false:=O0.2 C0;rw[D0 h2]at HR;clear h2;cases Bi:Tw.inRng ws with
 |false=>rw[Bi,G0 rfl]at HR;rw[Bi,D0 I0]at Ox;clear Bi;exact gF
 |true=>
 rw[Bi,D0 I0]at HR;rw[Bi,G0 rfl]at Ox;have Ia:=B0 (λx hx=>RV Bi (x:=x) hx);have Fv:=Rn.sum_in Ia.out;obtain⟨S,hS⟩:∃S,S=Rn.sum ws:=⟨_,rfl⟩;rw[<-hS]at HR Ox Fv;have Ke:=B0 hS;have Yb:=Fv.1;have hS1:S<=65536000000:=T9;clear Bi Fv hS;by_cases h4:65536<S
 .rw[G0 h4]at HR;exact gF
 rw[D0 h4]at HR;have Om:Hid (∀j,(Rn.mods true (ws.take j)).length<=65536):=B0 (λj=>by have h1:=Rn.mods_len (ws.take j) true (λx hx=>(Ia.out x (I4 hx)).1);have h2:Rn.sum (ws.take j)+Rn.sum (ws.drop j)=S:=gG;have h3:=Rn.sum_pos (ws.drop j) (λx hx=>(Ia.out x (X7 hx)).1);omega);go_enter func72,ntmps72;go_wp2_with fail;refine Ox.out.mono ?_;rintro e w1 ⟨rfl,rfl⟩;go_wp2_with fail;go_loopw [5,6] (λv i wr=>∃j:Nat,j<=n/\i=.int .i64 (j:Int)/\Hid (Own 4 wr w.heap.size v ((Rn.mods true (ws.take j)).map encT))/\Hid (Ext w wr)) (λ_ i _=>n-(intOf i).toNat)
 case atStart=>exact MB
 case round=>obtain⟨j,hj,rfl,HO,HX⟩:=hrel;by_cases hlt:j<n;(·obtain⟨x,l9⟩:∃x,ws[j]? =some x:=⟨_,P0 X3⟩;have hx:=Ia.out x (L1 l9);obtain⟨m,rfl⟩:∃m:Nat,x=(m:Int):=⟨x.toNat,by omega⟩;obtain⟨cb,Ho⟩:∃cb,cb=((j:Int)%2==0):=⟨_,rfl⟩;have Nt:Hid (Rn.mods true (ws.take (j+1))=Rn.mods true (ws.take j)++List.replicate m cb):=B0 gH;have Po:m<=65536:=C0;have Bx:(j:Int)<(n:Int):=C0;have Fm:=B0 (Om.out (j+1));have HXJ:=B0 l9;have aB9:=Ho.symm;generalize Rn.mods true (ws.take j)=got at*;clear l9 hx Ho;go_wp2_with fail;go_loopw [5,7] (λv k wq=>∃q:Nat,q<=m/\k=.int .i64 (q:Int)/\Hid (Own 4 wq w.heap.size v ((got++List.replicate q cb).map encT))/\Hid (Ext w wq)) (λ_ k _=>m-(intOf k).toNat);(case atStart=>exact⟨0,R0 _,rfl,by simpa using HO,HX⟩);case round=>clear HO HX;obtain⟨q,hq,rfl,HO,HX⟩:=hrel;obtain⟨b,o,ha,hb,hc⟩:=HV.out.Af HX.out HXJ.out;subst ha;exact QE);·exact gI
def SlN(w:World)(B:Nat)(v:Value)(xs:List Value):Prop:=Sl w v xs/\∀k,v.ownBlock=some k->B<=k/\k<w.heap.size
def SlN.nil(w:World)(B:Nat):SlN w B (.slice none 0 0) []:=⟨.inl ⟨rfl,none,0,rfl⟩,λk hk=>by simp[Value.ownBlock]at hk⟩
def SlN.aCm{t:TypeId}{w:World}{B:Nat}{v:Value}{xs:List Value}(h:Own t w B v xs):SlN w B v xs:=⟨h.sl,λk hk=>R4 h k hk⟩
def SlN.of{w:World}{B b o n c:Nat}{xs:List Value}(h:Sl w (.slice (some ⟨b,o,none⟩) n c) xs)(hn:0<xs.length)(hb:B<=b):SlN w B (.slice (some ⟨b,o,none⟩) n c) xs:=by
 refine⟨h,λk hk=> ?_⟩;obtain⟨b',o',he,hl,_⟩:=h.at_ hn;injection he with he;injection he with h1;have:b=k:=by simpa[Value.ownBlock]using hk
 omega
def SlN.ext{w w':World}{B:Nat}{v:Value}{xs:List Value}(h:SlN w B v xs)(hx:Ext w w'):SlN w' B v xs:=⟨h.1.ext hx,λk hk=>⟨(h.2 k hk).1,W1 (h.2 k hk).2 hx.size⟩⟩
def SlN.mono{w:World}{B B':Nat}{v:Value}{xs:List Value}(h:SlN w B v xs)(hb:B'<=B):SlN w B' v xs:=⟨h.1,λk hk=>⟨F3 hb (h.2 k hk).1,(h.2 k hk).2⟩⟩
def N5(w w':World)(v v':Value):Prop:=∀B u xs,SlN w B u xs->Z2 v u->SlN w' B u xs/\Z2 v' u
def N5.refl(w:World)(v:Value):N5 w w v v:=λ_ _ _ h k=>⟨h,k⟩
def N5.trans{w w1 w2:World}{v v1 v2:Value}(h:N5 w w1 v v1)(k:N5 w1 w2 v1 v2):N5 w w2 v v2:=λB u xs hs ha=>k B u xs (h B u xs hs ha).1 (h B u xs hs ha).2
def N5.aHH{w w':World}{v:Value}(h:Ext w w'):N5 w w' v v:=λ_ _ _ hs k=>⟨hs.ext h,k⟩
def N5.grow{w w':World}{v v':Value}(hg:w.grownBy w' v.ownBlock)(n:Nat)(hn:w.heap.size<=n)(La:v'.ownBlock=v.ownBlock\/v'.ownBlock=some n):N5 w w' v v':=by
 intro B u xs hs ha;have o4:=hg.size;have Cb:Z2 v' u:=by rcases La with e|e;(·unfold Z2;rw[e];exact ha);·refine .inr ?_;rw[e];intro h1;have:=(hs.2 n h1.symm).2;omega
 refine⟨⟨?_,λk hk=>⟨(hs.2 k hk).1,W1 (hs.2 k hk).2 o4⟩⟩,Cb⟩;rcases hs.1 with h|⟨b,off,cap,h1,h2,h3⟩;·exact .inl h
 .refine .inr ⟨b,off,cap,h1,W1 h2 o4,λi hi=> ?_⟩;have hb:w'.heap[b]? =w.heap[b]? :=hg.block b h2 (by rcases ha.symm with e|e;(·rw[h1]at e;simp[Value.ownBlock]at e);·rw[h1]at e;simpa[Value.ownBlock]using e);rw[<-h3 i hi];exact DI (w:=w) (a:=⟨b,off+i,none⟩) hb
def ZF{w:World}{ops:Array Oper}{rest:List Oper}{o:Oper}{a:Act}{Q:Exit->Act->World->Prop}(IG:o.guard=none)(s x:Operand)
 (ho:o.op=.call {callee:=.builtin .append,args:= #[s,x],argTypes:= #[43,43]})
 (B:Nat)(v:Value)(l:List Int)(hs:a.eval s=v)(b8:Own 3 w B v (l.map encI))(b:Nat)(u:Int)(hx:a.eval x=.slice (some ⟨b,0,none⟩) 1 1)
 (hc:w.cell? ⟨b,0,none⟩=some (encI u))(hn:l.length<=999999999)(hB:B<=w.heap.size)
 (h:∀v' w',Own 3 w' B v' ((l++[u]).map encI)->w.grownBy w' v.ownBlock->(v'.ownBlock=v.ownBlock\/v'.ownBlock=some w.heap.size)->wpList prog ops Q rest (a.put o.dst v') w'):wpList prog ops Q (o::rest) a w:=
 NA IG s x 43 3 (.int .i64 0) 8 ho underlying43 WP rfl I0 B v _ hs b8 b 0 1 1 [encI u] hx rfl
  (λj u' hj=>by
   match j with
   |0=>simp only[List.getElem?_cons_zero,P2]at hj;subst hj;exact hc
   |j+1=>simp at hj)
  (λu' hu=>by simp only[D3]at hu;subst hu;rfl) J5 hB
  (λv' w' h1 h2 h3=>h v' w' WO h2 h3)
def Zfu(t:TypeId)(n:Nat)(ht:prog.underlying t=some (.array n 9))(cs:Array Value)(i:Nat)(hi:i<n)(x:Value)(hx:cs[i]? =some x)(w:World):
 (Instr.index t (.agg cs) (.int .i64 (i:Int))).run prog w=.ok x w:=by
 have h2:=Tryz.sizeOf9 w;simp[Instr.index,X6 ht,asIntOf,part,hx,h2,go_sem];omega
def Ext.aA0{a w:World}{b:Nat}{t:TypeId}{n:Nat}{f:Nat->Value}(h:a.rowIs b t n f)(hx:Ext a w):w.rowIs b t n f:=h.of_block (hx.block _ h.lt)
def TA(R:Array Value)(hR:R.size=10)(h1:R.all (·.oneCell')=true)(w:World):
 (storeCells ⟨w.heap.size,0,none⟩ R.toList).run prog (w.alloc (.cells #[.string ⟨#[]⟩,.string ⟨#[]⟩,.string ⟨#[]⟩,.string ⟨#[]⟩,.string ⟨#[]⟩,.string ⟨#[]⟩,.string ⟨#[]⟩,.string ⟨#[]⟩,.string ⟨#[]⟩,.string ⟨#[]⟩] 210))=.ok () (w.alloc (.cells R 210)):=
 run_storeCells_new w 210 _ R (by rw[hR];kernel_rfl) (by rw[hR];rfl) h1
def Zno(R:Array Value)(t:TypeId)(w:World):(w.alloc (.cells R t)).rowIs w.heap.size t R.size (λi=>R.getD i undef):=
 MC w R t _ (λi hi=>by simp[hi])
def R7(R:Array Value)(t:TypeId)(w:World){i:Nat}{x:Value}(h:R[i]? =some x):(w.alloc (.cells R t)).cell? ⟨w.heap.size,i,none⟩=some x:=by
 have hi:i<R.size:=by rcases H5 i R.size with h'|h';(·exact h');·rw[TC h']at h;cases h
 rw[(Zno R t w).cell hi];simp only[gJ,h];rfl
def GB(row:Option Nat)(w w':World):Prop:=w.grownBy w' row
def GB.refl{row:Option Nat}(w:World):GB row w w:=⟨rfl,rfl,rfl,J0 _,λ_ _ _=>rfl⟩
def GB.trans{row:Option Nat}{a b c:World}(h:GB row a b)(k:GB row b c):GB row a c:=World.grownBy.trans h k
def GB.ext{row:Option Nat}{a b:World}(h:Ext a b):GB row a b:=⟨h.os,h.tape,h.output,h.size,λi hi _=>h.block i hi⟩
def GB.drew{row:Option Nat}{a w:World}(h:GB row a w):GB row a w.drew:=h.trans (GB.ext (Ext.refl w).drew)
def GB.alloc{row:Option Nat}{a w:World}(h:GB row a w)(o:Obj):GB row a (w.alloc o):=h.trans (GB.ext ((Ext.refl w).alloc o))
def GB.size{row:Option Nat}{a w:World}(h:GB row a w):a.heap.size<=w.heap.size:=World.grownBy.size h
def GB.heap{row:Option Nat}{a w:World}(h:GB row a w){b:Nat}{o:Obj}(hb:a.heap[b]? =some o)(k7:row≠some b):w.heap[b]? =some o:=by rw[World.grownBy.block h b (V3.1 hb).1 (λe=>k7 e.symm)];exact hb
end
section
open Go.RowKit Go.Maps Go
section
variable {P:Program} {w:World} {k e:TypeId} {T:TypeId} {α:Type} {key:α->Value}
def MG:Value->Option (DataW Unit×List MemPlace)
 | .int .i64 n=>some (.lit (.int .i64 n),[])
 |_=>none
def rB{v:Value}{z:DataW Unit×List MemPlace}(h:MG v=some z):∃n,v=.int .i64 n/\z=(.lit (.int .i64 n),[]):=by
 unfold MG at h;split at h;·exact⟨_,rfl,(DM h).symm⟩
 .cases h
def MapV(P:Program)(k:TypeId){α:Type}(key:α->Value)(w:World)(b n:Nat)(f:α->Option Int):Prop:=
 ∃(D:DataW Unit),w.ownsMap P k MG b n D/\∀v l,keyOf P k (key v)=some l->Maps.has D l=(f v).isSome/\D.atKey l (.lit (.int .i64 0))=.lit (.int .i64 ((f v).getD 0))
def MapV.made(w:World):MapV P k key (w.alloc (.map #[] 0)) w.heap.size 0 (λ_=>none):=
 ⟨.map [],(World.ownsMap_made w P k MG).mono (J0 _),λ_ _ _=>⟨rfl,rfl⟩⟩
def MapV.get{b n:Nat}{f:α->Option Int}(h:MapV P k key w b n f)(K:Keyed P k)(ht:P.underlying T=some (.map k e))(hz:(zeroValue e).run P w=.ok (.int .i64 0) w){v:α}{l:Lit}(hv:keyOf P k (key v)=some l):
 (Instr.lookup T (.map (some b)) (key v) true).run P w=.ok (.tuple #[.int .i64 ((f v).getD 0),.bool (f v).isSome]) w:=by
 obtain⟨D,ho,La⟩:=h;obtain⟨h1,h2⟩:=La v l hv;obtain⟨x,ps,Cm,hR⟩:=ho.look_ok (t:=T) K ht hz (zd:=.lit (.int .i64 0)) (zp:=[]) rfl hv;obtain⟨m,rfl,hm⟩:=rB hR;have Be:=V0 Prod.fst hm;dsimp only at Be;rw[h2]at Be;injection Be with Be;injection Be with _ Be;rw[h1,<-Be]at Cm;exact Cm
def MapV.Xr{b n:Nat}{f:α->Option Int}(h:MapV P k key w b n f)(K:Keyed P k)(ht:P.underlying T=some (.map k e))(hz:(zeroValue e).run P w=.ok (.int .i64 0) w){v:α}{l:Lit}(hv:keyOf P k (key v)=some l):
 (Instr.lookup T (.map (some b)) (key v) false).run P w=.ok (.int .i64 ((f v).getD 0)) w:=by
 obtain⟨D,ho,La⟩:=h;obtain⟨h1,h2⟩:=La v l hv;obtain⟨es,clock,hb,F,_,rfl⟩:=ho;rcases Maps.fit_look false K ht hz hb F hv with⟨Cm,_,h3⟩|⟨e0,y,_,_,Cm,hRv,h3,_⟩
 .rw[h3]at h2;injection h2 with h2;injection h2 with _ h2;rw[<-h2];exact Cm
 .rw[h3]at h2;obtain⟨c,hc,rfl⟩:=rB hRv;injection h2 with h2;injection h2 with _ h2;rw[<-h2,<-hc];exact Cm
def MapV.put [DecidableEq α]{b n:Nat}{f:α->Option Int}(h:MapV P k key w b n f)(K:Keyed P k)(ht:P.underlying T=some (.map k e)){v:α}{l:Lit}(hv:keyOf P k (key v)=some l)(m:Int)(hn:n<maxLen)(aCR:∀a b:α,key a=key b->a=b):
 ∃w',(Instr.mapUpdate T (.map (some b)) (key v) (.int .i64 m)).run P w=.ok () w'/\MapV P k key w' b (n+1) (λx=>if x=v then some m else f x)/\w.grownBy w' (some b):=by
 obtain⟨D,ho,La⟩:=h;obtain⟨w',Cm,ho',ht'⟩:=ho.store (t:=T) K ht hn hv (val:=.int .i64 m) (d:=.lit (.int .i64 m)) (ps:=[]) rfl;refine⟨w',Cm,⟨_,ho',λv' l' hv'=> ?_⟩,ht'.grown⟩;by_cases h:v'=v
 .subst h;have hl:l'=l:=DM (hv'.symm.trans hv);subst hl;rw[atKey_put_same ho.isMap (K.key hv),has_put_same ho.isMap (K.key hv)];dsimp only;rw[G0 rfl];exact XB
 .have k7:l'≠l:=λe=>h (aCR _ _ (K.inj hv' (e▸hv)));rw[atKey_put_other k7,has_put_other k7];dsimp only;rw[D0 h];exact La v' l' hv'
def MapV.kept{w':World}{b n:Nat}{f:α->Option Int}(h:MapV P k key w b n f){row:Option Nat}(hg:w.grownBy w' row)(k7:row≠some b):MapV P k key w' b n f:=by obtain⟨D,ho,La⟩:=h;exact⟨D,ho.kept hg (λe=>k7 e.symm),La⟩
def MapV.lt{b n:Nat}{f:α->Option Int}(h:MapV P k key w b n f):b<w.heap.size:=by obtain⟨D,ho,_⟩:=h;exact ho.lt
end
end
end Go.Proofs.Enc
