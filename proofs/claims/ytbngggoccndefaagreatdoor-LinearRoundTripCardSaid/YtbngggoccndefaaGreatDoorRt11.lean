/-
  Laid.
-/
import Derived.Test.YtbngggoccndefaaGreatDoorRt10
set_option maxHeartbeats 8000000
set_option maxRecDepth 100000
set_option linter.all false
namespace Go.Proofs.YtbngggoccndefaaGreatDoor
open Go.Proofs.Tryz
section
open Go.RowKit
theorem CS (cs ps:List UInt8) (z:Nat) (c:UInt8) (hz:z<=9):(Tw.pat cs ps z c).1.length<=9:=DP
theorem UH (w:World):Sl w (.slice none 0 0) []:=.inl ⟨rfl,_,_,rfl⟩
theorem MY (c:UInt8):(((c.toNat:Int)==119)=(c==119)):=by
 rw[U4,C2,C2];constructor;·intro h;exact O7.1 (by have:(119:UInt8).toNat=119:=rfl;omega)
 ·intro h;rw[h];rfl
theorem bG:∀v:Fin 10,0<=Lib.indexByte Tw.cItf (Cd.chr ((v.val:Nat):Int)):=Y1
theorem CU (c:UInt8) (h:0<=Lib.indexByte Tw.cItf c):(Tw.pat Tw.cItf Tw.pItf 5 c).1.length=5:=by unfold Tw.pat;rw[D0 C0];obtain⟨n,hn⟩:=B6 h;have:=SV _ _ _ hn;have h4:Tw.cItf.length=10:=rfl;have h5:Tw.pItf.length=50:=rfl;unfold Tw.cutAt;rw[hn,R6,L1,L2,h5];omega
theorem RF (k:Int) (l:List UInt8) (h:(Cd.compI k l).2=0):(Cd.compI k l).1=Cd.cmp k.toNat l:=by
 unfold Cd.compI at h⊢;split;·rename_i h1;rw[G0 h1]at h;simp at h
 ·rename_i h1
  rw[D0 h1]at h
  unfold Cd.comp at h⊢
  repeat' split
  all_goals first|rfl|(simp_all;done)
theorem CV (l:List UInt8):∀c∈Cd.cmp 1 l,0<=Lib.indexByte Tw.cItf c:=by intro c hc;simp only[Cd.cmp,Y2]at hc;subst hc;obtain⟨v,hv,hv10⟩:∃v:Nat,(10-(Cd.gsP l).1%10)%10=(v:Int)∧v<10:=⟨((10-(Cd.gsP l).1%10)%10).toNat,by omega,by omega⟩;rw[hv];exact bG ⟨v,hv10⟩
theorem CW (k:Nat) (l:List UInt8) (check:Bool) (hl:l.length<=1000) (h:(Tw.compK k l check).2=0):MU k (Tw.compK k l check).1:=by
 have hc7:=XM 7 l
 have hc1:=XM 1 l
 match k with
 |0=>
  refine⟨?_,fun h=>by omega⟩
  show(Tw.comp39 l check).1.length<=10000
  unfold Tw.comp39
  repeat' split
  all_goals simp only[O0,S0,U2];omega
 |1=>
  refine⟨?_,fun h=>by omega⟩
  show(Tw.compCb l check).1.length<=10000
  unfold Tw.compCb
  repeat' split
  all_goals simp only[O0,S0,U2,L1,L2];omega
 |k+2=>have h0:(Tw.compItf l check).2=0:=h;show MU (k+2) (Tw.compItf l check).1;unfold Tw.compItf at h0⊢;by_cases ho:Tw.only l Tw.cItf=false;(·rw[G0 ho]at h0;simp at h0);·rw[D0 ho]at h0⊢;rw[W6]at ho;have hd:∀c∈l,0<=Lib.indexByte Tw.cItf c:=(by intro c hc;unfold Tw.only at ho;rw[S1]at ho;simpa using ho c hc);by_cases hch:check=false;(·rw[G0 hch]at h0⊢;by_cases he:l.length%2=0;(·rw[G0 he]at h0⊢;exact⟨by simp only;omega,fun _=>⟨he,fun c hc=>CU c (hd c hc)⟩⟩);·rw[D0 he]at h0;simp at h0);·rw[D0 hch]at h0⊢;by_cases hz:(Cd.compI 1 l).2=0;(·rw[G0 hz]at h0⊢;have hcm:=RF 1 l hz;rw[hcm]at h0 hc1⊢;by_cases he:(l++Cd.cmp (Int.toNat 1) l).length%2=0;(·rw[G0 he]at h0⊢;refine⟨by simp only[O0];omega,fun _=>⟨he,fun c hc=>CU c ?_⟩⟩;rw[M2]at hc;rcases hc with hc|hc;(·exact hd c hc);·exact CV l c hc);·rw[D0 he]at h0;simp at h0);·rw[D0 hz]at h0;exact absurd h0 hz
theorem CX:∀l:List UInt8,(Tw.drawPairs l).length<=10*l.length
 | []=>by simp[Tw.drawPairs]
 | [_]=>by simp[Tw.drawPairs]
 |a::b::l=>by have h1:=CX l;have h2:=MO (Tw.pat Tw.cItf Tw.pItf 5 a).1 (Tw.pat Tw.cItf Tw.pItf 5 b).1;have h3:=CS Tw.cItf Tw.pItf 5 a C0;simp only[Tw.drawPairs,O0,S0];omega
theorem RG (k:Nat) (l:List UInt8):(Tw.drawK k l).length<=10*l.length+10:=by
 unfold Tw.drawK;split;·exact BA
 ·exact BA
 ·have:=CX l;simp only[Tw.drawItf,O0,S0,U2];omega
def EncR (r:List Int×Int) (w:World) (e:Ending) (w':World):Prop:=∃v,e=.returned (.tuple #[v,.int .i64 r.2])∧Sl w' v (r.1.map encI)∧Ext w w'
theorem bH (r:Int) (s:ByteArray):(List.range s.size).map (fun k=>encI (if s.data.toList.getD k 0=119 then r else 1))=(Tw.widths r s.data.toList).map encI:=by
 apply B9;·simp[Tw.widths]
 ·intro i h1 h2;simp[Tw.widths]at h1 h2⊢;simp[h1]
theorem bI (k:Nat) (kind:Int) (s:ByteArray) (check:Bool) (addon:ByteArray) (w:World) (hs:s.size<=9223372036854775807) (HF:Hid (∀w,Calls prog 62 #[.int .i64 kind] w (YI k w)))
 {res:List Int×Int} (HT:Hid (res=if s.data.toList=[]then([],5)else if 1000<s.size then([],4)else if(Tw.compK k s.data.toList check).2≠0 then([],(Tw.compK k s.data.toList check).2)else(Tw.widths 2 (Tw.drawK k (Tw.compK k s.data.toList check).1),0))):
 Calls prog 20 #[.int .i64 kind,.string s,.agg #[.int .i64 2,.bool check,.string addon]] w (EncR res w):=by
 by_cases h0:s.data.toList=[]
 ·exact BB
 ·rw[D0 h0]at HT;have hpe:s.toList.isEmpty=false:=BC;have hpz:¬s.toList=[]:=(by rw[G2];exact h0);clear h0;by_cases hl:1000<s.size;(·rw[G0 hl]at HT;exact Qo);·rw[D0 hl]at HT;have hl':s.size<=1000:=C0;clear hl;go_enter func20,ntmps20;go_wp2_with fail;refine(HF.out _).mono ?_;rintro e w1 ⟨B,F,rfl,hF,hx1⟩;obtain⟨hc,hfz⟩:=hx1.cells;have hz:w.heap.size<w1.heap.size:=XU;unfold Z5.val;have hen1:∀xs w,(callFunc F.mf xs).run prog w=.ok (.enter F.mf xs) w:=hF.ent.2.2.1;have hen2:∀xs w,(callFunc F.df xs).run prog w=.ok (.enter F.df xs) w:=hF.ent.2.2.2.1;have HC:=B0 (fun w' hx=>hF.comp w' hx s check C0);have HD0:=B0 (CW k s.data.toList check (by rw[Za];exact hl'));have HD:=B0 (fun w' hx t hd=>hF.draw w' hx t hd);clear hF;by_cases he:(Tw.compK k s.data.toList check).2≠0;(·exact QS);·rw[D0 he]at HT;have he0:(Tw.compK k s.data.toList check).2=0:=M3 he;have HDR:=B0 (HD0.out he0);rw[he0]at HC;clear he he0 HD0;generalize(Tw.compK k s.data.toList check).1=c1 at*;obtain⟨C,rfl⟩:∃D:ByteArray,c1=D.data.toList:=⟨⟨c1.toArray⟩,by simp⟩;simp only[strV,Zt]at HC;have hdl:=RG k C.data.toList;have hcl:=HDR.out.1;have HD1:=B0 (fun w' hx=>HD.out w' hx C HDR.out);generalize Tw.drawK k C.data.toList=el at*;obtain⟨E,rfl⟩:∃D:ByteArray,el=D.data.toList:=⟨⟨el.toArray⟩,by simp⟩;simp only[strV,Zt]at HD1;simp only[Za]at hdl hcl;have hel:E.size<=1000000:=C0;have hmk:=B8 (P:=prog) 43 3 (.int .i64 0) 8 underlying43 M0 rfl .i64 .i64 E.size C0 C0;clear HD HDR hdl hcl;go_wp2_with fail;refine(HC.out _ (Zs.of_ext _ Xe)).mono ?_;rintro e w2 ⟨rfl,hx2⟩;obtain⟨hc2,hfz2⟩:=hx2.cells;have hz2:w1.heap.size<w2.heap.size:=MZ;go_wp2_with fail;refine(HD1.out _ (Zs.of_ext _ (((Ext.refl w1).alloc _).trans hx2))).mono ?_;rintro e w3 ⟨rfl,hx3⟩;have hx03:Ext (w.alloc (.cells #[.int .i64 2,.bool check,.string addon] 24)) w3:=(((hx1.alloc _).trans hx2).trans hx3);have F0:Hid (w3.cell? ⟨w.heap.size,0,none⟩=some (.int .i64 2)):=B0 BD;have hl0:w.heap.size<w3.heap.size:=(by have:=hx03.size;exact L7);have hxw:Ext w w3:=((Ext.refl w).alloc _).trans hx03;clear hc hfz hc2 hfz2 hx1 hx2 hx3 hx03;go_wp2;clear hmk;go_loopw [58] (fun i wr=>∃j:Nat,j<=E.size∧i=.int .i64 (j:Int)∧wr.rowIs w3.heap.size 3 E.size (fun k=>if k<j then encI (if E.data.toList.getD k 0=119 then 2 else 1)else .int .i64 0)∧Ext w3 wr) (fun i _=>E.size-(intOf i).toNat);(case atStart=>exact BE);case round=>obtain⟨j,hj,rfl,hrow,hxr⟩:=hrel;by_cases hlt:j<E.size;(·have hcj:=hrow.cell hlt;have hfj:=hrow.frozen j;have hr0:wr.cell? ⟨w.heap.size,0,none⟩=some (.int .i64 2):=MT;have hne:w3.heap.size≠w.heap.size:=C0;by_cases h119:E[j]=119;(·have d1:((E[j].toNat:Int)==119)=true:=(by rw[MY,h119];rfl);have HR1:=B0 (((hrow.set j (.int .i64 1)).set j (.int .i64 2)).congr (g:=fun k=>if k<j+1 then encI (if E.data.toList.getD k 0=119 then 2 else 1)else .int .i64 0) (fun k hk=>by by_cases h1:k=j;(·exact BF);·rw[D0 h1,D0 h1];by_cases h2:k<j;(·exact C9);·rw[D0 h2,D0 (show¬k<j+1 by omega)]));have HX1:=B0 ((hxr.setCell (p:=⟨w3.heap.size,j,none⟩) (I0 _) (.int .i64 1)).setCell (p:=⟨w3.heap.size,j,none⟩) (I0 _) (.int .i64 2));clear hrow h119;exact Qx);·have d1:((E[j].toNat:Int)==119)=false:=BG;have HR1:=B0 ((hrow.set j (.int .i64 1)).congr (g:=fun k=>if k<j+1 then encI (if E.data.toList.getD k 0=119 then 2 else 1)else .int .i64 0) (fun k hk=>by by_cases h1:k=j;(·exact BH);·rw[D0 h1];by_cases h2:k<j;(·exact C9);·rw[D0 h2,D0 (show¬k<j+1 by omega)]));exact BI);·exact BJ
theorem bJ (k:Nat) (kind:Int) (s:ByteArray) (check:Bool) (addon:ByteArray) (w:World) (hs:s.size<=9223372036854775807) (HF:Hid (∀w,Calls prog 62 #[.int .i64 kind] w (YI k w)))
 {res:List Int×Int} (HT:Hid (res=if s.data.toList=[]then([],5)else if 1000<s.size then([],4)else if(Tw.compK k s.data.toList check).2≠0 then([],(Tw.compK k s.data.toList check).2)else(Tw.widths 3 (Tw.drawK k (Tw.compK k s.data.toList check).1),0))):
 Calls prog 20 #[.int .i64 kind,.string s,.agg #[.int .i64 3,.bool check,.string addon]] w (EncR res w):=by
 by_cases h0:s.data.toList=[]
 ·exact BB
 ·rw[D0 h0]at HT;have hpe:s.toList.isEmpty=false:=BC;have hpz:¬s.toList=[]:=(by rw[G2];exact h0);clear h0;by_cases hl:1000<s.size;(·rw[G0 hl]at HT;exact Qo);·rw[D0 hl]at HT;have hl':s.size<=1000:=C0;clear hl;go_enter func20,ntmps20;go_wp2_with fail;refine(HF.out _).mono ?_;rintro e w1 ⟨B,F,rfl,hF,hx1⟩;obtain⟨hc,hfz⟩:=hx1.cells;have hz:w.heap.size<w1.heap.size:=XU;unfold Z5.val;have hen1:∀xs w,(callFunc F.mf xs).run prog w=.ok (.enter F.mf xs) w:=hF.ent.2.2.1;have hen2:∀xs w,(callFunc F.df xs).run prog w=.ok (.enter F.df xs) w:=hF.ent.2.2.2.1;have HC:=B0 (fun w' hx=>hF.comp w' hx s check C0);have HD0:=B0 (CW k s.data.toList check (by rw[Za];exact hl'));have HD:=B0 (fun w' hx t hd=>hF.draw w' hx t hd);clear hF;by_cases he:(Tw.compK k s.data.toList check).2≠0;(·exact QS);·rw[D0 he]at HT;have he0:(Tw.compK k s.data.toList check).2=0:=M3 he;have HDR:=B0 (HD0.out he0);rw[he0]at HC;clear he he0 HD0;generalize(Tw.compK k s.data.toList check).1=c1 at*;obtain⟨C,rfl⟩:∃D:ByteArray,c1=D.data.toList:=⟨⟨c1.toArray⟩,by simp⟩;simp only[strV,Zt]at HC;have hdl:=RG k C.data.toList;have hcl:=HDR.out.1;have HD1:=B0 (fun w' hx=>HD.out w' hx C HDR.out);generalize Tw.drawK k C.data.toList=el at*;obtain⟨E,rfl⟩:∃D:ByteArray,el=D.data.toList:=⟨⟨el.toArray⟩,by simp⟩;simp only[strV,Zt]at HD1;simp only[Za]at hdl hcl;have hel:E.size<=1000000:=C0;have hmk:=B8 (P:=prog) 43 3 (.int .i64 0) 8 underlying43 M0 rfl .i64 .i64 E.size C0 C0;clear HD HDR hdl hcl;go_wp2_with fail;refine(HC.out _ (Zs.of_ext _ Xe)).mono ?_;rintro e w2 ⟨rfl,hx2⟩;obtain⟨hc2,hfz2⟩:=hx2.cells;have hz2:w1.heap.size<w2.heap.size:=MZ;go_wp2_with fail;refine(HD1.out _ (Zs.of_ext _ (((Ext.refl w1).alloc _).trans hx2))).mono ?_;rintro e w3 ⟨rfl,hx3⟩;have hx03:Ext (w.alloc (.cells #[.int .i64 3,.bool check,.string addon] 24)) w3:=(((hx1.alloc _).trans hx2).trans hx3);have F0:Hid (w3.cell? ⟨w.heap.size,0,none⟩=some (.int .i64 3)):=B0 BD;have hl0:w.heap.size<w3.heap.size:=(by have:=hx03.size;exact L7);have hxw:Ext w w3:=((Ext.refl w).alloc _).trans hx03;clear hc hfz hc2 hfz2 hx1 hx2 hx3 hx03;go_wp2;clear hmk;go_loopw [58] (fun i wr=>∃j:Nat,j<=E.size∧i=.int .i64 (j:Int)∧wr.rowIs w3.heap.size 3 E.size (fun k=>if k<j then encI (if E.data.toList.getD k 0=119 then 3 else 1)else .int .i64 0)∧Ext w3 wr) (fun i _=>E.size-(intOf i).toNat);(case atStart=>exact BE);case round=>obtain⟨j,hj,rfl,hrow,hxr⟩:=hrel;by_cases hlt:j<E.size;(·have hcj:=hrow.cell hlt;have hfj:=hrow.frozen j;have hr0:wr.cell? ⟨w.heap.size,0,none⟩=some (.int .i64 3):=MT;have hne:w3.heap.size≠w.heap.size:=C0;by_cases h119:E[j]=119;(·have d1:((E[j].toNat:Int)==119)=true:=(by rw[MY,h119];rfl);have HR1:=B0 (((hrow.set j (.int .i64 1)).set j (.int .i64 3)).congr (g:=fun k=>if k<j+1 then encI (if E.data.toList.getD k 0=119 then 3 else 1)else .int .i64 0) (fun k hk=>by by_cases h1:k=j;(·exact BF);·rw[D0 h1,D0 h1];by_cases h2:k<j;(·exact C9);·rw[D0 h2,D0 (show¬k<j+1 by omega)]));have HX1:=B0 ((hxr.setCell (p:=⟨w3.heap.size,j,none⟩) (I0 _) (.int .i64 1)).setCell (p:=⟨w3.heap.size,j,none⟩) (I0 _) (.int .i64 3));clear hrow h119;exact Qx);·have d1:((E[j].toNat:Int)==119)=false:=BG;have HR1:=B0 ((hrow.set j (.int .i64 1)).congr (g:=fun k=>if k<j+1 then encI (if E.data.toList.getD k 0=119 then 3 else 1)else .int .i64 0) (fun k hk=>by by_cases h1:k=j;(·exact BH);·rw[D0 h1];by_cases h2:k<j;(·exact C9);·rw[D0 h2,D0 (show¬k<j+1 by omega)]));exact BI);·exact BJ
theorem LA (k:Nat) (kind:Int) (s:ByteArray) (r:Int) (check:Bool) (addon:ByteArray) (w:World) (hs:s.size<=9223372036854775807) (hf:∀w,Calls prog 62 #[.int .i64 kind] w (YI k w)):
 Calls prog 20 #[.int .i64 kind,.string s,.agg #[.int .i64 r,.bool check,.string addon]] w (EncR (Tw.encK k s.data.toList r check) w):=by
 have HF:=B0 hf
 have HT:=B0 (Tw.encK.eq_1 k s.data.toList r check)
 rw[Za]at HT
 generalize Tw.encK k s.data.toList r check=res at*
 clear hf
 by_cases hr:r≠2∧r≠3
 ·rw[G0 hr]at HT;have d1:(r !=2)=true:=N2.2 hr.1;have d2:(r !=3)=true:=N2.2 hr.2;clear hr;exact Qo
 ·rw[D0 hr]at HT;have hr3:r=2∨r=3:=C0;clear hr;rcases hr3 with rfl|rfl;(·exact bI k kind s check addon w hs HF HT);·exact bJ k kind s check addon w hs HF HT
theorem bK (l:List Int):∀a:Int,l.foldl min a<=a∧∀x∈l,l.foldl min a<=x:=by
 induction l with
 |nil=>intro a;simp
 |cons y l ih=>intro a;have h:=ih (min a y);exact BK
theorem bL (l:List Int):∀a:Int,a<=l.foldl max a∧∀x∈l,x<=l.foldl max a:=by
 induction l with
 |nil=>intro a;simp
 |cons y l ih=>intro a;have h:=ih (max a y);exact BK
theorem bM (l:List Int):∀a:Int,l.foldl min a=a∨l.foldl min a∈l:=by
 induction l with
 |nil=>intro a;simp
 |cons y l ih=>intro a;simp only[I3];rcases ih (min a y)with h|h;(·rw[h];rcases Int.le_total a y with h1|h1;(·exact .inl C0);·exact .inr (by rw[show min a y=y by omega];exact B1 ..));·exact LB
theorem bP (l:List Int):∀a:Int,l.foldl max a=a∨l.foldl max a∈l:=by
 induction l with
 |nil=>intro a;simp
 |cons y l ih=>intro a;simp only[I3];rcases ih (max a y)with h|h;(·rw[h];rcases Int.le_total a y with h1|h1;(·exact .inr (by rw[show max a y=y by omega];exact B1 ..));·exact .inl C0);·exact LB
theorem BL {ws:List Int} (h:ws≠ []):ws.getD 0 0∈ws:=by
 cases ws with
 |nil=>exact absurd rfl h
 |cons y l=>simp
theorem BM {ws:List Int} (h:ws≠ []):Tw.lo ws∈ws:=by
 unfold Tw.lo;rcases bM ws (ws.getD 0 0)with e|e;·rw[e];exact BL h
 ·exact e
theorem BN {ws:List Int} (h:ws≠ []):Tw.hi ws∈ws:=by
 unfold Tw.hi;rcases bP ws (ws.getD 0 0)with e|e;·rw[e];exact BL h
 ·exact e
theorem bQ {ws:List Int} {x:Int} (h:x∈ws):Tw.lo ws<=x:=(bK ws (ws.getD 0 0)).2 x h
theorem bR {ws:List Int} {x:Int} (h:x∈ws):x<=Tw.hi ws:=(bL ws (ws.getD 0 0)).2 x h
theorem RH {ws:List Int} (h:Tw.inRng ws=true) {x:Int} (hx:x∈ws):1<=x∧x<=65536:=by unfold Tw.inRng at h;rw[S1]at h;have:=h x hx;exact V6
theorem bT (ws l:List Int) (h:∀x∈l,1<=x∧x<=65536) (h2:1<=Tw.hi ws∧Tw.hi ws<=65536):1<=Tw.leastWide ws l∧Tw.leastWide ws l<=65536:=by
 unfold Tw.leastWide
 generalize Tw.hi ws=a at h2⊢
 induction l generalizing a with
 |nil=>exact h2
 |cons y l ih=>exact BO
theorem bU (ws l:List Int) (h:∀x∈l,1<=x∧x<=65536) (h2:1<=Tw.lo ws∧Tw.lo ws<=65536):1<=Tw.mostNarrow ws l∧Tw.mostNarrow ws l<=65536:=by
 unfold Tw.mostNarrow
 generalize Tw.lo ws=a at h2⊢
 induction l generalizing a with
 |nil=>exact h2
 |cons y l ih=>exact BO
theorem BP (ws:List Int) (j:Nat) (h:j<ws.length):ws.take (j+1)=ws.take j++[ws.getD j 0]:=by rw[NH h,A1,P0 h];rfl
theorem BQ (ws:List Int) (j:Nat) (h:j<ws.length):ws.getD j 0∈ws:=LC
theorem bV (ws l:List Int) (x:Int):Tw.leastWide ws (l++[x])=if Tw.isWide ws x then min (Tw.leastWide ws l) x else Tw.leastWide ws l:=by simp[Tw.leastWide]
theorem bW (ws l:List Int) (x:Int):Tw.mostNarrow ws (l++[x])=if Tw.isWide ws x then Tw.mostNarrow ws l else max (Tw.mostNarrow ws l) x:=by simp[Tw.mostNarrow]
theorem bX (ws:List Int):Tw.lo ws=Lib.minOf ws:=by cases ws<;>rfl
theorem bY (ws:List Int):Tw.hi ws=Lib.maxOf ws:=by cases ws<;>rfl
theorem BR (b off cap:Nat) (ws:List Int) (w:World) (hc:∀j,j<ws.length->w.cell? ⟨b,off+j,none⟩=some (.int .i64 (ws.getD j 0))) (hl:ws.length<=1000000000):
 Calls prog 105 #[.slice (some ⟨b,off,none⟩) ws.length cap] w fun e w'=>e=.returned (.bool (Tw.inRng ws))∧w=w':=by
 have HC:=B0 hc
 have HT:=B0 (Tw.inRng.eq_1 ws)
 generalize Tw.inRng ws=res at*
 clear hc
 go_enter func105,ntmps105
 go_wp2
 go_loop [7] (fun i=>∃j:Nat,j<=ws.length∧i=.int .i64 (j:Int)∧Hid (∀x∈ws.take j,1<=x∧x<=65536)) (fun i=>ws.length-(intOf i).toNat)
 case atStart=>exact LD
 case round=>obtain⟨j,hj,rfl,HB⟩:=hrel;by_cases hlt:j<ws.length;(·have hcj:=HC.out j hlt;have HM:=B0 (BQ ws j hlt);have HTA:=B0 (BP ws j hlt);generalize ws.getD j 0=x at*;by_cases hx:1<=x∧x<=65536;(·obtain⟨hx1,hx2⟩:=hx;go_wp2;go_round;(case rel=>exact⟨j+1,by omega,by go_num,B0 (fun y hy=>by rw[HTA.out,M2]at hy;rcases hy with h|h;(·exact HB.out y h);·rw[Y2]at h;subst h;omega)⟩);case measure=>exact QD);·have HN:Hid (res=false):=B0 (by rw[HT.out,VW];exact⟨x,HM.out,by simp;omega⟩);by_cases h1:x<1;(·clear hx;exact LE);·have h2:65536<x:=C0;clear hx;exact LE);·obtain rfl:j=ws.length:=C0;rw[E5]at HB;have HN:Hid (res=true):=B0 (by rw[HT.out,S1];intro x hx;simpa using HB.out x hx);clear hj hlt;exact LE
def bZ (r:List Bool×Int) (w:World) (e:Ending) (w':World):Prop:=∃v,e=.returned (.tuple #[v,.int .i64 r.2])∧Sl w' v (r.1.map encT)∧Ext w w'
theorem BS (v:Value) (ws:List Int) (w:World) (hv:Sl w v (ws.map encI)) (hl:ws.length<=1000000):
 Calls prog 63 #[v] w (bZ (Tw.wide ws) w):=by
 have HT:=B0 (Tw.wide.eq_1 ws)
 generalize Tw.wide ws=res at*
 by_cases h0:ws=[]
 ·rw[G0 h0]at HT;subst h0;obtain⟨a,c,rfl⟩:=hv.form;simp only[XC,U2];clear hv;go_enter func63,ntmps63;exact BT
 ·rw[D0 h0]at HT;rcases hv with⟨h1,_⟩|⟨b,off,cap,rfl,hb,hcell⟩;(·exact absurd D9 h0);rw[N0]at hcell⊢;have hpos:0<ws.length:=F6.2 h0;have hlb:((ws.length:Int)==0)=false:=V0.2 C0;have HC:Hid (∀w',Ext w w'->∀j,j<ws.length->w'.cell? ⟨b,off+j,none⟩=some (.int .i64 (ws.getD j 0))):=B0 (fun w' hx j hj=>by rw[hx.cell (p:=⟨b,off+j,none⟩) hb,hcell j hj,X2,A1,P0 hj];rfl);have HI:=B0 (fun w' hx=>BR b off cap ws w' (HC.out w' hx) C0);have HLO:=B0 (BM h0);have HHI:=B0 (BN h0);clear hcell h0;cases hrg:Tw.inRng ws;(·rw[hrg]at HI HT;rw[G0 rfl]at HT;clear hrg;go_enter func63,ntmps63;go_wp2_with fail;refine(HI.out _ (Ext.refl _)).mono ?_;rintro e w1 ⟨rfl,rfl⟩;exact BT)
  ·have HR:=B0 (fun x hx=>RH hrg (x:=x) hx);rw[hrg]at HI HT;rw[D0 Bool.noConfusion]at HT;clear hrg;have hmk:=B8 (P:=prog) 26 4 (.bool false) 1 underlying26 M0 rfl .i64 .i64 ws.length C0 C0;have HMIN:Hid (∀w',Ext w w'->Calls prog 106 #[.slice (some ⟨b,off,none⟩) ws.length cap] w' fun e w''=>e=.returned (.int .i64 (Tw.lo ws))∧w'=w''):=B0 (fun w' hx=>by have:=Tryz.slices_Min_int b off ws.length cap ws w' hpos (I0 _) C0 (HC.out w' hx);rw[E5,<-bX]at this;exact this.mono fun _ _ h=>⟨h.1,h.2.symm⟩);have HMAX:Hid (∀w',Ext w w'->Calls prog 107 #[.slice (some ⟨b,off,none⟩) ws.length cap] w' fun e w''=>e=.returned (.int .i64 (Tw.hi ws))∧w'=w''):=B0 (fun w' hx=>by have:=Tryz.slices_Max_int b off ws.length cap ws w' hpos (I0 _) C0 (HC.out w' hx);rw[E5,<-bY]at this;exact this.mono fun _ _ h=>⟨h.1,h.2.symm⟩);have hlo:=HR.out _ HLO.out;have hhi:=HR.out _ HHI.out;obtain⟨hlo1,hlo2⟩:=hlo;obtain⟨hhi1,hhi2⟩:=hhi;have HW:Hid (∀x,Tw.isWide ws x=decide (Tw.lo ws+Tw.hi ws<2*x)):=B0 (fun x=>rfl);have HLW:=B0 (fun j=>bT ws (ws.take j) (fun x hx=>HR.out x (L5 hx)) ⟨hhi1,hhi2⟩);have HMN:=B0 (fun j=>bU ws (ws.take j) (fun x hx=>HR.out x (L5 hx)) ⟨hlo1,hlo2⟩);have HL0:Hid (Tw.leastWide ws []=Tw.hi ws∧Tw.mostNarrow ws []=Tw.lo ws):=B0 ⟨rfl,rfl⟩;clear HLO HHI;generalize Tw.lo ws=lo at*;generalize Tw.hi ws=hi at*;by_cases h23:2*hi<3*lo;(·rw[G0 h23]at HT;go_enter func63,ntmps63;go_wp2_with fail;refine(HI.out _ (Ext.refl _)).mono ?_;rintro e w1 ⟨rfl,rfl⟩;go_wp2_with fail;refine(HMIN.out _ Xe).mono ?_;rintro e w1 ⟨rfl,rfl⟩;go_wp2_with fail;refine(HMAX.out _ Xe).mono ?_;rintro e w1 ⟨rfl,rfl⟩;go_wp2;go_ret2;refine⟨.slice (some ⟨w.heap.size,0,none⟩) ws.length ws.length,by rw[HT.out];rfl,?_,Xe⟩;rw[HT.out];refine(Sl.row (XV w (.bool false) ws.length 4)).congr ?_;apply B9;(·simp);·intro i h1 h2;simp[encT])
   ·rw[D0 h23]at HT;go_enter func63,ntmps63;go_wp2_with fail;refine(HI.out _ (Ext.refl _)).mono ?_;rintro e w1 ⟨rfl,rfl⟩;go_wp2_with fail;refine(HMIN.out _ Xe).mono ?_;rintro e w1 ⟨rfl,rfl⟩;go_wp2_with fail;refine(HMAX.out _ Xe).mono ?_;rintro e w1 ⟨rfl,rfl⟩;go_wp2;clear hmk;go_loopw [34,7,8] (fun i a c wr=>∃j:Nat,j<=ws.length∧i=.int .i64 (j:Int)∧a=.int .i64 (Tw.leastWide ws (ws.take j))∧c=.int .i64 (Tw.mostNarrow ws (ws.take j))∧wr.rowIs w.heap.size 4 ws.length (fun k=>if k<j then encT (Tw.isWide ws (ws.getD k 0))else .bool false)∧Ext w wr) (fun i _ _ _=>ws.length-(intOf i).toNat);(case atStart=>refine⟨0,U0 _,rfl,?_,?_,(XV w _ _ _).congr (fun i _=>by simp),Xe⟩;(·rw[W9,HL0.out.1]);·rw[W9,HL0.out.2]);case round=>
     obtain⟨j,hj,rfl,rfl,rfl,hrow,hxr⟩:=hrel;obtain⟨b1,b2⟩:=HLW.out j;obtain⟨b3,b4⟩:=HMN.out j;by_cases hlt:j<ws.length
     ·have hcj:=hrow.cell hlt;have hfj:=hrow.frozen j;have hwj:=HC.out wr hxr j hlt;obtain⟨b5,b6⟩:=HR.out _ (BQ ws j hlt);have HS1:=B0 (bV ws (ws.take j) (ws.getD j 0));have HS2:=B0 (bW ws (ws.take j) (ws.getD j 0));rw[<-BP ws j hlt]at HS1 HS2;have HWJ:=B0 (HW.out (ws.getD j 0));have hbn:b≠w.heap.size:=C0;have HRW:∀bb,Tw.isWide ws (ws.getD j 0)=bb->Hid ((wr.setCell ⟨w.heap.size,j,none⟩ (.bool bb)).rowIs w.heap.size 4 ws.length (fun k=>if k<j+1 then encT (Tw.isWide ws (ws.getD k 0))else .bool false)):=fun bb hbb=>
       B0 ((hrow.set j (.bool bb)).congr (fun k hk=>by by_cases h1:k=j;(·exact LF);·rw[D0 h1];by_cases h2:k<j;(·exact C9);·rw[D0 h2,D0 (show¬k<j+1 by omega)]))
      have HX:=B0 (fun u=>hxr.setCell (p:=⟨w.heap.size,j,none⟩) (I0 _) u);generalize Tw.leastWide ws (ws.take j)=lw at*;generalize Tw.mostNarrow ws (ws.take j)=mn at*;by_cases hw:lo+hi<2*ws.getD j 0;(·have hiw:Tw.isWide ws (ws.getD j 0)=true:=(by rw[HWJ.out];simpa using hw);have HR1:=HRW true hiw;rw[hiw,G0 rfl]at HS1 HS2;exact BU);·have hiw:Tw.isWide ws (ws.getD j 0)=false:=(by rw[HWJ.out];simpa using hw);have HR1:=HRW false hiw;rw[hiw,D0 Bool.noConfusion]at HS1 HS2;exact BU
     ·obtain rfl:j=ws.length:=C0;rw[E5]at b1 b2 b3 b4⊢;have hsl:=Sl.row hrow;clear hj hlt hrow;generalize Tw.leastWide ws ws=lw at*;generalize Tw.mostNarrow ws ws=mn at*;by_cases h5:2*lw<3*mn;(·rw[G0 h5]at HT;go_wp2;go_ret2;exact⟨.slice none 0 0,by rw[HT.out];rfl,by rw[HT.out];exact UH _,hxr⟩);·rw[D0 h5]at HT;go_wp2;go_ret2;refine⟨.slice (some ⟨w.heap.size,0,none⟩) ws.length ws.length,by rw[HT.out];rfl,?_,hxr⟩;rw[HT.out];refine hsl.congr ?_;apply B9;(·simp);·intro i h1 h2;simp at h1;simp[h1]
end
end Go.Proofs.YtbngggoccndefaaGreatDoor
