/-
  Laid.
-/
import Derived.Test.YtbngggoccndefaaGreatDoorLe21
set_option maxHeartbeats 8000000
set_option maxRecDepth 100000
set_option linter.all false
namespace Go.Proofs.Enc
open Go.Proofs.Tryz
section
open Go.RowKit
def ZmI(l:List UInt8)(h:(Tw.comp39 l false).2=0):(Tw.comp39 l false).1=42::l++[42]:=by unfold Tw.comp39 at h⊢;exact pS
def pT(l:List UInt8)(check:Bool)(h:(Tw.compCb l check).2=0):2<=l.length/\∀c∈l,0<=Lib.indexByte Tw.Bb c:=by
 rw[yF]at h;by_cases g0:l.length<2;·rw[G0 g0]at h;simp at h
 rw[D0 g0]at h;cases g1:Tw.only (l.take 1) Tw.Es;·rw[g1,G0 rfl]at h;simp at h
 cases g2:Tw.only (l.drop (l.length-1)) Tw.Es;·rw[g1,g2,D0 Bool.noConfusion,G0 rfl]at h;simp at h
 cases g3:Tw.only ((l.drop 1).take (l.length-2)) Tw.Ep;·rw[g1,g2,g3,D0 Bool.noConfusion,D0 Bool.noConfusion,G0 rfl]at h;simp at h
 exact⟨by omega,jK l C0 g1 g2 g3⟩
def ZmJ(l:List UInt8)(h:(Tw.compCb l false).2=0):(Tw.compCb l false).1=l:=by
 unfold Tw.compCb at h⊢;split;·exact GK
 .rename_i g;rw[D0 g]at h;split;(·exact GK);·rename_i g;rw[D0 g]at h;split;(·exact GK);·rename_i g;rw[D0 g]at h;exact pS
def ZmF(l:List UInt8)(h:2<=l.length):(Tw.cbc l).length=l.length+1:=by unfold Tw.cbc;simp only[S0,J1,X1,B1,I3];omega
def pV(k:Int)(l:List UInt8)(h:l.length<=1000):(Cd.app k l).1.length<=1002:=by
 have:=yC k l;unfold Cd.app
 repeat' split
 all_goals simp only[S0,I3];omega
def ZnV(l:List UInt8)(check:Bool)(h0:1<=l.length)(hl:l.length<=1000)(h:(Tw.compItf l check).2=0):
 (Tw.compItf l check).1=(if check then(Cd.app 1 l).1 else l)/\(Tw.compItf l check).1.length%2=0/\∀c∈(Tw.compItf l check).1,0<=Lib.indexByte Tw.IH c:=by
 have he:=yG l check h0 hl;rw[h]at he;have ho:Tw.only l Tw.IH=true:=pL;have hd:∀c∈l,0<=Lib.indexByte Tw.IH c:=by intro c hc;have ho':=ho;rw[XU,M1]at ho';simpa using ho' c hc
 cases check
 .unfold Tw.compItf at h⊢;rw[ho,D0 (show¬(true=false)from Bool.noConfusion),G0 rfl]at h⊢;by_cases g:l.length%2=0;(·rw[G0 g];exact⟨rfl,g,hd⟩);·exact yL
 .have hz:=yE l h0 C0 ho;rw[ZjE l hl h0 h,yJ 1 l C0 hz];unfold Tw.compItf at h;rw[ho,D0 (show¬(true=false)from Bool.noConfusion),D0 (show¬(true=false)from Bool.noConfusion),G0 hz]at h;refine⟨rfl,?_,?_⟩;(·by_cases g:(l++(Cd.compI 1 l).1).length%2=0;(·exact g);·exact yL);·intro c hc;rw[E3]at hc;rcases hc with hc|hc;(·exact hd c hc);·rw[EY 1 l hz]at hc;exact uI l c hc
def ZlU(s C:ByteArray)(p5:ByteArray)(w:World)(h0:1<=s.size)(hs:s.size<=1000)(x8:C.size<=1100)(he:C.size%2=0)(HD:Hid (∀c∈C.data.toList,0<=Lib.indexByte Tw.IH c))(HE:Hid ((Tw.IJ 2 s.data.toList false).2=0))
 (HX:C=s)
 :Calls prog 71 #[.int .i64 7,.string s,.agg #[.int .i64 2,.bool false,.string p5]] w (EncR (Tw.widths 2 (Tw.drawItf C.data.toList),0) w):=by
 have HW:=B0 (λw=>OM s false w h0 hs);rw[HE.out]at HW;have HI:=B0 (λw=>GH C 2 w C0 he HD);have d0:((s.size:Int)==0)=false:=QJ;have d1:decide (1000<(s.size:Int))=false:=X0;clear HE;subst HX;go_enter func71,ntmps71;go_wp2_with fail;refine(HW.out _).mono ?_;rintro e w1 ⟨rfl,rfl⟩;have b7:=Ext.refl (w.alloc (.cells #[.int .i64 2,.bool false,.string p5] 24));clear HW;go_wp2_with fail;refine(HI.out _).mono ?_;rintro e w2 ⟨v,rfl,b8,j0⟩;have j8:=b8.sl;clear b8;go_wp2;go_ret2;exact⟨_,rfl,j8,(((Ext.refl w).alloc _).trans b7).trans j0⟩
def ZlV(s C:ByteArray)(p5:ByteArray)(w:World)(h0:1<=s.size)(hs:s.size<=1000)(x8:C.size<=1100)(he:C.size%2=0)(HD:Hid (∀c∈C.data.toList,0<=Lib.indexByte Tw.IH c))(HE:Hid ((Tw.IJ 2 s.data.toList false).2=0))
 (HX:C=s)
 :Calls prog 71 #[.int .i64 7,.string s,.agg #[.int .i64 3,.bool false,.string p5]] w (EncR (Tw.widths 3 (Tw.drawItf C.data.toList),0) w):=by
 have HW:=B0 (λw=>OM s false w h0 hs);rw[HE.out]at HW;have HI:=B0 (λw=>GH C 3 w C0 he HD);have d0:((s.size:Int)==0)=false:=QJ;have d1:decide (1000<(s.size:Int))=false:=X0;clear HE;subst HX;go_enter func71,ntmps71;go_wp2_with fail;refine(HW.out _).mono ?_;rintro e w1 ⟨rfl,rfl⟩;have b7:=Ext.refl (w.alloc (.cells #[.int .i64 3,.bool false,.string p5] 24));clear HW;go_wp2_with fail;refine(HI.out _).mono ?_;rintro e w2 ⟨v,rfl,b8,j0⟩;have j8:=b8.sl;clear b8;go_wp2;go_ret2;exact⟨_,rfl,j8,(((Ext.refl w).alloc _).trans b7).trans j0⟩
def ZlW(s C:ByteArray)(p5:ByteArray)(w:World)(h0:1<=s.size)(hs:s.size<=1000)(x8:C.size<=1100)(he:C.size%2=0)(HD:Hid (∀c∈C.data.toList,0<=Lib.indexByte Tw.IH c))(HE:Hid ((Tw.IJ 2 s.data.toList true).2=0))
 (HK:Hid (∀w,Calls prog 126 #[.int .i64 7,.string s] w λe w'=>e=.returned (.string C)/\Ext w w'))
 :Calls prog 71 #[.int .i64 7,.string s,.agg #[.int .i64 2,.bool true,.string p5]] w (EncR (Tw.widths 2 (Tw.drawItf C.data.toList),0) w):=by
 have HW:=B0 (λw=>OM s true w h0 hs);rw[HE.out]at HW;have HI:=B0 (λw=>GH C 2 w C0 he HD);have d0:((s.size:Int)==0)=false:=QJ;have d1:decide (1000<(s.size:Int))=false:=X0;clear HE;go_enter func71,ntmps71;go_wp2_with fail;refine(HW.out _).mono ?_;rintro e w1 ⟨rfl,rfl⟩;go_wp2_with fail;refine(HK.out _).mono ?_;rintro e w1 ⟨rfl,b7⟩;obtain⟨hc,Gg⟩:=b7.cells;have hz:w.heap.size<w1.heap.size:=O7;clear HW;go_wp2_with fail;refine(HI.out _).mono ?_;rintro e w2 ⟨v,rfl,b8,j0⟩;have j8:=b8.sl;clear b8;go_wp2;go_ret2;exact⟨_,rfl,j8,(((Ext.refl w).alloc _).trans b7).trans j0⟩
def ZlX(s C:ByteArray)(p5:ByteArray)(w:World)(h0:1<=s.size)(hs:s.size<=1000)(x8:C.size<=1100)(he:C.size%2=0)(HD:Hid (∀c∈C.data.toList,0<=Lib.indexByte Tw.IH c))(HE:Hid ((Tw.IJ 2 s.data.toList true).2=0))
 (HK:Hid (∀w,Calls prog 126 #[.int .i64 7,.string s] w λe w'=>e=.returned (.string C)/\Ext w w'))
 :Calls prog 71 #[.int .i64 7,.string s,.agg #[.int .i64 3,.bool true,.string p5]] w (EncR (Tw.widths 3 (Tw.drawItf C.data.toList),0) w):=by
 have HW:=B0 (λw=>OM s true w h0 hs);rw[HE.out]at HW;have HI:=B0 (λw=>GH C 3 w C0 he HD);have d0:((s.size:Int)==0)=false:=QJ;have d1:decide (1000<(s.size:Int))=false:=X0;clear HE;go_enter func71,ntmps71;go_wp2_with fail;refine(HW.out _).mono ?_;rintro e w1 ⟨rfl,rfl⟩;go_wp2_with fail;refine(HK.out _).mono ?_;rintro e w1 ⟨rfl,b7⟩;obtain⟨hc,Gg⟩:=b7.cells;have hz:w.heap.size<w1.heap.size:=O7;clear HW;go_wp2_with fail;refine(HI.out _).mono ?_;rintro e w2 ⟨v,rfl,b8,j0⟩;have j8:=b8.sl;clear b8;go_wp2;go_ret2;exact⟨_,rfl,j8,(((Ext.refl w).alloc _).trans b7).trans j0⟩
def ck6(s:ByteArray)(w:World)(hs:s.size<=1000)(h:(Tw.compCb s.data.toList true).2=0):
 Calls prog 126 #[.int .i64 6,.string s] w λe w'=>e=.returned (strV (Tw.chkK 1 s.data.toList))/\Ext w w':=by
 obtain⟨a1,a2⟩:=pT _ _ h;rw[Za]at a1;exact Zj8 s w C0 C0 (B0 a2)
def yM(k:Nat)(kind:Int)(hk:(kind=5/\k=0)\/(kind=6/\k=1)\/(kind=7/\k=2))(s:ByteArray)(r:Int)(hr:r=2\/r=3)(check:Bool)(p5:ByteArray)(w:World)(h0:1<=s.size)(hs:s.size<=1000)(h:(Tw.IJ k s.data.toList check).2=0):
 Calls prog 71 #[.int .i64 kind,.string s,.agg #[.int .i64 r,.bool check,.string p5]] w (EncR (Tw.widths r (Tw.Er k (Tw.IJ k s.data.toList check).1),0) w):=by
 have hl:s.data.toList.length<=1000:=by rw[Za];exact hs
 have Ml:1<=s.data.toList.length:=by rw[Za];exact h0
 rcases hk with⟨rfl,rfl⟩|⟨rfl,rfl⟩|⟨rfl,rfl⟩
 .cases check;(·have e:=ZmI _ h;show Calls _ _ _ _ (EncR (Tw.widths r (Tw.Er 0 (Tw.comp39 s.data.toList false).1),0) w);rw[e];have hX:(⟨#[42]⟩++s++⟨#[42]⟩:ByteArray)=⟨(42::s.data.toList++[42]).toArray⟩:=Zi (by rw[NP];simp);have o4:(⟨(42::s.data.toList++[42]).toArray⟩:ByteArray).size<=1100:=(by show((42::s.data.toList++[42]).toArray).size<=1100;rw[LJ];exact jU);rcases hr with rfl|rfl;(·exact ZlM s ⟨(42::s.data.toList++[42]).toArray⟩ p5 w h0 hs o4 (B0 h) (B0 hX));·exact ZlN s ⟨(42::s.data.toList++[42]).toArray⟩ p5 w h0 hs o4 (B0 h) (B0 hX));·have e:=ZjC _ hl Ml h;show Calls _ _ _ _ (EncR (Tw.widths r (Tw.Er 0 (Tw.comp39 s.data.toList true).1),0) w);rw[e];have IL:=pV 7 s.data.toList hl;have Aq:=λw=>Zj7 s w C0;change∀w,Calls _ _ _ _ λe w'=>e=.returned (.string ⟨(Cd.app 7 s.data.toList).1.toArray⟩)/\Ext w w' at Aq;generalize(Cd.app 7 s.data.toList).1=D at*;have hX:(⟨#[42]⟩++⟨D.toArray⟩++⟨#[42]⟩:ByteArray)=⟨(42::D++[42]).toArray⟩:=Zi (by rw[NP];simp);have o4:(⟨(42::D++[42]).toArray⟩:ByteArray).size<=1100:=(by simp[ByteArray.size];omega);rcases hr with rfl|rfl;(·exact ZlO s ⟨(42::D++[42]).toArray⟩ p5 w h0 hs o4 (B0 h) ⟨D.toArray⟩ (B0 Aq) (B0 hX));·exact ZlP s ⟨(42::D++[42]).toArray⟩ p5 w h0 hs o4 (B0 h) ⟨D.toArray⟩ (B0 Aq) (B0 hX)
 .cases check;(·have e:=ZmJ _ h;show Calls _ _ _ _ (EncR (Tw.widths r (Tw.Er 1 (Tw.compCb s.data.toList false).1),0) w);rw[e];rcases hr with rfl|rfl;(·exact ZlQ s s p5 w h0 hs C0 (B0 h) rfl);·exact ZlR s s p5 w h0 hs C0 (B0 h) rfl);·have e:=ZjD _ h;show Calls _ _ _ _ (EncR (Tw.widths r (Tw.Er 1 (Tw.compCb s.data.toList true).1),0) w);rw[e];have Aq:=λw=>ck6 s w hs h;have hln:=ZmF s.data.toList (pT _ _ h).1;change∀w,Calls _ _ _ _ λe w'=>e=.returned (.string ⟨(Tw.cbc s.data.toList).toArray⟩)/\Ext w w' at Aq;generalize Tw.cbc s.data.toList=D at*;have o4:(⟨D.toArray⟩:ByteArray).size<=1100:=(by simp[ByteArray.size];omega);rcases hr with rfl|rfl;(·exact ZlS s ⟨D.toArray⟩ p5 w h0 hs o4 (B0 h) ⟨D.toArray⟩ (B0 Aq) rfl);·exact ZlT s ⟨D.toArray⟩ p5 w h0 hs o4 (B0 h) ⟨D.toArray⟩ (B0 Aq) rfl
 .obtain⟨e1,e2,e3⟩:=ZnV s.data.toList check Ml hl h;show Calls _ _ _ _ (EncR (Tw.widths r (Tw.drawItf (Tw.compItf s.data.toList check).1),0) w);cases check;(·rw[D0 Bool.noConfusion]at e1;rw[e1]at e2 e3⊢;rw[Za]at e2;rcases hr with rfl|rfl;(·exact ZlU s s p5 w h0 hs C0 e2 (B0 e3) (B0 h) rfl);·exact ZlV s s p5 w h0 hs C0 e2 (B0 e3) (B0 h) rfl);·rw[G0 rfl]at e1;rw[e1]at e2 e3⊢;have IL:=pV 1 s.data.toList hl;have Aq:=λw=>Zj9 s w C0;change∀w,Calls _ _ _ _ λe w'=>e=.returned (.string ⟨(Cd.app 1 s.data.toList).1.toArray⟩)/\Ext w w' at Aq;generalize(Cd.app 1 s.data.toList).1=D at*;have o4:(⟨D.toArray⟩:ByteArray).size=D.length:=(by simp[ByteArray.size]);rcases hr with rfl|rfl;(·exact ZlW s ⟨D.toArray⟩ p5 w h0 hs C0 C0 (B0 e3) (B0 h) (B0 Aq));·exact ZlX s ⟨D.toArray⟩ p5 w h0 hs C0 C0 (B0 e3) (B0 h) (B0 Aq)
def Znw(s:ByteArray)(r:Int)(check:Bool)(p5:ByteArray)(w:World)(hs:s.size<=9223372036854775807):
 Calls prog 71 #[.int .i64 5,.string s,.agg #[.int .i64 r,.bool check,.string p5]] w (EncR (Tw.encK 0 s.data.toList r check) w):=by
 have HT:=B0 (Tw.encK.eq_1 0 s.data.toList r check);rw[Za]at HT;generalize Tw.encK 0 s.data.toList r check=res at*;by_cases hr:r≠2/\r≠3
 .exact yN
 rw[D0 hr]at HT;have Sw:r=2\/r=3:=by omega
 obtain⟨b2,b3,d2,d3,d23⟩:∃b2 b3,(r !=2)=b2/\(r !=3)=b3/\(b2&&b3)=false:=⟨_,_,rfl,rfl,by rcases Sw with rfl|rfl<;>rfl⟩;clear hr;by_cases h0:s.size=0
 .exact yO
 rw[D0 (λe=>h0 ((C8 s).1 e))]at HT;have d0:((s.size:Int)==0)=false:=QJ;have h1:1<=s.size:=by omega
 clear h0;by_cases hl:1000<s.size
 .exact yP
 rw[D0 hl]at HT;have Ih:s.size<=1000:=by omega
 by_cases he:(Tw.IJ 0 s.data.toList check).2≠0
 .rw[G0 he]at HT;have HW:=B0 (λw=>OL s check w h1 Ih);have de:((Tw.IJ 0 s.data.toList check).2 !=0)=true:=R1.2 he;generalize(Tw.IJ 0 s.data.toList check).2=ee at*;exact yQ
 rw[D0 he]at HT;rw[HT.out];exact yM 0 5 I0 s r Sw check p5 w h1 Ih (L5 he)
def Znx(s:ByteArray)(r:Int)(check:Bool)(p5:ByteArray)(w:World)(hs:s.size<=9223372036854775807):
 Calls prog 71 #[.int .i64 6,.string s,.agg #[.int .i64 r,.bool check,.string p5]] w (EncR (Tw.encK 1 s.data.toList r check) w):=by
 have HT:=B0 (Tw.encK.eq_1 1 s.data.toList r check);rw[Za]at HT;generalize Tw.encK 1 s.data.toList r check=res at*;by_cases hr:r≠2/\r≠3
 .exact yN
 rw[D0 hr]at HT;have Sw:r=2\/r=3:=by omega
 obtain⟨b2,b3,d2,d3,d23⟩:∃b2 b3,(r !=2)=b2/\(r !=3)=b3/\(b2&&b3)=false:=⟨_,_,rfl,rfl,by rcases Sw with rfl|rfl<;>rfl⟩;clear hr;by_cases h0:s.size=0
 .exact yO
 rw[D0 (λe=>h0 ((C8 s).1 e))]at HT;have d0:((s.size:Int)==0)=false:=QJ;have h1:1<=s.size:=by omega
 clear h0;by_cases hl:1000<s.size
 .exact yP
 rw[D0 hl]at HT;have Ih:s.size<=1000:=by omega
 by_cases he:(Tw.IJ 1 s.data.toList check).2≠0
 .rw[G0 he]at HT;have HW:=B0 (λw=>ON s check w h1 Ih);have de:((Tw.IJ 1 s.data.toList check).2 !=0)=true:=R1.2 he;generalize(Tw.IJ 1 s.data.toList check).2=ee at*;exact yQ
 rw[D0 he]at HT;rw[HT.out];exact yM 1 6 I0 s r Sw check p5 w h1 Ih (L5 he)
def Zny(s:ByteArray)(r:Int)(check:Bool)(p5:ByteArray)(w:World)(hs:s.size<=9223372036854775807):
 Calls prog 71 #[.int .i64 7,.string s,.agg #[.int .i64 r,.bool check,.string p5]] w (EncR (Tw.encK 2 s.data.toList r check) w):=by
 have HT:=B0 (Tw.encK.eq_1 2 s.data.toList r check);rw[Za]at HT;generalize Tw.encK 2 s.data.toList r check=res at*;by_cases hr:r≠2/\r≠3
 .exact yN
 rw[D0 hr]at HT;have Sw:r=2\/r=3:=by omega
 obtain⟨b2,b3,d2,d3,d23⟩:∃b2 b3,(r !=2)=b2/\(r !=3)=b3/\(b2&&b3)=false:=⟨_,_,rfl,rfl,by rcases Sw with rfl|rfl<;>rfl⟩;clear hr;by_cases h0:s.size=0
 .exact yO
 rw[D0 (λe=>h0 ((C8 s).1 e))]at HT;have d0:((s.size:Int)==0)=false:=QJ;have h1:1<=s.size:=by omega
 clear h0;by_cases hl:1000<s.size
 .exact yP
 rw[D0 hl]at HT;have Ih:s.size<=1000:=by omega
 by_cases he:(Tw.IJ 2 s.data.toList check).2≠0
 .rw[G0 he]at HT;have HW:=B0 (λw=>OM s check w h1 Ih);have de:((Tw.IJ 2 s.data.toList check).2 !=0)=true:=R1.2 he;generalize(Tw.IJ 2 s.data.toList check).2=ee at*;exact yQ
 rw[D0 he]at HT;rw[HT.out];exact yM 2 7 I0 s r Sw check p5 w h1 Ih (L5 he)
def Zh5(kind:Int)(s:ByteArray)(r:Int)(check:Bool)(p5:ByteArray)(w:World)(hs:s.size<=9223372036854775807):
 Calls prog 71 #[.int .i64 kind,.string s,.agg #[.int .i64 r,.bool check,.string p5]] w (EncR (Tw.enc kind s.data.toList r check) w):=by
 unfold Tw.enc;split
 .rename_i h;subst h;exact Znw s r check p5 w hs
 split
 .rename_i h;subst h;exact Znx s r check p5 w hs
 split
 .rename_i h;subst h;exact Zny s r check p5 w hs
 rename_i h5 h6 h7;have d5:(kind !=5)=true:=R1.2 h5;have d6:(kind !=6)=true:=R1.2 h6;have d7:(kind !=7)=true:=R1.2 h7;clear h5 h6 h7;go_enter func71,ntmps71;go_wp2;go_ret2;exact⟨.slice none 0 0,rfl,U9 _,Xe⟩
def Gs.tabL:List (List UInt8×(Int×Int)):=[([48,48],(2,18)),([48,49],(2,14)),([48,50],(2,14)),([49,49],(3,6)),([49,50],(3,6)),([49,51],(3,6)),([49,53],(3,6)),([49,54],(3,6)),([49,55],(3,6)),([50,48],(1,2)),([51,48],(4,8)),([51,55],(4,8)),([49,48],(5,20)),([50,49],(5,20)),([50,50],(5,20)),([50,53,52],(5,20)),([56,48,50,48],(5,25)),([50,52,48],(5,30)),([50,52,49],(5,30)),([50,53,48],(5,30)),([50,53,49],(5,30)),([52,48,48],(5,30)),([52,48,49],(5,30)),([52,48,51],(5,30)),([57,48],(5,30))]
def Gs.Tg(a b:List UInt8):Bool:=Op.bytesLess a b || a==b
def Gs.rngB(l:List UInt8):Bool:=(!Op.bytesLess l [51,49,48]&&Gs.Tg l [51,49,54]) || (!Op.bytesLess l [51,50,48]&&Gs.Tg l [51,51,55])
def Gs.tab2(l:List UInt8):Int×Int:=
 if l.all (λc=>Cd.isDig c.toNat)=false then(0,0)
 else if l.length=2/\Gs.Tg l [57,48]=false then(5,90)
 else if l.length=3/\Op.bytesLess l [52,49,48]=false/\Gs.Tg l [52,49,55]=true then(2,13)
 else if l.length=4/\(l.take 3=[51,57,48]\/l.take 3=[51,57,50])then(4,15)
 else if l.length=4/\(l.getD 3 0).toNat<=53/\Gs.rngB (l.take 3)=true then(1,6)
 else(0,0)
def Gs.tab(l:List UInt8):Int×Int:=match Gs.tabL.find? λp=>p.1==l with
 |some p=>p.2
 |none=>Gs.tab2 l
def Gs.Jk(r:Gs.y7):Int:=if r.1=1 then 2 else if r.1=2 then 3 else if r.1=3 then 5 else if r.2.1=r.2.2.1 then 1 else 4
def Gs.tabO:Option Gs.y7->Int×Int
 |none=>(0,0)
 |some r=>(Gs.Jk r,r.2.2.1)
def Gs.aFT:List (List UInt8×Gs.y7):=[([48,48],(1,18,18,0)),([50,48],(0,2,2,0)),([56,48,50,48],(3,1,25,0)),([48,49],(1,14,14,0)),([48,50],(1,14,14,0)),([49,49],(2,6,6,0)),([49,50],(2,6,6,0)),([49,51],(2,6,6,0)),([49,53],(2,6,6,0)),([49,54],(2,6,6,0)),([49,55],(2,6,6,0)),([51,49,48],(0,6,6,53)),([51,49,49],(0,6,6,53)),([51,49,50],(0,6,6,53)),([51,49,51],(0,6,6,53)),([51,49,52],(0,6,6,53)),([51,49,53],(0,6,6,53)),([51,49,54],(0,6,6,53)),([51,50,48],(0,6,6,53)),([51,50,49],(0,6,6,53)),([51,50,50],(0,6,6,53)),([51,50,51],(0,6,6,53)),([51,50,52],(0,6,6,53)),([51,50,53],(0,6,6,53)),([51,50,54],(0,6,6,53)),([51,50,55],(0,6,6,53)),([51,50,56],(0,6,6,53)),([51,50,57],(0,6,6,53)),([51,51,48],(0,6,6,53)),([51,51,49],(0,6,6,53)),([51,51,50],(0,6,6,53)),([51,51,51],(0,6,6,53)),([51,51,52],(0,6,6,53)),([51,51,53],(0,6,6,53)),([51,51,54],(0,6,6,53)),([51,51,55],(0,6,6,53)),([52,49,48],(1,13,13,0)),([52,49,49],(1,13,13,0)),([52,49,50],(1,13,13,0)),([52,49,51],(1,13,13,0)),([52,49,52],(1,13,13,0)),([52,49,53],(1,13,13,0)),([52,49,54],(1,13,13,0)),([52,49,55],(1,13,13,0)),([51,48],(0,1,8,0)),([51,55],(0,1,8,0)),([51,57,48],(0,1,15,57)),([51,57,50],(0,1,15,57)),([49,48],(3,1,20,0)),([50,49],(3,1,20,0)),([50,50],(3,1,20,0)),([50,53,52],(3,1,20,0)),([50,52,48],(3,1,30,0)),([50,52,49],(3,1,30,0)),([50,53,48],(3,1,30,0)),([50,53,49],(3,1,30,0)),([52,48,48],(3,1,30,0)),([52,48,49],(3,1,30,0)),([52,48,51],(3,1,30,0)),([57,48],(3,1,30,0)),([57,49],(3,1,90,0)),([57,50],(3,1,90,0)),([57,51],(3,1,90,0)),([57,52],(3,1,90,0)),([57,53],(3,1,90,0)),([57,54],(3,1,90,0)),([57,55],(3,1,90,0)),([57,56],(3,1,90,0)),([57,57],(3,1,90,0))]
def yR:Gs.dir=Gs.aFT:=L2
def Zn8:∀p∈Gs.tabL,Gs.tabO (Gs.find p.1)=p.2:=L2
def Zo6:Gs.Tl.all (λa=>Gs.Tl.all λb=>(Gs.tabL.find? λp=>p.1== [a,b]).isSome || Gs.tab2 [a,b]==Gs.tabO (Gs.find [a,b]))=true:=by unfold Gs.find Gs.find2;rw[yR];exact L2
def Zmy:Gs.Tl.all (λa=>Gs.Tl.all λb=>Gs.Tl.all λc=>(Gs.tabL.find? λp=>p.1== [a,b,c]).isSome || Gs.tab2 [a,b,c]==Gs.tabO (Gs.find [a,b,c]))=true:=by unfold Gs.find Gs.find2;rw[yR];exact L2
def Gs.four(l:List UInt8)(g:Option Gs.y7):Bool:=match g with
 |none=> !(l== [51,57,48] || l== [51,57,50])&& !Gs.rngB l
 |some r=>if r.2.2.2=0 then !(l== [51,57,48] || l== [51,57,50])&& !Gs.rngB l
  else if r.2.2.2=57 then(l== [51,57,48] || l== [51,57,50])&&(Gs.tabO (some r)==(4,15))
  else r.2.2.2==53&& !(l== [51,57,48] || l== [51,57,50])&&Gs.rngB l&&(Gs.tabO (some r)==(1,6))
def ZmU:Gs.Tl.all (λa=>Gs.Tl.all λb=>Gs.Tl.all λc=>Gs.four [a,b,c] (Gs.get Gs.dir [a,b,c]))=true:=by rw[yR];exact L2
def Zls:∀p∈Gs.dir,p.1.length=4->p.1=[56,48,50,48]:=L2
def pW{l:List UInt8}(h:Cd.IP l):∀c∈l,c∈Gs.Tl:=λc hc=>dU c (h c hc).1 (h c hc).2
def GL{l:List UInt8}(h:l.all (λc=>Cd.isDig c.toNat)=true):Cd.IP l:=by intro c hc;have:=M1.1 h c hc;simp[Cd.isDig]at this;omega
def Zmu(l:List UInt8)(hl:l.length=4)(hd:Cd.IP l)(hn:l≠ [56,48,50,48]):Gs.tab2 l=Gs.tabO (Gs.find l):=by
 have Ff:l.all (λc=>Cd.isDig c.toNat)=true:=by rw[M1];intro c hc;have:=hd c hc;simp[Cd.isDig];omega
 match l,hl with
 | [a,b,c,d],_=>
  have m:=pW hd
  have h4:=ZmU
  simp only[M1]at h4
  have h4:=h4 a (m a L0) b (m b L0) c (m c L0)
  have Dx:=hd d L0
  have g0:Gs.get Gs.dir [a,b,c,d]=none:=by
   cases hg:Gs.get Gs.dir [a,b,c,d]with
   |none=>rfl
   |some r=>exact absurd (Zls _ (PE hg) rfl) hn
  have hf:Gs.find [a,b,c,d]=Gs.find2 [a,b,c,d]:=by unfold Gs.find;rw[g0];rfl
  rw[hf]
  unfold Gs.tab2 Gs.find2
  rw[Ff]
  have t3: [a,b,c,d].take 3=[a,b,c]:=rfl
  have t4: [a,b,c,d].take ([a,b,c,d].length-1)=[a,b,c]:=rfl
  have g3: [a,b,c,d].getD 3 0=d:=rfl
  have g4: [a,b,c,d].getD ([a,b,c,d].length-1) 0=d:=rfl
  rw[t4,g4,t3,g3]
  rw[D0 L0,D0 L0,D0 L0]
  cases hg:Gs.get Gs.dir [a,b,c]with
  |none=>rw[hg]at h4;simp only[Gs.four,P1,KY,XF,O0]at h4;rw[D0 (λh=>h.2.elim h4.1.1 h4.1.2),D0 (λh=>by rw[h4.2]at h;exact Bool.noConfusion h.2.2)];rfl
  |some r=>rw[hg]at h4;dsimp only;simp only[Gs.four]at h4;split at h4;(·rename_i h0;simp only[P1,KY,XF,O0]at h4;rw[D0 (λh=>h.2.elim h4.1.1 h4.1.2),D0 (λh=>by rw[h4.2]at h;exact Bool.noConfusion h.2.2),G0 (.inl h0)];rfl);·rename_i h0;split at h4;(·rename_i h57;simp only[P1,I8,I1]at h4;rw[G0 ⟨rfl,h4.1⟩,D0,h4.2];rw[h57,A9,A9];have e1:(48:UInt8).toNat=48:=rfl;have e2:(57:UInt8).toNat=57:=rfl;have e3:(57:UInt8)≠0:=I0;rw[e1,e2];intro h;rcases h with h|h|h;(·exact e3 h);(·omega);·omega);·simp only[P1,KY,XF,O0,I1]at h4;obtain⟨⟨⟨Xw,Bz⟩,hr⟩,hv⟩:=h4;rw[D0 (λh=>h.2.elim Bz.1 Bz.2)];have e1:(48:UInt8).toNat=48:=rfl;have e2:(53:UInt8).toNat=53:=rfl;by_cases h5:d.toNat<=53;(·rw[G0 ⟨rfl,h5,hr⟩,D0,hv];rw[Xw,A9,A9,e1,e2];intro h;rcases h with h|h|h;(·exact absurd h I0);(·omega);·omega);·rw[D0 (λh=>h5 h.2.1),G0];rfl;rw[Xw,A9,A9,e1,e2];exact .inr (.inr C0)
def Zo4(l:List UInt8):Gs.tab l=Gs.tabO (Gs.find l):=by
 unfold Gs.tab;cases hf:Gs.tabL.find? λp=>p.1==l with
 |some p=>have h1:=CM hf;have h2:=MY hf;have h3:p.1=l:=B9;dsimp only;rw[<-h3,Zn8 p h1]
 |none=>
  dsimp only;by_cases hd:l.all (λc=>Cd.isDig c.toNat)=true
  .have Dx:=GL hd;have m:=pW Dx;by_cases hl:l.length=2\/l.length=3\/l.length=4
   .rcases hl with hl|hl|hl
    .match l,hl with
     | [a,b],_=>have h2:=Zo6;simp only[M1]at h2;have h2:=h2 a (m a L0) b (m b L0);rw[hf]at h2;exact B9
    .match l,hl with
     | [a,b,c],_=>have h2:=Zmy;simp only[M1]at h2;have h2:=h2 a (m a L0) b (m b L0) c (m c L0);rw[hf]at h2;exact B9
    .refine Zmu l hl Dx (λe=> ?_);rw[e]at hf;exact absurd hf I0
   .have hn:Gs.find l=none:=by
     cases hg:Gs.find l with
     |none=>rfl
     |some r=>have:=XJ hg;omega
    rw[hn];unfold Gs.tab2;rw[hd,D0 L0,D0 (λh=>hl (.inl h.1)),D0 (λh=>hl (.inr (.inl h.1))),D0 (λh=>hl (.inr (.inr h.1))),D0 (λh=>hl (.inr (.inr h.1)))];rfl
  .have Yj:l.all (λc=>Cd.isDig c.toNat)=false:=(by simpa using hd);have hn:Gs.find l=none:=by
    cases hg:Gs.find l with
    |none=>rfl
    |some r=>refine absurd ?_ hd;rw[M1];intro c hc;have:=(XJ hg).2.2.1 c hc;simp[Cd.isDig];omega
   rw[hn];unfold Gs.tab2;rw[G0 Yj];rfl
def OP(c:Int)(w:World):
 Calls prog 208 #[.int .u8 c] w λe w'=>e=.returned (.bool (Cd.isDig c))/\w=w':=by
 go_enter func208,ntmps208;go_wp2
 .exact NB
 .exact NC
def yS(s:ByteArray)(p:UInt8->Bool)(k:Nat)(h:k<s.size):(s.data.toList.take (k+1)).all p=((s.data.toList.take k).all p&&p s[k]):=by rw[Z1 s k h,OA];simp
def yT(s:ByteArray)(p:UInt8->Bool)(k:Nat)(h:k<s.size)(hp:p s[k]=false):s.data.toList.all p=false:=lP
def Zi5(s:ByteArray)(hs:s.size<=maxLen)(w:World):
 Calls prog 249 #[.string s] w λe w'=>e=.returned (.bool (s.data.toList.all (λc=>Cd.isDig c.toNat)))/\w=w':=by
 have Le:s.size<=9223372036854775807:=hs;clear hs;have HR:=B0 (Eq.refl (s.data.toList.all (λc=>Cd.isDig c.toNat)));generalize j7:s.data.toList.all (λc=>Cd.isDig c.toNat)=res;have Ak:=B0 j7;clear j7 HR;go_enter func249,ntmps249;go_wp2;go_loop [3] (λi=>∃k:Nat,k<=s.size/\i=.int .i64 (k:Int)/\Hid ((s.data.toList.take k).all (λc=>Cd.isDig c.toNat)=true)) (λi=>s.size-(intOf i).toNat)
 case atStart=>exact C7
 case round=>obtain⟨k,hk,rfl,IL⟩:=hrel;by_cases hlt:k<s.size;(·have HA:=B0 (yS s (λc=>Cd.isDig c.toNat) k hlt);have HN:=B0 (yT s (λc=>Cd.isDig c.toNat) k hlt);cases hp:Cd.isDig (s[k].toNat:Int);(·have HP:=B0 hp;have HF:Hid (res=false):=B0 (by rw[<-Ak.out];exact HN.out hp);clear hp HA HN;go_wp2_with fail;refine(OP _ _).mono ?_;rintro e w' ⟨rfl,rfl⟩;rw[HP.out];exact XG);·have HP:=B0 hp;have HO:Hid ((s.data.toList.take (k+1)).all (λc=>Cd.isDig c.toNat)=true):=B0 yU;clear hp HA HN;go_wp2_with fail;refine(OP _ _).mono ?_;rintro e w' ⟨rfl,rfl⟩;rw[HP.out];exact PH);·obtain rfl:k=s.size:=C0;have HF:Hid (res=true):=B0 (by rw[<-Ak.out,<-IL.out,Zu]);clear hk hlt IL;exact XG
def GM(s:ByteArray):Prop:=(s.toList== [48,48])=false/\(s.toList== [48,49])=false/\(s.toList== [48,50])=false/\(s.toList== [49,49])=false/\(s.toList== [49,50])=false/\(s.toList== [49,51])=false/\(s.toList== [49,53])=false/\(s.toList== [49,54])=false/\(s.toList== [49,55])=false/\(s.toList== [50,48])=false/\(s.toList== [51,48])=false/\(s.toList== [51,55])=false/\(s.toList== [49,48])=false/\(s.toList== [50,49])=false/\(s.toList== [50,50])=false/\(s.toList== [50,53,52])=false/\(s.toList== [56,48,50,48])=false/\(s.toList== [50,52,48])=false/\(s.toList== [50,52,49])=false/\(s.toList== [50,53,48])=false/\(s.toList== [50,53,49])=false/\(s.toList== [52,48,48])=false/\(s.toList== [52,48,49])=false/\(s.toList== [52,48,51])=false/\(s.toList== [57,48])=false
def Zl9(s:ByteArray)(h:(Gs.tabL.find? λp=>p.1==s.data.toList)=none):GM s:=by rw[List.find?_eq_none]at h;simp only[Gs.tabL,E2,J4,F4,forall_eq_or_imp,forall_eq,I1]at h;obtain⟨Ty,h01,h02,Mc,Kx,Fe,Xs,Xt,h17,h20,h30,h37,h10,h21,h22,aD7,aDc,aD3,aD4,aD5,aD6,aD8,aD9,aDa,h90⟩:=h;unfold GM;rw[I2];exact⟨O0.2 (λe=>Ty e.symm),O0.2 (λe=>h01 e.symm),O0.2 (λe=>h02 e.symm),O0.2 (λe=>Mc e.symm),O0.2 (λe=>Kx e.symm),O0.2 (λe=>Fe e.symm),O0.2 (λe=>Xs e.symm),O0.2 (λe=>Xt e.symm),O0.2 (λe=>h17 e.symm),O0.2 (λe=>h20 e.symm),O0.2 (λe=>h30 e.symm),O0.2 (λe=>h37 e.symm),O0.2 (λe=>h10 e.symm),O0.2 (λe=>h21 e.symm),O0.2 (λe=>h22 e.symm),O0.2 (λe=>aD7 e.symm),O0.2 (λe=>aDc e.symm),O0.2 (λe=>aD3 e.symm),O0.2 (λe=>aD4 e.symm),O0.2 (λe=>aD5 e.symm),O0.2 (λe=>aD6 e.symm),O0.2 (λe=>aD8 e.symm),O0.2 (λe=>aD9 e.symm),O0.2 (λe=>aDa e.symm),O0.2 (λe=>h90 e.symm)⟩
def TabR(r:Int×Int)(w:World)(e:Ending)(w':World):Prop:=e=.returned (.tuple #[.int .i64 r.1,.int .i64 r.2])/\Ext w w'
def Zpi(s:ByteArray):(s.extract 0 3).toList=s.data.toList.take 3:=by rw[I2,Zx]
def Zmv(s:ByteArray)(hs:s.size<=maxLen)(w:World)(h:GM s):
 Calls prog 206 #[.string s] w (TabR (Gs.tab2 s.data.toList) w):=by
 have HD:=B0 (Zi5 s hs w);have HT:=B0 (Gs.tab2.eq_1 s.data.toList);generalize Gs.tab2 s.data.toList=res at*;unfold GM at h;obtain⟨Ty,h01,h02,Mc,Kx,Fe,Xs,Xt,h17,h20,h30,h37,h10,h21,h22,aD7,aDc,aD3,aD4,aD5,aD6,aD8,aD9,aDa,h90⟩:=h;rw[Za]at HT;cases Dx:s.data.toList.all (λc=>Cd.isDig c.toNat)
 .rw[Dx]at HD HT;have HR:Hid (res=(0,0)):=B0 (by rw[HT.out,G0 rfl]);clear HT Dx;exact Qh
 .rw[Dx]at HD HT;have Bq:=B0 (HT.out.trans (D0 L0));clear HT Dx;by_cases h2:s.size=2;(·have i2:((s.size:Int)==2)=true:=(by rw[h2];rfl);have i3:((s.size:Int)==3)=false:=(by rw[h2];rfl);have i4:((s.size:Int)==4)=false:=(by rw[h2];rfl);cases hb:Gs.Tg s.data.toList [57,48];(·have HR:Hid (res=(5,90)):=B0 (by rw[Bq.out,G0 ⟨h2,hb⟩]);unfold Gs.Tg at hb;rw[<-I2,XF]at hb;obtain⟨j1,j2⟩:=hb;clear Bq h2;exact Qh);·have HR:Hid (res=(0,0)):=B0 (by rw[Bq.out,D0 (by rw[hb];simp),D0 C0,D0 C0,D0 C0]);unfold Gs.Tg at hb;rw[<-I2]at hb;clear Bq h2;go_enter func206,ntmps206;go_wp2_with fail;refine HD.out.mono ?_;rintro e w' ⟨rfl,rfl⟩;cases hlt:Op.bytesLess s.toList [57,48];(·rw[hlt,WJ,h90]at hb;exact Bool.noConfusion hb);·clear hb;go_wp2;go_ret2;exact⟨by rw[HR.out];rfl,Ext.refl _⟩);by_cases h3:s.size=3;(·have i2:((s.size:Int)==2)=false:=(by rw[h3];rfl);have i3:((s.size:Int)==3)=true:=(by rw[h3];rfl);have i4:((s.size:Int)==4)=false:=(by rw[h3];rfl);cases o8:Op.bytesLess s.data.toList [52,49,48];(·cases hb:Gs.Tg s.data.toList [52,49,55];(·have HR:Hid (res=(0,0)):=B0 (by rw[Bq.out,D0 C0,D0 (by rw[hb];simp),D0 C0,D0 C0]);unfold Gs.Tg at hb;rw[<-I2]at hb o8;rw[XF]at hb;obtain⟨j1,j2⟩:=hb;clear Bq h2 h3;exact Qh);·have HR:Hid (res=(2,13)):=B0 (by rw[Bq.out,D0 C0,G0 ⟨h3,o8,hb⟩]);unfold Gs.Tg at hb;rw[<-I2]at hb o8;clear Bq h2 h3;cases hlt:Op.bytesLess s.toList [52,49,55];(·rw[hlt,WJ]at hb;exact Qh);·clear hb;exact Qh);·have HR:Hid (res=(0,0)):=B0 (by rw[Bq.out,D0 C0,D0 (by rw[o8];simp),D0 C0,D0 C0]);rw[<-I2]at o8;clear Bq h2 h3;exact Qh);by_cases h4:s.size=4;(·have i2:((s.size:Int)==2)=false:=(by rw[h4];rfl);have i3:((s.size:Int)==3)=false:=(by rw[h4];rfl);have i4:((s.size:Int)==4)=true:=(by rw[h4];rfl);have Pr:3<s.size:=C0;obtain⟨X,hX⟩:∃X,s.extract 0 3=X:=⟨_,rfl⟩;have HX:Hid (s.data.toList.take 3=X.toList):=B0 (by rw[<-hX,Zpi]);rw[HX.out,gdat s 3 Pr]at Bq;have Ad:=B0 (Bq.out.trans ((D0 C0).trans (D0 C0)));obtain⟨c,hc⟩:∃c,s[3]=c:=⟨_,rfl⟩;rw[hc]at Ad;clear Bq h2 h3 HX;cases e0:X.toList== [51,57,48];(·cases e2:X.toList== [51,57,50];(·have Lv:=B0 (Ad.out.trans (D0 (λh=>h.2.elim (λe=>by rw[e]at e0;exact absurd e0 I0) (λe=>by rw[e]at e2;exact absurd e2 I0))));clear Ad;by_cases h5:c.toNat<=53;(·have Gd:=B0 (Gs.rngB.eq_1 X.toList);unfold Gs.Tg at Gd;have Jg:Hid (res=if Gs.rngB X.toList=true then(1,6)else(0,0)):=B0 (by rw[Lv.out];by_cases hr:Gs.rngB X.toList=true;(·rw[G0 ⟨h4,h5,hr⟩,G0 hr]);·rw[D0 (λh=>hr h.2.2),D0 hr]);clear Lv;generalize Gs.rngB X.toList=rb at*;have h5i:(c.toNat:Int)<=53:=C0;cases l1:Op.bytesLess X.toList [51,49,48];(·cases l2:Op.bytesLess X.toList [51,49,54];(·cases q2:X.toList== [51,49,54];(·cases l3:Op.bytesLess X.toList [51,50,48];(·cases l4:Op.bytesLess X.toList [51,51,55];(·cases q4:X.toList== [51,51,55];(·have HR:Hid (res=(0,0)):=B0 pX;exact K9);·have HR:Hid (res=(1,6)):=B0 pX;exact K9);·have HR:Hid (res=(1,6)):=B0 (by rw[Jg.out,Gd.out,l1,l2,q2,l3,l4];rfl);exact K9);·have HR:Hid (res=(0,0)):=B0 (by rw[Jg.out,Gd.out,l1,l2,q2,l3];rfl);exact K9);·have HR:Hid (res=(1,6)):=B0 (by rw[Jg.out,Gd.out,l1,l2,q2];rfl);exact K9);·have HR:Hid (res=(1,6)):=B0 (by rw[Jg.out,Gd.out,l1,l2];rfl);exact K9);·cases l3:Op.bytesLess X.toList [51,50,48];(·cases l4:Op.bytesLess X.toList [51,51,55];(·cases q4:X.toList== [51,51,55];(·have HR:Hid (res=(0,0)):=B0 (by rw[Jg.out,Gd.out,l1,l3,l4,q4];rfl);exact K9);·have HR:Hid (res=(1,6)):=B0 (by rw[Jg.out,Gd.out,l1,l3,l4,q4];rfl);exact K9);·have HR:Hid (res=(1,6)):=B0 (by rw[Jg.out,Gd.out,l1,l3,l4];rfl);exact K9);·have HR:Hid (res=(0,0)):=B0 (by rw[Jg.out,Gd.out,l1,l3];rfl);exact K9);·have HR:Hid (res=(0,0)):=B0 (by rw[Lv.out,D0 (λh=>h5 h.2.1)]);have h5i:¬((c.toNat:Int)<=53):=C0;have h5j:(53:Int)<(c.toNat:Int):=C0;clear Lv h4 h5;exact Qh);·have HR:Hid (res=(4,15)):=B0 (by rw[Ad.out,G0 ⟨h4,.inr (by simpa using e2)⟩]);clear Ad h4;exact Qh);·have HR:Hid (res=(4,15)):=B0 (by rw[Ad.out,G0 ⟨h4,.inl (by simpa using e0)⟩]);clear Ad h4;exact Qh);·have i2:((s.size:Int)==2)=false:=QJ;have i3:((s.size:Int)==3)=false:=QJ;have i4:((s.size:Int)==4)=false:=QJ;have HR:Hid (res=(0,0)):=B0 (by rw[Bq.out,D0 C0,D0 C0,D0 C0,D0 C0]);clear Bq h2 h3 h4;exact Qh
def ZkD(s:ByteArray)(w:World)(p:List UInt8×(Int×Int))(h1:p∈Gs.tabL)(h2:p.1=s.data.toList):
 Calls prog 206 #[.string s] w (TabR p.2 w):=by
 have HR:True:=trivial;simp only[Gs.tabL,E2,J4,F4]at h1;rcases h1 with rfl|rfl|rfl|rfl|rfl|rfl|rfl|rfl|rfl|rfl|rfl|rfl|rfl|rfl|rfl|rfl|rfl|rfl|rfl|rfl|rfl|rfl|rfl|rfl|rfl
 .have IC:s=⟨#[48,48]⟩:=Zi h2.symm;exact Qm
 .have IC:s=⟨#[48,49]⟩:=Zi h2.symm;exact Qm
 .have IC:s=⟨#[48,50]⟩:=Zi h2.symm;exact Qm
 .have IC:s=⟨#[49,49]⟩:=Zi h2.symm;exact Qm
 .have IC:s=⟨#[49,50]⟩:=Zi h2.symm;exact Qm
 .have IC:s=⟨#[49,51]⟩:=Zi h2.symm;exact Qm
 .have IC:s=⟨#[49,53]⟩:=Zi h2.symm;exact Qm
 .have IC:s=⟨#[49,54]⟩:=Zi h2.symm;exact Qm
 .have IC:s=⟨#[49,55]⟩:=Zi h2.symm;exact Qm
 .have IC:s=⟨#[50,48]⟩:=Zi h2.symm;exact Qm
 .have IC:s=⟨#[51,48]⟩:=Zi h2.symm;exact Qm
 .have IC:s=⟨#[51,55]⟩:=Zi h2.symm;exact Qm
 .have IC:s=⟨#[49,48]⟩:=Zi h2.symm;exact Qm
 .have IC:s=⟨#[50,49]⟩:=Zi h2.symm;exact Qm
 .have IC:s=⟨#[50,50]⟩:=Zi h2.symm;exact Qm
 .have IC:s=⟨#[50,53,52]⟩:=Zi h2.symm;exact Qm
 .have IC:s=⟨#[56,48,50,48]⟩:=Zi h2.symm;exact Qm
 .have IC:s=⟨#[50,52,48]⟩:=Zi h2.symm;exact Qm
 .have IC:s=⟨#[50,52,49]⟩:=Zi h2.symm;exact Qm
 .have IC:s=⟨#[50,53,48]⟩:=Zi h2.symm;exact Qm
 .have IC:s=⟨#[50,53,49]⟩:=Zi h2.symm;exact Qm
 .have IC:s=⟨#[52,48,48]⟩:=Zi h2.symm;exact Qm
 .have IC:s=⟨#[52,48,49]⟩:=Zi h2.symm;exact Qm
 .have IC:s=⟨#[52,48,51]⟩:=Zi h2.symm;exact Qm
 .have IC:s=⟨#[57,48]⟩:=Zi h2.symm;exact Qm
def pY(s:ByteArray)(hs:s.size<=maxLen)(w:World):Calls prog 206 #[.string s] w (TabR (Gs.tabO (Gs.find s.data.toList)) w):=by
 rw[<-Zo4];unfold Gs.tab;cases hf:Gs.tabL.find? λp=>p.1==s.data.toList with
 |none=>exact Zmv s hs w (Zl9 s hf)
 |some p=>exact ZkD s w p (CM hf) (by simpa using MY hf)
def pZ:∀p∈Gs.dir,p.2.1=0->(p.2.2.1=p.2.2.2.1\/p.2.2.1=1):=L2
def Zlo{l:List UInt8}{r:Gs.y7}(h:Gs.find l=some r)(h0:r.1=0):r.2.1=r.2.2.1\/r.2.1=1:=by
 rcases AN h with⟨h1,_⟩|⟨k,c,_,h1,_⟩;·exact pZ _ h1 h0
 .exact pZ _ h1 h0
def sB{r:Gs.y7}(h:Gs.Vg r):1<=Gs.Jk r/\Gs.Jk r<=5/\(Gs.isFix r=true↔(Gs.Jk r≠4/\Gs.Jk r≠5)):=by
 obtain⟨k0,k3,l1,lh,h9,h2,h1,h3⟩:=h;unfold Gs.Jk Gs.isFix;rw[I1];by_cases c1:r.1=1;·rw[G0 c1];have:=h1 c1;exact OQ
 .rw[D0 c1];by_cases c2:r.1=2;(·rw[G0 c2];have:=h2 c2;exact OQ);·rw[D0 c2];by_cases c3:r.1=3;(·rw[G0 c3];have:=h3 c3;exact OQ);·rw[D0 c3];by_cases c4:r.2.1=r.2.2.1;(·rw[G0 c4];exact OQ);·rw[D0 c4];exact OQ
def Zja(s:ByteArray)(hs:s.size<=maxLen)(w:World):
 Calls prog 136 #[.string s] w λe w'=>e=.returned (.tuple #[.int .i64 (Gs.fixF s.data.toList).1,.int .i64 (Gs.fixF s.data.toList).2.1,.int .i64 (Gs.fixF s.data.toList).2.2])/\Ext w w':=by
 have HT:=B0 (pY s hs w);have HF:=B0 (Gs.fixF.eq_1 s.data.toList);generalize Gs.fixF s.data.toList=res at*;obtain⟨r1,r2,r3⟩:=res;cases hg:Gs.find s.data.toList with
 |none=>rw[hg]at HF HT;dsimp only[Gs.tabO]at HF HT;have hr:=HF.out;simp only[Y2]at hr;obtain⟨rfl,rfl,rfl⟩:=hr;clear hg HF;exact GN
 |some r=>rw[hg]at HF HT;dsimp only[Gs.tabO]at HF HT;obtain⟨f1,f5,ff⟩:=sB (VC hg);have hr:=HF.out;simp only[Y2]at hr;obtain⟨IZ,rfl,rfl⟩:=hr;generalize Gs.Jk r=fm at*;generalize r.2.2.1=mo at*;have g0:(fm==0)=false:=QJ;have p6:=B0 IZ;clear hg HF IZ;by_cases h4:fm=4;(·have HZ:Hid (r1=0):=B0 (by rw[p6.out,D0 (λh=>(ff.1 h).1 h4)]);obtain rfl:=HZ.out;subst h4;clear ff p6 HZ;exact GN);·by_cases h5:fm=5;(·have HZ:Hid (r1=0):=B0 (by rw[p6.out,D0 (λh=>(ff.1 h).2 h5)]);obtain rfl:=HZ.out;subst h5;clear ff p6 HZ;exact GN);·have HZ:Hid (r1=mo):=B0 (by rw[p6.out,G0 (ff.2 ⟨h4,h5⟩)]);have g4:(fm==4)=false:=OU;have g5:(fm==5)=false:=OV;obtain rfl:=HZ.out;clear ff p6 HZ h4 h5;exact GN
def ZnU(c:UInt8):∀l:List UInt8,(∀i,i<l.length->l.getD i 0≠c)->Lib.indexByte l c= -1:=by
 intro l
 induction l with
 |nil=>intro _;rfl
 |cons b l ih=>intro h;have h0:=h 0 L0;have hb:(b==c)=false:=UN;have:=ih (λi hi=>by have:=h (i+1) J3;simpa using this);simp[Lib.indexByte,hb,this]
def ZmY(c:UInt8):∀(l:List UInt8)(i:Nat),i<l.length->l.getD i 0=c->0<=Lib.indexByte l c:=by
 intro l
 induction l with
 |nil=>intro i h;simp at h
 |cons b l ih=>
  intro i hi h;unfold Lib.indexByte;split;(·exact Int.le_refl _)
  .rename_i hb
   cases i with
   |zero=>simp at h;rw[h]at hb;simp at hb
   |succ i=>have:=ih i OK Y4;split;(·rename_i h1;simp at h1;omega);·omega
def symB:ByteArray:=⟨#[33,34,37,38,39,42,43,44,45,46,47,58,59,60,61,62,63,95]⟩
def sC(c:UInt8)(w:World):
 Calls prog 207 #[.int .u8 (c.toNat:Int)] w λe w'=>e=.returned (.bool (Cd.isDig c.toNat || Gs.charB c))/\w=w':=by
 have HC:=B0 (Gs.charB.eq_1 c);have HNO:Hid ((∀i,i<18->symB.data.toList.getD i 0≠c)->Lib.indexByte Gs.symbols c= -1):=B0 (λh=>ZnU c Gs.symbols h);have aB1:Hid (∀i,i<18->symB.data.toList.getD i 0=c->0<=Lib.indexByte Gs.symbols c):=B0 (λi hi h=>ZmY c Gs.symbols i hi h);generalize Gs.charB c=cb at*;generalize Lib.indexByte Gs.symbols c=x at*;have HD:=B0 (OP (c.toNat:Int) w);cases hd:Cd.isDig c.toNat
 .rw[hd]at HD;by_cases h1:65<=c.toNat/\c.toNat<=90;(·obtain⟨n1,n2⟩:=h1;have HR:Hid (cb=true):=B0 (by rw[HC.out,C1 n1,C1 n2];rfl);clear HC HNO aB1 hd;exact sD);have e1:(decide (65<=c.toNat)&&decide (c.toNat<=90))=false:=MW;by_cases h2:97<=c.toNat/\c.toNat<=122;(·obtain⟨n1,n2⟩:=h2;have n3:90<c.toNat:=C0;have n4:65<=c.toNat:=C0;have HR:Hid (cb=true):=B0 (by rw[HC.out,e1,C1 n1,C1 n2];rfl);clear HC HNO aB1 hd e1 h1;exact sD);have e2:(decide (97<=c.toNat)&&decide (c.toNat<=122))=false:=MW;have HR:Hid (cb=decide (0<=x)):=B0 (by rw[HC.out,e1,e2];rfl);have hn:c.toNat<65\/(90<c.toNat/\c.toNat<97)\/122<c.toNat:=C0;clear HC e1 e2 h1 h2 hd;have key:∀(A:World),A=w->(65<=c.toNat->90<c.toNat)->(97<=c.toNat->122<c.toNat)->True:=λ_ _ _ _=>trivial;clear key;rcases hn with hn|⟨hn,Av⟩|hn;(·have m1:c.toNat<65:=hn;have m2:c.toNat<97:=C0;clear hn;exact Qe);(·have m1:65<=c.toNat:=C0;exact Qe);·have m1:65<=c.toNat:=C0;have m2:90<c.toNat:=C0;have m3:97<=c.toNat:=C0;exact Qe
 .rw[hd]at HD;clear HC HNO aB1;go_enter func207,ntmps207;go_wp2_with fail;refine HD.out.mono ?_;rintro e w' ⟨rfl,rfl⟩;exact Q9
def Zh7(s:ByteArray)(hs:2<=s.size)(hd:Cd.IP s.data.toList)(w:World)(hm:s.size<=1000):
 Calls prog 250 #[.string s] w λe w'=>e=.returned (.int .i64 (Gs.num2 s.data.toList 0))/\Ext w w':=by
 have HN:=B0 (Gs.num2.eq_1 s.data.toList 0);have h0:0<s.size:=by omega
 have h1:1<s.size:=by omega
 have Mj:(0:Int)<(s.size:Int):=by omega
 have Gh:(1:Int)<(s.size:Int):=by omega
 rw[gdat s 0 h0,gdat s (0+1) h1]at HN;generalize Gs.num2 s.data.toList 0=N at*;obtain⟨a1,a2⟩:=hd _ (Zl s 0 h0);obtain⟨a3,a4⟩:=hd _ (Zl s 1 h1);replace HN:Hid (N=10*Cd.dg s[0]+Cd.dg s[1]):=B0 HN.out;clear hd;go_enter func250,ntmps250;go_wp2;go_quiet (fail);go_wp2;go_ret;exact⟨Zo (by rw[HN.out];simp[Cd.dg]),Xf⟩
end
end Go.Proofs.Enc
