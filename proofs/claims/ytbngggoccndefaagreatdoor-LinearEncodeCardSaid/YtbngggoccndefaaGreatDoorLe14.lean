/-
  Laid.
-/
import Derived.Test.YtbngggoccndefaaGreatDoorLe13
set_option maxHeartbeats 8000000
set_option maxRecDepth 100000
set_option linter.all false
namespace Go.Proofs.Enc
open Go.Proofs.Tryz
section
open Go.RowKit
def AS(ws:List Int)(h:(Tw.wide ws).2=0):(Tw.wide ws).1.length=ws.length:=by
 unfold Tw.wide at h⊢
 repeat' split
 all_goals first|(simp;done)|(simp_all;done)
def AT(k:Nat)(e:List UInt8)(check:Bool)(hc:Tw.countsK k e.length check=true)(h:(Tw.Ij k e).2=0):RS k<=(Tw.Ij k e).1.length/\(Tw.Ij k e).1.length<=100000:=by
 have hb:check.toNat<=1:=Bool.toNat_le check
 match k with
 |0=>have Dd:Tw.counts 9 1 1000 e.length check=true:=hc;unfold Tw.counts at Dd;simp only[P1,G2]at Dd;have h':(Tw.read Tw.c39 Tw.p39 [42] Cd.syms 9 e).2=0:=h;show 3<=(Tw.read Tw.c39 Tw.p39 [42] Cd.syms 9 e).1.length/\(Tw.read Tw.c39 Tw.p39 [42] Cd.syms 9 e).1.length<=100000;exact eF
 |1=>have Dd:Tw.counts 7 0 998 e.length check=true:=hc;unfold Tw.counts at Dd;simp only[P1,G2]at Dd;have h':(Tw.read Tw.Bb Tw.pCb Tw.Es Tw.Ep 7 e).2=0:=h;show 2<=(Tw.read Tw.Bb Tw.pCb Tw.Es Tw.Ep 7 e).1.length/\(Tw.read Tw.Bb Tw.pCb Tw.Es Tw.Ep 7 e).1.length<=100000;exact eF
 |k+2=>have Dd:Tw.countsItf e.length=true:=hc;unfold Tw.countsItf at Dd;simp only[P1,G2]at Dd;have h':(Tw.readItf e).2=0:=h;have h3:RS (k+2)<=1:=(by unfold RS;omega);show RS (k+2)<=(Tw.readItf e).1.length/\(Tw.readItf e).1.length<=100000;unfold Tw.readItf at h'⊢;split;(·rename_i h1;rw[G0 h1]at h';simp at h');·rename_i h1;rw[D0 h1]at h';split;(·rename_i h2;rw[G0 h2]at h';simp at h');·rename_i h2;rw[D0 h2]at h';split;(·rename_i h4;rw[G0 h4]at h';simp at h');·rw[EQ,R6];omega
def AU(k:Nat)(l:List UInt8)(check:Bool):(Tw.Wt k l check).length<=l.length:=by
 unfold Tw.Wt;split;·simp only[Tw.text39,J1,X1];omega
 .unfold Tw.textCb;split;(·simp only[S0,J1,X1];omega);·omega
 .unfold Tw.textItf;split;(·simp only[J1];omega);·omega
def Zi3(k n:Nat)(check:Bool)(hc:Tw.countsK k n check=true):1<=n:=by
 match k with
 |0=>have Dd:Tw.counts 9 1 1000 n check=true:=hc;unfold Tw.counts at Dd;exact AV
 |1=>have Dd:Tw.counts 7 0 998 n check=true:=hc;unfold Tw.counts at Dd;exact AV
 |k+2=>have Dd:Tw.countsItf n=true:=hc;unfold Tw.countsItf at Dd;exact AV
def ZjK(l:List Bool):(List.range l.length).map (λk=>encB (if l.getD k false then 119 else 110))=(Tw.elems l).map encB:=by
 apply V9;·simp[Tw.elems]
 .intro i h1 h2;simp[Tw.elems]at h1 h2⊢;simp[h1]
def DecR(r:List UInt8×Int)(w:World)(e:Ending)(w':World):Prop:=e=.returned (.tuple #[strV r.1,.int .i64 r.2])/\Ext w w'
def AW(k:Nat)(kind:Int)(v:Value)(ws:List Int)(check:Bool)(w:World)(hv:Sl w v (ws.map encI))(hl:ws.length<=1000000)(hf:∀w,Calls prog 62 #[.int .i64 kind] w (WW k w)):
 Calls prog 21 #[.int .i64 kind,v,.bool check] w (DecR (Tw.decK k ws check) w):=by
 have HF:=B0 hf;have HT:=B0 (Tw.decK.eq_1 k ws check);generalize Tw.decK k ws check=res at*;clear hf;obtain⟨a,c,rfl⟩:=hv.form;have HW:=B0 (λw' hx=>gB _ ws w' (Sl.ext hv hx) hl);rw[M0]at HW⊢;clear hv;cases Yh:Tw.countsK k ws.length check
 .rw[Yh,G0 rfl]at HT;go_enter func21,ntmps21;go_wp2_with fail;refine(HF.out _).mono ?_;rintro e w1 ⟨B,F,rfl,hF,b7⟩;have aCQ:∀xs w,(callFunc F.cf xs).run prog w=.ok (.enter F.cf xs) w:=hF.Tx.2.1;have HC:=B0 (λw' hx=>hF.counts w' hx ws.length check C0);rw[Yh]at HC;clear hF Yh;unfold ZJ.val;go_wp2_with fail;refine(HC.out _ (Z3.Ll _ Xe)).mono ?_;rintro e w2 ⟨rfl,rfl⟩;go_wp2;go_ret2;exact⟨by rw[HT.out];rfl,Xe⟩
 .rw[Yh,D0 Bool.noConfusion]at HT;have Ec:=B0 Yh;have Ju:=Zi3 k ws.length check Yh;go_enter func21,ntmps21;go_wp2_with fail;refine(HF.out _).mono ?_;rintro e w1 ⟨B,F,rfl,hF,b7⟩;have aCQ:∀xs w,(callFunc F.cf xs).run prog w=.ok (.enter F.cf xs) w:=hF.Tx.2.1;have aDp:∀xs w,(callFunc F.mf xs).run prog w=.ok (.enter F.mf xs) w:=hF.Tx.2.2.1;have aIV:∀xs w,(callFunc F.rf xs).run prog w=.ok (.enter F.rf xs) w:=hF.Tx.2.2.2.2.1;have aIW:∀xs w,(callFunc F.tf xs).run prog w=.ok (.enter F.tf xs) w:=hF.Tx.2.2.2.2.2;have HC:=B0 (λw' hx=>hF.counts w' hx ws.length check C0);have Dq:=B0 (λw' hx s hs=>hF.read w' hx s check hs);have Ie:=B0 (λw' hx s h1 h2=>hF.text w' hx s check h1 h2);have Ut:=B0 (λw' hx s h1=>hF.comp w' hx s true h1);rw[Yh]at HC;clear hF Yh HF;unfold ZJ.val;go_wp2_with fail;refine(HC.out _ (Z3.Ll _ Xe)).mono ?_;rintro e w2 ⟨rfl,rfl⟩;clear HC;go_wp2_with fail;refine(HW.out _ (b7.alloc _)).mono ?_;rintro e w2 ⟨vw,rfl,j8,j0⟩;clear HW;have p8:w1.heap.size<w2.heap.size:=DA;have Uk:Ext w1 w2:=((Ext.refl w1).alloc _).trans j0;have FY:Hid (∀w',Ext w2 w'->w'.cell? ⟨w1.heap.size,4,none⟩=some (.func (.func F.mf) #[] #[])/\w'.cell? ⟨w1.heap.size,6,none⟩=some (.func (.func F.rf) F.rr F.rc)/\w'.cell? ⟨w1.heap.size,7,none⟩=some (.func (.func F.tf) #[] #[])):=B0 (λw' hx=>by refine⟨?_,?_,?_⟩;(·rw[(j0.trans hx).cell (p:=⟨w1.heap.size,4,none⟩) L0];simp[go_sem]);(·rw[(j0.trans hx).cell (p:=⟨w1.heap.size,6,none⟩) L0];simp[go_sem]);·rw[(j0.trans hx).cell (p:=⟨w1.heap.size,7,none⟩) L0];simp[go_sem]);replace b7:=b7.trans Uk;clear j0;by_cases he:(Tw.wide ws).2≠0;(·rw[G0 he]at HT;have d1:((Tw.wide ws).2 !=0)=true:=R1.2 he;generalize(Tw.wide ws).2=we at*;clear he j8;go_wp2;go_ret2;exact⟨by rw[HT.out];rfl,b7⟩);·rw[D0 he]at HT;have Mh:(Tw.wide ws).2=0:=L5 he;have Uh:=AS ws Mh;simp only[Mh];clear he Mh;generalize(Tw.wide ws).1=lb at*;have HLB:=B0 Uh;have aIb:lb.length<=1000000:=C0;have aCV:1<=lb.length:=C0;rcases j8 with⟨h1,_⟩|⟨b2,o2,c2,rfl,n7,Eh⟩;(·have:lb=[]:=YW;rw[this]at aCV;simp at aCV);rw[M0]at Eh⊢;have Py:Hid (∀w',Ext w2 w'->∀j,j<lb.length->w'.cell? ⟨b2,o2+j,none⟩=some (.bool (lb.getD j false))):=B0 (λw' hx j hj=>by rw[hx.cell (p:=⟨b2,o2+j,none⟩) n7,Eh j hj,B3,F1,P0 hj];rfl);have IT:=J7 (P:=prog) 90 5 (.int .u8 0) 1 underlying90 N0 rfl .i64 .i64 lb.length C0 C0;have Pf:b2≠w2.heap.size:=C0;clear Eh Uh;go_wp2;clear IT;go_loopw [45] (λi wr=>∃j:Nat,j<=lb.length/\i=.int .i64 (j:Int)/\wr.rowIs w2.heap.size 5 lb.length (λk=>if k<j then encB (if lb.getD k false then 119 else 110)else .int .u8 0)/\Ext w2 wr) (λi _=>lb.length-(intOf i).toNat);(case atStart=>exact⟨0,R0 _,rfl,(YX w2 _ _ _).congr (λi _=>by simp),Xe⟩);case round=>obtain⟨j,hj,rfl,k9,j3⟩:=hrel;by_cases hlt:j<lb.length;(·have Nf:=k9.cell hlt;have hfj:=k9.frozen j;have Vq:=Py.out wr j3 j hlt;have p9:∀(f:World->World)(u:Value),True:=λ_ _=>trivial;cases Ds:lb.getD j false;(·rw[Ds]at Vq;have p6:=B0 ((k9.set j (.int .u8 110)).congr (g:=λk=>if k<j+1 then encB (if lb.getD k false then 119 else 110)else .int .u8 0) (λk hk=>by by_cases h1:k=j;(·exact DE);·rw[D0 h1];by_cases h2:k<j;(·exact YV);·rw[D0 h2,D0 (show¬k<j+1 by omega)]));have IK:=B0 (j3.setCell (p:=⟨w2.heap.size,j,none⟩) (J0 _) (.int .u8 110));clear k9 Ds p9;exact Q1);·rw[Ds]at Vq;have p6:=B0 (((k9.set j (.int .u8 110)).set j (.int .u8 119)).congr (g:=λk=>if k<j+1 then encB (if lb.getD k false then 119 else 110)else .int .u8 0) (λk hk=>by by_cases h1:k=j;(·exact DE);·rw[D0 h1,D0 h1];by_cases h2:k<j;(·exact YV);·rw[D0 h2,D0 (show¬k<j+1 by omega)]));have IK:=B0 ((j3.setCell (p:=⟨w2.heap.size,j,none⟩) (J0 _) (.int .u8 110)).setCell (p:=⟨w2.heap.size,j,none⟩) (J0 _) (.int .u8 119));clear k9 Ds p9;exact Q1);·obtain rfl:j=lb.length:=C0;have j8:Sl wr (.slice (some ⟨w2.heap.size,0,none⟩) lb.length lb.length) ((Tw.elems lb).map encB):=(Sl.row k9).congr (by rw[<-ZjK];exact VM (λk hk=>by rw[G0 (by simpa using hk)]));have Cv:=Zp j8;have aBa:(Tw.elems lb).length=ws.length:=(by rw[Tw.elems,M0];exact HLB.out);clear hj hlt k9 j8 Py Pf n7;obtain⟨hy4,hy6,hy7⟩:=FY.out wr j3;obtain⟨E,hE⟩:∃E:ByteArray,Tw.elems lb=E.data.toList:=⟨⟨(Tw.elems lb).toArray⟩,by simp⟩;rw[hE]at HT Cv aBa;rw[Z0]at Cv;rw[Za]at aBa;rw[<-aBa]at Ec;have aAG:=B0 (λw' hx=>Dq.out w' hx E Ec.out);have Nv:=B0 (AT k E.data.toList check (by rw[Za];exact Ec.out));clear hE aBa Dq;by_cases he:(Tw.Ij k E.data.toList).2≠0;(·rw[G0 he]at HT;have d1:((Tw.Ij k E.data.toList).2 !=0)=true:=R1.2 he;clear Nv he;generalize Tw.Ij k E.data.toList=rd at*;obtain⟨r1,r2⟩:=rd;simp only at d1 HT aAG;go_wp2_with fail;refine(aAG.out _ (Z3.Ll _ (Uk.trans j3))).mono ?_;rintro e w4 ⟨rfl,j9⟩;go_wp2;go_ret2;exact⟨by rw[HT.out];rfl,(b7.trans j3).trans j9⟩);·rw[D0 he]at HT;have Mh:(Tw.Ij k E.data.toList).2=0:=L5 he;obtain⟨IZ,Aa⟩:=Nv.out Mh;rw[Mh]at aAG;clear he Mh Nv;generalize(Tw.Ij k E.data.toList).1=ch at*;obtain⟨C,rfl⟩:∃C:ByteArray,ch=C.data.toList:=⟨⟨ch.toArray⟩,by simp⟩;simp only[strV,Z0]at aAG;rw[Za]at IZ Aa;have aB0:=B0 (λw' hx=>Ie.out w' hx C C0 IZ);have Oj:=AU k C.data.toList check;clear Ie;generalize Tw.Wt k C.data.toList check=tx at*;obtain⟨T,rfl⟩:∃C:ByteArray,tx=C.data.toList:=⟨⟨tx.toArray⟩,by simp⟩;simp only[strV,Z0]at aB0;simp only[Za]at Oj;cases check;(·rw[D0 (λh=>Bool.noConfusion h.1)]at HT;clear Ut;go_wp2_with fail;refine(aAG.out _ (Z3.Ll _ (Uk.trans j3))).mono ?_;rintro e w4 ⟨rfl,j9⟩;obtain⟨Su,hq6,hq7⟩:=FY.out w4 (j3.trans j9);go_wp2_with fail;refine(aB0.out _ (Z3.Ll _ ((Uk.trans j3).trans j9))).mono ?_;rintro e w5 ⟨rfl,j5⟩;go_wp2;go_ret2;exact⟨by rw[HT.out];exact WU rfl rfl,((b7.trans j3).trans j9).trans j5⟩);·have aAr:=B0 (λw' hx=>Ut.out w' hx T C0);clear Ut;by_cases Eg:Tw.IJ k T.data.toList true=(C.data.toList,0);(·rw[D0 (λh=>h.2 Eg)]at HT;rw[Eg]at aAr;simp only[strV,Z0]at aAr;clear Eg;go_wp2_with fail;refine(aAG.out _ (Z3.Ll _ (Uk.trans j3))).mono ?_;rintro e w4 ⟨rfl,j9⟩;obtain⟨Su,hq6,hq7⟩:=FY.out w4 (j3.trans j9);go_wp2_with fail;refine(aB0.out _ (Z3.Ll _ ((Uk.trans j3).trans j9))).mono ?_;rintro e w5 ⟨rfl,j5⟩;obtain⟨St,hp6,hp7⟩:=FY.out w5 ((j3.trans j9).trans j5);go_wp2_with fail;refine(aAr.out _ (Z3.Ll _ (((Uk.trans j3).trans j9).trans j5))).mono ?_;rintro e w6 ⟨rfl,o9⟩;go_wp2;go_ret2;exact⟨by rw[HT.out];exact WU rfl rfl,(((b7.trans j3).trans j9).trans j5).trans o9⟩);·rw[G0 ⟨rfl,Eg⟩]at HT;generalize Tw.IJ k T.data.toList true=cp at*;obtain⟨x1,x2⟩:=cp;obtain⟨X,rfl⟩:∃C:ByteArray,x1=C.data.toList:=⟨⟨x1.toArray⟩,by simp⟩;simp only[strV,Z0]at aAr;by_cases aCi:x2=0;(·subst aCi;have k7:(X.toList==C.toList)=false:=(by rw[I2,I2,O0];intro h;exact Eg (by rw[h]));clear Eg;exact eG);·have k7:(x2 !=0)=true:=R1.2 aCi;clear Eg aCi;exact eG
end
end Go.Proofs.Enc
section
namespace Go.Proofs.Enc
open Go.Proofs.Tryz
open Go.RowKit
def isW(e:List UInt8):List Bool:=e.map λc=>decide (c=119)
def NW(e:List UInt8):Prop:=∀c∈e,c=110\/c=119
def ZjJ(e:List UInt8)(h:NW e):Tw.elems (isW e)=e:=by
 unfold Tw.elems isW;rw[K7];conv=>rhs;rw[<-List.map_id e]
 refine VM (λc hc=> ?_);rcases h c hc with rfl|rfl<;>rfl
end Go.Proofs.Enc
namespace Go.Proofs.Enc
open Go.Proofs.Tryz
open Go.RowKit
def eH(L:List (List UInt8))(h:L≠ []):110::Lib.join L [110]=(L.map (λx=>110::x)).flatten:=by
 cases L with
 |nil=>exact absurd rfl h
 |cons x r=>rw[NM];simp[Lib.joinTail]
section
variable (cs ps:List UInt8) (z:Nat)
def pt(c:UInt8):List UInt8:=(Tw.pat cs ps z c).1
def drawn(chars:List UInt8):List UInt8:=Lib.join (chars.map (pt cs ps z)) [110]
def Good(c:UInt8):Prop:=(pt cs ps z c).length=z/\Tw.chr cs ps z (pt cs ps z c)=(c,true)
variable {cs ps z} {chars:List UInt8}
def aAp(c:UInt8):UInt8:=if c=119 then 110 else 119
def AX(e:List UInt8)(p:Nat):List UInt8:=e.set p (aAp (e.getD p 0))
end
end Go.Proofs.Enc
namespace Go.Proofs.Enc
open Go.Proofs.Tryz
open Go.RowKit
structure Sym (k:Nat) (l:List UInt8) (check:Bool) (chars:List UInt8):Prop where
 read:Tw.Ij k (Tw.Er k chars)=(chars,0)
 aEh:∀p,p<(Tw.Er k chars).length->(Tw.Ij k (AX (Tw.Er k chars) p)).2≠0
 text:Tw.Wt k chars check=l
 counts:Tw.countsK k (Tw.Er k chars).length check=true
 odd:(Tw.Er k chars).length%2=1
 nw:NW (Tw.Er k chars)
 both:∀p,(110∈Tw.Er k chars/\119∈Tw.Er k chars)/\110∈AX (Tw.Er k chars) p/\119∈AX (Tw.Er k chars) p
end Go.Proofs.Enc
namespace Go.Proofs.Enc
open Go.Proofs.Tryz
open Go.RowKit
def ZjB(k:Nat)(l:List UInt8)(check:Bool):(Tw.IJ k l check).1.length<=l.length+4:=by
 have hc7:=UP 7 l;have Am:=UP 1 l
 match k with
 |0=>
  show(Tw.comp39 l check).1.length<=_
  unfold Tw.comp39
  repeat' split
  all_goals simp only[S0,B1,I3];omega
 |1=>
  show(Tw.compCb l check).1.length<=_
  unfold Tw.compCb
  repeat' split
  all_goals simp only[S0,B1,I3,J1,X1];omega
 |k+2=>
  show(Tw.compItf l check).1.length<=_
  unfold Tw.compItf
  repeat' split
  all_goals simp only[S0,I3];omega
def aDV(k:Nat)(l:List UInt8)(check:Bool)(chars:List UInt8)(hs:Sym k l check chars)(hc:Tw.IJ k l check=(chars,0))(ws:List Int)(hw:Tw.wide ws=(isW (Tw.Er k chars),0))(hl:ws.length=(Tw.Er k chars).length):Tw.decK k ws check=(l,0):=by
 unfold Tw.decK;rw[hw,hl,hs.counts,D0 Bool.noConfusion,D0 (λh=>h rfl)];simp only;rw[ZjJ _ hs.nw,hs.read,D0 (λh=>h rfl)];simp only;rw[hs.text];by_cases Aq:check=true;·subst Aq;rw[hc,D0 (λh=>h.2 rfl)]
 .rw[D0 (λh=>Aq h.1)]
end Go.Proofs.Enc
end
namespace Go.Proofs.Enc
open Go.Proofs.Tryz
section
open Go.RowKit
def eP:(prog.info? 92).map (·.size)=some 2:=D1
def ZkN:liesAt prog prog.depth 92 (2/prog.cellsOf 92) 0 92 1=true:=D1
def Zfl(b:Nat)(w:World)(h0:w.cell? ⟨b,0,none⟩=some (.pointer (some ⟨b,0,none⟩))):
 Calls prog 101 #[.pointer (some ⟨b,0,none⟩)] w λe w'=>e=.returned (.tuple #[])/\w'=w:=by
 obtain⟨j,hj,_⟩:=UQ.1 eP;go_enter func101,ntmps101;go_wp2;rw[Lib.run_neq_ptr_same w _ underlying89 hj];go_wp2;go_end0;exact⟨rfl,rfl⟩
def Ze8(b:Nat)(w:World)(h0:w.cell? ⟨b,0,none⟩=some (.pointer none))(hsh:w.shape? b=some (92,2))(Gg:w.frozen? ⟨b,0,none⟩=false):
 Calls prog 101 #[.pointer (some ⟨b,0,none⟩)] w λe w'=>e=.returned (.tuple #[])/\w'=w.setCell ⟨b,0,none⟩ (.pointer (some ⟨b,0,none⟩)):=by
 obtain⟨j,hj,hjs⟩:=UQ.1 eP;go_enter func101,ntmps101;go_wp2;rw[Lib.run_to_unsafe w ⟨b,0,none⟩ underlying89 underlying202 hj (by rw[hjs];decide) hsh (Nat.zero_lt_succ 1)];simp only[Result.andThen];rw[AY];go_wp2;rw[run_callFunc_extern func163 N0 N0 N0 (e:=Extern.AbiNoEscape.same) N0];rw[Lib.run_noEscape];simp only[Result.andThen];rw[AY];go_wp2;rw[Lib.run_from_unsafe w ⟨b,0,none⟩ underlying202 underlying89 hj hsh ZkN];simp only[Result.andThen];rw[AY];go_wp2;go_end0;exact⟨rfl,rfl⟩
def ZfP(B b:Nat)(bs:List Value)(w:World)(h:Lib.IsBuilder 92 5 B b bs w):
 Calls prog 101 #[.pointer (some ⟨b,0,none⟩)] w λe w'=>e=.returned (.tuple #[])/\(Lib.BuilderAt 92 5 B b (.pointer (some ⟨b,0,none⟩)) bs w'/\Below B w w'):=by
 rcases h with h|h
 .refine(Ze8 b w h.cell0 h.shape h.frozen0).mono ?_;rintro e w' ⟨rfl,rfl⟩;exact⟨rfl,h.used _,(YK B w).setCell (p:=⟨b,0,none⟩) h.1 _⟩
 .refine(Zfl b w h.cell0).mono ?_;rintro e w' ⟨rfl,rfl⟩;exact⟨rfl,h,YK B _⟩
def Zfh(B b:Nat)(bs:List Value)(s:ByteArray)(w:World)(h:Lib.IsBuilder 92 5 B b bs w)(hlen:bs.length+s.size<=140737488355328)(hBw:B<=w.heap.size):
 Calls prog 59 #[.pointer (some ⟨b,0,none⟩),.string s] w λe w'=>e=.returned (.tuple #[.int .i64 s.size,.nilIface])/\(Lib.IsBuilder 92 5 B b (bs++Lib.strCells s) w'/\Below B w w'):=by
 obtain⟨i0,hi,An,p8,x9⟩:=C5 UI;go_enter func59,ntmps59;go_wp2_with fail;refine(ZfP B b bs _ h).mono ?_;rintro e w1 ⟨rfl,h1,o8⟩;obtain⟨hB,v,Dt,b8,k7⟩:=h1;have c0:w1.cell? ⟨b,0,none⟩=some (.pointer (some ⟨b,0,none⟩)):=by rw[KI Dt];rfl
 have c1:w1.cell? ⟨b,1,none⟩=some v:=by rw[KI Dt];rfl
 go_wp2_with (at_builtin;refine Lib.wpList_append_own_string _ rfl _ _ 90 9 rfl B 5 i0 underlying90 underlying9 hi An p8 x9 _ _ _ rfl b8 s rfl ?c3 ?c4 ?c5 ?_)
 case c3=>exact B8
 case c4=>omega
 case c5=>have:=o8.size;omega
 intro v' w2 aBH aBE _;have hlt:b<w1.heap.size:=by rcases H5 b w1.heap.size with h'|h';(·exact h');·simp[TC h']at Dt
 have n7:w2.heap[b]? =some (.cells #[.pointer (some ⟨b,0,none⟩),v] 92 (0,0)):=by rw[aBE.block b hlt (λe=>k7 e.symm)];exact Dt
 have d0:w2.cell? ⟨b,0,none⟩=some (.pointer (some ⟨b,0,none⟩)):=by rw[KI n7];rfl
 have d1:w2.cell? ⟨b,1,none⟩=some v:=by rw[KI n7];rfl
 have f1:w2.frozen? ⟨b,1,none⟩=false:=AZ n7 1;obtain⟨ao,n',cap,rfl⟩:∃ao n' cap,v'=.slice ao n' cap:=by rcases aBH.2 with⟨hv,_⟩|⟨g,cap,cur,hv,_⟩;(·exact⟨_,_,_,hv⟩);·exact⟨_,_,_,hv⟩
 go_wp2;go_ret2;refine⟨rfl,.inr ?_,?_⟩
 .exact Lib.BuilderAt.put (T:=92) (e:=5) hB n7 (bs':=bs++Lib.strCells s) (by simpa[Lib.strCells_length]using aBH) I0
 .exact(o8.grown aBE (by have:=o8.size;omega) (λk hk=>(b8.lt k hk).1)).setCell (p:=⟨b,1,none⟩) hB _
def ZmE{B b:Nat}{bs:List Value}{w w':World}(h:Lib.IsBuilder 92 5 B b bs w)(hx:Ext w w'):Lib.IsBuilder 92 5 B b bs w':=by
 have key:∀p,Lib.BuilderAt 92 5 B b p bs w->Lib.BuilderAt 92 5 B b p bs w':=by
  rintro p ⟨hB,v,hb,b8,k7⟩
  have hlt:b<w.heap.size:=by rcases H5 b w.heap.size with h'|h';(·exact h');·simp[TC h']at hb
  refine⟨hB,v,by rw[hx.block b hlt];exact hb,b8.kept hx.Hl ?_,k7⟩
  cases hv:v.ownBlock with
  |none=>exact .inl rfl
  |some k=>exact .inr L0
 exact h.elim (λx=>.inl (key _ x)) (λx=>.inr (key _ x))
def VO(c:UInt8):UInt8.ofNat c.toNat=c:=by simp
end
section
open Go.RowKit Go.WideMaps Go.Maps
def tab:Nat->DataW Unit
 |0=>.map []
 |k+1=>(tab k).put (.string (Tw.rep (UInt8.ofNat k))) (.lit (.int .u8 (k:Int)))
end
section
open Go.RowKit
def Zi8(kind:Int)(s:ByteArray)(r:Int)(check:Bool)(p5:ByteArray)(w:World)(hs:s.size<=9223372036854775807):
 Calls prog 20 #[.int .i64 kind,.string s,.agg #[.int .i64 r,.bool check,.string p5]] w (EncR (Tw.enc kind s.data.toList r check) w):=by
 unfold Tw.enc;split
 .rename_i h;subst h;exact DB 0 5 s r check p5 w hs uE
 split
 .rename_i h;subst h;exact DB 1 6 s r check p5 w hs uF
 split
 .rename_i h;subst h;exact DB 2 7 s r check p5 w hs uG
 rename_i h5 h6 h7;have HF:=B0 (λw=>uH kind w h5 h6 h7);clear h5 h6 h7;go_enter func20,ntmps20;go_wp2_with fail;refine(HF.out _).mono ?_;rintro e w1 ⟨rfl,b7⟩;go_wp2;go_ret2;exact⟨.slice none 0 0,rfl,U9 _,((((Ext.refl w).alloc _).trans b7).alloc _)⟩
def ZgT(kind:Int)(v:Value)(ws:List Int)(check:Bool)(w:World)(hv:Sl w v (ws.map encI))(hl:ws.length<=1000000):
 Calls prog 21 #[.int .i64 kind,v,.bool check] w (DecR (Tw.dec kind ws check) w):=by
 unfold Tw.dec;split
 .rename_i h;subst h;exact AW 0 5 v ws check w hv hl uE
 split
 .rename_i h;subst h;exact AW 1 6 v ws check w hv hl uF
 split
 .rename_i h;subst h;exact AW 2 7 v ws check w hv hl uG
 rename_i h5 h6 h7;have HF:=B0 (λw=>uH kind w h5 h6 h7);clear h5 h6 h7;obtain⟨a,c,rfl⟩:=hv.form;clear hv;go_enter func21,ntmps21;go_wp2_with fail;refine(HF.out _).mono ?_;rintro e w1 ⟨rfl,b7⟩;go_wp2;go_ret2;exact⟨rfl,b7.alloc _⟩
end
section
open Go.RowKit Go.WideMaps Go.Maps
def Gs.fixF(l:List UInt8):Int×Int×Int:=match Gs.find l with
 |none=>(0,0,29)
 |some r=>(if Gs.isFix r then r.2.2.1 else 0,r.2.2.1,0)
end
section
open Go.RowKit
def G9(s:ByteArray):encS s.data.toList=.string s:=by unfold encS;rw[Z0]
def elC(xs:List Gs.El):List Value:=xs.flatMap λx=>[encS x.1,encS x.2]
def Zli(xs:List Gs.El)(x:Gs.El):elC (xs++[x])=elC xs++[encS x.1,encS x.2]:=by simp[elC]
def ZnN(xs:List Gs.El):∀(i:Nat)(x:Gs.El),xs[i]? =some x->(elC xs)[i*2]? =some (encS x.1)/\(elC xs)[i*2+1]? =some (encS x.2):=by
 induction xs with
 |nil=>intro i x h;simp at h
 |cons y ys ih=>
  intro i x h
  cases i with
  |zero=>simp only[List.getElem?_cons_zero,P2]at h;subst h;exact⟨rfl,rfl⟩
  |succ i=>rw[List.getElem?_cons_succ]at h;have:=ih i x h;have e1:(i+1)*2=i*2+1+1:=C0;rw[e1];simp only[elC,M7,C3,G4,List.getElem?_cons_succ]at this⊢;exact L3
def EOwn(w:World)(B:Nat)(v:Value)(xs:List Gs.El):Prop:=w.ownsRow B 86 2 v xs.length (elC xs)
def EOwn.nil(w:World)(B:Nat):EOwn w B (.slice none 0 0) []:=RB _ _ _ _
section
variable {w w':World} {B:Nat} {v:Value} {xs:List Gs.El}
def EOwn.ext(h:EOwn w B v xs)(hx:Ext w w'):EOwn w' B v xs:=by
 refine YQ h hx.Hl ?_;cases hv:v.ownBlock with
 |none=>exact .inl rfl
 |some k=>exact .inr L0
def EOwn.low(h:EOwn w B v xs):∀k,v.ownBlock=some k->B<=k:=λk hk=>(R4 h k hk).1
end
def ESl(w:World)(v:Value)(xs:List Gs.El):Prop:=
 (xs=[]/\∃a c,v=.slice a 0 c)\/∃b off cap,v=.slice (some ⟨b,off,none⟩) xs.length cap/\b<w.heap.size/\∀i x,xs[i]? =some x->w.cell? ⟨b,off+i*2,none⟩=some (encS x.1)/\w.cell? ⟨b,off+i*2+1,none⟩=some (encS x.2)
def ESl.ext{w w':World}{v:Value}{xs:List Gs.El}(h:ESl w v xs)(hx:Ext w w'):ESl w' v xs:=by
 rcases h with h|⟨b,off,cap,h1,h2,h3⟩;·exact .inl h
 .refine .inr ⟨b,off,cap,h1,W1 h2 hx.size,λi x hi=> ?_⟩;rw[hx.cell (p:=⟨b,off+i*2,none⟩) h2,hx.cell (p:=⟨b,off+i*2+1,none⟩) h2];exact h3 i x hi
def EOwn.sl{w:World}{B:Nat}{v:Value}{xs:List Gs.El}(h:EOwn w B v xs):ESl w v xs:=by
 rcases h.2 with⟨By,h0⟩|⟨g,cap,cur,hv,Ki,hb,h1,h2,h3,h4⟩;·exact kA
 .refine .inr ⟨g,0,cap,hv,(V3.1 hb).1,λi x hi=> ?_⟩;have hh:=h;unfold EOwn at hh;rw[hv]at hh;have Ev:i<xs.length:=kD;rw[Nat.zero_add,hh.cellAt (i*2) C0,hh.cellAt (i*2+1) C0];exact ZnN xs i x hi
def ESl.form{w:World}{v:Value}{xs:List Gs.El}(h:ESl w v xs):∃a c,v=.slice a xs.length c:=FO
def ESl.at_{w:World}{a:Option Addr}{n c:Nat}{xs:List Gs.El}(h:ESl w (.slice a n c) xs){k:Nat}{x:Gs.El}(hk:xs[k]? =some x):
 ∃b off,a=some ⟨b,off,none⟩/\b<w.heap.size/\w.cell? ⟨b,off+k*2,none⟩=some (encS x.1)/\w.cell? ⟨b,off+k*2+1,none⟩=some (encS x.2):=by
 rcases h with⟨rfl,_⟩|⟨b,off,cap,he,hb,hc⟩
 .simp at hk
 .injection he with h1 h2 h3;exact⟨b,off,h1,hb,hc k x hk⟩
def Zna:(prog.info? 86).map (λi=>(i.zero,i.size,i.bytes))=some (some (.agg #[.string ⟨#[]⟩,.string ⟨#[]⟩]),2,32):=D1
def qA{w:World}{ops:Array Oper}{rest:List Oper}{o:Oper}{a:Act}{Q:Exit->Act->World->Prop}(IG:o.guard=none)(s x:Operand)
 (ho:o.op=.call {callee:=.builtin .append,args:= #[s,x],argTypes:= #[39,39]})
 (B:Nat)(v:Value)(xs:List Gs.El)(hs:a.eval s=v)(b8:EOwn w B v xs)(b:Nat)(u:Gs.El)(hx:a.eval x=.slice (some ⟨b,0,none⟩) 1 1)
 (hc:w.cell? ⟨b,0,none⟩=some (encS u.1))(Am:w.cell? ⟨b,1,none⟩=some (encS u.2))(hn:xs.length<=999999999)(hB:B<=w.heap.size)
 (h:∀v' w',EOwn w' B v' (xs++[u])->w.grownBy w' v.ownBlock->wpList prog ops Q rest (a.put o.dst v') w'):wpList prog ops Q (o::rest) a w:=by
 obtain⟨i0,hi,An,p8,x9⟩:=C5 Zna;refine RD _ IG s x 39 ho B 86 i0 _ 2 32 underlying39 hi An p8 x9 rfl I0 v xs.length (elC xs) hs b8 ⟨b,0,none⟩ 1 1 [encS u.1,encS u.2] hx rfl ?_ ?_ ?_ ?_ hB ?_
 .intro j u' hj
  rw[UD]
  match j with
  |0=>simp only[List.getElem?_cons_zero,P2]at hj;subst hj;exact hc
  |1=>simp only[List.getElem?_cons_succ,List.getElem?_cons_zero,P2]at hj;subst hj;exact Am
  |j+2=>simp at hj
 .exact eQ
 .exact B8
 .exact eR
 .intro v' w' h1 h2 _;refine h v' w' ?_ h2;unfold EOwn;rw[S0,Zli];exact h1
end
section
open Go.RowKit Go.WideMaps Go.Maps
def preV:Option (List UInt8×Gs.y7)->Value
 |none=>.tuple #[.string ⟨#[]⟩,ZI (0,0,0,0),.bool false]
 |some (a,r)=>.tuple #[encS a,ZI r,.bool true]
def PreR(o:Option (List UInt8×Gs.y7))(w:World)(e:Ending)(w':World):Prop:=e=.returned (preV o)/\Ext w w'
def E5(w:World)(b:Nat)(r:Gs.y7):Prop:=w.heap[b]? =some (.cells #[.int .i64 r.1,.int .i64 r.2.1,.int .i64 r.2.2.1,.int .u8 (r.2.2.2.toNat:Int)] 138 (0,0))
def E5.cells{w:World}{b:Nat}{r:Gs.y7}(h:E5 w b r):w.cell? ⟨b,0,none⟩=some (.int .i64 r.1)/\w.cell? ⟨b,1,none⟩=some (.int .i64 r.2.1)/\w.cell? ⟨b,2,none⟩=some (.int .i64 r.2.2.1)/\w.cell? ⟨b,3,none⟩=some (.int .u8 (r.2.2.2.toNat:Int)):=by unfold E5 at h;refine⟨?_,?_,?_,?_⟩;all_goals unfold World.cell?;rw[h];rfl
def E5.free{w:World}{b:Nat}{r:Gs.y7}(h:E5 w b r)(i:Nat):w.frozen? ⟨b,i,none⟩=false:=AZ h i
def E5.put{w:World}{b:Nat}{r:Gs.y7}(h:E5 w b r)(q:Gs.y7):E5 ((((w.setCell ⟨b,0,none⟩ (.int .i64 q.1)).setCell ⟨b,1,none⟩ (.int .i64 q.2.1)).setCell ⟨b,2,none⟩ (.int .i64 q.2.2.1)).setCell ⟨b,3,none⟩ (.int .u8 (q.2.2.2.toNat:Int))) b q:=
 L6 (L6 (L6 (L6 h _) _) _) _
def TZ{w:World}{b i:Nat}{cs:Array Value}{T:TypeId}{fr:Nat×Nat}{v:Value}(h:w.heap[b]? =some (.cells cs T fr))(hi:i<cs.size):(w.setCell ⟨b,i,none⟩ v).cell? ⟨b,i,none⟩=some v:=by unfold World.cell?;rw[L6 h];simp[hi]
def E5.Wq{w:World}{b:Nat}{r:Gs.y7}(h:E5 w b r)(q:Gs.y7):
 (w.setCell ⟨b,0,none⟩ (.int .i64 q.1)).cell? ⟨b,0,none⟩=some (.int .i64 q.1)/\
 ((w.setCell ⟨b,0,none⟩ (.int .i64 q.1)).setCell ⟨b,1,none⟩ (.int .i64 q.2.1)).cell? ⟨b,1,none⟩=some (.int .i64 q.2.1)/\
 (((w.setCell ⟨b,0,none⟩ (.int .i64 q.1)).setCell ⟨b,1,none⟩ (.int .i64 q.2.1)).setCell ⟨b,2,none⟩ (.int .i64 q.2.2.1)).cell? ⟨b,2,none⟩=some (.int .i64 q.2.2.1)/\
 ((((w.setCell ⟨b,0,none⟩ (.int .i64 q.1)).setCell ⟨b,1,none⟩ (.int .i64 q.2.1)).setCell ⟨b,2,none⟩ (.int .i64 q.2.2.1)).setCell ⟨b,3,none⟩ (.int .u8 (q.2.2.2.toNat:Int))).cell? ⟨b,3,none⟩=some (.int .u8 (q.2.2.2.toNat:Int)):=
 ⟨TZ h L0,TZ (L6 h _) L0,TZ (L6 (L6 h _) _) L0,TZ (L6 (L6 (L6 h _) _) _) L0⟩
def E5.aEW{w:World}{b:Nat}{r:Gs.y7}(h:E5 w b r):
 (w.setCell ⟨b,0,none⟩ (.int .i64 0)).cell? ⟨b,0,none⟩=some (.int .i64 0)/\
 ((w.setCell ⟨b,0,none⟩ (.int .i64 0)).setCell ⟨b,1,none⟩ (.int .i64 0)).cell? ⟨b,1,none⟩=some (.int .i64 0)/\
 (((w.setCell ⟨b,0,none⟩ (.int .i64 0)).setCell ⟨b,1,none⟩ (.int .i64 0)).setCell ⟨b,2,none⟩ (.int .i64 0)).cell? ⟨b,2,none⟩=some (.int .i64 0)/\
 ((((w.setCell ⟨b,0,none⟩ (.int .i64 0)).setCell ⟨b,1,none⟩ (.int .i64 0)).setCell ⟨b,2,none⟩ (.int .i64 0)).setCell ⟨b,3,none⟩ (.int .u8 0)).cell? ⟨b,3,none⟩=some (.int .u8 0):=h.Wq (0,0,0,0)
def E5.ext{w w':World}{b:Nat}{r:Gs.y7}(h:E5 w b r)(hx:Ext w w'):E5 w' b r:=by unfold E5 at h⊢;exact eS
def Zoi{l:List UInt8}(n:Nat)(h0:∀j,2<=j->j<n->Gs.preN l j=none)(h2:2<=n)(h4:n<=4){a:List UInt8×Gs.y7}(h:Gs.preN l n=some a):Gs.pre l=some a:=by
 unfold Gs.pre;have:n=2\/n=3\/n=4:=by omega
 rcases this with rfl|rfl|rfl;·rw[h];rfl
 .rw[h0 2 C0 C0,h];rfl
 .rw[h0 2 C0 C0,h0 3 C0 C0,h];rfl
def Zoj{l:List UInt8}(n:Nat)(h0:∀j,2<=j->j<n->Gs.preN l j=none)(h2:2<=n)(h:4<n\/l.length<n):Gs.pre l=none:=by
 have key:∀j,2<=j->j<=4->Gs.preN l j=none:=by intro j h1 h3;rcases H5 j n with hh|hh;(·exact h0 j h1 hh);·unfold Gs.preN;rw[D0 C0]
 unfold Gs.pre;rw[key 2 C0 C0,key 3 C0 C0,key 4 C0 C0];rfl
def ZiV(s:ByteArray)(b:Nat)(w:World)(hd:Dir w b)(hs:s.size<=1000000):
 Calls prog 218 #[.map (some b),.string s] w (PreR (Gs.pre s.data.toList) w):=by
 have HF:=B0 (λ(n:Nat)(w':World)(hx:Ext w w')=>CG (s.extract 0 n) b w' (hd.ext hx) (by unfold maxLen;rw[XL];omega));have HP:=B0 (@Zoi s.data.toList);have HN:=B0 (@Zoj s.data.toList);have HE:=B0 (λn=>Gs.preN.eq_1 s.data.toList n);have HC:=B0 (λn=>Zx s n);have hlen:=Za s;generalize Gs.pre s.data.toList=res at*;generalize hl:s.data.toList=l at*;clear hd hl;have HL:=B0 hlen;clear hlen;go_enter func218,ntmps218;go_wp2;go_loopw [7] (λt wr=>∃n:Nat,2<=n/\n<=5/\t=.int .i64 (n:Int)/\Hid (∀j,2<=j->j<n->Gs.preN l j=none)/\Ext w wr/\Hid (∃r,E5 wr w.heap.size r)) (λt _=>5-(intOf t).toNat)
 case atStart=>exact⟨2,by omega,by omega,rfl,B0 (λj h1 h2=>by omega),(Ext.refl w).alloc _,B0 ⟨(0,0,0,0),X2 _ _⟩⟩
 case round=>
  obtain⟨n,h2,h5,rfl,Bz,hx,hr⟩:=hrel;by_cases h4:n<=4
  .by_cases hle:n<=s.size
   .obtain⟨r0,Ey⟩:=hr.out
    have H1:=B0 (HF.out n wr hx)
    have Xa:=B0 (HE.out n)
    rw[G0 (by rw[HL.out];exact hle)]at Xa
    rw[HC.out]at H1
    obtain⟨T,hT⟩:∃T,l.take n=T:=⟨_,rfl⟩
    rw[hT]at H1 Xa
    cases hg:Gs.find T with
    |none=>rw[hg]at H1 Xa;have Gv:Hid (∀j,2<=j->j<n+1->Gs.preN l j=none):=B0 (λj h1 h3=>by rcases H5 j n with hh|hh;(·exact Bz.out j h1 hh);·obtain rfl:j=n:=C0;exact Xa.out);clear hg hT Xa;go_wp2_with fail;refine H1.out.mono ?_;rintro e w1 ⟨rfl,b7⟩;dsimp only[B7,ZI,Option.isSome];have IZ:=Ey.ext b7;obtain⟨c0,c1,c2,c3⟩:=IZ.cells;have f0:=IZ.free 0;have f1:=IZ.free 1;have f2:=IZ.free 2;have f3:=IZ.free 3;have p6:=B0 (IZ.put (0,0,0,0));have n8:=hx.trans b7;clear hx b7 IZ Ey hr;go_wp2;go_roundw;(case rel=>exact⟨n+1,by omega,by omega,by go_num,Gv,(((n8.setCell (J0 _) _).setCell (J0 _) _).setCell (J0 _) _).setCell (J0 _) _,B0 ⟨_,p6.out⟩⟩);case measure=>exact QH
    |some r=>rw[hg]at H1 Xa;have Ak:Hid (res=some (T,r)):=B0 (HP.out n Bz.out h2 h4 (by rw[Xa.out];rfl));have HT:Hid (encS T=.string (s.extract 0 n)):=B0 (by rw[<-hT,<-HC.out,G9]);clear hg Xa HP HN hT;obtain⟨ra,rb,rc,rd⟩:=r;go_wp2_with fail;refine H1.out.mono ?_;rintro e w1 ⟨rfl,b7⟩;dsimp only[B7,ZI,Option.isSome];have IZ:=Ey.ext b7;obtain⟨c0,c1,c2,c3⟩:=IZ.cells;have f0:=IZ.free 0;have f1:=IZ.free 1;have f2:=IZ.free 2;have f3:=IZ.free 3;have n8:=hx.trans b7;clear hx b7 Ey hr;have Aa:=IZ.put (ra,rb,rc,rd);dsimp only at Aa;clear IZ;go_wp2;have aBl:Ext w ((((w1.setCell ⟨w.heap.size,0,none⟩ (.int .i64 ra)).setCell ⟨w.heap.size,1,none⟩ (.int .i64 rb)).setCell ⟨w.heap.size,2,none⟩ (.int .i64 rc)).setCell ⟨w.heap.size,3,none⟩ (.int .u8 (rd.toNat:Int))):=(((n8.setCell (J0 _) _).setCell (J0 _) _).setCell (J0 _) _).setCell (J0 _) _;generalize((((w1.setCell ⟨w.heap.size,0,none⟩ (.int .i64 ra)).setCell ⟨w.heap.size,1,none⟩ (.int .i64 rb)).setCell ⟨w.heap.size,2,none⟩ (.int .i64 rc)).setCell ⟨w.heap.size,3,none⟩ (.int .u8 (rd.toNat:Int)))=w2 at*;obtain⟨g0,g1,g2,g3⟩:=Aa.cells;dsimp only at g0 g1 g2 g3;have f0:=Aa.free 0;have f1:=Aa.free 1;have f2:=Aa.free 2;have f3:=Aa.free 3;have HQ:=B0 (Aa.Wq (ra,rb,rc,rd));clear Aa n8 c0 c1 c2 c3;go_region;all_goals go_wp2;obtain⟨p0,p1,p2,p3⟩:=HQ.out;refine N4 (v:=.tuple #[.string (s.extract 0 n),.agg #[.int .i64 ra,.int .i64 rb,.int .i64 rc,.int .u8 (rd.toNat:Int)],.bool true]) eT rfl ⟨by rw[Ak.out];simp only[preV,HT.out,ZI],Xf⟩
   .have Ak:Hid (res=none):=B0 (HN.out n Bz.out h2 (.inr (by rw[HL.out];omega)));obtain⟨r0,Ey⟩:=hr.out;obtain⟨c0,c1,c2,c3⟩:=Ey.cells;have f0:=Ey.free 0;have f1:=Ey.free 1;have f2:=Ey.free 2;have f3:=Ey.free 3;have HQ:=B0 Ey.aEW;have aIc:(s.size:Int)<(n:Int):=C0;exact eU
  .have Ak:Hid (res=none):=B0 (HN.out n Bz.out h2 (.inl C0));obtain⟨r0,Ey⟩:=hr.out;obtain⟨c0,c1,c2,c3⟩:=Ey.cells;have f0:=Ey.free 0;have f1:=Ey.free 1;have f2:=Ey.free 2;have f3:=Ey.free 3;have HQ:=B0 Ey.aEW;exact eU
def eV(v:Value)(xs:List Gs.El)(b:Nat)(w:World)(hd:Dir w b)(hl:ESl w v xs)(hn:xs.length<=1000000000000)(hs:∀x∈xs,x.1.length<=maxLen/\x.2.length<=maxLen):
 Calls prog 58 #[.map (some b),v] w λe w'=>e=.returned (.int .i64 (Gs.verAll xs))/\Ext w w':=by
 obtain⟨a,c,rfl⟩:=hl.form;have HV:=B0 (λ(w':World)(hx:Ext w w')(ai d:ByteArray)(h1:ai.size<=maxLen)(h2:d.size<=maxLen)=>CO ai d b w' (hd.ext hx) h1 h2);have HL:=B0 hl;have HS:=B0 hs;have HR:=B0 (Gs.verAll.eq_1 xs);generalize Gs.verAll xs=res at*;clear hl hd hs;by_cases h0:xs=[]
 .subst h0;rw[G0 rfl]at HR;clear HV HL HS;go_enter func58,ntmps58;go_wp2;go_ret;exact⟨Zo HR.out.symm,Ext.refl _⟩
 .rw[D0 h0]at HR;obtain⟨N,hN⟩:∃N,xs.length=N:=⟨_,rfl⟩;have hN0:0<N:=(by rw[<-hN];exact MZ);have hN1:((N:Int)==0)=false:=QJ;have HN:=B0 hN;rw[hN]at hn HL⊢;clear h0 hN;go_enter func58,ntmps58;go_wp2;go_loopw [13] (λt wr=>∃k:Nat,k<=N/\t=.int .i64 (k:Int)/\Hid (res=Gs.verL (xs.drop k))/\Ext w wr) (λt _=>N-(intOf t).toNat);(case atStart=>exact⟨0,R0 _,rfl,HR,Ext.refl w⟩);case round=>obtain⟨k,hk,rfl,hv,hx⟩:=hrel;by_cases hlt:k<N;(·obtain⟨x,Dw⟩:∃x,xs[k]? =some x:=⟨_,P0 SC⟩;obtain⟨bb,off,ha,hb,q0,q1⟩:=HL.out.at_ Dw;subst ha;have d0:=(hx.cell (p:=⟨bb,off+k*2,none⟩) hb).trans q0;have d1:=(hx.cell (p:=⟨bb,off+k*2+1,none⟩) hb).trans q1;have Ja:xs.drop k=x::xs.drop (k+1):=KJ;have Ae:=B0 (hv.out.trans (by rw[Ja,Gs.verL]));obtain⟨s1,s2⟩:=HS.out x (L1 Dw);obtain⟨xa,xd⟩:=x;unfold encS at d0 d1;dsimp only at d0 d1 s1 s2 Ae;have HB:Hid ((⟨xa.toArray⟩:ByteArray).data.toList=xa/\(⟨xd.toArray⟩:ByteArray).data.toList=xd/\(⟨xa.toArray⟩:ByteArray).size<=maxLen/\(⟨xd.toArray⟩:ByteArray).size<=maxLen):=B0 (by simp[ByteArray.size];exact⟨s1,s2⟩);generalize(⟨xa.toArray⟩:ByteArray)=A at*;generalize(⟨xd.toArray⟩:ByteArray)=D at*;clear Dw q0 q1 Ja s1 s2 hv;go_wp2_with fail;obtain⟨b1,b2,b3,b4⟩:=HB.out;have H1:=B0 (HV.out _ (hx.alloc (.cells #[.string A,.string D] 86)) A D b3 b4);rw[b1,b2]at H1;clear b1 b2 b3 b4;by_cases hz:Gs.ver xa xd=0;(·rw[G0 hz]at Ae;rw[hz]at H1;clear hz;refine H1.out.mono ?_;rintro e w1 ⟨rfl,b7⟩;clear d0 d1;go_wp2;go_roundw;(case rel=>exact⟨k+1,by omega,by go_num,Ae,(hx.alloc _).trans b7⟩);case measure=>exact QH);·rw[D0 hz]at Ae;obtain⟨z,Hc⟩:∃z,Gs.ver xa xd=z:=⟨_,rfl⟩;rw[Hc]at H1 Ae hz;have p8:(z==0)=false:=SF;clear Hc;refine H1.out.mono ?_;rintro e w1 ⟨rfl,b7⟩;clear d0 d1;go_wp2;go_ret;exact⟨Zo Ae.out.symm,(hx.alloc _).trans b7⟩);·exact eW
def eX(c:UInt8)(l:List UInt8):Lib.indexByte l c=if(Gs.upto c l).length=l.length then-1 else((Gs.upto c l).length:Int):=by
 induction l with
 |nil=>rfl
 |cons b l ih=>by_cases h:b=c;(·subst h;simp[Lib.indexByte,Gs.upto]);·have hb:(b==c)=false:=Y4;simp only[Lib.indexByte,Gs.upto,D0 h,hb,LI,E4,B1];rw[ih];by_cases h1:(Gs.upto c l).length=l.length;(·have h2:(Gs.upto c l).length+1=l.length+1:=C0;simp only[G0 h1,G0 h2];rfl);·have h2:¬(Gs.upto c l).length+1=l.length+1:=C0;have h3:(((Gs.upto c l).length:Int)== -1)=false:=QJ;simp only[D0 h1,D0 h2,h3];simp
def cutB(s:ByteArray)(c:UInt8):ByteArray×ByteArray×Bool:=
 if(Gs.upto c s.data.toList).length=s.size then(s,⟨#[]⟩,false)else(s.extract 0 (Gs.upto c s.data.toList).length,s.extract ((Gs.upto c s.data.toList).length+1) s.size,true)
def CutR(x:ByteArray×ByteArray×Bool)(w:World)(e:Ending)(w':World):Prop:=e=.returned (.tuple #[.string x.1,.string x.2.1,.bool x.2.2])/\Ext w w'
def Zlb(s:ByteArray)(c:UInt8)(hs:s.size<=1000000)(w:World):
 Calls prog 95 #[.string s,.string ⟨#[c]⟩] w (CutR (cutB s c) w):=by
 have HI:=B0 (Tryz.stringslite_Index_one s c w);rw[eX]at HI;have HB:=B0 (cutB.eq_1 s c);have hle:=TV c s.data.toList;rw[Za]at hle HI;generalize cutB s c=res at*;generalize(Gs.upto c s.data.toList).length=n at*;by_cases h:n=s.size
 .rw[G0 h]at HI HB;clear h hle;go_enter func95,ntmps95;go_wp2_with fail;refine HI.out.mono ?_;rintro e w1 ⟨rfl,rfl⟩;go_wp2;go_ret3;rw[HB.out];exact⟨rfl,Ext.refl _⟩
 .rw[D0 h]at HI HB;obtain⟨m,hm⟩:∃m,m=n+1:=⟨_,rfl⟩;rw[<-hm]at HB;have hni:(n:Int)+1=(m:Int):=C0;have Jc:m<=s.size:=C0;have h0:(0:Int)<=(n:Int):=C0;have HM:=B0 hm;clear h hm;go_enter func95,ntmps95;go_wp2_with fail;refine HI.out.mono ?_;rintro e w1 ⟨rfl,rfl⟩;go_wp2;go_quiet (fail);go_wp2;go_ret3;rw[HB.out];exact A7
def eY(s:ByteArray)(c:UInt8)(hs:s.size<=1000000)(w:World):
 Calls prog 55 #[.string s,.string ⟨#[c]⟩] w (CutR (cutB s c) w):=by
 have HI:=B0 (Zlb s c hs w);generalize cutB s c=res at*;obtain⟨r1,r2,r3⟩:=res;go_enter func55,ntmps55;go_wp2_with fail;refine HI.out.mono ?_;rintro e w1 ⟨rfl,b7⟩;dsimp only;go_wp2;go_ret3;exact⟨rfl,b7⟩
def ElsR(r:List Gs.El×Int)(w:World)(e:Ending)(w':World):Prop:=∃v,e=.returned (.tuple #[v,.int .i64 r.2])/\ESl w' v r.1/\Ext w w'
def ElsR.err(c:Int){w w':World}(h:Ext w w'):ElsR ([],c) w (.returned (.tuple #[.slice none 0 0,.int .i64 c])) w':=⟨_,rfl,.inl ⟨rfl,_,_,rfl⟩,h⟩
def eZ{n:Nat}{b:UInt8}{r:List UInt8}{acc:List Gs.El}(hl:(b::r).length<=n):
 (b≠40->Gs.parseF n (b::r) acc=([],9))/\
 (b=40->(Gs.upto 41 r).length=r.length->Gs.parseF n (b::r) acc=([],9))/\
 (b=40->(Gs.upto 41 r).length≠r.length->Gs.ver (Gs.upto 41 r) (Gs.upto 40 (r.drop ((Gs.upto 41 r).length+1)))≠0->Gs.parseF n (b::r) acc=([],Gs.ver (Gs.upto 41 r) (Gs.upto 40 (r.drop ((Gs.upto 41 r).length+1)))))/\
 (b=40->(Gs.upto 41 r).length≠r.length->Gs.ver (Gs.upto 41 r) (Gs.upto 40 (r.drop ((Gs.upto 41 r).length+1)))=0->Gs.parseF n (b::r) acc=Gs.parseF (n-1) ((r.drop ((Gs.upto 41 r).length+1)).drop (Gs.upto 40 (r.drop ((Gs.upto 41 r).length+1))).length) (acc++[(Gs.upto 41 r,Gs.upto 40 (r.drop ((Gs.upto 41 r).length+1)))])):=by
 obtain⟨m,rfl⟩:∃m,n=m+1:=⟨n-1,by simp at hl;omega⟩;refine⟨λh=> ?_,λh1 h2=> ?_,λh1 h2 h3=> ?_,λh1 h2 h3=> ?_⟩
 .simp only[Gs.parseF];rw[G0 h]
 .simp only[Gs.parseF];rw[D0 (by simp[h1]),G0 h2]
 .simp only[Gs.parseF];rw[D0 (by simp[h1]),D0 h2,G0 h3]
 .simp only[Gs.parseF];rw[D0 (by simp[h1]),D0 h2,D0 (by simpa using h3)];rfl
end
end Go.Proofs.Enc
