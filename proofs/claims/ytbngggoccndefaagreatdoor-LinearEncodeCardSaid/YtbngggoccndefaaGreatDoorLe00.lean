/-
  Closing scripts that stand more than once in the texts of this claim, by name, and short names of theorems.
-/
import Derived.Conc.MuData
import Derived.Conc.MuLone
import Derived.Conc.RwLib
import Derived.Deep.DeepWitnessRowRef
import Derived.Deep.Grids
import Derived.Deep.RegionHeld3
import Derived.Deep.WholeRow
import Derived.LaidMore
import Derived.LaidSub
import Derived.Laws.AppendOwnNone
import Derived.Laws.CopyOwn
import Derived.Laws.EntriesVeiled
import Derived.Lib.AppendZeros
import Derived.Lib.SmallJoins
import Derived.LoopIn
import Derived.LoopNIn
import Derived.OwnWalkIn
import Derived.RangeFuncNested
import Derived.Shelf.Slices.Turned
import Derived.Shelf.Small.Strs
import Derived.Shelf.Small.Wraps
import Derived.Shelf.Strconv.Itoa3
import Derived.Shelf.Strings.BuilderK
import Derived.Shelf.Strings.OnBuilder
import Derived.Shelf.Strings.Repeat
import Derived.Shelf.Strings.Shaped
import Derived.Shelf.Strings.SplitShaped
import Derived.Shelf.Unicode.ExclAny
import Derived.Shelf.Unicode.IsSpaceAny
import Derived.Sort.QuietTacIn
import Derived.Test.YtbngggoccndefaaGreatDoorProg
import Derived.Test.YtbngggoccndefaaGreatDoorRows
import Derived.WalkLawsBesides
import Derived.WalkSpells
import Derived.WideKeyEntry
set_option maxRecDepth 100000
set_option linter.unusedVariables false
set_option linter.defProp false
namespace Go.Proofs
open Go.RowKit
variable {p:Prop}
def Qa(h:p:=by
 subst h0;rw[D0 (λh=>h rfl)]at HX;by_cases Dr:a=0;·have HG:Hid (res=((k,t,[]),0)):=B0 (by rw[<-HX.out,G0 Dr]);have Sb:((a:Int)==0)=true:=(by rw[Dr];rfl);clear HX Ol Bv ha Dr;go_enter func139,ntmps139;go_wp2_with fail;refine(HS.out _).mono ?_;rintro e w1 ⟨rfl,hx⟩;obtain⟨z0,z1,z2,z3,z4,z5,z6,HB⟩:=Zk (ZO rfl hx.before);obtain⟨y0,y1,y2,y3,y4,y5,y6,HC⟩:=Zk (ZO (TL _ _) hx);have n8:=hx.before.before;clear hx;go_wp2;refine J2 (Zj results139 rfl (Zm (PW C0 HB)) rfl) rfl ?_;have Oz:=(((n8.setCell (p:=⟨w.heap.size+1,0,none⟩) (R3 _) (.int .i64 k)).setCell (p:=⟨w.heap.size+1,1,none⟩) (R3 _) (.string T)).setCell (p:=⟨w.heap.size+1,2,none⟩) (R3 _) (.string ⟨#[]⟩));exact tC
 .have HAE2:=B0 (Bv.out Dr);rw[D0 Dr]at HX;have Sb:((a:Int)==0)=false:=QJ;clear Bv ha Dr;have aAV:(s.size:Int)-(W:Int)=((s.size-W:Nat):Int):=C0;obtain⟨g,hg⟩:∃g,s.size-W=g:=⟨_,rfl⟩;rw[hg]at aAV HAE2;have hgs:g<=s.size:=C0;clear hg;by_cases hae:ae=0;(·subst hae;have HG:Hid (res=((k,t,al),0)):=B0 (by rw[<-HX.out,D0 (λh=>h rfl)]);clear HX;go_enter func139,ntmps139;go_wp2_with fail;refine(HS.out _).mono ?_;rintro e w1 ⟨rfl,hx⟩;obtain⟨z0,z1,z2,z3,z4,z5,z6,HB⟩:=Zk (ZO rfl hx.before);obtain⟨y0,y1,y2,y3,y4,y5,y6,HC⟩:=Zk (ZO (TL _ _) hx);have n8:=hx.before.before;clear hx;go_wp2_with fail;refine(Ol.out _).mono ?_;rintro e w2 ⟨rfl,rfl⟩;go_wp2_with fail;refine(HAE2.out _).mono ?_;rintro e w3 ⟨rfl,j4⟩;obtain⟨u0,u1,u2,u3,u4,u5,u6,Hy⟩:=Zk (Zf (PW (show w.heap.size+1≠w.heap.size by omega) HB).out j4);obtain⟨v0,v1,v2,v3,v4,v5,v6,HC3⟩:=Zk (Zf (Zm HC) j4);have Oz:=B0 ((((n8.setCell (p:=⟨w.heap.size+1,0,none⟩) (R3 _) (.int .i64 k)).setCell (p:=⟨w.heap.size+1,1,none⟩) (R3 _) (.string T)).setCell (p:=⟨w.heap.size+1,2,none⟩) (R3 _) (.string (Ea.bS []))).trans j4);clear z0 z1 z2 z3 z4 z5 z6 HB y0 y1 y2 y3 y4 y5 y6 HC n8 j4;go_wp2;refine J2 (Zj results139 rfl (Zm (B0 (Z6 (show w.heap.size+1≠w.heap.size by omega) Hy.out))) rfl) rfl ?_;have HXY:=Oz.out.setCell (p:=⟨w.heap.size+1,2,none⟩) (R3 _) (.string AL);exact⟨by rw[HG.out];unfold gotV linV;dsimp only;rw[HT.out,Wv.out];rfl,((HXY.setCell (J0 _) _).setCell (J0 _) _).setCell (J0 _) _⟩);·have HG:Hid (res=((0,[],[]),ae)):=B0 (by rw[<-HX.out,G0 hae]);have hbe:(ae !=0)=true:=R1.2 hae;clear HX hae;go_enter func139,ntmps139;go_wp2_with fail;refine(HS.out _).mono ?_;rintro e w1 ⟨rfl,hx⟩;obtain⟨z0,z1,z2,z3,z4,z5,z6,HB⟩:=Zk (ZO rfl hx.before);obtain⟨y0,y1,y2,y3,y4,y5,y6,HC⟩:=Zk (ZO (TL _ _) hx);have n8:=hx.before.before;clear hx;go_wp2_with fail;refine(Ol.out _).mono ?_;rintro e w2 ⟨rfl,rfl⟩;go_wp2_with fail;refine(HAE2.out _).mono ?_;rintro e w3 ⟨rfl,j4⟩;obtain⟨u0,u1,u2,u3,u4,u5,u6,Hy⟩:=Zk (Zf (PW (show w.heap.size+1≠w.heap.size by omega) HB).out j4);obtain⟨v0,v1,v2,v3,v4,v5,v6,HC3⟩:=Zk (Zf (Zm HC) j4);have Oz:=B0 ((((n8.setCell (p:=⟨w.heap.size+1,0,none⟩) (R3 _) (.int .i64 k)).setCell (p:=⟨w.heap.size+1,1,none⟩) (R3 _) (.string T)).setCell (p:=⟨w.heap.size+1,2,none⟩) (R3 _) (.string (Ea.bS []))).trans j4);clear z0 z1 z2 z3 z4 z5 z6 HB y0 y1 y2 y3 y4 y5 y6 HC n8 j4;go_wp2;refine J2 (Zj results139 rfl (Zm (B0 (Z6 (show w.heap.size+1≠w.heap.size by omega) Hy.out))) rfl) rfl ?_;have HXY:=Oz.out.setCell (p:=⟨w.heap.size+1,2,none⟩) (R3 _) (.string AL);exact⟨by rw[HG.out];rfl,((HXY.setCell (J0 _) _).setCell (J0 _) _).setCell (J0 _) _⟩):p:=h
def Qb(h:p:=by
 have e0:((ra,rb,(H:Int),rd).2.1==(ra,rb,(H:Int),rd).2.2.1)=true:=hf;rw[e0]at HX;clear e0;obtain⟨Q,hQ⟩:∃Q,Q=AI.size+H:=⟨_,rfl⟩;have hQi:(AI.size:Int)+(H:Int)=(Q:Int):=by omega
 by_cases hlt:j<Q;·have HR:Hid (res=(([],[]),0,10)):=B0 (Fo.out.1 hf C0);have Ee:=B0 hQ;clear Fo hf hQ;go_wp2_with fail;refine Cq.out.mono ?_;rintro e w3 ⟨rfl,j4⟩;simp only[preV,ZI,Mu.out];go_wp2_with fail;refine(HX.out _).mono ?_;rintro e w4 ⟨rfl,j9⟩;have Di:Ext wr w4:=(j4.alloc _).trans j9;have Ei:=Bp.out.ext Di;obtain⟨g0,g1⟩:=Ei.cells;have f0:=Ei.free 0;have f1:=Ei.free 1;have c2:w4.cell? ⟨w3.heap.size,2,none⟩=some (.int .i64 (H:Int)):=QZ;have Dj:Ext w w4:=n8.trans Di;clear j4 j9;go_wp2;obtain⟨p0,p1⟩:=(Ei.Wq ([],[]));refine N4 (v:=.tuple #[.agg #[.string ⟨#[]⟩,.string ⟨#[]⟩],.int .i64 0,.int .i64 10]) (by simp[results,results142,go_sem,encS]at p0 p1⊢;simp[p0,p1]) rfl ⟨by rw[HR.out];rfl,Xf⟩
 .obtain⟨vd,j8,Tb⟩:=zK IF.out AI.size Q C0 zL;have hQA:Q-AI.size=H:=C0;rw[hQA,<-C9,<-J8]at Tb;obtain⟨D,hD⟩:∃D:ByteArray,D.data.toList=(tx.drop AI.size).take H:=⟨⟨((tx.drop AI.size).take H).toArray⟩,rfl⟩;have HD:Hid (encS ((tx.drop AI.size).take H)=.string D):=B0 (by rw[<-hD,G9]);have Ky:D.size<=4096:=(by rw[<-Za,hD,J1];omega);have Im:Hid (∀w',Ext wr w'->(convert 90 9 vd).run prog w'=.ok (.string D) w'):=B0 (λw' hx=>by have:=Zp (Tb.1.ext hx);rw[this,<-hD,Z0]);have Ae:=B0 (λw' hx=>HDV.out w' hx AI D O3 O3);rw[Bv.out,hD]at Ae;obtain⟨_,S2,S3,_⟩:=Fo.out;have hjQ:Q<=j:=C0;have Dc:=B0 (S2 hf C0);have HS3:=B0 (S3 hf C0);have Ee:=B0 hQ;generalize(tx.drop AI.size).take H=d at*;clear Fo hf hQ S2 S3 Tb hQA hD hlt;by_cases Bs:Gs.ver ai d=0;(·have HR:Hid (res=((ai,d),Q,0)):=B0 (by rw[HS3.out Bs,Ee.out]);rw[Bs]at Ae;clear Bs Dc HS3;exact Qk);·have HR:Hid (res=(([],[]),0,Gs.ver ai d)):=B0 (Dc.out Bs);obtain⟨z1,p8⟩:∃z1,Gs.ver ai d=z1:=⟨_,rfl⟩;rw[p8]at Ae HR Bs;have x9:(z1==0)=false:=(by simpa using Bs);clear Bs Dc HS3 p8;exact Qf):p:=h
def Qc(h:p:=by
 rw[IG]at HE;clear IG Uf;by_cases Kw:e[k]=119;·have h1:er j=18:=(by rw[HE.out,G0 ⟨by omega,Kw⟩]);have HR:=B0 (p6.out GQ HB.out);rw[h1]at HR;have d4:((e[k].toNat:Int)==119)=true:=(by rw[Kw];rfl);clear h1 Kw x9 hz3;go_wp2;go_ret2;exact⟨by rw[HR.out];rfl,j3⟩
 .have d4:((e[k].toNat:Int)==119)=false:=(by rw[O0];intro h;exact Kw (V4.1 (by have:(119:UInt8).toNat=119:=rfl;omega)));have hn119:¬(0<j/\e[k]=119):=λh=>Kw h.2;have Xd:=B0 hn119;clear Kw hn119;go_wp2;refine T6 (C:=λw'=>∃x:Zw wr,w'=x.at') N0 N0 (Zw.drawn _) ?_;(try dsimp only);(repeat(first|go_big_quiet_step ((go_at_call 237;exact Zq ((HQ.out _).mono λ_ _ h=>⟨h.1,h.2▸Ext.refl _⟩)))|quiet_step ((go_at_call 237;exact Zq ((HQ.out _).mono λ_ _ h=>⟨h.1,h.2▸Ext.refl _⟩)))));refine U6 ?_;intro _ n9;obtain⟨x0,n9⟩:=n9;subst n9;obtain⟨w3,j4⟩:=x0;(try dsimp only);have Vs:=(HS.out.ext (j3.trans j4)).e;have hi3:=(HS.out.ext (j3.trans j4)).i;replace b8:=b8.ext j4;replace j4:=j3.trans j4;clear x9 hz3;clear d4 hk;by_cases Vx:j+1=n;(·have d3:((j:Int)==(n:Int)-1)=true:=GF;have d5:decide ((j:Int)<(n:Int)-1)=false:=X0;have HJN:=B0 Vx;clear Vx;cases ok;(·have h1:er j=20:=(by rw[HE.out,D0 Xd.out,D0 (λh=>Cx h.1),G0 ⟨HJN.out,rfl⟩]);exact vE);·have HI:=B0 (NO x6 c);by_cases hx:Lib.indexByte x6.data.toList c<0;(·have Bd:Tw.isIn x6.data.toList (c,true)=false:=SQ;have h1:er j=20:=(by rw[HE.out,D0 Xd.out,D0 (λh=>Cx h.1),G0 ⟨HJN.out,Bd⟩]);exact Q2);·have Bd:Tw.isIn x6.data.toList (c,true)=true:=SQ;have h1:er j=0:=(by rw[HE.out,D0 Xd.out,D0 (λh=>Cx h.1),D0 (by rw[Bd];simp),D0 (by have:=HJN.out;omega)]);exact tD);·have d3:((j:Int)==(n:Int)-1)=false:=QJ;have d5:decide ((j:Int)<(n:Int)-1)=true:=X0;cases ok;(·have h1:er j=18:=(by rw[HE.out,D0 Xd.out,D0 (λh=>Cx h.1),D0 (λh=>Vx h.1),G0 ⟨by omega,by omega,rfl⟩]);exact vE);·have HI:=B0 (NO inner c);by_cases hx:Lib.indexByte inner.data.toList c<0;(·have Bd:Tw.isIn inner.data.toList (c,true)=false:=SQ;have h1:er j=18:=(by rw[HE.out,D0 Xd.out,D0 (λh=>Cx h.1),D0 (λh=>Vx h.1),G0 ⟨by omega,by omega,Bd⟩]);have HR:=B0 (p6.out GQ HB.out);rw[h1]at HR;clear h1 Bd;generalize Lib.indexByte inner.data.toList c=x at*;exact tE);·have Bd:Tw.isIn inner.data.toList (c,true)=true:=SQ;have h1:er j=0:=(by rw[HE.out,D0 Xd.out,D0 (λh=>Cx h.1),D0 (λh=>Vx h.1),D0 (by rw[Bd];simp)]);have HN:=HRN.out h1;clear h1 Bd;generalize Lib.indexByte inner.data.toList c=x at*;exact Qi):p:=h
def Qd(h:p:=by go_enter func251,ntmps251;go_wp2_with fail;refine(HP.out _).mono ?_;rintro e w1 ⟨rfl,rfl⟩;go_wp2_with fail;refine(HQ.out _).mono ?_;rintro e w1 ⟨rfl,rfl⟩;go_wp2_with fail;refine(HL.out _).mono ?_;rintro e w2 ⟨rfl,j0⟩;go_wp2_with fail;refine(HR.out _).mono ?_;rintro e w3 ⟨rfl,j4⟩;go_wp2;go_ret3;exact⟨by rw[HN.out];rfl,j0.trans j4⟩):=h
def Qe(h:p:=by
 go_enter func207,ntmps207;go_wp2_with fail;refine HD.out.mono ?_;rintro e w' ⟨rfl,rfl⟩;go_wp2;generalize Vn:(⟨#[33,34,37,38,39,42,43,44,45,46,47,58,59,60,61,62,63,95]⟩:ByteArray)=SB;have o4:SB.size=18:=by rw[<-Vn];rfl
 have Xi:Hid (symB=SB):=B0 Vn;have Vb:=B0 o4;have aBi:SB.size<=18:=by omega
 have aEI:18<=SB.size:=by omega
 clear Vn o4;go_loop [4] (λi=>∃k:Nat,k<=18/\i=.int .i64 (k:Int)/\Hid (∀i,i<k->symB.data.toList.getD i 0≠c)) (λi=>18-(intOf i).toNat);case atStart=>exact⟨0,R0 _,rfl,B0 (λi hi=>absurd hi (U4 _))⟩
 case round=>obtain⟨k,hk,rfl,Bz⟩:=hrel;by_cases hlt:k<18;(·have hks:k<SB.size:=C0;have Iq:Hid (symB.data.toList.getD k 0=SB[k]):=B0 (by rw[Xi.out];exact gdat SB k hks);have Gv:Hid (symB.data.toList.getD k 0≠c->∀i,i<k+1->symB.data.toList.getD i 0≠c):=B0 (λh i hi=>by rcases H5 i k with hh|hh;(·exact Bz.out i hh);·obtain rfl:i=k:=C0;exact h);have HY:=B0 (aB1.out k hlt);rw[Iq.out]at Gv HY;by_cases hv:SB[k]=c;(·have HX:Hid (cb=true):=B0 (by rw[HR.out];exact C1 (HY.out hv));have hb:((SB[k].toNat:Int)==(c.toNat:Int))=true:=(by rw[hv];simp);have n7:(SB[k].toNat==c.toNat)=true:=(by rw[hv];simp);clear Gv HY Iq Bz hv;go_wp2;go_ret;exact⟨Zn (by simp[HX.out]),rfl⟩);·have k7:¬SB[k].toNat=c.toNat:=λh=>hv (V4.1 h);have hb:((SB[k].toNat:Int)==(c.toNat:Int))=false:=QJ;have n7:(SB[k].toNat==c.toNat)=false:=(by rw[O0];exact k7);have Gc:=B0 (Gv.out hv);clear Gv HY Iq Bz hv k7;go_wp2;go_round;(case rel=>exact⟨k+1,by omega,by go_num,Gc⟩);case measure=>exact QH);·obtain rfl:k=18:=C0;have HX:Hid (cb=false):=B0 (by rw[HR.out,HNO.out Bz.out];rfl);clear hk hlt Bz;go_wp2;go_ret;exact⟨Zn (by simp[HX.out]),rfl⟩):p:=h
def Qf(h:p:=by
 go_wp2_with fail;refine Cq.out.mono ?_;rintro e w3 ⟨rfl,j4⟩;simp only[preV,ZI,Mu.out];go_wp2_with fail;refine(HX.out _).mono ?_;rintro e w4 ⟨rfl,j9⟩;have Di:Ext wr w4:=(j4.alloc _).trans j9;have Ei:=Bp.out.ext Di;obtain⟨g0,g1⟩:=Ei.cells;have f0:=Ei.free 0;have f1:=Ei.free 1;have c2:w4.cell? ⟨w3.heap.size,2,none⟩=some (.int .i64 (H:Int)):=QZ;have Dj:Ext w w4:=n8.trans Di;clear j4 j9;have aBB:=Im.out w4 Di;go_wp2_with fail;refine(Ae.out _ ((Dj.setCell (J0 _) _).setCell (J0 _) _)).mono ?_;rintro e w5 ⟨rfl,j5⟩;have Gp:=(Ei.put (ai,d)).ext JZ;obtain⟨i0,i1⟩:=Gp.cells;simp only[Mu.out,HD.out]at i0 i1;have f0:=Gp.free 0;have f1:=Gp.free 1;have Lh:Ext w w5:=((Dj.setCell (J0 _) _).setCell (J0 _) _).trans j5;have HQ:=B0 (Gp.Wq ([],[]));clear j5 Gp Ei g0 g1;go_wp2;obtain⟨p0,p1⟩:=HQ.out;refine N4 (v:=.tuple #[.agg #[.string ⟨#[]⟩,.string ⟨#[]⟩],.int .i64 0,.int .i64 z1]) zM rfl ⟨by rw[HR.out];rfl,Xf⟩):p:=h
def Qg(h:p:=by
 have HA:=B0 (yS d (λc=>Cd.isDig c.toNat) j hlt);have HN:=B0 (yT d (λc=>Cd.isDig c.toNat) j hlt);cases hp:Cd.isDig (d[j].toNat:Int);·have HP:=B0 hp;have HR:Hid (res=6):=B0 (Ve.out (HN.out hp));clear hp HA HN;go_wp2_with fail;refine(OP _ _).mono ?_;exact tF
 .have HP:=B0 hp;have HO:Hid ((d.data.toList.take (j+1)).all (λc=>Cd.isDig c.toNat)=true):=B0 yU;clear hp HA HN;go_wp2_with fail;refine(OP _ _).mono ?_;exact QW):p:=h
def Qh(h:p:=by go_enter func206,ntmps206;go_wp2_with fail;refine HD.out.mono ?_;rintro e w' ⟨rfl,rfl⟩;go_wp2;go_ret2;exact⟨by rw[HR.out];rfl,Ext.refl _⟩):=h
def Qi(h:p:=by
 have Bo:decide (x<0)=false:=by simpa using hx
 go_wp2_with fail;refine(HI.out _).mono ?_;rintro en w4 ⟨rfl,rfl⟩;go_wp2_with (at_builtin;refine kB rfl _ _ rfl w.heap.size _ got rfl (b8.alloc _) _ c rfl ?c1 ?c2 ?c3 ?_);case c1=>simp[go_sem,encB]
 case c2=>omega
 case c3=>have:=j4.size;exact X0
 intro v' w5 l6 j6;have j5:=(j4.alloc _).l8 j6 b8.low;go_wp2;go_roundw;case rel=>exact⟨j+1,by omega,by go_num,by rw[Nx.out,R2];exact l6,HN,j5⟩
 case measure=>exact QH):p:=h
def Qj(h:p:=by rintro e w1 ⟨rfl,rfl⟩;go_wp2_with fail;refine(Iu.out _).mono ?_;rintro e w2 ⟨rfl,j0⟩;go_wp2_with fail;refine(Dm.out _).mono ?_;rintro e w1 ⟨rfl,rfl⟩;go_wp2_with fail;refine(HQ.out _).mono ?_;rintro e w1 ⟨rfl,rfl⟩;go_wp2_with fail;refine(HL.out _).mono ?_;rintro e w3 ⟨rfl,j4⟩;go_wp2_with fail;refine(Cr.out _).mono ?_;rintro e w4 ⟨rfl,j9⟩;go_wp2_with fail;refine(Ir.out _).mono ?_;rintro e w5 ⟨rfl,j5⟩;go_wp2_with fail;refine(Tm.out _).mono ?_;rintro e w6 ⟨rfl,o9⟩;go_wp2_with fail;refine(Cp.out _).mono ?_;rintro e w7 ⟨rfl,Ax⟩;go_wp2_with fail;refine(Bt.out _).mono ?_;rintro e w8 ⟨rfl,Hb⟩;go_wp2_with fail;refine(Mz.out _).mono ?_;rintro e w9 ⟨v,rfl,hs9,Bj⟩;go_wp2;go_ret2;exact⟨v,by rw[HX.out];rfl,by rw[HX.out];exact hs9,((((((j0.trans j4).trans j9).trans j5).trans o9).trans Ax).trans Hb).trans Bj⟩):=h
def Qk(h:p:=by
 go_wp2_with fail;refine Cq.out.mono ?_;rintro e w3 ⟨rfl,j4⟩;simp only[preV,ZI,Mu.out];go_wp2_with fail;refine(HX.out _).mono ?_;rintro e w4 ⟨rfl,j9⟩;have Di:Ext wr w4:=(j4.alloc _).trans j9;have Ei:=Bp.out.ext Di;obtain⟨g0,g1⟩:=Ei.cells;have f0:=Ei.free 0;have f1:=Ei.free 1;have c2:w4.cell? ⟨w3.heap.size,2,none⟩=some (.int .i64 (H:Int)):=QZ;have Dj:Ext w w4:=n8.trans Di;clear j4 j9;have aBB:=Im.out w4 Di;go_wp2_with fail;refine(Ae.out _ ((Dj.setCell (J0 _) _).setCell (J0 _) _)).mono ?_;rintro e w5 ⟨rfl,j5⟩;have Gp:=(Ei.put (ai,d)).ext JZ;obtain⟨i0,i1⟩:=Gp.cells;simp only[Mu.out,HD.out]at i0 i1;have f0:=Gp.free 0;have f1:=Gp.free 1;have Lh:Ext w w5:=((Dj.setCell (J0 _) _).setCell (J0 _) _).trans j5;have HQ:=B0 (Gp.Wq (ai,d));clear j5 Gp Ei g0 g1;go_wp2;obtain⟨p0,p1⟩:=HQ.out;refine N4 (v:=.tuple #[.agg #[.string AI,.string D],.int .i64 (Q:Int),.int .i64 0]) nO rfl ⟨by rw[HR.out];simp only[Mu.out,HD.out],Xf⟩):p:=h
def Ql(h:p:=by
 have HJ0:=B0 Cx;have d1:decide ((0:Int)<(j:Int))=false:=X0;have d2:((j:Int)==0)=true:=X0;have d3:((j:Int)==(n:Int)-1)=false:=QJ;clear Cx;go_wp2;refine T6 (C:=λw'=>∃x:Zw wr,w'=x.at') N0 N0 (Zw.drawn _) ?_;try dsimp only
 repeat(first|go_big_quiet_step ((go_at_call 237;exact Zq ((HQ.out _).mono λ_ _ h=>⟨h.1,h.2▸Ext.refl _⟩)))|quiet_step ((go_at_call 237;exact Zq ((HQ.out _).mono λ_ _ h=>⟨h.1,h.2▸Ext.refl _⟩))))
 refine U6 ?_;intro _ n9;obtain⟨x0,n9⟩:=n9;subst n9;obtain⟨w3,j4⟩:=x0;try dsimp only
 have Vs:=(HS.out.ext (j3.trans j4)).e;have hi3:=(HS.out.ext (j3.trans j4)).i;replace b8:=b8.ext j4;replace j4:=j3.trans j4;clear x9 hz3;cases ok;·have h1:er j=19:=(by rw[HE.out,D0 GR,G0 ⟨HJ0.out,rfl⟩]);exact vE
 .have HI:=B0 (NO x6 c);by_cases hx:Lib.indexByte x6.data.toList c<0;(·have Bd:Tw.isIn x6.data.toList (c,true)=false:=SQ;have h1:er j=19:=(by rw[HE.out,D0 GR,G0 ⟨HJ0.out,Bd⟩]);exact Q2);·have Bd:Tw.isIn x6.data.toList (c,true)=true:=SQ;have h1:er j=0:=(by rw[HE.out,D0 GR,D0 (by rw[Bd];simp),D0 (by rw[Bd];simp),D0 GR]);exact tD):p:=h
def Qm(h:p:=by subst IC;clear h2 HR;go_enter func206,ntmps206;go_wp2;go_ret2;exact⟨rfl,Ext.refl _⟩):=h
def Qn(h:p:=by
 obtain⟨j,hj,rfl,IL⟩:=hrel;by_cases hlt:j<d.size;·exact Qg
 .exact tG):p:=h
def Qo(h:p:=by
 simp only[recV]at HL HR;cases hm:((J.extract 28 33).toList== [48,49,48,49,48]);·exact GS
 .exact GS):p:=h
def Qp(h:p:=by
 simp only[recV]at HL HR;cases hm:((J.extract 42 47).toList== [48,49,48,49,48]);·exact GS
 .exact GS):p:=h
def Qq(h:p:=by rw[G0 h0]at HX;have HG:=B0 HX.out.symm;obtain⟨rfl,rfl⟩:=HZR.out h0;have hb:(er !=0)=true:=R1.2 h0;clear HX HZR Ol Bv ha h0;go_enter func139,ntmps139;go_wp2_with fail;refine(HS.out _).mono ?_;rintro e w1 ⟨rfl,hx⟩;obtain⟨z0,z1,z2,z3,z4,z5,z6,HB⟩:=Zk (ZO rfl hx.before);obtain⟨y0,y1,y2,y3,y4,y5,y6,HC⟩:=Zk (ZO (TL _ _) hx);have n8:=hx.before.before;clear hx;go_wp2;refine J2 (Zj results139 rfl (Zm (PW C0 HB)) rfl) rfl ?_;have Oz:=(((n8.setCell (p:=⟨w.heap.size+1,0,none⟩) (R3 _) (.int .i64 0)).setCell (p:=⟨w.heap.size+1,1,none⟩) (R3 _) (.string T)).setCell (p:=⟨w.heap.size+1,2,none⟩) (R3 _) (.string ⟨#[]⟩));exact tC):=h
def Qr(h:p:=by simp[intOf];try omega):=h
def Qs(h:p:=by go_enter func97,ntmps97;go_wp2;go_quiet (fail);exact aA):=h
def Qt(h:p:=by
 clear HS Cx;go_wp2_with (at_builtin;refine ZF rfl _ _ rfl (w.heap.size+1) _ gg rfl (b8.alloc _) _ 1 rfl ?c1 ?c2 ?c3 ?_);case c1=>exact V2
 case c2=>omega
 case c3=>exact VW
 intro v5 w5 l6 j6 Lb;have j5:=(j3.alloc _).l8 j6 (λk hk=>by have:=b8.low k hk;simpa using this);replace l6:Own 3 w5 (w.heap.size+1) v5 ((gg++[1]).map encI):=GT;clear b8 j6 Lb j3;have F0:w5.cell? ⟨w.heap.size,0,none⟩=some (.int .i64 3):=GU;have hwr5:w.heap.size+1<=w5.heap.size:=GV;have hgl5:(gg++[1]).length<=1000000:=S7;go_wp2_with fail;refine(HP.out _).mono ?_;rintro e w6 ⟨pp,rfl,Bh,o9⟩;have F6:w6.cell? ⟨w.heap.size,0,none⟩=some (.int .i64 3):=GW;have Cb:=Z2.later l6 Bh;have Dg:=l6.ext o9;have hsz6:=o9.size;have Bp:=B0 (ZU (w.heap.size+1) _ _ pp _ (Tw.bits x) 3 w6 Dg Bh Cb C0 hgl5 WE);rw[XV]at Bp;have hx06:=j5.trans o9;clear l6 Bh Cb Dg F0;go_wp2_with fail;refine Bp.out.mono ?_;rintro e w7 ⟨v7,rfl,Gi,hbw7,_⟩;have Ax:Ext (w.alloc (.cells #[.int .i64 3,.bool false,.string p5] 24)) w7:=O4 hx06 WF;exact GX):p:=h
def Qu(h:p:=by
 clear HS Cx;go_wp2_with (at_builtin;refine ZF rfl _ _ rfl (w.heap.size+1) _ gg rfl (b8.alloc _) _ 1 rfl ?c1 ?c2 ?c3 ?_);case c1=>exact V2
 case c2=>omega
 case c3=>exact VW
 intro v5 w5 l6 j6 Lb;have j5:=(j3.alloc _).l8 j6 (λk hk=>by have:=b8.low k hk;simpa using this);replace l6:Own 3 w5 (w.heap.size+1) v5 ((gg++[1]).map encI):=GT;clear b8 j6 Lb j3;have F0:w5.cell? ⟨w.heap.size,0,none⟩=some (.int .i64 2):=GU;have hwr5:w.heap.size+1<=w5.heap.size:=GV;have hgl5:(gg++[1]).length<=1000000:=S7;go_wp2_with fail;refine(HP.out _).mono ?_;rintro e w6 ⟨pp,rfl,Bh,o9⟩;have F6:w6.cell? ⟨w.heap.size,0,none⟩=some (.int .i64 2):=GW;have Cb:=Z2.later l6 Bh;have Dg:=l6.ext o9;have hsz6:=o9.size;have Bp:=B0 (ZU (w.heap.size+1) _ _ pp _ (Tw.bits x) 2 w6 Dg Bh Cb C0 hgl5 WE);rw[XV]at Bp;have hx06:=j5.trans o9;clear l6 Bh Cb Dg F0;go_wp2_with fail;refine Bp.out.mono ?_;rintro e w7 ⟨v7,rfl,Gi,hbw7,_⟩;have Ax:Ext (w.alloc (.cells #[.int .i64 2,.bool false,.string p5] 24)) w7:=O4 hx06 WF;exact GX):p:=h
def Qv(h:p:=by
 clear HS Cx;go_wp2_with (at_builtin;refine ZF rfl _ _ rfl (w.heap.size+1) _ gg rfl (b8.alloc _) _ 1 rfl ?c1 ?c2 ?c3 ?_);case c1=>exact V2
 case c2=>omega
 case c3=>exact VW
 intro v5 w5 l6 j6 Lb;have j5:=(j3.alloc _).l8 j6 (λk hk=>by have:=b8.low k hk;simpa using this);replace l6:Own 3 w5 (w.heap.size+1) v5 ((gg++[1]).map encI):=GT;clear b8 j6 Lb j3;have F0:w5.cell? ⟨w.heap.size,0,none⟩=some (.int .i64 3):=GU;have hwr5:w.heap.size+1<=w5.heap.size:=GV;have hgl5:(gg++[1]).length<=1000000:=S7;go_wp2_with fail;refine(HP.out _).mono ?_;rintro e w6 ⟨pp,rfl,Bh,o9⟩;have F6:w6.cell? ⟨w.heap.size,0,none⟩=some (.int .i64 3):=GW;have Cb:=Z2.later l6 Bh;have Dg:=l6.ext o9;have hsz6:=o9.size;have Bp:=B0 (ZU (w.heap.size+1) _ _ pp _ (Tw.bits x) 3 w6 Dg Bh Cb C0 hgl5 WE);rw[XV]at Bp;have hx06:=j5.trans o9;clear l6 Bh Cb Dg F0;go_wp2_with fail;refine Bp.out.mono ?_;rintro e w7 ⟨v7,rfl,Gi,hbw7,_⟩;have Ax:Ext (w.alloc (.cells #[.int .i64 3,.bool true,.string p5] 24)) w7:=O4 hx06 WF;exact GX):p:=h
def Qw(h:p:=by
 clear HS Cx;go_wp2_with (at_builtin;refine ZF rfl _ _ rfl (w.heap.size+1) _ gg rfl (b8.alloc _) _ 1 rfl ?c1 ?c2 ?c3 ?_);case c1=>exact V2
 case c2=>omega
 case c3=>exact VW
 intro v5 w5 l6 j6 Lb;have j5:=(j3.alloc _).l8 j6 (λk hk=>by have:=b8.low k hk;simpa using this);replace l6:Own 3 w5 (w.heap.size+1) v5 ((gg++[1]).map encI):=GT;clear b8 j6 Lb j3;have F0:w5.cell? ⟨w.heap.size,0,none⟩=some (.int .i64 2):=GU;have hwr5:w.heap.size+1<=w5.heap.size:=GV;have hgl5:(gg++[1]).length<=1000000:=S7;go_wp2_with fail;refine(HP.out _).mono ?_;rintro e w6 ⟨pp,rfl,Bh,o9⟩;have F6:w6.cell? ⟨w.heap.size,0,none⟩=some (.int .i64 2):=GW;have Cb:=Z2.later l6 Bh;have Dg:=l6.ext o9;have hsz6:=o9.size;have Bp:=B0 (ZU (w.heap.size+1) _ _ pp _ (Tw.bits x) 2 w6 Dg Bh Cb C0 hgl5 WE);rw[XV]at Bp;have hx06:=j5.trans o9;clear l6 Bh Cb Dg F0;go_wp2_with fail;refine Bp.out.mono ?_;rintro e w7 ⟨v7,rfl,Gi,hbw7,_⟩;have Ax:Ext (w.alloc (.cells #[.int .i64 2,.bool true,.string p5] 24)) w7:=O4 hx06 WF;exact GX):p:=h
def Qx(h:p:=by
 cases ok;·exact Qs
 .have dr1:=dr rfl;exact Qs):p:=h
def Qy(h:p:=by
 clear hq;go_enter func134,ntmps134;go_wp2_with fail;refine(HT.out _).mono ?_;rintro e w1 ⟨rfl,b7⟩;dsimp only;obtain⟨d0,d1⟩:=FJ.out w1 b7;have n8:Ext w w1:=Ge.out.trans b7;go_wp2;go_loop [6] (λi=>∃j:Nat,j<=d.size/\i=.int .i64 (j:Int)/\Hid ((d.data.toList.take j).all (λc=>Cd.isDig c.toNat || Gs.charB c)=true)) (λi=>d.size-(intOf i).toNat);case atStart=>exact C7
 case round=>obtain⟨j,hj,rfl,IL⟩:=hrel;by_cases hlt:j<d.size;(·have HA:=B0 (yS d (λc=>Cd.isDig c.toNat || Gs.charB c) j hlt);have HN:=B0 (yT d (λc=>Cd.isDig c.toNat || Gs.charB c) j hlt);cases hp:(Cd.isDig d[j].toNat || Gs.charB d[j]);(·have HP:=B0 hp;have HR:Hid (res=6):=B0 (Ve.out (HN.out hp));clear hp HA HN;go_wp2_with fail;refine(sC _ _).mono ?_;exact tF);·have HP:=B0 hp;have HO:Hid ((d.data.toList.take (j+1)).all (λc=>Cd.isDig c.toNat || Gs.charB c)=true):=B0 yU;clear hp HA HN;go_wp2_with fail;refine(sC _ _).mono ?_;exact QW);·exact tG):p:=h
def Qz(h:p:=by
 go_enter func20,ntmps20;go_wp2_with fail;refine(HF.out _).mono ?_;rintro e w1 ⟨B,F,rfl,hF,b7⟩;obtain⟨hc,Gg⟩:=b7.cells;have hz:w.heap.size<w1.heap.size:=O7;unfold ZJ.val;clear hF;go_wp2;go_ret2;exact⟨.slice none 0 0,by rw[HT.out];rfl,by rw[HT.out];exact U9 _,(((Ext.refl w).alloc _).trans b7).alloc _⟩):p:=h
def QA(h:p:=by
 clear hq;go_enter func134,ntmps134;go_wp2_with fail;refine(HT.out _).mono ?_;rintro e w1 ⟨rfl,b7⟩;dsimp only;obtain⟨d0,d1⟩:=FJ.out w1 b7;have n8:Ext w w1:=Ge.out.trans b7;go_wp2;go_loop [6] (λi=>∃j:Nat,j<=d.size/\i=.int .i64 (j:Int)/\Hid ((d.data.toList.take j).all (λc=>Cd.isDig c.toNat)=true)) (λi=>d.size-(intOf i).toNat);case atStart=>exact C7
 case round=>exact Qn):p:=h
def QC(h:p:=by
 intro V w' hx hf;with_reducible refine Zc ?_
 intro A ρ hA hρ n6 o5;have h1:ρ (.tmp 1)=.string s:=(Y0 hρ _).trans (ZL hA 1 rfl);exact tH):p:=h
def QD(h:p:=by
 intro V w' hx hf;with_reducible refine Zc ?_
 intro A ρ hA hρ n6 o5;obtain⟨f41,f49,f50,f53,f54,_⟩:=hf;have h41:ρ (.tmp 41)=V 41:=(Y0 hρ _).trans (Ze hA 41 rfl);have Kg:ρ (.tmp 49)=V 49:=(Y0 hρ _).trans (Ze hA 49 rfl);have h50:ρ (.tmp 50)=V 50:=(Y0 hρ _).trans (Ze hA 50 rfl);have Xw:ρ (.tmp 53)=V 53:=(Y0 hρ _).trans (Ze hA 53 rfl);have h54:ρ (.tmp 54)=V 54:=(Y0 hρ _).trans (Ze hA 54 rfl);have k41:Own 4 w' 0 (V 41) _:=f41;obtain⟨_,a41,c41,e41,_⟩:=k41.IW;have h41:=h41.trans e41;rw[e41,M0]at k41;have k49:Own 4 w' 0 (V 49) _:=f49;obtain⟨_,a49,c49,e49,_⟩:=k49.IW;have Kg:=Kg.trans e49;rw[e49,M0]at k49;have k50:Own 4 w' 0 (V 50) _:=f50;obtain⟨_,a50,c50,e50,_⟩:=k50.IW;have h50:=h50.trans e50;rw[e50,M0]at k50;have k53:Own 4 w' 0 (V 53) _:=f53;obtain⟨_,a53,c53,e53,_⟩:=k53.IW;have Xw:=Xw.trans e53;rw[e53,M0]at k53;have k54:Own 4 w' 0 (V 54) _:=f54;obtain⟨_,a54,c54,e54,_⟩:=k54.IW;have h54:=h54.trans e54;rw[e54,M0]at k54;simp[Zh,go_sem,h41,Kg,h50,Xw,h54];exact⟨(Ext.refl w').alloc _,T7 w' _ [Ea.gd,ra,Ea.md,rb,Ea.gd] _ rfl L0 (λi hi=>by
  have Eu:i=0\/i=1\/i=2\/i=3\/i=4:=U7
  rcases Eu with rfl|rfl|rfl|rfl|rfl
  .exact k41
  .exact k49
  .exact k50
  .exact k53
  .exact k54
  )⟩):p:=h
def QE(h:p:=by
 by_cases Sv:q<m;·have hqI:(q:Int)<(m:Int):=C0;have b8:=HO.out;have De:(got++List.replicate q cb).length<=65536:=(by have h1:=Fm.out;rw[Nt.out,S0,M2]at h1;rw[S0,M2];omega);have o4:=HX.out.size;go_wp2_with (at_builtin;refine UK rfl _ _ rfl w.heap.size _ (got++List.replicate q cb) rfl (b8.alloc _) _ cb rfl ?c1 ?c2 ?c3 ?_);(case c1=>simp[go_sem,encT]);(case c2=>omega);(case c3=>exact L4);intro v' w5 l6 j6;have p7:=B0 ((HX.out.alloc _).l8 j6 b8.low);have s6:Hid (Own 4 w5 w.heap.size v' ((got++List.replicate (q+1) cb).map encT)):=B0 (by first|(rw[WK,<-V1];exact l6)|(rw[show(got++List.replicate (q+1) cb).map encT=List.map encT got++(List.replicate q (encT cb)++[encT cb]) by rw[WK];simp];exact l6));clear b8 l6 j6 o4;go_wp2_with fail;go_roundw;(case rel=>exact⟨q+1,by omega,by go_num,s6,p7⟩);case measure=>exact Qr
 .obtain rfl:q=m:=C0;have Hg:Hid (Own 4 wr w.heap.size _ ((Rn.mods true (ws.take (j+1))).map encT)):=B0 (by rw[Nt.out];exact HO.out);clear Sv hq;go_wp2_with fail;go_roundw;(case rel=>exact⟨j+1,by omega,by go_num,Hg,HX⟩);case measure=>exact Qr):p:=h
def QF(h:p:=by
 refine(Ae.out _ (Dw.alloc _)).mono ?_;rintro e w4 ⟨rfl,j9⟩;have Dj:Ext W w4:=(Dw.alloc _).trans j9;have hb3:w3.heap.size<w4.heap.size:=by have:=j9.size;exact W6
 have cA:w4.cell? ⟨w3.heap.size,0,none⟩=some (.string A):=by rw[j9.cell (p:=⟨w3.heap.size,0,none⟩) L0];exact VB
 have cD:w4.cell? ⟨w3.heap.size,1,none⟩=some (.string D):=by rw[j9.cell (p:=⟨w3.heap.size,1,none⟩) L0];exact VB
 have Ai:=(Hs.ext ((Ext.refl w3).alloc _)).ext j9;have aGg:=Dj.size;clear j0 j9 b8 Hs hx Dw;go_wp2_with (at_builtin;go_loud (refine qA rfl _ _ rfl W.heap.size _ _ rfl (Ai.ext ((Ext.refl w4).alloc _)) _ (a,d) rfl ?_ ?_ C0 ?_ ?_));·exact Tp.out.symm
 .exact HED.out.symm
 .exact X0
 intro v5 w5 l6 j6;have j5:Ext W w5:=(Dj.alloc _).l8 j6 Ai.low;clear cA cD j6 Ai;go_wp2;try rw[HKZ.out]
 go_roundw;case rel=>exact⟨Z,acc++[(a,d)],n-1,by first|rfl|(rw[show Z=ByteArray.empty from Zi (KK (by have:=HZS.out;omega))]),by have:=Ow.out;rw[S0];simp;omega,l6,B0 ⟨Ow.out.2.1,HP2.out⟩,j5⟩
 case measure=>have:=Ow.out;first|omega|(rw[HKZ.out];omega)|(simp;omega)):p:=h
def QG(h:p:=by
 obtain⟨x,IY⟩:∃x,ws[i]? =some x:=⟨_,P0 BG⟩;have hx:=Pz.out x (L1 IY);have hXl:i<X.size:=by rw[Vo];exact hlt
 have hXi:X[i]'hXl=UInt8.ofNat (48+x.toNat):=BH;have hyn:(UInt8.ofNat (48+x.toNat)).toNat=48+x.toNat:=LO;have b8:=HO.out;have o4:=HX.out.size;have Nj:(ws.take i).length<=10:=by rw[J1,Ly.out];omega
 have HT:=B0 (Z5 IY);have Le:(48+max x 0)%256-48=x:=by omega
 clear IY HO;go_wp2_with (at_builtin;refine Zy rfl _ _ rfl w.heap.size _ (ws.take i) rfl (b8.alloc _) _ x rfl ?c1 ?c2 ?c3 ?_);case c1=>simp[go_sem,encI];try omega
 case c2=>omega
 case c3=>exact L4
 intro v' w5 l6 j6;have p7:=B0 ((HX.out.alloc _).l8 j6 b8.low);have s6:Hid (Own 3 w5 w.heap.size v' ((ws.take (i+1)).map encI)):=B0 (by rw[HT.out,R2];rw[J8];exact l6);clear b8 l6 j6 o4;go_wp2_with fail;go_roundw;case rel=>exact⟨i+1,by omega,by go_num,s6,p7⟩
 case measure=>exact Qr):p:=h
def QH(h:p:=by simp[intOf];omega):=h
def QI(h:p:=by
 intro V w' hx hf;with_reducible refine Zc ?_
 intro A ρ hA hρ n6 o5;simp[Zh,go_sem,n6,o5];exact(Dp.out w').mono λe y8 ⟨v,he,ho,hy⟩=>⟨v,he,hy,ho.mono (R0 _)⟩):p:=h
def QJ(h:p:=by rw[O0];omega):=h
def QK(h:p:=by
 cases b2;all_goals cases b3
 all_goals first|(exact absurd d23 Bool.noConfusion)|skip
 all_goals go_enter func71,ntmps71;go_wp2;go_ret2;exact⟨.slice none 0 0,by rw[HT.out];rfl,by rw[HT.out];exact U9 _,Xe⟩):p:=h
def QL(h:p:=by have h9:=V0 List.length Dk.out;rw[S0,Lr.out,<-HL.out]at h9;simp[PY];try omega):=h
def QM(h:p:=by have Nf:=k9.cell hlt;have hfj:=k9.frozen j;have n8:Ext w wr:=((Ext.refl w).alloc _).trans j3;have Vq:=HCC.out wr n8 j hlt;obtain⟨cj0,cj1⟩:=Ag.out ((Gs.run cs).getD j 0) (by have hj':j<(Gs.run cs).length:=(by rw[HM.out];exact hlt);rw[F1,P0 hj'];exact YL _);have Dk:=B0 (ZkO cj0 cj1);obtain⟨cj,hcjj⟩:∃cj,(Gs.run cs).getD j 0=cj:=⟨_,rfl⟩;have p6:=B0 ((k9.set j (.int .u8 cj)).congr (g:=λk=>if k<j+1 then encB (Gs.byte ((Gs.run cs).getD k 0))else .int .u8 0) (λk hk=>by by_cases h1:k=j;(·subst h1;rw[G0 rfl,G0 (show k<k+1 by omega)];unfold encB;rw[Dk.out,hcjj]);·rw[D0 h1];by_cases h2:k<j;(·exact YV);·rw[D0 h2,D0 (show¬k<j+1 by omega)]));have IK:=B0 (j3.setCell (p:=⟨w.heap.size+1,j,none⟩) L0 (.int .u8 cj));rw[hcjj]at Vq cj0 cj1;clear k9 hcjj Dk;exact tI):=h
def QN(h:p:=by
 obtain rfl:j=C.size:=by omega
 rw[Zu]at b8;have j8:=b8.sl;clear hj hlt b8;go_wp2;go_ret2;exact⟨_,rfl,j8,((Ext.refl w).alloc _).trans j3⟩):p:=h
def QO(h:p:=by
 rintro e w6 ⟨rfl,rfl⟩;go_wp2_with fail;go_roundw;case rel=>exact⟨i,(101-vv).toNat,f',q+1,(i:Int),101-vv,out++[vv],a5,c5,by omega,by omega,rfl,by omega,by go_num,by go_num,rfl,Lr,HF9,s6,p7,Dk⟩
 case measure=>exact QL):p:=h
def QP(h:p:=by
 obtain⟨x,l9⟩:∃x,ws[j]? =some x:=⟨_,P0 X3⟩;obtain⟨b,o,ha,hb,hc⟩:=HV.out.Af (Ext.refl w) l9;subst ha;have Bx:(j:Int)<(n:Int):=by omega
 obtain⟨b7,j0⟩:=Ia.out x (L1 l9);have Ad:Hid (t+x=Rn.sum (ws.take (j+1))):=B0 DG;exact nZ):p:=h
def QQ(h:p:=by
 have F0:wr.cell? ⟨w.heap.size,0,none⟩=some (.int .i64 3):=GY;go_wp2_with fail;refine(HP.out _).mono ?_;rintro e w6 ⟨pp,rfl,Bh,o9⟩;have F6:w6.cell? ⟨w.heap.size,0,none⟩=some (.int .i64 3):=GZ;have Cb:=Z2.later b8 Bh;have Dg:=b8.ext o9;have hsz6:=o9.size;have Bp:=B0 (ZU (w.heap.size+1) _ _ pp _ (Tw.bits x) 3 w6 Dg Bh Cb C0 C0 WE);rw[XV]at Bp;have hx06:=j3.trans o9;clear b8 Bh Cb Dg F0;go_wp2_with fail;refine Bp.out.mono ?_;rintro e w7 ⟨v7,rfl,Gi,hbw7,_⟩;have Ax:Ext (w.alloc (.cells #[.int .i64 3,.bool false,.string p5] 24)) w7:=O4 hx06 WF;exact FA):p:=h
def QR(h:p:=by
 have F0:wr.cell? ⟨w.heap.size,0,none⟩=some (.int .i64 2):=GY;go_wp2_with fail;refine(HP.out _).mono ?_;rintro e w6 ⟨pp,rfl,Bh,o9⟩;have F6:w6.cell? ⟨w.heap.size,0,none⟩=some (.int .i64 2):=GZ;have Cb:=Z2.later b8 Bh;have Dg:=b8.ext o9;have hsz6:=o9.size;have Bp:=B0 (ZU (w.heap.size+1) _ _ pp _ (Tw.bits x) 2 w6 Dg Bh Cb C0 C0 WE);rw[XV]at Bp;have hx06:=j3.trans o9;clear b8 Bh Cb Dg F0;go_wp2_with fail;refine Bp.out.mono ?_;rintro e w7 ⟨v7,rfl,Gi,hbw7,_⟩;have Ax:Ext (w.alloc (.cells #[.int .i64 2,.bool false,.string p5] 24)) w7:=O4 hx06 WF;exact FA):p:=h
def QS(h:p:=by
 have F0:wr.cell? ⟨w.heap.size,0,none⟩=some (.int .i64 3):=GY;go_wp2_with fail;refine(HP.out _).mono ?_;rintro e w6 ⟨pp,rfl,Bh,o9⟩;have F6:w6.cell? ⟨w.heap.size,0,none⟩=some (.int .i64 3):=GZ;have Cb:=Z2.later b8 Bh;have Dg:=b8.ext o9;have hsz6:=o9.size;have Bp:=B0 (ZU (w.heap.size+1) _ _ pp _ (Tw.bits x) 3 w6 Dg Bh Cb C0 C0 WE);rw[XV]at Bp;have hx06:=j3.trans o9;clear b8 Bh Cb Dg F0;go_wp2_with fail;refine Bp.out.mono ?_;rintro e w7 ⟨v7,rfl,Gi,hbw7,_⟩;have Ax:Ext (w.alloc (.cells #[.int .i64 3,.bool true,.string p5] 24)) w7:=O4 hx06 WF;exact FA):p:=h
def QT(h:p:=by
 have F0:wr.cell? ⟨w.heap.size,0,none⟩=some (.int .i64 2):=GY;go_wp2_with fail;refine(HP.out _).mono ?_;rintro e w6 ⟨pp,rfl,Bh,o9⟩;have F6:w6.cell? ⟨w.heap.size,0,none⟩=some (.int .i64 2):=GZ;have Cb:=Z2.later b8 Bh;have Dg:=b8.ext o9;have hsz6:=o9.size;have Bp:=B0 (ZU (w.heap.size+1) _ _ pp _ (Tw.bits x) 2 w6 Dg Bh Cb C0 C0 WE);rw[XV]at Bp;have hx06:=j3.trans o9;clear b8 Bh Cb Dg F0;go_wp2_with fail;refine Bp.out.mono ?_;rintro e w7 ⟨v7,rfl,Gi,hbw7,_⟩;have Ax:Ext (w.alloc (.cells #[.int .i64 2,.bool true,.string p5] 24)) w7:=O4 hx06 WF;exact FA):p:=h
def QU(h:p:=by
 rintro e w1 ⟨F,rfl,hF,b7⟩;obtain⟨hc,hf⟩:=b7.cells;have hz:w.heap.size<w1.heap.size:=O7;unfold ZJ.val;go_wp2;refine N4 (v:=.tuple #[F.val,.bool true]) (by simp[results,results62,go_sem,ZJ.val,hc]) rfl ⟨_,F,rfl,hF.Hk ?_,?_⟩;·(repeat refine Z3.setCell ?_ J3 _);exact Z3.refl _ _
 ·(repeat refine Ext.setCell ?_ (J0 _) _);exact Ext.trans ((Ext.refl w).alloc _) b7):p:=h
def QV(h:p:=by
 subst h0;rw[D0 I0]at HX;by_cases hl:65536<m.length;·have hlI:65536<(m.length:Int):=C0;rw[G0 hl]at HX;clear hl;subst hk;all_goals go_enter func10,ntmps10;go_wp2_with fail;refine(HE.out _ ((Ext.refl w).alloc _)).mono ?_;rintro e w1 ⟨v1,rfl,Aw,b7⟩;obtain⟨-,a1,c1,rfl,-⟩:=Aw;rw[M0];go_wp2;go_ret2;exact⟨_,by rw[HX.out];rfl,by rw[HX.out];exact SlK.nil _,((Ext.refl w).alloc _).trans b7⟩
 .have hlI:¬65536<(m.length:Int):=C0;rw[D0 hl]at HX;clear hl;subst hk;all_goals go_enter func10,ntmps10;go_wp2_with fail;refine(HE.out _ ((Ext.refl w).alloc _)).mono ?_;rintro e w1 ⟨v1,rfl,Aw,b7⟩;have HV:=B0 Aw;obtain⟨-,a1,c1,rfl,-⟩:=Aw;dsimp only at HV;rw[M0]at HV⊢;go_wp2;go_ret2;exact⟨_,by rw[HX.out];rfl,by rw[HX.out];exact HV.out,((Ext.refl w).alloc _).trans b7⟩):p:=h
def QW(h:p:=by rintro e w' ⟨rfl,rfl⟩;rw[HP.out];exact aD):=h
def QX(h:p:=by go_wp2_with fail;go_ret2;exact⟨_,by rw[HR.out];rfl,by rw[HR.out];exact⟨.inl ⟨rfl,_,_,rfl⟩,none,0,rfl,J0 _⟩,Ext.refl _⟩):=h
def QY(h:p:=by go_wp2_with fail;refine(HZ.out _).mono ?_;rintro e w1 ⟨rfl,rfl⟩;go_wp2_with fail;refine(HD.out _).mono ?_;exact tJ):=h
def QZ(h:p:=by rw[j9.cell (p:=⟨w3.heap.size,2,none⟩) L0];unfold World.cell?;rw[X2];rfl):=h
def Q0(h:p:=by
 rw[hp]at Cq;have HR:Hid (res=(([],[]),0,29)):=B0 (by rw[Gv.out,hp]);clear hp Gv HNS;go_wp2_with fail;refine Cq.out.mono ?_;rintro e w3 ⟨rfl,j4⟩;dsimp only[preV,ZI];have hel:=Bp.out.ext j4;obtain⟨g0,g1⟩:=hel.cells;have f0:=hel.free 0;have f1:=hel.free 1;have HQ:=B0 ((hel.put ([],[])).ext ((Ext.refl _).alloc (.cells #[.int .i64 0,.int .i64 0,.int .i64 0,.int .u8 0] 138))).cells;have Dj:=n8.trans j4;have o4:w.heap.size<w3.heap.size:=by have:=j3.size;have:=j4.size;simp at*;omega
 clear hel j4;go_wp2;obtain⟨p0,p1⟩:=HQ.out;refine N4 (v:=.tuple #[.agg #[.string ⟨#[]⟩,.string ⟨#[]⟩],.int .i64 0,.int .i64 29]) zM rfl ⟨by rw[HR.out];rfl,Xf⟩):p:=h
def Q1(h:p:=by exact tI):=h
def Q2(h:p:=by have HR:=B0 (p6.out GQ HB.out);rw[h1]at HR;clear h1 Bd;generalize Lib.indexByte x6.data.toList c=x at*;exact tE):=h
def Q3(h:p:=by rintro e w1 ⟨rfl,rfl⟩;go_wp2_with fail;refine(Iu.out _).mono ?_;rintro e w2 ⟨rfl,j0⟩;go_wp2_with fail;refine(Dm.out _).mono ?_;rintro e w1 ⟨rfl,rfl⟩;exact tK):=h
def Q4(h:p:=by rcases Nh with⟨d4,d5⟩|d4;all_goals go_enter func69,ntmps69;go_wp2_with fail;refine(HZ.out _).mono ?_;rintro e w1 ⟨rfl,rfl⟩;go_wp2_with fail;refine(HD.out _).mono ?_;rintro e w1 ⟨rfl,rfl⟩;go_wp2_with fail;refine T6 (C:=λw'=>∃x:Zw w,w'=x.at') N0 N0 (Zw.drawn _) ?_;(try dsimp only);(repeat(first|go_big_quiet_step ((go_at_call 119;with_reducible exact Zq (Fz.out _)))|quiet_step ((go_at_call 119;with_reducible exact Zq (Fz.out _)))));refine U6 ?_;intro _ n9;obtain⟨x0,n9⟩:=n9;subst n9;obtain⟨w8,Hb⟩:=x0;(try dsimp only);go_wp2;go_ret2;exact⟨HG.out,Hb⟩):=h
def Q5(h:p:=by go_enter func204,ntmps204;go_wp2;go_ret;exact⟨Zo HF.out.symm,rfl⟩):=h
def Q6(h:p:=by exact tH):=h
def Q7(h:p:=by
 clear b8 l6 j6 o4;go_wp2_with fail;go_roundw;case rel=>exact⟨i+1,s,_,by omega,by omega,by go_num,by first|rfl|exact V0 (Value.int .i64) Ta.symm|go_num,Lf,IE,s6,p7⟩
 case measure=>exact Qr):p:=h
def Q8(h:p:=by exact tJ):=h
def Q9(h:p:=by go_wp2;go_ret;exact⟨rfl,rfl⟩):=h
def lY(h:p:=by
 rw[hb]at Bc HV;have HR5:Hid ((wr.setCell ⟨w1.heap.size,j,none⟩ (.bool (!b))).rowIs w1.heap.size 4 7 (λk=>if k<j+1 then encT (r.getD k false)else .bool false)):=
  B0 ((k9.set j (.bool (!b))).congr (λk hk=>by by_cases h1:k=j;(·subst h1;rw[G0 rfl,G0 C0,HV.out];rfl);·rw[D0 h1];by_cases h2:k<j;(·exact V8);·rw[D0 h2,D0 C0]))
 have HX:=B0 (j3.setCell (p:=⟨w1.heap.size,j,none⟩) (J0 _) (.bool (!b)));clear k9 j3 hb HV;exact tL):p:=h
def JE(h:p:=by
 intro V w' hx hf;with_reducible refine Zc ?_
 intro A ρ hA hρ n6 o5;have h8:ρ (.tmp 8)=.int .i64 (k:Int):=(Y0 hρ _).trans (ZL hA 8 rfl);exact tM):p:=h
def VB(h:p:=by unfold World.cell?;rw[X2];rfl):=h
def cG(h:p:=by rintro e w1 ⟨rfl,rfl⟩;go_wp2_with fail;refine(Iu.out _).mono ?_;rintro e w2 ⟨rfl,j0⟩;go_wp2_with fail;refine(Dm.out _).mono ?_;rintro e w1 ⟨rfl,rfl⟩;go_wp2_with fail;refine(HQ.out _).mono ?_;rintro e w1 ⟨rfl,rfl⟩;go_wp2_with fail;refine(HL.out _).mono ?_;rintro e w3 ⟨rfl,j4⟩;go_wp2_with fail;refine(Cr.out _).mono ?_;rintro e w4 ⟨rfl,j9⟩;go_wp2_with fail;refine(HRQ.out _).mono ?_;rintro e w5 ⟨rfl,j5⟩;go_wp2_with fail;refine(Mz.out _).mono ?_;rintro e w6 ⟨v,rfl,Wj,o9⟩;go_wp2;go_ret2;exact⟨v,by rw[HX.out];rfl,by rw[HX.out];exact Wj,(((j0.trans j4).trans j9).trans j5).trans o9⟩):=h
def yQ(h:p:=by
 clear he Sw hl;cases b2;all_goals cases b3
 all_goals first|(exact absurd d23 Bool.noConfusion)|skip
 all_goals go_enter func71,ntmps71;go_wp2_with fail;refine(HW.out _).mono ?_;rintro e w1 ⟨rfl,rfl⟩;go_wp2;go_ret2;exact⟨.slice none 0 0,by rw[HT.out];rfl,by rw[HT.out];exact U9 _,Xe⟩):p:=h
def JD(h:p:=by
 intro V w' hx hf;with_reducible refine Zc ?_
 intro A ρ hA hρ n6 o5;have h0:ρ (.tmp 0)=.string s:=(Y0 hρ _).trans (ZL hA 0 rfl);exact tN):p:=h
def tG(h:p:=by
 obtain rfl:j=d.size:=by omega
 rw[Zu]at IL;clear hj hlt;have HR:Hid (res=0):=B0 (En.out IL.out);go_wp2;go_ret;exact⟨Zo HR.out.symm,n8⟩):p:=h
def GW(h:p:=by rw[o9.cell (p:=⟨w.heap.size,0,none⟩) (by show w.heap.size<w5.heap.size;omega)];exact F0):=h
def GZ(h:p:=by rw[o9.cell (p:=⟨w.heap.size,0,none⟩) (by show w.heap.size<wr.heap.size;omega)];exact F0):=h
def xH(h:p:=by
 go_wp2_with fail;go_roundw;case rel=>exact⟨i+1,1,f',q+1,((i+1:Nat):Int),1,out++[vv],a5,c5,by omega,by omega,rfl,rfl,by go_num,by go_num,rfl,Lr,HF9,s6,p7,Dk⟩
 case measure=>exact QL):p:=h
def xG(h:p:=by
 go_wp2_with fail;go_roundw;case rel=>exact⟨i+1,0,f',q+1,((i+1:Nat):Int),0,out++[vv],a5,c5,by omega,by omega,rfl,rfl,by go_num,by go_num,rfl,Lr,HF9,s6,p7,Dk⟩
 case measure=>exact QL):p:=h
def DX(h:p:=by have HD:Hid (Hp.Heap Hp.Cn q' i0):=B0 (HH.out.done (λc hc a b ha hb=>by have e:=Ix.out;rw[hb]at e;injection e with e;subst e;exact Hp.lessS_tr _ _ _ (Xc.out c hc a ha) Ch.out.symm));go_wp2;go_ret;exact⟨⟨_,rfl⟩,q',Oq.out,HD.out,HP.out,HG.out.trans (GB.ext Ct.out)⟩):=h
def sM(h:p:=by
 go_wp2_with fail;refine(Kb.out _).mono ?_;rintro e w4 ⟨rfl,j9⟩;have Ai:=b8.ext j9;have Di:=o7.trans j9;clear b8 j9 cA;by_cases Pn:4096<got.length;·have Nu:Hid (res=([],4)):=B0 sN;go_wp2;go_ret2;rw[Nu.out];exact YD.err _ (n8.trans Di)
 .have aCX:got.length<=4096:=C0;clear Pn;go_wp2;go_roundw;(case rel=>exact⟨k+1,got,by omega,by go_num,aCX,Ai,B0 sO,Di⟩);case measure=>exact QH):p:=h
def vE(h:p:=by have HR:=B0 (p6.out GQ HB.out);rw[h1]at HR;clear h1;go_wp2;go_ret2;exact⟨by rw[HR.out];rfl,j4⟩):=h
def eG(h:p:=by go_wp2_with fail;refine(aAG.out _ (Z3.Ll _ (Uk.trans j3))).mono ?_;rintro e w4 ⟨rfl,j9⟩;obtain⟨Su,hq6,hq7⟩:=FY.out w4 (j3.trans j9);go_wp2_with fail;refine(aB0.out _ (Z3.Ll _ ((Uk.trans j3).trans j9))).mono ?_;rintro e w5 ⟨rfl,j5⟩;obtain⟨St,hp6,hp7⟩:=FY.out w5 ((j3.trans j9).trans j5);go_wp2_with fail;refine(aAr.out _ (Z3.Ll _ (((Uk.trans j3).trans j9).trans j5))).mono ?_;rintro e w6 ⟨rfl,o9⟩;go_wp2;go_ret2;exact⟨by rw[HT.out];rfl,(((b7.trans j3).trans j9).trans j5).trans o9⟩):=h
def tO(h:p:=by go_enter func248,ntmps248;go_wp2_with fail;refine(HD.out _).mono ?_;rintro e w1 ⟨rfl,rfl⟩;exact tP):=h
def rL(h:p:=by
 obtain⟨w5,Yq,Yd,j6⟩:=Jh.out.put (i,s) P3 P3 (r+1) C0 C0;dsimp only at Yq;rw[show((r+1:Nat):Int)=(r:Int)+1 from rfl]at Yq;have HT6:Hid (TabM w w5 w.heap.size (Cs.Th cs i s T2 (j+1)) (K2+(j+1))):=B0 (by rw[Iv.out];exact Yd.up (by have:=Kr.out;omega));have HG6:Hid (GB (some w.heap.size) w2 w5):=B0 (HGA.out.trans j6);clear Yd j6 IU Av;go_wp2_with fail;go_roundw;case rel=>exact⟨j+1,by omega,by go_num,HT6,HG6⟩
 case measure=>exact Qr):p:=h
def fY(h:p:=by
 simp only[one,C3,G4,E2,J4,F4]at hm;dsimp only at n99 n100 nd⊢;rw[G0 h0];rcases hm with rfl|rfl|rfl|rfl;·exact absurd hg aEA
 .exact tQ
 .exact tR
 .exact⟨least_val n99 n100 nd (.inr (.inr ⟨rfl,gd.1 hg⟩)) P3,.inr (.inr (.inr ⟨rfl,h0⟩))⟩):p:=h
def rJ(h:p:=by
 go_wp2_with fail;refine(Dc.out _ Oq.out).mono ?_;rintro e w4 ⟨rfl,Su,Et⟩;have HQ4:=B0 (Oq.out.aAp Et Su (Hp.aEc q' i (2*i+1)));have HG4:=B0 ((HG.out.trans (GB.ext Ct.out)).trans Et);have HH4:=B0 (HH.out.step Hp.lessS_tr Hp.lessS_as Mj C0 Ix.out Ny.out Ch.out.symm Xc.out);have HP4:=B0 ((Hp.swap_perm Ix.out Ny.out).trans HP.out);clear Su Et;go_wp2;go_roundw;case rel=>exact⟨2*i+1,_,by omega,by omega,by go_num,HQ4,HH4,HP4,HG4⟩
 case measure=>exact Qr):p:=h
def xQ(h:p:=by clear h q0 q1 q2 q3 q4 h6n Tz;exact lT):=h
def XB(h:p:=by exact⟨rfl,rfl⟩):=h
def dE(h:p:=by rw[HG.out];clear HG hg;unfold symV linV;dsimp only;generalize Ea.bS l=L at*;generalize Ea.bS (Ea.sS u)=U at*;go_enter func213,ntmps213;go_wp2_with fail;refine(HH.out _).mono ?_;rintro e w1 ⟨rfl,b7⟩;go_wp2_with fail;refine(HR.out _).mono ?_;rintro e w2 ⟨rfl,j0⟩;have hx:=b7.trans j0;obtain⟨z0,z1,z2,z3,z4,z5,z6,HB⟩:=X5 hx;have n8:=hx.before;clear b7 j0 hx;go_wp2;refine J2 (Zj results213 rfl (Zm HB) rfl) rfl ?_;exact⟨rfl,Xf⟩):=h
def BH(h:p:=by
 have h1:X.data.toList[i]? =some (UInt8.ofNat (48+x.toNat)):=by rw[Ma.out,B3,IY];rfl
 obtain⟨h2,h3⟩:=N1.1 h1;rw[<-h3];rfl):p:=h
def DH(h:p:=by go_wp2;go_ret;exact⟨Zo HF.out.symm,rfl⟩):=h
def C7(h:p:=by exact⟨0,R0 _,rfl,B0 rfl⟩):=h
def fZ(h:p:=by
 simp only[one,A3,E2,J4,F4]at hm;dsimp only at n99 n100 nd⊢;rw[D0 h0];rcases hm with rfl|rfl|rfl;·exact⟨least_val n99 n100 nd (.inr (.inr ⟨rfl,gd.1 hg⟩)) P3,.inl ⟨rfl,by omega⟩⟩
 .exact tQ
 .exact tR):p:=h
def iD(h:p:=by
 by_cases hd:0<=d;·rw[G0 hd]at HU;exact tO
 .rw[D0 hd]at HU;exact tO):p:=h
def PD(h:p:=by rw[I2,RR];exact tS):=h
def R9(h:p:=by go_enter func90,ntmps90;go_wp2;go_ret2;exact⟨rfl,Xe⟩):=h
def tF(h:p:=by rintro e w' ⟨rfl,rfl⟩;rw[HP.out];go_wp2;go_ret;exact⟨Zo HR.out.symm,n8⟩):=h
def iS(h:p:=by
 have Ci:Hid (2=Cs.rsetTo cs 2):=B0 (by rw[IF.out,G0 Hn]);have aB4:(UA:Int)<(UB:Int):=by omega
 clear hj p9 hlt k1 IF HS Hn;go_wp2_with fail;go_quiet (fail);have o7:Ext wr (wr.drewN nq):=(Ext.refl _).drewN _;have Ba:=B0 (HX.out.trans o7);generalize wr.drewN nq=wq2 at*;clear o7 HX e1 e2 Gq;go_wp2_with fail;go_roundw;case rel=>exact⟨2,2,3,2,by omega,by omega,rfl,rfl,by go_num,by go_num,Ci,Ba⟩
 case measure=>exact Qr):p:=h
def oF(h:p:=by
 clear hq hsq;go_wp2_with (at_builtin;refine UK rfl _ _ rfl w.heap.size _ got rfl (b8.alloc _) _ (s[q]==49) rfl ?c1 ?c2 ?c3 ?_);case c1=>simp[go_sem,encT]
 case c2=>omega
 case c3=>have:=j3.size;exact X0
 intro v' w5 l6 j6;have j5:=(j3.alloc _).l8 j6 b8.low;clear b8 j6 Ys d1;go_wp2;go_roundw;case rel=>exact⟨k+1,by omega,by go_num,by rw[Rk.out,R2];exact l6,j5⟩
 case measure=>exact QH):p:=h
def yN(h:p:=by rw[G0 hr]at HT;have d2:(r !=2)=true:=R1.2 hr.1;have d3:(r !=3)=true:=R1.2 hr.2;clear hr;go_enter func71,ntmps71;go_wp2;go_ret2;exact⟨.slice none 0 0,by rw[HT.out];rfl,by rw[HT.out];exact U9 _,Xe⟩):=h
def KP(h:p:=by
 rcases hr.form with⟨h,-⟩|h;·exact absurd (V0 List.length h) (by rw[Cs.aBS];exact Nat.succ_ne_zero _)
 .rw[Cs.aBS]at h;exact h):p:=h
def UC(h:p:=by go_enter func243,ntmps243;go_wp2;go_ret2;exact vF):=h
def SX(h:p:=by exact⟨by dsimp only;rw[aHI,drop_one hi];exact g1,by dsimp only;omega,by dsimp only;omega,by dsimp only;omega,g2,g3⟩):=h
def JB(h:p:=by
 have h:d=0\/d=1\/d=2\/d=3\/d=4\/d=5\/d=6\/d=7\/d=8\/d=9:=by omega
 rcases h with rfl|rfl|rfl|rfl|rfl|rfl|rfl|rfl|rfl|rfl<;>exact R7 _ _ w rfl):p:=h
def iI(h:p:=by
 clear Sa;by_cases hd:0<=d;·rw[G0 hd]at HB;go_wp2_with fail;refine(HD.out _).mono ?_;rintro e w1 ⟨rfl,rfl⟩;exact tT
 .rw[D0 hd]at HB;exact tT):p:=h
def zE(h:p:=by exact⟨by rw[HX.out];rfl,Ext.refl _⟩):=h
def FV(h:p:=by go_wp2_with fail;refine(FU _ _ C0 C0).mono ?_;rintro e w' ⟨rfl,rfl⟩;go_wp2;go_ret;exact⟨ZC YR,Xe⟩):=h
def QaO(h:p:=by go_wp2;go_ret2;exact vF):=h
def O7(h:p:=by have:=b7.size;simp at this;omega):=h
def uN(h:p:=by rw[G0 he]at HT;have d1:((Tw.IJ k s.data.toList check).2 !=0)=true:=R1.2 he;clear he HD0 HD;generalize Tw.IJ k s.data.toList check=cc at*;obtain⟨c1,c2⟩:=cc;simp only at d1 HC HT;go_wp2_with fail;refine(HC.out _ (Z3.Ll _ Xe)).mono ?_;rintro e w2 ⟨rfl,j0⟩;go_wp2;go_ret2;exact⟨.slice none 0 0,by rw[HT.out];rfl,by rw[HT.out];exact U9 _,((((Ext.refl w).alloc _).trans b7).alloc _).trans j0⟩):=h
def rY(h:p:=by exact tS):=h
def yV(h:p:=by go_enter func134,ntmps134;go_wp2_with fail;refine(HT.out _).mono ?_;rintro e w1 ⟨rfl,b7⟩;dsimp only;obtain⟨d0,d1⟩:=FJ.out w1 b7;have n8:Ext w w1:=Ge.out.trans b7;go_wp2;go_ret;exact⟨rfl,n8⟩):=h
def pN(h:p:=by
 intro v' w5 l6 j6 Lb;have aBA:=(hbs.trans (N5.aHH ((Ext.refl wr).alloc _))).trans (N5.grow j6 (wr.heap.size+1) L0 Lb);have aB8:=(hbw.alloc C0 _).grown j6 J3 b8.low;clear b8 j6 Lb hbs hbw;go_wp2;go_roundw;case rel=>exact⟨k+1,by omega,by go_num,by rw[HS.out,<-V1,hgg,R2];exact l6,aB8,aBA⟩
 case measure=>exact QH):p:=h
def GN(h:p:=by go_enter func136,ntmps136;go_wp2_with fail;refine HT.out.mono ?_;rintro e w1 ⟨rfl,b7⟩;dsimp only;go_wp2;go_ret3;exact⟨rfl,b7⟩):=h
def rA(h:p:=by rintro e w1 ⟨rfl,rfl⟩;go_wp2_with (at_builtin;refine WY rfl _ _ rfl (w.heap.size+1) _ P rfl (Kc.out.1.ext ((Ext.refl _).alloc _)) _ 1 [(y,i+1,s)] rfl rfl (X2 _ _) rfl C0 J3 ?_);intro v6 w6 Dg Pk;have HM6:=B0 (MvM.more Kc.out Dg Pk);clear Dg Pk;go_wp2;go_ret;rw[Uw.out];exact⟨_,rfl,HM6.out.1.mono (R3 _),((Ext.refl w).alloc _).trans HM6.out.2⟩):=h
def tU(h:p:=by exact vF):=h
def xB(h:p:=by go_wp2_with fail;go_meet;case rel=>exact⟨by rw[HB.out],Hj⟩):=h
def cV(h:p:=by subst hJ;clear h1 h2 HM hl hr;go_enter func251,ntmps251;go_wp2_with fail;refine(HP.out _).mono ?_;rintro e w1 ⟨rfl,rfl⟩;go_wp2_with fail;refine(HQ.out _).mono ?_;rintro e w1 ⟨rfl,rfl⟩;go_wp2_with fail;refine(HL.out _).mono ?_;rintro e w2 ⟨rfl,j0⟩;go_wp2_with fail;refine(HR.out _).mono ?_;rintro e w3 ⟨rfl,j4⟩;go_wp2;go_ret3;exact⟨by rw[HN.out,halV,<-HAP.out];rfl,j0.trans j4⟩):=h
def GU(h:p:=by rw[j5.cell (p:=⟨w.heap.size,0,none⟩) L0];simp[go_sem]):=h
def GY(h:p:=by rw[j3.cell (p:=⟨w.heap.size,0,none⟩) L0];simp[go_sem]):=h
def Qa1(h:p:=by exact⟨j+1,by omega,by go_num,by rw[Xj.out];exact Gi,Ax⟩):=h
def mU(h:p:=by
 intro V w' hx hf;with_reducible refine Zc ?_
 intro A ρ hA hρ n6 o5;obtain⟨f43,f48,_⟩:=hf;have Rt:ρ (.tmp 43)=_:=(Y0 hρ _).trans ((Ze hA 43 rfl).trans f43);have Tz:ρ (.tmp 48)=_:=(Y0 hρ _).trans ((Ze hA 48 rfl).trans f48);simp[Zh,go_sem,n6,o5,Rt,Tz];exact tV):p:=h
def iE(h:p:=by exact tP):=h
def UT(h:p:=by rw[F1,P0 WH];rfl):=h
def SJ(h:p:=by go_wp2_with fail;go_meet;case rel=>exact XB):=h
def xZ(h:p:=by
 intro V w' hx hf;with_reducible refine Zc ?_
 intro A ρ hA hρ n6 o5;simp[Zh,go_sem,n6,o5];exact(Tr.out w').mono λe y8 ⟨v,he,ho,hy⟩=>⟨v,he,hy,ho.mono (R0 _)⟩):p:=h
def mJ(h:p:=by
 intro V w' hx hf;with_reducible refine Zc ?_
 intro A ρ hA hρ n6 o5;obtain⟨f26,f31,_⟩:=hf;have h26:ρ (.tmp 26)=_:=(Y0 hρ _).trans ((Ze hA 26 rfl).trans f26);have h31:ρ (.tmp 31)=_:=(Y0 hρ _).trans ((Ze hA 31 rfl).trans f31);simp[Zh,go_sem,o5,h26,h31];exact(HTB.out w').mono λe y8 ⟨v,he,ho,hy⟩=>⟨v,he,hy,ho.mono (R0 _)⟩):p:=h
def PH(h:p:=by
 go_wp2;go_round;case rel=>exact⟨k+1,by omega,by go_num,HO⟩
 case measure=>exact QH):p:=h
def S7(h:p:=by rw[S0];simp;omega):=h
def nL(h:p:=by
 refine⟨(Sl.row k9).congr ?_,_,_,by rw[M0,TY,HM.out],by rw[M0,TY,HM.out];exact J0 _⟩;apply Y8;intro i;by_cases hi:i<j;·have Eu:i<(Gs.run cs).length:=(by rw[HM.out];exact hi);simp[Gs.text,hi,Eu,F1]
 .have Eu:(Gs.run cs).length<=i:=(by rw[HM.out];omega);simp[Gs.text,hi,Eu]):p:=h
def oL(h:p:=by
 have d1:decide (0<=(a:Int))=true:=by simp
 clear h ha HE;go_enter func128,ntmps128;go_wp2_with fail;refine(HP.out _).mono ?_;rintro e w1 ⟨rfl,rfl⟩;go_wp2_with fail;refine(HC.out _).mono ?_;rintro e w1 ⟨v,rfl,b8,b7⟩;have j8:=SlN.aCm b8;obtain⟨a1,c1,rfl⟩:=j8.1.form;rw[M0,x8]at j8⊢;clear b8;go_wp2;go_ret2;exact⟨_,rfl,j8,b7⟩):p:=h
def Qbc(h:p:=by exact⟨1,by omega,by go_num,by rw[HS.out];exact Gi,Ax⟩):=h
def V2(h:p:=by simp[go_sem,encI]):=h
def Qbe(h:p:=by exact tK):=h
def mX(h:p:=by
 intro V w' hx hf;with_reducible refine Zc ?_
 intro A ρ hA hρ n6 o5;obtain⟨f55,_⟩:=hf;have h55:ρ (.tmp 55)=V 55:=(Y0 hρ _).trans (Ze hA 55 rfl);simp[Zh,go_sem,o5,h55];exact(ZV _ [Ea.gd,ra,Ea.md,rb,Ea.gd] w' f55 L0 Dn.out).mono λe y8 ⟨v,he,ho,hy⟩=>⟨v,he,hy,by rw[<-Ip.out];exact ho.mono hx.size⟩):p:=h
def W6(h:p:=by simp at this;omega):=h
def iO(h:p:=by
 clear hj hlt HF Ca hq k1;go_wp2_with fail;go_quiet (fail);have o7:Ext wr (wr.drewN nq):=(Ext.refl _).drewN _;have Ba:=B0 (HX.out.trans o7);generalize wr.drewN nq=wq2 at*;clear o7 HX Hv Dh e1 e2 Gq;go_wp2_with fail;go_roundw;case rel=>exact⟨1,1,min f0 101,by omega,rfl,by go_num,by go_num,Al,Ba⟩
 case measure=>exact Qr):p:=h
def iK(h:p:=by
 clear hj hlt HF Ca hq k1;go_wp2_with fail;go_quiet (fail);have o7:Ext wr (wr.drewN nq):=(Ext.refl _).drewN _;have Ba:=B0 (HX.out.trans o7);generalize wr.drewN nq=wq2 at*;clear o7 HX Hv Dh e1 e2 Gq;go_wp2_with fail;go_roundw;case rel=>exact⟨2,2,min f0 100,by omega,rfl,by go_num,by go_num,Al,Ba⟩
 case measure=>exact Qr):p:=h
def iM(h:p:=by
 clear hj hlt HF Ca hq k1;go_wp2_with fail;go_quiet (fail);have o7:Ext wr (wr.drewN nq):=(Ext.refl _).drewN _;have Ba:=B0 (HX.out.trans o7);generalize wr.drewN nq=wq2 at*;clear o7 HX Hv Dh e1 e2 Gq;go_wp2_with fail;go_roundw;case rel=>exact⟨3,3,min f0 99,by omega,rfl,by go_num,by go_num,Al,Ba⟩
 case measure=>exact Qr):p:=h
def xA(h:p:=by
 obtain rfl:j=3:=by omega
 obtain rfl:p=3:=hp;have Ak:Hid (f0=res):=B0 (by rw[It.out,HF.out]);clear hj hlt HF;go_wp2_with fail;go_ret;exact⟨Zo Ak.out,HX.out⟩):p:=h
def L4(h:p:=by first|(simp;omega)|omega):=h
def iP(h:p:=by clear hj hlt HF Ca hq k1;go_wp2_with fail;go_quiet (fail);have o7:Ext wr (wr.drewN nq):=(Ext.refl _).drewN _;have Ba:=B0 (HX.out.trans o7);generalize wr.drewN nq=wq2 at*;clear o7 HX Hv Dh e1 e2 Gq;exact iJ):=h
def iN(h:p:=by clear hj hlt HF Ca hq k1;go_wp2_with fail;go_quiet (fail);have o7:Ext wr (wr.drewN nq):=(Ext.refl _).drewN _;have Ba:=B0 (HX.out.trans o7);generalize wr.drewN nq=wq2 at*;clear o7 HX Hv Dh e1 e2 Gq;exact iR):=h
def iL(h:p:=by clear hj hlt HF Ca hq k1;go_wp2_with fail;go_quiet (fail);have o7:Ext wr (wr.drewN nq):=(Ext.refl _).drewN _;have Ba:=B0 (HX.out.trans o7);generalize wr.drewN nq=wq2 at*;clear o7 HX Hv Dh e1 e2 Gq;exact iQ):=h
def fX(h:p:=by have hb:(er !=0)=true:=R1.2 h0;rw[G0 h0]at HX;clear h0;subst hk;all_goals go_enter func10,ntmps10;go_wp2_with fail;refine(HE.out _ ((Ext.refl w).alloc _)).mono ?_;rintro e w1 ⟨v1,rfl,Aw,b7⟩;go_wp2;go_ret2;exact⟨_,by rw[HX.out];rfl,by rw[HX.out];exact SlK.nil _,((Ext.refl w).alloc _).trans b7⟩):=h
def BI(h:p:=by go_enter func154,ntmps154;go_wp2_with fail;refine Rd.out.mono ?_;rintro e w1 ⟨rfl,rfl⟩;exact tW):=h
def mG(h:p:=by
 intro V w' hx hf;with_reducible refine Zc ?_
 intro A ρ hA hρ n6 o5;obtain⟨f27,f28,_⟩:=hf;have h27:ρ (.tmp 27)=_:=(Y0 hρ _).trans ((Ze hA 27 rfl).trans f27);have h28:ρ (.tmp 28)=_:=(Y0 hρ _).trans ((Ze hA 28 rfl).trans f28);simp[Zh,go_sem,↓IntWalk.iteOmega,Ext.refl,h27,h28,aCU];rfl):p:=h
def mB(h:p:=by
 intro V w' hx hf;with_reducible refine Zc ?_
 intro A ρ hA hρ n6 o5;obtain⟨f22,f23,_⟩:=hf;have h22:ρ (.tmp 22)=_:=(Y0 hρ _).trans ((Ze hA 22 rfl).trans f22);have h23:ρ (.tmp 23)=_:=(Y0 hρ _).trans ((Ze hA 23 rfl).trans f23);simp[Zh,go_sem,↓IntWalk.iteOmega,Ext.refl,h22,h23,aCT];rfl):p:=h
def gE(h:p:=by
 have Ev:=(N1.1 hi).1;rcases h with⟨h1,_⟩|⟨b,o,cap,he,hb,hc⟩;·have:ws=[]:=YW;rw[this]at Ev;simp at Ev
 .injection he with h1 h2 h3;refine⟨b,o,h1,hb,(hx.cell (p:=⟨b,o+i,none⟩) hb).trans ?_⟩;rw[hc i (by rw[M0];exact Ev),B3,hi];rfl):p:=h
def aH(h:p:=by exact tL):=h
def qV(h:p:=by
 clear e1 e2 e3 Em Kp Po HO HX On HV;go_wp2_with fail;go_roundw;case rel=>exact⟨3,3,by omega,rfl,by go_num,Lu,Hi⟩
 case measure=>exact Qr):p:=h
def qU(h:p:=by
 clear e1 e2 e3 Em Kp Po HO HX On HV;go_wp2_with fail;go_roundw;case rel=>exact⟨2,2,by omega,rfl,by go_num,Lu,Hi⟩
 case measure=>exact Qr):p:=h
def qT(h:p:=by
 clear e1 e2 e3 Em Kp Po HO HX On HV;go_wp2_with fail;go_roundw;case rel=>exact⟨1,1,by omega,rfl,by go_num,Lu,Hi⟩
 case measure=>exact Qr):p:=h
def BR(h:p:=by rintro e w1 ⟨rfl,rfl⟩;go_wp2;go_ret2;exact⟨_,by rw[HX.out];rfl,by rw[HX.out];exact SlK.nil _,Ext.refl _⟩):=h
def tR(h:p:=by exact⟨least_val n99 n100 nd (.inr (.inl ⟨rfl,aAM.1 hg⟩)) P3,.inr (.inr (.inl rfl))⟩):=h
def zJ(h:p:=by go_enter func79,ntmps79;go_wp2_with fail;refine Dp.out.mono ?_;rintro e w1 ⟨rfl,rfl⟩;exact tX):=h
def sF(h:p:=by clear p6;go_enter func209,ntmps209;go_wp2_with fail;refine(H2.out _).mono ?_;rintro e w1 ⟨rfl,b7⟩;go_wp2_with fail;refine(H0.out _).mono ?_;rintro e w2 ⟨rfl,j0⟩;go_wp2_with fail;rw[HE4.out];refine(H4.out _).mono ?_;rintro e w3 ⟨rfl,j4⟩;go_wp2;go_ret;exact⟨Zn HR.out.symm,Xf⟩):=h
def zQ(h:p:=by go_wp2_with fail;refine J2 (Zj results13 rfl (Zm f7) rfl) rfl ?_;rw[Dl.out];exact⟨rfl,Z9 HX.out (J0 _) _ _ _⟩):=h
def aV(h:p:=by
 obtain rfl:j=m.length:=by omega
 have HE:Hid ((m.length:Int)=((Ea.Ac m:Nat):Int)):=B0 (by have:=hr.out;rw[O5 (by rw[D6];exact J0 _)]at this;simp only[Ea.ldg]at this;omega);clear hj hlj hr;go_wp2;go_ret2;exact⟨by rw[HL.out];rw[<-HE.out];rfl,rfl⟩):p:=h
def uU(h:p:=by
 obtain rfl:j=E.size:=by omega
 have j8:=Sl.row k9;clear hj hlt k9;go_wp2;go_ret2;refine⟨.slice (some ⟨w3.heap.size,0,none⟩) E.size E.size,by rw[HT.out];rfl,?_,n8.trans j3⟩;rw[HT.out];refine j8.congr ?_;rw[<-Zju];exact VM (λk hk=>by rw[G0 (by simpa using hk)])):p:=h
def X0(h:p:=by simp;omega):=h
def mW(h:p:=by
 intro V w' hx hf;with_reducible refine Zc ?_
 intro A ρ hA hρ n6 o5;obtain⟨f52,_⟩:=hf;have h52:ρ (.tmp 52)=_:=(Y0 hρ _).trans ((Ze hA 52 rfl).trans f52);simp[Zh,go_sem,n6,o5,h52];exact mM):p:=h
def bC(h:p:=by
 rw[e]at p9;have Hf:=B0 p9.1;have IA:=B0 (HX.out.l8 p9.2 (λk hk=>by injection hk with hk;omega));clear e p9 IY HO;go_wp2_with fail;rw[show((48+max x 0)%256-48:Int)=x by omega];go_roundw;case rel=>exact⟨i+1,by omega,by go_num,Hf,IA⟩
 case measure=>exact Qr):p:=h
def NQ(h:p:=by rintro e w1 ⟨rfl,rfl⟩;go_wp2;go_ret2;exact⟨by rw[HT.out];rfl,Ext.refl _⟩):=h
def XG(h:p:=by go_wp2;go_ret;exact⟨Zn HF.out.symm,rfl⟩):=h
def nH(h:p:=by go_enter func79,ntmps79;go_wp2_with fail;refine Dp.out.mono ?_;rintro e w1 ⟨rfl,rfl⟩;go_wp2_with fail;refine Kf.out.mono ?_;rintro e w1 ⟨u,rfl,⟨hs,a,c,rfl,hc⟩,b7⟩;have Wg:=HNW.out;rw[M0,<-Wg];clear Wg;go_wp2;go_ret2;rw[HF.out];exact D5.bad _ _ _ b7):=h
def XZ(h:p:=by exact⟨0,R0 _,rfl,Own.nil _ _ _,b7⟩):=h
def TG(h:p:=by go_wp2;go_ret;exact⟨Zo HE.out.symm,rfl⟩):=h
def EU(h:p:=by exact⟨λ_ _=>by kernel_rfl,λ_ _=>by kernel_rfl,λ_ _=>by kernel_rfl,λ_ _=>by kernel_rfl,λ_ _=>by kernel_rfl,λ_ _=>by kernel_rfl⟩):=h
def fR(h:p:=by
 have h7I:(127:Int)<(b.toNat:Int):=by omega
 have aB5:s.data.toList.any (λc=>decide (127<c.toNat))=true:=VK.2 ⟨b,L1 h1,C1 h7⟩;rw[G0 aB5]at HX;clear h1 h7 aB5;go_wp2_with fail;go_ret2;rw[HX.out];exact⟨_,rfl,SlK.nil _,Vf.out⟩):p:=h
def xS(h:p:=by
 go_wp2;go_roundw;case rel=>exact⟨k+1,by omega,by go_num,by rw[HT.out,R2];exact l6,j5⟩
 case measure=>exact QH):p:=h
def tY(h:p:=by rw[W7 C j hj]at this;rw[yK];omega):=h
def JO(h:p:=by rw[I2,vG];exact U3 zG):=h
def YV(h:p:=by rw[G0 h2,G0 (show k<j+1 by omega)]):=h
def R5(h:p:=by (repeat' split)<;>omega):=h
def fA(h:p:=by go_wp2_with fail;refine(Uu.out _).mono ?_;rintro e w1 ⟨rfl,rfl⟩;go_wp2_with fail;refine(Ec.out _).mono ?_;rintro e w2 ⟨rfl,j0⟩;dsimp only;go_wp2;go_ret2;have hr:=HR.out;simp only[Y2]at hr;obtain⟨rfl,rfl⟩:=hr;exact ElsR.err _ (Fa.trans (hx.trans j0))):=h
def JT(h:p:=by
 rcases hz with h|h;·exact .inl (by rw[h];rfl)
 .exact .inr ⟨by rw[h];rfl,by rw[h];rfl⟩):p:=h
def mT(h:p:=by
 intro V w' hx hf;with_reducible refine Zc ?_
 intro A ρ hA hρ n6 o5;obtain⟨f47,_⟩:=hf;have h47:ρ (.tmp 47)=_:=(Y0 hρ _).trans ((Ze hA 47 rfl).trans f47);simp[Zh,go_sem,o5,h47];exact mN):p:=h
def jN(h:p:=by
 generalize Lib.indexByte Tw.Bb s[j]=x at*;generalize Tw.sumCb (s.data.toList.take j)=g at*;go_wp2_with fail;refine(HI.out _).mono ?_;rintro e w1 ⟨rfl,rfl⟩;go_wp2;go_round;case rel=>exact⟨j+1,by omega,by go_num,by rw[Nx.out]⟩
 case measure=>exact QH):p:=h
def tQ(h:p:=by exact⟨least_val n99 n100 nd (.inl ⟨rfl,g99.1 hg⟩) P3,.inr (.inl rfl)⟩):=h
def lZ(h:p:=by
 obtain rfl:j=7:=by omega
 have j8:=lU (B:=w.heap.size) k9 o4 O3;clear hj hlt k9;go_wp2;go_ret;refine⟨_,rfl,j8.congr ?_,n8.trans j3⟩;apply V9;·simp[Bt.out.2]
 .intro i h1 h2;simp at h1 h2;simp[h1,encT,h2]):p:=h
def FD(h:p:=by
 unfold Ab at h;by_cases h3:127<n;·rw[G1 (show¬n<256 by omega),Bool.and_false]
 .rw[G1 h3,TU]):p:=h
def vM(h:p:=by simp only[E2,J4,F4,Y2]at hm;rcases hm with⟨rfl,rfl,rfl⟩|⟨rfl,rfl,rfl⟩|⟨rfl,rfl,rfl⟩<;>exact⟨by dsimp only;rw[z0];rfl,J0 _,by dsimp only;omega,by dsimp only;omega,by dsimp only;omega,by dsimp only;omega⟩):=h
def zF(h:p:=by rintro e w1 ⟨rfl,rfl⟩;go_wp2_with fail;refine(HC.out _).mono ?_;rintro e w1 ⟨rfl,hx⟩;go_wp2;go_ret;exact⟨by rw[HX.out];rfl,hx⟩):=h
def Qb3(h:p:=by exact tM):=h
def Qb4(h:p:=by exact tN):=h
def eU(h:p:=by clear HP HN Ey hr;go_wp2;obtain⟨p0,p1,p2,p3⟩:=HQ.out;refine N4 (v:=.tuple #[.string ⟨#[]⟩,.agg #[.int .i64 0,.int .i64 0,.int .i64 0,.int .u8 0],.bool false]) eT rfl ⟨by rw[Ak.out];rfl,Xf⟩):=h
def pF(h:p:=by
 go_wp2;go_round;case rel=>exact⟨j+1,by omega,by go_num,B0 (λc hc=>by rw[Z1 s j hlt,E3]at hc;rcases hc with h|h;(·exact HB.out c h);·rw[D3]at h;rw[h];exact HX.out)⟩
 case measure=>exact QH):p:=h
def P9(h:p:=by go_wp2;go_ret;exact⟨rfl,Xe⟩):=h
def gI(h:p:=by
 obtain rfl:j=n:=by omega
 have hO:=HO.out;rw[S1 P7]at hO;have HK:=B0 hO.IW;have Bj:=HX.out;clear hO hlt hj;go_wp2_with fail;go_ret2;exact⟨_,by rw[HR.out];rfl,by rw[HR.out];exact HK.out,Bj⟩):p:=h
def oA(h:p:=by
 intro V w' hx hf;with_reducible refine Zc ?_
 intro A' ρ hA hρ n6 o5;have Kx:ρ (.tmp 12)=.pointer (some ⟨wr.heap.size,0,none⟩):=(Y0 hρ _).trans (ZL hA 12 rfl);simp[Zh,go_sem,n6,↓IntWalk.iteOmega,Ext.refl,Kx];try rfl):p:=h
def bG(h:p:=by exact tW):=h
def gS(h:p:=by unfold optV at HC;dsimp only[Option.getD_none,Option.isSome_none]at HC;go_enter func186,ntmps186;go_wp2_with fail;refine(HC.out _).mono ?_;rintro e w1 ⟨rfl,rfl⟩;go_wp2;go_ret;rw[HM.out];exact⟨_,rfl,KOwn.nil _ _ _ _ _,(Ext.refl w).alloc _⟩):=h
def oP(h:p:=by
 generalize Cd.dg (s[s.size-1-j]' C0)=d at*;have HS:=B0 s5;clear s5 h0;go_wp2_with fail;refine(HV.out _).mono ?_;rintro e w' ⟨rfl,rfl⟩;go_wp2;go_round;case rel=>exact⟨j,by omega,by go_num,by rw[HS.out]⟩
 case measure=>simp[intOf]):p:=h
def rZ(h:p:=by go_enter func97,ntmps97;go_wp2;go_quiet (fail);go_wp2;refine N4 (v:=.tuple #[.agg #[.int .i64 ya,.int .i64 yb,.int .i64 yc,.int .u8 (yd.toNat:Int)],.bool true]) CH rfl ⟨by rw[HR.out];rfl,Xf⟩):=h
def JR(h:p:=by rw[Ea.aAt ha zG,Za];rcases hz with h|h<;>rw[h]<;>decide):=h
def mZ(h:p:=by go_enter func70,ntmps70;go_wp2_with fail;refine(HF.out _).mono ?_;rintro e w1 ⟨rfl,b7⟩;go_wp2_with fail;refine(HD.out _).mono ?_;rintro e w2 ⟨rfl,rfl⟩;exact nA):=h
def mP(h:p:=by
 intro V w' hx hf;with_reducible refine Zc ?_
 intro A ρ hA hρ n6 o5;obtain⟨f44,_⟩:=hf;have h44:ρ (.tmp 44)=_:=(Y0 hρ _).trans ((Ze hA 44 rfl).trans f44);simp[Zh,go_sem,n6,↓IntWalk.iteOmega,Ext.refl,h44,Ew];rfl):p:=h
def mL(h:p:=by exact tV):=h
def bD(h:p:=by have hO:=HO.out;rw[S1 (by rw[Ly.out];exact J0 _),Y3,XH,A3]at hO;have HK:=B0 hO.IW;have Bj:=HX.out;clear hO HO hi hlt;go_wp2;go_ret;exact BJ):=h
def aU(h:p:=by
 have HE:Hid (Ea.ldg (m.reverse.drop (j+1))+(j+1)=Ea.Ac m):=B0 (by have:=Aj.out;simp only[Ea.ldg,LI,E4]at this;omega);go_wp2;go_round;case rel=>exact⟨j+1,by omega,by go_num,HE⟩
 case measure=>exact QH):p:=h
def U5(h:p:=by unfold Cs.Ab at hx;omega):=h
def mV(h:p:=by
 intro V w' hx hf;with_reducible refine Zc ?_
 intro A ρ hA hρ n6 o5;obtain⟨f51,_⟩:=hf;have h51:ρ (.tmp 51)=_:=(Y0 hρ _).trans ((Ze hA 51 rfl).trans f51);simp[Zh,go_sem,n6,↓IntWalk.iteOmega,Ext.refl,h51];rfl):p:=h
def mO(h:p:=by
 intro V w' hx hf;with_reducible refine Zc ?_
 intro A ρ hA hρ n6 o5;obtain⟨f42,_⟩:=hf;have h42:ρ (.tmp 42)=_:=(Y0 hρ _).trans ((Ze hA 42 rfl).trans f42);simp[Zh,go_sem,n6,↓IntWalk.iteOmega,Ext.refl,h42];rfl):p:=h
def M6(h:p:=by rw[IntKind.wrap_i64];omega):=h
def KJ(h:p:=by obtain⟨h1,h2⟩:=N1.1 Dw;rw[F5 h1,h2]):=h
def LY(h:p:=by rw[Zr,Ua,Ea.Wo,NV,P4,Ea.Wp,UV];rfl):=h
def sT(h:p:=by clear HD ho;dsimp only[Option.isSome];go_wp2_with fail;refine J2 (Zj results15 rfl (Zf (Zm g7) ((Ext.refl _).alloc _)) rfl) rfl ?_;rw[HF.out];exact⟨rfl,(Z9 Rl.out (J0 _) _ _ _).alloc _⟩):=h
def PL(h:p:=by exact⟨0,0,R0 _,rfl,rfl,by omega,by omega,B0 rfl⟩):=h
def NN(h:p:=by exact⟨0,R0 _,rfl,(YX w _ _ _).congr (λi _=>by simp),Xe⟩):=h
def NC(h:p:=by
 have h:c<48:=by assumption
 go_ret;exact⟨Zn (by simp[Cd.isDig];omega),rfl⟩):p:=h
def V8(h:p:=by rw[G0 h2,G0 C0]):=h
def NB(h:p:=by
 have h:48<=c:=by assumption
 go_ret;exact⟨Zn (by simp[Cd.isDig,h]),rfl⟩):p:=h
def mQ(h:p:=by
 intro V w' hx hf;with_reducible refine Zc ?_
 intro A ρ hA hρ n6 o5;obtain⟨f45,_⟩:=hf;have h45:ρ (.tmp 45)=_:=(Y0 hρ _).trans ((Ze hA 45 rfl).trans f45);simp[Zh,go_sem,n6,Ext.refl,h45,Gj,IC];rfl):p:=h
def mH(h:p:=by
 intro V w' hx hf;with_reducible refine Zc ?_
 intro A ρ hA hρ n6 o5;obtain⟨f29,_⟩:=hf;have h29:ρ (.tmp 29)=_:=(Y0 hρ _).trans ((Ze hA 29 rfl).trans f29);simp[Zh,go_sem,n6,Ext.refl,h29,Yv,hw6];rfl):p:=h
def mC(h:p:=by
 intro V w' hx hf;with_reducible refine Zc ?_
 intro A ρ hA hρ n6 o5;obtain⟨f24,_⟩:=hf;have h24:ρ (.tmp 24)=_:=(Y0 hρ _).trans ((Ze hA 24 rfl).trans f24);simp[Zh,go_sem,n6,Ext.refl,h24,Hv,Ek];rfl):p:=h
def dR(h:p:=by
 go_wp2_with fail;go_roundw;case rel=>exact⟨j+1,some (yv,yi,yt),by omega,rfl,by go_num,B0 Rh.out.symm,B0 (Zm g7),B0 (((HGA.out.setRow 0 _).setRow 1 _).setRow 2 _)⟩
 case measure=>exact Qr):p:=h
def oM(h:p:=by
 have d1:decide (0<=y)=false:=X0;clear h HE;go_enter func128,ntmps128;go_wp2_with fail;refine(HP.out _).mono ?_;rintro e w1 ⟨rfl,rfl⟩;go_wp2;go_ret2;exact⟨.slice none 0 0,rfl,SlN.nil _ _,Ext.refl _⟩):p:=h
def vD(h:p:=by
 go_wp2_with fail;go_roundw;case rel=>exact⟨i+1,by omega,by go_num,HS3⟩
 case measure=>exact Qr):p:=h
def I6(h:p:=by simpa using this):=h
def FG(h:p:=by
 congr 3;by_cases h:l.length%2=0;·rw[G0 h,D0 C0]
 .rw[D0 h,G0 C0,Bool.not_not]):p:=h
def mR(h:p:=by
 intro V w' hx hf;with_reducible refine Zc ?_
 intro A ρ hA hρ n6 o5;obtain⟨f46,_⟩:=hf;have h46:ρ (.tmp 46)=_:=(Y0 hρ _).trans ((Ze hA 46 rfl).trans f46);simp[Zh,go_sem,Ext.refl,h46,Mj];rfl):p:=h
def mI(h:p:=by
 intro V w' hx hf;with_reducible refine Zc ?_
 intro A ρ hA hρ n6 o5;obtain⟨f30,_⟩:=hf;have h30:ρ (.tmp 30)=_:=(Y0 hρ _).trans ((Ze hA 30 rfl).trans f30);simp[Zh,go_sem,Ext.refl,h30,hw4];rfl):p:=h
def mD(h:p:=by
 intro V w' hx hf;with_reducible refine Zc ?_
 intro A ρ hA hρ n6 o5;obtain⟨f25,_⟩:=hf;have Xu:ρ (.tmp 25)=_:=(Y0 hρ _).trans ((Ze hA 25 rfl).trans f25);simp[Zh,go_sem,Ext.refl,Xu,Td];rfl):p:=h
def MW(h:p:=by rw[Bool.and_eq_false_iff,PJ,PJ];omega):=h
def jQ(h:p:=by go_enter func172,ntmps172;go_wp2_with fail;refine(HO.out _).mono ?_;rintro e w1 ⟨rfl,rfl⟩;go_wp2_with fail;refine(HC.out _).mono ?_;rintro e w2 ⟨rfl,j0⟩;go_wp2;go_ret2;exact⟨by rw[HT.out];rfl,j0⟩):=h
def sI(h:p:=by have Ra:=B0 (λw=>Zkv d h6.out (GL IL.out) w);rw[Sj]at Ra;clear Sj;go_wp2_with fail;refine(Ra.out _).mono ?_;rintro e w2 ⟨rfl,j0⟩;go_wp2;go_ret;exact⟨Zo Rj.out.symm,n8.trans j0⟩):=h
def nC(h:p:=by exact tX):=h
def QcL(h:p:=by exact D5.bad _ _ _ (Ext.refl _)):=h
def OQ(h:p:=by exact⟨by omega,by omega,by constructor<;>intro<;>omega⟩):=h
def JU(h:p:=by exact(Dz.ext (j9.trans (j5.trans (o9.trans Ax)))).mono (R0 _)):=h
def MB(h:p:=by exact⟨0,R0 _,rfl,B0 (Own.nil _ _ _),B0 (Ext.refl _)⟩):=h
def P8(h:p:=by injection h with _ h;cases h):=h
def MX(h:p:=by go_wp2;go_ret;exact⟨Zn HR.out.symm,Xf⟩):=h
def L2(h:p:=by decide+kernel):=h
def fC(h:p:=by refine(Ae.out _ (Dw.alloc _)).mono ?_;rintro e w4 ⟨rfl,j9⟩;go_wp2;go_ret2;have hr:=HR.out;simp only[Y2]at hr;obtain⟨rfl,rfl⟩:=hr;exact ElsR.err _ (Fa.trans ((Dw.alloc _).trans j9))):=h
def tB(h:p:=by go_enter func3,ntmps3;go_wp2_with fail;refine(Ol.out _ (Z4 HT.out ((Ext.refl w).alloc _))).mono ?_;rintro e w1 ⟨rfl,b7⟩;go_wp2;go_ret;exact⟨rfl,((Ext.refl w).alloc _).trans b7⟩):=h
def dK(h:p:=by go_enter func138,ntmps138;go_wp2_with fail;refine(HA.out _).mono ?_;rintro e w1 ⟨rfl,rfl⟩;go_wp2_with fail;go_quiet (fail);go_wp2;go_ret;exact⟨by rw[<-HX.out];rfl,(Ext.refl w).drewN _⟩):=h
def uC(h:p:=by clear hoo;go_wp2_with fail;refine Lp.out.mono ?_;rintro en w5 ⟨rfl,rfl⟩;go_wp2_with fail;refine IE.out.mono ?_;rintro en w5 ⟨rfl,rfl⟩;go_wp2;go_ret2;exact⟨by rw[HT.out];rfl,n9.trans o7⟩):=h
def qH(h:p:=by exact⟨least_val n99 n100 nd (.inr (.inl ⟨rfl,aAM.1 hg⟩)) P3,.inr (.inl rfl)⟩):=h
def QcX(h:p:=by
 rw[J1,D7 G8];by_cases h:j%2=0;·rw[G0 h];exact(I1.2 C0).symm
 .rw[D0 h];exact(O0.2 C0).symm):p:=h
def gD(h:p:=by
 clear k9 IQ HWJ hiw;generalize ws.getD j 0=x at*;go_wp2;go_roundw;case rel=>exact⟨j+1,by omega,by go_num,by rw[Tu.out],by rw[Dc.out],p6.out,HX.out _⟩
 case measure=>exact QH):p:=h
def zN(h:p:=by exact ElsR.err _ (Ext.refl _)):=h
def OH(h:p:=by exact⟨0,R0 _,rfl,Own.nil _ _ _,Ext.refl _⟩):=h
def iY(h:p:=by have hO:=HO.out;rw[S1 (by rw[Ly.out];exact J0 _)]at hO;have HK:=B0 hO;have Bj:=HX.out;clear hO HO hi hlt;go_wp2;go_ret2;exact BJ):=h
def BE(h:p:=by have h2:=HT.out;rw[S1 P7]at h2;rw[h2,Ke.out]):=h
def FO(h:p:=by
 rcases h with⟨rfl,a,c,rfl⟩|⟨b,off,cap,rfl,_⟩;·exact⟨a,c,rfl⟩
 .exact⟨_,_,rfl⟩):p:=h
def rK(h:p:=by
 go_wp2_with fail;go_roundw;case rel=>exact⟨j+1,by omega,by go_num,B0 (by rw[Iv.out];exact Jh.out.up (by have:=Kr.out;omega)),HGA⟩
 case measure=>exact Qr):p:=h
def AK(h:p:=by
 go_round;case rel=>exact⟨j+1,by omega,by go_num⟩
 case measure=>exact Qr):p:=h
def eF(h:p:=by
 unfold Tw.read at h'⊢;split;·rename_i i hi;rw[hi]at h';have:=MY hi;simp only at h';simp[h']at this
 .simp only[M0,R6];omega):p:=h
def xL(h:p:=by exact RdR.none (Z9 n8 (R3 _) _ _ _)):=h
def PF(h:p:=by go_wp2;go_ret;exact⟨Zo HR.out.symm,HX.out⟩):=h
def GE(h:p:=by exact⟨0,R0 _,rfl,by rw[T8,V7];rfl⟩):=h
def JV(h:p:=by exact(Ej.ext (j5.trans (o9.trans Ax))).mono (R0 _)):=h
def Qdb(h:p:=by exact⟨j+1,t+x,by omega,by go_num,rfl,by omega,by omega,Ad⟩):=h
def aZ(h:p:=by have h3:=V0 (λl=>l[i]?) ht;rw[YY,G0 (by rw[M0,G6];exact hi),B3,P0 hi]at h3;exact h3):=h
def qG(h:p:=by exact⟨least_val n99 n100 nd (.inl ⟨rfl,g99.1 hg⟩) P3,.inl rfl⟩):=h
def vJ(h:p:=by
 rcases E3.1 hm with hm|hm;·simp only[E2,J4,F4]at hm;rcases hm with rfl|rfl|rfl<;>simp
 .exact SU):p:=h
def GT(h:p:=by rw[R2];exact l6):=h
def nK(h:p:=by exact⟨0,R0 _,rfl,by simpa using(YX (w.alloc (.cells #[.string ⟨#[]⟩,.string ⟨#[]⟩] 86)) (.int .u8 0) m 5).congr (λi _=>by simp),Xe⟩):=h
def VW(h:p:=by first|omega|(simp;omega)):=h
def eW(h:p:=by
 obtain rfl:k=N:=by omega
 have Ae:Hid (res=0):=B0 (by rw[hv.out,<-HN.out,C6];rfl);clear hk hlt hv;go_wp2;go_ret;exact⟨Zo Ae.out.symm,hx⟩):p:=h
def MO(h:p:=by go_wp2;go_ret;exact⟨Zo HR.out.symm,rfl⟩):=h
def eS(h:p:=by
 have hb:b<w.heap.size:=by rcases H5 b w.heap.size with hh|hh;(·exact hh);·rw[TC hh]at h;simp at h
 rw[hx.block b hb];exact h):p:=h
def CP(h:p:=by go_wp2;go_ret;exact⟨Zo HR.out.symm,HX.out.trans j0⟩):=h
def D1(h:p:=by kernel_rfl):=h
def sZ(h:p:=by go_wp2_with fail;refine J2 (vA results26 rfl (Zm f7) rfl rfl) rfl ?_;rw[HF.out];exact⟨rfl,Z9 HXR.out (J0 _) _ _ _⟩):=h
def fS(h:p:=by have h:=HA.out;rw[S1 (by rw[HNL.out];exact J0 _)]at h;rw[WM];intro b hb h2;have:=h b hb;have:=D4 h2;omega):=h
def KG(h:p:=by rename_i h1;simp only[Y2]at h;exact absurd h.2 h1):=h
def aT(h:p:=by have HE:Hid ((j:Int)=((Ea.Ac m:Nat):Int)):=B0 (by have:=Aj.out;simp only[Ea.ldg,M3]at this;omega);go_wp2;go_ret2;exact⟨by rw[HL.out,HE.out];rfl,rfl⟩):=h
def WQ(h:p:=by exact⟨0,R0 _,rfl,rfl⟩):=h
def A7(h:p:=by exact⟨rfl,Xf⟩):=h
def OF(h:p:=by go_wp2_with fail;go_meet;case rel=>exact HM):=h
def TE(h:p:=by rw[F1,IY];rfl):=h
def nV(h:p:=by go_wp2_with fail;refine J2 (Zj results35 rfl (Zm f7) rfl) rfl ?_;rw[HF.out];exact xK):=h
def vX(h:p:=by
 obtain⟨h1,h2⟩:=h;refine⟨h1,?_⟩;rcases h2 with h2|⟨g,cap,cur,h3,h4,h5⟩;·exact .inl h2
 .exact .inr ⟨g,cap,cur,h3,F3 hB h4,h5⟩):p:=h
def sD(h:p:=by go_enter func207,ntmps207;go_wp2_with fail;refine HD.out.mono ?_;rintro e w' ⟨rfl,rfl⟩;go_wp2;go_ret;exact⟨Zn (by simp[HR.out]),rfl⟩):=h
def uK(h:p:=by exact F3 (EI _ (λx hx=>by rw[I5]at hx;obtain⟨c,_,rfl⟩:=hx;exact EW _ _ _ _ C0)) J5):=h
def kH(h:p:=by
 have HS:=B0 s5;clear s5;go_wp2;go_round;case rel=>exact⟨k+1,by omega,by go_num,by rw[HS.out];simp[Cd.dg]⟩
 case measure=>exact QH):p:=h
def AO(h:p:=by have:=V0 List.length e;rw[S0,B1]at this;omega):=h
def jH(h:p:=by
 obtain rfl:j=n:=by omega
 have HR:=B0 (Gd.out HB.out);have Cv:=Zp b8.sl;clear hj hlt;go_wp2;go_ret2;exact⟨by rw[HR.out];rfl,j3⟩):p:=h
def sE(h:p:=by go_enter func209,ntmps209;go_wp2_with fail;refine(H2.out _).mono ?_;rintro e w1 ⟨rfl,b7⟩;go_wp2;go_ret;exact⟨Zn HR.out.symm,b7⟩):=h
def VJ(h:p:=by rw[XL];omega):=h
def gO(h:p:=by
 clear hc HR;go_wp2;go_roundw;case rel=>exact .inr ⟨k+1,cap,by omega,by omega,by go_num,rfl,p6.out,HX.out _⟩
 case measure=>exact QH):p:=h
def dQ(h:p:=by
 go_wp2_with fail;go_roundw;case rel=>exact⟨j+1,ob,by omega,rfl,by go_num,B0 Rh.out.symm,HBA,HGA⟩
 case measure=>exact Qr):p:=h
def bU(h:p:=by rintro e w1 ⟨rfl,rfl⟩;go_wp2_with fail;refine(Iu.out _).mono ?_;rintro e w2 ⟨rfl,j0⟩;go_wp2;go_ret2;exact⟨by rw[HX.out,HBS.out];rfl,j0⟩):=h
def oY(h:p:=by go_enter func197,ntmps197;go_wp2_with fail;refine HC.out.mono ?_;rintro e w1 ⟨rfl,rfl⟩;go_wp2;go_ret2;exact⟨by rw[HA.out];rfl,rfl⟩):=h
def VD(h:p:=by rw[Zd hs,Ea.Lk]):=h
def kT(h:p:=by go_enter func52,ntmps52;go_wp2_with fail;refine HF.out.mono ?_;rintro e w1 ⟨rfl,b7⟩;go_wp2;go_ret2;exact⟨by rw[HV.out];rfl,b7⟩):=h
def tA(h:p:=by
 go_wp2_with fail;go_quiet (fail);go_wp2;go_roundw;case rel=>exact⟨k+1,by omega,by go_num,j3.drewN _⟩
 case measure=>exact QH):p:=h
def iH(h:p:=by
 unfold Fy at h3;rw[D0 h6,hp]at h3;have h3:l5 cs i 2=Pa:=h3;have hf:3000000<=Pa:=OX;omega):p:=h
def gN(h:p:=by
 clear hc HR;go_wp2;go_roundw;case rel=>exact .inr ⟨1,cap,by omega,by omega,rfl,rfl,p6.out,HX.out _⟩
 case measure=>exact QH):p:=h
def OX(h:p:=by unfold Pa;exact Nat.le_of_ble_eq_true rfl):=h
def LU(h:p:=by rw[<-hx,Int.tmod_eq_emod_of_nonneg C0];omega):=h
def sH(h:p:=by rw[Aq]at HCK;clear Aq;go_wp2_with fail;refine(HCK.out _).mono ?_;rintro e w2 ⟨rfl,rfl⟩;go_wp2;go_ret;exact⟨Zo Rj.out.symm,n8⟩):=h
def bV(h:p:=by rintro e w1 ⟨rfl,rfl⟩;go_wp2_with fail;refine(Iu.out _).mono ?_;rintro e w2 ⟨rfl,j0⟩;go_wp2;go_ret2;exact⟨by rw[HX.out];rfl,j0⟩):=h
def BB(h:p:=by clear h;go_wp2;go_quiet (fail);go_wp2;go_ret;exact⟨HF.out _ HG.out,Xf⟩):=h
def gZ(h:p:=by rintro e w1 ⟨rfl,rfl⟩;go_wp2;go_ret;rw[Uw.out];exact⟨_,rfl,(Kc.out.1.mono (R3 _)).congr (A3 _).symm,HEX.out⟩):=h
def JW(h:p:=by exact(Cy.ext (o9.trans Ax)).mono (R0 _)):=h
def JP(h:p:=by exact(Dz.ext (j9.trans j5)).mono (R0 _)):=h
def fN(h:p:=by rintro e w3 ⟨u3,rfl,Fw,j4⟩;go_wp2;go_ret2;rw[HX.out];exact⟨_,rfl,Fw,((((Ext.refl w).alloc _).trans b7).trans j0).trans j4⟩):=h
def uW(h:p:=by have hy:=h y (C2 ..);simp only[N3];refine ih (λx hx=>h x (Y1 _ hx)) _ ?_;exact Y7):=h
def LL(h:p:=by rw[S0,Y9];omega):=h
def eM(h:p:=by
 rw[Cf,Tc];intro x hx;rcases E3.1 hx with hx|hx;·have:=Vp x hx;omega
 .rw[D3]at hx;omega):p:=h
def kM(h:p:=by
 rintro e w' ⟨rfl,rfl⟩;go_wp2;go_round;case rel=>exact⟨n+1,by omega,HN.out,by go_num⟩
 case measure=>exact QH):p:=h
def fO(h:p:=by rintro e w2 ⟨u2,rfl,ID,j0⟩;go_wp2;go_ret2;rw[HX.out];exact⟨_,rfl,SlK.nil _,(((Ext.refl w).alloc _).trans b7).trans j0⟩):=h
def SQ(h:p:=by simp[Tw.isIn];omega):=h
def eK(h:p:=by go_wp2_with fail;refine Im.out.mono ?_;rintro e w1 ⟨u,rfl,hu,b7⟩;go_wp2;go_ret2;rw[HF.out];exact⟨_,rfl,SlK.nil _,b7⟩):=h
def dO(h:p:=by go_wp2;refine J2 (Zj results78 rfl (X2 _ _) rfl) rfl ?_;exact⟨by rw[<-HX.out];rfl,Xf⟩):=h
def vH(h:p:=by rw[List.find?_eq_some_iff_getElem];refine⟨by simpa using h,j,by simpa using hj,by simp,λi hi=> ?_⟩;simpa using hb i hi):=h
def GK(h:p:=by rename_i g;rw[G0 g]at h;simp at h):=h
def aW(h:p:=by exact⟨i,i+1,pre++[x],rfl,by go_num,by omega,by omega,aEE,Aj,by first|exact Dc|exact B0 (.inr rfl),HJ3,Hy,aDA⟩):=h
def eO(h:p:=by
 go_wp2_with fail;go_roundw;case rel=>exact⟨j+1,by omega,by go_num,s6,p7⟩
 case measure=>exact Qr):p:=h
def DC(h:p:=by exact⟨0,R0 _,rfl,B0 (λx hx=>by simp at hx)⟩):=h
def EH(h:p:=by exact⟨0,R0 _,rfl,B0 (λc hc=>by simp at hc)⟩):=h
def B8(h:p:=by unfold maxLen;omega):=h
def dI(h:p:=by go_wp2;refine J2 (Zj results214 rfl (Zm HB) rfl) rfl ?_;exact⟨by rw[HG.out];rfl,Xf⟩):=h
def dF(h:p:=by go_wp2;refine J2 (Zj results212 rfl (Zm HB) rfl) rfl ?_;exact⟨by rw[HG.out];rfl,Xf⟩):=h
def fP(h:p:=by rintro e w1 ⟨u,rfl,hu,b7⟩;go_wp2;go_ret2;rw[HX.out];exact⟨_,rfl,SlK.nil _,((Ext.refl w).alloc _).trans b7⟩):=h
def DZ(h:p:=by go_wp2_with fail;go_ret2;rw[HF.out];exact D5.bad _ _ _ Bj):=h
def oU(h:p:=by go_wp2_with fail;refine HC.out.mono ?_;rintro e w1 ⟨rfl,rfl⟩;go_wp2;go_ret2;exact⟨by rw[En.out];rfl,rfl⟩):=h
def kJ(h:p:=by
 go_wp2;go_round;case rel=>exact⟨k+1,by omega,by go_num,by rw[HS.out]⟩
 case measure=>exact QH):p:=h
def SU(h:p:=by exact key _ _ _ hm C0):=h
def xW(h:p:=by exact XP (hk:=by rw[h7];exact⟨Ext.refl _,rfl⟩)):=h
def qY(h:p:=by exact⟨0,0,bst,R0 _,rfl,rfl,rfl,B0 rfl,Cj⟩):=h
def DE(h:p:=by subst h1;rw[G0 rfl,G0 (show k<k+1 by omega),Ds];rfl):=h
def zZ(h:p:=by exact⟨s.size,J0 _,rfl,by rw[Y3];rfl⟩):=h
def ER(h:p:=by rw[j3.cell (p:=⟨w.heap.size,0,none⟩) Ml];exact F0.out):=h
def iT(h:p:=by have h9:=V0 List.length aBY.out;rw[S0,Bt.out,<-HL.out]at h9;simp[PY];try omega):=h
def sP(h:p:=by go_wp2;go_ret2;exact⟨_,by rw[HX.out];rfl,by rw[HX.out];exact SlK.nil _,((Ext.refl w).alloc _).trans b7⟩):=h
def eN(h:p:=by
 by_cases h6:xn=106;·subst h6;decide
 .rw[(Cs.pat_ok (v:=(xn:Int)) C0 C0).1];omega):p:=h
def BX(h:p:=by rw[D0 hg,D0 hg,G0 (show(8:Int)≠0 by decide)]):=h
def nB(h:p:=by
 go_wp2;go_round;case rel=>exact⟨j+1,by omega,by go_num,Ch⟩
 case measure=>exact Qr):p:=h
def jD(h:p:=by go_wp2_with fail;refine HJ.out.mono ?_;rintro e w1 ⟨rfl,b7⟩;go_wp2;go_ret;exact⟨rfl,j3.trans b7⟩):=h
def AV(h:p:=by simp only[P1,G2]at Dd;omega):=h
def DW(h:p:=by rw[hz]at e;injection e with e;subst e;exact Hp.aER _):=h
def jM(h:p:=by obtain⟨n,hn⟩:=C4 Mj;have:=YT _ _ _ hn;have h4:Tw.Bb.length=20:=rfl;omega):=h
def jG(h:p:=by exact⟨0,R0 _,rfl,Own.nil _ _ _,B0 (λm hm=>absurd hm (U4 _)),Ext.refl _⟩):=h
def U7(h:p:=by simp at hi;omega):=h
def qF(h:p:=by unfold Any;rw[D0 C0,D0 C0];omega):=h
def AH(h:p:=by rw[hr]at this;injection this with h1 h2;exact⟨h1,h2⟩):=h
def kD(h:p:=by
 rcases H5 i xs.length with h|h;·exact h
 .rw[Y6 h]at hi;simp at hi):p:=h
def sL(h:p:=by go_wp2_with fail;refine(Tq.out _).mono ?_;rintro e w' ⟨rfl,rfl⟩;go_wp2;go_ret2;exact ElsR.err _ hx):=h
def oJ(h:p:=by unfold ZY;rw[M0,J1,X1,show fives.length=50 from rfl];omega):=h
def lL(h:p:=by
 rcases h with h|h;·rw[BigFrame.run_move x h];exact hk
 .rw[BigFrame.run_assign x h];exact hk):p:=h
def zR(h:p:=by
 split;·exact TW
 .exact R0 _):p:=h
def GG(h:p:=by rename_i g;rw[G0 g]at he;simp at he):=h
def JX(h:p:=by exact(Mo.ext Ax).mono (R0 _)):=h
def JQ(h:p:=by exact(Ej.ext j5).mono (R0 _)):=h
def dW(h:p:=by
 rcases ih.2 with e|⟨r,e⟩;·left;rw[e]
 .right;exact⟨r,by rw[C3,<-e]⟩):p:=h
def LN(h:p:=by rw[<-Za,Pd,M0,Gk]):=h
def xI(h:p:=by first|(have:=Xi.out;simp;omega)|(have:=Xi.out;omega)):=h
def jL(h:p:=by rintro e w1 ⟨rfl,rfl⟩;go_wp2;go_ret2;exact⟨by rw[HT.out];exact WU rfl rfl,Ext.refl _⟩):=h
def gC(h:p:=by go_wp2;go_ret2;exact⟨.slice none 0 0,by rw[HT.out];rfl,by rw[HT.out];exact U9 _,Ext.refl _⟩):=h
def LM(h:p:=by exact⟨0,R0 _,rfl,Ib,Gw⟩):=h
def FE(h:p:=by rw[hn j h1 h2,C6];simp[tabs,tab0,least]):=h
def FB(h:p:=by rw[n2 _ _ (.inr C0),n1 _ _ (.inr C0)]):=h
def eR(h:p:=by exact F3 (FR 32 (show xs.length+1<=1000000000 by omega)) I0):=h
def gT(h:p:=by have s6:=B0 l6;clear l6 j6;go_wp2;go_ret;rw[HM.out];exact⟨_,rfl,s6.out,p7.out⟩):=h
def eQ(h:p:=by intro u' hu;simp only[E2,J4,F4]at hu;rcases hu with rfl|rfl<;>rfl):=h
def cI(h:p:=by rw[I2,Bool.eq_false_iff];intro h;exact a3 ((C8 a).1 (vG.1 h))):=h
def xD(h:p:=by first|exact Ai|(rw[R2];exact Ai)):=h
def rE(h:p:=by obtain⟨x,h1,h2,h3⟩:=key j m' w' hm hw;unfold Cn at h1;split at h1<;>simp at h1<;>omega):=h
def VY(h:p:=by rw[G0 h1]at h;cases h):=h
def qJ(h:p:=by dsimp only[Option.getD_some];split<;>split<;>omega):=h
def fF(h:p:=by exact⟨0,[256],R0 _,rfl,by simp,Own.one _ V _ _ (J0 _),B0 rfl,Xe⟩):=h
def CI(h:p:=by go_wp2;go_ret;exact⟨Zn HR.out.symm,rfl⟩):=h
def DD(h:p:=by go_wp2;go_ret;exact⟨Zn HN.out.symm,rfl⟩):=h
def JN(h:p:=by rw[show(a.size:Int)=0 by omega];rfl):=h
def vL(h:p:=by rw[F5 h,F1,P0 h];rfl):=h
def YC(h:p:=by have:=HQ.out;omega):=h
def LO(h:p:=by rw[UInt8.toNat_ofNat'];omega):=h
def T9(h:p:=by have:=HN.out;omega):=h
def lX(h:p:=by exact⟨0,R0 _,rfl,(YX w1 _ _ _).congr (λi _=>by simp),Xe⟩):=h
def DL(h:p:=by go_wp2_with fail;go_meet;case rel=>exact Kc):=h
def uP(h:p:=by exact⟨0,R0 _,rfl,(YX w3 _ _ _).congr (λi _=>by simp),Xe⟩):=h
def vQ(h:p:=by rw[Ar,<-hrd,V1,<-OY,G7];exact hs):=h
def TW(h:p:=by exact J0 _):=h
def lE(h:p:=by rw[S1 P7]at h2;rw[h2,HS.out]):=h
def aG(h:p:=by rw[HS.out]at h1;unfold Ea.mS at h1;rw[B3,hb]at h1;simpa using h1.symm):=h
def uS(h:p:=by subst h1;rw[G0 rfl,G0 (show k<k+1 by omega),UR E k hlt,D0 Kw];rfl):=h
def uQ(h:p:=by subst h1;rw[G0 rfl,G0 (show k<k+1 by omega),UR E k hlt,G0 Kw];rfl):=h
def RU(h:p:=by rw[h1,h2]at this;exact this):=h
def oT(h:p:=by go_enter func247,ntmps247;go_wp2;go_ret2;exact⟨by rw[HV.out];rfl,rfl⟩):=h
def lP(h:p:=by rw[WT];exact⟨s[k],Zl s k h,by rw[hp];exact Bool.noConfusion⟩):=h
def cP(h:p:=by rw[show(48+(d:Int))=((48+d:Nat):Int) by omega];exact LW (48+d) C0):=h
def pQ(h:p:=by rw[S0,yK,show([1,1,1,1]:List Int).length=4 from rfl];omega):=h
def pG(h:p:=by rw[WV,XU,M1];intro c hc;simpa using HB.out c hc):=h
def bX(h:p:=by rw[Zr];exact S1 TP):=h
def qR(h:p:=by exact⟨0,0,R0 _,rfl,rfl,Na,Ba⟩):=h
def dY(h:p:=by simp only[Gs.parseF,Y2,W5]at h;exact⟨[],by simp[h],rfl,rfl⟩):=h
def iC(h:p:=by dsimp only;rw[ih k' C0 f' i 0 C0 C0 Ng C0];rfl):=h
def iA(h:p:=by dsimp only;rw[ih k' C0 f' i 1 C0 C0 Ng C0];rfl):=h
def hH(h:p:=by dsimp only;rw[ih k' C0 f' i 2 C0 C0 Ng C0];rfl):=h
def bA(h:p:=by
 rcases h.2 with⟨h1,_⟩|⟨g',cap,cur,h1,_⟩;·cases h1
 .injection h1):p:=h
def jB(h:p:=by
 unfold Tw.pat Tw.cutAt;split;·simp
 .simp only[J1];omega):p:=h
def FI(h:p:=by rw[J1,X1];omega):=h
def L3(h:p:=by exact this):=h
def KA(h:p:=by exact⟨by rw[HS.out];rfl,Xf⟩):=h
def pH(h:p:=by cases check;all_goals go_wp2;go_ret;exact⟨Zo HE.out.symm,rfl⟩):=h
def xX(h:p:=by rw[M0,J1];omega):=h
def BV(h:p:=by rw[<-hJ,Zr,hs,Ea.Wo,Ea.Wp]):=h
def SZ(h:p:=by rw[G0 h2]at h;cases h):=h
def kG(h:p:=by exact⟨j,by omega,by go_num,by rw[HS.out];simp[Cd.dg],by rw[HS.out];rfl⟩):=h
def kE(h:p:=by exact⟨s.size,J0 _,rfl,by rw[V7];rfl,by rw[V7];rfl⟩):=h
def vK(h:p:=by show List.foldl _ _ ([_,_,_]++one _ _)=_;rw[WI,aAx];rfl):=h
def eA(h:p:=by
 have:(UInt8.ofNat c.toNat).toNat=c.toNat:=X0;rw[this];omega):p:=h
def dG(h:p:=by exact⟨by rw[HG.out];unfold symV linV;dsimp only;rw[<-Ke.out];rfl,Xf⟩):=h
def MZ(h:p:=by exact D8.2 h0):=h
def cQ(h:p:=by rw[Zd Ua,Ea.Lk,J1,X1,hW];rfl):=h
def oG(h:p:=by clear hk hlt;go_wp2;go_ret;exact⟨_,rfl,by rw[HT.out];exact b8,j3⟩):=h
def BP(h:p:=by rcases Ah with rfl|rfl|rfl|rfl<;>decide):=h
def PC(h:p:=by exact X2 _ _):=h
def dL(h:p:=by
 have h':i=0\/i=1\/i=2:=by omega
 rcases h' with rfl|rfl|rfl<;>decide):p:=h
def QfL(h:p:=by rw[HB.out];unfold Cs.IM;rw[D0 RY];rfl):=h
def FF(h:p:=by rw[D0 C0,D0 C0]):=h
def vI(h:p:=by rw[List.find?_eq_none];intro i hi;simpa using hb i OK):=h
def dD(h:p:=by rw[G0 hg,G0 hg,D0 L0,D0 (λh=>by cases h.1)]):=h
def jU(h:p:=by simp only[S0,B1,I3];omega):=h
def jO(h:p:=by go_wp2;go_ret;exact⟨by rw[HT.out];exact UO rfl,Ext.refl _⟩):=h
def cH(h:p:=by rw[Ea.aAt Ku PP,Za];exact aBj):=h
def uD(h:p:=by clear p9;go_wp2;go_ret2;exact⟨by rw[HT.out];rfl,n9.trans j3⟩):=h
def rC(h:p:=by simp[Lit.wf];have:IntKind.i64.min= -9223372036854775808:=rfl;omega):=h
def EP(h:p:=by rw[show 2*(j+1)=2*j+1+1 by omega];rfl):=h
def pL(h:p:=by
 cases hh:Tw.only l Tw.IH;·rw[hh]at he;simp at he
 .rfl):p:=h
def bE(h:p:=by rw[<-hX];exact(Cc.aHK _ N0 lo hi).trans Ts.out):=h
def aY(h:p:=by rw[G6,PN];exact toList_madeCells_one _ _):=h
def fJ(h:p:=by go_wp2;go_ret2;rw[HR.out];exact⟨_,rfl,b8.IW,n8.trans hx⟩):=h
def qE(h:p:=by rw[<-Za,HB.out.2];exact Cf.2):=h
def qD(h:p:=by rw[<-Za,HB.out.1];exact Cf.1):=h
def aF(h:p:=by go_wp2;go_end0;exact⟨rfl,q',Ee.out,My.out,HP2.out,Rb.out⟩):=h
def kL(h:p:=by exactλh=>hn (Cd.dih_inv_only c n ⟨o8,n7⟩ C0 h)):=h
def Qf3(h:p:=by rw[HB.out,Ts.out];unfold Cs.No;rw[hdx];cases Cs.dig y<;>rfl):=h
def uB(h:p:=by intro h;have:=Zd h;rw[I3]at this;omega):=h
def vW(h:p:=by
 unfold Addr.add;split;·rename_i h;subst h;rfl
 .simp):p:=h
def yL(h:p:=by rw[D0 g]at h;simp at h):=h
def eD(h:p:=by rename_i hv;simp only[Y2]at h;exact absurd h.2.2 hv):=h
def LG(h:p:=by rintro rfl;revert h;decide):=h
def aJ(h:p:=by exact⟨⟨Gx h _,hz5⟩,Gx (Gn h _) _⟩):=h
def aI(h:p:=by subst h1;rw[G0 rfl,G0 C0,HB.out];exact hx.symm):=h
def B9(h:p:=by simpa using h2):=h
def DP(h:p:=by rw[B1];omega):=h
def pS(h:p:=by
 split;·exact GK
 .rfl):p:=h
def pM(h:p:=by
 split;·rfl
 .rename_i g;exact yL):p:=h
def aP(h:p:=by rw[PI];have:(50:UInt8).toNat=50:=rfl;omega):=h
def vP(h:p:=by exact⟨_,F.Mt 0 (J0 _) (R0 _),hle.2.2⟩):=h
def vO(h:p:=by exact⟨_,F.Tk 0 (J0 _) (R0 _),hle.2.1⟩):=h
def nE(h:p:=by exact XP (hk:=by rw[h6];exact⟨Ext.refl _,rfl⟩)):=h
def qI(h:p:=by injection hk with hk;exact hk.symm):=h
def fW(h:p:=by rename_i h5;simp only[Y2]at h;exact absurd h.2 h5):=h
def BU(h:p:=by rw[Zd hs,Ea.Lk,hW]):=h
def eL(h:p:=by rw[Cf,Tc,S0,Y9];omega):=h
def LC(h:p:=by rw[G0 h3]at h;cases h):=h
def MF(h:p:=by unfold Cs.Ab at hy;omega):=h
def vN(h:p:=by exact⟨_,F.Tj 0 (J0 _) (R0 _),hle.1⟩):=h
def fB(h:p:=by rw[<-HKD.out];exact Zi (by rw[Zx,Zu])):=h
def aK(h:p:=by unfold Ea.size;rw[D0 h1,D0 h2,D0 h3,D0 h4]):=h
def EE(h:p:=by rw[J1]at this;omega):=h
def kA(h:p:=by exact .inl ⟨U3 h0,_,_,By⟩):=h
def nN(h:p:=by rw[<-Za,hD,X1];have:=Gm.out.1;omega):=h
def dJ(h:p:=by go_wp2;go_ret2;exact⟨by rw[HG.out];rfl,j3.trans j4⟩):=h
def gQ(h:p:=by rw[hx.block b (V3.1 h).1];exact h):=h
def kV(h:p:=by show _=_;unfold Cd.comp;rw[D0 k7,Za,D0 hl]):=h
def kU(h:p:=by show _=_;unfold Cd.comp;rw[D0 k7,Za,G0 hl]):=h
def kR(h:p:=by clear hq;go_wp2;go_ret;exact⟨Zo HV.out.symm,hXY⟩):=h
def DJ(h:p:=by go_wp2;go_ret;exact⟨rfl,j3⟩):=h
def zD(h:p:=by
 intro V w' hx hf;with_reducible refine Zc ?_
 intro A ρ hA hρ n6 o5;have h1:ρ (.tmp 1)=.string S:=(Y0 hρ _).trans (ZL hA 1 rfl);exact Q6):p:=h
def iW(h:p:=by
 have zd:(vv==dB)=false:=O0.2 hd;have zn:(vv !=dB)=true:=by rw[bne,zd];rfl
 have ze:decide (vv=dB)=false:=G1 hd;have zf:decide (vv≠dB)=true:=C1 hd;exact iX):p:=h
def cJ(h:p:=by clear Mb z25;clear h1 h2 As h3 h5 Ah IU HF;go_enter func64,ntmps64;go_wp2_with fail;refine(HZ.out _).mono ?_;rintro e w1 ⟨rfl,rfl⟩;go_wp2_with fail;refine(HD.out _).mono ?_;rintro e w1 ⟨rfl,rfl⟩;go_wp2_with fail;refine(HN.out _).mono ?_;exact Qj):=h
def cE(h:p:=by clear h1 h2 As h3 h5 Ah IU HF;go_enter func64,ntmps64;go_wp2_with fail;refine(HZ.out _).mono ?_;rintro e w1 ⟨rfl,rfl⟩;go_wp2_with fail;refine(HD.out _).mono ?_;rintro e w1 ⟨rfl,rfl⟩;go_wp2_with fail;refine(HN.out _).mono ?_;exact Q3):=h
def bT(h:p:=by clear h1 h2 Ah h3 As h4 h5;go_enter func17,ntmps17;go_wp2_with fail;refine(HZ.out _).mono ?_;rintro e w1 ⟨rfl,rfl⟩;go_wp2_with fail;refine(HD.out _).mono ?_;rintro e w1 ⟨rfl,rfl⟩;go_wp2_with fail;refine(HN.out _).mono ?_;exact Q8):=h
def gW(h:p:=by
 rw[hdx]at HC;obtain rfl:B=Cs.dig y:=Qf3;clear hdx;generalize Cs.dig y=dy at*;go_wp2_with fail;refine(HC.out _).mono ?_;rintro e w6 ⟨rfl,rfl⟩;go_wp2_with fail;refine(IE.out _).mono ?_;rintro e w6 ⟨rfl,rfl⟩;exact SJ):p:=h
def FA(h:p:=by
 clear hbw7 Bp;go_wp2;go_roundw;case rel=>exact Qbc
 case measure=>exact QH):p:=h
def GX(h:p:=by
 clear hbw7 Bp;go_wp2;go_roundw;case rel=>exact Qa1
 case measure=>exact QH):p:=h
def cW(h:p:=by clear g2 HL HR HM HJ hJ hJs;go_enter func251,ntmps251;go_wp2_with fail;refine(HP.out _).mono ?_;rintro e w1 ⟨rfl,rfl⟩;go_wp2_with fail;refine(HQ.out _).mono ?_;rintro e w1 ⟨rfl,rfl⟩;go_wp2;go_ret3;exact zE):=h
def nP(h:p:=by
 have HR:Hid (res=(([],[]),0,Gs.ver ai d)):=B0 (HS4.out Bs);obtain⟨z1,p8⟩:∃z1,Gs.ver ai d=z1:=⟨_,rfl⟩;rw[p8]at Ae HR Bs;have x9:(z1==0)=false:=by simpa using Bs
 clear Bs HS4 Nw aA5 p8;exact Qf):p:=h
def yO(h:p:=by
 rw[G0 ((C8 s).2 h0)]at HT;have d0:((s.size:Int)==0)=true:=by rw[h0];rfl
 clear h0 Sw;exact QK):p:=h
def cN(h:p:=by clear Mb z25;clear h1 h2 As h3 h5 Ah IU HF h4;go_enter func64,ntmps64;go_wp2_with fail;refine(HZ.out _).mono ?_;rintro e w1 ⟨rfl,rfl⟩;go_wp2_with fail;refine(HD.out _).mono ?_;exact Qj):=h
def K9(h:p:=by clear Jg Gd h4 h5;exact Qh):=h
def zY(h:p:=by
 obtain rfl:j=s.size:=by omega
 rw[Y3,B5]at o8 n7⊢;clear hj hlt;exact Q9):p:=h
def cM(h:p:=by clear h1 h2 As h3 h5 Ah IU HF h4;go_enter func64,ntmps64;go_wp2_with fail;refine(HZ.out _).mono ?_;rintro e w1 ⟨rfl,rfl⟩;go_wp2_with fail;refine(HD.out _).mono ?_;exact Q3):=h
def nD(h:p:=by
 intro V w' hx hf;with_reducible refine Zc ?_
 intro A ρ hA hρ n6 o5;have h0:ρ (.tmp 0)=.slice (some ⟨b,o,none⟩) n c:=(Y0 hρ _).trans (ZL hA 0 rfl);exact Qb4):p:=h
def aA(h:p:=by go_wp2;refine N4 (v:=.tuple #[.agg #[.int .i64 0,.int .i64 0,.int .i64 0,.int .u8 0],.bool false]) CH rfl ⟨by rw[HR.out];rfl,Xf⟩):=h
def gV(h:p:=by
 rw[hdx]at HC;obtain rfl:B=false:=by rw[HB.out,Ts.out];unfold Cs.No;rw[hdx];rfl
 clear hdx;go_wp2_with fail;refine(HC.out _).mono ?_;rintro e w6 ⟨rfl,rfl⟩;exact SJ):p:=h
def oB(h:p:=by
 intro V w' hx hf;with_reducible refine Zc ?_
 intro A' ρ hA hρ n6 o5;have h8:ρ (.tmp 8)=.int .i64 SM:=(Y0 hρ _).trans (ZL hA 8 rfl);exact Qb3):p:=h
def LD(h:p:=by go_enter func108,ntmps108;go_wp2;go_ret2;exact XB):=h
def mF(h:p:=by
 intro V w' hx hf;with_reducible refine Zc ?_
 intro A ρ hA hρ n6 o5;have h1:ρ (.tmp 1)=.string u:=(Y0 hρ _).trans (ZL hA 1 rfl);exact Q6):p:=h
def cX(h:p:=by clear g1 HL HR HM HJ hJ hJs;go_enter func251,ntmps251;go_wp2_with fail;refine(HP.out _).mono ?_;rintro e w1 ⟨rfl,rfl⟩;go_wp2;go_ret3;exact zE):=h
def RA(h:p:=by go_enter func245,ntmps245;exact QaO):=h
def tC(h:p:=by exact⟨by rw[HG.out];unfold gotV linV;dsimp only;rw[HT.out];rfl,((Oz.setCell (J0 _) _).setCell (J0 _) _).setCell (J0 _) _⟩):=h
def cC(h:p:=by go_enter func64,ntmps64;go_wp2_with fail;refine(HZ.out _).mono ?_;rintro e w1 ⟨rfl,rfl⟩;go_wp2_with fail;refine(HD.out _).mono ?_;exact BR):=h
def PG(h:p:=by go_enter func47,ntmps47;exact Q9):=h
def RO(h:p:=by go_wp2;go_ret2;exact XB):=h
def rG(h:p:=by clear hc;go_enter func372,ntmps372;go_wp2_with fail;go_quiet (fail);go_wp2_with fail;go_quiet (fail);go_wp2;go_ret;exact A7):=h
def GJ(h:p:=by have:=pR 1 (C.data.toList.take j);exact tY):=h
def GI(h:p:=by have:=pR 0 (C.data.toList.take j);exact tY):=h
def sQ(h:p:=by go_wp2_with fail;refine J2 (Zj results15 rfl (X2 w _) rfl) rfl ?_;rw[HD.out];exact A7):=h
def nX(h:p:=by go_wp2_with fail;refine J2 (Zj results13 rfl (X2 w _) rfl) rfl ?_;rw[HD.out];exact A7):=h
def WA(h:p:=by have:=j3.size;exact I6):=h
def KN(h:p:=by go_wp2_with fail;go_ret2;rw[HP.out];exact zN):=h
def iR(h:p:=by
 go_wp2_with fail;go_roundw;case rel=>exact⟨3,3,f0,by omega,rfl,by go_num,rfl,Al,Ba⟩
 case measure=>exact Qr):p:=h
def iQ(h:p:=by
 go_wp2_with fail;go_roundw;case rel=>exact⟨2,2,f0,by omega,rfl,by go_num,rfl,Al,Ba⟩
 case measure=>exact Qr):p:=h
def iJ(h:p:=by
 go_wp2_with fail;go_roundw;case rel=>exact⟨1,1,f0,by omega,rfl,by go_num,rfl,Al,Ba⟩
 case measure=>exact Qr):p:=h
def uT(h:p:=by have IK:=B0 (j3.setCell (p:=⟨w3.heap.size,j,none⟩) (J0 _) (.int .i64 1));clear k9 Kw;exact Q1):=h
def tE(h:p:=by go_wp2_with fail;refine(HI.out _).mono ?_;rintro en w4 ⟨rfl,rfl⟩;go_wp2;go_ret2;exact⟨by rw[HR.out];rfl,j4⟩):=h
def nU(h:p:=by go_wp2_with fail;refine J2 (Zj results35 rfl (Zm f7) rfl) rfl ?_;rw[p6.out];exact xL):=h
def nT(h:p:=by go_wp2_with fail;refine J2 (Zj results35 rfl (Zm f7) rfl) rfl ?_;rw[HF.out];exact xL):=h
def pB(h:p:=by go_enter func196,ntmps196;go_wp2_with fail;refine(HP.out _).mono ?_;exact qN):=h
def vS(h:p:=by have HF:Hid (Cs.valOf c 3=none):=B0 vT;exact UC):=h
def JK(h:p:=by go_enter func69,ntmps69;exact QY):=h
def qM(h:p:=by go_enter func272,ntmps272;go_wp2;go_ret;exact tU):=h
def FM(h:p:=by go_enter func244,ntmps244;go_wp2;go_ret;exact tU):=h
def gF(h:p:=by go_enter func72,ntmps72;go_wp2_with fail;refine Ox.out.mono ?_;rintro e w1 ⟨rfl,rfl⟩;exact QX):=h
def tI(h:p:=by
 go_wp2;go_roundw;case rel=>exact⟨j+1,by omega,by go_num,p6.out,IK.out⟩
 case measure=>exact QH):p:=h
def tL(h:p:=by
 go_wp2;go_roundw;case rel=>exact⟨j+1,by omega,by go_num,HR5.out,HX.out⟩
 case measure=>exact QH):p:=h
def yA(h:p:=by subst h0;rw[T8,Zu]at o8 n7⊢;exact Q9):=h
def cL(h:p:=by rintro e w1 ⟨rfl,rfl⟩;go_wp2_with fail;refine(Iu.out _).mono ?_;rintro e w2 ⟨rfl,j0⟩;exact Qbe):=h
def lT(h:p:=by go_enter func189,ntmps189;go_wp2;go_quiet (fail);go_wp2;go_ret;exact⟨HF.out _ Rb.out,Xf⟩):=h
def xK(h:p:=by exact RdR.some (Z9 n8 (R3 _) _ _ _)):=h
def JY(h:p:=by go_wp2;go_ret2;rw[Aj.out];exact QcL):=h
def tD(h:p:=by have HN:=HRN.out h1;clear h1 Bd;generalize Lib.indexByte x6.data.toList c=x at*;exact Qi):=h
def aD(h:p:=by
 go_wp2;go_round;case rel=>exact⟨j+1,by omega,by go_num,HO⟩
 case measure=>exact QH):p:=h
def EB(h:p:=by rintro e w' ⟨rfl,rfl⟩;exact P9):=h
def tV(h:p:=by exact(Gl.out w').mono λe y8 ⟨v,he,ho,hy⟩=>⟨v,he,hy,ho.mono (R0 _)⟩):=h
def mM(h:p:=by exact(Gd.out w').mono λe y8 ⟨v,he,ho,hy⟩=>⟨v,he,hy,ho.mono (R0 _)⟩):=h
def aE(h:p:=by clear HV5;go_wp2_with fail;refine(Ra.out _).mono ?_;rintro e w2 ⟨rfl,j0⟩;exact CP):=h
def jP(h:p:=by go_enter func172,ntmps172;go_wp2_with fail;refine(HO.out _).mono ?_;exact NQ):=h
def xP(h:p:=by have Rb:=B0 (HG.out C0);exact xQ):=h
def gY(h:p:=by
 have aAT:¬(i:Int)+1<(n:Int):=by omega
 obtain rfl:B=false:=QfL;exact SJ):p:=h
def tP(h:p:=by go_wp2;go_ret;exact⟨Zo (by rw[HU.out];omega),((Ext.refl w).alloc _).alloc _⟩):=h
def rN(h:p:=by have HR:=B0 j7;clear j7 h0 hp;go_enter func255,ntmps255;exact MO):=h
def uL(h:p:=by rw[G0 h0]at HT;have IC:s=⟨#[]⟩:=Zi h0;subst IC;clear h0;exact Qz):=h
def tJ(h:p:=by rintro e w1 ⟨rfl,rfl⟩;go_wp2;go_ret2;exact⟨by rw[HX.out];rfl,Ext.refl _⟩):=h
def GS(h:p:=by subst hJ;clear h1 h2 HM;exact Qd):=h
def CV(h:p:=by go_enter func211,ntmps211;exact Q9):=h
def tK(h:p:=by go_wp2;go_ret2;exact⟨_,by rw[HX.out];rfl,by rw[HX.out];exact SlK.nil _,j0⟩):=h
def nA(h:p:=by go_wp2;go_ret2;exact⟨_,by rw[HE.out];rfl,by rw[HE.out];exact SlK.nil _,b7⟩):=h
def tS(h:p:=by intro e;have:=V0 List.length e;rw[Za,I3]at this;omega):=h
def tT(h:p:=by go_wp2_with fail;refine(HD.out _).mono ?_;rintro e w1 ⟨rfl,rfl⟩;exact xB):=h
def CW(h:p:=by go_enter func49,ntmps49;exact Q9):=h
def nZ(h:p:=by
 clear l9;go_wp2;go_round;case rel=>exact Qdb
 case measure=>exact Qr):p:=h
def OI(h:p:=by go_wp2;go_ret2;exact zN):=h
def qK(h:p:=by rw[G0 rfl]at HF;clear hp hs;exact Q5):=h
def BJ(h:p:=by rw[Ak.out];exact⟨_,rfl,HK.out,Bj⟩):=h
def kF(h:p:=by subst hlt;simp only[B5,T8]at o8 n7⊢;exact FV):=h
def tW(h:p:=by go_wp2_with fail;go_ret2;rw[HR.out];exact LP.bad _ _ _ (Ext.refl _)):=h
def qX(h:p:=by rw[D0 Sa]at HB;clear Sa;exact xB):=h
def yP(h:p:=by rw[G0 hl]at HT;clear Sw;exact QK):=h
def mN(h:p:=by exact(Iw.out w').mono λe y8 ⟨he,hy⟩=>⟨_,he,hy,rfl⟩):=h
def yI(h:p:=by rintro e w1 ⟨rfl,rfl⟩;exact TG):=h
def tX(h:p:=by go_wp2;go_ret2;rw[HF.out];exact D5.bad _ _ _ (Ext.refl _)):=h
def tN(h:p:=by exact XP (hk:=by rw[h0];exact⟨Ext.refl _,rfl⟩)):=h
def tM(h:p:=by exact XP (hk:=by rw[h8];exact⟨Ext.refl _,rfl⟩)):=h
def tH(h:p:=by exact XP (hk:=by rw[h1];exact⟨Ext.refl _,rfl⟩)):=h
def Y7(h:p:=by split<;>omega):=h
def vF(h:p:=by exact⟨by rw[HF.out];rfl,rfl⟩):=h
def GV(h:p:=by have:=j5.size;exact I6):=h
def OD(h:p:=by dsimp only;exact R5):=h
def NT(h:p:=by have:=o7.size;exact X0):=h
def iX(h:p:=by clear hd HB Gc Db HA Ay Az;go_wp2_with fail;refine(Nr.out _).mono ?_;exact QO):=h
def qN(h:p:=by rintro e w1 ⟨rfl,rfl⟩;exact Q9):=h
def kN(h:p:=by go_wp2_with fail;refine(FT _ _).mono ?_;exact EB):=h
def C0(h:p:=by omega):=h
def I0(h:p:=by decide):=h
def N0(h:p:=by kernel_rfl):=h
def L0(h:p:=by simp):=h
def X3(h:p:=by rw[<-HN.out];exact hlt):=h
def O3(h:p:=by unfold maxLen;omega):=h
def W4(h:p:=by rw[XL];omega):=h
def P3(h:p:=by dsimp only;omega):=h
def F8(h:p:=by first|exact l6|(rw[R2];exact l6)):=h
def L7(h:p:=by rw[Za];omega):=h
def YF(h:p:=by have h:=Em.out;rw[HV.out]at h;exact h.ext (Ext.refl _).drew):=h
def P7(h:p:=by rw[<-HN.out];exact J0 _):=h
def J3(h:p:=by simp;omega):=h
def J5(h:p:=by rw[M0];omega):=h
def V6(h:p:=by rw[J1];omega):=h
def Y4(h:p:=by simpa using h):=h
def WC(h:p:=by rw[HS.out,SO,SO];rfl):=h
def VX(h:p:=by rw[M2];exact J0 _):=h
def G8(h:p:=by rw[<-HN.out];omega):=h
def tZ(h:p:=by rw[ha];exact Bool.noConfusion):=h
def PO(h:p:=by rw[J1,X1,Za];omega):=h
def OJ(h:p:=by rw[SL,<-HO.out,HOX.out Tn.out.symm,HF.out]):=h
def YO(h:p:=by rw[X1];omega):=h
def TP(h:p:=by rw[X1,Za];omega):=h
def WO(h:p:=by rw[R2];exact h1):=h
def PT(h:p:=by rw[J1,X1,hW];rfl):=h
def VE(h:p:=by rw[Za];exact hlt):=h
def YE(h:p:=by rw[On.out];omega):=h
def X8(h:p:=by decide+kernel):=h
def D9(h:p:=by rw[h3];decide):=h
def XS(h:p:=by simp[Ea.lgt];omega):=h
def WE(h:p:=by rw[OO];omega):=h
def M9(h:p:=by simpa using hm):=h
def WH(h:p:=by rw[Za];exact h):=h
def WF(h:p:=by simpa using hbw7):=h
def BN(h:p:=by rw[<-hR];simp only[RI,B3,hRd];rfl):=h
def PQ(h:p:=by rw[Nv.out];exact J0 _):=h
def RY(h:p:=by rw[<-HN.out];exact Gh):=h
def KH(h:p:=by rw[HN.out];exact J0 _):=h
def zM(h:p:=by unfold encS at p0 p1;simp[results,results142,go_sem,p0,p1]):=h
def TN(h:p:=by unfold Go.maxLen;omega):=h
def EV(h:p:=by intro e;injection e with e1;first|exact h1 e1|exact h1 e1.symm):=h
def YN(h:p:=by simpa using hw):=h
def YU(h:p:=by simpa using h2):=h
def YW(h:p:=by simpa using h1):=h
def bY(h:p:=by apply Zi;simp only[A4,B4,hAl,hBl];rw[Ea.Bw,Cr.out];simp only[Ea.aAX];rfl):=h
def JH(h:p:=by rw[XL];simp;omega):=h
def gH(h:p:=by rw[Z5 l9,Rn.mods_snoc,Ho];have e:(if(ws.take j).length%2=0 then true else !true)=((j:Int)%2==0):=QcX;rw[e];rfl):=h
def TF(h:p:=by rw[HQ.out.len];omega):=h
def cR(h:p:=by rw[I2,c3,K4,I1,G2,show [48,49,48,49,48]=Ea.mS Ea.md from rfl,Ea.aBO]):=h
def SC(h:p:=by rw[HN.out];exact hlt):=h
def JZ(h:p:=by simp only[Mu.out,HD.out];exact j5):=h
def YR(h:p:=by simp[Cd.cmp]):=h
def JI(h:p:=by rw[HE.out];simp[V1]):=h
def zB(h:p:=by rw[Zr];exact Ea.Gx (Ea.Gn hd 1) _):=h
def BQ(h:p:=by rw[A4,B4];rfl):=h
def PP(h:p:=by rw[Za];exact Mb):=h
def PZ(h:p:=by rw[<-HN.out];exact hl):=h
def qQ(h:p:=by first|exact j5|exact(Ext.refl _).drew.trans j5):=h
def XA(h:p:=by rw[hc];rfl):=h
def TS(h:p:=by rw[Gy];exact hi):=h
def XM(h:p:=by rw[e];simp):=h
def aO(h:p:=by rw[<-HR.out];simp only[A4,B4,HN.out,HC.out,Zr,HD.out];rfl):=h
def aS(h:p:=by rw[F5 (by rw[D6];exact hlj),List.getElem_reverse,hb]):=h
def UN(h:p:=by simpa using h0):=h
def SF(h:p:=by simpa using hz):=h
def LF(h:p:=by unfold Cd.isDig;simp;omega):=h
def fG(h:p:=by rw[K4,vG,List.drop_eq_nil_iff,HN.out,G2];omega):=h
def zL(h:p:=by rw[M0];have:=Gm.out.1;omega):=h
def DG(h:p:=by rw[Z5 l9,Rn.sum_snoc,<-HT.out]):=h
def TM(h:p:=by rw[x9];omega):=h
def lS(h:p:=by rw[<-HR.out];simp only[A4,B4,Zr,HL.out];rfl):=h
def AD(h:p:=by rw[Zd (Ea.Bw l)];omega):=h
def zC(h:p:=by rw[XL,Hu.1];omega):=h
def qP(h:p:=by first|exact HX.out|exact HX.out.drew):=h
def nO(h:p:=by simp only[Mu.out,HD.out]at p0 p1;simp[results,results142,go_sem,p0,p1]):=h
def CH(h:p:=by simp[results,results97,go_sem]):=h
def bB(h:p:=by rw[S0,M2,J1,Ly.out];omega):=h
def TQ(h:p:=by rw[Mb];rfl):=h
def cF(h:p:=by simp only[A4,B4,Kz,Pe,hQl,Ea.aAX]):=h
def EJ(h:p:=by rw[M0,Za];omega):=h
def yH(h:p:=by rw[Za];exact h0):=h
def LV(h:p:=by rw[Za];exact h7):=h
def JJ(h:p:=by rw[<-Pc,Ea.Bw]):=h
def qZ(h:p:=by rw[HF.out];exact Cs.aH1.symm):=h
def xE(h:p:=by rw[S0,HQ.out];rfl):=h
def OK(h:p:=by simpa using hi):=h
def TK(h:p:=by rw[h0];rfl):=h
def GF(h:p:=by rw[I1];omega):=h
def CE(h:p:=by intro e;injection e with e;omega):=h
def zO(h:p:=by rw[M0,HN.out];omega):=h
def xY(h:p:=by simp[Ea.gd,Ea.md,Ea.bits];omega):=h
def oK(h:p:=by rw[M0,Gl.out,M0,R6];omega):=h
def GR(h:p:=by have:=HJ0.out;omega):=h
def BM(h:p:=by rw[<-hR];simp[Value.oneCell']):=h
def BS(h:p:=by rw[<-hQ];simp[Value.oneCell']):=h
def CQ(h:p:=by rw[M0];exact hlt):=h
def oI(h:p:=by rw[show(⟨fives.toArray⟩:ByteArray).size=50 from rfl];omega):=h
def FQ(h:p:=by rw[M0];exact hn):=h
def CR(h:p:=by rw[B1,h3];rfl):=h
def AE(h:p:=by rw[Zx,hs,Ea.Wp]):=h
def fH(h:p:=by rw[hP,<-HB.out.1,<-HB.out.2];simp[A4]):=h
def vU(h:p:=by unfold Cs.dig;rw[C1 a,C1 b];rfl):=h
def kS(h:p:=by show _=_;unfold Cd.comp;rw[G0 ((C8 s).2 h0)]):=h
def RL(h:p:=by rw[h1];rfl):=h
def PU(h:p:=by rw[HX.out]):=h
def yU(h:p:=by rw[HA.out,IL.out,hp];rfl):=h
def OR(h:p:=by rw[h];simp):=h
def uM(h:p:=by rw[I2,RR];exact h0):=h
def sN(h:p:=by rw[HR.out,G0];rw[IE.out,S0];omega):=h
def DA(h:p:=by have:=j0.size;exact W6):=h
def cT(h:p:=by rw[HX.out];exact D0 (OW Bm.symm)):=h
def BZ(h:p:=by have:=j5.size;exact W6):=h
def dS(h:p:=by rw[Ak.out];unfold Cs.values;rw[<-HVB.out,aDC.out]):=h
def iB(h:p:=by rintro(⟨_,_,h⟩|⟨h,_⟩);(·exact h rfl);·omega):=h
def OU(h:p:=by simpa using h4):=h
def OV(h:p:=by simpa using h5):=h
def cU(h:p:=by rw[HX.out];exact G0 (D4 Bm.symm)):=h
def KE(h:p:=by simpa using hf):=h
def KR(h:p:=by rw[bne,zd];rfl):=h
def BT(h:p:=by rw[<-Nv.out];exact hi):=h
def AM(h:p:=by rw[<-HT.out];exact IU):=h
def vV(h:p:=by unfold Cs.dig;rw[G1 b,Bool.and_false]):=h
def gG(h:p:=by rw[<-Rn.sum_app,G7,<-Ke.out]):=h
def qO(h:p:=by rw[aBS];exact h):=h
def xC(h:p:=by rw[IF.out,D0 Hn]):=h
def pD(h:p:=by rw[WV];simp[Cd.fits,Cd.size];omega):=h
def GQ(h:p:=by rw[h1];decide):=h
def eT(h:p:=by simp[results,results218,go_sem,p0,p1,p2,p3]):=h
def FC(h:p:=by unfold Ab at h;omega):=h
def rP(h:p:=by rw[Cc.chkTo,F1,n9];rfl):=h
def BG(h:p:=by rw[Ly.out];exact hlt):=h
def xF(h:p:=by rw[Az.out];exact h.2):=h
def zG(h:p:=by rw[Za];exact hz):=h
def zP(h:p:=by have:=HCR.out.2;omega):=h
def dC(h:p:=by unfold halv;rw[D0 (λh=>h g1),G0 g2]):=h
def sR(h:p:=by have h:=ho rfl;injection h with h;rw[HD.out,h]):=h
def EM(h:p:=by rw[R1];omega):=h
def aM(h:p:=by rw[HA.out,IL.out];unfold Cd.isDig;simp;omega):=h
def xU(h:p:=by rw[HU.out];exact hlt):=h
def mK(h:p:=by rw[M0,M0,hm7];omega):=h
def sO(h:p:=by first|exact IE.out|(rw[Sq];exact IE.out)):=h
def fV(h:p:=by have:=fT xs;rw[g2,j8]at this;exact DP):=h
def jW(h:p:=by rw[show 2*(j+1+1)=2*(j+1)+1+1 by omega];rfl):=h
def bM(h:p:=by rw[M0,Wz.out,Za];omega):=h
def nM(h:p:=by rw[X1];have:=Gm.out.1;omega):=h
def pX(h:p:=by rw[Jg.out,Gd.out,l1,l2,q2,l3,l4,q4];rfl):=h
def kI(h:p:=by rw[Z1 s k hlt];unfold Cd.c39;simp):=h
def uR(h:p:=by rw[EX,O0];exact Kw):=h
def fK(h:p:=by rw[Z5 hLj,Rn.sum_snoc,<-HT.out]):=h
def JM(h:p:=by unfold Ea.enc;rw[D0 (λg=>g h),D0 tZ,D0 L7,G0 L7];simp[Ea.lq,Ea.rq,V1]):=h
def JS(h:p:=by unfold Ea.enc;rw[D0 (λg=>g h),D0 tZ,D0 L7,D0 L7];simp[Ea.lq,V1]):=h
def kK(h:p:=by obtain⟨n,hn⟩:∃n:Nat,Cd.c39 s.data.toList%43=(n:Int):=⟨(Cd.c39 s.data.toList%43).toNat,by omega⟩;simp only[Cd.cmp,hn];exact wP n C0):=h
def KQ(h:p:=by rw[Cs.aA1 C0,G0 (R0 _)]):=h
def qW(h:p:=by have h:=HO.out;rw[Zoh HIC.out C0]at h;exact h):=h
def QkE(h:p:=by rw[<-Az.out,Iq.out];rintro(⟨_,h,_⟩|⟨h,_⟩);(·exact Mc h);·exact absurd h I0):=h
def QkF(h:p:=by rw[<-Az.out,Iq.out];rintro(⟨h,_,_⟩|⟨h,_⟩);(·exact h9 h);·exact absurd h I0):=h
def zI(h:p:=by rw[S1 P7];exact hx):=h
def gU(h:p:=by unfold Cs.IM;rw[G0 RY,Iq.out,F1,Lj];rfl):=h
def jC(h:p:=by rw[F1,P0 VE];rfl):=h
def gM(h:p:=by rw[F1,P0 yH];rfl):=h
def uO(h:p:=by rw[Yx.cell (p:=⟨w.heap.size,0,none⟩) L0];simp[go_sem]):=h
def fI(h:p:=by rw[Sd.out,O5 KH];simp[Gs.chG]):=h
def vT(h:p:=by unfold Cs.valOf;rw[D0 C0,D0 C0]):=h
def iU(h:p:=by rw[<-HB.out,Cs.aBR Hz.out Gc.out Db.out QkE,<-Az.out];simp):=h
def iV(h:p:=by rw[<-HB.out,Cs.aBR Hz.out Gc.out Db.out QkF,<-Az.out];simp):=h
def B0:=@Lib.hid
def D0:=@if_neg
def G0:=@if_pos
def P0:=@List.getElem?_eq_getElem
def O0:=@beq_eq_false_iff_ne
def M0:=@List.length_map
def S0:=@List.length_append
def J0:=@Nat.le_refl
def F1:=@List.getD_eq_getElem?_getD
def R0:=@Nat.zero_le
def B1:=@List.length_cons
def N1:=@List.getElem?_eq_some_iff
def L1:=@List.mem_of_getElem?
def C1:=@decide_eq_true
def G1:=@decide_eq_false
def S1:=@List.take_of_length_le
def J1:=@List.length_take
def V0:=@congrArg
def M1:=@List.all_eq_true
def Y1:=@List.mem_cons_of_mem
def Y0:=@congrFun
def P1:=@Bool.and_eq_true
def W1:=@Nat.lt_of_lt_of_le
def M2:=@List.length_replicate
def V1:=@List.append_assoc
def C2:=@List.mem_cons_self
def U3:=@List.eq_nil_of_length_eq_zero
def G2:=@decide_eq_true_eq
def X1:=@List.length_drop
def P2:=@Option.some.injEq
def I1:=@beq_iff_eq
def V3:=@Array.getElem?_eq_some_iff
def I2:=@Lib.toList_data
def R2:=@List.map_append
def B3:=@List.getElem?_map
def D3:=@List.mem_singleton
def E2:=@List.mem_cons
def C3:=@List.cons_append
def R1:=@bne_iff_ne
def C4:=@Int.eq_ofNat_of_zero_le
def A3:=@List.append_nil
def A4:=@ByteArray.data_append
def X2:=@heap_alloc_new
def J2:=@bodyPost_ret
def E3:=@List.mem_append
def I3:=@List.length_nil
def B4:=@Array.toList_append
def Y2:=@Prod.mk.injEq
def N3:=@List.foldl_cons
def F5:=@List.drop_eq_getElem_cons
def I4:=@List.mem_of_mem_take
def F3:=@Nat.le_trans
def D4:=@of_decide_eq_true
def O5:=@List.drop_of_length_le
def J4:=@List.not_mem_nil
def L5:=@Decidable.of_not_not
def G4:=@List.nil_append
def G5:=@List.replicate_succ
def Y3:=@Nat.sub_self
def K4:=@Bool.eq_iff_iff
def R3:=@Nat.le_succ
def L9:=@List.take_succ_eq_append_getElem
def R4:=@World.ownsRow.lt
def N4:=@bodyPost_ret_by
def Y6:=@List.getElem?_eq_none
def M5:=@List.take_add_one
def U4:=@Nat.not_lt_zero
def V4:=@UInt8.toNat_inj
def D6:=@List.length_reverse
def L6:=@Joins.block_setCell
def H9:=@List.setIfInBounds_toArray
def P4:=@List.drop_drop
def G7:=@List.take_append_drop
def E6:=@List.set_cons_zero
def X4:=@IntWalk.i64_in
def M4:=@List.map_cons
def N6:=@List.reverse_append
def A8:=@List.reverse_replicate
def B5:=@List.drop_zero
def H6:=@Int.toNat_natCast
def O6:=@List.set_cons_succ
def C6:=@List.drop_length
def J6:=@List.take_length
def R6:=@List.length_range
def X7:=@List.mem_of_mem_drop
def M3:=@if_true
def P5:=@List.mem_range
def D8:=@List.length_pos_iff
def M7:=@List.flatMap_cons
def O4:=@Below.trans
def B6:=@List.foldl_nil
def P6:=@List.length_set
def T6:=@wp_region_quiet
def D7:=@Nat.min_eq_left
def A6:=@Nat.lt_irrefl
def H5:=@Nat.lt_or_ge
def I5:=@List.mem_map
def Y9:=@List.length_singleton
def ZZ:=@ByteArray.size_append
def X6:=@run_underlying
def E4:=@if_false
def XD:=@List.getElem?_set_self
def XL:=@ByteArray.size_extract
def WN:=@List.getElem?_append_left
def C5:=@info_parts
def Y8:=@List.ext_getElem?
def I9:=@Decidable.not_not
def F4:=@or_false
def I8:=@Bool.or_eq_true
def XE:=@List.getElem?_set_ne
def XF:=@Bool.or_eq_false_iff
def VZ:=@List.getElem?_append_right
def J7:=@run_make_row'
def G6:=@Nat.mul_one
def XH:=@List.replicate_zero
def UX:=@World.cell?_setCell_other
def SY:=@List.take_append_of_le_length
def H7:=@List.map_nil
def YQ:=@World.ownsRow.kept
def K7:=@List.map_map
def V9:=@List.ext_getElem
def YY:=@List.getElem?_take
def X9:=@List.getElem_map
def U6:=@wpQuiet_nil
def J8:=@List.map_take
def S8:=@Int.mul_nonneg
def WK:=@List.replicate_succ'
def WG:=@Array.length_toList
def VM:=@List.map_congr_left
def UQ:=@Option.map_eq_some_iff
def TC:=@Array.getElem?_eq_none
def C9:=@List.map_drop
def OE:=@Int.tdiv_eq_ediv_of_nonneg
def YL:=@List.getElem_mem
def YX:=@World.rowIs_made
def O9:=@Nat.mul_le_mul
def RR:=@List.isEmpty_eq_false_iff
def YS:=@Option.map_some
def T8:=@Nat.sub_zero
def W5:=@and_true
def WI:=@List.foldl_append
def WL:=@List.reverse_cons
def WM:=@List.any_eq_false
def WT:=@List.all_eq_false
def WV:=@Bool.not_eq_false
def RG:=@Nat.add_sub_cancel_left
def PJ:=@decide_eq_false_iff_not
def YM:=@Int.mul_le_mul
def YP:=@List.take_zero
def XC:=@List.mapM_cons
def VK:=@List.any_eq_true
def PR:=@run_convert_int_string
def OS:=@MapKept.run_getObj_map
def TI:=@Nat.add_sub_cancel
def SW:=@List.mem_append_right
def RH:=@List.set_append_right
def RI:=@List.getElem?_toArray
def RW:=@Array.getElem?_modify
def PI:=@UInt8.le_iff_toNat_le
def UH:=@Result.andThen_ok
def LS:=@Array.getElem?_eq_getElem
def VF:=@List.take_left
def UW:=@Bool.not_eq_true
def TL:=@World.size_alloc
def SR:=@List.getD_cons_zero
def SS:=@List.drop_succ_cons
def xN:=@Array.getElem?_setIfInBounds_ne
def MI:=@List.getElem?_replicate
def WJ:=@Bool.false_or
def SV:=@Bool.false_ne_true
def PN:=@List.map_replicate
def vB:=@List.count_eq_zero_of_not_mem
def RB:=@World.ownsRow_nil
def RD:=@wpList_append_own
def OC:=@List.getElem?_set
def UV:=@List.take_take
def CA:=@List.dropLast_concat_getLast
def TJ:=@List.drop_left
def LQ:=@Array.getElem?_toList
def TU:=@Bool.false_and
def KZ:=@List.getElem?_reverse
def YK:=@Below.refl
def NX:=@World.cell?_alloc_lt
def GP:=@List.count_le_length
def OY:=@List.take_succ_cons
def NU:=@List.flatMap_append
def RZ:=@List.cons.injEq
def CM:=@List.mem_of_find?_eq_some
def OA:=@List.all_append
def OW:=@of_decide_eq_false
def OZ:=@Nat.eq_zero_or_pos
def UF:=@Sem.run_bind
def UG:=@Sem.run_pure
def NG:=@Bool.true_eq_false
def NJ:=@Nat.lt_or_eq_of_le
def MA:=@List.getElem?_drop
def LI:=@Bool.false_eq_true
def WZ:=@Nat.mod_lt
def CS:=@List.append_cancel_left
def NK:=@Nat.le_of_lt_succ
def MC:=@World.rowIs_alloc
def LJ:=@List.size_toArray
def KY:=@Bool.not_eq_true'
def EO:=@World.cell?_alloc_mark
def yZ:=@MapKept.run_setObj_map
def PM:=@run_make_full
def KI:=@Lib.cell_of_heap
def KU:=@Int.ediv_le_self
def KV:=@List.countP_cons
def WB:=@Prod.ext
def BA:=@UInt8.lt_iff_toNat_lt
def FH:=@List.reverse_reverse
def FR:=@Nat.mul_le_mul_right
def DI:=@World.cell?_of_block
def MH:=@List.nodup_cons
def DQ:=@List.getElem?_of_mem
def MY:=@List.find?_some
def KS:=@Int.ediv_nonneg
def vR:=@List.drop_append_of_le_length
def rQ:=@Int.mul_le_mul_of_nonneg_left
def EA:=@List.getElem?_range
def CF:=@World.grownBy_alloc
def qC:=@List.length_take_le
def xV:=@List.flatten_append
def NV:=@List.drop_take
def LT:=@UInt8.toNat_lt
def RE:=@Nat.add_mul
def RF:=@Nat.one_mul
def FZ:=@Array.ext_getElem?
def jT:=@Lib.run_convert_bytes_const
def gJ:=@Array.getD_eq_getD_getElem?
def AZ:=@Lib.frozen_of_heap
def vC:=@List.count_pos_iff
def NM:=@Lib.join_cons
def KC:=@List.all_cons
def KD:=@Bool.true_and
def FN:=@List.map_toArray
def NS:=@Nat.mul_zero
def MD:=@results_none
def CN:=@List.mem_reverse
def LB:=@UInt8.not_lt
def LK:=@callsIn_wide
def KT:=@Int.le_trans
def vG:=@List.isEmpty_iff
def EK:=@List.range_succ
def DM:=@Option.some.inj
def BY:=@run_loadVar_row
def AY:=@Oper.upon_value
def qS:=@Nat.min_le_left
def MN:=@run_makeMap
def KW:=@getD_set_ne
end Go.Proofs
