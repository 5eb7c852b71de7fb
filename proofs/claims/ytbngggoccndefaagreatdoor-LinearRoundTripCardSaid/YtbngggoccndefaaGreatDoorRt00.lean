/-
  Closing scripts that stand more than once in the texts of this claim, by name, and short names of theorems.
-/
import Derived.Conc.MuData
import Derived.Conc.MuLone
import Derived.Conc.RwLib
import Derived.Deep.DeepWitnessRowRef
import Derived.Deep.Grids
import Derived.Deep.RegionHeld3
import Derived.Deep.WholeRow
import Derived.LaidMore
import Derived.LaidSub
import Derived.Laws.AppendOwnNone
import Derived.Laws.CopyOwn
import Derived.Laws.EntriesVeiled
import Derived.Lib.SmallJoins
import Derived.LoopIn
import Derived.LoopNIn
import Derived.OwnWalkIn
import Derived.RangeFuncNested
import Derived.Shelf.Slices.Turned
import Derived.Shelf.Small.Strs
import Derived.Shelf.Small.Wraps
import Derived.Shelf.Strconv.Itoa3
import Derived.Shelf.Strings.BuilderK
import Derived.Shelf.Strings.OnBuilder
import Derived.Shelf.Strings.Repeat
import Derived.Shelf.Strings.Shaped
import Derived.Shelf.Strings.SplitShaped
import Derived.Shelf.Unicode.ExclAny
import Derived.Shelf.Unicode.IsSpaceAny
import Derived.Sort.QuietTacIn
import Derived.Test.YtbngggoccndefaaGreatDoorProg
import Derived.Test.YtbngggoccndefaaGreatDoorRows
import Derived.WalkLawsBesides
import Derived.WalkSpells
import Derived.WideKeyEntry
set_option maxRecDepth 100000
set_option linter.unusedVariables false
set_option linter.defProp false
namespace Go.Proofs
open Go.RowKit
variable {p:Prop}
theorem Qa(h:p:=by
 subst h0;rw[D0 (fun h=>h rfl)]at HX;by_cases ha0:a=0;·have HG:Hid (res=((k,t,[]),0)):=B0 (by rw[<-HX.out,G0 ha0]);have hb0:((a:Int)==0)=true:=(by rw[ha0];rfl);clear HX HAW HAE ha ha0;go_enter func139,ntmps139;go_wp2_with fail;refine(HS.out _).mono ?_;rintro e w1 ⟨rfl,hx⟩;obtain⟨z0,z1,z2,z3,z4,z5,z6,HB⟩:=Zd (Z9 rfl hx.before);obtain⟨y0,y1,y2,y3,y4,y5,y6,HC⟩:=Zd (Z9 (WG _ _) hx);have hxw:=hx.before.before;clear hx;go_wp2;refine R1 (Ze results139 rfl (Zf (TG C0 HB)) rfl) rfl ?_;have HXX:=(((hxw.setCell (p:=⟨w.heap.size+1,0,none⟩) (D3 _) (.int .i64 k)).setCell (p:=⟨w.heap.size+1,1,none⟩) (D3 _) (.string T)).setCell (p:=⟨w.heap.size+1,2,none⟩) (D3 _) (.string ⟨#[]⟩));exact uW
 ·have HAE2:=B0 (HAE.out ha0);rw[D0 ha0]at HX;have hb0:((a:Int)==0)=false:=QY;clear HAE ha ha0;have hsub:(s.size:Int)-(W:Int)=((s.size-W:Nat):Int):=C0;obtain⟨g,hg⟩:∃g,s.size-W=g:=⟨_,rfl⟩;rw[hg]at hsub HAE2;have hgs:g<=s.size:=C0;clear hg;by_cases hae:ae=0;(·subst hae;have HG:Hid (res=((k,t,al),0)):=B0 (by rw[<-HX.out,D0 (fun h=>h rfl)]);clear HX;go_enter func139,ntmps139;go_wp2_with fail;refine(HS.out _).mono ?_;rintro e w1 ⟨rfl,hx⟩;obtain⟨z0,z1,z2,z3,z4,z5,z6,HB⟩:=Zd (Z9 rfl hx.before);obtain⟨y0,y1,y2,y3,y4,y5,y6,HC⟩:=Zd (Z9 (WG _ _) hx);have hxw:=hx.before.before;clear hx;go_wp2_with fail;refine(HAW.out _).mono ?_;rintro e w2 ⟨rfl,rfl⟩;go_wp2_with fail;refine(HAE2.out _).mono ?_;rintro e w3 ⟨rfl,hx3⟩;obtain⟨u0,u1,u2,u3,u4,u5,u6,HB3⟩:=Zd (Zb (TG (show w.heap.size+1≠w.heap.size by omega) HB).out hx3);obtain⟨v0,v1,v2,v3,v4,v5,v6,HC3⟩:=Zd (Zb (Zf HC) hx3);have HXX:=B0 ((((hxw.setCell (p:=⟨w.heap.size+1,0,none⟩) (D3 _) (.int .i64 k)).setCell (p:=⟨w.heap.size+1,1,none⟩) (D3 _) (.string T)).setCell (p:=⟨w.heap.size+1,2,none⟩) (D3 _) (.string (Ea.bS []))).trans hx3);clear z0 z1 z2 z3 z4 z5 z6 HB y0 y1 y2 y3 y4 y5 y6 HC hxw hx3;go_wp2;refine R1 (Ze results139 rfl (Zf (B0 (Zx (show w.heap.size+1≠w.heap.size by omega) HB3.out))) rfl) rfl ?_;have HXY:=HXX.out.setCell (p:=⟨w.heap.size+1,2,none⟩) (D3 _) (.string AL);exact⟨by rw[HG.out];unfold gotV linV;dsimp only;rw[HT.out,HAL.out];rfl,((HXY.setCell (I0 _) _).setCell (I0 _) _).setCell (I0 _) _⟩);·have HG:Hid (res=((0,[],[]),ae)):=B0 (by rw[<-HX.out,G0 hae]);have hbe:(ae !=0)=true:=N2.2 hae;clear HX hae;go_enter func139,ntmps139;go_wp2_with fail;refine(HS.out _).mono ?_;rintro e w1 ⟨rfl,hx⟩;obtain⟨z0,z1,z2,z3,z4,z5,z6,HB⟩:=Zd (Z9 rfl hx.before);obtain⟨y0,y1,y2,y3,y4,y5,y6,HC⟩:=Zd (Z9 (WG _ _) hx);have hxw:=hx.before.before;clear hx;go_wp2_with fail;refine(HAW.out _).mono ?_;rintro e w2 ⟨rfl,rfl⟩;go_wp2_with fail;refine(HAE2.out _).mono ?_;rintro e w3 ⟨rfl,hx3⟩;obtain⟨u0,u1,u2,u3,u4,u5,u6,HB3⟩:=Zd (Zb (TG (show w.heap.size+1≠w.heap.size by omega) HB).out hx3);obtain⟨v0,v1,v2,v3,v4,v5,v6,HC3⟩:=Zd (Zb (Zf HC) hx3);have HXX:=B0 ((((hxw.setCell (p:=⟨w.heap.size+1,0,none⟩) (D3 _) (.int .i64 k)).setCell (p:=⟨w.heap.size+1,1,none⟩) (D3 _) (.string T)).setCell (p:=⟨w.heap.size+1,2,none⟩) (D3 _) (.string (Ea.bS []))).trans hx3);clear z0 z1 z2 z3 z4 z5 z6 HB y0 y1 y2 y3 y4 y5 y6 HC hxw hx3;go_wp2;refine R1 (Ze results139 rfl (Zf (B0 (Zx (show w.heap.size+1≠w.heap.size by omega) HB3.out))) rfl) rfl ?_;have HXY:=HXX.out.setCell (p:=⟨w.heap.size+1,2,none⟩) (D3 _) (.string AL);exact⟨by rw[HG.out];rfl,((HXY.setCell (I0 _) _).setCell (I0 _) _).setCell (I0 _) _⟩):p:=h
theorem Qb(h:p:=by
 have e0:((ra,rb,(H:Int),rd).2.1==(ra,rb,(H:Int),rd).2.2.1)=true:=hf;rw[e0]at HX;clear e0;obtain⟨Q,hQ⟩:∃Q,Q=AI.size+H:=⟨_,rfl⟩;have hQi:(AI.size:Int)+(H:Int)=(Q:Int):=by omega
 by_cases hlt:j<Q;·have HR:Hid (res=(([],[]),0,10)):=B0 (HS6.out.1 hf C0);have HQ2:=B0 hQ;clear HS6 hf hQ;go_wp2_with fail;refine HP1.out.mono ?_;rintro e w3 ⟨rfl,hx3⟩;simp only[preV,Z4,HAI.out];go_wp2_with fail;refine(HX.out _).mono ?_;rintro e w4 ⟨rfl,hx4⟩;have hx34:Ext wr w4:=(hx3.alloc _).trans hx4;have hel4:=HEL.out.ext hx34;obtain⟨g0,g1⟩:=hel4.cells;have f0:=hel4.free 0;have f1:=hel4.free 1;have c2:w4.cell? ⟨w3.heap.size,2,none⟩=some (.int .i64 (H:Int)):=Qv;have hxa:Ext w w4:=hxw.trans hx34;clear hx3 hx4;go_wp2;obtain⟨p0,p1⟩:=(hel4.puts ([],[]));refine A4 (v:=.tuple #[.agg #[.string ⟨#[]⟩,.string ⟨#[]⟩],.int .i64 0,.int .i64 10]) (by simp[results,results142,go_sem,encS]at p0 p1⊢;simp[p0,p1]) rfl ⟨by rw[HR.out];rfl,Xf⟩
 ·obtain⟨vd,hsl,hsd⟩:=FN HST.out AI.size Q C0 FO;have hQA:Q-AI.size=H:=C0;rw[hQA,<-S7,<-G8]at hsd;obtain⟨D,hD⟩:∃D:ByteArray,D.data.toList=(tx.drop AI.size).take H:=⟨⟨((tx.drop AI.size).take H).toArray⟩,rfl⟩;have HD:Hid (encS ((tx.drop AI.size).take H)=.string D):=B0 (by rw[<-hD,O9]);have hDs:D.size<=4096:=(by rw[<-Za,hD,L1];omega);have HCV:Hid (∀w',Ext wr w'->(convert 90 9 vd).run prog w'=.ok (.string D) w'):=B0 (fun w' hx=>by have:=Zn (hsd.1.ext hx);rw[this,<-hD,Zt]);have HV1:=B0 (fun w' hx=>HDV.out w' hx AI D G5 G5);rw[HAE.out,hD]at HV1;obtain⟨_,S2,S3,_⟩:=HS6.out;have hjQ:Q<=j:=C0;have HS2:=B0 (S2 hf C0);have HS3:=B0 (S3 hf C0);have HQ2:=B0 hQ;generalize(tx.drop AI.size).take H=d at*;clear HS6 hf hQ S2 S3 hsd hQA hD hlt;by_cases hver:Gs.ver ai d=0;(·have HR:Hid (res=((ai,d),Q,0)):=B0 (by rw[HS3.out hver,HQ2.out]);rw[hver]at HV1;clear hver HS2 HS3;exact Qh);·have HR:Hid (res=(([],[]),0,Gs.ver ai d)):=B0 (HS2.out hver);obtain⟨z1,hz1⟩:∃z1,Gs.ver ai d=z1:=⟨_,rfl⟩;rw[hz1]at HV1 HR hver;have hz2:(z1==0)=false:=(by simpa using hver);clear hver HS2 HS3 hz1;exact Qe):p:=h
theorem Qc(h:p:=by
 rw[hgd]at HE;clear hgd hkj;by_cases h119:e[k]=119;·have h1:er j=18:=(by rw[HE.out,G0 ⟨by omega,h119⟩]);have HR:=B0 (HR1.out NE HB.out);rw[h1]at HR;have d4:((e[k].toNat:Int)==119)=true:=(by rw[h119];rfl);clear h1 h119 hz2 hz3;go_wp2;go_ret2;exact⟨by rw[HR.out];rfl,hxr⟩
 ·have d4:((e[k].toNat:Int)==119)=false:=(by rw[V0];intro h;exact h119 (O7.1 (by have:(119:UInt8).toNat=119:=rfl;omega)));have hn119:¬(0<j∧e[k]=119):=fun h=>h119 h.2;have HN9:=B0 hn119;clear h119 hn119;go_wp2;refine T6 (C:=fun w'=>∃x:Zr wr,w'=x.at') M0 M0 (Zr.drawn _) ?_;(try dsimp only);(repeat(first|go_big_quiet_step ((go_at_call 237;exact Zp ((HQ.out _).mono fun _ _ h=>⟨h.1,h.2▸Ext.refl _⟩)))|quiet_step ((go_at_call 237;exact Zp ((HQ.out _).mono fun _ _ h=>⟨h.1,h.2▸Ext.refl _⟩)))));refine U6 ?_;intro _ hx0;obtain⟨x0,hx0⟩:=hx0;subst hx0;obtain⟨w3,hx3⟩:=x0;(try dsimp only);have he3:=(HS.out.ext (hxr.trans hx3)).e;have hi3:=(HS.out.ext (hxr.trans hx3)).i;replace hown:=hown.ext hx3;replace hx3:=hxr.trans hx3;clear hz2 hz3;clear d4 hk;by_cases hjn:j+1=n;(·have d3:((j:Int)==(n:Int)-1)=true:=(by rw[C2];omega);have d5:decide ((j:Int)<(n:Int)-1)=false:=E1;have HJN:=B0 hjn;clear hjn;cases ok;(·have h1:er j=20:=(by rw[HE.out,D0 HN9.out,D0 (fun h=>hj0 h.1),G0 ⟨HJN.out,rfl⟩]);exact QG);·have HI:=B0 (RA edge c);by_cases hx:Lib.indexByte edge.data.toList c<0;(·have hin:Tw.isIn edge.data.toList (c,true)=false:=VA;have h1:er j=20:=(by rw[HE.out,D0 HN9.out,D0 (fun h=>hj0 h.1),G0 ⟨HJN.out,hin⟩]);exact Qy);·have hin:Tw.isIn edge.data.toList (c,true)=true:=VA;have h1:er j=0:=(by rw[HE.out,D0 HN9.out,D0 (fun h=>hj0 h.1),D0 (by rw[hin];simp),D0 (by have:=HJN.out;omega)]);exact uX);·have d3:((j:Int)==(n:Int)-1)=false:=QY;have d5:decide ((j:Int)<(n:Int)-1)=true:=E1;cases ok;(·have h1:er j=18:=(by rw[HE.out,D0 HN9.out,D0 (fun h=>hj0 h.1),D0 (fun h=>hjn h.1),G0 ⟨by omega,by omega,rfl⟩]);exact QG);·have HI:=B0 (RA inner c);by_cases hx:Lib.indexByte inner.data.toList c<0;(·have hin:Tw.isIn inner.data.toList (c,true)=false:=VA;have h1:er j=18:=(by rw[HE.out,D0 HN9.out,D0 (fun h=>hj0 h.1),D0 (fun h=>hjn h.1),G0 ⟨by omega,by omega,hin⟩]);have HR:=B0 (HR1.out NE HB.out);rw[h1]at HR;clear h1 hin;generalize Lib.indexByte inner.data.toList c=x at*;exact uY);·have hin:Tw.isIn inner.data.toList (c,true)=true:=VA;have h1:er j=0:=(by rw[HE.out,D0 HN9.out,D0 (fun h=>hj0 h.1),D0 (fun h=>hjn h.1),D0 (by rw[hin];simp)]);have HN:=HRN.out h1;clear h1 hin;generalize Lib.indexByte inner.data.toList c=x at*;exact Qf):p:=h
theorem Qd(h:p:=by go_enter func251,ntmps251;go_wp2_with fail;refine(HP.out _).mono ?_;rintro e w1 ⟨rfl,rfl⟩;go_wp2_with fail;refine(HQ.out _).mono ?_;rintro e w1 ⟨rfl,rfl⟩;go_wp2_with fail;refine(HL.out _).mono ?_;rintro e w2 ⟨rfl,hx2⟩;go_wp2_with fail;refine(HR.out _).mono ?_;rintro e w3 ⟨rfl,hx3⟩;go_wp2;go_ret3;exact⟨by rw[HN.out];rfl,hx2.trans hx3⟩):p:=h
theorem Qe(h:p:=by
 go_wp2_with fail;refine HP1.out.mono ?_;rintro e w3 ⟨rfl,hx3⟩;simp only[preV,Z4,HAI.out];go_wp2_with fail;refine(HX.out _).mono ?_;rintro e w4 ⟨rfl,hx4⟩;have hx34:Ext wr w4:=(hx3.alloc _).trans hx4;have hel4:=HEL.out.ext hx34;obtain⟨g0,g1⟩:=hel4.cells;have f0:=hel4.free 0;have f1:=hel4.free 1;have c2:w4.cell? ⟨w3.heap.size,2,none⟩=some (.int .i64 (H:Int)):=Qv
 have hxa:Ext w w4:=hxw.trans hx34;clear hx3 hx4;have hcv2:=HCV.out w4 hx34;go_wp2_with fail;refine(HV1.out _ ((hxa.setCell (I0 _) _).setCell (I0 _) _)).mono ?_;rintro e w5 ⟨rfl,hx5⟩;have hel5:=(hel4.put (ai,d)).ext NA;obtain⟨i0,i1⟩:=hel5.cells;simp only[HAI.out,HD.out]at i0 i1;have f0:=hel5.free 0;have f1:=hel5.free 1;have hxb:Ext w w5:=((hxa.setCell (I0 _) _).setCell (I0 _) _).trans hx5;have HQ:=B0 (hel5.puts ([],[]));clear hx5 hel5 hel4 g0 g1;go_wp2;obtain⟨p0,p1⟩:=HQ.out;refine A4 (v:=.tuple #[.agg #[.string ⟨#[]⟩,.string ⟨#[]⟩],.int .i64 0,.int .i64 z1]) FP rfl ⟨by rw[HR.out];rfl,Xf⟩):p:=h
theorem Qf(h:p:=by
 have hxx:decide (x<0)=false:=by simpa using hx
 go_wp2_with fail;refine(HI.out _).mono ?_;rintro en w4 ⟨rfl,rfl⟩;go_wp2_with (at_builtin;refine gI rfl _ _ rfl w.heap.size _ got rfl (hown.alloc _) _ c rfl ?c1 ?c2 ?c3 ?_);case c1=>simp[go_sem,encB]
 case c2=>omega
 case c3=>have:=hx3.size;exact E1
 intro v' w5 hown5 hg5;have hx5:=(hx3.alloc _).ofGrown hg5 hown.low;go_wp2;go_roundw;case rel=>exact⟨j+1,by omega,by go_num,by rw[HSN.out,B4];exact hown5,HN,hx5⟩
 case measure=>exact QD):p:=h
theorem Qg(h:p:=by rintro e w1 ⟨rfl,rfl⟩;go_wp2_with fail;refine(HRI.out _).mono ?_;rintro e w2 ⟨rfl,hx2⟩;go_wp2_with fail;refine(HDA.out _).mono ?_;rintro e w1 ⟨rfl,rfl⟩;go_wp2_with fail;refine(HQ.out _).mono ?_;rintro e w1 ⟨rfl,rfl⟩;go_wp2_with fail;refine(HL.out _).mono ?_;rintro e w3 ⟨rfl,hx3⟩;go_wp2_with fail;refine(HSY.out _).mono ?_;rintro e w4 ⟨rfl,hx4⟩;go_wp2_with fail;refine(HL9.out _).mono ?_;rintro e w5 ⟨rfl,hx5⟩;go_wp2_with fail;refine(HAS.out _).mono ?_;rintro e w6 ⟨rfl,hx6⟩;go_wp2_with fail;refine(HDR.out _).mono ?_;rintro e w7 ⟨rfl,hx7⟩;go_wp2_with fail;refine(HL7.out _).mono ?_;rintro e w8 ⟨rfl,hx8⟩;go_wp2_with fail;refine(HMO.out _).mono ?_;rintro e w9 ⟨v,rfl,hs9,hx9⟩;go_wp2;go_ret2;exact⟨v,by rw[HX.out];rfl,by rw[HX.out];exact hs9,((((((hx2.trans hx3).trans hx4).trans hx5).trans hx6).trans hx7).trans hx8).trans hx9⟩):p:=h
theorem Qh(h:p:=by
 go_wp2_with fail;refine HP1.out.mono ?_;rintro e w3 ⟨rfl,hx3⟩;simp only[preV,Z4,HAI.out];go_wp2_with fail;refine(HX.out _).mono ?_;rintro e w4 ⟨rfl,hx4⟩;have hx34:Ext wr w4:=(hx3.alloc _).trans hx4;have hel4:=HEL.out.ext hx34;obtain⟨g0,g1⟩:=hel4.cells;have f0:=hel4.free 0;have f1:=hel4.free 1;have c2:w4.cell? ⟨w3.heap.size,2,none⟩=some (.int .i64 (H:Int)):=Qv
 have hxa:Ext w w4:=hxw.trans hx34;clear hx3 hx4;have hcv2:=HCV.out w4 hx34;go_wp2_with fail;refine(HV1.out _ ((hxa.setCell (I0 _) _).setCell (I0 _) _)).mono ?_;rintro e w5 ⟨rfl,hx5⟩;have hel5:=(hel4.put (ai,d)).ext NA;obtain⟨i0,i1⟩:=hel5.cells;simp only[HAI.out,HD.out]at i0 i1;have f0:=hel5.free 0;have f1:=hel5.free 1;have hxb:Ext w w5:=((hxa.setCell (I0 _) _).setCell (I0 _) _).trans hx5;have HQ:=B0 (hel5.puts (ai,d));clear hx5 hel5 hel4 g0 g1;go_wp2;obtain⟨p0,p1⟩:=HQ.out;refine A4 (v:=.tuple #[.agg #[.string AI,.string D],.int .i64 (Q:Int),.int .i64 0]) jY rfl ⟨by rw[HR.out];simp only[HAI.out,HD.out],Xf⟩):p:=h
theorem Qi(h:p:=by
 have HJ0:=B0 hj0;have d1:decide ((0:Int)<(j:Int))=false:=E1
 have d2:((j:Int)==0)=true:=E1
 have d3:((j:Int)==(n:Int)-1)=false:=QY
 clear hj0;go_wp2;refine T6 (C:=fun w'=>∃x:Zr wr,w'=x.at') M0 M0 (Zr.drawn _) ?_;try dsimp only
 repeat(first|go_big_quiet_step ((go_at_call 237;exact Zp ((HQ.out _).mono fun _ _ h=>⟨h.1,h.2▸Ext.refl _⟩)))|quiet_step ((go_at_call 237;exact Zp ((HQ.out _).mono fun _ _ h=>⟨h.1,h.2▸Ext.refl _⟩))))
 refine U6 ?_;intro _ hx0;obtain⟨x0,hx0⟩:=hx0;subst hx0;obtain⟨w3,hx3⟩:=x0;try dsimp only
 have he3:=(HS.out.ext (hxr.trans hx3)).e;have hi3:=(HS.out.ext (hxr.trans hx3)).i;replace hown:=hown.ext hx3;replace hx3:=hxr.trans hx3;clear hz2 hz3;cases ok;·have h1:er j=19:=(by rw[HE.out,D0 NF,G0 ⟨HJ0.out,rfl⟩]);exact QG
 ·have HI:=B0 (RA edge c);by_cases hx:Lib.indexByte edge.data.toList c<0;(·have hin:Tw.isIn edge.data.toList (c,true)=false:=VA;have h1:er j=19:=(by rw[HE.out,D0 NF,G0 ⟨HJ0.out,hin⟩]);exact Qy);·have hin:Tw.isIn edge.data.toList (c,true)=true:=VA;have h1:er j=0:=(by rw[HE.out,D0 NF,D0 (by rw[hin];simp),D0 (by rw[hin];simp),D0 NF]);exact uX):p:=h
theorem Qj(h:p:=by
 simp only[recV]at HL HR;cases hm:((J.extract 28 33).toList== [48,49,48,49,48]);·exact NG
 ·exact NG):p:=h
theorem Qk(h:p:=by
 simp only[recV]at HL HR;cases hm:((J.extract 42 47).toList== [48,49,48,49,48]);·exact NG
 ·exact NG):p:=h
theorem Ql(h:p:=by rw[G0 h0]at HX;have HG:=B0 HX.out.symm;obtain⟨rfl,rfl⟩:=HZR.out h0;have hb:(er !=0)=true:=N2.2 h0;clear HX HZR HAW HAE ha h0;go_enter func139,ntmps139;go_wp2_with fail;refine(HS.out _).mono ?_;rintro e w1 ⟨rfl,hx⟩;obtain⟨z0,z1,z2,z3,z4,z5,z6,HB⟩:=Zd (Z9 rfl hx.before);obtain⟨y0,y1,y2,y3,y4,y5,y6,HC⟩:=Zd (Z9 (WG _ _) hx);have hxw:=hx.before.before;clear hx;go_wp2;refine R1 (Ze results139 rfl (Zf (TG C0 HB)) rfl) rfl ?_;have HXX:=(((hxw.setCell (p:=⟨w.heap.size+1,0,none⟩) (D3 _) (.int .i64 0)).setCell (p:=⟨w.heap.size+1,1,none⟩) (D3 _) (.string T)).setCell (p:=⟨w.heap.size+1,2,none⟩) (D3 _) (.string ⟨#[]⟩));exact uW):p:=h
theorem Qm(h:p:=by go_enter func97,ntmps97;go_wp2;go_quiet (fail);exact qF):p:=h
theorem Qn(h:p:=by
 cases ok;·exact Qm
 ·have dr1:=dr rfl;exact Qm):p:=h
theorem Qo(h:p:=by
 go_enter func20,ntmps20;go_wp2_with fail;refine(HF.out _).mono ?_;rintro e w1 ⟨B,F,rfl,hF,hx1⟩;obtain⟨hc,hfz⟩:=hx1.cells;have hz:w.heap.size<w1.heap.size:=XU
 unfold Z5.val;clear hF;go_wp2;go_ret2;exact⟨.slice none 0 0,by rw[HT.out];rfl,by rw[HT.out];exact UH _,(((Ext.refl w).alloc _).trans hx1).alloc _⟩):p:=h
theorem Qp(h:p:=by
 refine(HV1.out _ (hxk.alloc _)).mono ?_;rintro e w4 ⟨rfl,hx4⟩;have hxa:Ext W w4:=(hxk.alloc _).trans hx4;have hb3:w3.heap.size<w4.heap.size:=by have:=hx4.size;exact L7
 have cA:w4.cell? ⟨w3.heap.size,0,none⟩=some (.string A):=by rw[hx4.cell (p:=⟨w3.heap.size,0,none⟩) L0];exact QH
 have cD:w4.cell? ⟨w3.heap.size,1,none⟩=some (.string D):=by rw[hx4.cell (p:=⟨w3.heap.size,1,none⟩) L0];exact QH
 have hown4:=(hown2.ext ((Ext.refl w3).alloc _)).ext hx4;have hsz4:=hxa.size;clear hx2 hx4 hown hown2 hx hxk;go_wp2_with (at_builtin;go_loud (refine kG rfl _ _ rfl W.heap.size _ _ rfl (hown4.ext ((Ext.refl w4).alloc _)) _ (a,d) rfl ?_ ?_ C0 ?_ ?_));·exact HEA.out.symm
 ·exact HED.out.symm
 ·exact E1
 intro v5 w5 hown5 hg5;have hx5:Ext W w5:=(hxa.alloc _).ofGrown hg5 hown4.low;clear cA cD hg5 hown4;go_wp2;try rw[HKZ.out]
 go_roundw;case rel=>exact⟨Z,acc++[(a,d)],n-1,by first|rfl|(rw[show Z=ByteArray.empty from Z7 (FC (by have:=HZS.out;omega))]),by have:=HSM.out;rw[O0];simp;omega,hown5,B0 ⟨HSM.out.2.1,HP2.out⟩,hx5⟩
 case measure=>have:=HSM.out;first|omega|(rw[HKZ.out];omega)|(simp;omega)):p:=h
theorem Qq(h:p:=by have hcj:=hrow.cell hlt;have hfj:=hrow.frozen j;have hxw:Ext w wr:=((Ext.refl w).alloc _).trans hxr;have hbj:=HCC.out wr hxw j hlt;obtain⟨cj0,cj1⟩:=HOK.out ((Gs.run cs).getD j 0) (by have hj':j<(Gs.run cs).length:=(by rw[HM.out];exact hlt);rw[A1,P0 hj'];exact K4 _);have HBN:=B0 (oN cj0 cj1);obtain⟨cj,hcjj⟩:∃cj,(Gs.run cs).getD j 0=cj:=⟨_,rfl⟩;have HR1:=B0 ((hrow.set j (.int .u8 cj)).congr (g:=fun k=>if k<j+1 then encB (Gs.byte ((Gs.run cs).getD k 0))else .int .u8 0) (fun k hk=>by by_cases h1:k=j;(·subst h1;rw[G0 rfl,G0 (show k<k+1 by omega)];unfold encB;rw[HBN.out,hcjj]);·rw[D0 h1];by_cases h2:k<j;(·exact C9);·rw[D0 h2,D0 (show¬k<j+1 by omega)]));have HX1:=B0 (hxr.setCell (p:=⟨w.heap.size+1,j,none⟩) L0 (.int .u8 cj));rw[hcjj]at hbj cj0 cj1;clear hrow hcjj HBN;exact uZ):p:=h
theorem Qr(h:p:=by simp[intOf];try omega):p:=h
theorem Qs(h:p:=by
 obtain⟨x,hxj⟩:∃x,ws[j]? =some x:=⟨_,P0 U3⟩;obtain⟨b,o,ha,hb,hc⟩:=HV.out.int_at (Ext.refl w) hxj;subst ha;have hjI:(j:Int)<(n:Int):=by omega
 obtain⟨hx1,hx2⟩:=HIN.out x (I1 hxj);have HT2:Hid (t+x=Rn.sum (ws.take (j+1))):=B0 xL;exact uI):p:=h
theorem Qt(h:p:=by
 rintro e w1 ⟨F,rfl,hF,hx1⟩;obtain⟨hc,hf⟩:=hx1.cells;have hz:w.heap.size<w1.heap.size:=XU
 unfold Z5.val;go_wp2;refine A4 (v:=.tuple #[F.val,.bool true]) (by simp[results,results62,go_sem,Z5.val,hc]) rfl ⟨_,F,rfl,hF.above ?_,?_⟩;·(repeat refine Zs.setCell ?_ I2 _);exact Zs.refl _ _
 ·(repeat refine Ext.setCell ?_ (I0 _) _);exact Ext.trans ((Ext.refl w).alloc _) hx1):p:=h
theorem Qu(h:p:=by
 subst h0;rw[D0 J0]at HX;by_cases hl:65536<m.length;·have hlI:65536<(m.length:Int):=C0;rw[G0 hl]at HX;clear hl;subst hk;all_goals go_enter func10,ntmps10;go_wp2_with fail;refine(HE.out _ ((Ext.refl w).alloc _)).mono ?_;rintro e w1 ⟨v1,rfl,hv1,hx1⟩;obtain⟨-,a1,c1,rfl,-⟩:=hv1;rw[N0];go_wp2;go_ret2;exact⟨_,by rw[HX.out];rfl,by rw[HX.out];exact SlK.nil _,((Ext.refl w).alloc _).trans hx1⟩
 ·have hlI:¬65536<(m.length:Int):=C0;rw[D0 hl]at HX;clear hl;subst hk;all_goals go_enter func10,ntmps10;go_wp2_with fail;refine(HE.out _ ((Ext.refl w).alloc _)).mono ?_;rintro e w1 ⟨v1,rfl,hv1,hx1⟩;have HV:=B0 hv1;obtain⟨-,a1,c1,rfl,-⟩:=hv1;dsimp only at HV;rw[N0]at HV⊢;go_wp2;go_ret2;exact⟨_,by rw[HX.out];rfl,by rw[HX.out];exact HV.out,((Ext.refl w).alloc _).trans hx1⟩):p:=h
theorem Qv(h:p:=by rw[hx4.cell (p:=⟨w3.heap.size,2,none⟩) L0];unfold World.cell?;rw[E2];rfl):p:=h
theorem Qw(h:p:=by
 rw[hp]at HP1;have HR:Hid (res=(([],[]),0,29)):=B0 (by rw[HNX.out,hp]);clear hp HNX HNS;go_wp2_with fail;refine HP1.out.mono ?_;rintro e w3 ⟨rfl,hx3⟩;dsimp only[preV,Z4];have hel:=HEL.out.ext hx3;obtain⟨g0,g1⟩:=hel.cells;have f0:=hel.free 0;have f1:=hel.free 1;have HQ:=B0 ((hel.put ([],[])).ext ((Ext.refl _).alloc (.cells #[.int .i64 0,.int .i64 0,.int .i64 0,.int .u8 0] 138))).cells;have hxa:=hxw.trans hx3;have hsz:w.heap.size<w3.heap.size:=by have:=hxr.size;have:=hx3.size;simp at*;omega
 clear hel hx3;go_wp2;obtain⟨p0,p1⟩:=HQ.out;refine A4 (v:=.tuple #[.agg #[.string ⟨#[]⟩,.string ⟨#[]⟩],.int .i64 0,.int .i64 29]) FP rfl ⟨by rw[HR.out];rfl,Xf⟩):p:=h
theorem Qx(h:p:=by exact uZ):p:=h
theorem Qy(h:p:=by have HR:=B0 (HR1.out NE HB.out);rw[h1]at HR;clear h1 hin;generalize Lib.indexByte edge.data.toList c=x at*;exact uY):p:=h
theorem Qz(h:p:=by rintro e w1 ⟨rfl,rfl⟩;go_wp2_with fail;refine(HRI.out _).mono ?_;rintro e w2 ⟨rfl,hx2⟩;go_wp2_with fail;refine(HDA.out _).mono ?_;rintro e w1 ⟨rfl,rfl⟩;exact gB):p:=h
theorem QA(h:p:=by
 clear hown hown5 hg5 hsz;go_wp2_with fail;go_roundw;case rel=>exact⟨i+1,s,_,by omega,by omega,by go_num,by first|rfl|exact R0 (Value.int .i64) hsI.symm|go_num,hol2,HC2,HO5,HX5⟩
 case measure=>exact Qr):p:=h
theorem QC(h:p:=by rintro e w1 ⟨rfl,rfl⟩;go_wp2_with fail;refine(HRI.out _).mono ?_;rintro e w2 ⟨rfl,hx2⟩;go_wp2_with fail;refine(HDA.out _).mono ?_;rintro e w1 ⟨rfl,rfl⟩;go_wp2_with fail;refine(HQ.out _).mono ?_;rintro e w1 ⟨rfl,rfl⟩;go_wp2_with fail;refine(HL.out _).mono ?_;rintro e w3 ⟨rfl,hx3⟩;go_wp2_with fail;refine(HSY.out _).mono ?_;rintro e w4 ⟨rfl,hx4⟩;go_wp2_with fail;refine(HRQ.out _).mono ?_;rintro e w5 ⟨rfl,hx5⟩;go_wp2_with fail;refine(HMO.out _).mono ?_;rintro e w6 ⟨v,rfl,hs6,hx6⟩;go_wp2;go_ret2;exact⟨v,by rw[HX.out];rfl,by rw[HX.out];exact hs6,(((hx2.trans hx3).trans hx4).trans hx5).trans hx6⟩):p:=h
theorem QD(h:p:=by simp[intOf];omega):p:=h
theorem QE(h:p:=by rw[hbk]at HDV;unfold gotV linV at HDV;dsimp only at HDV;obtain⟨W1,W2,W3⟩:=W;dsimp only at HDV HSM HBW;generalize Ea.bS W2=S2 at*;generalize Ea.bS W3=S3 at*;clear hbk HBA;go_wp2_with fail;refine HDV.out.mono ?_;rintro e w5 ⟨rfl,hx5⟩;obtain⟨p0,p1,p2,p3,p4,p5,p6,p7⟩:=Zd (Zb HBW.out hx5);have HX6:=B0 (((HX1.out.trans HX9.out).trans hx5).alloc (.cells #[.int .i64 W1,.string S2,.string S3] 33));have hsm:=HSM.out;exact gC):p:=h
theorem QF(h:p:=by have HD:Hid (Hp.Heap Hp.lessS q' i0):=B0 (HH.out.done (fun c hc a b ha hb=>by have e:=HXI.out;rw[hb]at e;injection e with e;subst e;exact Hp.lessS_tr _ _ _ (HMIN.out c hc a ha) HB2.out.symm));go_wp2;go_ret;exact⟨⟨_,rfl⟩,q',HQ3.out,HD.out,HP.out,HG.out.trans (GB.ext HX3.out)⟩):p:=h
theorem QG(h:p:=by have HR:=B0 (HR1.out NE HB.out);rw[h1]at HR;clear h1;go_wp2;go_ret2;exact⟨by rw[HR.out];rfl,hx3⟩):p:=h
theorem QH(h:p:=by unfold World.cell?;rw[E2];rfl):p:=h
theorem QI(h:p:=by rw[hbk]at HDV;unfold gotV linV Ln.zero at HDV;dsimp only at HDV;have hsm:=fun w'=>ED w' (0,[],[]) ⟨#[]⟩ ⟨#[]⟩ rfl rfl;dsimp only at hsm;have hz:Ea.bS []=⟨#[]⟩:=rfl;rw[hz]at HDV hsm;clear hbk HBA hz;go_wp2_with fail;refine HDV.out.mono ?_;rintro e w5 ⟨rfl,hx5⟩;have HX6:=B0 (((HX1.out.trans HX9.out).trans hx5).alloc (.cells #[.int .i64 0,.string ⟨#[]⟩,.string ⟨#[]⟩] 33));exact gC):p:=h
theorem QJ(h:p:=by go_wp2_with fail;refine(HRD1.out _ (Zs.of_ext _ (hx12.trans hxr))).mono ?_;rintro e w4 ⟨rfl,hx4⟩;obtain⟨hq4,hq6,hq7⟩:=FY.out w4 (hxr.trans hx4);go_wp2_with fail;refine(HTX1.out _ (Zs.of_ext _ ((hx12.trans hxr).trans hx4))).mono ?_;rintro e w5 ⟨rfl,hx5⟩;obtain⟨hp4,hp6,hp7⟩:=FY.out w5 ((hxr.trans hx4).trans hx5);go_wp2_with fail;refine(HCM1.out _ (Zs.of_ext _ (((hx12.trans hxr).trans hx4).trans hx5))).mono ?_;rintro e w6 ⟨rfl,hx6⟩;go_wp2;go_ret2;exact⟨by rw[HT.out];rfl,(((hx1.trans hxr).trans hx4).trans hx5).trans hx6⟩):p:=h
theorem QK(h:p:=by
 obtain⟨w5,hput,hT5,hg5⟩:=HTA.out.put (i,s) H5 H5 (r+1) C0 C0;dsimp only at hput;rw[show((r+1:Nat):Int)=(r:Int)+1 from rfl]at hput;have HT6:Hid (TabM w w5 w.heap.size (Cs.relTo cs i s T2 (j+1)) (K2+(j+1))):=B0 (by rw[HRS.out];exact hT5.up (by have:=HK3.out;omega));have HG6:Hid (GB (some w.heap.size) w2 w5):=B0 (HGA.out.trans hg5);clear hT5 hg5 hn1 hn2;go_wp2_with fail;go_roundw;case rel=>exact⟨j+1,by omega,by go_num,HT6,HG6⟩
 case measure=>exact Qr):p:=h
theorem QL(h:p:=by
 go_wp2_with fail;refine(HS2.out _ HQ3.out).mono ?_;rintro e w4 ⟨rfl,hq4,hg4⟩;have HQ4:=B0 (HQ3.out.turn hg4 hq4 (Hp.swap_len q' i (2*i+1)));have HG4:=B0 ((HG.out.trans (GB.ext HX3.out)).trans hg4);have HH4:=B0 (HH.out.step Hp.lessS_tr Hp.lessS_as hi0 C0 HXI.out HY1.out HB2.out.symm HMIN.out);have HP4:=B0 ((Hp.swap_perm HXI.out HY1.out).trans HP.out);clear hq4 hg4;go_wp2;go_roundw;case rel=>exact⟨2*i+1,_,by omega,by omega,by go_num,HQ4,HH4,HP4,HG4⟩
 case measure=>exact Qr):p:=h
theorem QM(h:p:=by rw[HG.out];clear HG hg;unfold symV linV;dsimp only;generalize Ea.bS l=L at*;generalize Ea.bS (Ea.sS u)=U at*;go_enter func213,ntmps213;go_wp2_with fail;refine(HH.out _).mono ?_;rintro e w1 ⟨rfl,hx1⟩;go_wp2_with fail;refine(HR.out _).mono ?_;rintro e w2 ⟨rfl,hx2⟩;have hx:=hx1.trans hx2;obtain⟨z0,z1,z2,z3,z4,z5,z6,HB⟩:=X4 hx;have hxw:=hx.before;clear hx1 hx2 hx;go_wp2;refine R1 (Ze results213 rfl (Zf HB) rfl) rfl ?_;exact⟨rfl,Xf⟩):p:=h
theorem QN(h:p:=by go_enter func90,ntmps90;go_wp2;go_ret2;exact⟨rfl,Xe⟩):p:=h
theorem QO(h:p:=by go_enter func243,ntmps243;go_wp2;go_ret2;exact EE):p:=h
theorem QP(h:p:=by exact⟨by dsimp only;rw[one1,drop_one hi];exact g1,by dsimp only;omega,by dsimp only;omega,by dsimp only;omega,g2,g3⟩):p:=h
theorem QQ(h:p:=by go_wp2_with fail;refine(NY _ _ C0 C0).mono ?_;rintro e w' ⟨rfl,rfl⟩;go_wp2;go_ret;exact⟨YX (by simp[Cd.cmp]),Xe⟩):p:=h
theorem QR(h:p:=by go_wp2;go_ret2;exact EE):p:=h
theorem QS(h:p:=by rw[G0 he]at HT;have d1:((Tw.compK k s.data.toList check).2 !=0)=true:=N2.2 he;clear he HD0 HD;generalize Tw.compK k s.data.toList check=cc at*;obtain⟨c1,c2⟩:=cc;simp only at d1 HC HT;go_wp2_with fail;refine(HC.out _ (Zs.of_ext _ Xe)).mono ?_;rintro e w2 ⟨rfl,hx2⟩;go_wp2;go_ret2;exact⟨.slice none 0 0,by rw[HT.out];rfl,by rw[HT.out];exact UH _,((((Ext.refl w).alloc _).trans hx1).alloc _).trans hx2⟩):p:=h
theorem QT(h:p:=by rintro e w1 ⟨rfl,rfl⟩;go_wp2_with (at_builtin;refine YM rfl _ _ rfl (w.heap.size+1) _ P rfl (HM5.out.1.ext ((Ext.refl _).alloc _)) _ 1 [(y,i+1,s)] rfl rfl (E2 _ _) rfl C0 I2 ?_);intro v6 w6 hown6 hg6;have HM6:=B0 (MvM.more HM5.out hown6 hg6);clear hown6 hg6;go_wp2;go_ret;rw[HMV.out];exact⟨_,rfl,HM6.out.1.mono (D3 _),((Ext.refl w).alloc _).trans HM6.out.2⟩):p:=h
theorem QU(h:p:=by subst hJ;clear h1 h2 HM hl hr;go_enter func251,ntmps251;go_wp2_with fail;refine(HP.out _).mono ?_;rintro e w1 ⟨rfl,rfl⟩;go_wp2_with fail;refine(HQ.out _).mono ?_;rintro e w1 ⟨rfl,rfl⟩;go_wp2_with fail;refine(HL.out _).mono ?_;rintro e w2 ⟨rfl,hx2⟩;go_wp2_with fail;refine(HR.out _).mono ?_;rintro e w3 ⟨rfl,hx3⟩;go_wp2;go_ret3;exact⟨by rw[HN.out,halV,<-HAP.out];rfl,hx2.trans hx3⟩):p:=h
theorem QV(h:p:=by go_wp2_with fail;go_ret2;exact⟨_,by rw[HR.out];rfl,by rw[HR.out];exact⟨.inl ⟨rfl,_,_,rfl⟩,none,0,rfl,I0 _⟩,Ext.refl _⟩):p:=h
theorem QW(h:p:=by
 refine⟨(Sl.row hrow).congr ?_,_,_,by rw[N0,WQ,HM.out],by rw[N0,WQ,HM.out];exact I0 _⟩;apply UM;intro i;by_cases hi:i<j;·have hi':i<(Gs.run cs).length:=(by rw[HM.out];exact hi);simp[Gs.text,hi,hi',A1]
 ·have hi':(Gs.run cs).length<=i:=(by rw[HM.out];omega);simp[Gs.text,hi,hi']):p:=h
theorem QX(h:p:=by exact gB):p:=h
theorem QY(h:p:=by rw[V0];omega):p:=h
theorem QZ(h:p:=by exact EE):p:=h
theorem Q0(h:p:=by have hb:(er !=0)=true:=N2.2 h0;rw[G0 h0]at HX;clear h0;subst hk;all_goals go_enter func10,ntmps10;go_wp2_with fail;refine(HE.out _ ((Ext.refl w).alloc _)).mono ?_;rintro e w1 ⟨v1,rfl,hv1,hx1⟩;go_wp2;go_ret2;exact⟨_,by rw[HX.out];rfl,by rw[HX.out];exact SlK.nil _,((Ext.refl w).alloc _).trans hx1⟩):p:=h
theorem Q1(h:p:=by go_enter func154,ntmps154;go_wp2_with fail;refine HIR2.out.mono ?_;rintro e w1 ⟨rfl,rfl⟩;exact gD):p:=h
theorem Q2(h:p:=by
 have hil:=(J1.1 hi).1;rcases h with⟨h1,_⟩|⟨b,o,cap,he,hb,hc⟩;·have:ws=[]:=D9;rw[this]at hil;simp at hil
 ·injection he with h1 h2 h3;refine⟨b,o,h1,hb,(hx.cell (p:=⟨b,o+i,none⟩) hb).trans ?_⟩;rw[hc i (by rw[N0];exact hil),X2,hi];rfl):p:=h
theorem Q3(h:p:=by exact⟨rfl,rfl⟩):p:=h
theorem Q4(h:p:=by clear h1 h2 hkk h3 h2' h4 h5;go_enter func17,ntmps17;go_wp2_with fail;refine(HZ.out _).mono ?_;rintro e w1 ⟨rfl,rfl⟩;go_wp2_with fail;refine(HD.out _).mono ?_;rintro e w1 ⟨rfl,rfl⟩;go_wp2_with fail;refine(HN.out _).mono ?_;exact gE):p:=h
theorem Q5(h:p:=by rintro e w1 ⟨rfl,rfl⟩;go_wp2;go_ret2;exact⟨_,by rw[HX.out];rfl,by rw[HX.out];exact SlK.nil _,Ext.refl _⟩):p:=h
theorem Q6(h:p:=by rw[A1,P0 VD];rfl):p:=h
theorem Q7(h:p:=by go_enter func79,ntmps79;go_wp2_with fail;refine HMG.out.mono ?_;rintro e w1 ⟨rfl,rfl⟩;exact gF):p:=h
theorem Q8(h:p:=by go_wp2_with fail;refine R1 (Ze results13 rfl (Zf f7) rfl) rfl ?_;rw[HD2.out];exact⟨rfl,Zu HX.out (I0 _) _ _ _⟩):p:=h
theorem Q9(h:p:=by
 obtain rfl:j=m.length:=by omega
 have HE:Hid ((m.length:Int)=((Ea.trl m:Nat):Int)):=B0 (by have:=hr.out;rw[J5 (by rw[P4];exact I0 _)]at this;simp only[Ea.ldg]at this;omega);clear hj hlj hr;go_wp2;go_ret2;exact⟨by rw[HL.out];rw[<-HE.out];rfl,rfl⟩):p:=h
theorem BJ(h:p:=by
 obtain rfl:j=E.size:=by omega
 have hsl:=Sl.row hrow;clear hj hlt hrow;go_wp2;go_ret2;refine⟨.slice (some ⟨w3.heap.size,0,none⟩) E.size E.size,by rw[HT.out];rfl,?_,hxw.trans hxr⟩;rw[HT.out];refine hsl.congr ?_;rw[<-bH];exact A8 (fun k hk=>by rw[G0 (by simpa using hk)])):p:=h
theorem xH(h:p:=by
 rw[e]at hst;have HO2:=B0 hst.1;have HX2:=B0 (HX.out.ofGrown hst.2 (fun k hk=>by injection hk with hk;omega));clear e hst hxi HO;go_wp2_with fail;rw[show((48+max x 0)%256-48:Int)=x by omega];go_roundw;case rel=>exact⟨i+1,by omega,by go_num,HO2,HX2⟩
 case measure=>exact Qr):p:=h
theorem xW(h:p:=by exact gE):p:=h
theorem RB(h:p:=by rintro e w1 ⟨rfl,rfl⟩;go_wp2;go_ret2;exact⟨by rw[HT.out];rfl,Ext.refl _⟩):p:=h
theorem jS(h:p:=by go_enter func79,ntmps79;go_wp2_with fail;refine HMG.out.mono ?_;rintro e w1 ⟨rfl,rfl⟩;go_wp2_with fail;refine HWD.out.mono ?_;rintro e w1 ⟨u,rfl,⟨hs,a,c,rfl,hc⟩,hx1⟩;have hnw:=HNW.out;rw[N0,<-hnw];clear hnw;go_wp2;go_ret2;rw[HF.out];exact V4.bad _ _ _ hx1):p:=h
theorem MW(h:p:=by exact⟨fun _ _=>by kernel_rfl,fun _ _=>by kernel_rfl,fun _ _=>by kernel_rfl,fun _ _=>by kernel_rfl,fun _ _=>by kernel_rfl,fun _ _=>by kernel_rfl⟩):p:=h
theorem XU(h:p:=by have:=hx1.size;simp at this;omega):p:=h
theorem C9(h:p:=by rw[G0 h2,G0 (show k<j+1 by omega)]):p:=h
theorem kT(h:p:=by go_wp2_with fail;refine(HCP.out _).mono ?_;rintro e w1 ⟨rfl,rfl⟩;go_wp2_with fail;refine(HCT.out _).mono ?_;rintro e w2 ⟨rfl,hx2⟩;dsimp only;go_wp2;go_ret2;have hr:=HR.out;simp only[A3]at hr;obtain⟨rfl,rfl⟩:=hr;exact ElsR.err _ (hxW.trans (hx.trans hx2))):p:=h
theorem EL(h:p:=by simp only[U1,L4,M4,A3]at hm;rcases hm with⟨rfl,rfl,rfl⟩|⟨rfl,rfl,rfl⟩|⟨rfl,rfl,rfl⟩<;>exact⟨by dsimp only;rw[z0];rfl,I0 _,by dsimp only;omega,by dsimp only;omega,by dsimp only;omega,by dsimp only;omega⟩):p:=h
theorem L7(h:p:=by simp at this;omega):p:=h
theorem kL(h:p:=by clear HP HN hr0 hr;go_wp2;obtain⟨p0,p1,p2,p3⟩:=HQ.out;refine A4 (v:=.tuple #[.string ⟨#[]⟩,.agg #[.int .i64 0,.int .i64 0,.int .i64 0,.int .u8 0],.bool false]) kK rfl ⟨by rw[HRES.out];rfl,Xf⟩):p:=h
theorem uJ(h:p:=by
 intro V w' hx hf;with_reducible refine Zg ?_
 intro A' ρ hA hρ hcst hfun;have h12:ρ (.tmp 12)=.pointer (some ⟨wr.heap.size,0,none⟩):=(X1 hρ _).trans (M8 hA 12 rfl);simp[Zv,go_sem,hcst,↓IntWalk.iteOmega,Ext.refl,h12];try rfl):p:=h
theorem gG(h:p:=by exact⟨by rw[HX.out];rfl,Ext.refl _⟩):p:=h
theorem xK(h:p:=by exact gD):p:=h
theorem AF(h:p:=by unfold optV at HC;dsimp only[Option.getD_none,Option.isSome_none]at HC;go_enter func186,ntmps186;go_wp2_with fail;refine(HC.out _).mono ?_;rintro e w1 ⟨rfl,rfl⟩;go_wp2;go_ret;rw[HM.out];exact⟨_,rfl,KOwn.nil _ _ _ _ _,(Ext.refl w).alloc _⟩):p:=h
theorem qE(h:p:=by go_enter func97,ntmps97;go_wp2;go_quiet (fail);go_wp2;refine A4 (v:=.tuple #[.agg #[.int .i64 ya,.int .i64 yb,.int .i64 yc,.int .u8 (yd.toNat:Int)],.bool true]) KD rfl ⟨by rw[HR.out];rfl,Xf⟩):p:=h
theorem xI(h:p:=by have hO:=HO.out;rw[P1 (by rw[HWL.out];exact I0 _),O3,WI,B3]at hO;have HK:=B0 hO.slk;have hx9:=HX.out;clear hO HO hi hlt;go_wp2;go_ret;rw[HRES.out];exact⟨_,rfl,HK.out,hx9⟩):p:=h
theorem qZ(h:p:=by
 have HE:Hid (Ea.ldg (m.reverse.drop (j+1))+(j+1)=Ea.trl m):=B0 (by have:=HR2.out;simp only[Ea.ldg,PM,I7]at this;omega);go_wp2;go_round;case rel=>exact⟨j+1,by omega,by go_num,HE⟩
 case measure=>exact QD):p:=h
theorem WA(h:p:=by go_wp2_with fail;go_meet;case rel=>exact Q3):p:=h
theorem PW(h:p:=by rw[Z0,hJl,Ea.mS_drop,UD,Y3,Ea.mS_take,XP];rfl):p:=h
theorem uN(h:p:=by clear HD ho;dsimp only[Option.isSome];go_wp2_with fail;refine R1 (Ze results15 rfl (Zb (Zf g7) ((Ext.refl _).alloc _)) rfl) rfl ?_;rw[HF.out];exact⟨rfl,(Zu HX7.out (I0 _) _ _ _).alloc _⟩):p:=h
theorem UW(h:p:=by exact⟨0,0,U0 _,rfl,rfl,by omega,by omega,B0 rfl⟩):p:=h
theorem SZ(h:p:=by exact⟨0,U0 _,rfl,(XV w _ _ _).congr (fun i _=>by simp),Xe⟩):p:=h
theorem jO(h:p:=by
 intro V w' hx hf;with_reducible refine Zg ?_
 intro A ρ hA hρ hcst hfun;have h0:ρ (.tmp 0)=.slice (some ⟨b,o,none⟩) n c:=(X1 hρ _).trans (M8 hA 0 rfl);exact ZM (hk:=by rw[h0];exact⟨Ext.refl _,rfl⟩)):p:=h
theorem yS(h:p:=by
 go_wp2_with fail;go_roundw;case rel=>exact⟨j+1,some (yv,yi,yt),by omega,rfl,by go_num,B0 HPS.out.symm,B0 (Zf g7),B0 (((HGA.out.setRow 0 _).setRow 1 _).setRow 2 _)⟩
 case measure=>exact Qr):p:=h
theorem W4(h:p:=by first|(simp;omega)|omega):p:=h
theorem EC(h:p:=by
 go_wp2_with fail;go_roundw;case rel=>exact⟨i+1,by omega,by go_num,HS3⟩
 case measure=>exact Qr):p:=h
theorem DZ(h:p:=by go_enter func172,ntmps172;go_wp2_with fail;refine(HO.out _).mono ?_;rintro e w1 ⟨rfl,rfl⟩;go_wp2_with fail;refine(HC.out _).mono ?_;rintro e w2 ⟨rfl,hx2⟩;go_wp2;go_ret2;exact⟨by rw[HT.out];rfl,hx2⟩):p:=h
theorem uK(h:p:=by
 intro V w' hx hf;with_reducible refine Zg ?_
 intro A' ρ hA hρ hcst hfun;have h8:ρ (.tmp 8)=.int .i64 SM:=(X1 hρ _).trans (M8 hA 8 rfl);exact ZM (hk:=by rw[h8];exact⟨Ext.refl _,rfl⟩)):p:=h
theorem jN(h:p:=by exact gF):p:=h
theorem sD(h:p:=by exact V4.bad _ _ _ (Ext.refl _)):p:=h
theorem TK(h:p:=by rename_i h1;simp only[A3]at h;exact absurd h.2 h1):p:=h
theorem YE(h:p:=by go_wp2;go_ret;exact⟨rfl,Xe⟩):p:=h
theorem D7(h:p:=by injection h with _ h;cases h):p:=h
theorem kV(h:p:=by refine(HV1.out _ (hxk.alloc _)).mono ?_;rintro e w4 ⟨rfl,hx4⟩;go_wp2;go_ret2;have hr:=HR.out;simp only[A3]at hr;obtain⟨rfl,rfl⟩:=hr;exact ElsR.err _ (hxW.trans ((hxk.alloc _).trans hx4))):p:=h
theorem uU(h:p:=by go_enter func6,ntmps6;go_wp2_with fail;refine(HAW.out _ (Zj HT.out ((Ext.refl w).alloc _))).mono ?_;rintro e w1 ⟨rfl,hx1⟩;go_wp2;go_ret;exact⟨rfl,((Ext.refl w).alloc _).trans hx1⟩):p:=h
theorem yJ(h:p:=by go_enter func138,ntmps138;go_wp2_with fail;refine(HA.out _).mono ?_;rintro e w1 ⟨rfl,rfl⟩;go_wp2_with fail;go_quiet (fail);go_wp2;go_ret;exact⟨by rw[<-HX.out];rfl,(Ext.refl w).drewN _⟩):p:=h
theorem CM(h:p:=by clear hoo;go_wp2_with fail;refine HC1.out.mono ?_;rintro en w5 ⟨rfl,rfl⟩;go_wp2_with fail;refine HC2.out.mono ?_;rintro en w5 ⟨rfl,rfl⟩;go_wp2;go_ret2;exact⟨by rw[HT.out];rfl,hx0.trans hxq⟩):p:=h
theorem BU(h:p:=by
 clear hrow HRW HWJ hiw;generalize ws.getD j 0=x at*;go_wp2;go_roundw;case rel=>exact⟨j+1,by omega,by go_num,by rw[HS1.out],by rw[HS2.out],HR1.out,HX.out _⟩
 case measure=>exact QD):p:=h
theorem KT(h:p:=by
 go_wp2;go_round;case rel=>exact⟨k+1,by omega,by go_num,HO⟩
 case measure=>exact QD):p:=h
theorem KZ(h:p:=by have h2:=HT.out;rw[P1 D8]at h2;rw[h2,HSS.out]):p:=h
theorem Y1(h:p:=by decide+kernel):p:=h
theorem NT(h:p:=by
 rcases h with⟨rfl,a,c,rfl⟩|⟨b,off,cap,rfl,_⟩;·exact⟨a,c,rfl⟩
 ·exact⟨_,_,rfl⟩):p:=h
theorem M5(h:p:=by (repeat' split)<;>omega):p:=h
theorem AS(h:p:=by
 go_wp2_with fail;go_roundw;case rel=>exact⟨j+1,by omega,by go_num,B0 (by rw[HRS.out];exact HTA.out.up (by have:=HK3.out;omega)),HGA⟩
 case measure=>exact Qr):p:=h
theorem vF(h:p:=by
 unfold Tw.read at h'⊢;split;·rename_i i hi;rw[hi]at h';have:=KI hi;simp only at h';simp[h']at this
 ·simp only[N0,G7];omega):p:=h
theorem J9(h:p:=by rw[O0];simp;omega):p:=h
theorem FH(h:p:=by exact RdR.none (Zu hxw (D3 _) _ _ _)):p:=h
theorem UQ(h:p:=by go_wp2;go_ret;exact⟨Z3 HR.out.symm,HX.out⟩):p:=h
theorem V3(h:p:=by simp[go_sem,encI]):p:=h
theorem WC(h:p:=by exact⟨0,U0 _,rfl,B0 rfl⟩):p:=h
theorem sE(h:p:=by exact⟨j+1,t+x,by omega,by go_num,rfl,by omega,by omega,HT2⟩):p:=h
theorem xD(h:p:=by have h3:=R0 (fun l=>l[i]?) ht;rw[XX,G0 (by rw[N0,U8];exact hi),X2,P0 hi]at h3;exact h3):p:=h
theorem EH(h:p:=by
 rcases M2.1 hm with hm|hm;·simp only[U1,L4,M4]at hm;rcases hm with rfl|rfl|rfl<;>simp
 ·exact VF):p:=h
theorem jV(h:p:=by exact⟨0,U0 _,rfl,by simpa using(XV (w.alloc (.cells #[.string ⟨#[]⟩,.string ⟨#[]⟩] 86)) (.int .u8 0) m 5).congr (fun i _=>by simp),Xe⟩):p:=h
theorem X8(h:p:=by rw[G0 h2,G0 C0]):p:=h
theorem xF(h:p:=by
 have h1:X.data.toList[i]? =some (UInt8.ofNat (48+x.toNat)):=by rw[HXE.out,X2,hxi];rfl
 obtain⟨h2,h3⟩:=J1.1 h1;rw[<-h3];rfl):p:=h
theorem kJ(h:p:=by
 have hb:b<w.heap.size:=by rcases N5 b w.heap.size with hh|hh;(·exact hh);·rw[XY hh]at h;simp at h
 rw[hx.block b hb];exact h):p:=h
theorem KK(h:p:=by go_wp2;go_ret;exact⟨Z3 HR.out.symm,HX.out.trans hx2⟩):p:=h
theorem uS(h:p:=by go_wp2_with fail;refine R1 (FZ results26 rfl (Zf f7) rfl rfl) rfl ?_;rw[HF.out];exact⟨rfl,Zu HXR.out (I0 _) _ _ _⟩):p:=h
theorem qY(h:p:=by have HE:Hid ((j:Int)=((Ea.trl m:Nat):Int)):=B0 (by have:=HR2.out;simp only[Ea.ldg,R4]at this;omega);go_wp2;go_ret2;exact⟨by rw[HL.out,HE.out];rfl,rfl⟩):p:=h
theorem Y0(h:p:=by kernel_rfl):p:=h
theorem U5(h:p:=by exact⟨rfl,Xf⟩):p:=h
theorem TQ(h:p:=by go_wp2_with fail;go_meet;case rel=>exact HM):p:=h
theorem LV(h:p:=by go_enter func255,ntmps255;go_wp2;go_ret;exact⟨Z3 HR.out.symm,rfl⟩):p:=h
theorem uF(h:p:=by go_wp2_with fail;refine R1 (Ze results35 rfl (Zf f7) rfl) rfl ?_;rw[HF.out];exact FG):p:=h
theorem ER(h:p:=by
 obtain⟨h1,h2⟩:=h;refine⟨h1,?_⟩;rcases h2 with h2|⟨g,cap,cur,h3,h4,h5⟩;·exact .inl h2
 ·exact .inr ⟨g,cap,cur,h3,L3 hB h4,h5⟩):p:=h
theorem LC(h:p:=by rw[A1,P0 h];exact K4 _):p:=h
theorem BA(h:p:=by exact L3 (DN _ (fun x hx=>by rw[J3]at hx;obtain⟨c,_,rfl⟩:=hx;exact CS _ _ _ _ C0)) D5):p:=h
theorem DC(h:p:=by
 have HS:=B0 hs1;clear hs1;go_wp2;go_round;case rel=>exact⟨k+1,by omega,by go_num,by rw[HS.out];simp[Cd.dg]⟩
 case measure=>exact QD):p:=h
theorem FQ(h:p:=by exact ElsR.err _ (Ext.refl _)):p:=h
theorem GD(h:p:=by have:=R0 List.length e;rw[O0,S0]at this;omega):p:=h
theorem DV(h:p:=by
 obtain rfl:j=n:=by omega
 have HR:=B0 (HRB.out HB.out);have hcv:=Zn hown.sl;clear hj hlt;go_wp2;go_ret2;exact⟨by rw[HR.out];rfl,hxr⟩):p:=h
theorem E1(h:p:=by simp;omega):p:=h
theorem AA(h:p:=by
 clear hc HR;go_wp2;go_roundw;case rel=>exact .inr ⟨k+1,cap,by omega,by omega,by go_num,rfl,HR1.out,HX.out _⟩
 case measure=>exact QD):p:=h
theorem B7(h:p:=by exact decF_here hf hr):p:=h
theorem yR(h:p:=by
 go_wp2_with fail;go_roundw;case rel=>exact⟨j+1,ob,by omega,rfl,by go_num,B0 HPS.out.symm,HBA,HGA⟩
 case measure=>exact Qr):p:=h
theorem xZ(h:p:=by rintro e w1 ⟨rfl,rfl⟩;go_wp2_with fail;refine(HRI.out _).mono ?_;rintro e w2 ⟨rfl,hx2⟩;go_wp2;go_ret2;exact⟨by rw[HX.out,HBS.out];rfl,hx2⟩):p:=h
theorem KA(h:p:=by intro e;have:=R0 List.length e;rw[Za,U2]at this;omega):p:=h
theorem DI(h:p:=by go_enter func52,ntmps52;go_wp2_with fail;refine HF.out.mono ?_;rintro e w1 ⟨rfl,hx1⟩;go_wp2;go_ret2;exact⟨by rw[HV.out];rfl,hx1⟩):p:=h
theorem BZ(h:p:=by
 clear hc HR;go_wp2;go_roundw;case rel=>exact .inr ⟨1,cap,by omega,by omega,rfl,rfl,HR1.out,HX.out _⟩
 case measure=>exact QD):p:=h
theorem zB(h:p:=by rintro e w1 ⟨rfl,rfl⟩;go_wp2_with fail;refine(HRI.out _).mono ?_;rintro e w2 ⟨rfl,hx2⟩;go_wp2;go_ret2;exact⟨by rw[HX.out];rfl,hx2⟩):p:=h
theorem KV(h:p:=by clear h;go_wp2;go_quiet (fail);go_wp2;go_ret;exact⟨HF.out _ HG.out,Xf⟩):p:=h
theorem AH(h:p:=by rintro e w1 ⟨rfl,rfl⟩;go_wp2;go_ret;rw[HMV.out];exact⟨_,rfl,(HM5.out.1.mono (D3 _)).congr (B3 _).symm,HEX.out⟩):p:=h
theorem EJ(h:p:=by
 unfold okC at h;by_cases h3:127<n;·rw[D1 (show¬n<256 by omega),Bool.and_false]
 ·rw[D1 h3,WN]):p:=h
theorem BO(h:p:=by have hy:=h y (B1 ..);simp only[I3];refine ih (fun x hx=>h x (C1 _ hx)) _ ?_;exact L6):p:=h
theorem PO(h:p:=by rw[O0,YP];omega):p:=h
theorem BK(h:p:=by
 simp only[I3];refine⟨by omega,fun x hx=> ?_⟩;rcases U1.1 hx with rfl|hx;·omega
 ·exact h.2 x hx):p:=h
theorem VA(h:p:=by simp[Tw.isIn];omega):p:=h
theorem WJ(h:p:=by rw[FB];omega):p:=h
theorem yN(h:p:=by go_wp2;refine R1 (Ze results78 rfl (E2 _ _) rfl) rfl ?_;exact⟨by rw[<-HX.out];rfl,Xf⟩):p:=h
theorem EF(h:p:=by rw[List.find?_eq_some_iff_getElem];refine⟨by simpa using h,j,by simpa using hj,by simp,fun i hi=> ?_⟩;simpa using hb i hi):p:=h
theorem xA(h:p:=by exact⟨i,i+1,pre++[x],rfl,by go_num,by omega,by omega,hpl2,HR2,by first|exact HS2|exact B0 (.inr rfl),HJ3,HB3,HBX3⟩):p:=h
theorem WF(h:p:=by rw[Zc hs,Ea.mS_len]):p:=h
theorem LD(h:p:=by exact⟨0,U0 _,rfl,B0 (fun x hx=>by simp at hx)⟩):p:=h
theorem yH(h:p:=by go_wp2;refine R1 (Ze results214 rfl (Zf HB) rfl) rfl ?_;exact⟨by rw[HG.out];rfl,Xf⟩):p:=h
theorem yE(h:p:=by go_wp2;refine R1 (Ze results212 rfl (Zf HB) rfl) rfl ?_;exact⟨by rw[HG.out];rfl,Xf⟩):p:=h
theorem EM(h:p:=by
 congr 3;by_cases h:l.length%2=0;·rw[G0 h,D0 C0]
 ·rw[D0 h,G0 C0,Bool.not_not]):p:=h
theorem qM(h:p:=by
 go_wp2;go_roundw;case rel=>exact⟨j+1,by omega,by go_num,HR5.out,HX.out⟩
 case measure=>exact QD):p:=h
theorem LW(h:p:=by go_wp2_with fail;go_ret2;rw[HF.out];exact V4.bad _ _ _ hx9):p:=h
theorem VF(h:p:=by exact key _ _ _ hm C0):p:=h
theorem yQ(h:p:=by
 clear hx;go_wp2;go_round;case rel=>exact⟨j+1,by omega,by go_num⟩
 case measure=>exact Qr):p:=h
theorem LF(h:p:=by subst h1;rw[G0 rfl,G0 (show k<k+1 by omega),hbb];rfl):p:=h
theorem MT(h:p:=by rw[hxr.cell (p:=⟨w.heap.size,0,none⟩) hl0];exact F0.out):p:=h
theorem ZZ(h:p:=by rw[G0 h2]at h;cases h):p:=h
theorem JP(h:p:=by rw[D0 hg,D0 hg,G0 (show(8:Int)≠0 by decide)]):p:=h
theorem jM(h:p:=by
 go_wp2;go_round;case rel=>exact⟨j+1,by omega,by go_num,HB2⟩
 case measure=>exact Qr):p:=h
theorem DR(h:p:=by go_wp2_with fail;refine HJ.out.mono ?_;rintro e w1 ⟨rfl,hx1⟩;go_wp2;go_ret;exact⟨rfl,hxr.trans hx1⟩):p:=h
theorem F7(h:p:=by unfold maxLen;omega):p:=h
theorem GN(h:p:=by simp only[N1,V1]at hc';omega):p:=h
theorem LU(h:p:=by rw[hz]at e;injection e with e;subst e;exact Hp.lessS_ir _):p:=h
theorem DU(h:p:=by exact⟨0,U0 _,rfl,Own.nil _ _ _,B0 (fun m hm=>absurd hm (YB _)),Ext.refl _⟩):p:=h
theorem JX(h:p:=by rw[hr]at this;injection this with h1 h2;exact⟨h1,h2⟩):p:=h
theorem EW(h:p:=by
 rcases N5 i xs.length with h|h;·exact h
 ·rw[YN h]at hi;simp at hi):p:=h
theorem FU(h:p:=by
 split;·exact WP
 ·exact U0 _):p:=h
theorem kB(h:p:=by unfold Tw.counts at h1⊢;simp only[N1,V1,Bool.toNat_false]at h1⊢;omega):p:=h
theorem qJ(h:p:=by
 go_wp2;go_round;case rel=>exact⟨j+1,by omega,by go_num,HO⟩
 case measure=>exact QD):p:=h
theorem yU(h:p:=by
 rcases ih.2 with e|⟨r,e⟩;·left;rw[e]
 ·right;exact⟨r,by rw[P2,<-e]⟩):p:=h
theorem FE(h:p:=by first|(have:=HSB.out;simp;omega)|(have:=HSB.out;omega)):p:=h
theorem DW(h:p:=by rintro e w1 ⟨rfl,rfl⟩;go_wp2;go_ret2;exact⟨by rw[HT.out];exact YG rfl rfl,Ext.refl _⟩):p:=h
theorem BT(h:p:=by go_wp2;go_ret2;exact⟨.slice none 0 0,by rw[HT.out];rfl,by rw[HT.out];exact UH _,Ext.refl _⟩):p:=h
theorem PP(h:p:=by exact⟨0,U0 _,rfl,HOm,HXm⟩):p:=h
theorem NK(h:p:=by rw[hn j h1 h2,M6];simp[tabs,tab0,least]):p:=h
theorem NI(h:p:=by rw[n2 _ _ (.inr C0),n1 _ _ (.inr C0)]):p:=h
theorem kI(h:p:=by exact L3 (VQ 32 (show xs.length+1<=1000000000 by omega)) J0):p:=h
theorem AG(h:p:=by have HO5:=B0 hown5;clear hown5 hg5;go_wp2;go_ret;rw[HM.out];exact⟨_,rfl,HO5.out,HX5.out⟩):p:=h
theorem kH(h:p:=by intro u' hu;simp only[U1,L4,M4]at hu;rcases hu with rfl|rfl<;>rfl):p:=h
theorem zM(h:p:=by rw[G2,Bool.eq_false_iff];intro h;exact a3 ((XK a).1 (List.isEmpty_iff.1 h))):p:=h
theorem GX(h:p:=by simp only[N1,V1];omega):p:=h
theorem AN(h:p:=by obtain⟨x,h1,h2,h3⟩:=key j m' w' hm hw;unfold lessS at h1;split at h1<;>simp at h1<;>omega):p:=h
theorem XB(h:p:=by rw[G0 h1]at h;cases h):p:=h
theorem KS(h:p:=by go_wp2;go_ret;exact⟨Zm HF.out.symm,rfl⟩):p:=h
theorem KE(h:p:=by go_wp2;go_ret;exact⟨Zm HR.out.symm,rfl⟩):p:=h
theorem LE(h:p:=by go_wp2;go_ret;exact⟨Zm HN.out.symm,rfl⟩):p:=h
theorem EK(h:p:=by rw[G4 h,A1,P0 h];rfl):p:=h
theorem KH(h:p:=by go_wp2;go_ret;exact⟨Zm HR.out.symm,Xf⟩):p:=h
theorem V6(h:p:=by simpa using this):p:=h
theorem kN(h:p:=by obtain⟨h1,h2⟩:=J1.1 hxk;rw[G4 h1,h2]):p:=h
theorem LK(h:p:=by go_wp2_with fail;go_meet;case rel=>exact HM5):p:=h
theorem BE(h:p:=by exact⟨0,U0 _,rfl,(XV w3 _ _ _).congr (fun i _=>by simp),Xe⟩):p:=h
theorem SO(h:p:=by exact⟨0,U0 _,rfl,rfl⟩):p:=h
theorem EN(h:p:=by rw[hcs,<-hrd,G1,<-VI,C6];exact hs):p:=h
theorem WP(h:p:=by exact I0 _):p:=h
theorem EY(h:p:=by
 have h:c<48:=by assumption
 go_ret;exact⟨Zm (by simp[Cd.isDig];omega),rfl⟩):p:=h
theorem jF(h:p:=by rw[P1 D8]at h2;rw[h2,HS.out]):p:=h
theorem BH(h:p:=by subst h1;rw[G0 rfl,G0 (show k<k+1 by omega),XO E k hlt,D0 h119];rfl):p:=h
theorem BF(h:p:=by subst h1;rw[G0 rfl,G0 (show k<k+1 by omega),XO E k hlt,G0 h119];rfl):p:=h
theorem UG(h:p:=by rw[h1,h2]at this;exact this):p:=h
theorem zS(h:p:=by rw[show(48+(d:Int))=((48+d:Nat):Int) by omega];exact PU (48+d) C0):p:=h
theorem EX(h:p:=by
 have h:48<=c:=by assumption
 go_ret;exact⟨Zm (by simp[Cd.isDig,h]),rfl⟩):p:=h
theorem R2(h:p:=by exact this):p:=h
theorem zE(h:p:=by rw[Z0];exact P1 JI):p:=h
theorem yV(h:p:=by simp only[Gs.parseF,A3,F5]at h;exact⟨[],by simp[h],rfl,rfl⟩):p:=h
theorem xE(h:p:=by
 rcases h.2 with⟨h1,_⟩|⟨g',cap,cur,h1,_⟩;·cases h1
 ·injection h1):p:=h
theorem qH(h:p:=by rw[Bool.and_eq_false_iff,KW,KW];omega):p:=h
theorem DP(h:p:=by
 unfold Tw.pat Tw.cutAt;split;·simp
 ·simp only[L1];omega):p:=h
theorem A9(h:p:=by have:=HN.out;omega):p:=h
theorem NP(h:p:=by rw[L1,L2];omega):p:=h
theorem PY(h:p:=by exact⟨by rw[HS.out];rfl,Xf⟩):p:=h
theorem JN(h:p:=by rw[<-hJ,Z0,hs,Ea.mS_drop,Ea.mS_take]):p:=h
theorem UR(h:p:=by rw[G0 h3]at h;cases h):p:=h
theorem UK(h:p:=by unfold Cs.okC at hx;omega):p:=h
theorem DB(h:p:=by exact⟨j,by omega,by go_num,by rw[HS.out];simp[Cd.dg],by rw[HS.out];rfl⟩):p:=h
theorem EZ(h:p:=by exact⟨s.size,I0 _,rfl,by rw[TY];rfl,by rw[TY];rfl⟩):p:=h
theorem EI(h:p:=by show List.foldl _ _ ([_,_,_]++one _ _)=_;rw[V9,fold_one];rfl):p:=h
theorem yZ(h:p:=by
 have:(UInt8.ofNat c.toNat).toNat=c.toNat:=E1
 rw[this];omega):p:=h
theorem yF(h:p:=by exact⟨by rw[HG.out];unfold symV linV;dsimp only;rw[<-HSS.out];rfl,Xf⟩):p:=h
theorem zT(h:p:=by rw[Zc hJl,Ea.mS_len,L1,L2,hW];rfl):p:=h
theorem UO(h:p:=by exact E2 _ _):p:=h
theorem yK(h:p:=by
 have h':i=0∨i=1∨i=2:=by omega
 rcases h' with rfl|rfl|rfl<;>decide):p:=h
theorem EG(h:p:=by rw[List.find?_eq_none];intro i hi;simpa using hb i WR):p:=h
theorem yD(h:p:=by rw[G0 hg,G0 hg,D0 L0,D0 (fun h=>by cases h.1)]):p:=h
theorem DX(h:p:=by go_wp2;go_ret;exact⟨by rw[HT.out];exact XL rfl,Ext.refl _⟩):p:=h
theorem zL(h:p:=by rw[Ea.addn_len a1' UZ,Za];exact hw47):p:=h
theorem CN(h:p:=by clear hst;go_wp2;go_ret2;exact⟨by rw[HT.out];rfl,hx0.trans hxr⟩):p:=h
theorem GY(h:p:=by rw[G0 hc]at h1;exact absurd h1 hc):p:=h
theorem AK(h:p:=by simp[Lit.wf];have:IntKind.i64.min= -9223372036854775808:=rfl;omega):p:=h
theorem LB(h:p:=by exact .inr (C1 _ h)):p:=h
theorem MR(h:p:=by rw[show 2*(j+1)=2*j+1+1 by omega];rfl):p:=h
theorem xC(h:p:=by rw[U8,JC];exact toList_madeCells_one _ _):p:=h
theorem qL(h:p:=by go_wp2;go_end0;exact⟨rfl,q',HQ2.out,HH2.out,HP2.out,HG2.out⟩):p:=h
theorem CL(h:p:=by intro h;have:=Zc h;rw[U2]at this;omega):p:=h
theorem EQ(h:p:=by
 unfold Addr.add;split;·rename_i h;subst h;rfl
 ·simp):p:=h
theorem vD(h:p:=by rename_i hv;simp only[A3]at h;exact absurd h.2.2 hv):p:=h
theorem qQ(h:p:=by exact⟨⟨digs_take h _,hz5⟩,digs_take (digs_drop h _) _⟩):p:=h
theorem qN(h:p:=by subst h1;rw[G0 rfl,G0 C0,HB.out];exact hx.symm):p:=h
theorem jP(h:p:=by exact ZM (hk:=by rw[h6];exact⟨Ext.refl _,rfl⟩)):p:=h
theorem JM(h:p:=by rw[Zc hs,Ea.mS_len,hW]):p:=h
theorem kU(h:p:=by rw[<-HKD.out];exact Z7 (by rw[Zz,ZI])):p:=h
theorem WO(h:p:=by have:=HQ.out;omega):p:=h
theorem MH(h:p:=by rw[L1]at this;omega):p:=h
theorem EU(h:p:=by exact .inl ⟨V2 h0,_,_,hnil⟩):p:=h
theorem jX(h:p:=by rw[<-Za,hD,L2];have:=HTL.out.1;omega):p:=h
theorem yI(h:p:=by go_wp2;go_ret2;exact⟨by rw[HG.out];rfl,hxr.trans hx3⟩):p:=h
theorem AD(h:p:=by rw[hx.block b (F3.1 h).1];exact h):p:=h
theorem DH(h:p:=by clear hq;go_wp2;go_ret;exact⟨Z3 HV.out.symm,hXY⟩):p:=h
theorem zN(h:p:=by clear a25 z25;clear h1 h2 h2' h3 h5 hkk hn1 HF;go_enter func64,ntmps64;go_wp2_with fail;refine(HZ.out _).mono ?_;rintro e w1 ⟨rfl,rfl⟩;go_wp2_with fail;refine(HD.out _).mono ?_;rintro e w1 ⟨rfl,rfl⟩;go_wp2_with fail;refine(HN.out _).mono ?_;exact Qg):p:=h
theorem zJ(h:p:=by clear h1 h2 h2' h3 h5 hkk hn1 HF;go_enter func64,ntmps64;go_wp2_with fail;refine(HZ.out _).mono ?_;rintro e w1 ⟨rfl,rfl⟩;go_wp2_with fail;refine(HD.out _).mono ?_;rintro e w1 ⟨rfl,rfl⟩;go_wp2_with fail;refine(HN.out _).mono ?_;exact Qz):p:=h
theorem zY(h:p:=by clear g2 HL HR HM HJ hJ hJs;go_enter func251,ntmps251;go_wp2_with fail;refine(HP.out _).mono ?_;rintro e w1 ⟨rfl,rfl⟩;go_wp2_with fail;refine(HQ.out _).mono ?_;rintro e w1 ⟨rfl,rfl⟩;go_wp2;go_ret3;exact gG):p:=h
theorem jZ(h:p:=by
 have HR:Hid (res=(([],[]),0,Gs.ver ai d)):=B0 (HS4.out hver);obtain⟨z1,hz1⟩:∃z1,Gs.ver ai d=z1:=⟨_,rfl⟩;rw[hz1]at HV1 HR hver;have hz2:(z1==0)=false:=by simpa using hver
 clear hver HS4 HS5 HS6' hz1;exact Qe):p:=h
theorem zQ(h:p:=by clear a25 z25;clear h1 h2 h2' h3 h5 hkk hn1 HF h4;go_enter func64,ntmps64;go_wp2_with fail;refine(HZ.out _).mono ?_;rintro e w1 ⟨rfl,rfl⟩;go_wp2_with fail;refine(HD.out _).mono ?_;exact Qg):p:=h
theorem US(h:p:=by go_enter func47,ntmps47;go_wp2;go_ret;exact Q3):p:=h
theorem VR(h:p:=by go_wp2;go_ret;exact Q3):p:=h
theorem zP(h:p:=by clear h1 h2 h2' h3 h5 hkk hn1 HF h4;go_enter func64,ntmps64;go_wp2_with fail;refine(HZ.out _).mono ?_;rintro e w1 ⟨rfl,rfl⟩;go_wp2_with fail;refine(HD.out _).mono ?_;exact Qz):p:=h
theorem qF(h:p:=by go_wp2;refine A4 (v:=.tuple #[.agg #[.int .i64 0,.int .i64 0,.int .i64 0,.int .u8 0],.bool false]) KD rfl ⟨by rw[HR.out];rfl,Xf⟩):p:=h
theorem PJ(h:p:=by go_enter func108,ntmps108;go_wp2;go_ret2;exact Q3):p:=h
theorem zZ(h:p:=by clear g1 HL HR HM HJ hJ hJs;go_enter func251,ntmps251;go_wp2_with fail;refine(HP.out _).mono ?_;rintro e w1 ⟨rfl,rfl⟩;go_wp2;go_ret3;exact gG):p:=h
theorem uW(h:p:=by exact⟨by rw[HG.out];unfold gotV linV;dsimp only;rw[HT.out];rfl,((HXX.setCell (I0 _) _).setCell (I0 _) _).setCell (I0 _) _⟩):p:=h
theorem xY(h:p:=by go_enter func17,ntmps17;go_wp2_with fail;refine(HZ.out _).mono ?_;rintro e w1 ⟨rfl,rfl⟩;go_wp2_with fail;refine(HD.out _).mono ?_;exact xW):p:=h
theorem gC(h:p:=by clear hx5;go_wp2_with fail;refine(HAW.out _ (Zj HT.out HX6.out)).mono ?_;rintro e w6 ⟨rfl,hx6⟩;go_wp2;go_ret;exact⟨rfl,HX6.out.trans hx6⟩):p:=h
theorem zI(h:p:=by go_enter func64,ntmps64;go_wp2_with fail;refine(HZ.out _).mono ?_;rintro e w1 ⟨rfl,rfl⟩;go_wp2_with fail;refine(HD.out _).mono ?_;exact Q5):p:=h
theorem VK(h:p:=by go_enter func245,ntmps245;exact QR):p:=h
theorem AP(h:p:=by clear hc;go_enter func372,ntmps372;go_wp2_with fail;go_quiet (fail);go_wp2_with fail;go_quiet (fail);go_wp2;go_ret;exact U5):p:=h
theorem uL(h:p:=by go_wp2_with fail;refine R1 (Ze results15 rfl (E2 w _) rfl) rfl ?_;rw[HD.out];exact U5):p:=h
theorem uG(h:p:=by go_wp2_with fail;refine R1 (Ze results13 rfl (E2 w _) rfl) rfl ?_;rw[HD.out];exact U5):p:=h
theorem BI(h:p:=by have HX1:=B0 (hxr.setCell (p:=⟨w3.heap.size,j,none⟩) (I0 _) (.int .i64 1));clear hrow h119;exact Qx):p:=h
theorem uY(h:p:=by go_wp2_with fail;refine(HI.out _).mono ?_;rintro en w4 ⟨rfl,rfl⟩;go_wp2;go_ret2;exact⟨by rw[HR.out];rfl,hx3⟩):p:=h
theorem uE(h:p:=by go_wp2_with fail;refine R1 (Ze results35 rfl (Zf f7) rfl) rfl ?_;rw[HR1.out];exact FH):p:=h
theorem uD(h:p:=by go_wp2_with fail;refine R1 (Ze results35 rfl (Zf f7) rfl) rfl ?_;rw[HF.out];exact FH):p:=h
theorem EO(h:p:=by have HF:Hid (Cs.valOf c 3=none):=B0 EP;exact QO):p:=h
theorem NS(h:p:=by go_enter func244,ntmps244;go_wp2;go_ret;exact QZ):p:=h
theorem uZ(h:p:=by
 go_wp2;go_roundw;case rel=>exact⟨j+1,by omega,by go_num,HR1.out,HX1.out⟩
 case measure=>exact QD):p:=h
theorem zO(h:p:=by rintro e w1 ⟨rfl,rfl⟩;go_wp2_with fail;refine(HRI.out _).mono ?_;rintro e w2 ⟨rfl,hx2⟩;exact QX):p:=h
theorem FG(h:p:=by exact RdR.some (Zu hxw (D3 _) _ _ _)):p:=h
theorem OZ(h:p:=by go_wp2;go_ret2;rw[HR2.out];exact sD):p:=h
theorem uX(h:p:=by have HN:=HRN.out h1;clear h1 hin;generalize Lib.indexByte edge.data.toList c=x at*;exact Qf):p:=h
theorem MC(h:p:=by rintro e w' ⟨rfl,rfl⟩;exact YE):p:=h
theorem qK(h:p:=by clear HV5;go_wp2_with fail;refine(HDT.out _).mono ?_;rintro e w2 ⟨rfl,hx2⟩;exact KK):p:=h
theorem DY(h:p:=by go_enter func172,ntmps172;go_wp2_with fail;refine(HO.out _).mono ?_;exact RB):p:=h
theorem BB(h:p:=by rw[G0 h0]at HT;have hs0:s=⟨#[]⟩:=Z7 h0;subst hs0;clear h0;exact Qo):p:=h
theorem gE(h:p:=by rintro e w1 ⟨rfl,rfl⟩;go_wp2;go_ret2;exact⟨by rw[HX.out];rfl,Ext.refl _⟩):p:=h
theorem NG(h:p:=by subst hJ;clear h1 h2 HM;exact Qd):p:=h
theorem gB(h:p:=by go_wp2;go_ret2;exact⟨_,by rw[HX.out];rfl,by rw[HX.out];exact SlK.nil _,hx2⟩):p:=h
theorem kS(h:p:=by go_enter func18,ntmps18;go_wp2_with fail;go_ret2;rw[HP.out];exact FQ):p:=h
theorem qO(h:p:=by have:=rcg_drw both t ht [] l us rest h1 C0 h4;rw[h2]at this;exact R2):p:=h
theorem qP(h:p:=by rw[step 95 0 _ J2,step 95 2 _ J2];exact B7):p:=h
theorem uI(h:p:=by
 clear hxj;go_wp2;go_round;case rel=>exact sE
 case measure=>exact Qr):p:=h
theorem TR(h:p:=by go_wp2;go_ret2;exact FQ):p:=h
theorem gD(h:p:=by go_wp2_with fail;go_ret2;rw[HR.out];exact PS.bad _ _ _ (Ext.refl _)):p:=h
theorem DA(h:p:=by subst hlt;simp only[I4,YD]at hb1 hb2⊢;exact QQ):p:=h
theorem gF(h:p:=by go_wp2;go_ret2;rw[HF.out];exact V4.bad _ _ _ (Ext.refl _)):p:=h
theorem L6(h:p:=by split<;>omega):p:=h
theorem EE(h:p:=by exact⟨by rw[HF.out];rfl,rfl⟩):p:=h
theorem KO(h:p:=by go_enter func211,ntmps211;exact VR):p:=h
theorem KP(h:p:=by go_enter func49,ntmps49;exact VR):p:=h
theorem DD(h:p:=by go_wp2_with fail;refine(NX _ _).mono ?_;exact MC):p:=h
theorem C0(h:p:=by omega):p:=h
theorem M0(h:p:=by kernel_rfl):p:=h
theorem J0(h:p:=by decide):p:=h
theorem L0(h:p:=by simp):p:=h
theorem J2(h:p:=by rw[hb];decide):p:=h
theorem Y6(h:p:=by first|exact hown5|(rw[B4];exact hown5)):p:=h
theorem U3(h:p:=by rw[<-HN.out];exact hlt):p:=h
theorem I2(h:p:=by simp;omega):p:=h
theorem D5(h:p:=by rw[N0];omega):p:=h
theorem D8(h:p:=by rw[<-HN.out];exact I0 _):p:=h
theorem O5(h:p:=by rw[L1];omega):p:=h
theorem G5(h:p:=by unfold maxLen;omega):p:=h
theorem F4(h:p:=by simpa using h2):p:=h
theorem E7(h:p:=by rw[L2];omega):p:=h
theorem H5(h:p:=by dsimp only;omega):p:=h
theorem Y8(h:p:=by rw[FB];omega):p:=h
theorem YZ(h:p:=by rw[C3];exact I0 _):p:=h
theorem TS(h:p:=by rw[WY,<-HO.out,HOX.out HBO.out.symm,HF.out]):p:=h
theorem R7(h:p:=by rw[<-HN.out];omega):p:=h
theorem A6(h:p:=by simpa using h):p:=h
theorem TE(h:p:=by rw[L1,L2,hW];rfl):p:=h
theorem XH(h:p:=by rw[B4];exact h1):p:=h
theorem M7(h:p:=by decide+kernel):p:=h
theorem Y7(h:p:=by simpa using hm):p:=h
theorem JF(h:p:=by rw[<-hR];simp only[VT,X2,hRd];rfl):p:=h
theorem TA(h:p:=by rw[HRL.out];exact I0 _):p:=h
theorem YH(h:p:=by rw[Za];omega):p:=h
theorem FP(h:p:=by unfold encS at p0 p1;simp[results,results142,go_sem,p0,p1]):p:=h
theorem MX(h:p:=by intro e;injection e with e1;first|exact h1 e1|exact h1 e1.symm):p:=h
theorem P8(h:p:=by simpa using hw):p:=h
theorem W8(h:p:=by simpa using h0):p:=h
theorem D9(h:p:=by simpa using h1):p:=h
theorem zG(h:p:=by apply Z7;simp only[X3,C4,hAl,hBl];rw[Ea.bS_list,HSY.out];simp only[Ea.mS_app];rfl):p:=h
theorem WB(h:p:=by rw[HQ.out.len];omega):p:=h
theorem zV(h:p:=by rw[G2,c3,U4,C2,V1,show [48,49,48,49,48]=Ea.mS Ea.md from rfl,Ea.mS_inj]):p:=h
theorem NA(h:p:=by simp only[HAI.out,HD.out];exact hx5):p:=h
theorem PF(h:p:=by rw[Za];exact hlt):p:=h
theorem UV(h:p:=by unfold Go.maxLen;omega):p:=h
theorem JJ(h:p:=by rw[X3,C4];rfl):p:=h
theorem UZ(h:p:=by rw[Za];exact a25):p:=h
theorem G9(h:p:=by rw[hc];rfl):p:=h
theorem WL(h:p:=by rw[hRl];exact hi):p:=h
theorem OM(h:p:=by rw[HN.out];exact I0 _):p:=h
theorem qU(h:p:=by rw[<-HR.out];simp only[X3,C4,HN.out,HC.out,Z0,HD.out];rfl):p:=h
theorem VD(h:p:=by rw[Za];exact h):p:=h
theorem qX(h:p:=by rw[G4 (by rw[P4];exact hlj),List.getElem_reverse,hb]):p:=h
theorem PH(h:p:=by rw[S0,h3];rfl):p:=h
theorem WR(h:p:=by simpa using hi):p:=h
theorem FO(h:p:=by rw[N0];have:=HTL.out.1;omega):p:=h
theorem RL(h:p:=by rw[<-HN.out];exact hi1):p:=h
theorem OB(h:p:=by rw[<-HN.out];exact hl):p:=h
theorem jY(h:p:=by simp only[HAI.out,HD.out]at p0 p1;simp[results,results142,go_sem,p0,p1]):p:=h
theorem KD(h:p:=by simp[results,results97,go_sem]):p:=h
theorem xG(h:p:=by rw[O0,C3,L1,HWL.out];omega):p:=h
theorem JI(h:p:=by rw[L2,Za];omega):p:=h
theorem WK(h:p:=by rw[a25];rfl):p:=h
theorem zK(h:p:=by simp only[X3,C4,hLl,hYl,hQl,Ea.mS_app]):p:=h
theorem MK(h:p:=by rw[N0,Za];omega):p:=h
theorem VE(h:p:=by simpa using h4):p:=h
theorem TV(h:p:=by rw[h];exact hm):p:=h
theorem OO(h:p:=by rw[HN.out];exact hlt):p:=h
theorem LY(h:p:=by intro e;injection e with e;omega):p:=h
theorem FR(h:p:=by rw[N0,HN.out];omega):p:=h
theorem UU(h:p:=by rw[hz2];omega):p:=h
theorem NF(h:p:=by have:=HJ0.out;omega):p:=h
theorem JE(h:p:=by rw[<-hR];simp[Value.oneCell']):p:=h
theorem JK(h:p:=by rw[<-hQ];simp[Value.oneCell']):p:=h
theorem JY(h:p:=by rw[hf];exact Bool.noConfusion):p:=h
theorem NV(h:p:=by rw[N0];exact hn):p:=h
theorem qS(h:p:=by rw[<-HRES.out];exact HN.out (by unfold Cd.isDig;simp;omega)):p:=h
theorem JU(h:p:=by rw[Zz,hs,Ea.mS_take]):p:=h
theorem VX(h:p:=by rw[h1];rfl):p:=h
theorem BC(h:p:=by rw[G2,UC];exact h0):p:=h
theorem MZ(h:p:=by have:=hx2.size;exact L7):p:=h
theorem zW(h:p:=by rw[HX.out];exact D0 (SC hmm.symm)):p:=h
theorem JR(h:p:=by have:=hx5.size;exact L7):p:=h
theorem zF(h:p:=by rw[L1,L2,Za];omega):p:=h
theorem zX(h:p:=by rw[HX.out];exact G0 (N3 hmm.symm)):p:=h
theorem OP(h:p:=by simpa using hz):p:=h
theorem JL(h:p:=by rw[<-HRL.out];exact hi):p:=h
theorem GA(h:p:=by rw[<-HT.out];exact hn1):p:=h
theorem NE(h:p:=by rw[h1];decide):p:=h
theorem zC(h:p:=by rw[Ea.exp7_len (by rw[Za];exact h7)];omega):p:=h
theorem kK(h:p:=by simp[results,results218,go_sem,p0,p1,p2,p3]):p:=h
theorem FT(h:p:=by have:=HCR.out.2;omega):p:=h
theorem yC(h:p:=by unfold halv;rw[D0 (fun h=>h g1),G0 g2]):p:=h
theorem uM(h:p:=by have h:=ho rfl;injection h with h;rw[HD.out,h]):p:=h
theorem CF(h:p:=by rw[show 2*(j+1+1)=2*(j+1)+1+1 by omega];rfl):p:=h
theorem xS(h:p:=by rw[N0,HDL.out,Za];omega):p:=h
theorem jW(h:p:=by rw[L2];have:=HTL.out.1;omega):p:=h
theorem BG(h:p:=by rw[MY,V0];exact h119):p:=h
theorem xL(h:p:=by rw[Z2 hxj,Rn.sum_snoc,<-HT.out]):p:=h
theorem xX(h:p:=by rcases hkk with rfl|rfl|rfl|rfl<;>decide):p:=h
theorem kY(h:p:=by rw[Z2 hLj,Rn.sum_snoc,<-HT.out]):p:=h
theorem FL(h:p:=by rw[P1 D8];exact hx):p:=h
theorem DQ(h:p:=by rw[A1,P0 PF];rfl):p:=h
theorem BD(h:p:=by rw[hx03.cell (p:=⟨w.heap.size,0,none⟩) L0];simp[go_sem]):p:=h
theorem EP(h:p:=by unfold Cs.valOf;rw[D0 C0,D0 C0]):p:=h
theorem uV(h:p:=by unfold Ln.want0;rw[D0 C0,D0 C0]):p:=h
def B0:=@Lib.hid
def D0:=@if_neg
def G0:=@if_pos
def P0:=@List.getElem?_eq_getElem
def O0:=@List.length_append
def I0:=@Nat.le_refl
def N0:=@List.length_map
def A1:=@List.getD_eq_getElem?_getD
def V0:=@beq_eq_false_iff_ne
def S0:=@List.length_cons
def J1:=@List.getElem?_eq_some_iff
def C1:=@List.mem_cons_of_mem
def B1:=@List.mem_cons_self
def I1:=@List.mem_of_getElem?
def U0:=@Nat.zero_le
def P1:=@List.take_of_length_le
def V2:=@List.eq_nil_of_length_eq_zero
def G1:=@List.append_assoc
def R0:=@congrArg
def M1:=@Nat.lt_of_lt_of_le
def D1:=@decide_eq_false
def L1:=@List.length_take
def F1:=@decide_eq_true
def N1:=@Bool.and_eq_true
def V1:=@decide_eq_true_eq
def S1:=@List.all_eq_true
def F3:=@Array.getElem?_eq_some_iff
def A2:=@Option.some.injEq
def E3:=@List.getElem?_cons_zero
def C3:=@List.length_replicate
def L2:=@List.length_drop
def G2:=@Lib.toList_data
def E2:=@heap_alloc_new
def X2:=@List.getElem?_map
def M2:=@List.mem_append
def Y2:=@List.mem_singleton
def U1:=@List.mem_cons
def P2:=@List.cons_append
def R1:=@bodyPost_ret
def U2:=@List.length_nil
def R3:=@List.getElem?_cons_succ
def M3:=@Decidable.of_not_not
def X3:=@ByteArray.data_append
def B3:=@List.append_nil
def G4:=@List.drop_eq_getElem_cons
def C2:=@beq_iff_eq
def A3:=@Prod.mk.injEq
def I3:=@List.foldl_cons
def N3:=@of_decide_eq_true
def C4:=@Array.toList_append
def N2:=@bne_iff_ne
def D4:=@List.replicate_succ
def X1:=@congrFun
def D3:=@Nat.le_succ
def J3:=@List.mem_map
def J5:=@List.drop_of_length_le
def O4:=@List.reverse_append
def P4:=@List.length_reverse
def A4:=@bodyPost_ret_by
def B4:=@List.map_append
def B6:=@Int.eq_ofNat_of_zero_le
def L3:=@Nat.le_trans
def Y3:=@List.drop_drop
def I5:=@Joins.block_setCell
def L5:=@List.mem_of_mem_take
def J4:=@World.ownsRow.lt
def E4:=@List.nil_append
def O3:=@Nat.sub_self
def C6:=@List.take_append_drop
def N6:=@List.reverse_replicate
def K4:=@List.getElem_mem
def L4:=@List.not_mem_nil
def P3:=@Nat.zero_add
def F6:=@List.length_pos_iff
def U4:=@Bool.eq_iff_iff
def I4:=@List.drop_zero
def E5:=@List.take_length
def P5:=@List.flatMap_cons
def R5:=@List.take_add_one
def P7:=@List.getElem?_set_self
def N4:=@List.mem_range
def X9:=@List.take_append_of_le_length
def B5:=@List.drop_left
def R6:=@Int.toNat_natCast
def W6:=@Bool.not_eq_false
def Y4:=@List.map_cons
def X7:=@List.mem_of_mem_drop
def H6:=@Nat.min_eq_left
def M6:=@List.drop_length
def YA:=@List.getElem?_append_left
def A8:=@List.map_congr_left
def G7:=@List.length_range
def V7:=@Decidable.not_not
def K9:=@ByteArray.size_append
def O6:=@List.length_set
def T6:=@wp_region_quiet
def I9:=@List.getElem?_set_ne
def N5:=@Nat.lt_or_ge
def XE:=@List.getElem?_append_right
def P6:=@List.take_left
def H7:=@Option.map_some
def O7:=@UInt8.toNat_inj
def YN:=@List.getElem?_eq_none
def YP:=@List.length_singleton
def D6:=@List.map_map
def T8:=@World.ownsRow.kept
def G6:=@Nat.add_zero
def H8:=@List.getElem_map
def J8:=@List.any_eq_true
def C5:=@info_parts
def R8:=@List.reverse_cons
def S8:=@List.any_eq_false
def F8:=@Bool.or_eq_true
def U9:=@List.drop_succ_cons
def XN:=@Option.map_eq_some_iff
def XY:=@Array.getElem?_eq_none
def S7:=@List.map_drop
def TP:=@Int.tdiv_eq_ediv_of_nonneg
def B9:=@List.ext_getElem
def Y9:=@List.set_cons_zero
def YJ:=@List.getElem?_drop
def UC:=@List.isEmpty_eq_false_iff
def UF:=@World.cell?_setCell_other
def U6:=@wpQuiet_nil
def M4:=@or_false
def V9:=@List.foldl_append
def B8:=@run_make_row'
def G8:=@List.map_take
def WI:=@List.replicate_zero
def O8:=@Int.mul_nonneg
def F5:=@and_true
def H9:=@List.mapM_cons
def TC:=@run_convert_int_string
def TT:=@MapKept.run_getObj_map
def XA:=@List.set_cons_succ
def XX:=@List.getElem?_take
def WE:=@Nat.add_sub_cancel
def VH:=@List.mem_append_right
def YB:=@Nat.not_lt_zero
def R4:=@if_true
def VT:=@List.getElem?_toArray
def UI:=@Array.getElem?_modify
def VQ:=@Nat.mul_le_mul_right
def TL:=@List.mem_iff_getElem
def W7:=@Below.trans
def T9:=@Int.mul_le_mul
def W9:=@List.take_zero
def YK:=@run_underlying
def NH:=@List.take_succ_eq_append_getElem
def XQ:=@Bool.not_eq_true
def XV:=@World.rowIs_made
def PI:=@List.getElem?_take_of_lt
def WG:=@World.size_alloc
def I6:=@Prod.ext
def VB:=@Array.length_toList
def VI:=@List.take_succ_cons
def VJ:=@List.flatMap_append
def FJ:=@Array.getElem?_setIfInBounds_ne
def SN:=@Nat.add_sub_cancel_left
def VG:=@Bool.false_ne_true
def U8:=@Nat.mul_one
def V8:=@Nat.add_mul
def NN:=@List.drop_append_of_le_length
def EA:=@List.count_eq_zero_of_not_mem
def VM:=@World.ownsRow_nil
def VN:=@wpList_append_own
def VW:=@List.all_eq_false
def UB:=@List.flatten_cons
def UM:=@List.ext_getElem?
def YY:=@List.foldl_nil
def YD:=@Nat.sub_zero
def XP:=@List.take_take
def LX:=@List.dropLast_concat_getLast
def PR:=@List.set_append_right
def WN:=@Bool.false_and
def YT:=@Nat.succ_pos
def OY:=@List.getElem?_reverse
def WX:=@IntWalk.i64_in
def SE:=@List.reverse_reverse
def I7:=@if_false
def RE:=@World.cell?_alloc_lt
def ND:=@List.count_le_length
def XT:=@Bool.toNat_le
def FM:=@List.setIfInBounds_toArray
def TZ:=@List.getD_cons_zero
def UL:=@List.cons.injEq
def SC:=@of_decide_eq_false
def XC:=@List.map_nil
def SQ:=@Bool.true_eq_false
def SW:=@Nat.lt_or_eq_of_le
def PM:=@Bool.false_eq_true
def R9:=@Below.refl
def VO:=@Nat.mul_le_mul
def UD:=@List.drop_take
def UY:=@UInt8.toNat_lt
def KM:=@List.append_cancel_left
def KW:=@decide_eq_false_iff_not
def SI:=@Result.andThen_ok
def SX:=@Nat.le_of_lt_succ
def RI:=@World.rowIs_alloc
def XD:=@List.map_id
def MN:=@List.getElem_cons_succ
def MQ:=@World.cell?_alloc_mark
def FB:=@ByteArray.size_extract
def FW:=@MapKept.run_setObj_map
def SF:=@List.mem_reverse
def ON:=@Lib.cell_of_heap
def OU:=@Int.ediv_le_self
def OV:=@List.countP_cons
def NJ:=@Nat.le_of_ble_eq_true
def KU:=@UInt8.le_iff_toNat_le
def NM:=@List.replicate_succ'
def LI:=@World.cell?_of_block
def RO:=@List.nodup_cons
def LO:=@List.getElem?_of_mem
def KQ:=@Bool.or_eq_false_iff
def OS:=@Int.ediv_nonneg
def LZ:=@World.grownBy_alloc
def VP:=@Nat.one_mul
def NO:=@Nat.eq_zero_or_pos
def MB:=@Array.ext_getElem?
def CB:=@Lib.run_convert_bytes_const
def BW:=@Array.getD_eq_getD_getElem?
def JB:=@UInt8.toNat_ofNat'
def JC:=@List.map_replicate
def FA:=@Lib.frozen_of_heap
def EB:=@List.count_pos_iff
def SY:=@Lib.join_cons
def RN:=@Bool.and_self
def PQ:=@run_make_full
def PZ:=@List.all_cons
def OA:=@Bool.true_and
def GF:=@Int.emod_eq_of_lt
def UN:=@Nat.mod_lt
def SG:=@Sem.run_bind
def SH:=@Sem.run_pure
def SL:=@Nat.zero_mul
def RD:=@Nat.mul_zero
def RJ:=@results_none
def PG:=@UInt8.not_lt
def PN:=@callsIn_wide
def OT:=@Int.le_trans
def ML:=@List.range_succ
def LL:=@Option.some.inj
def KI:=@List.find?_some
def JQ:=@run_loadVar_row
def GJ:=@List.all_append
def GZ:=@Oper.upon_value
def RS:=@run_makeMap
def OW:=@getD_set_ne
end Go.Proofs
