/-
  Closing scripts that stand more than once in the texts of this claim, by name, and short names of theorems.
-/
import Derived.Conc.MuData
import Derived.Conc.MuLone
import Derived.Conc.RwLib
import Derived.Deep.DeepWitnessRowRef
import Derived.Deep.Grids
import Derived.Deep.RegionHeld3
import Derived.Deep.WholeRow
import Derived.LaidMore
import Derived.LaidSub
import Derived.Laws.AppendOwnNone
import Derived.Laws.CopyOwn
import Derived.Laws.EntriesVeiled
import Derived.Lib.SmallJoins
import Derived.LoopIn
import Derived.LoopNIn
import Derived.OwnWalkIn
import Derived.RangeFuncNested
import Derived.Shelf.Slices.Turned
import Derived.Shelf.Small.Strs
import Derived.Shelf.Small.Wraps
import Derived.Shelf.Strconv.Itoa3
import Derived.Shelf.Strings.BuilderK
import Derived.Shelf.Strings.OnBuilder
import Derived.Shelf.Strings.Repeat
import Derived.Shelf.Strings.Shaped
import Derived.Shelf.Strings.SplitShaped
import Derived.Shelf.Unicode.ExclAny
import Derived.Shelf.Unicode.IsSpaceAny
import Derived.Sort.QuietTacIn
import Derived.Test.YtbngggoccndefaaGreatDoorProg
import Derived.Test.YtbngggoccndefaaGreatDoorRows
import Derived.WalkLawsBesides
import Derived.WalkSpells
import Derived.WideKeyEntry
set_option maxRecDepth 100000
set_option linter.unusedVariables false
set_option linter.defProp false
namespace Go.Proofs
open Go.RowKit
variable {p:Prop}
theorem Qa(h:p:=by
 intro V w' hx hf;with_reducible refine relAt_ops ?_
 intro A ρ hA hρ hcst hfun;have h0:ρ (.tmp 0)=.slice a m.length c:=(P0 hρ _).trans (evalMiss hA 0 rfl);exact sZ):p:=h
theorem Qb(h:p:=by rw[<-hn5]at hown5⊢;rw[<-HRW.out]at hg5;have HB:w5.heap[w.heap.size]? =some (.cells #[_,.bool false,.slice a n c] 278 (0,0)):=GB.heap hg5 (Ze (UZ w _ _ _).1 ((Ext.refl _).alloc _)) HNE.out;have HR:w5.heap[w.heap.size+1]? =some (.cells #[.int .i64 0,.bool false,.slice none 0 0] 278 (0,0)):=GB.heap hg5 (Ze (UZ w _ _ _).2 ((Ext.refl _).alloc _)) HNE1.out;have hG:GB row w w5:=GB.trans (GB.ext Xf) hg5;obtain⟨e0,e1,e2,e3,e4,e5,e6,e7⟩:=Zj HB;obtain⟨f0,f1,f2,f3,f4,f5,f6,f7⟩:=Zj HR;have HOW:=A0 hown5;have HGG:=A0 hG;have HBB:=A0 HB;have HN5:=A0 hn5;clear hown5 hG HB HR hg5 hn5;go_wp2_with fail;refine E1 (DW results261 rfl (Zk (A0 (Zs B0 f7.out))) rfl) rfl ?_;rw[HF.out,HPS.out];exact Zod (by rw[HN5.out,HN.out]) rfl HGG.out HOW.out HBB.out f7.out):p:=h
theorem Qc(h:p:=by
 subst h0;rw[C0 (fun h=>h rfl)]at HX;by_cases ha0:a=0;·have HG:Hid (res=((k,t,[]),0)):=A0 (by rw[<-HX.out,D0 ha0]);have hb0:((a:Int)==0)=true:=(by rw[ha0];rfl);clear HX HAW HAE ha ha0;go_enter func139,ntmps139;go_wp2_with fail;refine(HS.out _).mono ?_;rintro e w1 ⟨rfl,hx⟩;obtain⟨z0,z1,z2,z3,z4,z5,z6,HB⟩:=Zj (Zv rfl hx.before);obtain⟨y0,y1,y2,y3,y4,y5,y6,HC⟩:=Zj (Zv (UP _ _) hx);have hxw:=hx.before.before;clear hx;go_wp2;refine E1 (Zi results139 rfl (Zk (PG B0 HB)) rfl) rfl ?_;have HXX:=(((hxw.setCell (p:=⟨w.heap.size+1,0,none⟩) (A4 _) (.int .i64 k)).setCell (p:=⟨w.heap.size+1,1,none⟩) (A4 _) (.string T)).setCell (p:=⟨w.heap.size+1,2,none⟩) (A4 _) (.string ⟨#[]⟩));exact tA
 ·have HAE2:=A0 (HAE.out ha0);rw[C0 ha0]at HX;have hb0:((a:Int)==0)=false:=O2;clear HAE ha ha0;have hsub:(s.size:Int)-(W:Int)=((s.size-W:Nat):Int):=B0;obtain⟨g,hg⟩:∃g,s.size-W=g:=⟨_,rfl⟩;rw[hg]at hsub HAE2;have hgs:g<=s.size:=B0;clear hg;by_cases hae:ae=0;(·subst hae;have HG:Hid (res=((k,t,al),0)):=A0 (by rw[<-HX.out,C0 (fun h=>h rfl)]);clear HX;go_enter func139,ntmps139;go_wp2_with fail;refine(HS.out _).mono ?_;rintro e w1 ⟨rfl,hx⟩;obtain⟨z0,z1,z2,z3,z4,z5,z6,HB⟩:=Zj (Zv rfl hx.before);obtain⟨y0,y1,y2,y3,y4,y5,y6,HC⟩:=Zj (Zv (UP _ _) hx);have hxw:=hx.before.before;clear hx;go_wp2_with fail;refine(HAW.out _).mono ?_;rintro e w2 ⟨rfl,rfl⟩;go_wp2_with fail;refine(HAE2.out _).mono ?_;rintro e w3 ⟨rfl,hx3⟩;obtain⟨u0,u1,u2,u3,u4,u5,u6,HB3⟩:=Zj (Ze (PG (show w.heap.size+1≠w.heap.size by omega) HB).out hx3);obtain⟨v0,v1,v2,v3,v4,v5,v6,HC3⟩:=Zj (Ze (Zk HC) hx3);have HXX:=A0 ((((hxw.setCell (p:=⟨w.heap.size+1,0,none⟩) (A4 _) (.int .i64 k)).setCell (p:=⟨w.heap.size+1,1,none⟩) (A4 _) (.string T)).setCell (p:=⟨w.heap.size+1,2,none⟩) (A4 _) (.string (Ea.bS []))).trans hx3);clear z0 z1 z2 z3 z4 z5 z6 HB y0 y1 y2 y3 y4 y5 y6 HC hxw hx3;go_wp2;refine E1 (Zi results139 rfl (Zk (A0 (Zs (show w.heap.size+1≠w.heap.size by omega) HB3.out))) rfl) rfl ?_;have HXY:=HXX.out.setCell (p:=⟨w.heap.size+1,2,none⟩) (A4 _) (.string AL);exact⟨by rw[HG.out];unfold gotV linV;dsimp only;rw[HT.out,HAL.out];rfl,((HXY.setCell (K0 _) _).setCell (K0 _) _).setCell (K0 _) _⟩);·have HG:Hid (res=((0,[],[]),ae)):=A0 (by rw[<-HX.out,D0 hae]);have hbe:(ae !=0)=true:=C3.2 hae;clear HX hae;go_enter func139,ntmps139;go_wp2_with fail;refine(HS.out _).mono ?_;rintro e w1 ⟨rfl,hx⟩;obtain⟨z0,z1,z2,z3,z4,z5,z6,HB⟩:=Zj (Zv rfl hx.before);obtain⟨y0,y1,y2,y3,y4,y5,y6,HC⟩:=Zj (Zv (UP _ _) hx);have hxw:=hx.before.before;clear hx;go_wp2_with fail;refine(HAW.out _).mono ?_;rintro e w2 ⟨rfl,rfl⟩;go_wp2_with fail;refine(HAE2.out _).mono ?_;rintro e w3 ⟨rfl,hx3⟩;obtain⟨u0,u1,u2,u3,u4,u5,u6,HB3⟩:=Zj (Ze (PG (show w.heap.size+1≠w.heap.size by omega) HB).out hx3);obtain⟨v0,v1,v2,v3,v4,v5,v6,HC3⟩:=Zj (Ze (Zk HC) hx3);have HXX:=A0 ((((hxw.setCell (p:=⟨w.heap.size+1,0,none⟩) (A4 _) (.int .i64 k)).setCell (p:=⟨w.heap.size+1,1,none⟩) (A4 _) (.string T)).setCell (p:=⟨w.heap.size+1,2,none⟩) (A4 _) (.string (Ea.bS []))).trans hx3);clear z0 z1 z2 z3 z4 z5 z6 HB y0 y1 y2 y3 y4 y5 y6 HC hxw hx3;go_wp2;refine E1 (Zi results139 rfl (Zk (A0 (Zs (show w.heap.size+1≠w.heap.size by omega) HB3.out))) rfl) rfl ?_;have HXY:=HXX.out.setCell (p:=⟨w.heap.size+1,2,none⟩) (A4 _) (.string AL);exact⟨by rw[HG.out];rfl,((HXY.setCell (K0 _) _).setCell (K0 _) _).setCell (K0 _) _⟩):p:=h
theorem Qd(h:p:=by
 have HKK:=A0 (And.intro hlt hk1);clear hx hy hz hz2 hq2;by_cases g2:(m.drop (11+9*(k-1))).take 2=Ea.gA;·rw[V0 g2]at HE2;have HG1:Hid (∀i,i+1<k+1->(m.drop (11+9*i)).take 2=Ea.gA):=A0 (fun i hi=>by rcases P4 (i+1) k with h|h;(·exact HG0.out i h);·obtain rfl:i=k-1:=B0;exact g2);clear g2 HG0;go_wp2_with fail;refine Zh 11 1 rfl [21,22,23,24,25,26,27,28,29,30,31] [[],[],[1],[2],[3],[],[5],[6],[0,4,7],[],[8,9]] G0 G0 ?_;apply Za;(·exact Qa);apply Za;(·exact Q4);apply Za;(·exact tB);apply Za;(·exact tC);apply Za;(·exact tD);apply Za;(·exact Q4);apply Za;(·exact tE);apply Za;(·exact tF);apply Za;(·exact tG);refine Zc (fun v w=>Own 4 w 0 v (Ea.gA.map encT)) (fun _ _ _ h hx=>h.ext hx) ?_ ?_;(·exact Qr);refine Zc (eqv (.bool true)) (Zg _) ?_ ?_;(·exact tH);intro V wT hxT hf;obtain⟨g21,g22,g23,g24,g25,g26,g27,g28,g29,g30,g31,_⟩:=hf;simp only[fillA,F1,O1,Act.put,V1,N1,L1];have q31:V 31=_:=g31;rw[q31];have HW2:=A0 (HW.out.trans hxT);refine Zb 11 G0 rfl (fun K hK=> ?_);go_simp;refine hK _ _ ?_;clear hK K;refine⟨rfl,?_⟩;clear HW;have HW:=HW2;clear HW2;go_wp2;go_roundw;(case rel=>exact⟨k+1,by omega,by have:=HKK.out.1;omega,by go_num,HG1,HW⟩);case measure=>have:=HKK.out.1;exact Q8
 ·rw[X0 g2]at HE2;have HG:Hid (res=([],18)):=A0 (by rw[<-HX.out,D0 (Zjm (by have:=HKK.out;omega) g2)]);clear g2;go_wp2_with fail;refine Zh 11 1 rfl [21,22,23,24,25,26,27,28,29,30,31] [[],[],[1],[2],[3],[],[5],[6],[0,4,7],[],[8,9]] G0 G0 ?_;apply Za;(·exact Qa);apply Za;(·exact Q4);apply Za;(·exact tB);apply Za;(·exact tC);apply Za;(·exact tD);apply Za;(·exact Q4);apply Za;(·exact tE);apply Za;(·exact tF);apply Za;(·exact tG);refine Zc (fun v w=>Own 4 w 0 v (Ea.gA.map encT)) (fun _ _ _ h hx=>h.ext hx) ?_ ?_;(·exact Qr);refine Zc (eqv (.bool false)) (Zg _) ?_ ?_;(·exact tH);intro V wT hxT hf;obtain⟨g21,g22,g23,g24,g25,g26,g27,g28,g29,g30,g31,_⟩:=hf;simp only[fillA,F1,O1,Act.put,V1,N1,L1];have q31:V 31=_:=g31;rw[q31];have HW2:=A0 (HW.out.trans hxT);refine Zb 11 G0 rfl (fun K hK=> ?_);go_simp;refine hK _ _ ?_;clear hK K;refine⟨rfl,?_⟩;clear HW;have HW:=HW2;clear HW2;go_wp2;go_ret2;exact⟨by rw[HG.out];rfl,HW.out⟩):p:=h
theorem Qe(h:p:=by
 go_enter func220,ntmps220;go_wp2_with fail;refine Zh 4 1 rfl [25,26,27,28] [[],[0],[],[1,2]] G0 G0 ?_;apply Za;·exact Qa
 apply Za;·exact Qt
 refine Zc (fun v w=>Own 4 w 0 v (Ea.gd.map encT)) (fun _ _ _ h hx=>h.ext hx) ?_ ?_;·exact Qr
 refine Zc (eqv (.bool true)) (Zg _) ?_ ?_;·exact Qg
 intro V wT hxT hf;obtain⟨g25,g26,g27,g28,_⟩:=hf;simp only[fillA,F1,O1,Act.put,V1,N1,L1];have q28:V 28=_:=g28;rw[q28];have HW2:=A0 (HW.out.trans hxT);refine Zb 4 G0 rfl (fun K hK=> ?_);go_simp;refine hK _ _ ?_;clear hK K;refine⟨rfl,?_⟩;clear HW;have HW:=HW2;clear HW2;go_wp2_with fail;refine Zh 9 1 rfl [30,31,32,33,34,35,36,37,38] [[],[],[],[2],[1,3],[0,4],[],[6],[5,7]] G0 G0 ?_;apply Za;·exact Qa
 apply Za;·exact Qw
 apply Za;·exact Qj
 apply Za;·exact Qy
 apply Za;·exact Ql
 apply Za;·exact Qm
 apply Za;·exact Qj
 refine Zc (fun v w=>Own 4 w 0 v (Ea.gd.map encT)) (fun _ _ _ h hx=>h.ext hx) ?_ ?_;·exact Qo
 refine Zc (eqv (.bool true)) (Zg _) ?_ ?_;·exact Qi
 intro V wT hxT hf;obtain⟨g30,g31,g32,g33,g34,g35,g36,g37,g38,_⟩:=hf;simp only[fillA,F1,O1,Act.put,V1,N1,L1];have q38:V 38=_:=g38;rw[q38];have HW2:=A0 (HW.out.trans hxT);refine Zb 9 G0 rfl (fun K hK=> ?_);go_simp;refine hK _ _ ?_;clear hK K;refine⟨rfl,?_⟩;clear HW;have HW:=HW2;clear HW2;go_wp2_with fail;refine(HRL.out _ HW.out).mono ?_;rintro e w5 ⟨rfl,hx5⟩;have HW2:=A0 (HW.out.trans hx5);clear HW hx5;have HW:=HW2;clear HW2;go_wp2_with fail;refine(HRR.out _ HW.out).mono ?_;rintro e w5 ⟨rfl,hx5⟩;have HW2:=A0 (HW.out.trans hx5);clear HW hx5;have HW:=HW2;clear HW2;go_wp2_with fail;refine Zh 4 14 rfl [76,77,78,79] [[],[0],[],[1,2]] G0 G0 ?_;apply Za;·exact Qa
 apply Za;·exact TN
 refine Zc (fun v w=>Own 4 w 0 v (Ea.md.map encT)) (fun _ _ _ h hx=>h.ext hx) ?_ ?_;·exact QN
 refine Zc (eqv (.bool true)) (Zg _) ?_ ?_;·exact QL
 intro V wT hxT hf;obtain⟨g76,g77,g78,g79,_⟩:=hf;simp only[fillA,F1,O1,Act.put,V1,N1,L1];have q79:V 79=_:=g79;rw[q79];have HW2:=A0 (HW.out.trans hxT);refine Zb 4 G0 rfl (fun K hK=> ?_);go_simp;refine hK _ _ ?_;clear hK K;refine Zb 5 G0 rfl (fun K hK=> ?_);go_simp;refine hK _ _ ?_;clear hK K;refine Zb 6 G0 rfl (fun K hK=> ?_);go_simp;refine hK _ _ ?_;clear hK K;refine Zb 7 G0 rfl (fun K hK=> ?_);go_simp;refine hK _ _ ?_;clear hK K;refine Zb 8 G0 rfl (fun K hK=> ?_);go_simp;refine hK _ _ ?_;clear hK K;refine Zb 9 G0 rfl (fun K hK=> ?_);go_simp;refine hK _ _ ?_;clear hK K;refine Zb 10 G0 rfl (fun K hK=> ?_);go_simp;refine hK _ _ ?_;clear hK K;refine Zb 11 G0 rfl (fun K hK=> ?_);go_simp;refine hK _ _ ?_;clear hK K;refine Zb 12 G0 rfl (fun K hK=> ?_);go_simp;refine hK _ _ ?_;clear hK K;refine Zb 13 G0 rfl (fun K hK=> ?_);go_simp;refine hK _ _ ?_;clear hK K;refine Zb 14 G0 rfl (fun K hK=> ?_);go_simp;refine hK _ _ ?_;clear hK K;refine Zb 15 G0 rfl (fun K hK=> ?_);go_simp;refine hK _ _ ?_;clear hK K;exact tI):p:=h
theorem Qf(h:p:=by
 go_enter func220,ntmps220;go_wp2_with fail;refine Zh 4 1 rfl [25,26,27,28] [[],[0],[],[1,2]] G0 G0 ?_;apply Za;·exact Qa
 apply Za;·exact Qt
 refine Zc (fun v w=>Own 4 w 0 v (Ea.gd.map encT)) (fun _ _ _ h hx=>h.ext hx) ?_ ?_;·exact Qr
 refine Zc (eqv (.bool true)) (Zg _) ?_ ?_;·exact Qg
 intro V wT hxT hf;obtain⟨g25,g26,g27,g28,_⟩:=hf;simp only[fillA,F1,O1,Act.put,V1,N1,L1];have q28:V 28=_:=g28;rw[q28];have HW2:=A0 (HW.out.trans hxT);refine Zb 4 G0 rfl (fun K hK=> ?_);go_simp;refine hK _ _ ?_;clear hK K;refine⟨rfl,?_⟩;clear HW;have HW:=HW2;clear HW2;go_wp2_with fail;refine Zh 9 1 rfl [30,31,32,33,34,35,36,37,38] [[],[],[],[2],[1,3],[0,4],[],[6],[5,7]] G0 G0 ?_;apply Za;·exact Qa
 apply Za;·exact Qw
 apply Za;·exact Qj
 apply Za;·exact Qy
 apply Za;·exact Ql
 apply Za;·exact Qm
 apply Za;·exact Qj
 refine Zc (fun v w=>Own 4 w 0 v (Ea.gd.map encT)) (fun _ _ _ h hx=>h.ext hx) ?_ ?_;·exact Qo
 refine Zc (eqv (.bool true)) (Zg _) ?_ ?_;·exact Qi
 intro V wT hxT hf;obtain⟨g30,g31,g32,g33,g34,g35,g36,g37,g38,_⟩:=hf;simp only[fillA,F1,O1,Act.put,V1,N1,L1];have q38:V 38=_:=g38;rw[q38];have HW2:=A0 (HW.out.trans hxT);refine Zb 9 G0 rfl (fun K hK=> ?_);go_simp;refine hK _ _ ?_;clear hK K;refine⟨rfl,?_⟩;clear HW;have HW:=HW2;clear HW2;go_wp2_with fail;refine(HRL.out _ HW.out).mono ?_;rintro e w5 ⟨rfl,hx5⟩;have HW2:=A0 (HW.out.trans hx5);clear HW hx5;have HW:=HW2;clear HW2;go_wp2_with fail;refine(HRR.out _ HW.out).mono ?_;rintro e w5 ⟨rfl,hx5⟩;have HW2:=A0 (HW.out.trans hx5);clear HW hx5;have HW:=HW2;clear HW2;go_wp2_with fail;refine Zh 4 9 rfl [113,114,115,116] [[],[0],[],[1,2]] G0 G0 ?_;apply Za;·exact Qa
 apply Za;·exact JC
 refine Zc (fun v w=>Own 4 w 0 v (Ea.md.map encT)) (fun _ _ _ h hx=>h.ext hx) ?_ ?_;·exact QN
 refine Zc (eqv (.bool true)) (Zg _) ?_ ?_;·exact Q1
 intro V wT hxT hf;obtain⟨g113,g114,g115,g116,_⟩:=hf;simp only[fillA,F1,O1,Act.put,V1,N1,L1];have q116:V 116=_:=g116;rw[q116];have HW2:=A0 (HW.out.trans hxT);refine Zb 4 G0 rfl (fun K hK=> ?_);go_simp;refine hK _ _ ?_;clear hK K;refine Zb 5 G0 rfl (fun K hK=> ?_);go_simp;refine hK _ _ ?_;clear hK K;refine Zb 6 G0 rfl (fun K hK=> ?_);go_simp;refine hK _ _ ?_;clear hK K;refine Zb 7 G0 rfl (fun K hK=> ?_);go_simp;refine hK _ _ ?_;clear hK K;refine Zb 8 G0 rfl (fun K hK=> ?_);go_simp;refine hK _ _ ?_;clear hK K;refine Zb 9 G0 rfl (fun K hK=> ?_);go_simp;refine hK _ _ ?_;clear hK K;refine Zb 10 G0 rfl (fun K hK=> ?_);go_simp;refine hK _ _ ?_;clear hK K;refine Zb 11 G0 rfl (fun K hK=> ?_);go_simp;refine hK _ _ ?_;clear hK K;refine Zb 12 G0 rfl (fun K hK=> ?_);go_simp;refine hK _ _ ?_;clear hK K;refine⟨rfl,?_⟩;clear HW;exact tJ):p:=h
theorem Qg(h:p:=by
 intro V w' hx hf;with_reducible refine relAt_ops ?_
 intro A ρ hA hρ hcst hfun;obtain⟨f26,f27,_⟩:=hf;have h26:ρ (.tmp 26)=_:=(P0 hρ _).trans ((evalHit hA 26 rfl).trans f26);have h27:ρ (.tmp 27)=V 27:=(P0 hρ _).trans (evalHit hA 27 rfl);simp[relUpon,go_sem,hfun,h26,h27];exact(HE1.out w' _ _ (HW.out.trans hx) f27).mono fun e w'' ⟨he,hy⟩=>⟨_,he,hy,rfl⟩):p:=h
theorem Qh(h:p:=by
 obtain⟨qb,qe⟩:=q;clear HB he;by_cases hqe:qe=0;·subst hqe;by_cases hql:qb.length=pb.length;(·have dl:((qb.length:Int)==(pb.length:Int))=true:=(by rw[hql];simp);go_wp2_with fail;refine(HPT.out _).mono ?_;rintro e w2 ⟨qv,rfl,hqs,hx2⟩;dsimp only at hqs;obtain⟨a2,c2,rfl⟩:=hqs.1.form;rw[J0]at hqs⊢;have HQ:=A0 hqs.1;have hxw2:=hxr.trans hx2;clear hqs hx2 hxr;go_wp2;go_loopw [9,8] (fun i s wr=>∃(j:Nat) (sb:Bool),j<=qb.length∧i=.int .i64 (j:Int)∧s=.bool sb∧Hid (sb=decide (qb.take j=pb.take j))∧Ext w wr∧Ext w2 wr) (fun i _ _=>qb.length-(intOf i).toNat);(case atStart=>exact⟨0,true,O0 _,rfl,rfl,A0 L0,hxw2,Ext.refl _⟩);case round=>clear hxw2;obtain⟨j,sb,hj,rfl,rfl,HSB,hxr,hxq⟩:=hrel;by_cases hjl:j<qb.length;(·cases sb;(·have hne:qb≠pb:=(by intro h;have:=HSB.out;rw[h]at this;simp at this);have HN2:=A0 (HNX.out (fun h=>hne (R0 Prod.fst h)));clear hne;exact tK);·have heq:qb.take j=pb.take j:=(by simpa using HSB.out.symm);have HTS:=A0 (ZiV qb pb j hjl B0 heq);obtain⟨b1,o1,hA,hb1,hcb⟩:=(HP.out.ext hxr).at_ (k:=j) A3;obtain⟨b2,o2,hB,hb2,hcq⟩:=(HQ.out.ext hxq).at_ (k:=j) A3;rw[E5]at hcb hcq;subst hA hB;simp only[encT]at hcb hcq;generalize qb[j]=x at*;generalize hpj:pb[j]' B0=y at*;have dxy:((x==y):Bool)=(x==y):=rfl;clear heq hpj dxy;go_wp2;go_region;go_wp2;go_roundw;(case rel=>exact⟨j+1,_,by omega,by go_num,rfl,A0 HTS.out.symm,by exact hxr.drewN _,by exact hxq.drewN _⟩);case measure=>exact Q8);·obtain rfl:j=qb.length:=B0;have hsb:sb=decide (qb=pb):=(by have:=HSB.out;rw[J5,hql,J5]at this;exact F3);clear hj hjl HSB;cases sb;(·have HN2:=A0 (HNX.out (fun h=>by have h1:qb=pb:=R0 Prod.fst h;rw[h1]at hsb;simp at hsb));clear hsb;exact tK);·have HRS:=A0 (HHT.out (by rw[show qb=pb by simpa using hsb.symm]));clear hsb;go_wp2;go_ret;exact⟨Z1 HRS.out.symm,hxr⟩);·have dl:((qb.length:Int)==(pb.length:Int))=false:=O2;have HN2:=A0 (HNX.out (fun h=>hql (R0 (fun z=>z.1.length) h)));clear hql;exact QG
 ·have dq:(qe==0)=false:=(by rw[N0];exact hqe);have HN2:=A0 (HNX.out (fun h=>hqe (R0 Prod.snd h)));clear hqe;exact QG):p:=h
theorem Qi(h:p:=by
 intro V w' hx hf;with_reducible refine relAt_ops ?_
 intro A ρ hA hρ hcst hfun;obtain⟨f35,f37,_⟩:=hf;have h35:ρ (.tmp 35)=_:=(P0 hρ _).trans ((evalHit hA 35 rfl).trans f35);have h37:ρ (.tmp 37)=V 37:=(P0 hρ _).trans (evalHit hA 37 rfl);simp[relUpon,go_sem,hfun,h35,h37];exact(HE2.out w' _ _ (HW.out.trans hx) f37).mono fun e w'' ⟨he,hy⟩=>⟨_,he,hy,rfl⟩):p:=h
theorem Qj(h:p:=by
 intro V w' hx hf;with_reducible refine relAt_ops ?_
 intro A ρ hA hρ hcst hfun;have h6:ρ (.tmp 6)=.string ⟨#[49,48,49]⟩:=(P0 hρ _).trans (evalMiss hA 6 rfl);exact tL):p:=h
theorem Qk(h:p:=by
 go_enter func220,ntmps220;go_wp2_with fail;refine Zh 4 1 rfl [25,26,27,28] [[],[0],[],[1,2]] G0 G0 ?_;apply Za;·exact Qa
 apply Za;·exact Qt
 refine Zc (fun v w=>Own 4 w 0 v (Ea.gd.map encT)) (fun _ _ _ h hx=>h.ext hx) ?_ ?_;·exact Qr
 refine Zc (eqv (.bool true)) (Zg _) ?_ ?_;·exact Qg
 intro V wT hxT hf;obtain⟨g25,g26,g27,g28,_⟩:=hf;simp only[fillA,F1,O1,Act.put,V1,N1,L1];have q28:V 28=_:=g28;rw[q28];have HW2:=A0 (HW.out.trans hxT);refine Zb 4 G0 rfl (fun K hK=> ?_);go_simp;refine hK _ _ ?_;clear hK K;refine⟨rfl,?_⟩;clear HW;have HW:=HW2;clear HW2;go_wp2_with fail;refine Zh 9 1 rfl [30,31,32,33,34,35,36,37,38] [[],[],[],[2],[1,3],[0,4],[],[6],[5,7]] G0 G0 ?_;apply Za;·exact Qa
 apply Za;·exact Qw
 apply Za;·exact XA
 apply Za;·exact Qy
 apply Za;·exact Ql
 apply Za;·exact Qm
 apply Za;·exact XA
 refine Zc (fun v w=>Own 4 w 0 v (Ea.eE.map encT)) (fun _ _ _ h hx=>h.ext hx) ?_ ?_;·exact Qo
 refine Zc (eqv (.bool true)) (Zg _) ?_ ?_;·exact Qi
 intro V wT hxT hf;obtain⟨g30,g31,g32,g33,g34,g35,g36,g37,g38,_⟩:=hf;simp only[fillA,F1,O1,Act.put,V1,N1,L1];have q38:V 38=_:=g38;rw[q38];have HW2:=A0 (HW.out.trans hxT);refine Zb 9 G0 rfl (fun K hK=> ?_);go_simp;refine hK _ _ ?_;clear hK K;refine⟨rfl,?_⟩;clear HW;have HW:=HW2;clear HW2;go_wp2_with fail;refine(HRL.out _ HW.out).mono ?_;rintro e w5 ⟨rfl,hx5⟩;have HW2:=A0 (HW.out.trans hx5);clear HW hx5;have HW:=HW2;clear HW2;go_wp2_with fail;refine(HFE.out _).mono ?_;rintro e w5 ⟨rfl,hx5⟩;have HW2:=A0 (HW.out.trans hx5);clear HW hx5;have HW:=HW2;clear HW2;go_wp2_with fail;exact xZ):p:=h
theorem Ql(h:p:=by
 intro V w' hx hf;with_reducible refine relAt_ops ?_
 intro A ρ hA hρ hcst hfun;obtain⟨f31,f33,_⟩:=hf;have h31:ρ (.tmp 31)=_:=(P0 hρ _).trans ((evalHit hA 31 rfl).trans f31);have h33:ρ (.tmp 33)=_:=(P0 hρ _).trans ((evalHit hA 33 rfl).trans f33);simp[relUpon,go_sem,Ext.refl,h31,h33,e92,w92];rfl):p:=h
theorem Qm(h:p:=by
 intro V w' hx hf;with_reducible refine relAt_ops ?_
 intro A ρ hA hρ hcst hfun;obtain⟨f30,f34,_⟩:=hf;have h30:ρ (.tmp 30)=_:=(P0 hρ _).trans ((evalHit hA 30 rfl).trans f30);have h34:ρ (.tmp 34)=_:=(P0 hρ _).trans ((evalHit hA 34 rfl).trans f34);simp[relUpon,go_sem,Ext.refl,h30,h34,hp2];rfl):p:=h
theorem Qn(h:p:=by
 rw[D0 g2]at HX;rw[X0 g2]at HE2;clear g1 g2;go_enter func220,ntmps220;go_wp2_with fail;refine Zh 4 1 rfl [25,26,27,28] [[],[0],[],[1,2]] G0 G0 ?_;apply Za;·exact Qa
 apply Za;·exact Qt
 refine Zc (fun v w=>Own 4 w 0 v (Ea.gd.map encT)) (fun _ _ _ h hx=>h.ext hx) ?_ ?_;·exact Qr
 refine Zc (eqv (.bool true)) (Zg _) ?_ ?_;·exact Qg
 intro V wT hxT hf;obtain⟨g25,g26,g27,g28,_⟩:=hf;simp only[fillA,F1,O1,Act.put,V1,N1,L1];have q28:V 28=_:=g28;rw[q28];have HW2:=A0 (HW.out.trans hxT);refine Zb 4 G0 rfl (fun K hK=> ?_);go_simp;refine hK _ _ ?_;clear hK K;refine⟨rfl,?_⟩;clear HW;have HW:=HW2;clear HW2;go_wp2_with fail;refine Zh 9 1 rfl [30,31,32,33,34,35,36,37,38] [[],[],[],[2],[1,3],[0,4],[],[6],[5,7]] G0 G0 ?_;apply Za;·exact Qa
 apply Za;·exact Qw
 apply Za;·exact Qj
 apply Za;·exact Qy
 apply Za;·exact Ql
 apply Za;·exact Qm
 apply Za;·exact Qj
 refine Zc (fun v w=>Own 4 w 0 v (Ea.gd.map encT)) (fun _ _ _ h hx=>h.ext hx) ?_ ?_;·exact Qo
 exact lU):p:=h
theorem Qo(h:p:=by
 intro V w' hx hf;with_reducible refine relAt_ops ?_
 intro A ρ hA hρ hcst hfun;obtain⟨f36,_⟩:=hf;have h36:ρ (.tmp 36)=_:=(P0 hρ _).trans ((evalHit hA 36 rfl).trans f36);simp[relUpon,go_sem,hfun,h36];exact(HMS.out w').mono fun e w'' ⟨v,he,ho,hy⟩=>⟨v,he,hy,ho.mono (O0 _)⟩):p:=h
theorem Qp(h:p:=by
 have e0:((ra,rb,(H:Int),rd).2.1==(ra,rb,(H:Int),rd).2.2.1)=true:=hf;rw[e0]at HX;clear e0;obtain⟨Q,hQ⟩:∃Q,Q=AI.size+H:=⟨_,rfl⟩;have hQi:(AI.size:Int)+(H:Int)=(Q:Int):=by omega
 by_cases hlt:j<Q;·have HR:Hid (res=(([],[]),0,10)):=A0 (HS6.out.1 hf B0);have HQ2:=A0 hQ;clear HS6 hf hQ;go_wp2_with fail;refine HP1.out.mono ?_;rintro e w3 ⟨rfl,hx3⟩;simp only[preV,ZK,HAI.out];go_wp2_with fail;refine(HX.out _).mono ?_;rintro e w4 ⟨rfl,hx4⟩;have hx34:Ext wr w4:=(hx3.alloc _).trans hx4;have hel4:=HEL.out.ext hx34;obtain⟨g0,g1⟩:=hel4.cells;have f0:=hel4.free 0;have f1:=hel4.free 1;have c2:w4.cell? ⟨w3.heap.size,2,none⟩=some (.int .i64 (H:Int)):=PQ;have hxa:Ext w w4:=hxw.trans hx34;clear hx3 hx4;go_wp2;obtain⟨p0,p1⟩:=(hel4.puts ([],[]));refine V4 (v:=.tuple #[.agg #[.string ⟨#[]⟩,.string ⟨#[]⟩],.int .i64 0,.int .i64 10]) (by simp[results,results142,go_sem,encS]at p0 p1⊢;simp[p0,p1]) rfl ⟨by rw[HR.out];rfl,Xf⟩
 ·obtain⟨vd,hsl,hsd⟩:=AG HST.out AI.size Q B0 AH;have hQA:Q-AI.size=H:=B0;rw[hQA,<-R3,<-I3]at hsd;obtain⟨D,hD⟩:∃D:ByteArray,D.data.toList=(tx.drop AI.size).take H:=⟨⟨((tx.drop AI.size).take H).toArray⟩,rfl⟩;have HD:Hid (encS ((tx.drop AI.size).take H)=.string D):=A0 (by rw[<-hD,ZT]);have hDs:D.size<=4096:=(by rw[<-Zd,hD,M1];omega);have HCV:Hid (∀w',Ext wr w'->(convert 90 9 vd).run prog w'=.ok (.string D) w'):=A0 (fun w' hx=>by have:=Zr (hsd.1.ext hx);rw[this,<-hD,Z4]);have HV1:=A0 (fun w' hx=>HDV.out w' hx AI D U4 U4);rw[HAE.out,hD]at HV1;obtain⟨_,S2,S3,_⟩:=HS6.out;have hjQ:Q<=j:=B0;have HS2:=A0 (S2 hf B0);have HS3:=A0 (S3 hf B0);have HQ2:=A0 hQ;generalize(tx.drop AI.size).take H=d at*;clear HS6 hf hQ S2 S3 hsd hQA hD hlt;by_cases hver:Gs.ver ai d=0;(·have HR:Hid (res=((ai,d),Q,0)):=A0 (by rw[HS3.out hver,HQ2.out]);rw[hver]at HV1;clear hver HS2 HS3;exact QH);·have HR:Hid (res=(([],[]),0,Gs.ver ai d)):=A0 (HS2.out hver);obtain⟨z1,hz1⟩:∃z1,Gs.ver ai d=z1:=⟨_,rfl⟩;rw[hz1]at HV1 HR hver;have hz2:(z1==0)=false:=(by simpa using hver);clear hver HS2 HS3 hz1;exact Qz):p:=h
theorem Qq(h:p:=by
 rw[hgd]at HE;clear hgd hkj;by_cases h119:e[k]=119;·have h1:er j=18:=(by rw[HE.out,D0 ⟨by omega,h119⟩]);have HR:=A0 (HR1.out JU HB.out);rw[h1]at HR;have d4:((e[k].toNat:Int)==119)=true:=(by rw[h119];rfl);clear h1 h119 hz2 hz3;exact zB
 ·have d4:((e[k].toNat:Int)==119)=false:=(by rw[N0];intro h;exact h119 (R4.1 (by have:(119:UInt8).toNat=119:=rfl;omega)));have hn119:¬(0<j∧e[k]=119):=fun h=>h119 h.2;have HN9:=A0 hn119;clear h119 hn119;go_wp2;refine D6 (C:=fun w'=>∃x:Zx wr,w'=x.at') G0 G0 (Zx.drawn _) ?_;(try dsimp only);(repeat(first|go_big_quiet_step ((go_at_call 237;exact Zu ((HQ.out _).mono fun _ _ h=>⟨h.1,h.2▸Ext.refl _⟩)))|quiet_step ((go_at_call 237;exact Zu ((HQ.out _).mono fun _ _ h=>⟨h.1,h.2▸Ext.refl _⟩)))));refine E6 ?_;intro _ hx0;obtain⟨x0,hx0⟩:=hx0;subst hx0;obtain⟨w3,hx3⟩:=x0;(try dsimp only);have he3:=(HS.out.ext (hxr.trans hx3)).e;have hi3:=(HS.out.ext (hxr.trans hx3)).i;replace hown:=hown.ext hx3;replace hx3:=hxr.trans hx3;clear hz2 hz3;clear d4 hk;by_cases hjn:j+1=n;(·have d3:((j:Int)==(n:Int)-1)=true:=xI;have d5:decide ((j:Int)<(n:Int)-1)=false:=S0;have HJN:=A0 hjn;clear hjn;cases ok;(·have h1:er j=20:=(by rw[HE.out,C0 HN9.out,C0 (fun h=>hj0 h.1),D0 ⟨HJN.out,rfl⟩]);exact zC);·have HI:=A0 (NV edge c);by_cases hx:Lib.indexByte edge.data.toList c<0;(·have hin:Tw.isIn edge.data.toList (c,true)=false:=TY;have h1:er j=20:=(by rw[HE.out,C0 HN9.out,C0 (fun h=>hj0 h.1),D0 ⟨HJN.out,hin⟩]);exact tM);·have hin:Tw.isIn edge.data.toList (c,true)=true:=TY;have h1:er j=0:=(by rw[HE.out,C0 HN9.out,C0 (fun h=>hj0 h.1),C0 (by rw[hin];simp),C0 (by have:=HJN.out;omega)]);exact tN);·have d3:((j:Int)==(n:Int)-1)=false:=O2;have d5:decide ((j:Int)<(n:Int)-1)=true:=S0;cases ok;(·have h1:er j=18:=(by rw[HE.out,C0 HN9.out,C0 (fun h=>hj0 h.1),C0 (fun h=>hjn h.1),D0 ⟨by omega,by omega,rfl⟩]);exact zC);·have HI:=A0 (NV inner c);by_cases hx:Lib.indexByte inner.data.toList c<0;(·have hin:Tw.isIn inner.data.toList (c,true)=false:=TY;have h1:er j=18:=(by rw[HE.out,C0 HN9.out,C0 (fun h=>hj0 h.1),C0 (fun h=>hjn h.1),D0 ⟨by omega,by omega,hin⟩]);have HR:=A0 (HR1.out JU HB.out);rw[h1]at HR;clear h1 hin;generalize Lib.indexByte inner.data.toList c=x at*;exact tO);·have hin:Tw.isIn inner.data.toList (c,true)=true:=TY;have h1:er j=0:=(by rw[HE.out,C0 HN9.out,C0 (fun h=>hj0 h.1),C0 (fun h=>hjn h.1),C0 (by rw[hin];simp)]);have HN:=HRN.out h1;clear h1 hin;generalize Lib.indexByte inner.data.toList c=x at*;exact QE):p:=h
theorem Qr(h:p:=by
 intro V w' hx hf;with_reducible refine relAt_ops ?_
 intro A ρ hA hρ hcst hfun;simp[relUpon,go_sem,hcst,hfun];exact(HMG.out w').mono fun e w'' ⟨v,he,ho,hy⟩=>⟨v,he,hy,ho.mono (O0 _)⟩):p:=h
theorem Qs(h:p:=by go_enter func251,ntmps251;go_wp2_with fail;refine(HP.out _).mono ?_;rintro e w1 ⟨rfl,rfl⟩;go_wp2_with fail;refine(HQ.out _).mono ?_;rintro e w1 ⟨rfl,rfl⟩;go_wp2_with fail;refine(HL.out _).mono ?_;rintro e w2 ⟨rfl,hx2⟩;go_wp2_with fail;refine(HR.out _).mono ?_;rintro e w3 ⟨rfl,hx3⟩;go_wp2;go_ret3;exact⟨by rw[HN.out];rfl,hx2.trans hx3⟩):p:=h
theorem Qt(h:p:=by
 intro V w' hx hf;with_reducible refine relAt_ops ?_
 intro A ρ hA hρ hcst hfun;obtain⟨f25,_⟩:=hf;have h25:ρ (.tmp 25)=_:=(P0 hρ _).trans ((evalHit hA 25 rfl).trans f25);simp[relUpon,go_sem,hcst,Ext.refl,h25,hp1];rfl):p:=h
theorem Qu(h:p:=by
 rw[hf]at HFX;simp only[W4]at HFX;have hH0:0<H:=by omega
 have hH1:((H:Int)==0)=false:=O2
 have HS1:=A0 (S1 hf);by_cases hlt2:m<AI.size+H;·have HR:Hid ((res1,res2)=([],10)):=A0 (by rw[HP2.out,HS1.out hlt2];rfl);have hdl:DB.size<H:=B0;clear S1 S2 S3 S4 S5 S6 hf hDBl hDBs hlt2 HS1;go_wp2_with fail;refine(HTX.out _ hx).mono ?_;rintro e w2 ⟨rfl,hx2⟩;rw[HTE.out];go_wp2_with fail;refine(HFS.out _).mono ?_;rintro e w3 ⟨rfl,hx3⟩;rw[HAI.out];go_wp2_with fail;refine(HFX.out _).mono ?_;rintro e w4 ⟨rfl,hx4⟩;dsimp only;have hx4w:Ext wr w4:=(hx2.trans hx3).trans hx4;clear hx2 hx3 hx4;go_wp2;go_ret2;have hr:=HR.out;simp only[N3]at hr;obtain⟨rfl,rfl⟩:=hr;exact ElsR.err _ (hx.trans hx4w)
 ·have hdl:H<=DB.size:=B0;obtain⟨D,hD⟩:∃D,DB.extract 0 H=D:=⟨_,rfl⟩;have hDl:D.data.toList=(tx.drop AI.size).take H:=(by rw[<-hD,Zy,hDBl]);have hDs:D.size=H:=(by rw[<-hD,S9];omega);have HV1:=A0 (fun w=>JI AI D U4 U4 w);rw[HHE.out,hDl]at HV1;have HS2:=A0 (S2 hf hlt2);have HS3:=A0 (S3 hf hlt2);have HDE:Hid (encS ((tx.drop AI.size).take H)=.string D):=A0 (by rw[<-hDl,ZT]);generalize(tx.drop AI.size).take H=d at*;obtain⟨K1,hK1⟩:∃K1,p+AI.size=K1:=⟨_,rfl⟩;obtain⟨K2,hK2⟩:∃K2,K1+D.size=K2:=⟨_,rfl⟩;have i1:(p:Int)+(AI.size:Int)=(K1:Int):=B0;have i2:(K1:Int)+(D.size:Int)=(K2:Int):=B0;have HK2:Hid (K2=p+(AI.size+H)∧K2<=k):=A0 (by have:=HE.out;omega);have hD4:D.size<=4096:=B0;clear S1 S2 S3 S4 S5 S6 hf hK1 hK2 hDl hDs hDBl hDBs hlt2 HS1;by_cases hver:Gs.ver ai d=0;(·rw[hver]at HV1;have HP3:Hid ((res1,res2)=Gs.fromF n' (cs.drop K2) (acc++[(ai,d)])):=A0 (by rw[HP2.out,HS3.out hver,C0 L0];dsimp only;rw[W5,HK2.out.1]);clear HS2 HS3 hver;go_wp2_with fail;refine(HTX.out _ hx).mono ?_;rintro e w2 ⟨rfl,hx2⟩;rw[HTE.out];go_wp2_with fail;refine(HFS.out _).mono ?_;rintro e w3 ⟨rfl,hx3⟩;rw[HAI.out];go_wp2_with fail;refine(HFX.out _).mono ?_;rintro e w4 ⟨rfl,hx4⟩;dsimp only;have hx4w:Ext wr w4:=(hx2.trans hx3).trans hx4;clear hx2 hx3 hx4;go_wp2_with fail;refine(HV1.out _).mono ?_;rintro e w5 ⟨rfl,hx5⟩;have hxa:Ext w w5:=((hx.trans hx4w).alloc _).trans hx5;have cA:w5.cell? ⟨w4.heap.size,0,none⟩=some (.string AI):=qQ;have cD:w5.cell? ⟨w4.heap.size,1,none⟩=some (.string D):=qR;have hown5:=((hown.ext hx4w).ext ((Ext.refl w4).alloc _)).ext hx5;have hsz5:=hxa.size;clear hx5 hown hx4w;go_wp2_with (at_builtin;go_loud (refine LP rfl _ _ rfl w.heap.size _ _ rfl (hown5.ext ((Ext.refl w5).alloc _)) _ (ai,d) rfl ?_ ?_ B0 ?_ ?_));(·exact HAI.out.symm);(·exact HDE.out.symm);(·exact S0);intro v6 w6 hown6 hg6;have hx6:Ext w w6:=(hxa.alloc _).ofGrown hg6 hown5.low;clear cA cD hg6 hown5;go_wp2;go_roundw;(case rel=>exact⟨K2,acc++[(ai,d)],n',rfl,HK2.out.2,by have:=HK2.out;rw[T0];simp;omega,hown6,A0 ⟨by have:=HK2.out;have:=HP1.out;omega,HP3.out⟩,hx6⟩);case measure=>have:=HK2.out;exact Q8);·have HR:Hid ((res1,res2)=([],Gs.ver ai d)):=A0 (by rw[HP2.out,HS2.out hver,D0 hver]);obtain⟨z1,hz1⟩:∃z1,Gs.ver ai d=z1:=⟨_,rfl⟩;rw[hz1]at HV1 HR hver;have hz2:(z1==0)=false:=(by simpa using hver);clear hver hz1 HS2 HS3;exact QY):p:=h
theorem Qv(h:p:=by
 go_enter func207,ntmps207;go_wp2_with fail;refine HD.out.mono ?_;rintro e w' ⟨rfl,rfl⟩;go_wp2;generalize hSB:(⟨#[33,34,37,38,39,42,43,44,45,46,47,58,59,60,61,62,63,95]⟩:ByteArray)=SB;have hsz:SB.size=18:=by rw[<-hSB];rfl
 have HSB:Hid (symB=SB):=A0 hSB;have HSZ:=A0 hsz;have hsz1:SB.size<=18:=by omega
 have hsz2:18<=SB.size:=by omega
 clear hSB hsz;go_loop [4] (fun i=>∃k:Nat,k<=18∧i=.int .i64 (k:Int)∧Hid (∀i,i<k->symB.data.toList.getD i 0≠c)) (fun i=>18-(intOf i).toNat);case atStart=>exact⟨0,O0 _,rfl,A0 (fun i hi=>absurd hi (W7 _))⟩
 case round=>obtain⟨k,hk,rfl,hno⟩:=hrel;by_cases hlt:k<18;(·have hks:k<SB.size:=B0;have HGD:Hid (symB.data.toList.getD k 0=SB[k]):=A0 (by rw[HSB.out];exact gdat SB k hks);have HNX:Hid (symB.data.toList.getD k 0≠c->∀i,i<k+1->symB.data.toList.getD i 0≠c):=A0 (fun h i hi=>by rcases P4 i k with hh|hh;(·exact hno.out i hh);·obtain rfl:i=k:=B0;exact h);have HY:=A0 (HYES.out k hlt);rw[HGD.out]at HNX HY;by_cases hv:SB[k]=c;(·have HX:Hid (cb=true):=A0 (by rw[HR.out];exact V0 (HY.out hv));have hb:((SB[k].toNat:Int)==(c.toNat:Int))=true:=(by rw[hv];simp);have hb2:(SB[k].toNat==c.toNat)=true:=(by rw[hv];simp);clear HNX HY HGD hno hv;go_wp2;go_ret;exact⟨Zm (by simp[HX.out]),rfl⟩);·have hne:¬SB[k].toNat=c.toNat:=fun h=>hv (R4.1 h);have hb:((SB[k].toNat:Int)==(c.toNat:Int))=false:=O2;have hb2:(SB[k].toNat==c.toNat)=false:=(by rw[N0];exact hne);have HN1:=A0 (HNX.out hv);clear HNX HY HGD hno hv hne;go_wp2;go_round;(case rel=>exact⟨k+1,by omega,by go_num,HN1⟩);case measure=>exact Q8);·obtain rfl:k=18:=B0;have HX:Hid (cb=false):=A0 (by rw[HR.out,HNO.out hno.out];rfl);clear hk hlt hno;go_wp2;go_ret;exact⟨Zm (by simp[HX.out]),rfl⟩):p:=h
theorem Qw(h:p:=by
 intro V w' hx hf;with_reducible refine relAt_ops ?_
 intro A ρ hA hρ hcst hfun;have h5:ρ (.tmp 5)=.int .i64 (m.length:Int):=(P0 hρ _).trans (evalMiss hA 5 rfl);exact xY):p:=h
theorem Qx(h:p:=by
 rw[D0 g1]at HX;rw[X0 g1]at HE1;clear g1;go_enter func220,ntmps220;go_wp2_with fail;refine Zh 4 1 rfl [25,26,27,28] [[],[0],[],[1,2]] G0 G0 ?_;apply Za;·exact Qa
 apply Za;·exact Qt
 refine Zc (fun v w=>Own 4 w 0 v (Ea.gd.map encT)) (fun _ _ _ h hx=>h.ext hx) ?_ ?_;·exact Qr
 refine Zc (eqv (.bool false)) (Zg _) ?_ ?_;·exact Qg
 intro V wT hxT hf;obtain⟨g25,g26,g27,g28,_⟩:=hf;simp only[fillA,F1,O1,Act.put,V1,N1,L1];have q28:V 28=_:=g28;rw[q28];have HW2:=A0 (HW.out.trans hxT);refine Zb 4 G0 rfl (fun K hK=> ?_);exact tP):p:=h
theorem Qy(h:p:=by
 intro V w' hx hf;with_reducible refine relAt_ops ?_
 intro A ρ hA hρ hcst hfun;obtain⟨f32,_⟩:=hf;have h32:ρ (.tmp 32)=_:=(P0 hρ _).trans ((evalHit hA 32 rfl).trans f32);simp[relUpon,go_sem,Ext.refl,h32];rfl):p:=h
theorem Qz(h:p:=by
 go_wp2_with fail;refine HP1.out.mono ?_;rintro e w3 ⟨rfl,hx3⟩;simp only[preV,ZK,HAI.out];go_wp2_with fail;refine(HX.out _).mono ?_;rintro e w4 ⟨rfl,hx4⟩;have hx34:Ext wr w4:=(hx3.alloc _).trans hx4;have hel4:=HEL.out.ext hx34;obtain⟨g0,g1⟩:=hel4.cells;have f0:=hel4.free 0;have f1:=hel4.free 1;have c2:w4.cell? ⟨w3.heap.size,2,none⟩=some (.int .i64 (H:Int)):=PQ
 have hxa:Ext w w4:=hxw.trans hx34;clear hx3 hx4;have hcv2:=HCV.out w4 hx34;go_wp2_with fail;refine(HV1.out _ ((hxa.setCell (K0 _) _).setCell (K0 _) _)).mono ?_;rintro e w5 ⟨rfl,hx5⟩;have hel5:=(hel4.put (ai,d)).ext KN;obtain⟨i0,i1⟩:=hel5.cells;simp only[HAI.out,HD.out]at i0 i1;have f0:=hel5.free 0;have f1:=hel5.free 1;have hxb:Ext w w5:=((hxa.setCell (K0 _) _).setCell (K0 _) _).trans hx5;have HQ:=A0 (hel5.puts ([],[]));clear hx5 hel5 hel4 g0 g1;go_wp2;obtain⟨p0,p1⟩:=HQ.out;refine V4 (v:=.tuple #[.agg #[.string ⟨#[]⟩,.string ⟨#[]⟩],.int .i64 0,.int .i64 z1]) AJ rfl ⟨by rw[HR.out];rfl,Xf⟩):p:=h
theorem QA(h:p:=by exact sZ):p:=h
theorem QC(h:p:=by
 have HA:=A0 (qJ d (fun c=>Cd.isDig c.toNat) j hlt);have HN:=A0 (qK d (fun c=>Cd.isDig c.toNat) j hlt);cases hp:Cd.isDig (d[j].toNat:Int);·have HP:=A0 hp;have HR:Hid (res=6):=A0 (HV6.out (HN.out hp));clear hp HA HN;go_wp2_with fail;refine(PV _ _).mono ?_;exact tQ
 ·have HP:=A0 hp;have HO:Hid ((d.data.toList.take (j+1)).all (fun c=>Cd.isDig c.toNat)=true):=A0 qL;clear hp HA HN;go_wp2_with fail;refine(PV _ _).mono ?_;exact GV):p:=h
theorem QD(h:p:=by go_enter func206,ntmps206;go_wp2_with fail;refine HD.out.mono ?_;rintro e w' ⟨rfl,rfl⟩;go_wp2;go_ret2;exact⟨by rw[HR.out];rfl,Ext.refl _⟩):p:=h
theorem QE(h:p:=by
 have hxx:decide (x<0)=false:=by simpa using hx
 go_wp2_with fail;refine(HI.out _).mono ?_;rintro en w4 ⟨rfl,rfl⟩;go_wp2_with (at_builtin;refine OI rfl _ _ rfl w.heap.size _ got rfl (hown.alloc _) _ c rfl ?c1 ?c2 ?c3 ?_);case c1=>simp[go_sem,encB]
 case c2=>omega
 case c3=>have:=hx3.size;exact S0
 intro v' w5 hown5 hg5;have hx5:=(hx3.alloc _).ofGrown hg5 hown.low;go_wp2;go_roundw;case rel=>exact⟨j+1,by omega,by go_num,by rw[HSN.out,E3];exact hown5,HN,hx5⟩
 case measure=>exact Q8):p:=h
theorem QF(h:p:=by rintro e w1 ⟨rfl,rfl⟩;go_wp2_with fail;refine(HRI.out _).mono ?_;rintro e w2 ⟨rfl,hx2⟩;go_wp2_with fail;refine(HDA.out _).mono ?_;rintro e w1 ⟨rfl,rfl⟩;go_wp2_with fail;refine(HQ.out _).mono ?_;rintro e w1 ⟨rfl,rfl⟩;go_wp2_with fail;refine(HL.out _).mono ?_;rintro e w3 ⟨rfl,hx3⟩;go_wp2_with fail;refine(HSY.out _).mono ?_;rintro e w4 ⟨rfl,hx4⟩;go_wp2_with fail;refine(HL9.out _).mono ?_;rintro e w5 ⟨rfl,hx5⟩;go_wp2_with fail;refine(HAS.out _).mono ?_;rintro e w6 ⟨rfl,hx6⟩;go_wp2_with fail;refine(HDR.out _).mono ?_;rintro e w7 ⟨rfl,hx7⟩;go_wp2_with fail;refine(HL7.out _).mono ?_;rintro e w8 ⟨rfl,hx8⟩;go_wp2_with fail;refine(HMO.out _).mono ?_;rintro e w9 ⟨v,rfl,hs9,hx9⟩;go_wp2;go_ret2;exact⟨v,by rw[HX.out];rfl,by rw[HX.out];exact hs9,((((((hx2.trans hx3).trans hx4).trans hx5).trans hx6).trans hx7).trans hx8).trans hx9⟩):p:=h
theorem QG(h:p:=by
 go_wp2_with fail;refine(HPT.out _).mono ?_;rintro e w2 ⟨qv,rfl,hqs,hx2⟩;dsimp only at hqs;obtain⟨a2,c2,rfl⟩:=hqs.1.form;rw[J0]at hqs⊢;have hxw2:=hxr.trans hx2;clear hqs hx2 hxr;go_wp2;go_loopw [9,8] (fun i s wr=>i=.int .i64 0∧s=.bool false∧Ext w wr) (fun _ _ _=>0);case atStart=>exact⟨rfl,rfl,hxw2⟩
 case round=>clear hxw2;obtain⟨rfl,rfl,hxr⟩:=hrel;go_wp2;all_goals go_roundw;(case rel=>exact⟨m+1,by omega,by omega,by go_num,HN2,hxr⟩);case measure=>exact Q8):p:=h
theorem QH(h:p:=by
 go_wp2_with fail;refine HP1.out.mono ?_;rintro e w3 ⟨rfl,hx3⟩;simp only[preV,ZK,HAI.out];go_wp2_with fail;refine(HX.out _).mono ?_;rintro e w4 ⟨rfl,hx4⟩;have hx34:Ext wr w4:=(hx3.alloc _).trans hx4;have hel4:=HEL.out.ext hx34;obtain⟨g0,g1⟩:=hel4.cells;have f0:=hel4.free 0;have f1:=hel4.free 1;have c2:w4.cell? ⟨w3.heap.size,2,none⟩=some (.int .i64 (H:Int)):=PQ
 have hxa:Ext w w4:=hxw.trans hx34;clear hx3 hx4;have hcv2:=HCV.out w4 hx34;go_wp2_with fail;refine(HV1.out _ ((hxa.setCell (K0 _) _).setCell (K0 _) _)).mono ?_;rintro e w5 ⟨rfl,hx5⟩;have hel5:=(hel4.put (ai,d)).ext KN;obtain⟨i0,i1⟩:=hel5.cells;simp only[HAI.out,HD.out]at i0 i1;have f0:=hel5.free 0;have f1:=hel5.free 1;have hxb:Ext w w5:=((hxa.setCell (K0 _) _).setCell (K0 _) _).trans hx5;have HQ:=A0 (hel5.puts (ai,d));clear hx5 hel5 hel4 g0 g1;go_wp2;obtain⟨p0,p1⟩:=HQ.out;refine V4 (v:=.tuple #[.agg #[.string AI,.string D],.int .i64 (Q:Int),.int .i64 0]) fL rfl ⟨by rw[HR.out];simp only[HAI.out,HD.out],Xf⟩):p:=h
theorem QI(h:p:=by
 have HJ0:=A0 hj0;have d1:decide ((0:Int)<(j:Int))=false:=S0
 have d2:((j:Int)==0)=true:=S0
 have d3:((j:Int)==(n:Int)-1)=false:=O2
 clear hj0;go_wp2;refine D6 (C:=fun w'=>∃x:Zx wr,w'=x.at') G0 G0 (Zx.drawn _) ?_;try dsimp only
 repeat(first|go_big_quiet_step ((go_at_call 237;exact Zu ((HQ.out _).mono fun _ _ h=>⟨h.1,h.2▸Ext.refl _⟩)))|quiet_step ((go_at_call 237;exact Zu ((HQ.out _).mono fun _ _ h=>⟨h.1,h.2▸Ext.refl _⟩))))
 refine E6 ?_;intro _ hx0;obtain⟨x0,hx0⟩:=hx0;subst hx0;obtain⟨w3,hx3⟩:=x0;try dsimp only
 have he3:=(HS.out.ext (hxr.trans hx3)).e;have hi3:=(HS.out.ext (hxr.trans hx3)).i;replace hown:=hown.ext hx3;replace hx3:=hxr.trans hx3;clear hz2 hz3;cases ok;·have h1:er j=19:=(by rw[HE.out,C0 JV,D0 ⟨HJ0.out,rfl⟩]);exact zC
 ·have HI:=A0 (NV edge c);by_cases hx:Lib.indexByte edge.data.toList c<0;(·have hin:Tw.isIn edge.data.toList (c,true)=false:=TY;have h1:er j=19:=(by rw[HE.out,C0 JV,D0 ⟨HJ0.out,hin⟩]);exact tM);·have hin:Tw.isIn edge.data.toList (c,true)=true:=TY;have h1:er j=0:=(by rw[HE.out,C0 JV,C0 (by rw[hin];simp),C0 (by rw[hin];simp),C0 JV]);exact tN):p:=h
theorem QJ(h:p:=by
 refine⟨fun h=>absurd h hsome,fun i hi=> ?_⟩;obtain⟨hiu,o,ho,hdep⟩:=TD.1 hi;have hin:i<ops.size:=(O3.1 ho).1;have him:i<m:=iT
 have h4:=c4 i (M4.2 him);rw[ho]at h4;simp only[M2,Y0,U1,Y1]at h4;obtain⟨⟨hg,hd⟩,hdd⟩:=h4;have hgn:o.guard=none:=by cases h:o.guard with
  |none=>rfl
  |some x=>rw[h]at hg;cases hg
 have hw:Region.wanted o (yielded ops b.tmps)=true:=by simp[Region.wanted,hgn]
 unfold wpOp;rw[ho];simp only[hw,W4];refine .inl ?_;have hs:=hstep i o him ho V w I.ext (fun j hj=>by obtain⟨h1,h2⟩:=hdd j hj;obtain⟨e,he,hb,hon⟩:=VZ ho h2;exact I.fact j B0 AT);rw[I.fill];refine NH hs (fun v w' ⟨hx,hR⟩=> ?_);have hmem:ds.getD i 0∈ds:=iU
 rw[hd,FC V _ v ds a c3 hmem];refine ih _ _ _ _ ?_ ⟨?_,rfl,I.ext.trans hx,?_,?_,?_⟩;·have:=NJ I.size hiu;omega
 ·rw[Array.size_setIfInBounds];exact I.size
 ·exact iV
 ·intro k hk hl;by_cases hki:i=k;(·subst hki;rw[D0 rfl];exact hR);·rw[TM false hki]at hl;have hne:ds.getD k 0≠ds.getD i 0:=iW;rw[C0 hne];exact hst k _ _ _ (I.fact k hk hl) hx
 ·exact iX):p:=h
theorem QK(h:p:=by
 obtain⟨T,hT⟩:∃T,Ea.bS t=T:=⟨_,rfl⟩;have HT:=A0 hT;rw[hT]at HS;obtain⟨AL,hAL⟩:∃T,Ea.bS al=T:=⟨_,rfl⟩;have HAL:=A0 hAL;rw[hAL]at HA;obtain⟨_,a,c,rfl,hc⟩:=hv;rw[J0]at hp1 hp2 hp3⊢;clear hr hra hT hAL hc hq1 hq2 hq3 hn HF hg he hdk e2 h7 h12;by_cases h0:er=0;·subst h0;rw[C0 (fun h=>h rfl)];by_cases ha0:ae=0;(·subst ha0;rw[C0 (fun h=>h rfl)];go_enter func144,ntmps144;go_wp2_with fail;refine(HD.out _ Xf).mono ?_;rintro e w1 ⟨rfl,rfl⟩;go_wp2_with fail;refine(HS.out _ Xf).mono ?_;rintro e w2 ⟨rfl,hx⟩;go_wp2_with fail;refine(HA.out _ (Ext.before hx)).mono ?_;rintro e w3 ⟨rfl,hx3⟩;have hx4:=hx.trans hx3;obtain⟨z0,z1,z2,z3,z4,z5,z6,HB⟩:=Zj (Zv rfl hx4);have hxw:=hx4.before;clear hx hx3 hx4;go_wp2;refine E1 (ZO results144 rfl (Zk HB) rfl rfl) rfl ?_;exact⟨by unfold linV;dsimp only;rw[HT.out,HAL.out];rfl,((hxw.setCell (K0 _) _).setCell (K0 _) _).setCell (K0 _) _⟩);·rw[D0 ha0];have hb:(ae !=0)=true:=C3.2 ha0;clear ha0;go_enter func144,ntmps144;go_wp2_with fail;refine(HD.out _ Xf).mono ?_;rintro e w1 ⟨rfl,rfl⟩;go_wp2_with fail;refine(HS.out _ Xf).mono ?_;rintro e w2 ⟨rfl,hx⟩;go_wp2_with fail;refine(HA.out _ (Ext.before hx)).mono ?_;rintro e w3 ⟨rfl,hx3⟩;have hx4:=hx.trans hx3;obtain⟨z0,z1,z2,z3,z4,z5,z6,HB⟩:=Zj (Zv rfl hx4);have hxw:=hx4.before;clear hx hx3 hx4;exact tR
 ·rw[D0 h0];have hb:(er !=0)=true:=C3.2 h0;clear h0;go_enter func144,ntmps144;go_wp2_with fail;refine(HD.out _ Xf).mono ?_;rintro e w1 ⟨rfl,rfl⟩;go_wp2_with fail;refine(HS.out _ Xf).mono ?_;rintro e w2 ⟨rfl,hx⟩;exact mB):p:=h
theorem QL(h:p:=by
 intro V w' hx hf;with_reducible refine relAt_ops ?_
 intro A ρ hA hρ hcst hfun;obtain⟨f77,f78,_⟩:=hf;have h77:ρ (.tmp 77)=_:=(P0 hρ _).trans ((evalHit hA 77 rfl).trans f77);have h78:ρ (.tmp 78)=V 78:=(P0 hρ _).trans (evalHit hA 78 rfl);simp[relUpon,go_sem,hfun,h77,h78];exact(HE3.out w' _ _ (HW.out.trans hx) f78).mono fun e w'' ⟨he,hy⟩=>⟨_,he,hy,rfl⟩):p:=h
theorem QM(h:p:=by subst hs0;clear h2 HR;go_enter func206,ntmps206;go_wp2;go_ret2;exact⟨rfl,Ext.refl _⟩):p:=h
theorem QN(h:p:=by
 intro V w' hx hf;with_reducible refine relAt_ops ?_
 intro A ρ hA hρ hcst hfun;simp[relUpon,go_sem,hcst,hfun];exact(HMM.out w').mono fun e w'' ⟨v,he,ho,hy⟩=>⟨v,he,hy,ho.mono (O0 _)⟩):p:=h
theorem QO(h:p:=by exact tL):p:=h
theorem QP(h:p:=by
 obtain⟨j,hj,rfl,hal⟩:=hrel;by_cases hlt:j<d.size;·exact QC
 ·exact tS):p:=h
theorem QQ(h:p:=by
 obtain⟨s',h',o'⟩:=t9;obtain⟨rfl,rfl,rfl,hO9⟩:=hK9;obtain⟨i1,i2,i3⟩:=Cc.step_in HSTE.out.symm hs HSH.out;dsimp only at i1 i2 i3;have HI2:=A0 i2;have HC9:Hid (RC=Cc.runC s' q (out++o') (ms.drop (j+1))):=A0 (by rw[HC.out,Cc.run_at HXJ.out,<-HSTE.out]);have HM9:Hid (out.length+o'.length=(out++o').length):=A0 (by rw[T0]);have hm9:out.length+o'.length<=2*(j+1):=by rw[<-HMO.out];omega
 generalize out.length+o'.length=m9 at*;obtain⟨e0,e1,e2,e3,e4,e5,e6,e7⟩:=Zj hB9;have HO9:=A0 hO9;have HX9:=A0 hX9;clear hB9 hO9 hX9 i2;go_wp2_with fail;go_roundw;case rel=>exact⟨j+1,s',q,a9,c9,m9,out++o',by omega,by omega,by go_num,i1,HI2.out,hm9,HM9.out,HC9,A0 (Zk e7),A0 (((HO9.out.set e7.out I0 _ _).set (Zp e7.out) I0 _ _).set (Zp (Zp e7.out)) I0 _ _),A0 (KV HX9.out (K0 _) _ _ _)⟩
 case measure=>exact C1):p:=h
theorem QR(h:p:=by
 go_enter func221,ntmps221;go_wp2_with fail;refine Zh 4 1 rfl [11,12,13,14] [[],[0],[],[1,2]] G0 G0 ?_;apply Za;·exact Qa
 apply Za;·exact qA
 refine Zc (fun v w=>Own 4 w 0 v (Ea.sA.map encT)) (fun _ _ _ h hx=>h.ext hx) ?_ ?_;·exact qB
 refine Zc (eqv (.bool false)) (Zg _) ?_ ?_;·exact qC
 intro V wT hxT hf;obtain⟨g11,g12,g13,g14,_⟩:=hf;simp only[fillA,F1,O1,Act.put,V1,N1,L1];have q14:V 14=_:=g14;rw[q14];have HW2:=A0 (HW.out.trans hxT);refine Zb 4 G0 rfl (fun K hK=> ?_);go_simp;refine hK _ _ ?_;clear hK K;refine⟨rfl,?_⟩;clear HW;have HW:=HW2;clear HW2;go_wp2;go_ret2;exact⟨by rw[<-HX.out];rfl,HW.out⟩):p:=h
theorem QS(h:p:=by
 simp only[recV]at HL HR;cases hm:((J.extract 28 33).toList== [48,49,48,49,48]);·exact JW
 ·exact JW):p:=h
theorem QT(h:p:=by
 simp only[recV]at HL HR;cases hm:((J.extract 42 47).toList== [48,49,48,49,48]);·exact JW
 ·exact JW):p:=h
theorem QU(h:p:=by rw[D0 h0]at HX;have HG:=A0 HX.out.symm;obtain⟨rfl,rfl⟩:=HZR.out h0;have hb:(er !=0)=true:=C3.2 h0;clear HX HZR HAW HAE ha h0;go_enter func139,ntmps139;go_wp2_with fail;refine(HS.out _).mono ?_;rintro e w1 ⟨rfl,hx⟩;obtain⟨z0,z1,z2,z3,z4,z5,z6,HB⟩:=Zj (Zv rfl hx.before);obtain⟨y0,y1,y2,y3,y4,y5,y6,HC⟩:=Zj (Zv (UP _ _) hx);have hxw:=hx.before.before;clear hx;go_wp2;refine E1 (Zi results139 rfl (Zk (PG B0 HB)) rfl) rfl ?_;have HXX:=(((hxw.setCell (p:=⟨w.heap.size+1,0,none⟩) (A4 _) (.int .i64 0)).setCell (p:=⟨w.heap.size+1,1,none⟩) (A4 _) (.string T)).setCell (p:=⟨w.heap.size+1,2,none⟩) (A4 _) (.string ⟨#[]⟩));exact tA):p:=h
theorem QV(h:p:=by subst hp9;go_enter func261,ntmps261;go_wp2_with fail;refine E1 (DW results261 rfl (UZ w _ _ _).2 rfl) rfl ?_;rw[HF.out];exact⟨GB.ext Xf,a,c,by rw[HN.out];rfl,by rw[HN.out,P3];exact(HO.out.alloc _).alloc _⟩):p:=h
theorem QW(h:p:=by go_enter func97,ntmps97;go_wp2;go_quiet (fail);exact yB):p:=h
theorem QX(h:p:=by
 obtain⟨j,hj,rfl,hr⟩:=hrel;by_cases hlj:j<m.length
 ·obtain⟨bb,off,ha,hbl,hc0⟩:=HV.out.at_ (k:=m.length-1-j) A3
  simp only[I2,Addr.mk.injEq,X8]at ha
  obtain⟨rfl,rfl⟩:=ha
  rw[E5]at hc0
  unfold encT at hc0
  obtain⟨b,hb⟩:∃b,m[m.length-1-j]' B0=b:=⟨_,rfl⟩
  rw[hb]at hc0
  have hi:(m.length:Int)-1-(j:Int)=((m.length-1-j:Nat):Int):=by omega
  have hil:m.length-1-j<m.length:=by omega
  have HRV:Hid (m.reverse.drop j=b::m.reverse.drop (j+1)):=A0 tT
  have hr2:=hr.out
  rw[HRV.out]at hr2
  have HR2:=A0 hr2
  clear hr2 hr hb HRV
  obtain⟨ix,hix⟩:∃ix,m.length-1-j=ix:=⟨_,rfl⟩
  rw[hix]at hc0 hi hil
  clear hix
  cases b with
  |true=>exact tU
  |false=>exact tV
 ·exact tW):p:=h
theorem QY(h:p:=by go_wp2_with fail;refine(HTX.out _ hx).mono ?_;rintro e w2 ⟨rfl,hx2⟩;rw[HTE.out];go_wp2_with fail;refine(HFS.out _).mono ?_;rintro e w3 ⟨rfl,hx3⟩;rw[HAI.out];go_wp2_with fail;refine(HFX.out _).mono ?_;rintro e w4 ⟨rfl,hx4⟩;dsimp only;have hx4w:Ext wr w4:=(hx2.trans hx3).trans hx4;clear hx2 hx3 hx4;go_wp2_with fail;refine(HV1.out _).mono ?_;rintro e w5 ⟨rfl,hx5⟩;have hxa:Ext w w5:=((hx.trans hx4w).alloc _).trans hx5;go_wp2;go_ret2;have hr:=HR.out;simp only[N3]at hr;obtain⟨rfl,rfl⟩:=hr;exact ElsR.err _ hxa):p:=h
theorem QZ(h:p:=by
 cases ok;·exact QW
 ·have dr1:=dr rfl;exact QW):p:=h
theorem Q0(h:p:=by
 intro hnil;have key:∀i,i<=m->listed.getD i false=true:=by
  intro i
  induction i using Nat.strongRecOn with
  |_ i ihi=>
   intro him
   cases h:listed.getD i false with
   |true=>rfl
   |false=>exfalso;have hin:i<ops.size:=B0;have h5:=c5 i (M4.2 hin);obtain⟨o,ho⟩:∃o,ops[i]? =some o:=⟨_,Array.getElem?_eq_getElem hin⟩;rw[ho]at h5;simp only[Array.all_eq_true_iff_forall_mem,B7,JF,Y1]at h5;have:i∈Region.ready .any ops listed:=(by rw[TD];refine⟨by rw[NK AS];exact h,o,ho,fun e he hb=> ?_⟩;rcases h5 e he with h5|h5;(·rw[hb]at h5;cases h5);·exact ihi e.on h5 B0);rw[hnil]at this;cases this
 rw[key m (K0 _)]at hmf;cases hmf):p:=h
theorem Q1(h:p:=by
 intro V w' hx hf;with_reducible refine relAt_ops ?_
 intro A ρ hA hρ hcst hfun;obtain⟨f114,f115,_⟩:=hf;have h114:ρ (.tmp 114)=_:=(P0 hρ _).trans ((evalHit hA 114 rfl).trans f114);have h115:ρ (.tmp 115)=V 115:=(P0 hρ _).trans (evalHit hA 115 rfl);simp[relUpon,go_sem,hfun,h114,h115];exact(HE3.out w' _ _ (HW.out.trans hx) f115).mono fun e w'' ⟨he,hy⟩=>⟨_,he,hy,rfl⟩):p:=h
theorem Q2(h:p:=by
 obtain⟨j,hj,rfl,hr⟩:=hrel;by_cases hlj:j<m.length
 ·obtain⟨bb,off,ha,hbl,hc0⟩:=HV.out.at_ (k:=m.length-1-j) A3
  subst ha
  rw[E5]at hc0
  unfold encT at hc0
  obtain⟨b,hb⟩:∃b,m[m.length-1-j]' B0=b:=⟨_,rfl⟩
  rw[hb]at hc0
  have hi:(m.length:Int)-1-(j:Int)=((m.length-1-j:Nat):Int):=by omega
  have hil:m.length-1-j<m.length:=by omega
  have HRV:Hid (m.reverse.drop j=b::m.reverse.drop (j+1)):=A0 tT
  have hr2:=hr.out
  rw[HRV.out]at hr2
  have HR2:=A0 hr2
  clear hr2 hr hb HRV
  obtain⟨ix,hix⟩:∃ix,m.length-1-j=ix:=⟨_,rfl⟩
  rw[hix]at hc0 hi hil
  clear hix
  cases b with
  |true=>exact tU
  |false=>exact tV
 ·exact tW):p:=h
theorem Q3(h:p:=by
 clear hq;go_enter func134,ntmps134;go_wp2_with fail;refine(HT.out _).mono ?_;rintro e w1 ⟨rfl,hx1⟩;dsimp only;obtain⟨d0,d1⟩:=FJ.out w1 hx1;have hxw:Ext w w1:=HXA.out.trans hx1;go_wp2;go_loop [6] (fun i=>∃j:Nat,j<=d.size∧i=.int .i64 (j:Int)∧Hid ((d.data.toList.take j).all (fun c=>Cd.isDig c.toNat || Gs.charB c)=true)) (fun i=>d.size-(intOf i).toNat);case atStart=>exact X4
 case round=>obtain⟨j,hj,rfl,hal⟩:=hrel;by_cases hlt:j<d.size;(·have HA:=A0 (qJ d (fun c=>Cd.isDig c.toNat || Gs.charB c) j hlt);have HN:=A0 (qK d (fun c=>Cd.isDig c.toNat || Gs.charB c) j hlt);cases hp:(Cd.isDig d[j].toNat || Gs.charB d[j]);(·have HP:=A0 hp;have HR:Hid (res=6):=A0 (HV6.out (HN.out hp));clear hp HA HN;go_wp2_with fail;refine(mR _ _).mono ?_;exact tQ);·have HP:=A0 hp;have HO:Hid ((d.data.toList.take (j+1)).all (fun c=>Cd.isDig c.toNat || Gs.charB c)=true):=A0 qL;clear hp HA HN;go_wp2_with fail;refine(mR _ _).mono ?_;exact GV);·exact tS):p:=h
theorem Q4(h:p:=by
 intro V w' hx hf;with_reducible refine relAt_ops ?_
 intro A ρ hA hρ hcst hfun;have h5:ρ (.tmp 5)=.int .i64 (k:Int):=(P0 hρ _).trans (evalMiss hA 5 rfl);exact xY):p:=h
theorem Q5(h:p:=by
 have HAS:=A0 (fun w=>ZgU L B0 (by rw[hLl];exact f3) w);rw[hLl]at HAS;obtain⟨X,hX⟩:∃X,Ea.bS (zS (Ea.setsAdd l))=X:=⟨_,rfl⟩;have HC:Hid ((X.toList==U.toList)=decide (Ea.setsAdd l=u)):=A0 (by rw[C4,Y0,Y1,<-hX,C2,C2,hUl,Ea.bS_list];constructor;(·intro h;exact BH (fun x hx=>by have:=(Ea.setsAdd_ok (a:=l) (by rw[f1];decide)).2 x hx;omega) (fun x hx=>by have:=f4 x hx;omega) h);·intro h;rw[h]);have HE:Hid (L=Ea.bS l):=A0 (by rw[<-hLl,Ea.bS_of]);rw[hX]at HAS;have HX3:=A0 HX2.out;dsimp only at HX3;clear hX hLl hUl f1 f2 f3 f4 HX2 HLF hL1 hLz;cases hc:(X.toList==U.toList);·have HG:Hid (res=([],8)):=A0 (by have h:=HC.out;rw[hc]at h;rw[<-HX3.out,D0 (K9 h.symm)]);clear HX3 HC;go_wp2_with fail;refine(HRD.out _ HW.out).mono ?_;rintro e w5 ⟨rfl,hx5⟩;go_wp2_with fail;refine(HAS.out _).mono ?_;rintro e w6 ⟨rfl,hx6⟩;go_wp2;go_ret2;exact⟨by rw[HG.out];rfl,HW.out.trans (hx5.trans hx6)⟩
 ·have HG:Hid (res=(l,0)):=A0 (by have h:=HC.out;rw[hc]at h;rw[<-HX3.out,C0 (fun hh=>hh (G6 h.symm))]);clear HX3 HC;go_wp2_with fail;refine(HRD.out _ HW.out).mono ?_;rintro e w5 ⟨rfl,hx5⟩;go_wp2_with fail;refine(HAS.out _).mono ?_;rintro e w6 ⟨rfl,hx6⟩;go_wp2;go_ret2;exact⟨by rw[HG.out];unfold addV;dsimp only;rw[<-HE.out];rfl,HW.out.trans (hx5.trans hx6)⟩):p:=h
theorem Q6(h:p:=by
 clear hq;go_enter func134,ntmps134;go_wp2_with fail;refine(HT.out _).mono ?_;rintro e w1 ⟨rfl,hx1⟩;dsimp only;obtain⟨d0,d1⟩:=FJ.out w1 hx1;have hxw:Ext w w1:=HXA.out.trans hx1;go_wp2;go_loop [6] (fun i=>∃j:Nat,j<=d.size∧i=.int .i64 (j:Int)∧Hid ((d.data.toList.take j).all (fun c=>Cd.isDig c.toNat)=true)) (fun i=>d.size-(intOf i).toNat);case atStart=>exact X4
 case round=>exact QP):p:=h
theorem Q7(h:p:=by
 by_cases hql:q<m;·have hqI:(q:Int)<(m:Int):=B0;have hown:=HO.out;have hgl:(got++List.replicate q cb).length<=65536:=(by have h1:=HL2.out;rw[HMS.out,T0,D3]at h1;rw[T0,D3];omega);have hsz:=HX.out.size;go_wp2_with (at_builtin;refine ZU rfl _ _ rfl w.heap.size _ (got++List.replicate q cb) rfl (hown.alloc _) _ cb rfl ?c1 ?c2 ?c3 ?_);(case c1=>exact K7);(case c2=>omega);(case c3=>exact Y2);intro v' w5 hown5 hg5;have HX5:=A0 ((HX.out.alloc _).ofGrown hg5 hown.low);have HO5:Hid (Own 4 w5 w.heap.size v' ((got++List.replicate (q+1) cb).map encT)):=A0 (by first|(rw[VT,<-M3];exact hown5)|(rw[show(got++List.replicate (q+1) cb).map encT=List.map encT got++(List.replicate q (encT cb)++[encT cb]) by rw[VT];simp];exact hown5));clear hown hown5 hg5 hsz;go_wp2_with fail;go_roundw;(case rel=>exact⟨q+1,by omega,by go_num,HO5,HX5⟩);case measure=>exact C1
 ·obtain rfl:q=m:=B0;have HO3:Hid (Own 4 wr w.heap.size _ ((Rn.mods true (ws.take (j+1))).map encT)):=A0 (by rw[HMS.out];exact HO.out);clear hql hq;go_wp2_with fail;go_roundw;(case rel=>exact⟨j+1,by omega,by go_num,HO3,HX⟩);case measure=>exact C1):p:=h
theorem Q8(h:p:=by simp[intOf];omega):p:=h
theorem Q9(h:p:=by
 by_cases heq:DB.data.toList=MB.data.toList;·rw[C0 (by intro h;exact h.2 (hsm.2 heq))]at HT;obtain rfl:DB=MB:=Zl heq;clear hsm heq;go_enter func84,ntmps84;go_wp2_with fail;refine(HP.out _).mono ?_;rintro e w1 ⟨rfl,rfl⟩;go_wp2_with fail;refine(HW.out _ (Ext.refl _)).mono ?_;rintro e w2 ⟨wv,rfl,how,hx2⟩;have HRC:=A0 (HR.out w2 wv _ how);clear how HR;go_wp2_with fail;refine HRC.out.mono ?_;rintro e w3 ⟨rfl,hx3⟩;exact pV
 ·rw[D0 ⟨rfl,fun h=>heq (hsm.1 h)⟩]at HT;have hne:=pU heq;clear hsm heq;go_enter func84,ntmps84;go_wp2_with fail;refine(HP.out _).mono ?_;rintro e w1 ⟨rfl,rfl⟩;go_wp2_with fail;refine(HW.out _ (Ext.refl _)).mono ?_;rintro e w2 ⟨wv,rfl,how,hx2⟩;have HRC:=A0 (HR.out w2 wv _ how);clear how HR;go_wp2_with fail;refine HRC.out.mono ?_;rintro e w3 ⟨rfl,hx3⟩;exact pW):p:=h
theorem TN(h:p:=by
 intro V w' hx hf;with_reducible refine relAt_ops ?_
 intro A ρ hA hρ hcst hfun;obtain⟨f76,_⟩:=hf;have h76:ρ (.tmp 76)=_:=(P0 hρ _).trans ((evalHit hA 76 rfl).trans f76);simp[relUpon,go_sem,hcst,Ext.refl,h76,hp3];rfl):p:=h
theorem C1(h:p:=by simp[intOf];try omega):p:=h
theorem lA(h:p:=by
 obtain⟨x,hxi⟩:∃x,ws[i]? =some x:=⟨_,M0 ES⟩;have hx:=HDG.out x (J1 hxi);have hXl:i<X.size:=by rw[hXs];exact hlt
 have hXi:X[i]'hXl=UInt8.ofNat (48+x.toNat):=ET
 have hyn:(UInt8.ofNat (48+x.toNat)).toNat=48+x.toNat:=RV
 have hown:=HO.out;have hsz:=HX.out.size;have hol:(ws.take i).length<=10:=by rw[M1,HWL.out];omega
 have HT:=A0 (Zz hxi);have hmx:(48+max x 0)%256-48=x:=by omega
 clear hxi HO;go_wp2_with (at_builtin;refine Zq rfl _ _ rfl w.heap.size _ (ws.take i) rfl (hown.alloc _) _ x rfl ?c1 ?c2 ?c3 ?_);case c1=>simp[go_sem,encI];try omega
 case c2=>omega
 case c3=>exact Y2
 intro v' w5 hown5 hg5;have HX5:=A0 ((HX.out.alloc _).ofGrown hg5 hown.low);have HO5:Hid (Own 3 w5 w.heap.size v' ((ws.take (i+1)).map encI)):=A0 (by rw[HT.out,E3];rw[I3];exact hown5);clear hown hown5 hg5 hsz;go_wp2_with fail;go_roundw;case rel=>exact⟨i+1,by omega,by go_num,HO5,HX5⟩
 case measure=>exact C1):p:=h
theorem tG(h:p:=by
 intro V w' hx hf;with_reducible refine relAt_ops ?_
 intro A ρ hA hρ hcst hfun;obtain⟨f21,f25,f28,_⟩:=hf;have h21:ρ (.tmp 21)=_:=(P0 hρ _).trans ((evalHit hA 21 rfl).trans f21);have h25:ρ (.tmp 25)=_:=(P0 hρ _).trans ((evalHit hA 25 rfl).trans f25);have h28:ρ (.tmp 28)=_:=(P0 hρ _).trans ((evalHit hA 28 rfl).trans f28);simp[relUpon,go_sem,Ext.refl,h21,h25,h28,hp2];rfl):p:=h
theorem tH(h:p:=by
 intro V w' hx hf;with_reducible refine relAt_ops ?_
 intro A ρ hA hρ hcst hfun;obtain⟨f29,f30,_⟩:=hf;have h29:ρ (.tmp 29)=_:=(P0 hρ _).trans ((evalHit hA 29 rfl).trans f29);have h30:ρ (.tmp 30)=V 30:=(P0 hρ _).trans (evalHit hA 30 rfl);simp[relUpon,go_sem,hfun,h29,h30];exact(HE2.out w' _ _ (HW.out.trans hx) f30).mono fun e w'' ⟨he,hy⟩=>⟨_,he,hy,rfl⟩):p:=h
theorem qC(h:p:=by
 intro V w' hx hf;with_reducible refine relAt_ops ?_
 intro A ρ hA hρ hcst hfun;obtain⟨f12,f13,_⟩:=hf;have h12:ρ (.tmp 12)=_:=(P0 hρ _).trans ((evalHit hA 12 rfl).trans f12);have h13:ρ (.tmp 13)=V 13:=(P0 hρ _).trans (evalHit hA 13 rfl);simp[relUpon,go_sem,hfun,h12,h13];exact(HE1.out w' _ _ (HW.out.trans hx) f13).mono fun e w'' ⟨he,hy⟩=>⟨_,he,hy,rfl⟩):p:=h
theorem mN(h:p:=by go_wp2;go_ret2;exact⟨by rw[HR.out];rfl,Ext.refl _⟩):p:=h
theorem PS(h:p:=by go_enter func145,ntmps145;go_wp2_with fail;refine HWD.out.mono ?_;rintro e w1 ⟨u,rfl,⟨hs,a,c,rfl,hc⟩,hx1⟩;rw[J0,<-HNW.out];go_wp2_with fail;refine(HMG.out w1 hx1).mono ?_;rintro e w2 ⟨rfl,rfl⟩;go_wp2;go_ret2;rw[HF.out];exact F5.bad _ _ _ hx1):p:=h
theorem fG(h:p:=by have hcj:=hrow.cell hlt;have hfj:=hrow.frozen j;have hxw:Ext w wr:=((Ext.refl w).alloc _).trans hxr;have hbj:=HCC.out wr hxw j hlt;obtain⟨cj0,cj1⟩:=HOK.out ((Gs.run cs).getD j 0) (by have hj':j<(Gs.run cs).length:=(by rw[HM.out];exact hlt);rw[U0,M0 hj'];exact GT _);have HBN:=A0 (fC cj0 cj1);obtain⟨cj,hcjj⟩:∃cj,(Gs.run cs).getD j 0=cj:=⟨_,rfl⟩;have HR1:=A0 ((hrow.set j (.int .u8 cj)).congr (g:=fun k=>if k<j+1 then encB (Gs.byte ((Gs.run cs).getD k 0))else .int .u8 0) (fun k hk=>by by_cases h1:k=j;(·subst h1;rw[D0 rfl,D0 (show k<k+1 by omega)];unfold encB;rw[HBN.out,hcjj]);·rw[C0 h1];by_cases h2:k<j;(·exact MD);·rw[C0 h2,C0 (show¬k<j+1 by omega)]));have HX1:=A0 (hxr.setCell (p:=⟨w.heap.size+1,j,none⟩) L0 (.int .u8 cj));rw[hcjj]at hbj cj0 cj1;clear hrow hcjj HBN;exact tX):p:=h
theorem O2(h:p:=by rw[N0];omega):p:=h
theorem uY(h:p:=by
 clear HX;obtain⟨p,q,rfl,rfl,hp,hq,HPQ,HX⟩:=hrel;by_cases hq0:0<q;·have hqI:(0:Int)<(q:Int):=B0;have hqb:decide (0<q)=true:=V0 hq0;have hqn:(q:Int)≠0:=B0;have hqz:((q:Int)==0)=false:=N0.2 hqn;obtain⟨r,hr⟩:∃r,r=p%q:=⟨_,rfl⟩;have hrI:(p:Int)%(q:Int)=(r:Int):=(by rw[hr];rfl);have hrT:Int.tmod (p:Int) (q:Int)=(r:Int):=(by rw[hr];rfl);have hrq:r<q:=(by rw[hr];exact UO _ hq0);have HPQ2:Hid (Nat.gcd q r=G):=A0 (by rw[<-HPQ.out,hr,Nat.gcd_comm p q,Nat.gcd_rec q p,Nat.gcd_comm]);clear hr;go_wp2_with fail;go_quiet (fail);go_wp2_with fail;go_roundw;(case rel=>exact⟨q,r,rfl,rfl,by omega,by omega,HPQ2,A0 (HX.out.drewN _)⟩);case measure=>exact C1
 ·obtain rfl:q=0:=B0;have HPG:Hid (p=G):=A0 (by have h:=HPQ.out;rwa[Nat.gcd_zero_right]at h);clear hq0;go_wp2_with fail;go_roundw;(case rel=>exact⟨j+1,G,by omega,by go_num,by rw[HPG.out],hG9,HG2,HX⟩);case measure=>exact C1):p:=h
theorem dV(h:p:=by
 obtain⟨x,hxj⟩:∃x,vs[j]? =some x:=⟨_,M0 J4⟩;obtain⟨b,o,ha,hb,hc⟩:=HV.out.int_at (Ext.refl w) hxj;subst ha;have hjI:(j:Int)<(n:Int):=by omega
 have hmem:=J1 hxj;by_cases hx:0<=x∧x<=106;·have HB2:Hid (∀y∈vs.take (j+1),0<=y∧y<=106):=A0 (fun y hy=>by rw[Zz hxj]at hy;rcases B5.1 hy with h|h;(·exact XW);·rw[U3]at h;subst h;exact hx);obtain⟨hx1,hx2⟩:=hx;clear hxj hmem;exact tY
 ·have HF:Hid (res=([],3)):=A0 (by rw[HR.out,D0];rw[YW];exact⟨x,hmem,by simp;omega⟩);by_cases h1:x<0;(·clear hx hxj hmem;exact zD);·have h2:106<x:=B0;clear hx hxj hmem;exact zD):p:=h
theorem EQ(h:p:=by
 obtain⟨x,hxj⟩:∃x,ws[j]? =some x:=⟨_,M0 J4⟩;obtain⟨b,o,ha,hb,hc⟩:=HV.out.int_at (Ext.refl w) hxj;subst ha;have hjI:(j:Int)<(n:Int):=by omega
 obtain⟨hx1,hx2⟩:=HIN.out x (J1 hxj);have HT2:Hid (t+x=Rn.sum (ws.take (j+1))):=A0 MF;exact tZ):p:=h
theorem FZ(h:p:=by
 rintro e w1 ⟨F,rfl,hF,hx1⟩;obtain⟨hc,hf⟩:=hx1.cells;have hz:w.heap.size<w1.heap.size:=by have:=hx1.size;exact D7
 unfold ZN.val;go_wp2;refine V4 (v:=.tuple #[F.val,.bool true]) (by simp[results,results62,go_sem,ZN.val,hc]) rfl ⟨_,F,rfl,hF.above ?_,?_⟩;·(repeat refine Z5.setCell ?_ N4 _);exact Z5.refl _ _
 ·(repeat refine Ext.setCell ?_ (K0 _) _);exact Ext.trans ((Ext.refl w).alloc _) hx1):p:=h
theorem XX(h:p:=by go_wp2_with fail;go_ret2;exact⟨_,by rw[HR.out];rfl,by rw[HR.out];exact⟨.inl ⟨rfl,_,_,rfl⟩,none,0,rfl,K0 _⟩,Ext.refl _⟩):p:=h
theorem GV(h:p:=by rintro e w' ⟨rfl,rfl⟩;rw[HP.out];exact yX):p:=h
theorem DF(h:p:=by go_wp2_with fail;refine(HZ.out _).mono ?_;rintro e w1 ⟨rfl,rfl⟩;go_wp2_with fail;refine(HD.out _).mono ?_;exact wA):p:=h
theorem JC(h:p:=by
 intro V w' hx hf;with_reducible refine relAt_ops ?_
 intro A ρ hA hρ hcst hfun;obtain⟨f113,_⟩:=hf;have h113:ρ (.tmp 113)=_:=(P0 hρ _).trans ((evalHit hA 113 rfl).trans f113);simp[relUpon,go_sem,hcst,Ext.refl,h113,hp3];rfl):p:=h
theorem tW(h:p:=by
 obtain rfl:j=m.length:=by omega
 have HE:Hid ((m.length:Int)=((Ea.trl m:Nat):Int)):=A0 (by have:=hr.out;rw[O5 (by rw[D4];exact K0 _)]at this;simp only[Ea.ldg]at this;omega);clear hj hlj hr;go_wp2;go_ret2;exact⟨by rw[HL.out];rw[<-HE.out];rfl,rfl⟩):p:=h
theorem iT(h:p:=by
 rcases JY i m with h|h|h;·exact h
 ·exact absurd (h▸hi) hmr
 ·exfalso;have h7:=c7 i (M4.2 hin);rw[B7,Y1,YW]at h7;rcases h7 with h7|⟨k,hk,hik⟩;(·omega);·rw[M4]at hk;rw[M2,Y1]at hik;obtain⟨e,he,hb,hon⟩:=VZ ho hik.2;have:=hdep e he hb;rw[hon]at this;exact absurd (I.tail k hk this) B0):p:=h
theorem PQ(h:p:=by rw[hx4.cell (p:=⟨w3.heap.size,2,none⟩) L0];unfold World.cell?;rw[L2];rfl):p:=h
theorem lM(h:p:=by exact tI):p:=h
theorem xQ(h:p:=by obtain⟨R1,R2⟩:=R;dsimp only at dr HT;clear hr hbl;go_enter func84,ntmps84;go_wp2_with fail;refine(HP.out _).mono ?_;rintro e w1 ⟨rfl,rfl⟩;go_wp2_with fail;refine(HW.out _ (Ext.refl _)).mono ?_;rintro e w2 ⟨wv,rfl,how,hx2⟩;have HRC:=A0 (HR.out w2 wv _ how);clear how HR;go_wp2_with fail;refine HRC.out.mono ?_;rintro e w3 ⟨rfl,hx3⟩;go_wp2;go_ret2;exact⟨by rw[HT.out];rfl,hx2.trans hx3⟩):p:=h
theorem xP(h:p:=by rw[D0 hw]at HT;have dw:((Tw.wide ws).2 !=0)=true:=C3.2 hw;clear HRR hw;generalize Tw.wide ws=W at*;obtain⟨W1,W2⟩:=W;dsimp only at dw HT;go_enter func84,ntmps84;go_wp2_with fail;refine(HP.out _).mono ?_;rintro e w1 ⟨rfl,rfl⟩;go_wp2_with fail;refine(HW.out _ (Ext.refl _)).mono ?_;rintro e w2 ⟨wv,rfl,how,hx2⟩;clear how;go_wp2;go_ret2;exact⟨by rw[HT.out];rfl,hx2⟩):p:=h
theorem fI(h:p:=by
 rw[hp]at HP1;have HR:Hid (res=(([],[]),0,29)):=A0 (by rw[HNX.out,hp]);clear hp HNX HNS;go_wp2_with fail;refine HP1.out.mono ?_;rintro e w3 ⟨rfl,hx3⟩;dsimp only[preV,ZK];have hel:=HEL.out.ext hx3;obtain⟨g0,g1⟩:=hel.cells;have f0:=hel.free 0;have f1:=hel.free 1;have HQ:=A0 ((hel.put ([],[])).ext ((Ext.refl _).alloc (.cells #[.int .i64 0,.int .i64 0,.int .i64 0,.int .u8 0] 138))).cells;have hxa:=hxw.trans hx3;have hsz:w.heap.size<w3.heap.size:=by have:=hxr.size;have:=hx3.size;simp at*;omega
 clear hel hx3;go_wp2;obtain⟨p0,p1⟩:=HQ.out;refine V4 (v:=.tuple #[.agg #[.string ⟨#[]⟩,.string ⟨#[]⟩],.int .i64 0,.int .i64 29]) AJ rfl ⟨by rw[HR.out];rfl,Xf⟩):p:=h
theorem xS(h:p:=by go_enter func84,ntmps84;go_wp2_with fail;refine(HP.out _).mono ?_;rintro e w1 ⟨rfl,rfl⟩;go_wp2_with fail;refine(HW.out _ (Ext.refl _)).mono ?_;rintro e w2 ⟨wv,rfl,how,hx2⟩;have HRC:=A0 (HR.out w2 wv _ how);clear how HR;go_wp2_with fail;refine HRC.out.mono ?_;rintro e w3 ⟨rfl,hx3⟩;go_wp2;go_ret2;exact⟨by rw[HT.out];exact ZX rfl rfl,hx2.trans hx3⟩):p:=h
theorem tR(h:p:=by go_wp2;refine E1 (ZO results144 rfl (Zk HB) rfl rfl) rfl ?_;exact⟨rfl,((hxw.setCell (K0 _) _).setCell (K0 _) _).setCell (K0 _) _⟩):p:=h
theorem tV(h:p:=by
 have HE:Hid (Ea.ldg (m.reverse.drop (j+1))+(j+1)=Ea.trl m):=A0 (by have:=HR2.out;simp only[Ea.ldg,WG,R6]at this;omega);go_wp2;go_round;case rel=>exact⟨j+1,by omega,by go_num,HE⟩
 case measure=>exact Q8):p:=h
theorem tM(h:p:=by have HR:=A0 (HR1.out JU HB.out);rw[h1]at HR;clear h1 hin;generalize Lib.indexByte edge.data.toList c=x at*;exact tO):p:=h
theorem wB(h:p:=by rintro e w1 ⟨rfl,rfl⟩;go_wp2_with fail;refine(HRI.out _).mono ?_;rintro e w2 ⟨rfl,hx2⟩;go_wp2_with fail;refine(HDA.out _).mono ?_;rintro e w1 ⟨rfl,rfl⟩;exact wC):p:=h
theorem Y2(h:p:=by first|(simp;omega)|omega):p:=h
theorem SP(h:p:=by unfold World.cell?;rw[L2];rfl):p:=h
theorem dQ(h:p:=by rcases hk4 with⟨d4,d5⟩|d4;all_goals go_enter func69,ntmps69;go_wp2_with fail;refine(HZ.out _).mono ?_;rintro e w1 ⟨rfl,rfl⟩;go_wp2_with fail;refine(HD.out _).mono ?_;rintro e w1 ⟨rfl,rfl⟩;go_wp2_with fail;refine D6 (C:=fun w'=>∃x:Zx w,w'=x.at') G0 G0 (Zx.drawn _) ?_;(try dsimp only);(repeat(first|go_big_quiet_step ((go_at_call 119;with_reducible exact Zu (HCO.out _)))|quiet_step ((go_at_call 119;with_reducible exact Zu (HCO.out _)))));refine E6 ?_;intro _ hx0;obtain⟨x0,hx0⟩:=hx0;subst hx0;obtain⟨w8,hx8⟩:=x0;(try dsimp only);go_wp2;go_ret2;exact⟨HG.out,hx8⟩):p:=h
theorem X4(h:p:=by exact⟨0,O0 _,rfl,A0 rfl⟩):p:=h
theorem tF(h:p:=by
 intro V w' hx hf;with_reducible refine relAt_ops ?_
 intro A ρ hA hρ hcst hfun;obtain⟨f27,_⟩:=hf;have h27:ρ (.tmp 27)=_:=(P0 hρ _).trans ((evalHit hA 27 rfl).trans f27);simp[relUpon,go_sem,hcst,Ext.refl,h27,e2,w2];rfl):p:=h
theorem tE(h:p:=by
 intro V w' hx hf;with_reducible refine relAt_ops ?_
 intro A ρ hA hρ hcst hfun;obtain⟨f26,_⟩:=hf;have h26:ρ (.tmp 26)=_:=(P0 hρ _).trans ((evalHit hA 26 rfl).trans f26);simp[relUpon,go_sem,hcst,Ext.refl,h26,e1,w1];rfl):p:=h
theorem tD(h:p:=by
 intro V w' hx hf;with_reducible refine relAt_ops ?_
 intro A ρ hA hρ hcst hfun;obtain⟨f24,_⟩:=hf;have h24:ρ (.tmp 24)=_:=(P0 hρ _).trans ((evalHit hA 24 rfl).trans f24);simp[relUpon,go_sem,hcst,Ext.refl,h24,e3,w3];rfl):p:=h
theorem tC(h:p:=by
 intro V w' hx hf;with_reducible refine relAt_ops ?_
 intro A ρ hA hρ hcst hfun;obtain⟨f23,_⟩:=hf;have h23:ρ (.tmp 23)=_:=(P0 hρ _).trans ((evalHit hA 23 rfl).trans f23);simp[relUpon,go_sem,hcst,Ext.refl,h23,e2,w2];rfl):p:=h
theorem tB(h:p:=by
 intro V w' hx hf;with_reducible refine relAt_ops ?_
 intro A ρ hA hρ hcst hfun;obtain⟨f22,_⟩:=hf;have h22:ρ (.tmp 22)=_:=(P0 hρ _).trans ((evalHit hA 22 rfl).trans f22);simp[relUpon,go_sem,hcst,Ext.refl,h22,e1,w1];rfl):p:=h
theorem ML(h:p:=by
 clear hown hown5 hg5 hsz;go_wp2_with fail;go_roundw;case rel=>exact⟨i+1,s,_,by omega,by omega,by go_num,by first|rfl|exact R0 (Value.int .i64) hsI.symm|go_num,hol2,HC2,HO5,HX5⟩
 case measure=>exact C1):p:=h
theorem nP(h:p:=by have HF:Hid (res=some (8,cs.map chB,[])):=A0 iC;have hO:=HO.out;rw[X1 A6]at hO;have hcv:=Zr hO.sl;obtain⟨f0,f1,f2,f3,f4,f5,f6,f7⟩:=Zj (Zv rfl (HX1.out.trans HX.out));have hxw:=(HX1.out.trans HX.out).before;clear hO hlt hj;go_wp2_with fail;refine E1 (Zi results83 rfl (Zk f7) rfl) rfl ?_;rw[HF.out];exact RdR.some (Zo hxw (K0 _) _ _ _)):p:=h
theorem qA(h:p:=by
 intro V w' hx hf;with_reducible refine relAt_ops ?_
 intro A ρ hA hρ hcst hfun;obtain⟨f11,_⟩:=hf;have h11:ρ (.tmp 11)=_:=(P0 hρ _).trans ((evalHit hA 11 rfl).trans f11);simp[relUpon,go_sem,hcst,Ext.refl,h11,hp1];rfl):p:=h
theorem DD(h:p:=by exact wA):p:=h
theorem dN(h:p:=by
 rw[hb]at hc0 HV;have HR5:Hid ((wr.setCell ⟨w1.heap.size,j,none⟩ (.bool (!b))).rowIs w1.heap.size 4 7 (fun k=>if k<j+1 then encT (r.getD k false)else .bool false)):=
  A0 ((hrow.set j (.bool (!b))).congr (fun k hk=>by by_cases h1:k=j;(·subst h1;rw[D0 rfl,D0 B0,HV.out];rfl);·rw[C0 h1];by_cases h2:k<j;(·exact F9);·rw[C0 h2,C0 B0]))
 have HX:=A0 (hxr.setCell (p:=⟨w1.heap.size,j,none⟩) (K0 _) (.bool (!b)));clear hrow hxr hb HV;exact wD):p:=h
theorem L9(h:p:=by first|exact hown5|(rw[E3];exact hown5)):p:=h
theorem zE(h:p:=by go_wp2;refine E1 (ZO results144 rfl (L2 _ _) rfl rfl) rfl ?_;exact⟨rfl,Xf⟩):p:=h
theorem rS(h:p:=by rintro e w1 ⟨rfl,rfl⟩;go_wp2_with fail;refine(HRI.out _).mono ?_;rintro e w2 ⟨rfl,hx2⟩;go_wp2_with fail;refine(HDA.out _).mono ?_;rintro e w1 ⟨rfl,rfl⟩;go_wp2_with fail;refine(HQ.out _).mono ?_;rintro e w1 ⟨rfl,rfl⟩;go_wp2_with fail;refine(HL.out _).mono ?_;rintro e w3 ⟨rfl,hx3⟩;go_wp2_with fail;refine(HSY.out _).mono ?_;rintro e w4 ⟨rfl,hx4⟩;go_wp2_with fail;refine(HRQ.out _).mono ?_;rintro e w5 ⟨rfl,hx5⟩;go_wp2_with fail;refine(HMO.out _).mono ?_;rintro e w6 ⟨v,rfl,hs6,hx6⟩;go_wp2;go_ret2;exact⟨v,by rw[HX.out];rfl,by rw[HX.out];exact hs6,(((hx2.trans hx3).trans hx4).trans hx5).trans hx6⟩):p:=h
theorem tS(h:p:=by
 obtain rfl:j=d.size:=by omega
 rw[Z3]at hal;clear hj hlt;have HR:Hid (res=0):=A0 (HV3.out hal.out);go_wp2;go_ret;exact⟨Z1 HR.out.symm,hxw⟩):p:=h
theorem C6(h:p:=by go_wp2;go_ret;exact⟨rfl,rfl⟩):p:=h
theorem lQ(h:p:=by exact tJ):p:=h
theorem FL(h:p:=by have HD:Hid (Hp.Heap Hp.lessS q' i0):=A0 (HH.out.done (fun c hc a b ha hb=>by have e:=HXI.out;rw[hb]at e;injection e with e;subst e;exact Hp.lessS_tr _ _ _ (HMIN.out c hc a ha) HB2.out.symm));go_wp2;go_ret;exact⟨⟨_,rfl⟩,q',HQ3.out,HD.out,HP.out,HG.out.trans (GB.ext HX3.out)⟩):p:=h
theorem qB(h:p:=by
 intro V w' hx hf;with_reducible refine relAt_ops ?_
 intro A ρ hA hρ hcst hfun;simp[relUpon,go_sem,hcst,hfun];exact(HMA.out w').mono fun e w'' ⟨v,he,ho,hy⟩=>⟨v,he,hy,ho.mono (O0 _)⟩):p:=h
theorem zC(h:p:=by have HR:=A0 (HR1.out JU HB.out);rw[h1]at HR;clear h1;go_wp2;go_ret2;exact⟨by rw[HR.out];rfl,hx3⟩):p:=h
theorem RP(h:p:=by
 go_wp2;go_round;case rel=>exact⟨k+1,by omega,by go_num,HO⟩
 case measure=>exact Q8):p:=h
theorem US(h:p:=by go_wp2_with fail;go_ret2;rw[HR.out];exact RW.bad _ _ _ (Ext.refl _)):p:=h
theorem cF(h:p:=by go_wp2_with fail;refine(HRD1.out _ (Z5.of_ext _ (hx12.trans hxr))).mono ?_;rintro e w4 ⟨rfl,hx4⟩;obtain⟨hq4,hq6,hq7⟩:=FY.out w4 (hxr.trans hx4);go_wp2_with fail;refine(HTX1.out _ (Z5.of_ext _ ((hx12.trans hxr).trans hx4))).mono ?_;rintro e w5 ⟨rfl,hx5⟩;obtain⟨hp4,hp6,hp7⟩:=FY.out w5 ((hxr.trans hx4).trans hx5);go_wp2_with fail;refine(HCM1.out _ (Z5.of_ext _ (((hx12.trans hxr).trans hx4).trans hx5))).mono ?_;rintro e w6 ⟨rfl,hx6⟩;go_wp2;go_ret2;exact⟨by rw[HT.out];rfl,(((hx1.trans hxr).trans hx4).trans hx5).trans hx6⟩):p:=h
theorem tK(h:p:=by
 go_wp2;go_roundw;case rel=>exact⟨m+1,by omega,by omega,by go_num,HN2,hxr⟩
 case measure=>exact Q8):p:=h
theorem bX(h:p:=by
 obtain⟨r,hr⟩:∃r:Int,r=(k:Int)%6:=⟨_,rfl⟩;have hr2:=hr.symm;have hr3:Int.tmod (k:Int) 6=r:=by rw[hr];rfl
 by_cases hk6:k%6=0;·have zr:(r==0)=true:=Y0.2 B0;obtain rfl:B2=true:=(by rw[HB2.out];exact V0 ⟨h13,hk6⟩);clear hr;exact zF
 ·have zr:(r==0)=false:=N0.2 B0;obtain rfl:B2=false:=(by rw[HB2.out];exact X0 (fun h=>hk6 h.2));clear hr;exact zF):p:=h
theorem iK(h:p:=by exact tZ):p:=h
theorem sR(h:p:=by go_simp;refine hK _ _ ?_;clear hK K;refine R9 22 G0 rfl (fun K hK=> ?_);go_simp;refine hK _ _ ?_;clear hK K;refine wpAny_done G0 ?_ 0;go_wp2_with fail;go_meet;case rel=>exact⟨bt,rfl,rfl,hbt,Zk (A0 hct),Zo hxT hbt _ _ _⟩):p:=h
theorem fN(h:p:=by
 have HO:Hid ((cs.take (k+1)).all Gs.okCh=true):=A0 (by rw[HTK.out,BE,hall.out];simp[hc]);rw[AK]at hc;clear hck e1 hall HTK;by_cases h256:c=256;·subst h256;clear hc;exact RP
 ·have hc0:0<=c:=B0;have hc1:c<=127:=B0;have hc2:(c !=256)=true:=(by simpa using h256);clear hc;exact RP):p:=h
theorem kG(h:p:=by
 go_wp2_with fail;refine(HS2.out _ HQ3.out).mono ?_;rintro e w4 ⟨rfl,hq4,hg4⟩;have HQ4:=A0 (HQ3.out.turn hg4 hq4 (Hp.swap_len q' i (2*i+1)));have HG4:=A0 ((HG.out.trans (GB.ext HX3.out)).trans hg4);have HH4:=A0 (HH.out.step Hp.lessS_tr Hp.lessS_as hi0 B0 HXI.out HY1.out HB2.out.symm HMIN.out);have HP4:=A0 ((Hp.swap_perm HXI.out HY1.out).trans HP.out);clear hq4 hg4;go_wp2;go_roundw;case rel=>exact⟨2*i+1,_,by omega,by omega,by go_num,HQ4,HH4,HP4,HG4⟩
 case measure=>exact C1):p:=h
theorem lS(h:p:=by have HW:=HW2;clear HW2;go_wp2_with fail;rw[HT.out];refine(HFU.out _).mono ?_;rintro e w9 ⟨rfl,hx9⟩;have HW2:=A0 (HW.out.trans hx9);clear HW hx9;have HW:=HW2;clear HW2;go_wp2;go_ret3;exact⟨by rw[HG.out];unfold ZZ;dsimp only;rw[<-HE.out];rfl,HW.out⟩):p:=h
theorem BG(h:p:=by clear h q0 q1 q2 q3 q4 h6n h48;exact dI):p:=h
theorem RD(h:p:=by rintro e w1 ⟨rfl,rfl⟩;go_wp2;go_ret2;exact⟨by rw[HT.out];rfl,Ext.refl _⟩):p:=h
theorem cV(h:p:=by
 intro i hi hil hd;have h6:=c6 i (M4.2 hi);rw[B7,Y0]at h6;have h6:=h6.resolve_left hil;rw[YW]at h6;obtain⟨k,hk,hik⟩:=h6;rw[M4]at hk;rw[M2,M2,Y1,C3]at hik;by_cases hkm:k=m;·exact cJ
 ·have hk':listed.getD k false=true:=ihd (m-k) B0 k B0 hik.1.2 rfl;exact I.down k i B0 hk' hik.2):p:=h
theorem V6(h:p:=by exact⟨rfl,rfl⟩):p:=h
theorem aM(h:p:=by rw[HG.out];clear HG hg;unfold symV linV;dsimp only;generalize Ea.bS l=L at*;generalize Ea.bS (Ea.sS u)=U at*;go_enter func213,ntmps213;go_wp2_with fail;refine(HH.out _).mono ?_;rintro e w1 ⟨rfl,hx1⟩;go_wp2_with fail;refine(HR.out _).mono ?_;rintro e w2 ⟨rfl,hx2⟩;have hx:=hx1.trans hx2;obtain⟨z0,z1,z2,z3,z4,z5,z6,HB⟩:=X5 hx;have hxw:=hx.before;clear hx1 hx2 hx;go_wp2;refine E1 (Zi results213 rfl (Zk HB) rfl) rfl ?_;exact⟨rfl,Xf⟩):p:=h
theorem ET(h:p:=by
 have h1:X.data.toList[i]? =some (UInt8.ofNat (48+x.toNat)):=by rw[HXE.out,J2,hxi];rfl
 obtain⟨h2,h3⟩:=I1.1 h1;rw[<-h3];rfl):p:=h
theorem iW(h:p:=by rw[U0,U0,M0 (show k<ds.length by omega),M0 (show i<ds.length by omega)];simp only[Option.getD_some];intro h;exact hki ((List.getElem_inj c3).1 h).symm):p:=h
theorem CQ(h:p:=by
 intro listed b w V hc I;exfalso;have hm:listed.getD m true=false:=by
  rw[NK (by rw[I.size];exact c1)]
  cases h:listed.getD m false with
  |false=>rfl
  |true=>exact absurd (I.tail m c1 h) (LV _)
 have:=NJ I.size hm;omega):p:=h
theorem tU(h:p:=by have HE:Hid ((j:Int)=((Ea.trl m:Nat):Int)):=A0 (by have:=HR2.out;simp only[Ea.ldg,W4]at this;omega);go_wp2;go_ret2;exact⟨by rw[HL.out,HE.out];rfl,rfl⟩):p:=h
theorem C9(h:p:=by go_enter func90,ntmps90;go_wp2;go_ret2;exact⟨rfl,Xe⟩):p:=h
theorem tQ(h:p:=by rintro e w' ⟨rfl,rfl⟩;rw[HP.out];go_wp2;go_ret;exact⟨Z1 HR.out.symm,hxw⟩):p:=h
theorem nT(h:p:=by
 clear hq hsq;go_wp2_with (at_builtin;refine ZU rfl _ _ rfl w.heap.size _ got rfl (hown.alloc _) _ (s[q]==49) rfl ?c1 ?c2 ?c3 ?_);case c1=>exact K7
 case c2=>omega
 case c3=>have:=hxr.size;exact S0
 intro v' w5 hown5 hg5;have hx5:=(hxr.alloc _).ofGrown hg5 hown.low;clear hown hg5 hqi d1;go_wp2;go_roundw;case rel=>exact⟨k+1,by omega,by go_num,by rw[HTS.out,E3];exact hown5,hx5⟩
 case measure=>exact Q8):p:=h
theorem LX(h:p:=by
 have h:d=0∨d=1∨d=2∨d=3∨d=4∨d=5∨d=6∨d=7∨d=8∨d=9:=by omega
 rcases h with rfl|rfl|rfl|rfl|rfl|rfl|rfl|rfl|rfl|rfl<;>exact H7 _ _ w rfl):p:=h
theorem iX(h:p:=by
 intro k j hk hl hj;by_cases hki:i=k;·subst hki;obtain⟨e,he,hb,hon⟩:=VZ ho hj;exact getD_set_true AT
 ·rw[TM false hki]at hl;exact getD_set_true (I.down k j hk hl hj)):p:=h
theorem cX(h:p:=by
 rcases hall hmr with he|he;·exact cM
 ·subst he;rw[<-hc,c11,I.fill];refine hend2 V w I.ext (fun j hj hjl=>I.fact j hj ?_);have:j<ops.size:=B0;unfold Z9;rw[FA,KZ (fun h=>hjl h.symm)];simp[Zt,List.getElem?_append,hj]):p:=h
theorem BL(h:p:=by exact⟨by rw[HX.out];rfl,Ext.refl _⟩):p:=h
theorem nG(h:p:=by have HR:Hid ((res1,res2)=([],29)):=A0 (by rw[HP2.out,HN2.out hpre];rfl);rw[hpre]at HFS;clear hpre HN2;go_wp2_with fail;refine(HTX.out _ hx).mono ?_;rintro e w2 ⟨rfl,hx2⟩;rw[HTE.out];go_wp2_with fail;refine(HFS.out _).mono ?_;rintro e w3 ⟨rfl,hx3⟩;rw[show encS (preF none)=.string ⟨#[]⟩from rfl];go_wp2;go_ret2;have hr:=HR.out;simp only[N3]at hr;obtain⟨rfl,rfl⟩:=hr;exact ElsR.err _ (hx.trans (hx2.trans hx3))):p:=h
theorem GL(h:p:=by go_wp2_with fail;refine(GK _ _ B0 B0).mono ?_;rintro e w' ⟨rfl,rfl⟩;go_wp2;go_ret;exact⟨Z8 YE,Xe⟩):p:=h
theorem TI(h:p:=by go_wp2;go_ret2;rw[HR2.out];exact F5.bad _ _ _ (Ext.refl _)):p:=h
theorem qO(h:p:=by go_enter func134,ntmps134;go_wp2_with fail;refine(HT.out _).mono ?_;rintro e w1 ⟨rfl,hx1⟩;dsimp only;obtain⟨d0,d1⟩:=FJ.out w1 hx1;have hxw:Ext w w1:=HXA.out.trans hx1;go_wp2;go_ret;exact⟨rfl,hxw⟩):p:=h
theorem vT(h:p:=by
 intro a hn hd;rw[NA]at hn;rcases V3.1 hd with rfl|hd;·show(fillA V ds (a.put (some d) (V d))).put (some d) v=fillA _ ds (a.put (some d) (if d=d then v else V d));rw[vR V d v ds _ hn.1,vO,D0 rfl]
 ·have hne:c≠d:=fun h=>hn.1 (h▸hd);show(fillA V ds (a.put (some c) (V c))).put (some d) v=fillA _ ds (a.put (some c) (if c=d then v else V c));rw[ih _ hn.2 hd,C0 hne]):p:=h
theorem pV(h:p:=by go_wp2_with fail;refine(HK.out _).mono ?_;rintro e w4 ⟨rfl,hx4⟩;go_wp2;go_ret2;exact⟨by rw[HT.out];exact ZX rfl rfl,wE⟩):p:=h
theorem xJ(h:p:=by exact⟨j+1,G++strOfNums [(c.toNat:Int)],by omega,by go_num,rfl,A0 (HSN.out _ HAA.out),HAS.out,HBN.out hE,by exact(hxr.trans hx2).alloc _⟩):p:=h
theorem JH(h:p:=by go_enter func136,ntmps136;go_wp2_with fail;refine HT.out.mono ?_;rintro e w1 ⟨rfl,hx1⟩;dsimp only;go_wp2;go_ret3;exact⟨rfl,hx1⟩):p:=h
theorem aF(h:p:=by subst hJ;clear h1 h2 HM hl hr;go_enter func251,ntmps251;go_wp2_with fail;refine(HP.out _).mono ?_;rintro e w1 ⟨rfl,rfl⟩;go_wp2_with fail;refine(HQ.out _).mono ?_;rintro e w1 ⟨rfl,rfl⟩;go_wp2_with fail;refine(HL.out _).mono ?_;rintro e w2 ⟨rfl,hx2⟩;go_wp2_with fail;refine(HR.out _).mono ?_;rintro e w3 ⟨rfl,hx3⟩;go_wp2;go_ret3;exact⟨by rw[HN.out,halV,<-HAP.out];rfl,hx2.trans hx3⟩):p:=h
theorem cW(h:p:=by
 left;apply UT;·rw[I.size];simp[Zt];omega
 ·intro i h1 h2;have h1':i<ops.size:=LU;by_cases him:i<m;(·have:listed.getD i false=true:=(by by_cases e:i=l;(·rw[e];exact hll);·exact hl _ i him e rfl);simp[h1]at this;simp[Zt,him,this]);·have:=hrest i h1' him;exact cL):p:=h
theorem QbB(h:p:=by exact F5.bad _ _ _ (Ext.refl _)):p:=h
theorem aY(h:p:=by
 have hle:=Ea.ldg_le l;obtain⟨r,hr⟩:=Ea.ldg_split l B0;have h2:Ea.trl l<=r.length:=by unfold Ea.trl;rw[hr,T5,Y8,M3];have:=aX r.reverse (Ea.lgt (Ea.ldg l)).reverse;rw[D4]at this;exact F3
 have h3:l.length=Ea.ldg l+(r.length+1):=by rw[hr,T0,D1,<-hr];simp[Ea.lgt]
 omega):p:=h
theorem VK(h:p:=by rw[U0,M0 OC];rfl):p:=h
theorem fH(h:p:=by
 refine⟨(Sl.row hrow).congr ?_,_,_,by rw[J0,X9,HM.out],by rw[J0,X9,HM.out];exact K0 _⟩;apply XQ;intro i;by_cases hi:i<j;·have hi':i<(Gs.run cs).length:=(by rw[HM.out];exact hi);simp[Gs.text,hi,hi',U0]
 ·have hi':(Gs.run cs).length<=i:=(by rw[HM.out];omega);simp[Gs.text,hi,hi']):p:=h
theorem pW(h:p:=by go_wp2_with fail;refine(HK.out _).mono ?_;rintro e w4 ⟨rfl,hx4⟩;go_wp2;go_ret2;exact⟨by rw[HT.out];rfl,wE⟩):p:=h
theorem nZ(h:p:=by
 have d1:decide (0<=(a:Int))=true:=by simp
 clear h ha HE;go_enter func128,ntmps128;go_wp2_with fail;refine(HP.out _).mono ?_;rintro e w1 ⟨rfl,rfl⟩;go_wp2_with fail;refine(HC.out _).mono ?_;rintro e w1 ⟨v,rfl,hown,hx1⟩;have hsl:=SlN.ofOwn hown;obtain⟨a1,c1,rfl⟩:=hsl.1.form;rw[J0,hcl]at hsl⊢;clear hown;go_wp2;go_ret2;exact⟨_,rfl,hsl,hx1⟩):p:=h
theorem WV(h:p:=by injection h with h;subst h;exact⟨hs,(fun h=>by cases h),by simp⟩):p:=h
theorem QbI(h:p:=by exact wC):p:=h
theorem dB(h:p:=by intro V w hx hf;have h0:=a4.2 V w hx (by rw[SX];intro j hj;obtain⟨hj1,hj2⟩:=List.mem_filter.1 hj;have hjm:=M4.1 hj1;have:=hf j hjm (by simpa using hj2);rw[U0]at this⊢;rw[YZ B0,hlen,show m-1-(m-1-j)=j by omega];exact this);rw[hn,show m+n-m+1=n+1 by omega];exact h0):p:=h
theorem vS(h:p:=by intro a hd;simp only[V3,not_or]at hd;show(fillA V ds (a.put (some c) (V c))).put (some d) v=fillA _ ds ((a.put (some d) v).put (some c) (if c=d then v else V c));rw[ih _ hd.2,C0 (fun h=>hd.1 h.symm),Act.put_comm a (x:=some c) (y:=some d) (V c) v (fun x hx=>by injection hx with hx;subst hx;intro h;injection h with h;exact hd.1 h)]):p:=h
theorem UM(h:p:=by exact⟨0,O0 _,rfl,A0 (Own.nil _ _ _),A0 (Ext.refl _)⟩):p:=h
theorem L3(h:p:=by simp[go_sem,encI]):p:=h
theorem vV(h:p:=by
 rw[NA]at hn;rcases V3.1 hi with rfl|hi;·rw[JX,JX,hp,hq];have:l.countP q=l.countP p:=List.countP_congr (fun x hx=>by rw[h x (fun e=>hn.1 (e▸hx))]);simp[this]
 ·have hc:c≠i:=fun e=>hn.1 (e▸hi);have:=ih hn.2 hi;rw[JX,JX,h c hc];omega):p:=h
theorem WT(h:p:=by go_wp2;go_ret2;exact ElsR.err _ (Ext.refl _)):p:=h
theorem cE(h:p:=by exact tX):p:=h
theorem uK(h:p:=by
 have hil:=(I1.1 hi).1;rcases h with⟨h1,_⟩|⟨b,o,cap,he,hb,hc⟩;·have:ws=[]:=YM;rw[this]at hil;simp at hil
 ·injection he with h1 h2 h3;refine⟨b,o,h1,hb,(hx.cell (p:=⟨b,o+i,none⟩) hb).trans ?_⟩;rw[hc i (by rw[J0];exact hil),J2,hi];rfl):p:=h
theorem kA(h:p:=by
 intro a h hs;show(fillA V ds (a.put (some c) (V c))).tmps.getD d undef=_;by_cases hd:ds.contains d=true;·exact ih _ hd (by simp[Act.put];exact hs)
 ·have hd':ds.contains d=false:=(by simpa using hd);rw[NM V d ds _ hd'];simp only[List.contains_cons,hd',Bool.or_false,Y0]at h;subst h;simp[Act.put,hs]):p:=h
theorem gD(h:p:=by exact wD):p:=h
theorem DJ(h:p:=by rintro e w1 ⟨rfl,rfl⟩;go_wp2;go_ret2;exact⟨_,by rw[HX.out];rfl,by rw[HX.out];exact SlK.nil _,Ext.refl _⟩):p:=h
theorem fT(h:p:=by have HB2:Hid (∀y∈m.take (j+1),y=false):=A0 (fun y hy=>by rw[Zz hxj]at hy;rcases B5.1 hy with h|h;(·exact XW);·rw[U3]at h;exact h);clear hxj;exact tY):p:=h
theorem xT(h:p:=by go_wp2_with fail;refine E1 (Zi results14 rfl (Zk f7) rfl) rfl ?_;exact wF):p:=h
theorem mV(h:p:=by clear HR1;go_enter func209,ntmps209;go_wp2_with fail;refine(H2.out _).mono ?_;rintro e w1 ⟨rfl,hx1⟩;go_wp2_with fail;refine(H0.out _).mono ?_;rintro e w2 ⟨rfl,hx2⟩;go_wp2_with fail;rw[HE4.out];refine(H4.out _).mono ?_;rintro e w3 ⟨rfl,hx3⟩;go_wp2;go_ret;exact⟨Zm HR.out.symm,Xf⟩):p:=h
theorem AP(h:p:=by go_wp2_with fail;refine E1 (Zi results13 rfl (Zk f7) rfl) rfl ?_;exact wF):p:=h
theorem gV(h:p:=by
 rw[e]at hst;have HO2:=A0 hst.1;have HX2:=A0 (HX.out.ofGrown hst.2 (fun k hk=>by injection hk with hk;omega));clear e hst hxi HO;go_wp2_with fail;rw[show((48+max x 0)%256-48:Int)=x by omega];go_roundw;case rel=>exact⟨i+1,by omega,by go_num,HO2,HX2⟩
 case measure=>exact C1):p:=h
theorem bF(h:p:=by
 obtain rfl:j=3:=by omega
 have HXQ:=A0 (hxr.trans (Ext.before hxq));have HST2:Hid (res=Ea.decF S fe (H5 (i+1) 0)):=A0 (by rw[HR.out,ZiB]);clear hjt hj hxq hxr HR;go_wp2;go_roundw;case rel=>exact⟨i+1,fe,by omega,by go_num,rfl,HST2,HXQ.out⟩
 case measure=>exact Q8):p:=h
theorem YQ(h:p:=by rw[T0,YS];omega):p:=h
theorem UQ(h:p:=by exact⟨0,0,O0 _,rfl,rfl,by omega,by omega,A0 rfl⟩):p:=h
theorem uJ(h:p:=by
 intro v' w5 hown5 hg5;have hx5:=(hxr.alloc _).ofGrown hg5 hown.low;have hcj:=HCJ.out w5 hx5;clear hown hg5 hxr;go_wp2;go_roundw;case rel=>exact⟨j+1,by omega,by go_num,by rw[HS1.out];rfl,by rw[HS2.out];rfl,by rw[HTS.out,E3];exact hown5,hx5⟩
 case measure=>exact Q8):p:=h
theorem YU(h:p:=by go_wp2;go_ret;exact⟨Zm HF.out.symm,rfl⟩):p:=h
theorem eC(h:p:=by go_enter func79,ntmps79;go_wp2_with fail;refine HMG.out.mono ?_;rintro e w1 ⟨rfl,rfl⟩;go_wp2_with fail;refine HWD.out.mono ?_;rintro e w1 ⟨u,rfl,⟨hs,a,c,rfl,hc⟩,hx1⟩;have hnw:=HNW.out;rw[J0,<-hnw];clear hnw;go_wp2;go_ret2;rw[HF.out];exact F5.bad _ _ _ hx1):p:=h
theorem FW(h:p:=by exact⟨fun _ _=>by kernel_rfl,fun _ _=>by kernel_rfl,fun _ _=>by kernel_rfl,fun _ _=>by kernel_rfl,fun _ _=>by kernel_rfl,fun _ _=>by kernel_rfl⟩):p:=h
theorem dA(h:p:=by intro V w hx hf;have h0:=a4.1 V w hx cU;rw[hn,show m+n-m=n by omega];exact h0):p:=h
theorem A8(h:p:=by go_wp2;go_ret;exact⟨rfl,Xe⟩):p:=h
theorem vQ(h:p:=by
 intro a;have:∀(ds:List Nat) (b:Act),b=a->ds.foldl (fun b d=>b.put (some d) (a.tmps.getD d undef)) b=a:=by
  intro ds
  induction ds with
  |nil=>intro b hb;exact hb
  |cons d ds ih=>intro b hb;rw[F1];apply ih;subst hb;exact vM _ d
 exact this ds a rfl):p:=h
theorem cM(h:p:=by
 subst he;rw[<-hc,c8,I.fill];refine hend V w I.ext (fun j hj=>I.fact j hj ?_);have:j<ops.size:=by omega
 simp[Zt,List.getElem?_append,hj]):p:=h
theorem xA(h:p:=by
 obtain rfl:m=127:=by omega
 have HZ:Hid (res.1=0):=A0 (HNON.out HB.out);clear hm1 hm2 hlt;go_wp2;go_ret;exact⟨by rw[HZ.out];rfl,hxr⟩):p:=h
theorem cT(h:p:=by
 intro i o hi ho V w hx hf;have h1:(ops.toList.take m)[i]? =some o:=iY
 have:=a5 i o h1 V w hx iZ;rw[T4]at this;exact this):p:=h
theorem vW(h:p:=by
 have hi:i<n:=by rcases P4 i n with h'|h';(·exact h');·rw[<-hs]at h';simp[YC h']at h
 refine vU List.nodup_range (M4.2 hi) (by rw[h];rfl) ?_ ?_;·simp[hs,hi]
 ·intro j hj;rw[TM true (Ne.symm hj)]):p:=h
theorem kZ(h:p:=by
 generalize Lib.indexByte Tw.cCb s[j]=x at*;generalize Tw.sumCb (s.data.toList.take j)=g at*;go_wp2_with fail;refine(HI.out _).mono ?_;rintro e w1 ⟨rfl,rfl⟩;go_wp2;go_round;case rel=>exact⟨j+1,by omega,by go_num,by rw[HSN.out]⟩
 case measure=>exact Q8):p:=h
theorem mA(h:p:=by rw[show(none:Option (List UInt8×List Nat)).isNone=true from rfl]at hLe;have HG:Hid (res=([],18)):=A0 (by rw[<-HX2.out]);clear HX2;go_wp2_with fail;refine(HRD.out _ HW.out).mono ?_;rintro e w5 ⟨rfl,hx5⟩;go_wp2;go_ret2;exact⟨by rw[HG.out];rfl,HW.out.trans hx5⟩):p:=h
theorem AV(h:p:=by have HF:Hid (res=([],22)):=A0 (by rw[HR2.out,HC.out,Cc.run_at HXJ.out,<-HSTE.out]);go_wp2;go_ret2;rw[HF.out];exact F5.bad _ _ _ hX9):p:=h
theorem sV(h:p:=by dsimp only[Option.isSome]at HD⊢;clear hy;go_wp2_with fail;refine E1 (Zi results16 rfl (Zk (A0 (Zs hne (Zs hne (Zs hne f7.out))))) rfl) rfl ?_;rw[HD.out];exact⟨rfl,Zo (Zo HX4.out hw1 _ _ _) (K0 _) _ _ _⟩):p:=h
theorem dO(h:p:=by
 obtain rfl:j=7:=by omega
 have hsl:=ZmR (B:=w.heap.size) hrow hsz U4;clear hj hlt hrow;go_wp2;go_ret;refine⟨_,rfl,hsl.congr ?_,hxw.trans hxr⟩;apply YP;·simp[HL7.out.2]
 ·intro i h1 h2;simp at h1 h2;simp[h1,encT,h2]):p:=h
theorem pQ(h:p:=by have HR:=A0 (HBAD.out (by rw[HPO.out];rfl));go_wp2_with fail;refine HFA.out.mono ?_;rintro e w2 ⟨rfl,hx2⟩;go_wp2_with fail;refine(HFB.out _ hx2).mono ?_;rintro e w3 ⟨rfl,hx3⟩;go_wp2;go_ret2;exact⟨by rw[HR.out];rfl,((hxr.trans hxq).trans hx2).trans hx3⟩):p:=h
theorem BM(h:p:=by rintro e w1 ⟨rfl,rfl⟩;go_wp2_with fail;refine(HC.out _).mono ?_;rintro e w1 ⟨rfl,hx⟩;go_wp2;go_ret;exact⟨by rw[HX.out];rfl,hx⟩):p:=h
theorem eV(h:p:=by clear HP HN hr0 hr;go_wp2;obtain⟨p0,p1,p2,p3⟩:=HQ.out;refine V4 (v:=.tuple #[.string ⟨#[]⟩,.agg #[.int .i64 0,.int .i64 0,.int .i64 0,.int .u8 0],.bool false]) eU rfl ⟨by rw[HRES.out];rfl,Xf⟩):p:=h
theorem vY(h:p:=by intro a h;simp only[List.contains_cons,YT,N0]at h;show(fillA V ds (a.put (some c) (V c))).tmps.getD d undef=_;rw[ih _ (by simpa using h.2)];unfold Act.put;simp[KZ (show c≠d from fun e=>h.1 e.symm)]):p:=h
theorem G8(h:p:=by exact⟨rfl,Xf⟩):p:=h
theorem uP(h:p:=by
 obtain rfl:j=n:=by omega
 have hO:=HO.out;rw[X1 A6]at hO;have HK:=A0 hO.slk;have hx9:=HX.out;clear hO hlt hj;go_wp2_with fail;go_ret2;exact⟨_,by rw[HR.out];rfl,by rw[HR.out];exact HK.out,hx9⟩):p:=h
theorem iO(h:p:=by
 intro V w' hx hf;with_reducible refine relAt_ops ?_
 intro A' ρ hA hρ hcst hfun;have h12:ρ (.tmp 12)=.pointer (some ⟨wr.heap.size,0,none⟩):=(P0 hρ _).trans (evalMiss hA 12 rfl);simp[relUpon,go_sem,hcst,↓IntWalk.iteOmega,Ext.refl,h12];try rfl):p:=h
theorem oD(h:p:=by
 generalize Cd.dg (s[s.size-1-j]' B0)=d at*;have HS:=A0 hs1;clear hs1 h0;go_wp2_with fail;refine(HV.out _).mono ?_;rintro e w' ⟨rfl,rfl⟩;go_wp2;go_round;case rel=>exact⟨j,by omega,by go_num,by rw[HS.out]⟩
 case measure=>simp[intOf]):p:=h
theorem zZ(h:p:=by go_enter func97,ntmps97;go_wp2;go_quiet (fail);go_wp2;refine V4 (v:=.tuple #[.agg #[.int .i64 ya,.int .i64 yb,.int .i64 yc,.int .u8 (yd.toNat:Int)],.bool true]) GI rfl ⟨by rw[HR.out];rfl,Xf⟩):p:=h
theorem uZ(h:p:=by
 obtain rfl:j=n:=by omega
 have HF:Hid (res=(g:Int)):=A0 (by have h:=HG.out;rw[O5 A6]at h;exact h);have hx9:=HX.out;clear hlt hj;go_wp2_with fail;go_ret;exact⟨Z1 HF.out.symm,hx9⟩):p:=h
theorem wG(h:p:=by go_wp2;go_ret2;exact⟨by rw[HDR.out,HRTJ.out TU,hE];rfl,hxr.trans hx2⟩):p:=h
theorem uQ(h:p:=by
 have HE:Hid (Ea.ldg (m.drop (k+1))+(k+1)=Ea.ldg m):=A0 lW;clear HL2;go_wp2;go_round;case rel=>exact⟨k+1,by omega,by go_num,HE⟩
 case measure=>exact Q8):p:=h
theorem zF(h:p:=by go_wp2_with fail;go_meet;case rel=>exact V6):p:=h
theorem gW(h:p:=by have hO:=HO.out;rw[X1 (by rw[HWL.out];exact K0 _),I4,UR,P3]at hO;have HK:=A0 hO.slk;have hx9:=HX.out;clear hO HO hi hlt;go_wp2;go_ret;rw[HRES.out];exact⟨_,rfl,HK.out,hx9⟩):p:=h
theorem sP(h:p:=by
 intro V w' hx hf;with_reducible refine relAt_ops ?_
 intro A ρ hA hρ hcst hfun;obtain⟨f44,_⟩:=hf;have h44:ρ (.tmp 44)=_:=(P0 hρ _).trans ((evalHit hA 44 rfl).trans f44);unfold gotV at h44;simp[relUpon,go_sem,hcst,Ext.refl,h44];try rfl):p:=h
theorem S0(h:p:=by simp;omega):p:=h
theorem LE(h:p:=by rw[Z0,hJl,Ea.mS_drop,RE,W5,Ea.mS_take,UC];rfl):p:=h
theorem zB(h:p:=by go_wp2;go_ret2;exact⟨by rw[HR.out];rfl,hxr⟩):p:=h
theorem lG(h:p:=by clear HD ho;dsimp only[Option.isSome];go_wp2_with fail;refine E1 (Zi results15 rfl (Ze (Zk g7) ((Ext.refl _).alloc _)) rfl) rfl ?_;rw[HF.out];exact⟨rfl,(Zo HX7.out (K0 _) _ _ _).alloc _⟩):p:=h
theorem NS(h:p:=by exact⟨0,O0 _,rfl,(UI w _ _ _).congr (fun i _=>by simp),Xe⟩):p:=h
theorem OP(h:p:=by
 have h:c<48:=by assumption
 go_ret;exact⟨Zm (by simp[Cd.isDig];omega),rfl⟩):p:=h
theorem E2(h:p:=by decide+kernel):p:=h
theorem xW(h:p:=by
 go_wp2_with fail;go_roundw;case rel=>exact⟨p+1,by omega,by go_num,HO5,HX5⟩
 case measure=>exact C1):p:=h
theorem xV(h:p:=by
 go_wp2_with fail;go_roundw;case rel=>exact⟨j+1,by omega,by go_num,HO5,HX5⟩
 case measure=>exact C1):p:=h
theorem pL(h:p:=by
 obtain rfl:j=n:=by omega
 have HF:=A0 (HRA.out HB.out);have HRS:Hid (res=(G.data.toList,0)):=A0 (by rw[HDR.out,HF.out,HG.out,<-hra]);clear hj hlt HF HRA HG;go_wp2;go_ret2;exact⟨by rw[HRS.out];exact ZX rfl rfl,hxr⟩):p:=h
theorem OO(h:p:=by
 have h:48<=c:=by assumption
 go_ret;exact⟨Zm (by simp[Cd.isDig,h]),rfl⟩):p:=h
theorem DV(h:p:=by
 go_wp2;go_roundw;case rel=>exact⟨j+1,fe,by omega,by go_num,rfl,HST2,HXX.out⟩
 case measure=>exact Q8):p:=h
theorem RI(h:p:=by exact⟨0,O0 _,rfl,A0 (fun x hx=>by simp at hx)⟩):p:=h
theorem oA(h:p:=by
 have d1:decide (0<=y)=false:=S0
 clear h HE;go_enter func128,ntmps128;go_wp2_with fail;refine(HP.out _).mono ?_;rintro e w1 ⟨rfl,rfl⟩;go_wp2;go_ret2;exact⟨.slice none 0 0,rfl,SlN.nil _ _,Ext.refl _⟩):p:=h
theorem qH(h:p:=by
 go_wp2_with fail;go_roundw;case rel=>exact⟨i+1,by omega,by go_num,HS3⟩
 case measure=>exact C1):p:=h
theorem QcM(h:p:=by exact⟨j+1,t+x,by omega,by go_num,rfl,by omega,by omega,HT2⟩):p:=h
theorem sM(h:p:=by
 intro V w' hx hf;with_reducible refine relAt_ops ?_
 intro A ρ hA hρ hcst hfun;have h11:ρ (.tmp 11)=.int .i64 tot:=(P0 hρ _).trans (evalMiss hA 11 rfl);exact relUpon_move (hk:=by rw[h11];exact⟨Ext.refl _,rfl⟩)):p:=h
theorem sN(h:p:=by
 intro V w' hx hf;with_reducible refine relAt_ops ?_
 intro A ρ hA hρ hcst hfun;have h4:ρ (.tmp 4)=.slice au2 n cu2:=(P0 hρ _).trans (evalMiss hA 4 rfl);exact relUpon_move (hk:=by rw[h4];exact⟨Ext.refl _,rfl⟩)):p:=h
theorem OX(h:p:=by rw[Bool.and_eq_false_iff,WB,WB];omega):p:=h
theorem jC(h:p:=by go_enter func172,ntmps172;go_wp2_with fail;refine(HO.out _).mono ?_;rintro e w1 ⟨rfl,rfl⟩;go_wp2_with fail;refine(HC.out _).mono ?_;rintro e w2 ⟨rfl,hx2⟩;go_wp2;go_ret2;exact⟨by rw[HT.out];rfl,hx2⟩):p:=h
theorem mY(h:p:=by have HDT:=A0 (fun w=>Zkc d h6.out (JE hal.out) w);rw[hdt]at HDT;clear hdt;go_wp2_with fail;refine(HDT.out _).mono ?_;rintro e w2 ⟨rfl,hx2⟩;go_wp2;go_ret;exact⟨Z1 HR9.out.symm,hxw.trans hx2⟩):p:=h
theorem iP(h:p:=by
 intro V w' hx hf;with_reducible refine relAt_ops ?_
 intro A' ρ hA hρ hcst hfun;have h8:ρ (.tmp 8)=.int .i64 SM:=(P0 hρ _).trans (evalMiss hA 8 rfl);exact relUpon_move (hk:=by rw[h8];exact⟨Ext.refl _,rfl⟩)):p:=h
theorem dY(h:p:=by
 rw[D0 hs]at HR2;rcases hs with hs|hs;·exact TI
 ·have hs2:¬x0<103:=B0;exact TI):p:=h
theorem F9(h:p:=by rw[D0 h2,D0 B0]):p:=h
theorem pH(h:p:=by
 go_wp2;go_roundw;case rel=>exact xJ
 case measure=>exact Q8):p:=h
theorem pE(h:p:=by
 go_wp2;go_roundw;case rel=>exact⟨0+1,G++strOfNums [(c.toNat:Int)],by omega,by go_num,rfl,A0 (HSN.out _ HAA.out),HAS.out,HBN.out hE,by exact(hxr.trans hx2).alloc _⟩
 case measure=>exact Q8):p:=h
theorem PW(h:p:=by exact⟨by omega,by omega,by constructor<;>intro<;>omega⟩):p:=h
theorem fO(h:p:=by
 by_cases hc0:c<0;·clear hc;exact WT
 ·have hc0':0<=c:=B0;have hc1:127<c:=B0;clear hc hc0;exact WT):p:=h
theorem P7(h:p:=by injection h with _ h;cases h):p:=h
theorem OY(h:p:=by go_wp2;go_ret;exact⟨Zm HR.out.symm,Xf⟩):p:=h
theorem vL(h:p:=by
 cases n<;>simp only[relUpon]at h<;>simp only[Oper.upon];case value u=>exact hk _ _ h
 case skip=>exact hk _ _ h
 case enter f args=>exact h.mono fun e w'' ⟨v,he,hv⟩=>by subst he;exact hk _ _ hv):p:=h
theorem aS(h:p:=by go_enter func138,ntmps138;go_wp2_with fail;refine(HA.out _).mono ?_;rintro e w1 ⟨rfl,rfl⟩;go_wp2_with fail;go_quiet (fail);go_wp2;go_ret;exact⟨by rw[<-HX.out];rfl,(Ext.refl w).drewN _⟩):p:=h
theorem jP(h:p:=by clear hoo;go_wp2_with fail;refine HC1.out.mono ?_;rintro en w5 ⟨rfl,rfl⟩;go_wp2_with fail;refine HC2.out.mono ?_;rintro en w5 ⟨rfl,rfl⟩;go_wp2;go_ret2;exact⟨by rw[HT.out];rfl,hx0.trans hxq⟩):p:=h
theorem lB(h:p:=by have hO:=HO.out;rw[X1 (by rw[HWL.out];exact K0 _)]at hO;have HK:=A0 hO.slk;have hx9:=HX.out;clear hO HO hi hlt;go_wp2;go_ret2;rw[HRES.out];exact⟨_,rfl,HK.out,hx9⟩):p:=h
theorem Qc5(h:p:=by
 rw[M1,X6 G5];by_cases h:j%2=0;·rw[D0 h];exact(Y0.2 B0).symm
 ·rw[C0 h];exact(N0.2 B0).symm):p:=h
theorem uE(h:p:=by
 clear hrow HRW HWJ hiw;generalize ws.getD j 0=x at*;go_wp2;go_roundw;case rel=>exact⟨j+1,by omega,by go_num,by rw[HS1.out],by rw[HS2.out],HR1.out,HX.out _⟩
 case measure=>exact Q8):p:=h
theorem FD(h:p:=by
 rcases h with h|h;·rw[BigFrame.run_move x h];exact hk
 ·rw[BigFrame.run_assign x h];exact hk):p:=h
theorem ER(h:p:=by have h2:=HT.out;rw[X1 A6]at h2;rw[h2,HSS.out]):p:=h
theorem iV(h:p:=by
 intro k hk hl;by_cases hki:i=k;·omega
 ·rw[TM false hki]at hl;exact I.tail k hk hl):p:=h
theorem CX(h:p:=by rw[ho]at h4;simp only[M2,U1,Y1]at h4;exact(h4.2 j hj).1):p:=h
theorem AW(h:p:=by go_ret2;rw[HF.out];exact F5.bad _ _ _ hx9):p:=h
theorem eI(h:p:=by go_wp2_with fail;refine HCH.out.mono ?_;rintro e w6 ⟨u,rfl,hs6,hx6⟩;have HS6:=A0 hs6;have hx9:=HX5.out.trans hx6;clear hs6;go_wp2;go_ret2;rw[HF.out];exact⟨_,rfl,HS6.out,hx9⟩):p:=h
theorem vN(h:p:=by
 unfold Act.put;simp only;congr 1;apply UT;·simp
 ·intro i h1 h2;rw[BB];split;(·rename_i he;subst he;simp at h1;simp[h1]);·rfl):p:=h
theorem cC(h:p:=by
 unfold Tw.read at h'⊢;split;·rename_i i hi;rw[hi]at h';have:=VP hi;simp only at h';simp[h']at this
 ·simp only[J0,O6];omega):p:=h
theorem CP(h:p:=by exact RdR.none (Zo hxw (A4 _) _ _ _)):p:=h
theorem bD(h:p:=by exact⟨by rw[HG.out];unfold gotV linV;dsimp only;rw[HTA.out.1,HTA.out.2];rfl,(((HXX.out.setCell (K0 _) _).setCell (K0 _) _).setCell (K0 _) _).alloc _⟩):p:=h
theorem SS(h:p:=by go_wp2;go_ret;exact⟨Z1 HR.out.symm,HX.out⟩):p:=h
theorem UJ(h:p:=by rw[J0,M1];omega):p:=h
theorem bH(h:p:=by go_enter func261,ntmps261;go_wp2;refine E1 (DW results261 rfl (UZ w _ _ _).2 rfl) rfl ?_;rw[HF.out];exact⟨GB.ext Xf,_,_,_,_,_,rfl⟩):p:=h
theorem iU(h:p:=by rw[U0,M0 B0];exact OD):p:=h
theorem JM(h:p:=by exact⟨0,O0 _,rfl,by rw[C7,YB];rfl⟩):p:=h
theorem gR(h:p:=by have h3:=R0 (fun l=>l[i]?) ht;rw[W6,D0 (by rw[J0,A9];exact hi),J2,M0 hi]at h3;exact h3):p:=h
theorem fF(h:p:=by exact⟨0,O0 _,rfl,by simpa using(UI (w.alloc (.cells #[.string ⟨#[]⟩,.string ⟨#[]⟩] 86)) (.int .u8 0) m 5).congr (fun i _=>by simp),Xe⟩):p:=h
theorem eX(h:p:=by
 obtain rfl:k=N:=by omega
 have HV1:Hid (res=0):=A0 (by rw[hv.out,<-HN.out,KH];rfl);clear hk hlt hv;go_wp2;go_ret;exact⟨Z1 HV1.out.symm,hx⟩):p:=h
theorem MI(h:p:=by go_wp2;go_ret;exact⟨Z1 HR.out.symm,rfl⟩):p:=h
theorem eQ(h:p:=by
 have hb:b<w.heap.size:=by rcases P4 b w.heap.size with hh|hh;(·exact hh);·rw[YC hh]at h;simp at h
 rw[hx.block b hb];exact h):p:=h
theorem GW(h:p:=by go_wp2;go_ret;exact⟨Z1 HR.out.symm,HX.out.trans hx2⟩):p:=h
theorem sY(h:p:=by go_wp2_with fail;refine E1 (ZO results27 rfl (Zk f7) rfl rfl) rfl ?_;rw[HD.out];exact⟨rfl,Zo HXF.out (K0 _) _ _ _⟩):p:=h
theorem mK(h:p:=by go_wp2_with fail;refine E1 (ZO results26 rfl (Zk f7) rfl rfl) rfl ?_;rw[HF.out];exact⟨rfl,Zo HXR.out (K0 _) _ _ _⟩):p:=h
theorem XK(h:p:=by exact⟨0,O0 _,rfl,rfl⟩):p:=h
theorem cJ(h:p:=by subst hkm;obtain⟨e,he,hb,hon⟩:=VZ ho hik.2;rw[<-hon];exact hdep e he hb):p:=h
theorem PJ(h:p:=by go_wp2_with fail;go_meet;case rel=>exact HM):p:=h
theorem qZ(h:p:=by exact⟨32,K0 _,by omega,rfl,A0 (fun d h1 h2=>by omega),Ext.refl _⟩):p:=h
theorem nN(h:p:=by go_wp2_with fail;refine E1 (Zi results83 rfl (Zk f7) rfl) rfl ?_;rw[HF.out];exact RdR.none (Zo hxw (K0 _) _ _ _)):p:=h
theorem iA(h:p:=by go_wp2_with fail;refine E1 (Zi results35 rfl (Zk f7) rfl) rfl ?_;rw[HF.out];exact CO):p:=h
theorem mT(h:p:=by go_enter func207,ntmps207;go_wp2_with fail;refine HD.out.mono ?_;rintro e w' ⟨rfl,rfl⟩;go_wp2;go_ret;exact⟨Zm (by simp[HR.out]),rfl⟩):p:=h
theorem AM(h:p:=by rw[E5];obtain⟨h2,h3⟩:=I1.1 hck;rw[h3];rfl):p:=h
theorem yF(h:p:=by
 have HS:=A0 hs1;clear hs1;go_wp2;go_round;case rel=>exact⟨k+1,by omega,by go_num,by rw[HS.out];simp[Cd.dg]⟩
 case measure=>exact Q8):p:=h
theorem pK(h:p:=by
 have hE:rdE j=18:=by rw[HE.out,D0 ⟨hjp,by rw[HGQ.out]⟩]
 clear HE;go_wp2;go_ret2;exact⟨by rw[HDR.out,HRTJ.out TU,hE];rfl,hxr⟩):p:=h
theorem uV(h:p:=by
 go_wp2;go_round;case rel=>exact⟨j+1,t2,by omega,by go_num,by first|rfl|(rw[<-hq])|(simp[hq]),hq0,hq1,HT2⟩
 case measure=>exact C1):p:=h
theorem B1(h:p:=by kernel_rfl):p:=h
theorem mU(h:p:=by go_enter func209,ntmps209;go_wp2_with fail;refine(H2.out _).mono ?_;rintro e w1 ⟨rfl,hx1⟩;go_wp2;go_ret;exact⟨Zm HR.out.symm,hx1⟩):p:=h
theorem JS(h:p:=by go_wp2_with fail;go_meet;case rel=>exact⟨rfl,HS0⟩):p:=h
theorem LL(h:p:=by rw[hr]at this;injection this with h1 h2;exact⟨h1,h2⟩):p:=h
theorem vJ(h:p:=by
 clear hc HR;go_wp2;go_roundw;case rel=>exact .inr ⟨k+1,cap,by omega,by omega,by go_num,rfl,HR1.out,HX.out _⟩
 case measure=>exact Q8):p:=h
theorem rI(h:p:=by rintro e w1 ⟨rfl,rfl⟩;go_wp2_with fail;refine(HRI.out _).mono ?_;rintro e w2 ⟨rfl,hx2⟩;go_wp2;go_ret2;exact⟨by rw[HX.out,HBS.out];rfl,hx2⟩):p:=h
theorem KQ(h:p:=by
 split;·exact W9
 ·exact O0 _):p:=h
theorem dR(h:p:=by
 go_wp2_with fail;go_quiet (fail);go_wp2;go_roundw;case rel=>exact⟨k+1,by omega,by go_num,HT2,hxr.drewN _⟩
 case measure=>exact Q8):p:=h
theorem oL(h:p:=by go_enter func197,ntmps197;go_wp2_with fail;refine HC.out.mono ?_;rintro e w1 ⟨rfl,rfl⟩;go_wp2;go_ret2;exact AZ):p:=h
theorem D7(h:p:=by simp at this;omega):p:=h
theorem GF(h:p:=by intro e;have:=R0 List.length e;rw[Zd,O4]at this;omega):p:=h
theorem dL(h:p:=by
 go_wp2;go_roundw;case rel=>exact⟨k+1,by omega,by go_num,by rw[HT.out,E3];exact hown5,hx5⟩
 case measure=>exact Q8):p:=h
theorem XZ(h:p:=by rw[Zf hs,Ea.mS_len]):p:=h
theorem yR(h:p:=by go_enter func52,ntmps52;go_wp2_with fail;refine HF.out.mono ?_;rintro e w1 ⟨rfl,hx1⟩;go_wp2;go_ret2;exact⟨by rw[HV.out];rfl,hx1⟩):p:=h
theorem MD(h:p:=by rw[D0 h2,D0 (show k<j+1 by omega)]):p:=h
theorem vH(h:p:=by
 clear hc HR;go_wp2;go_roundw;case rel=>exact .inr ⟨1,cap,by omega,by omega,rfl,rfl,HR1.out,HX.out _⟩
 case measure=>exact Q8):p:=h
theorem M8(h:p:=by (repeat' split)<;>omega):p:=h
theorem LA(h:p:=by rw[<-hx,Int.tmod_eq_emod_of_nonneg B0];omega):p:=h
theorem zG(h:p:=by rw[C5 h1,h2]):p:=h
theorem mX(h:p:=by rw[hck]at HCK;clear hck;go_wp2_with fail;refine(HCK.out _).mono ?_;rintro e w2 ⟨rfl,rfl⟩;go_wp2;go_ret;exact⟨Z1 HR9.out.symm,hxw⟩):p:=h
theorem AU(h:p:=by injection h with h;subst h;exact⟨by decide,(fun h=>by cases h),by simp⟩):p:=h
theorem rJ(h:p:=by rintro e w1 ⟨rfl,rfl⟩;go_wp2_with fail;refine(HRI.out _).mono ?_;rintro e w2 ⟨rfl,hx2⟩;go_wp2;go_ret2;exact⟨by rw[HX.out];rfl,hx2⟩):p:=h
theorem MH(h:p:=by exact⟨_,rfl,HK.out,hx9⟩):p:=h
theorem EO(h:p:=by clear h;go_wp2;go_quiet (fail);go_wp2;go_ret;exact⟨HF.out _ HG.out,Xf⟩):p:=h
theorem vX(h:p:=by unfold ZP at h;rw[ho]at h;simp only[Array.any_eq_true',M2,Y0]at h;obtain⟨e,he,hb,h⟩:=h;exact⟨e,he,hb,h⟩):p:=h
theorem jV(h:p:=by have hy:=h y (N2 ..);simp only[F1];refine ih (fun x hx=>h x (V2 _ hx)) _ ?_;exact Y6):p:=h
theorem KS(h:p:=by exact S8 B0 ht1 ht0 B0):p:=h
theorem bA(h:p:=by
 by_cases h:L<7;·exact .inl (V0 B0)
 ·exact .inr ⟨X0 B0,V0 B0⟩):p:=h
theorem yK(h:p:=by
 rintro e w' ⟨rfl,rfl⟩;go_wp2;go_round;case rel=>exact⟨n+1,by omega,HN.out,by go_num⟩
 case measure=>exact Q8):p:=h
theorem W9(h:p:=by exact K0 _):p:=h
theorem TY(h:p:=by simp[Tw.isIn];omega):p:=h
theorem CR(h:p:=by rw[FA,Array.getElem?_replicate];split<;>rfl):p:=h
theorem UU(h:p:=by rw[S9];omega):p:=h
theorem MG(h:p:=by go_wp2;go_ret;exact⟨Z1 HF.out.symm,rfl⟩):p:=h
theorem aZ(h:p:=by go_wp2;refine E1 (Zi results78 rfl (L2 _ _) rfl) rfl ?_;exact⟨by rw[<-HX.out];rfl,Xf⟩):p:=h
theorem zH(h:p:=by rw[List.find?_eq_some_iff_getElem];refine⟨by simpa using h,j,by simpa using hj,by simp,fun i hi=> ?_⟩;simpa using hb i hi):p:=h
theorem gO(h:p:=by exact⟨i,i+1,pre++[x],rfl,by go_num,by omega,by omega,hpl2,HR2,by first|exact HS2|exact A0 (.inr rfl),HJ3,HB3,HBX3⟩):p:=h
theorem sX(h:p:=by
 go_wp2_with fail;go_roundw;case rel=>exact⟨i+1,by omega,by go_num,HO3,HX3⟩
 case measure=>exact C1):p:=h
theorem JT(h:p:=by go_wp2_with fail;go_meet;case rel=>exact HS):p:=h
theorem bE(h:p:=by
 go_wp2;go_roundw;case rel=>exact⟨j+1,er,by omega,by go_num,rfl,HST2,HXX.out⟩
 case measure=>exact Q8):p:=h
theorem iY(h:p:=by rw[W6,D0 hi,EU];exact ho):p:=h
theorem TE(h:p:=by intro i _ h;rw[hf]at h;cases h):p:=h
theorem aQ(h:p:=by go_wp2;refine E1 (Zi results214 rfl (Zk HB) rfl) rfl ?_;exact⟨by rw[HG.out];rfl,Xf⟩):p:=h
theorem aN(h:p:=by go_wp2;refine E1 (Zi results212 rfl (Zk HB) rfl) rfl ?_;exact⟨by rw[HG.out];rfl,Xf⟩):p:=h
theorem WA(h:p:=by rw[M1];omega):p:=h
theorem K7(h:p:=by simp[go_sem,encT]):p:=h
theorem vA(h:p:=by
 congr 3;by_cases h:l.length%2=0;·rw[D0 h,C0 B0]
 ·rw[C0 h,D0 B0,Bool.not_not]):p:=h
theorem qY(h:p:=by exact absurd (by rw[a1];simp only[hc,Zin]) (h _ a2 a3)):p:=h
theorem bG(h:p:=by exact⟨by rw[HG.out];rfl,((hxx.setCell (K0 _) _).setCell (K0 _) _).setCell (K0 _) _⟩):p:=h
theorem oI(h:p:=by go_wp2_with fail;refine HC.out.mono ?_;rintro e w1 ⟨rfl,rfl⟩;go_wp2;go_ret2;exact⟨by rw[HV3.out];rfl,rfl⟩):p:=h
theorem yH(h:p:=by
 go_wp2;go_round;case rel=>exact⟨k+1,by omega,by go_num,by rw[HS.out]⟩
 case measure=>exact Q8):p:=h
theorem AC(h:p:=by rename_i h1;simp only[N3]at h;exact absurd h.2 h1):p:=h
theorem WK(h:p:=by rw[HN.out];omega):p:=h
theorem EC(h:p:=by subst h1;rw[D0 rfl,D0 (show k<k+1 by omega),hbb];rfl):p:=h
theorem pD(h:p:=by rw[HE.out,C0 wH,C0 (fun h=>HN1.out h.1),C0 B0]):p:=h
theorem xD(h:p:=by exact⟨s.size,K0 _,rfl,by rw[I4];rfl⟩):p:=h
theorem JJ(h:p:=by rw[N0];exact TP):p:=h
theorem cL(h:p:=by simp[h1]at this;simp[Zt,BC,him,this]):p:=h
theorem nO(h:p:=by exact⟨0,O0 _,rfl,A0 (fun x hx=>by simp at hx),A0 (Own.nil _ _ _),A0 (Ext.refl _)⟩):p:=h
theorem sW(h:p:=by go_wp2_with fail;refine(HAW.out _ HT.out).mono ?_;exact dJ):p:=h
theorem M7(h:p:=by have:=HQ.out;omega):p:=h
theorem DP(h:p:=by rw[C0 hg,C0 hg,D0 (show(8:Int)≠0 by decide)]):p:=h
theorem RV(h:p:=by rw[UInt8.toNat_ofNat'];omega):p:=h
theorem kO(h:p:=by go_wp2_with fail;refine HJ.out.mono ?_;rintro e w1 ⟨rfl,hx1⟩;go_wp2;go_ret;exact⟨rfl,hxr.trans hx1⟩):p:=h
theorem V7(h:p:=by unfold maxLen;omega):p:=h
theorem CG(h:p:=by simp only[M2,Y1]at hc';omega):p:=h
theorem FK(h:p:=by rw[hz]at e;injection e with e;subst e;exact Hp.lessS_ir _):p:=h
theorem kY(h:p:=by obtain⟨n,hn⟩:=K4 hi0;have:=XO _ _ _ hn;have h4:Tw.cCb.length=20:=rfl;omega):p:=h
theorem kR(h:p:=by exact⟨0,O0 _,rfl,Own.nil _ _ _,A0 (fun m hm=>absurd hm (W7 _)),Ext.refl _⟩):p:=h
theorem BS(h:p:=by first|trivial|(refine⟨?_,?_,?_⟩<;>first|rfl|trivial)):p:=h
theorem uG(h:p:=by go_wp2;go_ret2;exact⟨.slice none 0 0,by rw[HT.out];rfl,by rw[HT.out];exact Own.nil _ _ _,Ext.refl _⟩):p:=h
theorem nX(h:p:=by unfold ZR;rw[J0,M1,X2,show fives.length=50 from rfl];omega):p:=h
theorem qW(h:p:=by unfold Own at hh;rw[hv]at hh;rw[hh.cellAt i B0]):p:=h
theorem BI(h:p:=by exact⟨0,O0 _,rfl,Own.nil _ _ _,Ext.refl _⟩):p:=h
theorem JN(h:p:=by rename_i g;rw[D0 g]at he;simp at he):p:=h
theorem MX(h:p:=by rw[<-Zd,hXE,J0,hwl]):p:=h
theorem NT(h:p:=by rw[NY,E3];rfl):p:=h
theorem dS(h:p:=by clear hxy;go_wp2_with fail;go_quiet (fail);go_wp2;go_ret;exact⟨Zm HF.out.symm,hxr.drewN _⟩):p:=h
theorem DZ(h:p:=by first|(have:=HSB.out;simp;omega)|(have:=HSB.out;omega)):p:=h
theorem kX(h:p:=by rintro e w1 ⟨rfl,rfl⟩;go_wp2;go_ret2;exact⟨by rw[HT.out];exact ZX rfl rfl,Ext.refl _⟩):p:=h
theorem zQ(h:p:=by
 rcases h with⟨rfl,a,c,rfl⟩|⟨b,off,cap,rfl,_⟩;·exact⟨a,c,rfl⟩
 ·exact⟨_,_,rfl⟩):p:=h
theorem pA(h:p:=by exact⟨0,⟨#[]⟩,O0 _,rfl,rfl,A0 rfl,rfl,A0 (fun i h=>by omega),Ext.refl _⟩):p:=h
theorem uD(h:p:=by go_wp2;go_ret2;exact⟨.slice none 0 0,by rw[HT.out];rfl,by rw[HT.out];exact jR _,Ext.refl _⟩):p:=h
theorem MV(h:p:=by exact⟨0,O0 _,rfl,HOm,HXm⟩):p:=h
theorem I8(h:p:=by have:=HN.out;omega):p:=h
theorem sE(h:p:=by exact B4 (Nat.mul_le_mul_right 24 (show xs.length+1<=1000000000 by omega)) I0):p:=h
theorem bQ(h:p:=by exact B4 (Nat.mul_le_mul_right 32 (show xs.length+1<=1000000000 by omega)) I0):p:=h
theorem pG(h:p:=by rw[HE.out,C0 wH,C0 (by have:=HJN.out;omega)]):p:=h
theorem bP(h:p:=by intro u' hu;simp only[V3,D8,E8]at hu;rcases hu with rfl|rfl<;>rfl):p:=h
theorem rU(h:p:=by rw[C2,Bool.eq_false_iff];intro h;exact a3 ((XN a).1 (List.isEmpty_iff.1 h))):p:=h
theorem F3(h:p:=by exact this):p:=h
theorem cZ(h:p:=by simp only[ZJ,M2,Y1]at hchk;exact hchk.1.1.1.1.1.1.1.1.1.1):p:=h
theorem VV(h:p:=by rw[D0 h1]at h;cases h):p:=h
theorem yZ(h:p:=by obtain⟨x,h1,h2,h3⟩:=key j m' w' hm hw;unfold lessS at h1;split at h1<;>simp at h1<;>omega):p:=h
theorem sO(h:p:=by exact(HSW3.out w' hx).mono fun e w'' ⟨he,hy⟩=>⟨_,he,by rw[hy];exact Ext.refl _,rfl⟩):p:=h
theorem CW(h:p:=by rw[a1,M1,SC];omega):p:=h
theorem EB(h:p:=by go_wp2;go_ret;exact⟨Zm HN.out.symm,rfl⟩):p:=h
theorem GS(h:p:=by go_wp2;go_ret;exact⟨Zm HR.out.symm,rfl⟩):p:=h
theorem KR(h:p:=by exact T7 B0 ht0):p:=h
theorem dM(h:p:=by exact⟨0,O0 _,rfl,(UI w1 _ _ _).congr (fun i _=>by simp),Xe⟩):p:=h
theorem jO(h:p:=by exact⟨0,O0 _,rfl,Own.nil _ _ _,Own.nil _ _ _,ZL.nil_left _,Ext.refl _⟩):p:=h
theorem vB(h:p:=by rw[hcs,<-hrd,M3,<-SV,J7];exact hs):p:=h
theorem kB(h:p:=by rw[M2,Y1]at h;subst hA;exact vZ V d ds a h.1 h.2):p:=h
theorem qX(h:p:=by simp only[YX,h]at h1;exact h1 trivial):p:=h
theorem lY(h:p:=by exact⟨1,K0 _,by decide,rfl,A0 (fun i hi=>absurd hi B0),HW⟩):p:=h
theorem bV(h:p:=by rw[X1 A6]at h2;rw[h2,HS.out]):p:=h
theorem gC(h:p:=by rw[HS.out]at h1;unfold Ea.mS at h1;rw[J2,hb]at h1;simpa using h1.symm):p:=h
theorem NR(h:p:=by exact Bool.noConfusion this):p:=h
theorem sF(h:p:=by intro v' w' h1 h2 _;refine h v' w' ?_ h2;unfold Own;rw[T0];exact h1):p:=h
theorem oH(h:p:=by go_enter func247,ntmps247;go_wp2;go_ret2;exact⟨by rw[HV.out];rfl,rfl⟩):p:=h
theorem dD(h:p:=by rw[YG];exact⟨s[k],Zn s k h,by rw[hp];exact Bool.noConfusion⟩):p:=h
theorem aA(h:p:=by rw[show(48+(d:Int))=((48+d:Nat):Int) by omega];exact LC (48+d) B0):p:=h
theorem NQ(h:p:=by rw[M1]at this;omega):p:=h
theorem eL(h:p:=by have:=R0 List.length e;rw[T0,D1]at this;omega):p:=h
theorem rL(h:p:=by rw[Z0];exact X1 DH):p:=h
theorem pI(h:p:=by rw[N0];intro h;exact hc0 (R4.1 M5)):p:=h
theorem cY(h:p:=by simp only[ZJ,M2,Y1]at hchk;exact hchk.1.1.2):p:=h
theorem gS(h:p:=by
 rcases h.2 with⟨h1,_⟩|⟨g',cap,cur,h1,_⟩;·cases h1
 ·injection h1):p:=h
theorem GY(h:p:=by rw[M1,X2];omega):p:=h
theorem LH(h:p:=by exact⟨by rw[HS.out];rfl,Xf⟩):p:=h
theorem DN(h:p:=by rw[<-hJ,Z0,hs,Ea.mS_drop,Ea.mS_take]):p:=h
theorem SW(h:p:=by rw[D0 h0]at h;cases h):p:=h
theorem nH(h:p:=by
 have:=HTS.out;have h7:tx.length=TX.size:=by rw[<-HTL.out,Zd]
 omega):p:=h
theorem yE(h:p:=by exact⟨j,by omega,by go_num,by rw[HS.out];simp[Cd.dg],by rw[HS.out];rfl⟩):p:=h
theorem yC(h:p:=by exact⟨s.size,K0 _,rfl,by rw[YB];rfl,by rw[YB];rfl⟩):p:=h
theorem lL(h:p:=by have:=HB3.out;rw[h]at this;dsimp only;rw[C0 (K9 this)]):p:=h
theorem eN(h:p:=by
 have:(UInt8.ofNat c.toNat).toNat=c.toNat:=S0
 rw[this];omega):p:=h
theorem aO(h:p:=by exact⟨by rw[HG.out];unfold symV linV;dsimp only;rw[<-HSS.out];rfl,Xf⟩):p:=h
theorem MM(h:p:=by exact T6.2 h0):p:=h
theorem aB(h:p:=by rw[Zf hJl,Ea.mS_len,M1,X2,hW];rfl):p:=h
theorem uI(h:p:=by go_wp2;go_ret2;exact⟨_,by rw[HT.out];rfl,by rw[HT.out];exact hsl,hxr⟩):p:=h
theorem nU(h:p:=by clear hk hlt;go_wp2;go_ret;exact⟨_,rfl,by rw[HT.out];exact hown,hxr⟩):p:=h
theorem DE(h:p:=by rcases hkk with rfl|rfl|rfl|rfl<;>decide):p:=h
theorem RJ(h:p:=by first|omega|(simp;omega)):p:=h
theorem XW(h:p:=by exact HB.out y h):p:=h
theorem E9(h:p:=by simpa using this):p:=h
theorem aV(h:p:=by
 have h':i=0∨i=1∨i=2:=by omega
 rcases h' with rfl|rfl|rfl<;>decide):p:=h
theorem xM(h:p:=by rename_i g;rw[D0 g]at hz;simp at hz):p:=h
theorem zI(h:p:=by rw[KW];intro i hi;simpa using hb i WY):p:=h
theorem aL(h:p:=by rw[D0 hg,D0 hg,C0 L0,C0 (fun h=>by cases h.1)]):p:=h
theorem uW(h:p:=by exact⟨0,0,O0 _,rfl,rfl,by omega,HR,A0 (Ext.refl _)⟩):p:=h
theorem eF(h:p:=by rw[show K-j=(K-(j+1))+1 by omega,Cc.valsGo,W5,<-hq];rfl):p:=h
theorem jA(h:p:=by go_wp2;go_ret;exact⟨by rw[HT.out];exact UB rfl,Ext.refl _⟩):p:=h
theorem rT(h:p:=by rw[Ea.addn_len a1' RY,Zd];exact hw47):p:=h
theorem jQ(h:p:=by clear hst;go_wp2;go_ret2;exact⟨by rw[HT.out];rfl,hx0.trans hxr⟩):p:=h
theorem pJ(h:p:=by rw[HE.out,C0 (by intro h;exact absurd h.2.2 Bool.noConfusion)]):p:=h
theorem cO(h:p:=by rw[a2 k B0,M9 B0,hlr];simp):p:=h
theorem EI(h:p:=by rename_i h2;rw[D0 h2]at h;cases h):p:=h
theorem FT(h:p:=by rw[show 2*(j+1)=2*j+1+1 by omega];rfl):p:=h
theorem gY(h:p:=by rw[<-hX];exact(Cc.pat_cut _ G0 lo hi).trans HPA.out):p:=h
theorem gQ(h:p:=by rw[A9,RX];exact toList_madeCells_one _ _):p:=h
theorem PL(h:p:=by rw[D0 he];simp[he]):p:=h
theorem kH(h:p:=by go_wp2;go_end0;exact⟨rfl,q',HQ2.out,HH2.out,HP2.out,HG2.out⟩):p:=h
theorem yJ(h:p:=by exact fun h=>hn (Cd.dih_inv_only c n ⟨hb1,hb2⟩ B0 h)):p:=h
theorem jN(h:p:=by intro h;have:=Zf h;rw[O4]at this;omega):p:=h
theorem zM(h:p:=by
 unfold Addr.add;split;·rename_i h;subst h;rfl
 ·simp):p:=h
theorem KU(h:p:=by rw[hB,<-hpr,<-hqr];omega):p:=h
theorem KT(h:p:=by rw[hA,<-hpl,<-hql];omega):p:=h
theorem eP(h:p:=by rename_i hv;simp only[N3]at h;exact absurd h.2.2 hv):p:=h
theorem bC(h:p:=by exact⟨0,7,by omega,rfl,rfl,A0 HX.out.symm,Ext.refl _⟩):p:=h
theorem MS(h:p:=by rintro rfl;revert h;decide):p:=h
theorem gF(h:p:=by exact⟨⟨digs_take h _,hz5⟩,digs_take (digs_drop h _) _⟩):p:=h
theorem gE(h:p:=by subst h1;rw[D0 rfl,D0 B0,HB.out];exact hx.symm):p:=h
theorem uF(h:p:=by clear hx;go_wp2;go_ret;exact⟨-1,rfl,rfl,by rw[HN.out];rfl⟩):p:=h
theorem B8(h:p:=by simpa using h2):p:=h
theorem bW(h:p:=by rw[hq];exact LQ (LR U B0) hx2):p:=h
theorem gL(h:p:=by rw[RQ];have:(50:UInt8).toNat=50:=rfl;omega):p:=h
theorem uX(h:p:=by rw[hG];exact B4 (Nat.gcd_le_right g B0) hm2):p:=h
theorem lN(h:p:=by rw[Zf HTL.out];simp[HTX.out.2.2.1,HTX.out.2.2.2]):p:=h
theorem lD(h:p:=by go_wp2_with fail;go_ret;exact⟨Z1 HRES.out.symm,hx9⟩):p:=h
theorem DM(h:p:=by rw[Zf hs,Ea.mS_len,hW]):p:=h
theorem nC(h:p:=by clear HP HN;go_wp2;go_ret;exact⟨by rw[HRES.out];rfl,hx⟩):p:=h
theorem cR(h:p:=by rw[hi]at h;exact a3 R (J1 hi) v w w' h hx):p:=h
theorem iN(h:p:=by rw[hqr];exact LQ (LR SM hpr0) hpr1):p:=h
theorem iM(h:p:=by rw[hql];exact LQ (LR SM hpl0) hpl1):p:=h
theorem TC(h:p:=by have:=HK.out;omega):p:=h
theorem gG(h:p:=by unfold Ea.size;rw[C0 h1,C0 h2,C0 h3,C0 h4]):p:=h
theorem zP(h:p:=by exact .inl ⟨L4 h0,_,_,hnil⟩):p:=h
theorem sD(h:p:=by intro u' hu;rw[U3]at hu;subst hu;exact h1):p:=h
theorem fK(h:p:=by rw[<-Zd,hD,X2];have:=HTL.out.1;omega):p:=h
theorem aR(h:p:=by go_wp2;go_ret2;exact⟨by rw[HG.out];rfl,hxr.trans hx3⟩):p:=h
theorem yT(h:p:=by show _=_;unfold Cd.comp;rw[C0 hne,Zd,C0 hl]):p:=h
theorem yS(h:p:=by show _=_;unfold Cd.comp;rw[C0 hne,Zd,D0 hl]):p:=h
theorem yP(h:p:=by clear hq;go_wp2;go_ret;exact⟨Z1 HV.out.symm,hXY⟩):p:=h
theorem PZ(h:p:=by cases check<;>decide):p:=h
theorem cN(h:p:=by rw[a2 i B0,O7 B0]):p:=h
theorem CS(h:p:=by intro k i _ h;rw[hf]at h;cases h):p:=h
theorem DY(h:p:=by split<;>(try dsimp only)<;>omega):p:=h
theorem OM(h:p:=by exact L2 _ _):p:=h
theorem LO(h:p:=by
 go_enter func261,ntmps261;go_wp2_with (at_builtin;refine Zq rfl _ _ rfl B _ out WJ (((HO.out.alloc _).alloc _).alloc _) _ (x+32) rfl ?c1 ?c2 ?c3 ?_);case c1=>exact L3
 case c2=>exact WK
 case c3=>exact Y2
 intro v' w5 hown5 hg5;have hown5:Own 3 w5 B v' ((out++[x+32]).map encI):=L9
 have hg5:GB (Value.slice a n c).ownBlock _ w5:=hg5;have hform:=hown5.slk.2;rw[J0,T0,HN.out]at hform;obtain⟨a5,c5,rfl,-⟩:=hform;obtain⟨n5,hn5⟩:∃n5,n5=n+([x+32]:List Int).length:=⟨_,rfl⟩;exact Qb):p:=h
theorem XA(h:p:=by
 intro V w' hx hf;with_reducible refine relAt_ops ?_
 intro A ρ hA hρ hcst hfun;have h6:ρ (.tmp 6)=.string ⟨#[48,49,48,49,48,49]⟩:=(P0 hρ _).trans (evalMiss hA 6 rfl);exact QO):p:=h
theorem bL(h:p:=by
 subst hp9;go_enter func261,ntmps261;go_wp2_with (at_builtin;refine Zq rfl _ _ rfl B _ out WJ (((HO.out.alloc _).alloc _).alloc _) _ (259) rfl ?c1 ?c2 ?c3 ?_);case c1=>exact L3
 case c2=>exact WK
 case c3=>exact Y2
 intro v' w5 hown5 hg5;have hown5:Own 3 w5 B v' ((out++[259]).map encI):=L9
 have hg5:GB (Value.slice a n c).ownBlock _ w5:=hg5;have hform:=hown5.slk.2;rw[J0,T0,HN.out]at hform;obtain⟨a5,c5,rfl,-⟩:=hform;obtain⟨n5,hn5⟩:∃n5,n5=n+([259]:List Int).length:=⟨_,rfl⟩;exact Qb):p:=h
theorem bK(h:p:=by
 subst hp9;go_enter func261,ntmps261;go_wp2_with (at_builtin;refine Zq rfl _ _ rfl B _ out WJ (((HO.out.alloc _).alloc _).alloc _) _ (257) rfl ?c1 ?c2 ?c3 ?_);case c1=>exact L3
 case c2=>exact WK
 case c3=>exact Y2
 intro v' w5 hown5 hg5;have hown5:Own 3 w5 B v' ((out++[257]).map encI):=L9
 have hg5:GB (Value.slice a n c).ownBlock _ w5:=hg5;have hform:=hown5.slk.2;rw[J0,T0,HN.out]at hform;obtain⟨a5,c5,rfl,-⟩:=hform;obtain⟨n5,hn5⟩:∃n5,n5=n+([257]:List Int).length:=⟨_,rfl⟩;exact Qb):p:=h
theorem bJ(h:p:=by
 subst hp9;go_enter func261,ntmps261;go_wp2_with (at_builtin;refine Zq rfl _ _ rfl B _ out WJ (((HO.out.alloc _).alloc _).alloc _) _ (258) rfl ?c1 ?c2 ?c3 ?_);case c1=>exact L3
 case c2=>exact WK
 case c3=>exact Y2
 intro v' w5 hown5 hg5;have hown5:Own 3 w5 B v' ((out++[258]).map encI):=L9
 have hg5:GB (Value.slice a n c).ownBlock _ w5:=hg5;have hform:=hown5.slk.2;rw[J0,T0,HN.out]at hform;obtain⟨a5,c5,rfl,-⟩:=hform;obtain⟨n5,hn5⟩:∃n5,n5=n+([258]:List Int).length:=⟨_,rfl⟩;exact Qb):p:=h
theorem bI(h:p:=by
 go_enter func261,ntmps261;go_wp2_with (at_builtin;refine Zq rfl _ _ rfl B _ out WJ (((HO.out.alloc _).alloc _).alloc _) _ (x-64) rfl ?c1 ?c2 ?c3 ?_);case c1=>exact L3
 case c2=>exact WK
 case c3=>exact Y2
 intro v' w5 hown5 hg5;have hown5:Own 3 w5 B v' ((out++[x-64]).map encI):=L9
 have hg5:GB (Value.slice a n c).ownBlock _ w5:=hg5;have hform:=hown5.slk.2;rw[J0,T0,HN.out]at hform;obtain⟨a5,c5,rfl,-⟩:=hform;obtain⟨n5,hn5⟩:∃n5,n5=n+([x-64]:List Int).length:=⟨_,rfl⟩;exact Qb):p:=h
theorem lU(h:p:=by
 refine Zc (eqv (.bool false)) (Zg _) ?_ ?_;·exact Qi
 intro V wT hxT hf;obtain⟨g30,g31,g32,g33,g34,g35,g36,g37,g38,_⟩:=hf;simp only[fillA,F1,O1,Act.put,V1,N1,L1];have q38:V 38=_:=g38;rw[q38];have HW2:=A0 (HW.out.trans hxT);refine Zb 9 G0 rfl (fun K hK=> ?_);exact tP):p:=h
theorem lT(h:p:=by have HW:=HW2;clear HW2;go_wp2_with fail;rw[HT.out];refine(HFU.out _).mono ?_;rintro e w9 ⟨rfl,hx9⟩;have HW2:=A0 (HW.out.trans hx9);clear HW hx9;exact lQ):p:=h
theorem mI(h:p:=by rw[hdk]at HD;unfold L6;rw[C0 (show¬((!true)=true)from Bool.noConfusion)];obtain⟨_,a,c,rfl,hc⟩:=hv;rw[J0]at hp3⊢;clear hc hn HF hq3 hg he hdk h7 h12;go_enter func144,ntmps144;go_wp2_with fail;refine(HD.out _ Xf).mono ?_;rintro e w1 ⟨rfl,rfl⟩;exact zE):p:=h
theorem tI(h:p:=by refine Zb 16 G0 rfl (fun K hK=> ?_);go_simp;refine hK _ _ ?_;clear hK K;refine Zb 17 G0 rfl (fun K hK=> ?_);go_simp;refine hK _ _ ?_;clear hK K;refine⟨rfl,?_⟩;clear HW;have HW:=HW2;clear HW2;exact xZ):p:=h
theorem rV(h:p:=by clear a25 z25;clear h1 h2 h2' h3 h5 hkk hn1 HF;go_enter func64,ntmps64;go_wp2_with fail;refine(HZ.out _).mono ?_;rintro e w1 ⟨rfl,rfl⟩;go_wp2_with fail;refine(HD.out _).mono ?_;rintro e w1 ⟨rfl,rfl⟩;go_wp2_with fail;refine(HN.out _).mono ?_;exact QF):p:=h
theorem BU(h:p:=by go_enter func79,ntmps79;go_wp2_with fail;refine HMG.out.mono ?_;rintro e w1 ⟨rfl,rfl⟩;exact zD):p:=h
theorem xO(h:p:=by rw[hcnt]at HP HT;rw[D0 rfl]at HT;clear hcnt;go_enter func84,ntmps84;go_wp2_with fail;refine(HP.out _).mono ?_;exact RD):p:=h
theorem rQ(h:p:=by clear h1 h2 h2' h3 h5 hkk hn1 HF;go_enter func64,ntmps64;go_wp2_with fail;refine(HZ.out _).mono ?_;rintro e w1 ⟨rfl,rfl⟩;go_wp2_with fail;refine(HD.out _).mono ?_;rintro e w1 ⟨rfl,rfl⟩;go_wp2_with fail;refine(HN.out _).mono ?_;exact wB):p:=h
theorem nL(h:p:=by
 have HR:Hid ((res1,res2)=([],Gs.ver ai d)):=A0 (by rw[HP2.out,HS4.out hver,D0 hver]);obtain⟨z1,hz1⟩:∃z1,Gs.ver ai d=z1:=⟨_,rfl⟩;rw[hz1]at HV1 HR hver;have hz2:(z1==0)=false:=by simpa using hver
 clear hver hz1 HS4 HS5 HS6;exact QY):p:=h
theorem rH(h:p:=by clear h1 h2 hkk h3 h2' h4 h5;go_enter func17,ntmps17;go_wp2_with fail;refine(HZ.out _).mono ?_;rintro e w1 ⟨rfl,rfl⟩;go_wp2_with fail;refine(HD.out _).mono ?_;rintro e w1 ⟨rfl,rfl⟩;go_wp2_with fail;refine(HN.out _).mono ?_;exact DD):p:=h
theorem aG(h:p:=by clear g2 HL HR HM HJ hJ hJs;go_enter func251,ntmps251;go_wp2_with fail;refine(HP.out _).mono ?_;rintro e w1 ⟨rfl,rfl⟩;go_wp2_with fail;refine(HQ.out _).mono ?_;rintro e w1 ⟨rfl,rfl⟩;go_wp2;go_ret3;exact BL):p:=h
theorem fM(h:p:=by
 have HR:Hid (res=(([],[]),0,Gs.ver ai d)):=A0 (HS4.out hver);obtain⟨z1,hz1⟩:∃z1,Gs.ver ai d=z1:=⟨_,rfl⟩;rw[hz1]at HV1 HR hver;have hz2:(z1==0)=false:=by simpa using hver
 clear hver HS4 HS5 HS6' hz1;exact Qz):p:=h
theorem xU(h:p:=by go_enter func156,ntmps156;go_wp2_with fail;refine HTOT.out.mono ?_;rintro e w1 ⟨rfl,rfl⟩;exact US):p:=h
theorem EV(h:p:=by go_enter func154,ntmps154;go_wp2_with fail;refine HIR2.out.mono ?_;rintro e w1 ⟨rfl,rfl⟩;exact US):p:=h
theorem tJ(h:p:=by have HW:=HW2;clear HW2;exact xZ):p:=h
theorem rY(h:p:=by clear a25 z25;clear h1 h2 h2' h3 h5 hkk hn1 HF h4;go_enter func64,ntmps64;go_wp2_with fail;refine(HZ.out _).mono ?_;rintro e w1 ⟨rfl,rfl⟩;go_wp2_with fail;refine(HD.out _).mono ?_;exact QF):p:=h
theorem xC(h:p:=by
 obtain rfl:j=s.size:=by omega
 rw[I4,R5]at hb1 hb2⊢;clear hj hlt;exact C6):p:=h
theorem rX(h:p:=by clear h1 h2 h2' h3 h5 hkk hn1 HF h4;go_enter func64,ntmps64;go_wp2_with fail;refine(HZ.out _).mono ?_;rintro e w1 ⟨rfl,rfl⟩;go_wp2_with fail;refine(HD.out _).mono ?_;exact wB):p:=h
theorem O8(h:p:=by clear HT4 HRB h4 h5;exact QD):p:=h
theorem dZ(h:p:=by
 intro V w' hx hf;with_reducible refine relAt_ops ?_
 intro A ρ hA hρ hcst hfun;have h0:ρ (.tmp 0)=.slice (some ⟨b,o,none⟩) n c:=(P0 hρ _).trans (evalMiss hA 0 rfl);exact QA):p:=h
theorem yB(h:p:=by go_wp2;refine V4 (v:=.tuple #[.agg #[.int .i64 0,.int .i64 0,.int .i64 0,.int .u8 0],.bool false]) GI rfl ⟨by rw[HR.out];rfl,Xf⟩):p:=h
theorem YR(h:p:=by rw[T0];exact S0):p:=h
theorem MP(h:p:=by go_enter func108,ntmps108;go_wp2;go_ret2;exact V6):p:=h
theorem dP(h:p:=by
 intro V w' hx hf;with_reducible refine relAt_ops ?_
 intro A ρ hA hρ hcst hfun;have h0:ρ (.tmp 0)=.string s:=(P0 hρ _).trans (evalMiss hA 0 rfl);exact QA):p:=h
theorem pM(h:p:=by clear HE;go_wp2_with fail;refine(HF.out _ Xe _).mono ?_;rintro e w2 ⟨rfl,hx2⟩;go_wp2_with fail;refine(HL.out _).mono ?_;rintro e w3 ⟨rfl,rfl⟩;exact wG):p:=h
theorem mG(h:p:=by unfold L6;rw[C0 Bool.noConfusion];obtain⟨_,a,c,rfl,hc⟩:=hv;rw[J0];clear hc hn HF h7 h12;go_enter func144,ntmps144;exact zE):p:=h
theorem mC(h:p:=by go_enter func144,ntmps144;exact zE):p:=h
theorem aH(h:p:=by clear g1 HL HR HM HJ hJ hJs;go_enter func251,ntmps251;go_wp2_with fail;refine(HP.out _).mono ?_;rintro e w1 ⟨rfl,rfl⟩;go_wp2;go_ret3;exact BL):p:=h
theorem tA(h:p:=by exact⟨by rw[HG.out];unfold gotV linV;dsimp only;rw[HT.out];rfl,((HXX.setCell (K0 _) _).setCell (K0 _) _).setCell (K0 _) _⟩):p:=h
theorem rP(h:p:=by go_enter func64,ntmps64;go_wp2_with fail;refine(HZ.out _).mono ?_;rintro e w1 ⟨rfl,rfl⟩;go_wp2_with fail;refine(HD.out _).mono ?_;exact DJ):p:=h
theorem RN(h:p:=by go_enter func47,ntmps47;exact C6):p:=h
theorem SZ(h:p:=by go_wp2;go_ret2;exact V6):p:=h
theorem kD(h:p:=by clear hc;go_enter func372,ntmps372;go_wp2_with fail;go_quiet (fail);go_wp2_with fail;go_quiet (fail);go_wp2;go_ret;exact G8):p:=h
theorem sU(h:p:=by go_wp2_with fail;refine E1 (Zi results16 rfl (L2 w _) rfl) rfl ?_;exact TO):p:=h
theorem pX(h:p:=by go_wp2_with fail;refine E1 (Zi results14 rfl (L2 w _) rfl) rfl ?_;exact TO):p:=h
theorem lE(h:p:=by go_wp2_with fail;refine E1 (Zi results15 rfl (L2 w _) rfl) rfl ?_;exact TO):p:=h
theorem iE(h:p:=by go_wp2_with fail;refine E1 (Zi results13 rfl (L2 w _) rfl) rfl ?_;exact TO):p:=h
theorem JP(h:p:=by go_enter func150,ntmps150;exact mN):p:=h
theorem qR(h:p:=by rw[hx5.cell (p:=⟨w4.heap.size,1,none⟩) L0];exact SP):p:=h
theorem qQ(h:p:=by rw[hx5.cell (p:=⟨w4.heap.size,0,none⟩) L0];exact SP):p:=h
theorem tO(h:p:=by go_wp2_with fail;refine(HI.out _).mono ?_;rintro en w4 ⟨rfl,rfl⟩;go_wp2;go_ret2;exact⟨by rw[HR.out];rfl,hx3⟩):p:=h
theorem fZ(h:p:=by go_wp2_with fail;refine E1 (Zi results35 rfl (Zk f7) rfl) rfl ?_;rw[HR1.out];exact CP):p:=h
theorem kS(h:p:=by
 obtain rfl:j=n:=by omega
 have HR:=A0 (HRB.out HB.out);have hcv:=Zr hown.sl;clear hj hlt;exact zB):p:=h
theorem fX(h:p:=by go_wp2_with fail;refine E1 (Zi results35 rfl (Zk f7) rfl) rfl ?_;rw[HF.out];exact CP):p:=h
theorem oN(h:p:=by go_enter func196,ntmps196;go_wp2_with fail;refine(HP.out _).mono ?_;rintro e w1 ⟨rfl,rfl⟩;exact C6):p:=h
theorem KA(h:p:=by go_enter func69,ntmps69;exact DF):p:=h
theorem xY(h:p:=by exact relUpon_move (hk:=by rw[h5];exact⟨Ext.refl _,rfl⟩)):p:=h
theorem uM(h:p:=by go_enter func72,ntmps72;go_wp2_with fail;refine HTOT.out.mono ?_;rintro e w1 ⟨rfl,rfl⟩;exact XX):p:=h
theorem xE(h:p:=by subst h0;rw[C7,Z3]at hb1 hb2⊢;exact C6):p:=h
theorem tX(h:p:=by
 go_wp2;go_roundw;case rel=>exact⟨j+1,by omega,by go_num,HR1.out,HX1.out⟩
 case measure=>exact Q8):p:=h
theorem wD(h:p:=by
 go_wp2;go_roundw;case rel=>exact⟨j+1,by omega,by go_num,HR5.out,HX.out⟩
 case measure=>exact Q8):p:=h
theorem rW(h:p:=by rintro e w1 ⟨rfl,rfl⟩;go_wp2_with fail;refine(HRI.out _).mono ?_;rintro e w2 ⟨rfl,hx2⟩;exact QbI):p:=h
theorem dI(h:p:=by go_enter func189,ntmps189;go_wp2;go_quiet (fail);go_wp2;go_ret;exact⟨HF.out _ HG2.out,Xf⟩):p:=h
theorem mB(h:p:=by obtain⟨z0,z1,z2,z3,z4,z5,z6,HB⟩:=Zj (Zv rfl hx);have hxw:=hx.before;clear hx;exact tR):p:=h
theorem lO(h:p:=by rintro e w8 ⟨rfl,hx8⟩;have HW2:=A0 (HW.out.trans (hx7.trans hx8));clear HW hx7 hx8;exact lS):p:=h
theorem CO(h:p:=by exact RdR.some (Zo hxw (A4 _) _ _ _)):p:=h
theorem tY(h:p:=by
 go_wp2;go_round;case rel=>exact⟨j+1,by omega,by go_num,HB2⟩
 case measure=>exact C1):p:=h
theorem tN(h:p:=by have HN:=HRN.out h1;clear h1 hin;generalize Lib.indexByte edge.data.toList c=x at*;exact QE):p:=h
theorem pC(h:p:=by clear HE;go_wp2_with fail;refine(HF.out _ Xe _).mono ?_;rintro e w2 ⟨rfl,hx2⟩;exact wG):p:=h
theorem yX(h:p:=by
 go_wp2;go_round;case rel=>exact⟨j+1,by omega,by go_num,HO⟩
 case measure=>exact Q8):p:=h
theorem GP(h:p:=by rintro e w' ⟨rfl,rfl⟩;exact A8):p:=h
theorem bY(h:p:=by
 obtain rfl:B2=false:=by rw[HB2.out];exact X0 (fun h=>h13 h.1)
 exact zF):p:=h
theorem yY(h:p:=by clear HV5;go_wp2_with fail;refine(HDT.out _).mono ?_;rintro e w2 ⟨rfl,hx2⟩;exact GW):p:=h
theorem jB(h:p:=by go_enter func172,ntmps172;go_wp2_with fail;refine(HO.out _).mono ?_;exact RD):p:=h
theorem BF(h:p:=by have HG2:=A0 (HG.out B0);exact BG):p:=h
theorem xK(h:p:=by have HR:=key true E4;clear key;exact zB):p:=h
theorem uU(h:p:=by have HR:=A0 hres;clear hres h0 hp;go_enter func255,ntmps255;exact MI):p:=h
theorem EK(h:p:=by go_enter func211,ntmps211;exact C6):p:=h
theorem wA(h:p:=by rintro e w1 ⟨rfl,rfl⟩;go_wp2;go_ret2;exact⟨by rw[HX.out];rfl,Ext.refl _⟩):p:=h
theorem JW(h:p:=by subst hJ;clear h1 h2 HM;exact Qs):p:=h
theorem RH(h:p:=by rw[h1,h2]at this;exact F3):p:=h
theorem wC(h:p:=by go_wp2;go_ret2;exact⟨_,by rw[HX.out];rfl,by rw[HX.out];exact SlK.nil _,hx2⟩):p:=h
theorem EL(h:p:=by go_enter func49,ntmps49;exact C6):p:=h
theorem tZ(h:p:=by
 clear hxj;go_wp2;go_round;case rel=>exact QcM
 case measure=>exact C1):p:=h
theorem yD(h:p:=by subst hlt;simp only[R5,C7]at hb1 hb2⊢;exact GL):p:=h
theorem sQ(h:p:=by refine R9 21 G0 rfl (fun K hK=> ?_);exact sR):p:=h
theorem wF(h:p:=by rw[HD2.out];exact⟨rfl,Zo HX.out (K0 _) _ _ _⟩):p:=h
theorem fQ(h:p:=by simp only[N3]at hr;obtain⟨rfl,rfl⟩:=hr;exact WT):p:=h
theorem fY(h:p:=by have:=(I1.1 hx0).1;rw[HN.out];exact F3):p:=h
theorem MK(h:p:=by go_wp2_with fail;exact AW):p:=h
theorem tL(h:p:=by exact relUpon_move (hk:=by rw[h6];exact⟨Ext.refl _,rfl⟩)):p:=h
theorem sZ(h:p:=by exact relUpon_move (hk:=by rw[h0];exact⟨Ext.refl _,rfl⟩)):p:=h
theorem eW(h:p:=by obtain⟨h1,h2⟩:=I1.1 hxk;exact zG):p:=h
theorem dX(h:p:=by
 rw[D0 h3]at HR2;have h3I:(n:Int)<3:=by omega
 exact TI):p:=h
theorem uS(h:p:=by obtain⟨h1,h2⟩:=I1.1 hdb;exact zG):p:=h
theorem nF(h:p:=by obtain⟨h1,h2⟩:=I1.1 hz;exact zG):p:=h
theorem TP(h:p:=by have:=HE.out;omega):p:=h
theorem dJ(h:p:=by rintro e w1 ⟨rfl,hx1⟩;go_wp2;go_ret;exact⟨rfl,hx1⟩):p:=h
theorem cP(h:p:=by rw[Y4,U0,hget];exact F3):p:=h
theorem Y6(h:p:=by split<;>omega):p:=h
theorem AZ(h:p:=by exact⟨by rw[HA.out];rfl,rfl⟩):p:=h
theorem OD(h:p:=by exact GT _):p:=h
theorem tP(h:p:=by go_simp;refine hK _ _ ?_;clear hK K;refine⟨rfl,?_⟩;clear HW;have HW:=HW2;clear HW2;go_wp2;go_ret3;exact⟨by rw[<-HX.out];rfl,HW.out⟩):p:=h
theorem mF(h:p:=by unfold L6;rw[C0 Bool.noConfusion];obtain⟨_,a,c,rfl,hc⟩:=hv;rw[J0];clear hc hn HF h7;exact mC):p:=h
theorem lP(h:p:=by rintro e w8 ⟨rfl,hx8⟩;have HW2:=A0 (HW.out.trans (hx7.trans hx8));clear HW hx7 hx8;exact lT):p:=h
theorem xZ(h:p:=by go_wp2;go_ret3;exact⟨by rw[HG.out];rfl,HW.out⟩):p:=h
theorem TO(h:p:=by rw[HD.out];exact G8):p:=h
theorem zD(h:p:=by go_wp2;go_ret2;rw[HF.out];exact QbB):p:=h
theorem yL(h:p:=by go_wp2_with fail;refine(GJ _ _).mono ?_;exact GP):p:=h
theorem B0(h:p:=by omega):p:=h
theorem G0(h:p:=by kernel_rfl):p:=h
theorem I0(h:p:=by decide):p:=h
theorem L0(h:p:=by simp):p:=h
theorem A3(h:p:=by rw[J0];omega):p:=h
theorem X3(h:p:=by rw[M1];omega):p:=h
theorem A6(h:p:=by rw[<-HN.out];exact K0 _):p:=h
theorem F6(h:p:=by first|exact hown5|(rw[E3];exact hown5)):p:=h
theorem J4(h:p:=by rw[<-HN.out];exact hlt):p:=h
theorem U4(h:p:=by unfold maxLen;omega):p:=h
theorem G5(h:p:=by rw[<-HN.out];omega):p:=h
theorem N4(h:p:=by simp;omega):p:=h
theorem TL(h:p:=by rw[WU,<-HO.out,HOX.out HBO.out.symm,HF.out]):p:=h
theorem C8(h:p:=by rw[X2];omega):p:=h
theorem M5(h:p:=by simpa using h):p:=h
theorem YD(h:p:=by rw[S9];omega):p:=h
theorem VU(h:p:=by rw[D3];exact K0 _):p:=h
theorem WS(h:p:=by rw[J0,HN.out];omega):p:=h
theorem TK(h:p:=by rw[J0,HN.out];exact hlt):p:=h
theorem XY(h:p:=by rw[J0];exact hlt):p:=h
theorem E4(h:p:=by rfl):p:=h
theorem PE(h:p:=by rw[M1,X2,hW];rfl):p:=h
theorem WJ(h:p:=by simp only[go_sem];try rfl):p:=h
theorem PP(h:p:=by rw[HN.out];exact K0 _):p:=h
theorem K8(h:p:=by decide+kernel):p:=h
theorem YN(h:p:=by rw[Zd];omega):p:=h
theorem T8(h:p:=by simpa using hm):p:=h
theorem D9(h:p:=by simpa using h2):p:=h
theorem WR(h:p:=by rw[HN.out];exact hlt):p:=h
theorem EZ(h:p:=by rw[<-hR];simp only[SI,J2,hRd];rfl):p:=h
theorem RZ(h:p:=by rw[HRL.out];exact K0 _):p:=h
theorem AJ(h:p:=by unfold encS at p0 p1;simp[results,results142,go_sem,p0,p1]):p:=h
theorem RM(h:p:=by rw[Zd];exact hlt):p:=h
theorem MF(h:p:=by rw[Zz hxj,Rn.sum_snoc,<-HT.out]):p:=h
theorem FX(h:p:=by intro e;injection e with e1;first|exact h1 e1|exact h1 e1.symm):p:=h
theorem YA(h:p:=by simpa using hw):p:=h
theorem YM(h:p:=by simpa using h1):p:=h
theorem SG(h:p:=by rw[E3];exact h1):p:=h
theorem rN(h:p:=by apply Zl;simp only[Y3,F4,hAl,hBl];rw[Ea.bS_list,HSY.out];simp only[Ea.mS_app];rfl):p:=h
theorem dW(h:p:=by refine HR.out.trans ((C0 ?_).trans rfl);rw[UD,KO];intro x hx;have:=HB3.out x hx;simp;omega):p:=h
theorem UA(h:p:=by rw[HQ.out.len];omega):p:=h
theorem uO(h:p:=by rw[Zz hxj,Rn.mods_snoc,hcb];have e:(if(ws.take j).length%2=0 then true else !true)=((j:Int)%2==0):=Qc5;rw[e];rfl):p:=h
theorem aC(h:p:=by rw[C2,c3,C4,Y0,Y1,show [48,49,48,49,48]=Ea.mS Ea.md from rfl,Ea.mS_inj]):p:=h
theorem sB(h:p:=by first|(rw[VT];exact hown5)|(rw[VT,E3,RX];exact hown5)):p:=h
theorem sI(h:p:=by rw[HPP.out];exact RSt.push (hown.alloc _) (hhs.ext ((Ext.refl _).alloc _)) (HRR.out.alloc _) hown5 hg5 (hxx2.alloc _)):p:=h
theorem KN(h:p:=by simp only[HAI.out,HD.out];exact hx5):p:=h
theorem YE(h:p:=by simp[Cd.cmp]):p:=h
theorem EF(h:p:=by have:=HL2.out;simp only[Ea.ldg,W4]at this;omega):p:=h
theorem WY(h:p:=by simpa using hi):p:=h
theorem UN(h:p:=by rw[HTL.out];omega):p:=h
theorem RT(h:p:=by unfold Go.maxLen;omega):p:=h
theorem DI(h:p:=by rw[Y3,F4];rfl):p:=h
theorem RY(h:p:=by rw[Zd];exact a25):p:=h
theorem YL(h:p:=by rw[hc];rfl):p:=h
theorem UX(h:p:=by rw[hRl];exact hi):p:=h
theorem gK(h:p:=by rw[<-HR.out];simp only[Y3,F4,HN.out,HC.out,Z0,HD.out];rfl):p:=h
theorem uR(h:p:=by have:=hl.out;rw[O5 (K0 _)]at this;simp only[Ea.ldg]at this;omega):p:=h
theorem AN(h:p:=by have:=HV.out;rw[<-HN.out]at this;exact this):p:=h
theorem tT(h:p:=by rw[C5 (by rw[D4];exact hlj),List.getElem_reverse,hb]):p:=h
theorem iB(h:p:=by rw[HR1.out,D0];rw[YW];exact⟨x,J1 hxj,by simp;omega⟩):p:=h
theorem VQ(h:p:=by simpa using h0):p:=h
theorem MR(h:p:=by unfold Cd.isDig;simp;omega):p:=h
theorem AH(h:p:=by rw[J0];have:=HTL.out.1;omega):p:=h
theorem xR(h:p:=by intro h;exact absurd h.1 Bool.noConfusion):p:=h
theorem vG(h:p:=by rw[U0,M0 (by rw[Zd];exact h0)];rfl):p:=h
theorem XH(h:p:=by assumption):p:=h
theorem dH(h:p:=by rw[<-HR.out];simp only[Y3,F4,Z0,HL.out];rfl):p:=h
theorem TU(h:p:=by rw[hE];decide):p:=h
theorem wE(h:p:=by first|exact(hx2.trans hx3).trans hx4|exact((hx2.trans hx3).drewN _).trans hx4):p:=h
theorem LU(h:p:=by rw[<-I.size];exact h1):p:=h
theorem fL(h:p:=by simp only[HAI.out,HD.out]at p0 p1;simp[results,results142,go_sem,p0,p1]):p:=h
theorem iS(h:p:=by rw[HR.out,List.drop_eq_nil_of_le (by rw[<-HK.out];exact K0 _)];rfl):p:=h
theorem GI(h:p:=by simp[results,results97,go_sem]):p:=h
theorem gU(h:p:=by rw[T0,D3,M1,HWL.out];omega):p:=h
theorem DH(h:p:=by rw[X2,Zd];omega):p:=h
theorem UV(h:p:=by rw[a25];rfl):p:=h
theorem TG(h:p:=by injection e):p:=h
theorem rR(h:p:=by simp only[Y3,F4,hLl,hYl,hQl,Ea.mS_app]):p:=h
theorem FO(h:p:=by rw[J0,Zd];omega):p:=h
theorem LB(h:p:=by rw[Zd];exact h7):p:=h
theorem fS(h:p:=by rw[HD.out,YW];exact⟨true,J1 hxj,rfl⟩):p:=h
theorem lW(h:p:=by have:=HL2.out;simp only[Ea.ldg,WG,R6]at this;omega):p:=h
theorem eD(h:p:=by rw[NX,R5,C7];cases Cc.valsGo K ws<;>rfl):p:=h
theorem PO(h:p:=by simpa using hz):p:=h
theorem AQ(h:p:=by rw[hw0];exact(Ext.refl w).alloc _):p:=h
theorem OC(h:p:=by rw[Zd];exact h):p:=h
theorem NW(h:p:=by rw[C3];omega):p:=h
theorem GD(h:p:=by intro e;injection e with e;omega):p:=h
theorem AR(h:p:=by rw[hw0];exact L2 _ _):p:=h
theorem nJ(h:p:=by have:=HE.out;have:=HK2.out;omega):p:=h
theorem iZ(h:p:=by intro j hj;rw[T4]at hj⊢;exact⟨hdm i hi j hj,hf j hj⟩):p:=h
theorem RS(h:p:=by rw[hz2];omega):p:=h
theorem LN(h:p:=by have:=HPS.out;omega):p:=h
theorem KM(h:p:=by rw[<-hAI,Zd]):p:=h
theorem JK(h:p:=by have:=HK2.out;omega):p:=h
theorem nY(h:p:=by rw[J0,HRA.out,J0,O6];omega):p:=h
theorem JV(h:p:=by have:=HJ0.out;omega):p:=h
theorem EY(h:p:=by rw[<-hR];simp[Value.oneCell']):p:=h
theorem DK(h:p:=by rw[<-hQ];simp[Value.oneCell']):p:=h
theorem FR(h:p:=by rw[bne_eq_false_iff_eq];omega):p:=h
theorem AT(h:p:=by rw[<-hon];exact hdep e he hb):p:=h
theorem uA(h:p:=by rw[HT.out,YG];exact⟨x,HM.out,by simp;omega⟩):p:=h
theorem uB(h:p:=by rw[HT.out,U1];intro x hx;simpa using HB.out x hx):p:=h
theorem eG(h:p:=by rw[HV.out];dsimp only;rw[Option.map_map];congr 1;funext l;simp):p:=h
theorem nW(h:p:=by rw[show(⟨fives.toArray⟩:ByteArray).size=50 from rfl];omega):p:=h
theorem pB(h:p:=by rw[Zf HAA.out,T0,Zd,hGs];rfl):p:=h
theorem GC(h:p:=by rw[J0];exact hn):p:=h
theorem xH(h:p:=by rw[FQ,strOfNums_data];simp):p:=h
theorem EG(h:p:=by rw[D1,h3];rfl):p:=h
theorem DT(h:p:=by rw[Zy,hs,Ea.mS_take]):p:=h
theorem yQ(h:p:=by show _=_;unfold Cd.comp;rw[D0 ((XN s).2 h0)]):p:=h
theorem SN(h:p:=by rw[h1];rfl):p:=h
theorem RO(h:p:=by rw[h0];rfl):p:=h
theorem qL(h:p:=by rw[HA.out,hal.out,hp];rfl):p:=h
theorem PX(h:p:=by rw[h];simp):p:=h
theorem aD(h:p:=by rw[HX.out];exact C0 (K9 hmm.symm)):p:=h
theorem DQ(h:p:=by have:=hx5.size;exact D7):p:=h
theorem nI(h:p:=by rw[<-hDB,S9];have:=HTS.out;omega):p:=h
theorem OA(h:p:=by simpa using h4):p:=h
theorem OB(h:p:=by simpa using h5):p:=h
theorem rM(h:p:=by rw[M1,X2,Zd];omega):p:=h
theorem aE(h:p:=by rw[HX.out];exact D0 (G6 hmm.symm)):p:=h
theorem LK(h:p:=by rw[hr];exact h):p:=h
theorem DL(h:p:=by rw[<-HRL.out];exact hi):p:=h
theorem AY(h:p:=by rw[<-HTL.out,Ea.bS_of]):p:=h
theorem uN(h:p:=by rw[<-Rn.sum_app,J7,<-HSS.out]):p:=h
theorem bB(h:p:=by rw[<-hS,M1,X2];omega):p:=h
theorem oP(h:p:=by rw[UE];simp[Cd.fits,Cd.size];omega):p:=h
theorem sJ(h:p:=by rw[HPP.out,P3];exact HR0.out.ext hx2):p:=h
theorem JU(h:p:=by rw[h1];decide):p:=h
theorem eU(h:p:=by simp[results,results218,go_sem,p0,p1,p2,p3]):p:=h
theorem iL(h:p:=by have:=HCL.out l (J1 hlj);omega):p:=h
theorem ES(h:p:=by rw[HWL.out];exact hlt):p:=h
theorem eH(h:p:=by rw[HR4.out,HV.out,I4];simp[Cc.valsGo]):p:=h
theorem AO(h:p:=by have:=HCR.out.2;omega):p:=h
theorem aK(h:p:=by unfold halv;rw[C0 (fun h=>h g1),D0 g2]):p:=h
theorem eT(h:p:=by unfold maxLen;rw[S9];omega):p:=h
theorem lF(h:p:=by have h:=ho rfl;injection h with h;rw[HD.out,h]):p:=h
theorem pF(h:p:=by intro h;have:=h.2;rw[HGQ.out]at this;exact NR):p:=h
theorem gI(h:p:=by rw[HA.out,hal.out];unfold Cd.isDig;simp;omega):p:=h
theorem CN(h:p:=by rw[HR.out,D0 he]):p:=h
theorem AS(h:p:=by rw[I.size];exact hin):p:=h
theorem xI(h:p:=by rw[Y0];omega):p:=h
theorem jI(h:p:=by rw[show 2*(j+1+1)=2*(j+1)+1+1 by omega];rfl):p:=h
theorem eZ(h:p:=by rw[KJ hxk,VD];simp):p:=h
theorem iQ(h:p:=by rw[HR.out,HTA.out,C0 (fun h=>hre0 h.2)]):p:=h
theorem lZ(h:p:=by rw[Zk4 HG0.out];exact Bool.noConfusion):p:=h
theorem mH(h:p:=by rw[M1,X2];omega):p:=h
theorem rD(h:p:=by rw[J0,HDL.out,Zd];omega):p:=h
theorem fJ(h:p:=by rw[X2];have:=HTL.out.1;omega):p:=h
theorem iR(h:p:=by rw[HR.out,HTA.out,C0 (fun h=>hme h.1)]):p:=h
theorem mO(h:p:=by rw[HT4.out,HRB.out,l1,l2,q2,l3,l4,q4];rfl):p:=h
theorem wH(h:p:=by intro h;exact absurd h.2 Bool.noConfusion):p:=h
theorem yG(h:p:=by rw[ZF s k hlt];unfold Cd.c39;simp):p:=h
theorem uH(h:p:=by rw[UH ws j hlt,E3];rfl):p:=h
theorem bM(h:p:=by rw[Zz hLj,Rn.sum_snoc,<-HT.out]):p:=h
theorem cQ(h:p:=by rw[show k+1+i=k+(i+1) by omega];exact hf):p:=h
theorem dT(h:p:=by rw[X2];exact K0 _):p:=h
theorem lK(h:p:=by unfold Addr.add World.cell?;split<;>simp):p:=h
theorem KF(h:p:=by rw[X1 A6];exact hx):p:=h
theorem cU(h:p:=by rw[SX];intro j hj;have hjm:=M4.1 hj;have:=hf j hjm;rw[U0]at this⊢;rw[YZ B0,hlen,show m-1-(m-1-j)=j by omega];exact this):p:=h
theorem yI(h:p:=by obtain⟨n,hn⟩:∃n:Nat,Cd.c39 s.data.toList%43=(n:Int):=⟨(Cd.c39 s.data.toList%43).toNat,by omega⟩;simp only[Cd.cmp,hn];exact wY n B0):p:=h
theorem nK(h:p:=by rw[HP2.out,HS6.out nJ,C0 L0];dsimp only;rw[W5];congr 2;have:=HE.out;have:=HK2.out;omega):p:=h
theorem vI(h:p:=by rw[U0,M0 RM];rfl):p:=h
theorem lR(h:p:=by rw[<-HX2.out,C0 (fun h=>absurd h.1 I0)]):p:=h
theorem fP(h:p:=by rw[<-hall.out,X1 PP]):p:=h
theorem iC(h:p:=by rw[HR1.out,C0];(·rfl);·rw[UD,KO];intro x hx;have:=HB.out x KF;simp;omega):p:=h
theorem fU(h:p:=by rw[HD.out,KO];intro x hx;rw[HB.out x KF];simp):p:=h
def A0:=@Lib.hid
def C0:=@if_neg
def M0:=@List.getElem?_eq_getElem
def D0:=@if_pos
def J0:=@List.length_map
def N0:=@beq_eq_false_iff_ne
def K0:=@Nat.le_refl
def U0:=@List.getD_eq_getElem?_getD
def T0:=@List.length_append
def I1:=@List.getElem?_eq_some_iff
def O0:=@Nat.zero_le
def V1:=@List.setIfInBounds_toArray
def J1:=@List.mem_of_getElem?
def V0:=@decide_eq_true
def X0:=@decide_eq_false
def D1:=@List.length_cons
def X1:=@List.take_of_length_le
def L1:=@List.set_cons_zero
def N1:=@List.set_cons_succ
def F1:=@List.foldl_cons
def P0:=@congrFun
def M1:=@List.length_take
def Y1:=@decide_eq_true_eq
def E1:=@bodyPost_ret
def R0:=@congrArg
def U1:=@List.all_eq_true
def G2:=@Nat.lt_of_lt_of_le
def B3:=@List.getElem?_cons_zero
def V2:=@List.mem_cons_of_mem
def Y0:=@beq_iff_eq
def O1:=@List.foldl_nil
def I2:=@Option.some.injEq
def N2:=@List.mem_cons_self
def O3:=@Array.getElem?_eq_some_iff
def C2:=@Lib.toList_data
def J2:=@List.getElem?_map
def D3:=@List.length_replicate
def M2:=@Bool.and_eq_true
def L4:=@List.eq_nil_of_length_eq_zero
def X2:=@List.length_drop
def L2:=@heap_alloc_new
def Y3:=@ByteArray.data_append
def J3:=@List.cons_append
def M3:=@List.append_assoc
def E3:=@List.map_append
def K4:=@Int.eq_ofNat_of_zero_le
def U3:=@List.mem_singleton
def D4:=@List.length_reverse
def F4:=@Array.toList_append
def G4:=@List.mem_of_mem_take
def C5:=@List.drop_eq_getElem_cons
def P3:=@List.append_nil
def I3:=@List.map_take
def D5:=@List.getElem?_cons_succ
def T3:=@IntWalk.i64_in
def C4:=@Bool.eq_iff_iff
def N3:=@Prod.mk.injEq
def R3:=@List.map_drop
def V3:=@List.mem_cons
def O5:=@List.drop_of_length_le
def C3:=@bne_iff_ne
def B4:=@Nat.le_trans
def O4:=@List.length_nil
def M4:=@List.mem_range
def A4:=@Nat.le_succ
def N5:=@List.replicate_succ
def R4:=@UInt8.toNat_inj
def L5:=@Decidable.not_not
def V8:=@List.take_succ_eq_append_getElem
def I4:=@Nat.sub_self
def E5:=@List.getElem_map
def T5:=@List.reverse_append
def V4:=@bodyPost_ret_by
def B5:=@List.mem_append
def O7:=@List.getElem?_append_left
def J5:=@List.take_length
def B6:=@Joins.block_setCell
def H6:=@Decidable.of_not_not
def F7:=@List.reverse_replicate
def M6:=@List.mem_of_mem_drop
def P5:=@List.nil_append
def P4:=@Nat.lt_or_ge
def U5:=@World.ownsRow.lt
def Y5:=@Int.toNat_natCast
def M9:=@List.getElem?_append_right
def O9:=@Int.tdiv_eq_ediv_of_nonneg
def J7:=@List.take_append_drop
def T4:=@Nat.zero_add
def T6:=@List.length_pos_iff
def Y4:=@Nat.add_zero
def I5:=@List.map_cons
def G6:=@of_decide_eq_true
def W6:=@List.getElem?_take
def R5:=@List.drop_zero
def W5:=@List.drop_drop
def N6:=@List.take_add_one
def O6:=@List.length_range
def S9:=@ByteArray.size_extract
def D6:=@wp_region_quiet
def U6:=@List.length_set
def X6:=@Nat.min_eq_left
def YC:=@Array.getElem?_eq_none
def YH:=@List.getElem?_set_self
def F8:=@List.flatMap_cons
def YJ:=@List.getElem?_eq_none
def YS:=@List.length_singleton
def YZ:=@List.getElem?_reverse
def B7:=@Bool.or_eq_true
def K9:=@of_decide_eq_false
def WB:=@decide_eq_false_iff_not
def YI:=@List.getElem?_set_ne
def D8:=@List.not_mem_nil
def YT:=@Bool.or_eq_false_iff
def Y8:=@List.reverse_cons
def V5:=@info_parts
def W7:=@Nat.not_lt_zero
def VX:=@World.cell?_setCell_other
def WF:=@ByteArray.size_append
def SU:=@List.take_append_of_le_length
def E6:=@wpQuiet_nil
def T7:=@Int.mul_nonneg
def N8:=@Bool.false_and
def YG:=@List.all_eq_false
def W4:=@if_true
def C7:=@Nat.sub_zero
def VO:=@Option.map_eq_some_iff
def E7:=@List.mem_map
def G7:=@List.map_map
def YP:=@List.ext_getElem
def YW:=@List.any_eq_true
def S8:=@Int.mul_le_mul
def XI:=@World.ownsRow.kept
def VY:=@Array.getElem?_modify
def XT:=@Nat.lt_or_eq_of_le
def WG:=@Bool.false_eq_true
def KZ:=@Array.getElem?_setIfInBounds_ne
def YF:=@Option.map_some
def VT:=@List.replicate_succ'
def XQ:=@List.ext_getElem?
def XU:=@Nat.le_of_lt_succ
def G9:=@run_make_row'
def VC:=@List.drop_succ_cons
def VD:=@List.flatMap_append
def UR:=@List.replicate_zero
def PC:=@run_convert_int_string
def PT:=@MapKept.run_getObj_map
def B9:=@List.map_nil
def VR:=@Nat.add_sub_cancel
def SI:=@List.getElem?_toArray
def RQ:=@UInt8.le_iff_toNat_le
def WL:=@Int.ediv_nonneg
def VG:=@wpList_append_own
def UE:=@Bool.not_eq_false
def ON:=@List.isEmpty_eq_false_iff
def OZ:=@List.mem_of_find?_eq_some
def PI:=@List.count_le_length
def U8:=@Below.trans
def A9:=@Nat.mul_one
def XR:=@run_underlying
def XV:=@List.take_zero
def WM:=@List.mapM_cons
def R6:=@if_false
def UD:=@Bool.not_eq_true
def UI:=@World.rowIs_made
def UP:=@World.size_alloc
def JB:=@Option.isSome_iff_exists
def TZ:=@List.getD_cons_zero
def SC:=@Array.length_toList
def SJ:=@List.getElem?_range
def SV:=@List.take_succ_cons
def PK:=@List.map_congr_left
def ND:=@List.getElem?_replicate
def WH:=@Bool.true_and
def VE:=@List.cons.injEq
def SH:=@Nat.eq_zero_or_pos
def VP:=@List.find?_some
def RK:=@List.getElem?_drop
def RX:=@List.map_replicate
def KP:=@List.head?_eq_getElem?
def qE:=@List.count_eq_zero_of_not_mem
def SF:=@Result.andThen_ok
def JZ:=@List.dropLast_concat_getLast
def VH:=@Nat.mul_le_mul
def UC:=@List.take_take
def MY:=@List.set_append_right
def FA:=@Array.getD_eq_getD_getElem?
def BB:=@Array.getElem_setIfInBounds
def SR:=@List.mem_reverse
def NB:=@List.getElem?_of_mem
def NC:=@List.reverse_reverse
def E8:=@or_false
def NZ:=@World.cell?_alloc_lt
def TF:=@AllReady.cons
def CA:=@List.findIdx?_eq_none_iff
def X8:=@and_true
def OT:=@Bool.true_eq_false
def KW:=@List.find?_eq_none
def XE:=@Below.refl
def RE:=@List.drop_take
def GX:=@Nat.add_sub_cancel_left
def EH:=@List.append_cancel_left
def OF:=@World.ownsRow_nil
def NF:=@World.rowIs_alloc
def KO:=@List.any_eq_false
def JF:=@Bool.not_eq_true'
def vP:=@Array.setIfInBounds_setIfInBounds
def TM:=@getD_set_ne
def AX:=@MapKept.run_setObj_map
def LR:=@Int.ediv_le_self
def LT:=@Lib.cell_of_heap
def KH:=@List.drop_length
def XC:=@Prod.ext
def JX:=@List.countP_cons
def EN:=@UInt8.lt_iff_toNat_lt
def EU:=@Array.getElem?_toList
def SE:=@Sem.run_pure
def NA:=@List.nodup_cons
def NY:=@List.range_succ
def MJ:=@Option.some.inj
def UO:=@Nat.mod_lt
def LG:=@run_loadVar_row
def vC:=@List.drop_append_of_le_length
def GE:=@World.grownBy_alloc
def BC:=@List.getElem_append
def GG:=@Option.isSome_none
def GH:=@Option.isSome_some
def GO:=@Array.ext_getElem?
def jG:=@Lib.run_convert_bytes_const
def UT:=@Array.ext
def CK:=@Lib.frozen_of_heap
def TD:=@mem_ready
def qF:=@List.count_pos_iff
def MW:=@run_make_full
def LI:=@List.all_cons
def LV:=@Nat.lt_irrefl
def JY:=@Nat.lt_trichotomy
def qU:=@List.getElem_drop
def OH:=@Sem.run_bind
def GT:=@List.getElem_mem
def NG:=@results_none
def NX:=@Nat.mul_zero
def MO:=@UInt8.not_lt
def MU:=@callsIn_wide
def LQ:=@Int.le_trans
def CI:=@Oper.upon_value
def BE:=@List.all_append
end Go.Proofs
