/-
  Closing scripts that stand more than once in the texts of this claim, by name, and short names of theorems.
-/
import Derived.Conc.MuData
import Derived.Conc.MuLone
import Derived.Conc.RwLib
import Derived.Deep.DeepWitnessRowRef
import Derived.Deep.Grids
import Derived.Deep.RegionHeld3
import Derived.Deep.WholeRow
import Derived.LaidMore
import Derived.LaidSub
import Derived.Laws.AppendOwnNone
import Derived.Laws.CopyOwn
import Derived.Laws.EntriesVeiled
import Derived.Lib.SmallJoins
import Derived.LoopIn
import Derived.LoopNIn
import Derived.OwnWalkIn
import Derived.RangeFuncNested
import Derived.Shelf.Slices.Turned
import Derived.Shelf.Small.Strs
import Derived.Shelf.Small.Wraps
import Derived.Shelf.Strconv.Itoa3
import Derived.Shelf.Strings.BuilderK
import Derived.Shelf.Strings.OnBuilder
import Derived.Shelf.Strings.Repeat
import Derived.Shelf.Strings.Shaped
import Derived.Shelf.Strings.SplitShaped
import Derived.Shelf.Unicode.ExclAny
import Derived.Shelf.Unicode.IsSpaceAny
import Derived.Sort.QuietTacIn
import Derived.Test.YtbngggoccndefaaGreatDoorProg
import Derived.Test.YtbngggoccndefaaGreatDoorRows
import Derived.WalkLawsBesides
import Derived.WalkSpells
import Derived.WideKeyEntry
set_option maxRecDepth 100000
set_option linter.unusedVariables false
set_option linter.defProp false
namespace Go.Proofs
open Go.RowKit
theorem Qa{p:Prop}(h:p:=by
 intro V w' hx hf;with_reducible refine relAt_ops ?_
 intro A ρ hA hρ hcst hfun;have h0:ρ (.tmp 0)=.slice a m.length c:=(Znf hρ _).trans (evalMiss hA 0 rfl);exact Qhw):p:=h
theorem Qb{p:Prop}(h:p:=by rw[<-hn5]at hown5⊢;rw[<-HRW.out]at hg5;have HB:w5.heap[w.heap.size]? =some (.cells #[_,.bool false,.slice a n c] 278 (0,0)):=GB.heap hg5 (Zd (ZaS w _ _ _).1 ((Ext.refl _).alloc _)) HNE.out;have HR:w5.heap[w.heap.size+1]? =some (.cells #[.int .i64 0,.bool false,.slice none 0 0] 278 (0,0)):=GB.heap hg5 (Zd (ZaS w _ _ _).2 ((Ext.refl _).alloc _)) HNE1.out;have hG:GB row w w5:=GB.trans (GB.ext Xf) hg5;obtain⟨e0,e1,e2,e3,e4,e5,e6,e7⟩:=Zf HB;obtain⟨f0,f1,f2,f3,f4,f5,f6,f7⟩:=Zf HR;have HOW:=ZmE hown5;have HGG:=ZmE hG;have HBB:=ZmE HB;have HN5:=ZmE hn5;clear hown5 hG HB HR hg5 hn5;go_wp2_with fail;refine Zng (ZaJ results261 rfl (Zg (ZmE (Zq QhN f7.out))) rfl) rfl ?_;rw[HF.out,HPS.out];exact ZlI (by rw[HN5.out,HN.out]) rfl HGG.out HOW.out HBB.out f7.out):p:=h
theorem Qc{p:Prop}(h:p:=by
 subst h0;rw[ZmF (fun h=>h rfl)]at HX;by_cases ha0:a=0;·have HG:Hid (res=((k,t,[]),0)):=ZmE (by rw[<-HX.out,ZmH ha0]);have hb0:((a:Int)==0)=true:=(by rw[ha0];rfl);clear HX HAW HAE ha ha0;go_enter func139,ntmps139;go_wp2_with fail;refine(HS.out _).mono ?_;rintro e w1 ⟨rfl,hx⟩;obtain⟨z0,z1,z2,z3,z4,z5,z6,HB⟩:=Zf (Zo rfl hx.before);obtain⟨y0,y1,y2,y3,y4,y5,y6,HC⟩:=Zf (Zo (Zpt _ _) hx);have hxw:=hx.before.before;clear hx;go_wp2;refine Zng (Ze results139 rfl (Zg (ZaY QhN HB)) rfl) rfl ?_;have HXX:=(((hxw.setCell (p:=⟨w.heap.size+1,0,none⟩) (ZnI _) (.int .i64 k)).setCell (p:=⟨w.heap.size+1,1,none⟩) (ZnI _) (.string T)).setCell (p:=⟨w.heap.size+1,2,none⟩) (ZnI _) (.string ⟨#[]⟩));exact QgH
 ·have HAE2:=ZmE (HAE.out ha0);rw[ZmF ha0]at HX;have hb0:((a:Int)==0)=false:=Qai;clear HAE ha ha0;have hsub:(s.size:Int)-(W:Int)=((s.size-W:Nat):Int):=QhN;obtain⟨g,hg⟩:∃g,s.size-W=g:=⟨_,rfl⟩;rw[hg]at hsub HAE2;have hgs:g<=s.size:=QhN;clear hg;by_cases hae:ae=0;(·subst hae;have HG:Hid (res=((k,t,al),0)):=ZmE (by rw[<-HX.out,ZmF (fun h=>h rfl)]);clear HX;go_enter func139,ntmps139;go_wp2_with fail;refine(HS.out _).mono ?_;rintro e w1 ⟨rfl,hx⟩;obtain⟨z0,z1,z2,z3,z4,z5,z6,HB⟩:=Zf (Zo rfl hx.before);obtain⟨y0,y1,y2,y3,y4,y5,y6,HC⟩:=Zf (Zo (Zpt _ _) hx);have hxw:=hx.before.before;clear hx;go_wp2_with fail;refine(HAW.out _).mono ?_;rintro e w2 ⟨rfl,rfl⟩;go_wp2_with fail;refine(HAE2.out _).mono ?_;rintro e w3 ⟨rfl,hx3⟩;obtain⟨u0,u1,u2,u3,u4,u5,u6,HB3⟩:=Zf (Zd (ZaY (show w.heap.size+1≠w.heap.size by omega) HB).out hx3);obtain⟨v0,v1,v2,v3,v4,v5,v6,HC3⟩:=Zf (Zd (Zg HC) hx3);have HXX:=ZmE ((((hxw.setCell (p:=⟨w.heap.size+1,0,none⟩) (ZnI _) (.int .i64 k)).setCell (p:=⟨w.heap.size+1,1,none⟩) (ZnI _) (.string T)).setCell (p:=⟨w.heap.size+1,2,none⟩) (ZnI _) (.string (Ea.bS []))).trans hx3);clear z0 z1 z2 z3 z4 z5 z6 HB y0 y1 y2 y3 y4 y5 y6 HC hxw hx3;go_wp2;refine Zng (Ze results139 rfl (Zg (ZmE (Zq (show w.heap.size+1≠w.heap.size by omega) HB3.out))) rfl) rfl ?_;have HXY:=HXX.out.setCell (p:=⟨w.heap.size+1,2,none⟩) (ZnI _) (.string AL);exact⟨by rw[HG.out];unfold gotV linV;dsimp only;rw[HT.out,HAL.out];rfl,((HXY.setCell (ZmK _) _).setCell (ZmK _) _).setCell (ZmK _) _⟩);·have HG:Hid (res=((0,[],[]),ae)):=ZmE (by rw[<-HX.out,ZmH hae]);have hbe:(ae !=0)=true:=ZnA.2 hae;clear HX hae;go_enter func139,ntmps139;go_wp2_with fail;refine(HS.out _).mono ?_;rintro e w1 ⟨rfl,hx⟩;obtain⟨z0,z1,z2,z3,z4,z5,z6,HB⟩:=Zf (Zo rfl hx.before);obtain⟨y0,y1,y2,y3,y4,y5,y6,HC⟩:=Zf (Zo (Zpt _ _) hx);have hxw:=hx.before.before;clear hx;go_wp2_with fail;refine(HAW.out _).mono ?_;rintro e w2 ⟨rfl,rfl⟩;go_wp2_with fail;refine(HAE2.out _).mono ?_;rintro e w3 ⟨rfl,hx3⟩;obtain⟨u0,u1,u2,u3,u4,u5,u6,HB3⟩:=Zf (Zd (ZaY (show w.heap.size+1≠w.heap.size by omega) HB).out hx3);obtain⟨v0,v1,v2,v3,v4,v5,v6,HC3⟩:=Zf (Zd (Zg HC) hx3);have HXX:=ZmE ((((hxw.setCell (p:=⟨w.heap.size+1,0,none⟩) (ZnI _) (.int .i64 k)).setCell (p:=⟨w.heap.size+1,1,none⟩) (ZnI _) (.string T)).setCell (p:=⟨w.heap.size+1,2,none⟩) (ZnI _) (.string (Ea.bS []))).trans hx3);clear z0 z1 z2 z3 z4 z5 z6 HB y0 y1 y2 y3 y4 y5 y6 HC hxw hx3;go_wp2;refine Zng (Ze results139 rfl (Zg (ZmE (Zq (show w.heap.size+1≠w.heap.size by omega) HB3.out))) rfl) rfl ?_;have HXY:=HXX.out.setCell (p:=⟨w.heap.size+1,2,none⟩) (ZnI _) (.string AL);exact⟨by rw[HG.out];rfl,((HXY.setCell (ZmK _) _).setCell (ZmK _) _).setCell (ZmK _) _⟩):p:=h
theorem Qd{p:Prop}(h:p:=by
 have HKK:=ZmE (And.intro hlt hk1);clear hx hy hz hz2 hq2;by_cases g2:(m.drop (11+9*(k-1))).take 2=Ea.gA;·rw[ZmR g2]at HE2;have HG1:Hid (∀i,i+1<k+1->(m.drop (11+9*i)).take 2=Ea.gA):=ZmE (fun i hi=>by rcases ZnY (i+1) k with h|h;(·exact HG0.out i h);·obtain rfl:i=k-1:=QhN;exact g2);clear g2 HG0;go_wp2_with fail;refine wp_region_rel 11 1 rfl [21,22,23,24,25,26,27,28,29,30,31] [[],[],[1],[2],[3],[],[5],[6],[0,4,7],[],[8,9]] QhO QhO ?_;apply relPlan_eq';(·exact Qa);apply relPlan_eq';(·exact Q5);apply relPlan_eq';(·exact QaK);apply relPlan_eq';(·exact QaJ);apply relPlan_eq';(·exact QaI);apply relPlan_eq';(·exact Q5);apply relPlan_eq';(·exact QaH);apply relPlan_eq';(·exact QaG);apply relPlan_eq';(·exact Qac);refine relPlan_by (fun v w=>Own 4 w 0 v (Ea.gA.map encT)) (fun _ _ _ h hx=>h.ext hx) ?_ ?_;(·exact Qr);refine relPlan_by (eqv (.bool true)) (eqv_stable _) ?_ ?_;(·exact Qad);intro V wT hxT hf;obtain⟨g21,g22,g23,g24,g25,g26,g27,g28,g29,g30,g31,_⟩:=hf;simp only[fillA,ZmX,Zni,Act.put,ZmO,ZmV,ZmU];have q31:V 31=_:=g31;rw[q31];have HW2:=ZmE (HW.out.trans hxT);refine Za 11 QhO rfl (fun K hK=> ?_);go_simp;refine hK _ _ ?_;clear hK K;refine⟨rfl,?_⟩;clear HW;have HW:=HW2;clear HW2;go_wp2;go_roundw;(case rel=>exact⟨k+1,by omega,by have:=HKK.out.1;omega,by go_num,HG1,HW⟩);case measure=>have:=HKK.out.1;exact Q8
 ·rw[ZmS g2]at HE2;have HG:Hid (res=([],18)):=ZmE (by rw[<-HX.out,ZmH (Zhk (by have:=HKK.out;omega) g2)]);clear g2;go_wp2_with fail;refine wp_region_rel 11 1 rfl [21,22,23,24,25,26,27,28,29,30,31] [[],[],[1],[2],[3],[],[5],[6],[0,4,7],[],[8,9]] QhO QhO ?_;apply relPlan_eq';(·exact Qa);apply relPlan_eq';(·exact Q5);apply relPlan_eq';(·exact QaK);apply relPlan_eq';(·exact QaJ);apply relPlan_eq';(·exact QaI);apply relPlan_eq';(·exact Q5);apply relPlan_eq';(·exact QaH);apply relPlan_eq';(·exact QaG);apply relPlan_eq';(·exact Qac);refine relPlan_by (fun v w=>Own 4 w 0 v (Ea.gA.map encT)) (fun _ _ _ h hx=>h.ext hx) ?_ ?_;(·exact Qr);refine relPlan_by (eqv (.bool false)) (eqv_stable _) ?_ ?_;(·exact Qad);intro V wT hxT hf;obtain⟨g21,g22,g23,g24,g25,g26,g27,g28,g29,g30,g31,_⟩:=hf;simp only[fillA,ZmX,Zni,Act.put,ZmO,ZmV,ZmU];have q31:V 31=_:=g31;rw[q31];have HW2:=ZmE (HW.out.trans hxT);refine Za 11 QhO rfl (fun K hK=> ?_);go_simp;refine hK _ _ ?_;clear hK K;refine⟨rfl,?_⟩;clear HW;have HW:=HW2;clear HW2;go_wp2;go_ret2;exact⟨by rw[HG.out];rfl,HW.out⟩):p:=h
theorem Qe{p:Prop}(h:p:=by
 go_enter func220,ntmps220;go_wp2_with fail;refine wp_region_rel 4 1 rfl [25,26,27,28] [[],[0],[],[1,2]] QhO QhO ?_;apply relPlan_eq';·exact Qa
 apply relPlan_eq';·exact Qt
 refine relPlan_by (fun v w=>Own 4 w 0 v (Ea.gd.map encT)) (fun _ _ _ h hx=>h.ext hx) ?_ ?_;·exact Qr
 refine relPlan_by (eqv (.bool true)) (eqv_stable _) ?_ ?_;·exact Qg
 intro V wT hxT hf;obtain⟨g25,g26,g27,g28,_⟩:=hf;simp only[fillA,ZmX,Zni,Act.put,ZmO,ZmV,ZmU];have q28:V 28=_:=g28;rw[q28];have HW2:=ZmE (HW.out.trans hxT);refine Za 4 QhO rfl (fun K hK=> ?_);go_simp;refine hK _ _ ?_;clear hK K;refine⟨rfl,?_⟩;clear HW;have HW:=HW2;clear HW2;go_wp2_with fail;refine wp_region_rel 9 1 rfl [30,31,32,33,34,35,36,37,38] [[],[],[],[2],[1,3],[0,4],[],[6],[5,7]] QhO QhO ?_;apply relPlan_eq';·exact Qa
 apply relPlan_eq';·exact Qw
 apply relPlan_eq';·exact Qj
 apply relPlan_eq';·exact Qy
 apply relPlan_eq';·exact Ql
 apply relPlan_eq';·exact Qm
 apply relPlan_eq';·exact Qj
 refine relPlan_by (fun v w=>Own 4 w 0 v (Ea.gd.map encT)) (fun _ _ _ h hx=>h.ext hx) ?_ ?_;·exact Qo
 refine relPlan_by (eqv (.bool true)) (eqv_stable _) ?_ ?_;·exact Qi
 intro V wT hxT hf;obtain⟨g30,g31,g32,g33,g34,g35,g36,g37,g38,_⟩:=hf;simp only[fillA,ZmX,Zni,Act.put,ZmO,ZmV,ZmU];have q38:V 38=_:=g38;rw[q38];have HW2:=ZmE (HW.out.trans hxT);refine Za 9 QhO rfl (fun K hK=> ?_);go_simp;refine hK _ _ ?_;clear hK K;refine⟨rfl,?_⟩;clear HW;have HW:=HW2;clear HW2;go_wp2_with fail;refine(HRL.out _ HW.out).mono ?_;rintro e w5 ⟨rfl,hx5⟩;have HW2:=ZmE (HW.out.trans hx5);clear HW hx5;have HW:=HW2;clear HW2;go_wp2_with fail;refine(HRR.out _ HW.out).mono ?_;rintro e w5 ⟨rfl,hx5⟩;have HW2:=ZmE (HW.out.trans hx5);clear HW hx5;have HW:=HW2;clear HW2;go_wp2_with fail;refine wp_region_rel 4 14 rfl [76,77,78,79] [[],[0],[],[1,2]] QhO QhO ?_;apply relPlan_eq';·exact Qa
 apply relPlan_eq';·exact Qaa
 refine relPlan_by (fun v w=>Own 4 w 0 v (Ea.md.map encT)) (fun _ _ _ h hx=>h.ext hx) ?_ ?_;·exact QN
 refine relPlan_by (eqv (.bool true)) (eqv_stable _) ?_ ?_;·exact QL
 intro V wT hxT hf;obtain⟨g76,g77,g78,g79,_⟩:=hf;simp only[fillA,ZmX,Zni,Act.put,ZmO,ZmV,ZmU];have q79:V 79=_:=g79;rw[q79];have HW2:=ZmE (HW.out.trans hxT);refine Za 4 QhO rfl (fun K hK=> ?_);go_simp;refine hK _ _ ?_;clear hK K;refine Za 5 QhO rfl (fun K hK=> ?_);go_simp;refine hK _ _ ?_;clear hK K;refine Za 6 QhO rfl (fun K hK=> ?_);go_simp;refine hK _ _ ?_;clear hK K;refine Za 7 QhO rfl (fun K hK=> ?_);go_simp;refine hK _ _ ?_;clear hK K;refine Za 8 QhO rfl (fun K hK=> ?_);go_simp;refine hK _ _ ?_;clear hK K;refine Za 9 QhO rfl (fun K hK=> ?_);go_simp;refine hK _ _ ?_;clear hK K;refine Za 10 QhO rfl (fun K hK=> ?_);go_simp;refine hK _ _ ?_;clear hK K;refine Za 11 QhO rfl (fun K hK=> ?_);go_simp;refine hK _ _ ?_;clear hK K;refine Za 12 QhO rfl (fun K hK=> ?_);go_simp;refine hK _ _ ?_;clear hK K;refine Za 13 QhO rfl (fun K hK=> ?_);go_simp;refine hK _ _ ?_;clear hK K;refine Za 14 QhO rfl (fun K hK=> ?_);go_simp;refine hK _ _ ?_;clear hK K;refine Za 15 QhO rfl (fun K hK=> ?_);go_simp;refine hK _ _ ?_;clear hK K;exact Qgk):p:=h
theorem Qf{p:Prop}(h:p:=by
 go_enter func220,ntmps220;go_wp2_with fail;refine wp_region_rel 4 1 rfl [25,26,27,28] [[],[0],[],[1,2]] QhO QhO ?_;apply relPlan_eq';·exact Qa
 apply relPlan_eq';·exact Qt
 refine relPlan_by (fun v w=>Own 4 w 0 v (Ea.gd.map encT)) (fun _ _ _ h hx=>h.ext hx) ?_ ?_;·exact Qr
 refine relPlan_by (eqv (.bool true)) (eqv_stable _) ?_ ?_;·exact Qg
 intro V wT hxT hf;obtain⟨g25,g26,g27,g28,_⟩:=hf;simp only[fillA,ZmX,Zni,Act.put,ZmO,ZmV,ZmU];have q28:V 28=_:=g28;rw[q28];have HW2:=ZmE (HW.out.trans hxT);refine Za 4 QhO rfl (fun K hK=> ?_);go_simp;refine hK _ _ ?_;clear hK K;refine⟨rfl,?_⟩;clear HW;have HW:=HW2;clear HW2;go_wp2_with fail;refine wp_region_rel 9 1 rfl [30,31,32,33,34,35,36,37,38] [[],[],[],[2],[1,3],[0,4],[],[6],[5,7]] QhO QhO ?_;apply relPlan_eq';·exact Qa
 apply relPlan_eq';·exact Qw
 apply relPlan_eq';·exact Qj
 apply relPlan_eq';·exact Qy
 apply relPlan_eq';·exact Ql
 apply relPlan_eq';·exact Qm
 apply relPlan_eq';·exact Qj
 refine relPlan_by (fun v w=>Own 4 w 0 v (Ea.gd.map encT)) (fun _ _ _ h hx=>h.ext hx) ?_ ?_;·exact Qo
 refine relPlan_by (eqv (.bool true)) (eqv_stable _) ?_ ?_;·exact Qi
 intro V wT hxT hf;obtain⟨g30,g31,g32,g33,g34,g35,g36,g37,g38,_⟩:=hf;simp only[fillA,ZmX,Zni,Act.put,ZmO,ZmV,ZmU];have q38:V 38=_:=g38;rw[q38];have HW2:=ZmE (HW.out.trans hxT);refine Za 9 QhO rfl (fun K hK=> ?_);go_simp;refine hK _ _ ?_;clear hK K;refine⟨rfl,?_⟩;clear HW;have HW:=HW2;clear HW2;go_wp2_with fail;refine(HRL.out _ HW.out).mono ?_;rintro e w5 ⟨rfl,hx5⟩;have HW2:=ZmE (HW.out.trans hx5);clear HW hx5;have HW:=HW2;clear HW2;go_wp2_with fail;refine(HRR.out _ HW.out).mono ?_;rintro e w5 ⟨rfl,hx5⟩;have HW2:=ZmE (HW.out.trans hx5);clear HW hx5;have HW:=HW2;clear HW2;go_wp2_with fail;refine wp_region_rel 4 9 rfl [113,114,115,116] [[],[0],[],[1,2]] QhO QhO ?_;apply relPlan_eq';·exact Qa
 apply relPlan_eq';·exact Qaq
 refine relPlan_by (fun v w=>Own 4 w 0 v (Ea.md.map encT)) (fun _ _ _ h hx=>h.ext hx) ?_ ?_;·exact QN
 refine relPlan_by (eqv (.bool true)) (eqv_stable _) ?_ ?_;·exact Q2
 intro V wT hxT hf;obtain⟨g113,g114,g115,g116,_⟩:=hf;simp only[fillA,ZmX,Zni,Act.put,ZmO,ZmV,ZmU];have q116:V 116=_:=g116;rw[q116];have HW2:=ZmE (HW.out.trans hxT);refine Za 4 QhO rfl (fun K hK=> ?_);go_simp;refine hK _ _ ?_;clear hK K;refine Za 5 QhO rfl (fun K hK=> ?_);go_simp;refine hK _ _ ?_;clear hK K;refine Za 6 QhO rfl (fun K hK=> ?_);go_simp;refine hK _ _ ?_;clear hK K;refine Za 7 QhO rfl (fun K hK=> ?_);go_simp;refine hK _ _ ?_;clear hK K;refine Za 8 QhO rfl (fun K hK=> ?_);go_simp;refine hK _ _ ?_;clear hK K;refine Za 9 QhO rfl (fun K hK=> ?_);go_simp;refine hK _ _ ?_;clear hK K;refine Za 10 QhO rfl (fun K hK=> ?_);go_simp;refine hK _ _ ?_;clear hK K;refine Za 11 QhO rfl (fun K hK=> ?_);go_simp;refine hK _ _ ?_;clear hK K;refine Za 12 QhO rfl (fun K hK=> ?_);go_simp;refine hK _ _ ?_;clear hK K;refine⟨rfl,?_⟩;clear HW;exact Qgt):p:=h
theorem Qg{p:Prop}(h:p:=by
 intro V w' hx hf;with_reducible refine relAt_ops ?_
 intro A ρ hA hρ hcst hfun;obtain⟨f26,f27,_⟩:=hf;have h26:ρ (.tmp 26)=_:=(Znf hρ _).trans ((evalHit hA 26 rfl).trans f26);have h27:ρ (.tmp 27)=V 27:=(Znf hρ _).trans (evalHit hA 27 rfl);simp[relUpon,go_sem,hfun,h26,h27];exact(HE1.out w' _ _ (HW.out.trans hx) f27).mono fun e w'' ⟨he,hy⟩=>⟨_,he,hy,rfl⟩):p:=h
theorem Qh{p:Prop}(h:p:=by
 obtain⟨qb,qe⟩:=q;clear HB he;by_cases hqe:qe=0;·subst hqe;by_cases hql:qb.length=pb.length;(·have dl:((qb.length:Int)==(pb.length:Int))=true:=(by rw[hql];simp);go_wp2_with fail;refine(HPT.out _).mono ?_;rintro e w2 ⟨qv,rfl,hqs,hx2⟩;dsimp only at hqs;obtain⟨a2,c2,rfl⟩:=hqs.1.form;rw[ZmI]at hqs⊢;have HQ:=ZmE hqs.1;have hxw2:=hxr.trans hx2;clear hqs hx2 hxr;go_wp2;go_loopw [9,8] (fun i s wr=>∃(j:Nat) (sb:Bool),j<=qb.length∧i=.int .i64 (j:Int)∧s=.bool sb∧Hid (sb=decide (qb.take j=pb.take j))∧Ext w wr∧Ext w2 wr) (fun i _ _=>qb.length-(intOf i).toNat);(case atStart=>exact⟨0,true,ZmP _,rfl,rfl,ZmE QhQ,hxw2,Ext.refl _⟩);case round=>clear hxw2;obtain⟨j,sb,hj,rfl,rfl,HSB,hxr,hxq⟩:=hrel;by_cases hjl:j<qb.length;(·cases sb;(·have hne:qb≠pb:=(by intro h;have:=HSB.out;rw[h]at this;simp at this);have HN2:=ZmE (HNX.out (fun h=>hne (Znb Prod.fst h)));clear hne;exact Qa1);·have heq:qb.take j=pb.take j:=(by simpa using HSB.out.symm);have HTS:=ZmE (ZgV qb pb j hjl QhN heq);obtain⟨b1,o1,hA,hb1,hcb⟩:=(HP.out.ext hxr).at_ (k:=j) QhR;obtain⟨b2,o2,hB,hb2,hcq⟩:=(HQ.out.ext hxq).at_ (k:=j) QhR;rw[ZnO]at hcb hcq;subst hA hB;simp only[encT]at hcb hcq;generalize qb[j]=x at*;generalize hpj:pb[j]' QhN=y at*;have dxy:((x==y):Bool)=(x==y):=rfl;clear heq hpj dxy;go_wp2;go_region;go_wp2;go_roundw;(case rel=>exact⟨j+1,_,by omega,by go_num,rfl,ZmE HTS.out.symm,by exact hxr.drewN _,by exact hxq.drewN _⟩);case measure=>exact Q8);·obtain rfl:j=qb.length:=QhN;have hsb:sb=decide (qb=pb):=(by have:=HSB.out;rw[ZnN,hql,ZnN]at this;exact QeN);clear hj hjl HSB;cases sb;(·have HN2:=ZmE (HNX.out (fun h=>by have h1:qb=pb:=Znb Prod.fst h;rw[h1]at hsb;simp at hsb));clear hsb;exact Qa1);·have HRS:=ZmE (HHT.out (by rw[show qb=pb by simpa using hsb.symm]));clear hsb;go_wp2;go_ret;exact⟨Zt HRS.out.symm,hxr⟩);·have dl:((qb.length:Int)==(pb.length:Int))=false:=Qai;have HN2:=ZmE (HNX.out (fun h=>hql (Znb (fun z=>z.1.length) h)));clear hql;exact QG
 ·have dq:(qe==0)=false:=(by rw[ZmJ];exact hqe);have HN2:=ZmE (HNX.out (fun h=>hqe (Znb Prod.snd h)));clear hqe;exact QG):p:=h
theorem Qi{p:Prop}(h:p:=by
 intro V w' hx hf;with_reducible refine relAt_ops ?_
 intro A ρ hA hρ hcst hfun;obtain⟨f35,f37,_⟩:=hf;have h35:ρ (.tmp 35)=_:=(Znf hρ _).trans ((evalHit hA 35 rfl).trans f35);have h37:ρ (.tmp 37)=V 37:=(Znf hρ _).trans (evalHit hA 37 rfl);simp[relUpon,go_sem,hfun,h35,h37];exact(HE2.out w' _ _ (HW.out.trans hx) f37).mono fun e w'' ⟨he,hy⟩=>⟨_,he,hy,rfl⟩):p:=h
theorem Qj{p:Prop}(h:p:=by
 intro V w' hx hf;with_reducible refine relAt_ops ?_
 intro A ρ hA hρ hcst hfun;have h6:ρ (.tmp 6)=.string ⟨#[49,48,49]⟩:=(Znf hρ _).trans (evalMiss hA 6 rfl);exact QgY):p:=h
theorem Qk{p:Prop}(h:p:=by
 go_enter func220,ntmps220;go_wp2_with fail;refine wp_region_rel 4 1 rfl [25,26,27,28] [[],[0],[],[1,2]] QhO QhO ?_;apply relPlan_eq';·exact Qa
 apply relPlan_eq';·exact Qt
 refine relPlan_by (fun v w=>Own 4 w 0 v (Ea.gd.map encT)) (fun _ _ _ h hx=>h.ext hx) ?_ ?_;·exact Qr
 refine relPlan_by (eqv (.bool true)) (eqv_stable _) ?_ ?_;·exact Qg
 intro V wT hxT hf;obtain⟨g25,g26,g27,g28,_⟩:=hf;simp only[fillA,ZmX,Zni,Act.put,ZmO,ZmV,ZmU];have q28:V 28=_:=g28;rw[q28];have HW2:=ZmE (HW.out.trans hxT);refine Za 4 QhO rfl (fun K hK=> ?_);go_simp;refine hK _ _ ?_;clear hK K;refine⟨rfl,?_⟩;clear HW;have HW:=HW2;clear HW2;go_wp2_with fail;refine wp_region_rel 9 1 rfl [30,31,32,33,34,35,36,37,38] [[],[],[],[2],[1,3],[0,4],[],[6],[5,7]] QhO QhO ?_;apply relPlan_eq';·exact Qa
 apply relPlan_eq';·exact Qw
 apply relPlan_eq';·exact QO
 apply relPlan_eq';·exact Qy
 apply relPlan_eq';·exact Ql
 apply relPlan_eq';·exact Qm
 apply relPlan_eq';·exact QO
 refine relPlan_by (fun v w=>Own 4 w 0 v (Ea.eE.map encT)) (fun _ _ _ h hx=>h.ext hx) ?_ ?_;·exact Qo
 refine relPlan_by (eqv (.bool true)) (eqv_stable _) ?_ ?_;·exact Qi
 intro V wT hxT hf;obtain⟨g30,g31,g32,g33,g34,g35,g36,g37,g38,_⟩:=hf;simp only[fillA,ZmX,Zni,Act.put,ZmO,ZmV,ZmU];have q38:V 38=_:=g38;rw[q38];have HW2:=ZmE (HW.out.trans hxT);refine Za 9 QhO rfl (fun K hK=> ?_);go_simp;refine hK _ _ ?_;clear hK K;refine⟨rfl,?_⟩;clear HW;have HW:=HW2;clear HW2;go_wp2_with fail;refine(HRL.out _ HW.out).mono ?_;rintro e w5 ⟨rfl,hx5⟩;have HW2:=ZmE (HW.out.trans hx5);clear HW hx5;have HW:=HW2;clear HW2;go_wp2_with fail;refine(HFE.out _).mono ?_;rintro e w5 ⟨rfl,hx5⟩;have HW2:=ZmE (HW.out.trans hx5);clear HW hx5;have HW:=HW2;clear HW2;go_wp2_with fail;exact QhK):p:=h
theorem Ql{p:Prop}(h:p:=by
 intro V w' hx hf;with_reducible refine relAt_ops ?_
 intro A ρ hA hρ hcst hfun;obtain⟨f31,f33,_⟩:=hf;have h31:ρ (.tmp 31)=_:=(Znf hρ _).trans ((evalHit hA 31 rfl).trans f31);have h33:ρ (.tmp 33)=_:=(Znf hρ _).trans ((evalHit hA 33 rfl).trans f33);simp[relUpon,go_sem,Ext.refl,h31,h33,e92,w92];rfl):p:=h
theorem Qm{p:Prop}(h:p:=by
 intro V w' hx hf;with_reducible refine relAt_ops ?_
 intro A ρ hA hρ hcst hfun;obtain⟨f30,f34,_⟩:=hf;have h30:ρ (.tmp 30)=_:=(Znf hρ _).trans ((evalHit hA 30 rfl).trans f30);have h34:ρ (.tmp 34)=_:=(Znf hρ _).trans ((evalHit hA 34 rfl).trans f34);simp[relUpon,go_sem,Ext.refl,h30,h34,hp2];rfl):p:=h
theorem Qn{p:Prop}(h:p:=by
 rw[ZmH g2]at HX;rw[ZmS g2]at HE2;clear g1 g2;go_enter func220,ntmps220;go_wp2_with fail;refine wp_region_rel 4 1 rfl [25,26,27,28] [[],[0],[],[1,2]] QhO QhO ?_;apply relPlan_eq';·exact Qa
 apply relPlan_eq';·exact Qt
 refine relPlan_by (fun v w=>Own 4 w 0 v (Ea.gd.map encT)) (fun _ _ _ h hx=>h.ext hx) ?_ ?_;·exact Qr
 refine relPlan_by (eqv (.bool true)) (eqv_stable _) ?_ ?_;·exact Qg
 intro V wT hxT hf;obtain⟨g25,g26,g27,g28,_⟩:=hf;simp only[fillA,ZmX,Zni,Act.put,ZmO,ZmV,ZmU];have q28:V 28=_:=g28;rw[q28];have HW2:=ZmE (HW.out.trans hxT);refine Za 4 QhO rfl (fun K hK=> ?_);go_simp;refine hK _ _ ?_;clear hK K;refine⟨rfl,?_⟩;clear HW;have HW:=HW2;clear HW2;go_wp2_with fail;refine wp_region_rel 9 1 rfl [30,31,32,33,34,35,36,37,38] [[],[],[],[2],[1,3],[0,4],[],[6],[5,7]] QhO QhO ?_;apply relPlan_eq';·exact Qa
 apply relPlan_eq';·exact Qw
 apply relPlan_eq';·exact Qj
 apply relPlan_eq';·exact Qy
 apply relPlan_eq';·exact Ql
 apply relPlan_eq';·exact Qm
 apply relPlan_eq';·exact Qj
 refine relPlan_by (fun v w=>Own 4 w 0 v (Ea.gd.map encT)) (fun _ _ _ h hx=>h.ext hx) ?_ ?_;·exact Qo
 exact Qgh):p:=h
theorem Qo{p:Prop}(h:p:=by
 intro V w' hx hf;with_reducible refine relAt_ops ?_
 intro A ρ hA hρ hcst hfun;obtain⟨f36,_⟩:=hf;have h36:ρ (.tmp 36)=_:=(Znf hρ _).trans ((evalHit hA 36 rfl).trans f36);simp[relUpon,go_sem,hfun,h36];exact(HMS.out w').mono fun e w'' ⟨v,he,ho,hy⟩=>⟨v,he,hy,ho.mono (ZmP _)⟩):p:=h
theorem Qp{p:Prop}(h:p:=by
 have e0:((ra,rb,(H:Int),rd).2.1==(ra,rb,(H:Int),rd).2.2.1)=true:=hf;rw[e0]at HX;clear e0;obtain⟨Q,hQ⟩:∃Q,Q=AI.size+H:=⟨_,rfl⟩;have hQi:(AI.size:Int)+(H:Int)=(Q:Int):=by omega
 by_cases hlt:j<Q;·have HR:Hid (res=(([],[]),0,10)):=ZmE (HS6.out.1 hf QhN);have HQ2:=ZmE hQ;clear HS6 hf hQ;go_wp2_with fail;refine HP1.out.mono ?_;rintro e w3 ⟨rfl,hx3⟩;simp only[preV,ruleV,HAI.out];go_wp2_with fail;refine(HX.out _).mono ?_;rintro e w4 ⟨rfl,hx4⟩;have hx34:Ext wr w4:=(hx3.alloc _).trans hx4;have hel4:=HEL.out.ext hx34;obtain⟨g0,g1⟩:=hel4.cells;have f0:=hel4.free 0;have f1:=hel4.free 1;have c2:w4.cell? ⟨w3.heap.size,2,none⟩=some (.int .i64 (H:Int)):=Qat;have hxa:Ext w w4:=hxw.trans hx34;clear hx3 hx4;go_wp2;obtain⟨p0,p1⟩:=(hel4.puts ([],[]));refine ZnQ (v:=.tuple #[.agg #[.string ⟨#[]⟩,.string ⟨#[]⟩],.int .i64 0,.int .i64 10]) (by simp[results,results142,go_sem,encS]at p0 p1⊢;simp[p0,p1]) rfl ⟨by rw[HR.out];rfl,Xf⟩
 ·obtain⟨vd,hsl,hsd⟩:=Zbt HST.out AI.size Q QhN QiJ;have hQA:Q-AI.size=H:=QhN;rw[hQA,<-Zn6,<-Zn5]at hsd;obtain⟨D,hD⟩:∃D:ByteArray,D.data.toList=(tx.drop AI.size).take H:=⟨⟨((tx.drop AI.size).take H).toArray⟩,rfl⟩;have HD:Hid (encS ((tx.drop AI.size).take H)=.string D):=ZmE (by rw[<-hD,Z6]);have hDs:D.size<=4096:=(by rw[<-Zb,hD,ZmY];omega);have HCV:Hid (∀w',Ext wr w'->(convert 90 9 vd).run prog w'=.ok (.string D) w'):=ZmE (fun w' hx=>by have:=Zl (hsd.1.ext hx);rw[this,<-hD,Zy]);have HV1:=ZmE (fun w' hx=>HDV.out w' hx AI D QhX QhX);rw[HAE.out,hD]at HV1;obtain⟨_,S2,S3,_⟩:=HS6.out;have hjQ:Q<=j:=QhN;have HS2:=ZmE (S2 hf QhN);have HS3:=ZmE (S3 hf QhN);have HQ2:=ZmE hQ;generalize(tx.drop AI.size).take H=d at*;clear HS6 hf hQ S2 S3 hsd hQA hD hlt;by_cases hver:Gs.ver ai d=0;(·have HR:Hid (res=((ai,d),Q,0)):=ZmE (by rw[HS3.out hver,HQ2.out]);rw[hver]at HV1;clear hver HS2 HS3;exact QH);·have HR:Hid (res=(([],[]),0,Gs.ver ai d)):=ZmE (HS2.out hver);obtain⟨z1,hz1⟩:∃z1,Gs.ver ai d=z1:=⟨_,rfl⟩;rw[hz1]at HV1 HR hver;have hz2:(z1==0)=false:=(by simpa using hver);clear hver HS2 HS3 hz1;exact Qz):p:=h
theorem Qq{p:Prop}(h:p:=by
 rw[hgd]at HE;clear hgd hkj;by_cases h119:e[k]=119;·have h1:er j=18:=(by rw[HE.out,ZmH ⟨by omega,h119⟩]);have HR:=ZmE (HR1.out QjI HB.out);rw[h1]at HR;have d4:((e[k].toNat:Int)==119)=true:=(by rw[h119];rfl);clear h1 h119 hz2 hz3;exact Qco
 ·have d4:((e[k].toNat:Int)==119)=false:=(by rw[ZmJ];intro h;exact h119 (ZnJ.1 (by have:(119:UInt8).toNat=119:=rfl;omega)));have hn119:¬(0<j∧e[k]=119):=fun h=>h119 h.2;have HN9:=ZmE hn119;clear h119 hn119;go_wp2;refine Zon (C:=fun w'=>∃x:Ahead wr,w'=x.at') QhO QhO (Ahead.drawn _) ?_;(try dsimp only);(repeat(first|go_big_quiet_step ((go_at_call 237;exact Zn ((HQ.out _).mono fun _ _ h=>⟨h.1,h.2▸Ext.refl _⟩)))|quiet_step ((go_at_call 237;exact Zn ((HQ.out _).mono fun _ _ h=>⟨h.1,h.2▸Ext.refl _⟩)))));refine ZoB ?_;intro _ hx0;obtain⟨x0,hx0⟩:=hx0;subst hx0;obtain⟨w3,hx3⟩:=x0;(try dsimp only);have he3:=(HS.out.ext (hxr.trans hx3)).e;have hi3:=(HS.out.ext (hxr.trans hx3)).i;replace hown:=hown.ext hx3;replace hx3:=hxr.trans hx3;clear hz2 hz3;clear d4 hk;by_cases hjn:j+1=n;(·have d3:((j:Int)==(n:Int)-1)=true:=QjU;have d5:decide ((j:Int)<(n:Int)-1)=false:=Qcm;have HJN:=ZmE hjn;clear hjn;cases ok;(·have h1:er j=20:=(by rw[HE.out,ZmF HN9.out,ZmF (fun h=>hj0 h.1),ZmH ⟨HJN.out,rfl⟩]);exact QaY);·have HI:=ZmE (Zb7 edge c);by_cases hx:Lib.indexByte edge.data.toList c<0;(·have hin:Tw.isIn edge.data.toList (c,true)=false:=QdR;have h1:er j=20:=(by rw[HE.out,ZmF HN9.out,ZmF (fun h=>hj0 h.1),ZmH ⟨HJN.out,hin⟩]);exact QaB);·have hin:Tw.isIn edge.data.toList (c,true)=true:=QdR;have h1:er j=0:=(by rw[HE.out,ZmF HN9.out,ZmF (fun h=>hj0 h.1),ZmF (by rw[hin];simp),ZmF (by have:=HJN.out;omega)]);exact Qg9);·have d3:((j:Int)==(n:Int)-1)=false:=Qai;have d5:decide ((j:Int)<(n:Int)-1)=true:=Qcm;cases ok;(·have h1:er j=18:=(by rw[HE.out,ZmF HN9.out,ZmF (fun h=>hj0 h.1),ZmF (fun h=>hjn h.1),ZmH ⟨by omega,by omega,rfl⟩]);exact QaY);·have HI:=ZmE (Zb7 inner c);by_cases hx:Lib.indexByte inner.data.toList c<0;(·have hin:Tw.isIn inner.data.toList (c,true)=false:=QdR;have h1:er j=18:=(by rw[HE.out,ZmF HN9.out,ZmF (fun h=>hj0 h.1),ZmF (fun h=>hjn h.1),ZmH ⟨by omega,by omega,hin⟩]);have HR:=ZmE (HR1.out QjI HB.out);rw[h1]at HR;clear h1 hin;generalize Lib.indexByte inner.data.toList c=x at*;exact QgS);·have hin:Tw.isIn inner.data.toList (c,true)=true:=QdR;have h1:er j=0:=(by rw[HE.out,ZmF HN9.out,ZmF (fun h=>hj0 h.1),ZmF (fun h=>hjn h.1),ZmF (by rw[hin];simp)]);have HN:=HRN.out h1;clear h1 hin;generalize Lib.indexByte inner.data.toList c=x at*;exact QE):p:=h
theorem Qr{p:Prop}(h:p:=by
 intro V w' hx hf;with_reducible refine relAt_ops ?_
 intro A ρ hA hρ hcst hfun;simp[relUpon,go_sem,hcst,hfun];exact(HMG.out w').mono fun e w'' ⟨v,he,ho,hy⟩=>⟨v,he,hy,ho.mono (ZmP _)⟩):p:=h
theorem Qs{p:Prop}(h:p:=by go_enter func251,ntmps251;go_wp2_with fail;refine(HP.out _).mono ?_;rintro e w1 ⟨rfl,rfl⟩;go_wp2_with fail;refine(HQ.out _).mono ?_;rintro e w1 ⟨rfl,rfl⟩;go_wp2_with fail;refine(HL.out _).mono ?_;rintro e w2 ⟨rfl,hx2⟩;go_wp2_with fail;refine(HR.out _).mono ?_;rintro e w3 ⟨rfl,hx3⟩;go_wp2;go_ret3;exact⟨by rw[HN.out];rfl,hx2.trans hx3⟩):p:=h
theorem Qt{p:Prop}(h:p:=by
 intro V w' hx hf;with_reducible refine relAt_ops ?_
 intro A ρ hA hρ hcst hfun;obtain⟨f25,_⟩:=hf;have h25:ρ (.tmp 25)=_:=(Znf hρ _).trans ((evalHit hA 25 rfl).trans f25);simp[relUpon,go_sem,hcst,Ext.refl,h25,hp1];rfl):p:=h
theorem Qu{p:Prop}(h:p:=by
 rw[hf]at HFX;simp only[ZoG]at HFX;have hH0:0<H:=by omega
 have hH1:((H:Int)==0)=false:=Qai
 have HS1:=ZmE (S1 hf);by_cases hlt2:m<AI.size+H;·have HR:Hid ((res1,res2)=([],10)):=ZmE (by rw[HP2.out,HS1.out hlt2];rfl);have hdl:DB.size<H:=QhN;clear S1 S2 S3 S4 S5 S6 hf hDBl hDBs hlt2 HS1;go_wp2_with fail;refine(HTX.out _ hx).mono ?_;rintro e w2 ⟨rfl,hx2⟩;rw[HTE.out];go_wp2_with fail;refine(HFS.out _).mono ?_;rintro e w3 ⟨rfl,hx3⟩;rw[HAI.out];go_wp2_with fail;refine(HFX.out _).mono ?_;rintro e w4 ⟨rfl,hx4⟩;dsimp only;have hx4w:Ext wr w4:=(hx2.trans hx3).trans hx4;clear hx2 hx3 hx4;go_wp2;go_ret2;have hr:=HR.out;simp only[Zn4]at hr;obtain⟨rfl,rfl⟩:=hr;exact ElsR.err _ (hx.trans hx4w)
 ·have hdl:H<=DB.size:=QhN;obtain⟨D,hD⟩:∃D,DB.extract 0 H=D:=⟨_,rfl⟩;have hDl:D.data.toList=(tx.drop AI.size).take H:=(by rw[<-hD,Zr,hDBl]);have hDs:D.size=H:=(by rw[<-hD,Zom];omega);have HV1:=ZmE (fun w=>ZaB AI D QhX QhX w);rw[HHE.out,hDl]at HV1;have HS2:=ZmE (S2 hf hlt2);have HS3:=ZmE (S3 hf hlt2);have HDE:Hid (encS ((tx.drop AI.size).take H)=.string D):=ZmE (by rw[<-hDl,Z6]);generalize(tx.drop AI.size).take H=d at*;obtain⟨K1,hK1⟩:∃K1,p+AI.size=K1:=⟨_,rfl⟩;obtain⟨K2,hK2⟩:∃K2,K1+D.size=K2:=⟨_,rfl⟩;have i1:(p:Int)+(AI.size:Int)=(K1:Int):=QhN;have i2:(K1:Int)+(D.size:Int)=(K2:Int):=QhN;have HK2:Hid (K2=p+(AI.size+H)∧K2<=k):=ZmE (by have:=HE.out;omega);have hD4:D.size<=4096:=QhN;clear S1 S2 S3 S4 S5 S6 hf hK1 hK2 hDl hDs hDBl hDBs hlt2 HS1;by_cases hver:Gs.ver ai d=0;(·rw[hver]at HV1;have HP3:Hid ((res1,res2)=Gs.fromF n' (cs.drop K2) (acc++[(ai,d)])):=ZmE (by rw[HP2.out,HS3.out hver,ZmF QhQ];dsimp only;rw[Zoi,HK2.out.1]);clear HS2 HS3 hver;go_wp2_with fail;refine(HTX.out _ hx).mono ?_;rintro e w2 ⟨rfl,hx2⟩;rw[HTE.out];go_wp2_with fail;refine(HFS.out _).mono ?_;rintro e w3 ⟨rfl,hx3⟩;rw[HAI.out];go_wp2_with fail;refine(HFX.out _).mono ?_;rintro e w4 ⟨rfl,hx4⟩;dsimp only;have hx4w:Ext wr w4:=(hx2.trans hx3).trans hx4;clear hx2 hx3 hx4;go_wp2_with fail;refine(HV1.out _).mono ?_;rintro e w5 ⟨rfl,hx5⟩;have hxa:Ext w w5:=((hx.trans hx4w).alloc _).trans hx5;have cA:w5.cell? ⟨w4.heap.size,0,none⟩=some (.string AI):=QgR;have cD:w5.cell? ⟨w4.heap.size,1,none⟩=some (.string D):=QgQ;have hown5:=((hown.ext hx4w).ext ((Ext.refl w4).alloc _)).ext hx5;have hsz5:=hxa.size;clear hx5 hown hx4w;go_wp2_with (at_builtin;go_loud (refine Zbc rfl _ _ rfl w.heap.size _ _ rfl (hown5.ext ((Ext.refl w5).alloc _)) _ (ai,d) rfl ?_ ?_ QhN ?_ ?_));(·exact HAI.out.symm);(·exact HDE.out.symm);(·exact Qcm);intro v6 w6 hown6 hg6;have hx6:Ext w w6:=(hxa.alloc _).ofGrown hg6 hown5.low;clear cA cD hg6 hown5;go_wp2;go_roundw;(case rel=>exact⟨K2,acc++[(ai,d)],n',rfl,HK2.out.2,by have:=HK2.out;rw[ZmM];simp;omega,hown6,ZmE ⟨by have:=HK2.out;have:=HP1.out;omega,HP3.out⟩,hx6⟩);case measure=>have:=HK2.out;exact Q8);·have HR:Hid ((res1,res2)=([],Gs.ver ai d)):=ZmE (by rw[HP2.out,HS2.out hver,ZmH hver]);obtain⟨z1,hz1⟩:∃z1,Gs.ver ai d=z1:=⟨_,rfl⟩;rw[hz1]at HV1 HR hver;have hz2:(z1==0)=false:=(by simpa using hver);clear hver hz1 HS2 HS3;exact QZ):p:=h
theorem Qv{p:Prop}(h:p:=by
 go_enter func207,ntmps207;go_wp2_with fail;refine HD.out.mono ?_;rintro e w' ⟨rfl,rfl⟩;go_wp2;generalize hSB:(⟨#[33,34,37,38,39,42,43,44,45,46,47,58,59,60,61,62,63,95]⟩:ByteArray)=SB;have hsz:SB.size=18:=by rw[<-hSB];rfl
 have HSB:Hid (symB=SB):=ZmE hSB;have HSZ:=ZmE hsz;have hsz1:SB.size<=18:=by omega
 have hsz2:18<=SB.size:=by omega
 clear hSB hsz;go_loop [4] (fun i=>∃k:Nat,k<=18∧i=.int .i64 (k:Int)∧Hid (∀i,i<k->symB.data.toList.getD i 0≠c)) (fun i=>18-(intOf i).toNat);case atStart=>exact⟨0,ZmP _,rfl,ZmE (fun i hi=>absurd hi (Zo6 _))⟩
 case round=>obtain⟨k,hk,rfl,hno⟩:=hrel;by_cases hlt:k<18;(·have hks:k<SB.size:=QhN;have HGD:Hid (symB.data.toList.getD k 0=SB[k]):=ZmE (by rw[HSB.out];exact gdat SB k hks);have HNX:Hid (symB.data.toList.getD k 0≠c->∀i,i<k+1->symB.data.toList.getD i 0≠c):=ZmE (fun h i hi=>by rcases ZnY i k with hh|hh;(·exact hno.out i hh);·obtain rfl:i=k:=QhN;exact h);have HY:=ZmE (HYES.out k hlt);rw[HGD.out]at HNX HY;by_cases hv:SB[k]=c;(·have HX:Hid (cb=true):=ZmE (by rw[HR.out];exact ZmR (HY.out hv));have hb:((SB[k].toNat:Int)==(c.toNat:Int))=true:=(by rw[hv];simp);have hb2:(SB[k].toNat==c.toNat)=true:=(by rw[hv];simp);clear HNX HY HGD hno hv;go_wp2;go_ret;exact⟨Zi (by simp[HX.out]),rfl⟩);·have hne:¬SB[k].toNat=c.toNat:=fun h=>hv (ZnJ.1 h);have hb:((SB[k].toNat:Int)==(c.toNat:Int))=false:=Qai;have hb2:(SB[k].toNat==c.toNat)=false:=(by rw[ZmJ];exact hne);have HN1:=ZmE (HNX.out hv);clear HNX HY HGD hno hv hne;go_wp2;go_round;(case rel=>exact⟨k+1,by omega,by go_num,HN1⟩);case measure=>exact Q8);·obtain rfl:k=18:=QhN;have HX:Hid (cb=false):=ZmE (by rw[HR.out,HNO.out hno.out];rfl);clear hk hlt hno;go_wp2;go_ret;exact⟨Zi (by simp[HX.out]),rfl⟩):p:=h
theorem Qw{p:Prop}(h:p:=by
 intro V w' hx hf;with_reducible refine relAt_ops ?_
 intro A ρ hA hρ hcst hfun;have h5:ρ (.tmp 5)=.int .i64 (m.length:Int):=(Znf hρ _).trans (evalMiss hA 5 rfl);exact Qhv):p:=h
theorem Qx{p:Prop}(h:p:=by
 rw[ZmH g1]at HX;rw[ZmS g1]at HE1;clear g1;go_enter func220,ntmps220;go_wp2_with fail;refine wp_region_rel 4 1 rfl [25,26,27,28] [[],[0],[],[1,2]] QhO QhO ?_;apply relPlan_eq';·exact Qa
 apply relPlan_eq';·exact Qt
 refine relPlan_by (fun v w=>Own 4 w 0 v (Ea.gd.map encT)) (fun _ _ _ h hx=>h.ext hx) ?_ ?_;·exact Qr
 refine relPlan_by (eqv (.bool false)) (eqv_stable _) ?_ ?_;·exact Qg
 intro V wT hxT hf;obtain⟨g25,g26,g27,g28,_⟩:=hf;simp only[fillA,ZmX,Zni,Act.put,ZmO,ZmV,ZmU];have q28:V 28=_:=g28;rw[q28];have HW2:=ZmE (HW.out.trans hxT);refine Za 4 QhO rfl (fun K hK=> ?_);exact QhH):p:=h
theorem Qy{p:Prop}(h:p:=by
 intro V w' hx hf;with_reducible refine relAt_ops ?_
 intro A ρ hA hρ hcst hfun;obtain⟨f32,_⟩:=hf;have h32:ρ (.tmp 32)=_:=(Znf hρ _).trans ((evalHit hA 32 rfl).trans f32);simp[relUpon,go_sem,Ext.refl,h32];rfl):p:=h
theorem Qz{p:Prop}(h:p:=by
 go_wp2_with fail;refine HP1.out.mono ?_;rintro e w3 ⟨rfl,hx3⟩;simp only[preV,ruleV,HAI.out];go_wp2_with fail;refine(HX.out _).mono ?_;rintro e w4 ⟨rfl,hx4⟩;have hx34:Ext wr w4:=(hx3.alloc _).trans hx4;have hel4:=HEL.out.ext hx34;obtain⟨g0,g1⟩:=hel4.cells;have f0:=hel4.free 0;have f1:=hel4.free 1;have c2:w4.cell? ⟨w3.heap.size,2,none⟩=some (.int .i64 (H:Int)):=Qat
 have hxa:Ext w w4:=hxw.trans hx34;clear hx3 hx4;have hcv2:=HCV.out w4 hx34;go_wp2_with fail;refine(HV1.out _ ((hxa.setCell (ZmK _) _).setCell (ZmK _) _)).mono ?_;rintro e w5 ⟨rfl,hx5⟩;have hel5:=(hel4.put (ai,d)).ext Qis;obtain⟨i0,i1⟩:=hel5.cells;simp only[HAI.out,HD.out]at i0 i1;have f0:=hel5.free 0;have f1:=hel5.free 1;have hxb:Ext w w5:=((hxa.setCell (ZmK _) _).setCell (ZmK _) _).trans hx5;have HQ:=ZmE (hel5.puts ([],[]));clear hx5 hel5 hel4 g0 g1;go_wp2;obtain⟨p0,p1⟩:=HQ.out;refine ZnQ (v:=.tuple #[.agg #[.string ⟨#[]⟩,.string ⟨#[]⟩],.int .i64 0,.int .i64 z1]) Qii rfl ⟨by rw[HR.out];rfl,Xf⟩):p:=h
theorem QA{p:Prop}(h:p:=by exact Qhw):p:=h
theorem QC{p:Prop}(h:p:=by
 have HA:=ZmE (Zay d (fun c=>Cd.isDig c.toNat) j hlt);have HN:=ZmE (ZaI d (fun c=>Cd.isDig c.toNat) j hlt);cases hp:Cd.isDig (d[j].toNat:Int);·have HP:=ZmE hp;have HR:Hid (res=6):=ZmE (HV6.out (HN.out hp));clear hp HA HN;go_wp2_with fail;refine(ZX _ _).mono ?_;exact Qbf
 ·have HP:=ZmE hp;have HO:Hid ((d.data.toList.take (j+1)).all (fun c=>Cd.isDig c.toNat)=true):=ZmE Qju;clear hp HA HN;go_wp2_with fail;refine(ZX _ _).mono ?_;exact Qao):p:=h
theorem QD{p:Prop}(h:p:=by go_enter func206,ntmps206;go_wp2_with fail;refine HD.out.mono ?_;rintro e w' ⟨rfl,rfl⟩;go_wp2;go_ret2;exact⟨by rw[HR.out];rfl,Ext.refl _⟩):p:=h
theorem QE{p:Prop}(h:p:=by
 have hxx:decide (x<0)=false:=by simpa using hx
 go_wp2_with fail;refine(HI.out _).mono ?_;rintro en w4 ⟨rfl,rfl⟩;go_wp2_with (at_builtin;refine Za4 rfl _ _ rfl w.heap.size _ got rfl (hown.alloc _) _ c rfl ?c1 ?c2 ?c3 ?_);case c1=>simp[go_sem,encB]
 case c2=>omega
 case c3=>have:=hx3.size;exact Qcm
 intro v' w5 hown5 hg5;have hx5:=(hx3.alloc _).ofGrown hg5 hown.low;go_wp2;go_roundw;case rel=>exact⟨j+1,by omega,by go_num,by rw[HSN.out,Zn1];exact hown5,HN,hx5⟩
 case measure=>exact Q8):p:=h
theorem QF{p:Prop}(h:p:=by rintro e w1 ⟨rfl,rfl⟩;go_wp2_with fail;refine(HRI.out _).mono ?_;rintro e w2 ⟨rfl,hx2⟩;go_wp2_with fail;refine(HDA.out _).mono ?_;rintro e w1 ⟨rfl,rfl⟩;go_wp2_with fail;refine(HQ.out _).mono ?_;rintro e w1 ⟨rfl,rfl⟩;go_wp2_with fail;refine(HL.out _).mono ?_;rintro e w3 ⟨rfl,hx3⟩;go_wp2_with fail;refine(HSY.out _).mono ?_;rintro e w4 ⟨rfl,hx4⟩;go_wp2_with fail;refine(HL9.out _).mono ?_;rintro e w5 ⟨rfl,hx5⟩;go_wp2_with fail;refine(HAS.out _).mono ?_;rintro e w6 ⟨rfl,hx6⟩;go_wp2_with fail;refine(HDR.out _).mono ?_;rintro e w7 ⟨rfl,hx7⟩;go_wp2_with fail;refine(HL7.out _).mono ?_;rintro e w8 ⟨rfl,hx8⟩;go_wp2_with fail;refine(HMO.out _).mono ?_;rintro e w9 ⟨v,rfl,hs9,hx9⟩;go_wp2;go_ret2;exact⟨v,by rw[HX.out];rfl,by rw[HX.out];exact hs9,((((((hx2.trans hx3).trans hx4).trans hx5).trans hx6).trans hx7).trans hx8).trans hx9⟩):p:=h
theorem QG{p:Prop}(h:p:=by
 go_wp2_with fail;refine(HPT.out _).mono ?_;rintro e w2 ⟨qv,rfl,hqs,hx2⟩;dsimp only at hqs;obtain⟨a2,c2,rfl⟩:=hqs.1.form;rw[ZmI]at hqs⊢;have hxw2:=hxr.trans hx2;clear hqs hx2 hxr;go_wp2;go_loopw [9,8] (fun i s wr=>i=.int .i64 0∧s=.bool false∧Ext w wr) (fun _ _ _=>0);case atStart=>exact⟨rfl,rfl,hxw2⟩
 case round=>clear hxw2;obtain⟨rfl,rfl,hxr⟩:=hrel;go_wp2;all_goals go_roundw;(case rel=>exact⟨m+1,by omega,by omega,by go_num,HN2,hxr⟩);case measure=>exact Q8):p:=h
theorem QH{p:Prop}(h:p:=by
 go_wp2_with fail;refine HP1.out.mono ?_;rintro e w3 ⟨rfl,hx3⟩;simp only[preV,ruleV,HAI.out];go_wp2_with fail;refine(HX.out _).mono ?_;rintro e w4 ⟨rfl,hx4⟩;have hx34:Ext wr w4:=(hx3.alloc _).trans hx4;have hel4:=HEL.out.ext hx34;obtain⟨g0,g1⟩:=hel4.cells;have f0:=hel4.free 0;have f1:=hel4.free 1;have c2:w4.cell? ⟨w3.heap.size,2,none⟩=some (.int .i64 (H:Int)):=Qat
 have hxa:Ext w w4:=hxw.trans hx34;clear hx3 hx4;have hcv2:=HCV.out w4 hx34;go_wp2_with fail;refine(HV1.out _ ((hxa.setCell (ZmK _) _).setCell (ZmK _) _)).mono ?_;rintro e w5 ⟨rfl,hx5⟩;have hel5:=(hel4.put (ai,d)).ext Qis;obtain⟨i0,i1⟩:=hel5.cells;simp only[HAI.out,HD.out]at i0 i1;have f0:=hel5.free 0;have f1:=hel5.free 1;have hxb:Ext w w5:=((hxa.setCell (ZmK _) _).setCell (ZmK _) _).trans hx5;have HQ:=ZmE (hel5.puts (ai,d));clear hx5 hel5 hel4 g0 g1;go_wp2;obtain⟨p0,p1⟩:=HQ.out;refine ZnQ (v:=.tuple #[.agg #[.string AI,.string D],.int .i64 (Q:Int),.int .i64 0]) QiQ rfl ⟨by rw[HR.out];simp only[HAI.out,HD.out],Xf⟩):p:=h
theorem QI{p:Prop}(h:p:=by
 have HJ0:=ZmE hj0;have d1:decide ((0:Int)<(j:Int))=false:=Qcm
 have d2:((j:Int)==0)=true:=Qcm
 have d3:((j:Int)==(n:Int)-1)=false:=Qai
 clear hj0;go_wp2;refine Zon (C:=fun w'=>∃x:Ahead wr,w'=x.at') QhO QhO (Ahead.drawn _) ?_;try dsimp only
 repeat(first|go_big_quiet_step ((go_at_call 237;exact Zn ((HQ.out _).mono fun _ _ h=>⟨h.1,h.2▸Ext.refl _⟩)))|quiet_step ((go_at_call 237;exact Zn ((HQ.out _).mono fun _ _ h=>⟨h.1,h.2▸Ext.refl _⟩))))
 refine ZoB ?_;intro _ hx0;obtain⟨x0,hx0⟩:=hx0;subst hx0;obtain⟨w3,hx3⟩:=x0;try dsimp only
 have he3:=(HS.out.ext (hxr.trans hx3)).e;have hi3:=(HS.out.ext (hxr.trans hx3)).i;replace hown:=hown.ext hx3;replace hx3:=hxr.trans hx3;clear hz2 hz3;cases ok;·have h1:er j=19:=(by rw[HE.out,ZmF Qjd,ZmH ⟨HJ0.out,rfl⟩]);exact QaY
 ·have HI:=ZmE (Zb7 edge c);by_cases hx:Lib.indexByte edge.data.toList c<0;(·have hin:Tw.isIn edge.data.toList (c,true)=false:=QdR;have h1:er j=19:=(by rw[HE.out,ZmF Qjd,ZmH ⟨HJ0.out,hin⟩]);exact QaB);·have hin:Tw.isIn edge.data.toList (c,true)=true:=QdR;have h1:er j=0:=(by rw[HE.out,ZmF Qjd,ZmF (by rw[hin];simp),ZmF (by rw[hin];simp),ZmF Qjd]);exact Qg9):p:=h
theorem QJ{p:Prop}(h:p:=by
 refine⟨fun h=>absurd h hsome,fun i hi=> ?_⟩;obtain⟨hiu,o,ho,hdep⟩:=Zqy.1 hi;have hin:i<ops.size:=(Znn.1 ho).1;have him:i<m:=Qas
 have h4:=c4 i (ZnK.2 him);rw[ho]at h4;simp only[Zno,Znj,Znd,Zna]at h4;obtain⟨⟨hg,hd⟩,hdd⟩:=h4;have hgn:o.guard=none:=by cases h:o.guard with
  |none=>rfl
  |some x=>rw[h]at hg;cases hg
 have hw:Region.wanted o (yielded ops b.tmps)=true:=by simp[Region.wanted,hgn]
 unfold wpOp;rw[ho];simp only[hw,ZoG];refine .inl ?_;have hs:=hstep i o him ho V w I.ext (fun j hj=>by obtain⟨h1,h2⟩:=hdd j hj;obtain⟨e,he,hb,hon⟩:=hasEdge_on ho h2;exact I.fact j QhN Qjh);rw[I.fill];refine wp_of_relAt hs (fun v w' ⟨hx,hR⟩=> ?_);have hmem:ds.getD i 0∈ds:=Qc4
 rw[hd,fillA_hit V _ v ds a c3 hmem];refine ih _ _ _ _ ?_ ⟨?_,rfl,I.ext.trans hx,?_,?_,?_⟩;·have:=cnt_set I.size hiu;omega
 ·rw[Array.size_setIfInBounds];exact I.size
 ·exact QcU
 ·intro k hk hl;by_cases hki:i=k;(·subst hki;rw[ZmH rfl];exact hR);·rw[ZpW false hki]at hl;have hne:ds.getD k 0≠ds.getD i 0:=Qbb;rw[ZmF hne];exact hst k _ _ _ (I.fact k hk hl) hx
 ·exact Qbj):p:=h
theorem QK{p:Prop}(h:p:=by
 obtain⟨T,hT⟩:∃T,Ea.bS t=T:=⟨_,rfl⟩;have HT:=ZmE hT;rw[hT]at HS;obtain⟨AL,hAL⟩:∃T,Ea.bS al=T:=⟨_,rfl⟩;have HAL:=ZmE hAL;rw[hAL]at HA;obtain⟨_,a,c,rfl,hc⟩:=hv;rw[ZmI]at hp1 hp2 hp3⊢;clear hr hra hT hAL hc hq1 hq2 hq3 hn HF hg he hdk e2 h7 h12;by_cases h0:er=0;·subst h0;rw[ZmF (fun h=>h rfl)];by_cases ha0:ae=0;(·subst ha0;rw[ZmF (fun h=>h rfl)];go_enter func144,ntmps144;go_wp2_with fail;refine(HD.out _ Xf).mono ?_;rintro e w1 ⟨rfl,rfl⟩;go_wp2_with fail;refine(HS.out _ Xf).mono ?_;rintro e w2 ⟨rfl,hx⟩;go_wp2_with fail;refine(HA.out _ (Ext.before hx)).mono ?_;rintro e w3 ⟨rfl,hx3⟩;have hx4:=hx.trans hx3;obtain⟨z0,z1,z2,z3,z4,z5,z6,HB⟩:=Zf (Zo rfl hx4);have hxw:=hx4.before;clear hx hx3 hx4;go_wp2;refine Zng (ZD results144 rfl (Zg HB) rfl rfl) rfl ?_;exact⟨by unfold linV;dsimp only;rw[HT.out,HAL.out];rfl,((hxw.setCell (ZmK _) _).setCell (ZmK _) _).setCell (ZmK _) _⟩);·rw[ZmH ha0];have hb:(ae !=0)=true:=ZnA.2 ha0;clear ha0;go_enter func144,ntmps144;go_wp2_with fail;refine(HD.out _ Xf).mono ?_;rintro e w1 ⟨rfl,rfl⟩;go_wp2_with fail;refine(HS.out _ Xf).mono ?_;rintro e w2 ⟨rfl,hx⟩;go_wp2_with fail;refine(HA.out _ (Ext.before hx)).mono ?_;rintro e w3 ⟨rfl,hx3⟩;have hx4:=hx.trans hx3;obtain⟨z0,z1,z2,z3,z4,z5,z6,HB⟩:=Zf (Zo rfl hx4);have hxw:=hx4.before;clear hx hx3 hx4;exact Qaz
 ·rw[ZmH h0];have hb:(er !=0)=true:=ZnA.2 h0;clear h0;go_enter func144,ntmps144;go_wp2_with fail;refine(HD.out _ Xf).mono ?_;rintro e w1 ⟨rfl,rfl⟩;go_wp2_with fail;refine(HS.out _ Xf).mono ?_;rintro e w2 ⟨rfl,hx⟩;exact Qg4):p:=h
theorem QL{p:Prop}(h:p:=by
 intro V w' hx hf;with_reducible refine relAt_ops ?_
 intro A ρ hA hρ hcst hfun;obtain⟨f77,f78,_⟩:=hf;have h77:ρ (.tmp 77)=_:=(Znf hρ _).trans ((evalHit hA 77 rfl).trans f77);have h78:ρ (.tmp 78)=V 78:=(Znf hρ _).trans (evalHit hA 78 rfl);simp[relUpon,go_sem,hfun,h77,h78];exact(HE3.out w' _ _ (HW.out.trans hx) f78).mono fun e w'' ⟨he,hy⟩=>⟨_,he,hy,rfl⟩):p:=h
theorem QM{p:Prop}(h:p:=by subst hs0;clear h2 HR;go_enter func206,ntmps206;go_wp2;go_ret2;exact⟨rfl,Ext.refl _⟩):p:=h
theorem QN{p:Prop}(h:p:=by
 intro V w' hx hf;with_reducible refine relAt_ops ?_
 intro A ρ hA hρ hcst hfun;simp[relUpon,go_sem,hcst,hfun];exact(HMM.out w').mono fun e w'' ⟨v,he,ho,hy⟩=>⟨v,he,hy,ho.mono (ZmP _)⟩):p:=h
theorem QO{p:Prop}(h:p:=by
 intro V w' hx hf;with_reducible refine relAt_ops ?_
 intro A ρ hA hρ hcst hfun;have h6:ρ (.tmp 6)=.string ⟨#[48,49,48,49,48,49]⟩:=(Znf hρ _).trans (evalMiss hA 6 rfl);exact QgY):p:=h
theorem QP{p:Prop}(h:p:=by
 obtain⟨j,hj,rfl,hal⟩:=hrel;by_cases hlt:j<d.size;·exact QC
 ·exact QaT):p:=h
theorem QQ{p:Prop}(h:p:=by exact QgY):p:=h
theorem QR{p:Prop}(h:p:=by
 obtain⟨s',h',o'⟩:=t9;obtain⟨rfl,rfl,rfl,hO9⟩:=hK9;obtain⟨i1,i2,i3⟩:=Cc.step_in HSTE.out.symm hs HSH.out;dsimp only at i1 i2 i3;have HI2:=ZmE i2;have HC9:Hid (RC=Cc.runC s' q (out++o') (ms.drop (j+1))):=ZmE (by rw[HC.out,Cc.run_at HXJ.out,<-HSTE.out]);have HM9:Hid (out.length+o'.length=(out++o').length):=ZmE (by rw[ZmM]);have hm9:out.length+o'.length<=2*(j+1):=by rw[<-HMO.out];omega
 generalize out.length+o'.length=m9 at*;obtain⟨e0,e1,e2,e3,e4,e5,e6,e7⟩:=Zf hB9;have HO9:=ZmE hO9;have HX9:=ZmE hX9;clear hB9 hO9 hX9 i2;go_wp2_with fail;go_roundw;case rel=>exact⟨j+1,s',q,a9,c9,m9,out++o',by omega,by omega,by go_num,i1,HI2.out,hm9,HM9.out,HC9,ZmE (Zg e7),ZmE (((HO9.out.set e7.out QhP _ _).set (Zk e7.out) QhP _ _).set (Zk (Zk e7.out)) QhP _ _),ZmE (ZcV HX9.out (ZmK _) _ _ _)⟩
 case measure=>exact Qak):p:=h
theorem QS{p:Prop}(h:p:=by
 go_enter func221,ntmps221;go_wp2_with fail;refine wp_region_rel 4 1 rfl [11,12,13,14] [[],[0],[],[1,2]] QhO QhO ?_;apply relPlan_eq';·exact Qa
 apply relPlan_eq';·exact QaN
 refine relPlan_by (fun v w=>Own 4 w 0 v (Ea.sA.map encT)) (fun _ _ _ h hx=>h.ext hx) ?_ ?_;·exact QaX
 refine relPlan_by (eqv (.bool false)) (eqv_stable _) ?_ ?_;·exact Qae
 intro V wT hxT hf;obtain⟨g11,g12,g13,g14,_⟩:=hf;simp only[fillA,ZmX,Zni,Act.put,ZmO,ZmV,ZmU];have q14:V 14=_:=g14;rw[q14];have HW2:=ZmE (HW.out.trans hxT);refine Za 4 QhO rfl (fun K hK=> ?_);go_simp;refine hK _ _ ?_;clear hK K;refine⟨rfl,?_⟩;clear HW;have HW:=HW2;clear HW2;go_wp2;go_ret2;exact⟨by rw[<-HX.out];rfl,HW.out⟩):p:=h
theorem QT{p:Prop}(h:p:=by
 simp only[recV]at HL HR;cases hm:((J.extract 28 33).toList== [48,49,48,49,48]);·exact Qhk
 ·exact Qhk):p:=h
theorem QU{p:Prop}(h:p:=by
 simp only[recV]at HL HR;cases hm:((J.extract 42 47).toList== [48,49,48,49,48]);·exact Qhk
 ·exact Qhk):p:=h
theorem QV{p:Prop}(h:p:=by rw[ZmH h0]at HX;have HG:=ZmE HX.out.symm;obtain⟨rfl,rfl⟩:=HZR.out h0;have hb:(er !=0)=true:=ZnA.2 h0;clear HX HZR HAW HAE ha h0;go_enter func139,ntmps139;go_wp2_with fail;refine(HS.out _).mono ?_;rintro e w1 ⟨rfl,hx⟩;obtain⟨z0,z1,z2,z3,z4,z5,z6,HB⟩:=Zf (Zo rfl hx.before);obtain⟨y0,y1,y2,y3,y4,y5,y6,HC⟩:=Zf (Zo (Zpt _ _) hx);have hxw:=hx.before.before;clear hx;go_wp2;refine Zng (Ze results139 rfl (Zg (ZaY QhN HB)) rfl) rfl ?_;have HXX:=(((hxw.setCell (p:=⟨w.heap.size+1,0,none⟩) (ZnI _) (.int .i64 0)).setCell (p:=⟨w.heap.size+1,1,none⟩) (ZnI _) (.string T)).setCell (p:=⟨w.heap.size+1,2,none⟩) (ZnI _) (.string ⟨#[]⟩));exact QgH):p:=h
theorem QW{p:Prop}(h:p:=by subst hp9;go_enter func261,ntmps261;go_wp2_with fail;refine Zng (ZaJ results261 rfl (ZaS w _ _ _).2 rfl) rfl ?_;rw[HF.out];exact⟨GB.ext Xf,a,c,by rw[HN.out];rfl,by rw[HN.out,ZnC];exact(HO.out.alloc _).alloc _⟩):p:=h
theorem QX{p:Prop}(h:p:=by go_enter func97,ntmps97;go_wp2;go_quiet (fail);exact Qgz):p:=h
theorem QY{p:Prop}(h:p:=by
 obtain⟨j,hj,rfl,hr⟩:=hrel;by_cases hlj:j<m.length
 ·obtain⟨bb,off,ha,hbl,hc0⟩:=HV.out.at_ (k:=m.length-1-j) QhR
  simp only[Znl,Addr.mk.injEq,ZpJ]at ha
  obtain⟨rfl,rfl⟩:=ha
  rw[ZnO]at hc0
  unfold encT at hc0
  obtain⟨b,hb⟩:∃b,m[m.length-1-j]' QhN=b:=⟨_,rfl⟩
  rw[hb]at hc0
  have hi:(m.length:Int)-1-(j:Int)=((m.length-1-j:Nat):Int):=by omega
  have hil:m.length-1-j<m.length:=by omega
  have HRV:Hid (m.reverse.drop j=b::m.reverse.drop (j+1)):=ZmE QiF
  have hr2:=hr.out
  rw[HRV.out]at hr2
  have HR2:=ZmE hr2
  clear hr2 hr hb HRV
  obtain⟨ix,hix⟩:∃ix,m.length-1-j=ix:=⟨_,rfl⟩
  rw[hix]at hc0 hi hil
  clear hix
  cases b with
  |true=>exact Qbd
  |false=>exact QaA
 ·exact Qar):p:=h
theorem QZ{p:Prop}(h:p:=by go_wp2_with fail;refine(HTX.out _ hx).mono ?_;rintro e w2 ⟨rfl,hx2⟩;rw[HTE.out];go_wp2_with fail;refine(HFS.out _).mono ?_;rintro e w3 ⟨rfl,hx3⟩;rw[HAI.out];go_wp2_with fail;refine(HFX.out _).mono ?_;rintro e w4 ⟨rfl,hx4⟩;dsimp only;have hx4w:Ext wr w4:=(hx2.trans hx3).trans hx4;clear hx2 hx3 hx4;go_wp2_with fail;refine(HV1.out _).mono ?_;rintro e w5 ⟨rfl,hx5⟩;have hxa:Ext w w5:=((hx.trans hx4w).alloc _).trans hx5;go_wp2;go_ret2;have hr:=HR.out;simp only[Zn4]at hr;obtain⟨rfl,rfl⟩:=hr;exact ElsR.err _ hxa):p:=h
theorem Q0{p:Prop}(h:p:=by
 cases ok;·exact QX
 ·have dr1:=dr rfl;exact QX):p:=h
theorem Q1{p:Prop}(h:p:=by
 intro hnil;have key:∀i,i<=m->listed.getD i false=true:=by
  intro i
  induction i using Nat.strongRecOn with
  |_ i ihi=>
   intro him
   cases h:listed.getD i false with
   |true=>rfl
   |false=>exfalso;have hin:i<ops.size:=QhN;have h5:=c5 i (ZnK.2 hin);obtain⟨o,ho⟩:∃o,ops[i]? =some o:=⟨_,Array.getElem?_eq_getElem hin⟩;rw[ho]at h5;simp only[Array.all_eq_true_iff_forall_mem,Zou,ZpU,Zna]at h5;have:i∈Region.ready .any ops listed:=(by rw[Zqy];refine⟨by rw[getD_tf QjT];exact h,o,ho,fun e he hb=> ?_⟩;rcases h5 e he with h5|h5;(·rw[hb]at h5;cases h5);·exact ihi e.on h5 QhN);rw[hnil]at this;cases this
 rw[key m (ZmK _)]at hmf;cases hmf):p:=h
theorem Q2{p:Prop}(h:p:=by
 intro V w' hx hf;with_reducible refine relAt_ops ?_
 intro A ρ hA hρ hcst hfun;obtain⟨f114,f115,_⟩:=hf;have h114:ρ (.tmp 114)=_:=(Znf hρ _).trans ((evalHit hA 114 rfl).trans f114);have h115:ρ (.tmp 115)=V 115:=(Znf hρ _).trans (evalHit hA 115 rfl);simp[relUpon,go_sem,hfun,h114,h115];exact(HE3.out w' _ _ (HW.out.trans hx) f115).mono fun e w'' ⟨he,hy⟩=>⟨_,he,hy,rfl⟩):p:=h
theorem Q3{p:Prop}(h:p:=by
 obtain⟨j,hj,rfl,hr⟩:=hrel;by_cases hlj:j<m.length
 ·obtain⟨bb,off,ha,hbl,hc0⟩:=HV.out.at_ (k:=m.length-1-j) QhR
  subst ha
  rw[ZnO]at hc0
  unfold encT at hc0
  obtain⟨b,hb⟩:∃b,m[m.length-1-j]' QhN=b:=⟨_,rfl⟩
  rw[hb]at hc0
  have hi:(m.length:Int)-1-(j:Int)=((m.length-1-j:Nat):Int):=by omega
  have hil:m.length-1-j<m.length:=by omega
  have HRV:Hid (m.reverse.drop j=b::m.reverse.drop (j+1)):=ZmE QiF
  have hr2:=hr.out
  rw[HRV.out]at hr2
  have HR2:=ZmE hr2
  clear hr2 hr hb HRV
  obtain⟨ix,hix⟩:∃ix,m.length-1-j=ix:=⟨_,rfl⟩
  rw[hix]at hc0 hi hil
  clear hix
  cases b with
  |true=>exact Qbd
  |false=>exact QaA
 ·exact Qar):p:=h
theorem Q4{p:Prop}(h:p:=by
 clear hq;go_enter func134,ntmps134;go_wp2_with fail;refine(HT.out _).mono ?_;rintro e w1 ⟨rfl,hx1⟩;dsimp only;obtain⟨d0,d1⟩:=FJ.out w1 hx1;have hxw:Ext w w1:=HXA.out.trans hx1;go_wp2;go_loop [6] (fun i=>∃j:Nat,j<=d.size∧i=.int .i64 (j:Int)∧Hid ((d.data.toList.take j).all (fun c=>Cd.isDig c.toNat || Gs.charB c)=true)) (fun i=>d.size-(intOf i).toNat);case atStart=>exact QaF
 case round=>obtain⟨j,hj,rfl,hal⟩:=hrel;by_cases hlt:j<d.size;(·have HA:=ZmE (Zay d (fun c=>Cd.isDig c.toNat || Gs.charB c) j hlt);have HN:=ZmE (ZaI d (fun c=>Cd.isDig c.toNat || Gs.charB c) j hlt);cases hp:(Cd.isDig d[j].toNat || Gs.charB d[j]);(·have HP:=ZmE hp;have HR:Hid (res=6):=ZmE (HV6.out (HN.out hp));clear hp HA HN;go_wp2_with fail;refine(Zc1 _ _).mono ?_;exact Qbf);·have HP:=ZmE hp;have HO:Hid ((d.data.toList.take (j+1)).all (fun c=>Cd.isDig c.toNat || Gs.charB c)=true):=ZmE Qju;clear hp HA HN;go_wp2_with fail;refine(Zc1 _ _).mono ?_;exact Qao);·exact QaT):p:=h
theorem Q5{p:Prop}(h:p:=by
 intro V w' hx hf;with_reducible refine relAt_ops ?_
 intro A ρ hA hρ hcst hfun;have h5:ρ (.tmp 5)=.int .i64 (k:Int):=(Znf hρ _).trans (evalMiss hA 5 rfl);exact Qhv):p:=h
theorem Q6{p:Prop}(h:p:=by
 have HAS:=ZmE (fun w=>Zfi L QhN (by rw[hLl];exact f3) w);rw[hLl]at HAS;obtain⟨X,hX⟩:∃X,Ea.bS (zS (Ea.setsAdd l))=X:=⟨_,rfl⟩;have HC:Hid ((X.toList==U.toList)=decide (Ea.setsAdd l=u)):=ZmE (by rw[Zn7,Znj,Zna,<-hX,Znk,Znk,hUl,Ea.bS_list];constructor;(·intro h;exact Zfk (fun x hx=>by have:=(Ea.setsAdd_ok (a:=l) (by rw[f1];decide)).2 x hx;omega) (fun x hx=>by have:=f4 x hx;omega) h);·intro h;rw[h]);have HE:Hid (L=Ea.bS l):=ZmE (by rw[<-hLl,Ea.bS_of]);rw[hX]at HAS;have HX3:=ZmE HX2.out;dsimp only at HX3;clear hX hLl hUl f1 f2 f3 f4 HX2 HLF hL1 hLz;cases hc:(X.toList==U.toList);·have HG:Hid (res=([],8)):=ZmE (by have h:=HC.out;rw[hc]at h;rw[<-HX3.out,ZmH (ZoA h.symm)]);clear HX3 HC;go_wp2_with fail;refine(HRD.out _ HW.out).mono ?_;rintro e w5 ⟨rfl,hx5⟩;go_wp2_with fail;refine(HAS.out _).mono ?_;rintro e w6 ⟨rfl,hx6⟩;go_wp2;go_ret2;exact⟨by rw[HG.out];rfl,HW.out.trans (hx5.trans hx6)⟩
 ·have HG:Hid (res=(l,0)):=ZmE (by have h:=HC.out;rw[hc]at h;rw[<-HX3.out,ZmF (fun hh=>hh (Zok h.symm))]);clear HX3 HC;go_wp2_with fail;refine(HRD.out _ HW.out).mono ?_;rintro e w5 ⟨rfl,hx5⟩;go_wp2_with fail;refine(HAS.out _).mono ?_;rintro e w6 ⟨rfl,hx6⟩;go_wp2;go_ret2;exact⟨by rw[HG.out];unfold addV;dsimp only;rw[<-HE.out];rfl,HW.out.trans (hx5.trans hx6)⟩):p:=h
theorem Q7{p:Prop}(h:p:=by
 clear hq;go_enter func134,ntmps134;go_wp2_with fail;refine(HT.out _).mono ?_;rintro e w1 ⟨rfl,hx1⟩;dsimp only;obtain⟨d0,d1⟩:=FJ.out w1 hx1;have hxw:Ext w w1:=HXA.out.trans hx1;go_wp2;go_loop [6] (fun i=>∃j:Nat,j<=d.size∧i=.int .i64 (j:Int)∧Hid ((d.data.toList.take j).all (fun c=>Cd.isDig c.toNat)=true)) (fun i=>d.size-(intOf i).toNat);case atStart=>exact QaF
 case round=>exact QP):p:=h
theorem Q8{p:Prop}(h:p:=by simp[intOf];omega):p:=h
theorem Q9{p:Prop}(h:p:=by
 by_cases heq:DB.data.toList=MB.data.toList;·rw[ZmF (by intro h;exact h.2 (hsm.2 heq))]at HT;obtain rfl:DB=MB:=Zh heq;clear hsm heq;go_enter func84,ntmps84;go_wp2_with fail;refine(HP.out _).mono ?_;rintro e w1 ⟨rfl,rfl⟩;go_wp2_with fail;refine(HW.out _ (Ext.refl _)).mono ?_;rintro e w2 ⟨wv,rfl,how,hx2⟩;have HRC:=ZmE (HR.out w2 wv _ how);clear how HR;go_wp2_with fail;refine HRC.out.mono ?_;rintro e w3 ⟨rfl,hx3⟩;exact Qbr
 ·rw[ZmH ⟨rfl,fun h=>heq (hsm.1 h)⟩]at HT;have hne:=ZeN heq;clear hsm heq;go_enter func84,ntmps84;go_wp2_with fail;refine(HP.out _).mono ?_;rintro e w1 ⟨rfl,rfl⟩;go_wp2_with fail;refine(HW.out _ (Ext.refl _)).mono ?_;rintro e w2 ⟨wv,rfl,how,hx2⟩;have HRC:=ZmE (HR.out w2 wv _ how);clear how HR;go_wp2_with fail;refine HRC.out.mono ?_;rintro e w3 ⟨rfl,hx3⟩;exact QbB):p:=h
theorem Qaa{p:Prop}(h:p:=by
 intro V w' hx hf;with_reducible refine relAt_ops ?_
 intro A ρ hA hρ hcst hfun;obtain⟨f76,_⟩:=hf;have h76:ρ (.tmp 76)=_:=(Znf hρ _).trans ((evalHit hA 76 rfl).trans f76);simp[relUpon,go_sem,hcst,Ext.refl,h76,hp3];rfl):p:=h
theorem Qab{p:Prop}(h:p:=by
 obtain⟨x,hxi⟩:∃x,ws[i]? =some x:=⟨_,ZmG QjK⟩;have hx:=HDG.out x (ZmT hxi);have hXl:i<X.size:=by rw[hXs];exact hlt
 have hXi:X[i]'hXl=UInt8.ofNat (48+x.toNat):=Qba
 have hyn:(UInt8.ofNat (48+x.toNat)).toNat=48+x.toNat:=Qei
 have hown:=HO.out;have hsz:=HX.out.size;have hol:(ws.take i).length<=10:=by rw[ZmY,HWL.out];omega
 have HT:=ZmE (Zu hxi);have hmx:(48+max x 0)%256-48=x:=by omega
 clear hxi HO;go_wp2_with (at_builtin;refine Zm rfl _ _ rfl w.heap.size _ (ws.take i) rfl (hown.alloc _) _ x rfl ?c1 ?c2 ?c3 ?_);case c1=>simp[go_sem,encI];try omega
 case c2=>omega
 case c3=>exact Qa3
 intro v' w5 hown5 hg5;have HX5:=ZmE ((HX.out.alloc _).ofGrown hg5 hown.low);have HO5:Hid (Own 3 w5 w.heap.size v' ((ws.take (i+1)).map encI)):=ZmE (by rw[HT.out,Zn1];rw[Zn5];exact hown5);clear hown hown5 hg5 hsz;go_wp2_with fail;go_roundw;case rel=>exact⟨i+1,by omega,by go_num,HO5,HX5⟩
 case measure=>exact Qak):p:=h
theorem Qac{p:Prop}(h:p:=by
 intro V w' hx hf;with_reducible refine relAt_ops ?_
 intro A ρ hA hρ hcst hfun;obtain⟨f21,f25,f28,_⟩:=hf;have h21:ρ (.tmp 21)=_:=(Znf hρ _).trans ((evalHit hA 21 rfl).trans f21);have h25:ρ (.tmp 25)=_:=(Znf hρ _).trans ((evalHit hA 25 rfl).trans f25);have h28:ρ (.tmp 28)=_:=(Znf hρ _).trans ((evalHit hA 28 rfl).trans f28);simp[relUpon,go_sem,Ext.refl,h21,h25,h28,hp2];rfl):p:=h
theorem Qad{p:Prop}(h:p:=by
 intro V w' hx hf;with_reducible refine relAt_ops ?_
 intro A ρ hA hρ hcst hfun;obtain⟨f29,f30,_⟩:=hf;have h29:ρ (.tmp 29)=_:=(Znf hρ _).trans ((evalHit hA 29 rfl).trans f29);have h30:ρ (.tmp 30)=V 30:=(Znf hρ _).trans (evalHit hA 30 rfl);simp[relUpon,go_sem,hfun,h29,h30];exact(HE2.out w' _ _ (HW.out.trans hx) f30).mono fun e w'' ⟨he,hy⟩=>⟨_,he,hy,rfl⟩):p:=h
theorem Qae{p:Prop}(h:p:=by
 intro V w' hx hf;with_reducible refine relAt_ops ?_
 intro A ρ hA hρ hcst hfun;obtain⟨f12,f13,_⟩:=hf;have h12:ρ (.tmp 12)=_:=(Znf hρ _).trans ((evalHit hA 12 rfl).trans f12);have h13:ρ (.tmp 13)=V 13:=(Znf hρ _).trans (evalHit hA 13 rfl);simp[relUpon,go_sem,hfun,h12,h13];exact(HE1.out w' _ _ (HW.out.trans hx) f13).mono fun e w'' ⟨he,hy⟩=>⟨_,he,hy,rfl⟩):p:=h
theorem Qaf{p:Prop}(h:p:=by go_wp2;go_ret2;exact⟨by rw[HR.out];rfl,Ext.refl _⟩):p:=h
theorem Qag{p:Prop}(h:p:=by go_enter func145,ntmps145;go_wp2_with fail;refine HWD.out.mono ?_;rintro e w1 ⟨u,rfl,⟨hs,a,c,rfl,hc⟩,hx1⟩;rw[ZmI,<-HNW.out];go_wp2_with fail;refine(HMG.out w1 hx1).mono ?_;rintro e w2 ⟨rfl,rfl⟩;go_wp2;go_ret2;rw[HF.out];exact IntsE.bad _ _ _ hx1):p:=h
theorem Qah{p:Prop}(h:p:=by have hcj:=hrow.cell hlt;have hfj:=hrow.frozen j;have hxw:Ext w wr:=((Ext.refl w).alloc _).trans hxr;have hbj:=HCC.out wr hxw j hlt;obtain⟨cj0,cj1⟩:=HOK.out ((Gs.run cs).getD j 0) (by have hj':j<(Gs.run cs).length:=(by rw[HM.out];exact hlt);rw[ZmL,ZmG hj'];exact Zq7 _);have HBN:=ZmE (Ze1 cj0 cj1);obtain⟨cj,hcjj⟩:∃cj,(Gs.run cs).getD j 0=cj:=⟨_,rfl⟩;have HR1:=ZmE ((hrow.set j (.int .u8 cj)).congr (g:=fun k=>if k<j+1 then encB (Gs.byte ((Gs.run cs).getD k 0))else .int .u8 0) (fun k hk=>by by_cases h1:k=j;(·subst h1;rw[ZmH rfl,ZmH (show k<k+1 by omega)];unfold encB;rw[HBN.out,hcjj]);·rw[ZmF h1];by_cases h2:k<j;(·exact QdD);·rw[ZmF h2,ZmF (show¬k<j+1 by omega)]));have HX1:=ZmE (hxr.setCell (p:=⟨w.heap.size+1,j,none⟩) QhQ (.int .u8 cj));rw[hcjj]at hbj cj0 cj1;clear hrow hcjj HBN;exact Qg0):p:=h
theorem Qai{p:Prop}(h:p:=by rw[ZmJ];omega):p:=h
theorem Qaj{p:Prop}(h:p:=by
 clear HX;obtain⟨p,q,rfl,rfl,hp,hq,HPQ,HX⟩:=hrel;by_cases hq0:0<q;·have hqI:(0:Int)<(q:Int):=QhN;have hqb:decide (0<q)=true:=ZmR hq0;have hqn:(q:Int)≠0:=QhN;have hqz:((q:Int)==0)=false:=ZmJ.2 hqn;obtain⟨r,hr⟩:∃r,r=p%q:=⟨_,rfl⟩;have hrI:(p:Int)%(q:Int)=(r:Int):=(by rw[hr];rfl);have hrT:Int.tmod (p:Int) (q:Int)=(r:Int):=(by rw[hr];rfl);have hrq:r<q:=(by rw[hr];exact Zqk _ hq0);have HPQ2:Hid (Nat.gcd q r=G):=ZmE (by rw[<-HPQ.out,hr,Nat.gcd_comm p q,Nat.gcd_rec q p,Nat.gcd_comm]);clear hr;go_wp2_with fail;go_quiet (fail);go_wp2_with fail;go_roundw;(case rel=>exact⟨q,r,rfl,rfl,by omega,by omega,HPQ2,ZmE (HX.out.drewN _)⟩);case measure=>exact Qak
 ·obtain rfl:q=0:=QhN;have HPG:Hid (p=G):=ZmE (by have h:=HPQ.out;rwa[Nat.gcd_zero_right]at h);clear hq0;go_wp2_with fail;go_roundw;(case rel=>exact⟨j+1,G,by omega,by go_num,by rw[HPG.out],hG9,HG2,HX⟩);case measure=>exact Qak):p:=h
theorem Qak{p:Prop}(h:p:=by simp[intOf];try omega):p:=h
theorem Qal{p:Prop}(h:p:=by
 obtain⟨x,hxj⟩:∃x,vs[j]? =some x:=⟨_,ZmG QhV⟩;obtain⟨b,o,ha,hb,hc⟩:=HV.out.int_at (Ext.refl w) hxj;subst ha;have hjI:(j:Int)<(n:Int):=by omega
 have hmem:=ZmT hxj;by_cases hx:0<=x∧x<=106;·have HB2:Hid (∀y∈vs.take (j+1),0<=y∧y<=106):=ZmE (fun y hy=>by rw[Zu hxj]at hy;rcases ZnR.1 hy with h|h;(·exact HB.out y h);·rw[Znz]at h;subst h;exact hx);obtain⟨hx1,hx2⟩:=hx;clear hxj hmem;exact Qg8
 ·have HF:Hid (res=([],3)):=ZmE (by rw[HR.out,ZmH];rw[ZoL];exact⟨x,hmem,by simp;omega⟩);by_cases h1:x<0;(·clear hx hxj hmem;exact QhL);·have h2:106<x:=QhN;clear hx hxj hmem;exact QhL):p:=h
theorem Qam{p:Prop}(h:p:=by
 obtain⟨x,hxj⟩:∃x,ws[j]? =some x:=⟨_,ZmG QhV⟩;obtain⟨b,o,ha,hb,hc⟩:=HV.out.int_at (Ext.refl w) hxj;subst ha;have hjI:(j:Int)<(n:Int):=by omega
 obtain⟨hx1,hx2⟩:=HIN.out x (ZmT hxj);have HT2:Hid (t+x=Rn.sum (ws.take (j+1))):=ZmE Qj5;exact Qho):p:=h
theorem Qan{p:Prop}(h:p:=by
 rintro e w1 ⟨F,rfl,hF,hx1⟩;obtain⟨hc,hf⟩:=hx1.cells;have hz:w.heap.size<w1.heap.size:=by have:=hx1.size;exact Qdx
 unfold SymFns.val;go_wp2;refine ZnQ (v:=.tuple #[F.val,.bool true]) (by simp[results,results62,go_sem,SymFns.val,hc]) rfl ⟨_,F,rfl,hF.above ?_,?_⟩;·(repeat refine Above.setCell ?_ QhY _);exact Above.refl _ _
 ·(repeat refine Ext.setCell ?_ (ZmK _) _);exact Ext.trans ((Ext.refl w).alloc _) hx1):p:=h
theorem Qao{p:Prop}(h:p:=by rintro e w' ⟨rfl,rfl⟩;rw[HP.out];exact Qhb):p:=h
theorem Qap{p:Prop}(h:p:=by go_wp2_with fail;refine(HZ.out _).mono ?_;rintro e w1 ⟨rfl,rfl⟩;go_wp2_with fail;refine(HD.out _).mono ?_;exact Qhj):p:=h
theorem Qaq{p:Prop}(h:p:=by
 intro V w' hx hf;with_reducible refine relAt_ops ?_
 intro A ρ hA hρ hcst hfun;obtain⟨f113,_⟩:=hf;have h113:ρ (.tmp 113)=_:=(Znf hρ _).trans ((evalHit hA 113 rfl).trans f113);simp[relUpon,go_sem,hcst,Ext.refl,h113,hp3];rfl):p:=h
theorem Qar{p:Prop}(h:p:=by
 obtain rfl:j=m.length:=by omega
 have HE:Hid ((m.length:Int)=((Ea.trl m:Nat):Int)):=ZmE (by have:=hr.out;rw[ZnD (by rw[Zn9];exact ZmK _)]at this;simp only[Ea.ldg]at this;omega);clear hj hlj hr;go_wp2;go_ret2;exact⟨by rw[HL.out];rw[<-HE.out];rfl,rfl⟩):p:=h
theorem Qas{p:Prop}(h:p:=by
 rcases Zq4 i m with h|h|h;·exact h
 ·exact absurd (h▸hi) hmr
 ·exfalso;have h7:=c7 i (ZnK.2 hin);rw[Zou,Zna,ZoL]at h7;rcases h7 with h7|⟨k,hk,hik⟩;(·omega);·rw[ZnK]at hk;rw[Zno,Zna]at hik;obtain⟨e,he,hb,hon⟩:=hasEdge_on ho hik.2;have:=hdep e he hb;rw[hon]at this;exact absurd (I.tail k hk this) QhN):p:=h
theorem Qat{p:Prop}(h:p:=by rw[hx4.cell (p:=⟨w3.heap.size,2,none⟩) QhQ];unfold World.cell?;rw[Znx];rfl):p:=h
theorem Qau{p:Prop}(h:p:=by exact Qgk):p:=h
theorem Qav{p:Prop}(h:p:=by obtain⟨R1,R2⟩:=R;dsimp only at dr HT;clear hr hbl;go_enter func84,ntmps84;go_wp2_with fail;refine(HP.out _).mono ?_;rintro e w1 ⟨rfl,rfl⟩;go_wp2_with fail;refine(HW.out _ (Ext.refl _)).mono ?_;rintro e w2 ⟨wv,rfl,how,hx2⟩;have HRC:=ZmE (HR.out w2 wv _ how);clear how HR;go_wp2_with fail;refine HRC.out.mono ?_;rintro e w3 ⟨rfl,hx3⟩;go_wp2;go_ret2;exact⟨by rw[HT.out];rfl,hx2.trans hx3⟩):p:=h
theorem Qaw{p:Prop}(h:p:=by rw[ZmH hw]at HT;have dw:((Tw.wide ws).2 !=0)=true:=ZnA.2 hw;clear HRR hw;generalize Tw.wide ws=W at*;obtain⟨W1,W2⟩:=W;dsimp only at dw HT;go_enter func84,ntmps84;go_wp2_with fail;refine(HP.out _).mono ?_;rintro e w1 ⟨rfl,rfl⟩;go_wp2_with fail;refine(HW.out _ (Ext.refl _)).mono ?_;rintro e w2 ⟨wv,rfl,how,hx2⟩;clear how;go_wp2;go_ret2;exact⟨by rw[HT.out];rfl,hx2⟩):p:=h
theorem Qax{p:Prop}(h:p:=by
 rw[hp]at HP1;have HR:Hid (res=(([],[]),0,29)):=ZmE (by rw[HNX.out,hp]);clear hp HNX HNS;go_wp2_with fail;refine HP1.out.mono ?_;rintro e w3 ⟨rfl,hx3⟩;dsimp only[preV,ruleV];have hel:=HEL.out.ext hx3;obtain⟨g0,g1⟩:=hel.cells;have f0:=hel.free 0;have f1:=hel.free 1;have HQ:=ZmE ((hel.put ([],[])).ext ((Ext.refl _).alloc (.cells #[.int .i64 0,.int .i64 0,.int .i64 0,.int .u8 0] 138))).cells;have hxa:=hxw.trans hx3;have hsz:w.heap.size<w3.heap.size:=by have:=hxr.size;have:=hx3.size;simp at*;omega
 clear hel hx3;go_wp2;obtain⟨p0,p1⟩:=HQ.out;refine ZnQ (v:=.tuple #[.agg #[.string ⟨#[]⟩,.string ⟨#[]⟩],.int .i64 0,.int .i64 29]) Qii rfl ⟨by rw[HR.out];rfl,Xf⟩):p:=h
theorem Qay{p:Prop}(h:p:=by go_enter func84,ntmps84;go_wp2_with fail;refine(HP.out _).mono ?_;rintro e w1 ⟨rfl,rfl⟩;go_wp2_with fail;refine(HW.out _ (Ext.refl _)).mono ?_;rintro e w2 ⟨wv,rfl,how,hx2⟩;have HRC:=ZmE (HR.out w2 wv _ how);clear how HR;go_wp2_with fail;refine HRC.out.mono ?_;rintro e w3 ⟨rfl,hx3⟩;go_wp2;go_ret2;exact⟨by rw[HT.out];exact Z8 rfl rfl,hx2.trans hx3⟩):p:=h
theorem Qaz{p:Prop}(h:p:=by go_wp2;refine Zng (ZD results144 rfl (Zg HB) rfl rfl) rfl ?_;exact⟨rfl,((hxw.setCell (ZmK _) _).setCell (ZmK _) _).setCell (ZmK _) _⟩):p:=h
theorem QaA{p:Prop}(h:p:=by
 have HE:Hid (Ea.ldg (m.reverse.drop (j+1))+(j+1)=Ea.trl m):=ZmE (by have:=HR2.out;simp only[Ea.ldg,ZoR,Zpr]at this;omega);go_wp2;go_round;case rel=>exact⟨j+1,by omega,by go_num,HE⟩
 case measure=>exact Q8):p:=h
theorem QaB{p:Prop}(h:p:=by have HR:=ZmE (HR1.out QjI HB.out);rw[h1]at HR;clear h1 hin;generalize Lib.indexByte edge.data.toList c=x at*;exact QgS):p:=h
theorem QaC{p:Prop}(h:p:=by rintro e w1 ⟨rfl,rfl⟩;go_wp2_with fail;refine(HRI.out _).mono ?_;rintro e w2 ⟨rfl,hx2⟩;go_wp2_with fail;refine(HDA.out _).mono ?_;rintro e w1 ⟨rfl,rfl⟩;exact Qhm):p:=h
theorem QaD{p:Prop}(h:p:=by unfold World.cell?;rw[Znx];rfl):p:=h
theorem QaE{p:Prop}(h:p:=by rcases hk4 with⟨d4,d5⟩|d4;all_goals go_enter func69,ntmps69;go_wp2_with fail;refine(HZ.out _).mono ?_;rintro e w1 ⟨rfl,rfl⟩;go_wp2_with fail;refine(HD.out _).mono ?_;rintro e w1 ⟨rfl,rfl⟩;go_wp2_with fail;refine Zon (C:=fun w'=>∃x:Ahead w,w'=x.at') QhO QhO (Ahead.drawn _) ?_;(try dsimp only);(repeat(first|go_big_quiet_step ((go_at_call 119;with_reducible exact Zn (HCO.out _)))|quiet_step ((go_at_call 119;with_reducible exact Zn (HCO.out _)))));refine ZoB ?_;intro _ hx0;obtain⟨x0,hx0⟩:=hx0;subst hx0;obtain⟨w8,hx8⟩:=x0;(try dsimp only);go_wp2;go_ret2;exact⟨HG.out,hx8⟩):p:=h
theorem QaF{p:Prop}(h:p:=by exact⟨0,ZmP _,rfl,ZmE rfl⟩):p:=h
theorem QaG{p:Prop}(h:p:=by
 intro V w' hx hf;with_reducible refine relAt_ops ?_
 intro A ρ hA hρ hcst hfun;obtain⟨f27,_⟩:=hf;have h27:ρ (.tmp 27)=_:=(Znf hρ _).trans ((evalHit hA 27 rfl).trans f27);simp[relUpon,go_sem,hcst,Ext.refl,h27,e2,w2];rfl):p:=h
theorem QaH{p:Prop}(h:p:=by
 intro V w' hx hf;with_reducible refine relAt_ops ?_
 intro A ρ hA hρ hcst hfun;obtain⟨f26,_⟩:=hf;have h26:ρ (.tmp 26)=_:=(Znf hρ _).trans ((evalHit hA 26 rfl).trans f26);simp[relUpon,go_sem,hcst,Ext.refl,h26,e1,w1];rfl):p:=h
theorem QaI{p:Prop}(h:p:=by
 intro V w' hx hf;with_reducible refine relAt_ops ?_
 intro A ρ hA hρ hcst hfun;obtain⟨f24,_⟩:=hf;have h24:ρ (.tmp 24)=_:=(Znf hρ _).trans ((evalHit hA 24 rfl).trans f24);simp[relUpon,go_sem,hcst,Ext.refl,h24,e3,w3];rfl):p:=h
theorem QaJ{p:Prop}(h:p:=by
 intro V w' hx hf;with_reducible refine relAt_ops ?_
 intro A ρ hA hρ hcst hfun;obtain⟨f23,_⟩:=hf;have h23:ρ (.tmp 23)=_:=(Znf hρ _).trans ((evalHit hA 23 rfl).trans f23);simp[relUpon,go_sem,hcst,Ext.refl,h23,e2,w2];rfl):p:=h
theorem QaK{p:Prop}(h:p:=by
 intro V w' hx hf;with_reducible refine relAt_ops ?_
 intro A ρ hA hρ hcst hfun;obtain⟨f22,_⟩:=hf;have h22:ρ (.tmp 22)=_:=(Znf hρ _).trans ((evalHit hA 22 rfl).trans f22);simp[relUpon,go_sem,hcst,Ext.refl,h22,e1,w1];rfl):p:=h
theorem QaL{p:Prop}(h:p:=by
 clear hown hown5 hg5 hsz;go_wp2_with fail;go_roundw;case rel=>exact⟨i+1,s,_,by omega,by omega,by go_num,by first|rfl|exact Znb (Value.int .i64) hsI.symm|go_num,hol2,HC2,HO5,HX5⟩
 case measure=>exact Qak):p:=h
theorem QaM{p:Prop}(h:p:=by have HF:Hid (res=some (8,cs.map chB,[])):=ZmE Qkg;have hO:=HO.out;rw[ZmW QhU]at hO;have hcv:=Zl hO.sl;obtain⟨f0,f1,f2,f3,f4,f5,f6,f7⟩:=Zf (Zo rfl (HX1.out.trans HX.out));have hxw:=(HX1.out.trans HX.out).before;clear hO hlt hj;go_wp2_with fail;refine Zng (Ze results83 rfl (Zg f7) rfl) rfl ?_;rw[HF.out];exact RdR.some (Zp hxw (ZmK _) _ _ _)):p:=h
theorem QaN{p:Prop}(h:p:=by
 intro V w' hx hf;with_reducible refine relAt_ops ?_
 intro A ρ hA hρ hcst hfun;obtain⟨f11,_⟩:=hf;have h11:ρ (.tmp 11)=_:=(Znf hρ _).trans ((evalHit hA 11 rfl).trans f11);simp[relUpon,go_sem,hcst,Ext.refl,h11,hp1];rfl):p:=h
theorem QaO{p:Prop}(h:p:=by exact Qhj):p:=h
theorem QaP{p:Prop}(h:p:=by
 rw[hb]at hc0 HV;have HR5:Hid ((wr.setCell ⟨w1.heap.size,j,none⟩ (.bool (!b))).rowIs w1.heap.size 4 7 (fun k=>if k<j+1 then encT (r.getD k false)else .bool false)):=
  ZmE ((hrow.set j (.bool (!b))).congr (fun k hk=>by by_cases h1:k=j;(·subst h1;rw[ZmH rfl,ZmH QhN,HV.out];rfl);·rw[ZmF h1];by_cases h2:k<j;(·exact QcG);·rw[ZmF h2,ZmF QhN]))
 have HX:=ZmE (hxr.setCell (p:=⟨w1.heap.size,j,none⟩) (ZmK _) (.bool (!b)));clear hrow hxr hb HV;exact Qg1):p:=h
theorem QaQ{p:Prop}(h:p:=by first|exact hown5|(rw[Zn1];exact hown5)):p:=h
theorem QaR{p:Prop}(h:p:=by go_wp2;refine Zng (ZD results144 rfl (Znx _ _) rfl rfl) rfl ?_;exact⟨rfl,Xf⟩):p:=h
theorem QaS{p:Prop}(h:p:=by rintro e w1 ⟨rfl,rfl⟩;go_wp2_with fail;refine(HRI.out _).mono ?_;rintro e w2 ⟨rfl,hx2⟩;go_wp2_with fail;refine(HDA.out _).mono ?_;rintro e w1 ⟨rfl,rfl⟩;go_wp2_with fail;refine(HQ.out _).mono ?_;rintro e w1 ⟨rfl,rfl⟩;go_wp2_with fail;refine(HL.out _).mono ?_;rintro e w3 ⟨rfl,hx3⟩;go_wp2_with fail;refine(HSY.out _).mono ?_;rintro e w4 ⟨rfl,hx4⟩;go_wp2_with fail;refine(HRQ.out _).mono ?_;rintro e w5 ⟨rfl,hx5⟩;go_wp2_with fail;refine(HMO.out _).mono ?_;rintro e w6 ⟨v,rfl,hs6,hx6⟩;go_wp2;go_ret2;exact⟨v,by rw[HX.out];rfl,by rw[HX.out];exact hs6,(((hx2.trans hx3).trans hx4).trans hx5).trans hx6⟩):p:=h
theorem QaT{p:Prop}(h:p:=by
 obtain rfl:j=d.size:=by omega
 rw[Zx]at hal;clear hj hlt;have HR:Hid (res=0):=ZmE (HV3.out hal.out);go_wp2;go_ret;exact⟨Zt HR.out.symm,hxw⟩):p:=h
theorem QaU{p:Prop}(h:p:=by go_wp2;go_ret;exact⟨rfl,rfl⟩):p:=h
theorem QaV{p:Prop}(h:p:=by exact Qgt):p:=h
theorem QaW{p:Prop}(h:p:=by have HD:Hid (Hp.Heap Hp.lessS q' i0):=ZmE (HH.out.done (fun c hc a b ha hb=>by have e:=HXI.out;rw[hb]at e;injection e with e;subst e;exact Hp.lessS_tr _ _ _ (HMIN.out c hc a ha) HB2.out.symm));go_wp2;go_ret;exact⟨⟨_,rfl⟩,q',HQ3.out,HD.out,HP.out,HG.out.trans (GB.ext HX3.out)⟩):p:=h
theorem QaX{p:Prop}(h:p:=by
 intro V w' hx hf;with_reducible refine relAt_ops ?_
 intro A ρ hA hρ hcst hfun;simp[relUpon,go_sem,hcst,hfun];exact(HMA.out w').mono fun e w'' ⟨v,he,ho,hy⟩=>⟨v,he,hy,ho.mono (ZmP _)⟩):p:=h
theorem QaY{p:Prop}(h:p:=by have HR:=ZmE (HR1.out QjI HB.out);rw[h1]at HR;clear h1;go_wp2;go_ret2;exact⟨by rw[HR.out];rfl,hx3⟩):p:=h
theorem QaZ{p:Prop}(h:p:=by
 go_wp2;go_round;case rel=>exact⟨k+1,by omega,by go_num,HO⟩
 case measure=>exact Q8):p:=h
theorem Qa0{p:Prop}(h:p:=by go_wp2_with fail;refine(HRD1.out _ (Above.of_ext _ (hx12.trans hxr))).mono ?_;rintro e w4 ⟨rfl,hx4⟩;obtain⟨hq4,hq6,hq7⟩:=FY.out w4 (hxr.trans hx4);go_wp2_with fail;refine(HTX1.out _ (Above.of_ext _ ((hx12.trans hxr).trans hx4))).mono ?_;rintro e w5 ⟨rfl,hx5⟩;obtain⟨hp4,hp6,hp7⟩:=FY.out w5 ((hxr.trans hx4).trans hx5);go_wp2_with fail;refine(HCM1.out _ (Above.of_ext _ (((hx12.trans hxr).trans hx4).trans hx5))).mono ?_;rintro e w6 ⟨rfl,hx6⟩;go_wp2;go_ret2;exact⟨by rw[HT.out];rfl,(((hx1.trans hxr).trans hx4).trans hx5).trans hx6⟩):p:=h
theorem Qa1{p:Prop}(h:p:=by
 go_wp2;go_roundw;case rel=>exact⟨m+1,by omega,by omega,by go_num,HN2,hxr⟩
 case measure=>exact Q8):p:=h
theorem Qa2{p:Prop}(h:p:=by
 have HO:Hid ((cs.take (k+1)).all Gs.okCh=true):=ZmE (by rw[HTK.out,ZqF,hall.out];simp[hc]);rw[ZcG]at hc;clear hck e1 hall HTK;by_cases h256:c=256;·subst h256;clear hc;exact QaZ
 ·have hc0:0<=c:=QhN;have hc1:c<=127:=QhN;have hc2:(c !=256)=true:=(by simpa using h256);clear hc;exact QaZ):p:=h
theorem Qa3{p:Prop}(h:p:=by first|(simp;omega)|omega):p:=h
theorem Qa4{p:Prop}(h:p:=by
 go_wp2_with fail;refine(HS2.out _ HQ3.out).mono ?_;rintro e w4 ⟨rfl,hq4,hg4⟩;have HQ4:=ZmE (HQ3.out.turn hg4 hq4 (Hp.swap_len q' i (2*i+1)));have HG4:=ZmE ((HG.out.trans (GB.ext HX3.out)).trans hg4);have HH4:=ZmE (HH.out.step Hp.lessS_tr Hp.lessS_as hi0 QhN HXI.out HY1.out HB2.out.symm HMIN.out);have HP4:=ZmE ((Hp.swap_perm HXI.out HY1.out).trans HP.out);clear hq4 hg4;go_wp2;go_roundw;case rel=>exact⟨2*i+1,_,by omega,by omega,by go_num,HQ4,HH4,HP4,HG4⟩
 case measure=>exact Qak):p:=h
theorem Qa5{p:Prop}(h:p:=by have HW:=HW2;clear HW2;go_wp2_with fail;rw[HT.out];refine(HFU.out _).mono ?_;rintro e w9 ⟨rfl,hx9⟩;have HW2:=ZmE (HW.out.trans hx9);clear HW hx9;have HW:=HW2;clear HW2;go_wp2;go_ret3;exact⟨by rw[HG.out];unfold xsymV;dsimp only;rw[<-HE.out];rfl,HW.out⟩):p:=h
theorem Qa6{p:Prop}(h:p:=by clear h q0 q1 q2 q3 q4 h6n h48;exact Qg3):p:=h
theorem Qa7{p:Prop}(h:p:=by rintro e w1 ⟨rfl,rfl⟩;go_wp2;go_ret2;exact⟨by rw[HT.out];rfl,Ext.refl _⟩):p:=h
theorem Qa8{p:Prop}(h:p:=by
 intro i hi hil hd;have h6:=c6 i (ZnK.2 hi);rw[Zou,Znj]at h6;have h6:=h6.resolve_left hil;rw[ZoL]at h6;obtain⟨k,hk,hik⟩:=h6;rw[ZnK]at hk;rw[Zno,Zno,Zna,ZnA]at hik;by_cases hkm:k=m;·exact Qdf
 ·have hk':listed.getD k false=true:=ihd (m-k) QhN k QhN hik.1.2 rfl;exact I.down k i QhN hk' hik.2):p:=h
theorem Qa9{p:Prop}(h:p:=by rw[HG.out];clear HG hg;unfold symV linV;dsimp only;generalize Ea.bS l=L at*;generalize Ea.bS (Ea.sS u)=U at*;go_enter func213,ntmps213;go_wp2_with fail;refine(HH.out _).mono ?_;rintro e w1 ⟨rfl,hx1⟩;go_wp2_with fail;refine(HR.out _).mono ?_;rintro e w2 ⟨rfl,hx2⟩;have hx:=hx1.trans hx2;obtain⟨z0,z1,z2,z3,z4,z5,z6,HB⟩:=Zak hx;have hxw:=hx.before;clear hx1 hx2 hx;go_wp2;refine Zng (Ze results213 rfl (Zg HB) rfl) rfl ?_;exact⟨rfl,Xf⟩):p:=h
theorem Qba{p:Prop}(h:p:=by
 have h1:X.data.toList[i]? =some (UInt8.ofNat (48+x.toNat)):=by rw[HXE.out,Znm,hxi];rfl
 obtain⟨h2,h3⟩:=ZmN.1 h1;rw[<-h3];rfl):p:=h
theorem Qbb{p:Prop}(h:p:=by rw[ZmL,ZmL,ZmG (show k<ds.length by omega),ZmG (show i<ds.length by omega)];simp only[Option.getD_some];intro h;exact hki ((List.getElem_inj c3).1 h).symm):p:=h
theorem Qbc{p:Prop}(h:p:=by
 intro listed b w V hc I;exfalso;have hm:listed.getD m true=false:=by
  rw[getD_tf (by rw[I.size];exact c1)]
  cases h:listed.getD m false with
  |false=>rfl
  |true=>exact absurd (I.tail m c1 h) (Zq2 _)
 have:=cnt_set I.size hm;omega):p:=h
theorem Qbd{p:Prop}(h:p:=by have HE:Hid ((j:Int)=((Ea.trl m:Nat):Int)):=ZmE (by have:=HR2.out;simp only[Ea.ldg,ZoG]at this;omega);go_wp2;go_ret2;exact⟨by rw[HL.out,HE.out];rfl,rfl⟩):p:=h
theorem Qbe{p:Prop}(h:p:=by go_enter func90,ntmps90;go_wp2;go_ret2;exact⟨rfl,Xe⟩):p:=h
theorem Qbf{p:Prop}(h:p:=by rintro e w' ⟨rfl,rfl⟩;rw[HP.out];go_wp2;go_ret;exact⟨Zt HR.out.symm,hxw⟩):p:=h
theorem Qbg{p:Prop}(h:p:=by exact⟨rfl,rfl⟩):p:=h
theorem Qbh{p:Prop}(h:p:=by
 clear hq hsq;go_wp2_with (at_builtin;refine ZH rfl _ _ rfl w.heap.size _ got rfl (hown.alloc _) _ (s[q]==49) rfl ?c1 ?c2 ?c3 ?_);case c1=>exact QeO
 case c2=>omega
 case c3=>have:=hxr.size;exact Qcm
 intro v' w5 hown5 hg5;have hx5:=(hxr.alloc _).ofGrown hg5 hown.low;clear hown hg5 hqi d1;go_wp2;go_roundw;case rel=>exact⟨k+1,by omega,by go_num,by rw[HTS.out,Zn1];exact hown5,hx5⟩
 case measure=>exact Q8):p:=h
theorem Qbi{p:Prop}(h:p:=by
 have h:d=0∨d=1∨d=2∨d=3∨d=4∨d=5∨d=6∨d=7∨d=8∨d=9:=by omega
 rcases h with rfl|rfl|rfl|rfl|rfl|rfl|rfl|rfl|rfl|rfl<;>exact ZC _ _ w rfl):p:=h
theorem Qbj{p:Prop}(h:p:=by
 intro k j hk hl hj;by_cases hki:i=k;·subst hki;obtain⟨e,he,hb,hon⟩:=hasEdge_on ho hj;exact getD_set_true Qjh
 ·rw[ZpW false hki]at hl;exact getD_set_true (I.down k j hk hl hj)):p:=h
theorem Qbk{p:Prop}(h:p:=by
 rcases hall hmr with he|he;·exact Qb3
 ·subst he;rw[<-hc,c11,I.fill];refine hend2 V w I.ext (fun j hj hjl=>I.fact j hj ?_);have:j<ops.size:=QhN;unfold listedL;rw[ZpA,ZoT (fun h=>hjl h.symm)];simp[listedTo,List.getElem?_append,hj]):p:=h
theorem Qbl{p:Prop}(h:p:=by exact⟨by rw[HX.out];rfl,Ext.refl _⟩):p:=h
theorem Qbm{p:Prop}(h:p:=by have HR:Hid ((res1,res2)=([],29)):=ZmE (by rw[HP2.out,HN2.out hpre];rfl);rw[hpre]at HFS;clear hpre HN2;go_wp2_with fail;refine(HTX.out _ hx).mono ?_;rintro e w2 ⟨rfl,hx2⟩;rw[HTE.out];go_wp2_with fail;refine(HFS.out _).mono ?_;rintro e w3 ⟨rfl,hx3⟩;rw[show encS (preF none)=.string ⟨#[]⟩from rfl];go_wp2;go_ret2;have hr:=HR.out;simp only[Zn4]at hr;obtain⟨rfl,rfl⟩:=hr;exact ElsR.err _ (hx.trans (hx2.trans hx3))):p:=h
theorem Qbn{p:Prop}(h:p:=by go_wp2_with fail;refine(ZbD _ _ QhN QhN).mono ?_;rintro e w' ⟨rfl,rfl⟩;go_wp2;go_ret;exact⟨Z0 Qit,Xe⟩):p:=h
theorem Qbo{p:Prop}(h:p:=by go_wp2;go_ret2;rw[HR2.out];exact IntsE.bad _ _ _ (Ext.refl _)):p:=h
theorem Qbp{p:Prop}(h:p:=by go_enter func134,ntmps134;go_wp2_with fail;refine(HT.out _).mono ?_;rintro e w1 ⟨rfl,hx1⟩;dsimp only;obtain⟨d0,d1⟩:=FJ.out w1 hx1;have hxw:Ext w w1:=HXA.out.trans hx1;go_wp2;go_ret;exact⟨rfl,hxw⟩):p:=h
theorem Qbq{p:Prop}(h:p:=by
 intro a hn hd;rw[Zqg]at hn;rcases Zn8.1 hd with rfl|hd;·show(fillA V ds (a.put (some d) (V d))).put (some d) v=fillA _ ds (a.put (some d) (if d=d then v else V d));rw[fillA_miss V d v ds _ hn.1,put_put,ZmH rfl]
 ·have hne:c≠d:=fun h=>hn.1 (h▸hd);show(fillA V ds (a.put (some c) (V c))).put (some d) v=fillA _ ds (a.put (some c) (if c=d then v else V c));rw[ih _ hn.2 hd,ZmF hne]):p:=h
theorem Qbr{p:Prop}(h:p:=by go_wp2_with fail;refine(HK.out _).mono ?_;rintro e w4 ⟨rfl,hx4⟩;go_wp2;go_ret2;exact⟨by rw[HT.out];exact Z8 rfl rfl,QiO⟩):p:=h
theorem Qbs{p:Prop}(h:p:=by exact⟨j+1,G++strOfNums [(c.toNat:Int)],by omega,by go_num,rfl,ZmE (HSN.out _ HAA.out),HAS.out,HBN.out hE,by exact(hxr.trans hx2).alloc _⟩):p:=h
theorem Qbt{p:Prop}(h:p:=by go_enter func136,ntmps136;go_wp2_with fail;refine HT.out.mono ?_;rintro e w1 ⟨rfl,hx1⟩;dsimp only;go_wp2;go_ret3;exact⟨rfl,hx1⟩):p:=h
theorem Qbu{p:Prop}(h:p:=by subst hJ;clear h1 h2 HM hl hr;go_enter func251,ntmps251;go_wp2_with fail;refine(HP.out _).mono ?_;rintro e w1 ⟨rfl,rfl⟩;go_wp2_with fail;refine(HQ.out _).mono ?_;rintro e w1 ⟨rfl,rfl⟩;go_wp2_with fail;refine(HL.out _).mono ?_;rintro e w2 ⟨rfl,hx2⟩;go_wp2_with fail;refine(HR.out _).mono ?_;rintro e w3 ⟨rfl,hx3⟩;go_wp2;go_ret3;exact⟨by rw[HN.out,halV,<-HAP.out];rfl,hx2.trans hx3⟩):p:=h
theorem Qbv{p:Prop}(h:p:=by
 left;apply Zqw;·rw[I.size];simp[listedTo];omega
 ·intro i h1 h2;have h1':i<ops.size:=QiP;by_cases him:i<m;(·have:listed.getD i false=true:=(by by_cases e:i=l;(·rw[e];exact hll);·exact hl _ i him e rfl);simp[h1]at this;simp[listedTo,him,this]);·have:=hrest i h1' him;exact Qef):p:=h
theorem Qbw{p:Prop}(h:p:=by go_wp2_with fail;go_ret2;exact⟨_,by rw[HR.out];rfl,by rw[HR.out];exact⟨.inl ⟨rfl,_,_,rfl⟩,none,0,rfl,ZmK _⟩,Ext.refl _⟩):p:=h
theorem Qbx{p:Prop}(h:p:=by exact IntsE.bad _ _ _ (Ext.refl _)):p:=h
theorem Qby{p:Prop}(h:p:=by
 have hle:=Ea.ldg_le l;obtain⟨r,hr⟩:=Ea.ldg_split l QhN;have h2:Ea.trl l<=r.length:=by unfold Ea.trl;rw[hr,ZnP,Zo5,Znu];have:=Zgc r.reverse (Ea.lgt (Ea.ldg l)).reverse;rw[Zn9]at this;exact QeN
 have h3:l.length=Ea.ldg l+(r.length+1):=by rw[hr,ZmM,ZmQ,<-hr];simp[Ea.lgt]
 omega):p:=h
theorem Qbz{p:Prop}(h:p:=by rw[ZmL,ZmG Qi3];rfl):p:=h
theorem QbA{p:Prop}(h:p:=by
 refine⟨(Sl.row hrow).congr ?_,_,_,by rw[ZmI,ZP,HM.out],by rw[ZmI,ZP,HM.out];exact ZmK _⟩;apply ZoX;intro i;by_cases hi:i<j;·have hi':i<(Gs.run cs).length:=(by rw[HM.out];exact hi);simp[Gs.text,hi,hi',ZmL]
 ·have hi':(Gs.run cs).length<=i:=(by rw[HM.out];omega);simp[Gs.text,hi,hi']):p:=h
theorem QbB{p:Prop}(h:p:=by go_wp2_with fail;refine(HK.out _).mono ?_;rintro e w4 ⟨rfl,hx4⟩;go_wp2;go_ret2;exact⟨by rw[HT.out];rfl,QiO⟩):p:=h
theorem QbC{p:Prop}(h:p:=by
 have d1:decide (0<=(a:Int))=true:=by simp
 clear h ha HE;go_enter func128,ntmps128;go_wp2_with fail;refine(HP.out _).mono ?_;rintro e w1 ⟨rfl,rfl⟩;go_wp2_with fail;refine(HC.out _).mono ?_;rintro e w1 ⟨v,rfl,hown,hx1⟩;have hsl:=SlN.ofOwn hown;obtain⟨a1,c1,rfl⟩:=hsl.1.form;rw[ZmI,hcl]at hsl⊢;clear hown;go_wp2;go_ret2;exact⟨_,rfl,hsl,hx1⟩):p:=h
theorem QbD{p:Prop}(h:p:=by injection h with h;subst h;exact⟨hs,(fun h=>by cases h),by simp⟩):p:=h
theorem QbE{p:Prop}(h:p:=by exact Qhm):p:=h
theorem QbF{p:Prop}(h:p:=by intro a hd;simp only[Zn8,not_or]at hd;show(fillA V ds (a.put (some c) (V c))).put (some d) v=fillA _ ds ((a.put (some d) v).put (some c) (if c=d then v else V c));rw[ih _ hd.2,ZmF (fun h=>hd.1 h.symm),Act.put_comm a (x:=some c) (y:=some d) (V c) v (fun x hx=>by injection hx with hx;subst hx;intro h;injection h with h;exact hd.1 h)]):p:=h
theorem QbG{p:Prop}(h:p:=by go_enter func154,ntmps154;go_wp2_with fail;refine HIR2.out.mono ?_;rintro e w1 ⟨rfl,rfl⟩;exact Qhq):p:=h
theorem QbH{p:Prop}(h:p:=by
 rw[Zqg]at hn;rcases Zn8.1 hi with rfl|hi;·rw[Zqc,Zqc,hp,hq];have:l.countP q=l.countP p:=List.countP_congr (fun x hx=>by rw[h x (fun e=>hn.1 (e▸hx))]);simp[this]
 ·have hc:c≠i:=fun e=>hn.1 (e▸hi);have:=ih hn.2 hi;rw[Zqc,Zqc,h c hc];omega):p:=h
theorem QbI{p:Prop}(h:p:=by go_wp2;go_ret2;exact ElsR.err _ (Ext.refl _)):p:=h
theorem QbJ{p:Prop}(h:p:=by exact Qg0):p:=h
theorem QbK{p:Prop}(h:p:=by
 have hil:=(ZmN.1 hi).1;rcases h with⟨h1,_⟩|⟨b,o,cap,he,hb,hc⟩;·have:ws=[]:=Qim;rw[this]at hil;simp at hil
 ·injection he with h1 h2 h3;refine⟨b,o,h1,hb,(hx.cell (p:=⟨b,o+i,none⟩) hb).trans ?_⟩;rw[hc i (by rw[ZmI];exact hil),Znm,hi];rfl):p:=h
theorem QbL{p:Prop}(h:p:=by
 intro a h hs;show(fillA V ds (a.put (some c) (V c))).tmps.getD d undef=_;by_cases hd:ds.contains d=true;·exact ih _ hd (by simp[Act.put];exact hs)
 ·have hd':ds.contains d=false:=(by simpa using hd);rw[fillA_other V d ds _ hd'];simp only[List.contains_cons,hd',Bool.or_false,Znj]at h;subst h;simp[Act.put,hs]):p:=h
theorem QbM{p:Prop}(h:p:=by exact Qg1):p:=h
theorem QbN{p:Prop}(h:p:=by rintro e w1 ⟨rfl,rfl⟩;go_wp2;go_ret2;exact⟨_,by rw[HX.out];rfl,by rw[HX.out];exact SlK.nil _,Ext.refl _⟩):p:=h
theorem QbO{p:Prop}(h:p:=by have HB2:Hid (∀y∈m.take (j+1),y=false):=ZmE (fun y hy=>by rw[Zu hxj]at hy;rcases ZnR.1 hy with h|h;(·exact HB.out y h);·rw[Znz]at h;exact h);clear hxj;exact Qg8):p:=h
theorem QbP{p:Prop}(h:p:=by go_wp2_with fail;refine Zng (Ze results14 rfl (Zg f7) rfl) rfl ?_;exact Qhr):p:=h
theorem QbQ{p:Prop}(h:p:=by clear HR1;go_enter func209,ntmps209;go_wp2_with fail;refine(H2.out _).mono ?_;rintro e w1 ⟨rfl,hx1⟩;go_wp2_with fail;refine(H0.out _).mono ?_;rintro e w2 ⟨rfl,hx2⟩;go_wp2_with fail;rw[HE4.out];refine(H4.out _).mono ?_;rintro e w3 ⟨rfl,hx3⟩;go_wp2;go_ret;exact⟨Zi HR.out.symm,Xf⟩):p:=h
theorem QbR{p:Prop}(h:p:=by go_wp2_with fail;refine Zng (Ze results13 rfl (Zg f7) rfl) rfl ?_;exact Qhr):p:=h
theorem QbS{p:Prop}(h:p:=by go_wp2_with fail;refine(HAW.out _ HT.out).mono ?_;exact QhC):p:=h
theorem QbT{p:Prop}(h:p:=by
 rw[e]at hst;have HO2:=ZmE hst.1;have HX2:=ZmE (HX.out.ofGrown hst.2 (fun k hk=>by injection hk with hk;omega));clear e hst hxi HO;go_wp2_with fail;rw[show((48+max x 0)%256-48:Int)=x by omega];go_roundw;case rel=>exact⟨i+1,by omega,by go_num,HO2,HX2⟩
 case measure=>exact Qak):p:=h
theorem QbU{p:Prop}(h:p:=by simp[go_sem,encI]):p:=h
theorem QbV{p:Prop}(h:p:=by
 obtain rfl:j=3:=by omega
 have HXQ:=ZmE (hxr.trans (Ext.before hxq));have HST2:Hid (res=Ea.decF S fe (leftS (i+1) 0)):=ZmE (by rw[HR.out,ZgD]);clear hjt hj hxq hxr HR;go_wp2;go_roundw;case rel=>exact⟨i+1,fe,by omega,by go_num,rfl,HST2,HXQ.out⟩
 case measure=>exact Q8):p:=h
theorem QbW{p:Prop}(h:p:=by rw[ZmM,ZoQ];omega):p:=h
theorem QbX{p:Prop}(h:p:=by
 intro v' w5 hown5 hg5;have hx5:=(hxr.alloc _).ofGrown hg5 hown.low;have hcj:=HCJ.out w5 hx5;clear hown hg5 hxr;go_wp2;go_roundw;case rel=>exact⟨j+1,by omega,by go_num,by rw[HS1.out];rfl,by rw[HS2.out];rfl,by rw[HTS.out,Zn1];exact hown5,hx5⟩
 case measure=>exact Q8):p:=h
theorem QbY{p:Prop}(h:p:=by go_wp2;go_ret;exact⟨Zi HF.out.symm,rfl⟩):p:=h
theorem QbZ{p:Prop}(h:p:=by go_enter func79,ntmps79;go_wp2_with fail;refine HMG.out.mono ?_;rintro e w1 ⟨rfl,rfl⟩;go_wp2_with fail;refine HWD.out.mono ?_;rintro e w1 ⟨u,rfl,⟨hs,a,c,rfl,hc⟩,hx1⟩;have hnw:=HNW.out;rw[ZmI,<-hnw];clear hnw;go_wp2;go_ret2;rw[HF.out];exact IntsE.bad _ _ _ hx1):p:=h
theorem Qb0{p:Prop}(h:p:=by exact⟨fun _ _=>by kernel_rfl,fun _ _=>by kernel_rfl,fun _ _=>by kernel_rfl,fun _ _=>by kernel_rfl,fun _ _=>by kernel_rfl,fun _ _=>by kernel_rfl⟩):p:=h
theorem Qb1{p:Prop}(h:p:=by go_wp2;go_ret;exact⟨rfl,Xe⟩):p:=h
theorem Qb2{p:Prop}(h:p:=by
 intro a;have:∀(ds:List Nat) (b:Act),b=a->ds.foldl (fun b d=>b.put (some d) (a.tmps.getD d undef)) b=a:=by
  intro ds
  induction ds with
  |nil=>intro b hb;exact hb
  |cons d ds ih=>intro b hb;rw[ZmX];apply ih;subst hb;exact put_self _ d
 exact this ds a rfl):p:=h
theorem Qb3{p:Prop}(h:p:=by
 subst he;rw[<-hc,c8,I.fill];refine hend V w I.ext (fun j hj=>I.fact j hj ?_);have:j<ops.size:=by omega
 simp[listedTo,List.getElem?_append,hj]):p:=h
theorem Qb4{p:Prop}(h:p:=by
 obtain rfl:m=127:=by omega
 have HZ:Hid (res.1=0):=ZmE (HNON.out HB.out);clear hm1 hm2 hlt;go_wp2;go_ret;exact⟨by rw[HZ.out];rfl,hxr⟩):p:=h
theorem Qb5{p:Prop}(h:p:=by
 have hi:i<n:=by rcases ZnY i n with h'|h';(·exact h');·rw[<-hs]at h';simp[Zo3 h']at h
 refine countP_one List.nodup_range (ZnK.2 hi) (by rw[h];rfl) ?_ ?_;·simp[hs,hi]
 ·intro j hj;rw[ZpW true (Ne.symm hj)]):p:=h
theorem Qb6{p:Prop}(h:p:=by
 generalize Lib.indexByte Tw.cCb s[j]=x at*;generalize Tw.sumCb (s.data.toList.take j)=g at*;go_wp2_with fail;refine(HI.out _).mono ?_;rintro e w1 ⟨rfl,rfl⟩;go_wp2;go_round;case rel=>exact⟨j+1,by omega,by go_num,by rw[HSN.out]⟩
 case measure=>exact Q8):p:=h
theorem Qb7{p:Prop}(h:p:=by rw[show(none:Option (List UInt8×List Nat)).isNone=true from rfl]at hLe;have HG:Hid (res=([],18)):=ZmE (by rw[<-HX2.out]);clear HX2;go_wp2_with fail;refine(HRD.out _ HW.out).mono ?_;rintro e w5 ⟨rfl,hx5⟩;go_wp2;go_ret2;exact⟨by rw[HG.out];rfl,HW.out.trans hx5⟩):p:=h
theorem Qb8{p:Prop}(h:p:=by have HF:Hid (res=([],22)):=ZmE (by rw[HR2.out,HC.out,Cc.run_at HXJ.out,<-HSTE.out]);go_wp2;go_ret2;rw[HF.out];exact IntsE.bad _ _ _ hX9):p:=h
theorem Qb9{p:Prop}(h:p:=by
 obtain rfl:j=7:=by omega
 have hsl:=ZkB (B:=w.heap.size) hrow hsz QhX;clear hj hlt hrow;go_wp2;go_ret;refine⟨_,rfl,hsl.congr ?_,hxw.trans hxr⟩;apply ZoK;·simp[HL7.out.2]
 ·intro i h1 h2;simp at h1 h2;simp[h1,encT,h2]):p:=h
theorem Qca{p:Prop}(h:p:=by have HR:=ZmE (HBAD.out (by rw[HPO.out];rfl));go_wp2_with fail;refine HFA.out.mono ?_;rintro e w2 ⟨rfl,hx2⟩;go_wp2_with fail;refine(HFB.out _ hx2).mono ?_;rintro e w3 ⟨rfl,hx3⟩;go_wp2;go_ret2;exact⟨by rw[HR.out];rfl,((hxr.trans hxq).trans hx2).trans hx3⟩):p:=h
theorem Qcb{p:Prop}(h:p:=by rintro e w1 ⟨rfl,rfl⟩;go_wp2_with fail;refine(HC.out _).mono ?_;rintro e w1 ⟨rfl,hx⟩;go_wp2;go_ret;exact⟨by rw[HX.out];rfl,hx⟩):p:=h
theorem Qcc{p:Prop}(h:p:=by clear HP HN hr0 hr;go_wp2;obtain⟨p0,p1,p2,p3⟩:=HQ.out;refine ZnQ (v:=.tuple #[.string ⟨#[]⟩,.agg #[.int .i64 0,.int .i64 0,.int .i64 0,.int .u8 0],.bool false]) QjJ rfl ⟨by rw[HRES.out];rfl,Xf⟩):p:=h
theorem Qcd{p:Prop}(h:p:=by intro a h;simp only[List.contains_cons,Zoz,ZmJ]at h;show(fillA V ds (a.put (some c) (V c))).tmps.getD d undef=_;rw[ih _ (by simpa using h.2)];unfold Act.put;simp[ZoT (show c≠d from fun e=>h.1 e.symm)]):p:=h
theorem Qce{p:Prop}(h:p:=by
 intro V w' hx hf;with_reducible refine relAt_ops ?_
 intro A' ρ hA hρ hcst hfun;have h12:ρ (.tmp 12)=.pointer (some ⟨wr.heap.size,0,none⟩):=(Znf hρ _).trans (evalMiss hA 12 rfl);simp[relUpon,go_sem,hcst,↓IntWalk.iteOmega,Ext.refl,h12];try rfl):p:=h
theorem Qcf{p:Prop}(h:p:=by exact Qhq):p:=h
theorem Qcg{p:Prop}(h:p:=by
 generalize Cd.dg (s[s.size-1-j]' QhN)=d at*;have HS:=ZmE hs1;clear hs1 h0;go_wp2_with fail;refine(HV.out _).mono ?_;rintro e w' ⟨rfl,rfl⟩;go_wp2;go_round;case rel=>exact⟨j,by omega,by go_num,by rw[HS.out]⟩
 case measure=>simp[intOf]):p:=h
theorem Qch{p:Prop}(h:p:=by go_enter func97,ntmps97;go_wp2;go_quiet (fail);go_wp2;refine ZnQ (v:=.tuple #[.agg #[.int .i64 ya,.int .i64 yb,.int .i64 yc,.int .u8 (yd.toNat:Int)],.bool true]) QiR rfl ⟨by rw[HR.out];rfl,Xf⟩):p:=h
theorem Qci{p:Prop}(h:p:=by
 obtain rfl:j=n:=by omega
 have HF:Hid (res=(g:Int)):=ZmE (by have h:=HG.out;rw[ZnD QhU]at h;exact h);have hx9:=HX.out;clear hlt hj;go_wp2_with fail;go_ret;exact⟨Zt HF.out.symm,hx9⟩):p:=h
theorem Qcj{p:Prop}(h:p:=by go_wp2;go_ret2;exact⟨by rw[HDR.out,HRTJ.out QiN,hE];rfl,hxr.trans hx2⟩):p:=h
theorem Qck{p:Prop}(h:p:=by
 have HE:Hid (Ea.ldg (m.drop (k+1))+(k+1)=Ea.ldg m):=ZmE Qi0;clear HL2;go_wp2;go_round;case rel=>exact⟨k+1,by omega,by go_num,HE⟩
 case measure=>exact Q8):p:=h
theorem Qcl{p:Prop}(h:p:=by have hO:=HO.out;rw[ZmW (by rw[HWL.out];exact ZmK _),ZnM,Zpx,ZnC]at hO;have HK:=ZmE hO.slk;have hx9:=HX.out;clear hO HO hi hlt;go_wp2;go_ret;rw[HRES.out];exact⟨_,rfl,HK.out,hx9⟩):p:=h
theorem Qcm{p:Prop}(h:p:=by simp;omega):p:=h
theorem Qcn{p:Prop}(h:p:=by rw[Zs,hJl,Ea.mS_drop,ZpN,Zoi,Ea.mS_take,Zp8];rfl):p:=h
theorem Qco{p:Prop}(h:p:=by go_wp2;go_ret2;exact⟨by rw[HR.out];rfl,hxr⟩):p:=h
theorem Qcp{p:Prop}(h:p:=by clear HD ho;dsimp only[Option.isSome];go_wp2_with fail;refine Zng (Ze results15 rfl (Zd (Zg g7) ((Ext.refl _).alloc _)) rfl) rfl ?_;rw[HF.out];exact⟨rfl,(Zp HX7.out (ZmK _) _ _ _).alloc _⟩):p:=h
theorem Qcq{p:Prop}(h:p:=by exact⟨0,0,ZmP _,rfl,rfl,by omega,by omega,ZmE rfl⟩):p:=h
theorem Qcr{p:Prop}(h:p:=by exact⟨0,ZmP _,rfl,(Zps w _ _ _).congr (fun i _=>by simp),Xe⟩):p:=h
theorem Qcs{p:Prop}(h:p:=by
 have h:c<48:=by assumption
 go_ret;exact⟨Zi (by simp[Cd.isDig];omega),rfl⟩):p:=h
theorem Qct{p:Prop}(h:p:=by decide+kernel):p:=h
theorem Qcu{p:Prop}(h:p:=by
 obtain rfl:j=n:=by omega
 have HF:=ZmE (HRA.out HB.out);have HRS:Hid (res=(G.data.toList,0)):=ZmE (by rw[HDR.out,HF.out,HG.out,<-hra]);clear hj hlt HF HRA HG;go_wp2;go_ret2;exact⟨by rw[HRS.out];exact Z8 rfl rfl,hxr⟩):p:=h
theorem Qcv{p:Prop}(h:p:=by exact⟨rfl,Xf⟩):p:=h
theorem Qcw{p:Prop}(h:p:=by
 have h:48<=c:=by assumption
 go_ret;exact⟨Zi (by simp[Cd.isDig,h]),rfl⟩):p:=h
theorem Qcx{p:Prop}(h:p:=by
 go_wp2;go_roundw;case rel=>exact⟨j+1,fe,by omega,by go_num,rfl,HST2,HXX.out⟩
 case measure=>exact Q8):p:=h
theorem Qcy{p:Prop}(h:p:=by exact⟨0,ZmP _,rfl,ZmE (fun x hx=>by simp at hx)⟩):p:=h
theorem Qcz{p:Prop}(h:p:=by
 have d1:decide (0<=y)=false:=Qcm
 clear h HE;go_enter func128,ntmps128;go_wp2_with fail;refine(HP.out _).mono ?_;rintro e w1 ⟨rfl,rfl⟩;go_wp2;go_ret2;exact⟨.slice none 0 0,rfl,SlN.nil _ _,Ext.refl _⟩):p:=h
theorem QcA{p:Prop}(h:p:=by
 go_wp2_with fail;go_roundw;case rel=>exact⟨i+1,by omega,by go_num,HS3⟩
 case measure=>exact Qak):p:=h
theorem QcB{p:Prop}(h:p:=by rw[Bool.and_eq_false_iff,Zow,Zow];omega):p:=h
theorem QcC{p:Prop}(h:p:=by go_enter func172,ntmps172;go_wp2_with fail;refine(HO.out _).mono ?_;rintro e w1 ⟨rfl,rfl⟩;go_wp2_with fail;refine(HC.out _).mono ?_;rintro e w2 ⟨rfl,hx2⟩;go_wp2;go_ret2;exact⟨by rw[HT.out];rfl,hx2⟩):p:=h
theorem QcD{p:Prop}(h:p:=by have HDT:=ZmE (fun w=>ZhT d h6.out (Zcp hal.out) w);rw[hdt]at HDT;clear hdt;go_wp2_with fail;refine(HDT.out _).mono ?_;rintro e w2 ⟨rfl,hx2⟩;go_wp2;go_ret;exact⟨Zt HR9.out.symm,hxw.trans hx2⟩):p:=h
theorem QcE{p:Prop}(h:p:=by
 intro V w' hx hf;with_reducible refine relAt_ops ?_
 intro A' ρ hA hρ hcst hfun;have h8:ρ (.tmp 8)=.int .i64 SM:=(Znf hρ _).trans (evalMiss hA 8 rfl);exact relUpon_move (hk:=by rw[h8];exact⟨Ext.refl _,rfl⟩)):p:=h
theorem QcF{p:Prop}(h:p:=by
 rw[ZmH hs]at HR2;rcases hs with hs|hs;·exact Qbo
 ·have hs2:¬x0<103:=QhN;exact Qbo):p:=h
theorem QcG{p:Prop}(h:p:=by rw[ZmH h2,ZmH QhN]):p:=h
theorem QcH{p:Prop}(h:p:=by
 go_wp2;go_roundw;case rel=>exact Qbs
 case measure=>exact Q8):p:=h
theorem QcI{p:Prop}(h:p:=by
 go_wp2;go_roundw;case rel=>exact⟨0+1,G++strOfNums [(c.toNat:Int)],by omega,by go_num,rfl,ZmE (HSN.out _ HAA.out),HAS.out,HBN.out hE,by exact(hxr.trans hx2).alloc _⟩
 case measure=>exact Q8):p:=h
theorem QcJ{p:Prop}(h:p:=by exact⟨by omega,by omega,by constructor<;>intro<;>omega⟩):p:=h
theorem QcK{p:Prop}(h:p:=by
 by_cases hc0:c<0;·clear hc;exact QbI
 ·have hc0':0<=c:=QhN;have hc1:127<c:=QhN;clear hc hc0;exact QbI):p:=h
theorem QcL{p:Prop}(h:p:=by injection h with _ h;cases h):p:=h
theorem QcM{p:Prop}(h:p:=by go_wp2;go_ret;exact⟨Zi HR.out.symm,Xf⟩):p:=h
theorem QcN{p:Prop}(h:p:=by
 cases n<;>simp only[relUpon]at h<;>simp only[Oper.upon];case value u=>exact hk _ _ h
 case skip=>exact hk _ _ h
 case enter f args=>exact h.mono fun e w'' ⟨v,he,hv⟩=>by subst he;exact hk _ _ hv):p:=h
theorem QcO{p:Prop}(h:p:=by go_enter func138,ntmps138;go_wp2_with fail;refine(HA.out _).mono ?_;rintro e w1 ⟨rfl,rfl⟩;go_wp2_with fail;go_quiet (fail);go_wp2;go_ret;exact⟨by rw[<-HX.out];rfl,(Ext.refl w).drewN _⟩):p:=h
theorem QcP{p:Prop}(h:p:=by clear hoo;go_wp2_with fail;refine HC1.out.mono ?_;rintro en w5 ⟨rfl,rfl⟩;go_wp2_with fail;refine HC2.out.mono ?_;rintro en w5 ⟨rfl,rfl⟩;go_wp2;go_ret2;exact⟨by rw[HT.out];rfl,hx0.trans hxq⟩):p:=h
theorem QcQ{p:Prop}(h:p:=by have hO:=HO.out;rw[ZmW (by rw[HWL.out];exact ZmK _)]at hO;have HK:=ZmE hO.slk;have hx9:=HX.out;clear hO HO hi hlt;go_wp2;go_ret2;rw[HRES.out];exact⟨_,rfl,HK.out,hx9⟩):p:=h
theorem QcR{p:Prop}(h:p:=by
 clear hrow HRW HWJ hiw;generalize ws.getD j 0=x at*;go_wp2;go_roundw;case rel=>exact⟨j+1,by omega,by go_num,by rw[HS1.out],by rw[HS2.out],HR1.out,HX.out _⟩
 case measure=>exact Q8):p:=h
theorem QcS{p:Prop}(h:p:=by
 rcases h with h|h;·rw[BigFrame.run_move x h];exact hk
 ·rw[BigFrame.run_assign x h];exact hk):p:=h
theorem QcT{p:Prop}(h:p:=by have h2:=HT.out;rw[ZmW QhU]at h2;rw[h2,HSS.out]):p:=h
theorem QcU{p:Prop}(h:p:=by
 intro k hk hl;by_cases hki:i=k;·omega
 ·rw[ZpW false hki]at hl;exact I.tail k hk hl):p:=h
theorem QcV{p:Prop}(h:p:=by go_ret2;rw[HF.out];exact IntsE.bad _ _ _ hx9):p:=h
theorem QcW{p:Prop}(h:p:=by go_wp2_with fail;refine HCH.out.mono ?_;rintro e w6 ⟨u,rfl,hs6,hx6⟩;have HS6:=ZmE hs6;have hx9:=HX5.out.trans hx6;clear hs6;go_wp2;go_ret2;rw[HF.out];exact⟨_,rfl,HS6.out,hx9⟩):p:=h
theorem QcX{p:Prop}(h:p:=by
 unfold Act.put;simp only;congr 1;apply Zqw;·simp
 ·intro i h1 h2;rw[ZpB];split;(·rename_i he;subst he;simp at h1;simp[h1]);·rfl):p:=h
theorem QcY{p:Prop}(h:p:=by
 unfold Tw.read at h'⊢;split;·rename_i i hi;rw[hi]at h';have:=Zp2 hi;simp only at h';simp[h']at this
 ·simp only[ZmI,Zoj];omega):p:=h
theorem QcZ{p:Prop}(h:p:=by exact RdR.none (Zp hxw (ZnI _) _ _ _)):p:=h
theorem Qc0{p:Prop}(h:p:=by exact⟨by rw[HG.out];unfold gotV linV;dsimp only;rw[HTA.out.1,HTA.out.2];rfl,(((HXX.out.setCell (ZmK _) _).setCell (ZmK _) _).setCell (ZmK _) _).alloc _⟩):p:=h
theorem Qc1{p:Prop}(h:p:=by go_wp2;go_ret;exact⟨Zt HR.out.symm,HX.out⟩):p:=h
theorem Qc2{p:Prop}(h:p:=by rw[ZmI,ZmY];omega):p:=h
theorem Qc3{p:Prop}(h:p:=by go_enter func261,ntmps261;go_wp2;refine Zng (ZaJ results261 rfl (ZaS w _ _ _).2 rfl) rfl ?_;rw[HF.out];exact⟨GB.ext Xf,_,_,_,_,_,rfl⟩):p:=h
theorem Qc4{p:Prop}(h:p:=by rw[ZmL,ZmG QhN];exact QhG):p:=h
theorem Qc5{p:Prop}(h:p:=by exact⟨0,ZmP _,rfl,by rw[ZoH,ZU];rfl⟩):p:=h
theorem Qc6{p:Prop}(h:p:=by exact⟨j+1,t+x,by omega,by go_num,rfl,by omega,by omega,HT2⟩):p:=h
theorem Qc7{p:Prop}(h:p:=by have h3:=Znb (fun l=>l[i]?) ht;rw[Zog,ZmH (by rw[ZmI,Zpn];exact hi),Znm,ZmG hi]at h3;exact h3):p:=h
theorem Qc8{p:Prop}(h:p:=by exact⟨0,ZmP _,rfl,by simpa using(Zps (w.alloc (.cells #[.string ⟨#[]⟩,.string ⟨#[]⟩] 86)) (.int .u8 0) m 5).congr (fun i _=>by simp),Xe⟩):p:=h
theorem Qc9{p:Prop}(h:p:=by
 obtain rfl:k=N:=by omega
 have HV1:Hid (res=0):=ZmE (by rw[hv.out,<-HN.out,Zqa];rfl);clear hk hlt hv;go_wp2;go_ret;exact⟨Zt HV1.out.symm,hx⟩):p:=h
theorem Qda{p:Prop}(h:p:=by go_wp2;go_ret;exact⟨Zt HR.out.symm,rfl⟩):p:=h
theorem Qdb{p:Prop}(h:p:=by
 have hb:b<w.heap.size:=by rcases ZnY b w.heap.size with hh|hh;(·exact hh);·rw[Zo3 hh]at h;simp at h
 rw[hx.block b hb];exact h):p:=h
theorem Qdc{p:Prop}(h:p:=by go_wp2;go_ret;exact⟨Zt HR.out.symm,HX.out.trans hx2⟩):p:=h
theorem Qdd{p:Prop}(h:p:=by go_wp2_with fail;refine Zng (ZD results26 rfl (Zg f7) rfl rfl) rfl ?_;rw[HF.out];exact⟨rfl,Zp HXR.out (ZmK _) _ _ _⟩):p:=h
theorem Qde{p:Prop}(h:p:=by exact⟨0,ZmP _,rfl,rfl⟩):p:=h
theorem Qdf{p:Prop}(h:p:=by subst hkm;obtain⟨e,he,hb,hon⟩:=hasEdge_on ho hik.2;rw[<-hon];exact hdep e he hb):p:=h
theorem Qdg{p:Prop}(h:p:=by go_wp2_with fail;go_meet;case rel=>exact HM):p:=h
theorem Qdh{p:Prop}(h:p:=by exact⟨_,rfl,HK.out,hx9⟩):p:=h
theorem Qdi{p:Prop}(h:p:=by exact⟨32,ZmK _,by omega,rfl,ZmE (fun d h1 h2=>by omega),Ext.refl _⟩):p:=h
theorem Qdj{p:Prop}(h:p:=by go_wp2_with fail;refine Zng (Ze results83 rfl (Zg f7) rfl) rfl ?_;rw[HF.out];exact RdR.none (Zp hxw (ZmK _) _ _ _)):p:=h
theorem Qdk{p:Prop}(h:p:=by go_wp2_with fail;refine Zng (Ze results35 rfl (Zg f7) rfl) rfl ?_;rw[HF.out];exact Qg7):p:=h
theorem Qdl{p:Prop}(h:p:=by go_enter func207,ntmps207;go_wp2_with fail;refine HD.out.mono ?_;rintro e w' ⟨rfl,rfl⟩;go_wp2;go_ret;exact⟨Zi (by simp[HR.out]),rfl⟩):p:=h
theorem Qdm{p:Prop}(h:p:=by rw[ZnO];obtain⟨h2,h3⟩:=ZmN.1 hck;rw[h3];rfl):p:=h
theorem Qdn{p:Prop}(h:p:=by
 have HS:=ZmE hs1;clear hs1;go_wp2;go_round;case rel=>exact⟨k+1,by omega,by go_num,by rw[HS.out];simp[Cd.dg]⟩
 case measure=>exact Q8):p:=h
theorem Qdo{p:Prop}(h:p:=by
 have hE:rdE j=18:=by rw[HE.out,ZmH ⟨hjp,by rw[HGQ.out]⟩]
 clear HE;go_wp2;go_ret2;exact⟨by rw[HDR.out,HRTJ.out QiN,hE];rfl,hxr⟩):p:=h
theorem Qdp{p:Prop}(h:p:=by
 go_wp2;go_round;case rel=>exact⟨j+1,t2,by omega,by go_num,by first|rfl|(rw[<-hq])|(simp[hq]),hq0,hq1,HT2⟩
 case measure=>exact Qak):p:=h
theorem Qdq{p:Prop}(h:p:=by go_enter func209,ntmps209;go_wp2_with fail;refine(H2.out _).mono ?_;rintro e w1 ⟨rfl,hx1⟩;go_wp2;go_ret;exact⟨Zi HR.out.symm,hx1⟩):p:=h
theorem Qdr{p:Prop}(h:p:=by rw[hr]at this;injection this with h1 h2;exact⟨h1,h2⟩):p:=h
theorem Qds{p:Prop}(h:p:=by
 clear hc HR;go_wp2;go_roundw;case rel=>exact .inr ⟨k+1,cap,by omega,by omega,by go_num,rfl,HR1.out,HX.out _⟩
 case measure=>exact Q8):p:=h
theorem Qdt{p:Prop}(h:p:=by rintro e w1 ⟨rfl,rfl⟩;go_wp2_with fail;refine(HRI.out _).mono ?_;rintro e w2 ⟨rfl,hx2⟩;go_wp2;go_ret2;exact⟨by rw[HX.out,HBS.out];rfl,hx2⟩):p:=h
theorem Qdu{p:Prop}(h:p:=by kernel_rfl):p:=h
theorem Qdv{p:Prop}(h:p:=by
 go_wp2_with fail;go_quiet (fail);go_wp2;go_roundw;case rel=>exact⟨k+1,by omega,by go_num,HT2,hxr.drewN _⟩
 case measure=>exact Q8):p:=h
theorem Qdw{p:Prop}(h:p:=by go_enter func197,ntmps197;go_wp2_with fail;refine HC.out.mono ?_;rintro e w1 ⟨rfl,rfl⟩;go_wp2;go_ret2;exact QhF):p:=h
theorem Qdx{p:Prop}(h:p:=by simp at this;omega):p:=h
theorem Qdy{p:Prop}(h:p:=by intro e;have:=Znb List.length e;rw[Zb,ZnE]at this;omega):p:=h
theorem Qdz{p:Prop}(h:p:=by
 clear hown hown5 hg5 hsz;go_wp2_with fail;go_roundw;case rel=>exact⟨q+1,by omega,by go_num,HO5,HX5⟩
 case measure=>exact Qak):p:=h
theorem QdA{p:Prop}(h:p:=by
 go_wp2;go_roundw;case rel=>exact⟨k+1,by omega,by go_num,by rw[HT.out,Zn1];exact hown5,hx5⟩
 case measure=>exact Q8):p:=h
theorem QdB{p:Prop}(h:p:=by rw[Zc hs,Ea.mS_len]):p:=h
theorem QdC{p:Prop}(h:p:=by go_enter func52,ntmps52;go_wp2_with fail;refine HF.out.mono ?_;rintro e w1 ⟨rfl,hx1⟩;go_wp2;go_ret2;exact⟨by rw[HV.out];rfl,hx1⟩):p:=h
theorem QdD{p:Prop}(h:p:=by rw[ZmH h2,ZmH (show k<j+1 by omega)]):p:=h
theorem QdE{p:Prop}(h:p:=by
 clear hc HR;go_wp2;go_roundw;case rel=>exact .inr ⟨1,cap,by omega,by omega,rfl,rfl,HR1.out,HX.out _⟩
 case measure=>exact Q8):p:=h
theorem QdF{p:Prop}(h:p:=by rw[<-hx,Int.tmod_eq_emod_of_nonneg QhN];omega):p:=h
theorem QdG{p:Prop}(h:p:=by rw[Zn3 h1,h2]):p:=h
theorem QdH{p:Prop}(h:p:=by rw[hck]at HCK;clear hck;go_wp2_with fail;refine(HCK.out _).mono ?_;rintro e w2 ⟨rfl,rfl⟩;go_wp2;go_ret;exact⟨Zt HR9.out.symm,hxw⟩):p:=h
theorem QdI{p:Prop}(h:p:=by exact⟨0,ZmP _,rfl,ZmE (Own.nil _ _ _),ZmE (Ext.refl _)⟩):p:=h
theorem QdJ{p:Prop}(h:p:=by injection h with h;subst h;exact⟨by decide,(fun h=>by cases h),by simp⟩):p:=h
theorem QdK{p:Prop}(h:p:=by rintro e w1 ⟨rfl,rfl⟩;go_wp2_with fail;refine(HRI.out _).mono ?_;rintro e w2 ⟨rfl,hx2⟩;go_wp2;go_ret2;exact⟨by rw[HX.out];rfl,hx2⟩):p:=h
theorem QdL{p:Prop}(h:p:=by clear h;go_wp2;go_quiet (fail);go_wp2;go_ret;exact⟨HF.out _ HG.out,Xf⟩):p:=h
theorem QdM{p:Prop}(h:p:=by unfold hasEdge at h;rw[ho]at h;simp only[Array.any_eq_true',Zno,Znj]at h;obtain⟨e,he,hb,h⟩:=h;exact⟨e,he,hb,h⟩):p:=h
theorem QdN{p:Prop}(h:p:=by have hy:=h y (Znh ..);simp only[ZmX];refine ih (fun x hx=>h x (Zne _ hx)) _ ?_;exact QhE):p:=h
theorem QdO{p:Prop}(h:p:=by
 clear hql hq;go_wp2_with fail;go_roundw;case rel=>exact⟨j+1,by omega,by go_num,HO3,HX⟩
 case measure=>exact Qak):p:=h
theorem QdP{p:Prop}(h:p:=by
 by_cases h:L<7;·exact .inl (ZmR QhN)
 ·exact .inr ⟨ZmS QhN,ZmR QhN⟩):p:=h
theorem QdQ{p:Prop}(h:p:=by
 rintro e w' ⟨rfl,rfl⟩;go_wp2;go_round;case rel=>exact⟨n+1,by omega,HN.out,by go_num⟩
 case measure=>exact Q8):p:=h
theorem QdR{p:Prop}(h:p:=by simp[Tw.isIn];omega):p:=h
theorem QdS{p:Prop}(h:p:=by rw[ZpA,Array.getElem?_replicate];split<;>rfl):p:=h
theorem QdT{p:Prop}(h:p:=by (repeat' split)<;>omega):p:=h
theorem QdU{p:Prop}(h:p:=by rw[Zom];omega):p:=h
theorem QdV{p:Prop}(h:p:=by go_wp2;refine Zng (Ze results78 rfl (Znx _ _) rfl) rfl ?_;exact⟨by rw[<-HX.out];rfl,Xf⟩):p:=h
theorem QdW{p:Prop}(h:p:=by have h1:=HL2.out;rw[HMS.out,ZmM,Zns]at h1;rw[ZmM,Zns];omega):p:=h
theorem QdX{p:Prop}(h:p:=by rw[List.find?_eq_some_iff_getElem];refine⟨by simpa using h,j,by simpa using hj,by simp,fun i hi=> ?_⟩;simpa using hb i hi):p:=h
theorem QdY{p:Prop}(h:p:=by exact⟨i,i+1,pre++[x],rfl,by go_num,by omega,by omega,hpl2,HR2,by first|exact HS2|exact ZmE (.inr rfl),HJ3,HB3,HBX3⟩):p:=h
theorem QdZ{p:Prop}(h:p:=by
 go_wp2;go_roundw;case rel=>exact⟨j+1,er,by omega,by go_num,rfl,HST2,HXX.out⟩
 case measure=>exact Q8):p:=h
theorem Qd0{p:Prop}(h:p:=by exact ZmK _):p:=h
theorem Qd1{p:Prop}(h:p:=by intro i _ h;rw[hf]at h;cases h):p:=h
theorem Qd2{p:Prop}(h:p:=by go_wp2;refine Zng (Ze results214 rfl (Zg HB) rfl) rfl ?_;exact⟨by rw[HG.out];rfl,Xf⟩):p:=h
theorem Qd3{p:Prop}(h:p:=by go_wp2;refine Zng (Ze results212 rfl (Zg HB) rfl) rfl ?_;exact⟨by rw[HG.out];rfl,Xf⟩):p:=h
theorem Qd4{p:Prop}(h:p:=by
 congr 3;by_cases h:l.length%2=0;·rw[ZmH h,ZmF QhN]
 ·rw[ZmF h,ZmH QhN,Bool.not_not]):p:=h
theorem Qd5{p:Prop}(h:p:=by exact absurd (by rw[a1];simp only[hc,Zgs]) (h _ a2 a3)):p:=h
theorem Qd6{p:Prop}(h:p:=by exact⟨by rw[HG.out];rfl,((hxx.setCell (ZmK _) _).setCell (ZmK _) _).setCell (ZmK _) _⟩):p:=h
theorem Qd7{p:Prop}(h:p:=by go_wp2_with fail;refine HC.out.mono ?_;rintro e w1 ⟨rfl,rfl⟩;go_wp2;go_ret2;exact⟨by rw[HV3.out];rfl,rfl⟩):p:=h
theorem Qd8{p:Prop}(h:p:=by
 go_wp2;go_round;case rel=>exact⟨k+1,by omega,by go_num,by rw[HS.out]⟩
 case measure=>exact Q8):p:=h
theorem Qd9{p:Prop}(h:p:=by rename_i h1;simp only[Zn4]at h;exact absurd h.2 h1):p:=h
theorem Qea{p:Prop}(h:p:=by rw[HN.out];omega):p:=h
theorem Qeb{p:Prop}(h:p:=by subst h1;rw[ZmH rfl,ZmH (show k<k+1 by omega),hbb];rfl):p:=h
theorem Qec{p:Prop}(h:p:=by rw[HE.out,ZmF Qj2,ZmF (fun h=>HN1.out h.1),ZmF QhN]):p:=h
theorem Qed{p:Prop}(h:p:=by exact⟨s.size,ZmK _,rfl,by rw[ZnM];rfl⟩):p:=h
theorem Qee{p:Prop}(h:p:=by rw[ZmJ];exact QhB):p:=h
theorem Qef{p:Prop}(h:p:=by simp[h1]at this;simp[listedTo,Zqq,him,this]):p:=h
theorem Qeg{p:Prop}(h:p:=by exact⟨0,ZmP _,rfl,ZmE (fun x hx=>by simp at hx),ZmE (Own.nil _ _ _),ZmE (Ext.refl _)⟩):p:=h
theorem Qeh{p:Prop}(h:p:=by rw[ZmF hg,ZmF hg,ZmH (show(8:Int)≠0 by decide)]):p:=h
theorem Qei{p:Prop}(h:p:=by rw[UInt8.toNat_ofNat'];omega):p:=h
theorem Qej{p:Prop}(h:p:=by go_wp2_with fail;refine HJ.out.mono ?_;rintro e w1 ⟨rfl,hx1⟩;go_wp2;go_ret;exact⟨rfl,hxr.trans hx1⟩):p:=h
theorem Qek{p:Prop}(h:p:=by simp only[Zno,Zna]at hc';omega):p:=h
theorem Qel{p:Prop}(h:p:=by rw[hz]at e;injection e with e;subst e;exact Hp.lessS_ir _):p:=h
theorem Qem{p:Prop}(h:p:=by obtain⟨n,hn⟩:=Znv hi0;have:=Zai _ _ _ hn;have h4:Tw.cCb.length=20:=rfl;omega):p:=h
theorem Qen{p:Prop}(h:p:=by exact⟨0,ZmP _,rfl,Own.nil _ _ _,ZmE (fun m hm=>absurd hm (Zo6 _)),Ext.refl _⟩):p:=h
theorem Qeo{p:Prop}(h:p:=by first|trivial|(refine⟨?_,?_,?_⟩<;>first|rfl|trivial)):p:=h
theorem Qep{p:Prop}(h:p:=by go_wp2_with fail;go_meet;case rel=>exact Qbg):p:=h
theorem Qeq{p:Prop}(h:p:=by go_wp2;go_ret2;exact⟨.slice none 0 0,by rw[HT.out];rfl,by rw[HT.out];exact Own.nil _ _ _,Ext.refl _⟩):p:=h
theorem Qer{p:Prop}(h:p:=by unfold twCutB;rw[ZmI,ZmY,Znr,show fives.length=50 from rfl];omega):p:=h
theorem Qes{p:Prop}(h:p:=by
 split;·exact Qd0
 ·exact ZmP _):p:=h
theorem Qet{p:Prop}(h:p:=by exact⟨0,ZmP _,rfl,Own.nil _ _ _,Ext.refl _⟩):p:=h
theorem Qeu{p:Prop}(h:p:=by rename_i g;rw[ZmH g]at he;simp at he):p:=h
theorem Qev{p:Prop}(h:p:=by rw[<-Zb,hXE,ZmI,hwl]):p:=h
theorem Qew{p:Prop}(h:p:=by rw[Zqi,Zn1];rfl):p:=h
theorem Qex{p:Prop}(h:p:=by clear hxy;go_wp2_with fail;go_quiet (fail);go_wp2;go_ret;exact⟨Zi HF.out.symm,hxr.drewN _⟩):p:=h
theorem Qey{p:Prop}(h:p:=by first|(have:=HSB.out;simp;omega)|(have:=HSB.out;omega)):p:=h
theorem Qez{p:Prop}(h:p:=by rintro e w1 ⟨rfl,rfl⟩;go_wp2;go_ret2;exact⟨by rw[HT.out];exact Z8 rfl rfl,Ext.refl _⟩):p:=h
theorem QeA{p:Prop}(h:p:=by
 rcases h with⟨rfl,a,c,rfl⟩|⟨b,off,cap,rfl,_⟩;·exact⟨a,c,rfl⟩
 ·exact⟨_,_,rfl⟩):p:=h
theorem QeB{p:Prop}(h:p:=by exact⟨0,⟨#[]⟩,ZmP _,rfl,rfl,ZmE rfl,rfl,ZmE (fun i h=>by omega),Ext.refl _⟩):p:=h
theorem QeC{p:Prop}(h:p:=by go_wp2;go_ret2;exact⟨.slice none 0 0,by rw[HT.out];rfl,by rw[HT.out];exact Zic _,Ext.refl _⟩):p:=h
theorem QeD{p:Prop}(h:p:=by rw[ho]at h4;simp only[Zno,Znd,Zna]at h4;exact(h4.2 j hj).1):p:=h
theorem QeE{p:Prop}(h:p:=by exact⟨0,ZmP _,rfl,HOm,HXm⟩):p:=h
theorem QeF{p:Prop}(h:p:=by rw[ZmY];omega):p:=h
theorem QeG{p:Prop}(h:p:=by exact ZnF (Nat.mul_le_mul_right 32 (show xs.length+1<=1000000000 by omega)) QhP):p:=h
theorem QeH{p:Prop}(h:p:=by rw[HE.out,ZmF Qj2,ZmF (by have:=HJN.out;omega)]):p:=h
theorem QeI{p:Prop}(h:p:=by intro u' hu;simp only[Zn8,Zoy,ZpD]at hu;rcases hu with rfl|rfl<;>rfl):p:=h
theorem QeJ{p:Prop}(h:p:=by rw[Znk,Bool.eq_false_iff];intro h;exact a3 ((ZW a).1 (List.isEmpty_iff.1 h))):p:=h
theorem QeK{p:Prop}(h:p:=by obtain⟨x,h1,h2,h3⟩:=key j m' w' hm hw;unfold lessS at h1;split at h1<;>simp at h1<;>omega):p:=h
theorem QeL{p:Prop}(h:p:=by go_wp2;go_ret;exact⟨Zi HN.out.symm,rfl⟩):p:=h
theorem QeM{p:Prop}(h:p:=by go_wp2;go_ret;exact⟨Zi HR.out.symm,rfl⟩):p:=h
theorem QeN{p:Prop}(h:p:=by exact this):p:=h
theorem QeO{p:Prop}(h:p:=by simp[go_sem,encT]):p:=h
theorem QeP{p:Prop}(h:p:=by exact⟨0,ZmP _,rfl,(Zps w1 _ _ _).congr (fun i _=>by simp),Xe⟩):p:=h
theorem QeQ{p:Prop}(h:p:=by exact⟨0,ZmP _,rfl,Own.nil _ _ _,Own.nil _ _ _,Apart.nil_left _,Ext.refl _⟩):p:=h
theorem QeR{p:Prop}(h:p:=by rw[hcs,<-hrd,Znu,<-Zpw,ZnX];exact hs):p:=h
theorem QeS{p:Prop}(h:p:=by rw[Zno,Zna]at h;subst hA;exact fillA_here V d ds a h.1 h.2):p:=h
theorem QeT{p:Prop}(h:p:=by unfold maxLen;omega):p:=h
theorem QeU{p:Prop}(h:p:=by simp only[ZA,h]at h1;exact h1 trivial):p:=h
theorem QeV{p:Prop}(h:p:=by exact⟨1,ZmK _,by decide,rfl,ZmE (fun i hi=>absurd hi QhN),HW⟩):p:=h
theorem QeW{p:Prop}(h:p:=by rw[ZmW QhU]at h2;rw[h2,HS.out]):p:=h
theorem QeX{p:Prop}(h:p:=by rw[HS.out]at h1;unfold Ea.mS at h1;rw[Znm,hb]at h1;simpa using h1.symm):p:=h
theorem QeY{p:Prop}(h:p:=by exact Bool.noConfusion this):p:=h
theorem QeZ{p:Prop}(h:p:=by go_enter func247,ntmps247;go_wp2;go_ret2;exact⟨by rw[HV.out];rfl,rfl⟩):p:=h
theorem Qe0{p:Prop}(h:p:=by rw[ZoE];exact⟨s[k],Zj s k h,by rw[hp];exact Bool.noConfusion⟩):p:=h
theorem Qe1{p:Prop}(h:p:=by rw[show(48+(d:Int))=((48+d:Nat):Int) by omega];exact Zav (48+d) QhN):p:=h
theorem Qe2{p:Prop}(h:p:=by have:=Znb List.length e;rw[ZmM,ZmQ]at this;omega):p:=h
theorem Qe3{p:Prop}(h:p:=by rw[Zs];exact ZmW QiT):p:=h
theorem Qe4{p:Prop}(h:p:=by rw[ZmJ];intro h;exact hc0 (ZnJ.1 Qh1)):p:=h
theorem Qe5{p:Prop}(h:p:=by simp only[relCheckL,Zno,Zna]at hchk;exact hchk.1.1.2):p:=h
theorem Qe6{p:Prop}(h:p:=by
 rcases h.2 with⟨h1,_⟩|⟨g',cap,cur,h1,_⟩;·cases h1
 ·injection h1):p:=h
theorem Qe7{p:Prop}(h:p:=by have:=HQ.out;omega):p:=h
theorem Qe8{p:Prop}(h:p:=by have:=HN.out;omega):p:=h
theorem Qe9{p:Prop}(h:p:=by rw[ZmY,Znr];omega):p:=h
theorem Qfa{p:Prop}(h:p:=by exact⟨by rw[HS.out];rfl,Xf⟩):p:=h
theorem Qfb{p:Prop}(h:p:=by rw[<-hJ,Zs,hs,Ea.mS_drop,Ea.mS_take]):p:=h
theorem Qfc{p:Prop}(h:p:=by rw[ZmH h1]at h;cases h):p:=h
theorem Qfd{p:Prop}(h:p:=by
 have:=HTS.out;have h7:tx.length=TX.size:=by rw[<-HTL.out,Zb]
 omega):p:=h
theorem Qfe{p:Prop}(h:p:=by exact⟨j,by omega,by go_num,by rw[HS.out];simp[Cd.dg],by rw[HS.out];rfl⟩):p:=h
theorem Qff{p:Prop}(h:p:=by exact⟨s.size,ZmK _,rfl,by rw[ZU];rfl,by rw[ZU];rfl⟩):p:=h
theorem Qfg{p:Prop}(h:p:=by simp only[beq_self_eq_true,Bool.and_self]):p:=h
theorem Qfh{p:Prop}(h:p:=by have:=HB3.out;rw[h]at this;dsimp only;rw[ZmF (ZoA this)]):p:=h
theorem Qfi{p:Prop}(h:p:=by
 have:(UInt8.ofNat c.toNat).toNat=c.toNat:=Qcm
 rw[this];omega):p:=h
theorem Qfj{p:Prop}(h:p:=by exact⟨by rw[HG.out];unfold symV linV;dsimp only;rw[<-HSS.out];rfl,Xf⟩):p:=h
theorem Qfk{p:Prop}(h:p:=by exact Zob.2 h0):p:=h
theorem Qfl{p:Prop}(h:p:=by rw[Zc hJl,Ea.mS_len,ZmY,Znr,hW];rfl):p:=h
theorem Qfm{p:Prop}(h:p:=by go_wp2;go_ret2;exact⟨_,by rw[HT.out];rfl,by rw[HT.out];exact hsl,hxr⟩):p:=h
theorem Qfn{p:Prop}(h:p:=by clear hk hlt;go_wp2;go_ret;exact⟨_,rfl,by rw[HT.out];exact hown,hxr⟩):p:=h
theorem Qfo{p:Prop}(h:p:=by rcases hkk with rfl|rfl|rfl|rfl<;>decide):p:=h
theorem Qfp{p:Prop}(h:p:=by first|omega|(simp;omega)):p:=h
theorem Qfq{p:Prop}(h:p:=by
 have h':i=0∨i=1∨i=2:=by omega
 rcases h' with rfl|rfl|rfl<;>decide):p:=h
theorem Qfr{p:Prop}(h:p:=by rename_i g;rw[ZmH g]at hz;simp at hz):p:=h
theorem Qfs{p:Prop}(h:p:=by rw[ZpL];intro i hi;simpa using hb i Qiv):p:=h
theorem Qft{p:Prop}(h:p:=by rw[ZmH hg,ZmH hg,ZmF QhQ,ZmF (fun h=>by cases h.1)]):p:=h
theorem Qfu{p:Prop}(h:p:=by exact⟨0,0,ZmP _,rfl,rfl,by omega,HR,ZmE (Ext.refl _)⟩):p:=h
theorem Qfv{p:Prop}(h:p:=by rw[show K-j=(K-(j+1))+1 by omega,Cc.valsGo,Zoi,<-hq];rfl):p:=h
theorem Qfw{p:Prop}(h:p:=by go_wp2;go_ret;exact⟨by rw[HT.out];exact Za2 rfl,Ext.refl _⟩):p:=h
theorem Qfx{p:Prop}(h:p:=by rw[Ea.addn_len a1' Qiz,Zb];exact hw47):p:=h
theorem Qfy{p:Prop}(h:p:=by clear hst;go_wp2;go_ret2;exact⟨by rw[HT.out];rfl,hx0.trans hxr⟩):p:=h
theorem Qfz{p:Prop}(h:p:=by rw[HE.out,ZmF (by intro h;exact absurd h.2.2 Bool.noConfusion)]):p:=h
theorem QfA{p:Prop}(h:p:=by rw[a2 k QhN,Zo0 QhN,hlr];simp):p:=h
theorem QfB{p:Prop}(h:p:=by rename_i h2;rw[ZmH h2]at h;cases h):p:=h
theorem QfC{p:Prop}(h:p:=by rw[show 2*(j+1)=2*j+1+1 by omega];rfl):p:=h
theorem QfD{p:Prop}(h:p:=by rw[<-hX];exact(Cc.pat_cut _ QhO lo hi).trans HPA.out):p:=h
theorem QfE{p:Prop}(h:p:=by rw[Zpn,Zqv];exact toList_madeCells_one _ _):p:=h
theorem QfF{p:Prop}(h:p:=by rw[ZmH he];simp[he]):p:=h
theorem QfG{p:Prop}(h:p:=by go_wp2;go_end0;exact⟨rfl,q',HQ2.out,HH2.out,HP2.out,HG2.out⟩):p:=h
theorem QfH{p:Prop}(h:p:=by simpa using this):p:=h
theorem QfI{p:Prop}(h:p:=by exact fun h=>hn (Cd.dih_inv_only c n ⟨hb1,hb2⟩ QhN h)):p:=h
theorem QfJ{p:Prop}(h:p:=by rw[Zog,ZmH hi,Zqe];exact ho):p:=h
theorem QfK{p:Prop}(h:p:=by intro h;have:=Zc h;rw[ZnE]at this;omega):p:=h
theorem QfL{p:Prop}(h:p:=by
 unfold Addr.add;split;·rename_i h;subst h;rfl
 ·simp):p:=h
theorem QfM{p:Prop}(h:p:=by rename_i hv;simp only[Zn4]at h;exact absurd h.2.2 hv):p:=h
theorem QfN{p:Prop}(h:p:=by exact⟨0,7,by omega,rfl,rfl,ZmE HX.out.symm,Ext.refl _⟩):p:=h
theorem QfO{p:Prop}(h:p:=by rintro rfl;revert h;decide):p:=h
theorem QfP{p:Prop}(h:p:=by exact⟨⟨digs_take h _,hz5⟩,digs_take (digs_drop h _) _⟩):p:=h
theorem QfQ{p:Prop}(h:p:=by subst h1;rw[ZmH rfl,ZmH QhN,HB.out];exact hx.symm):p:=h
theorem QfR{p:Prop}(h:p:=by clear hx;go_wp2;go_ret;exact⟨-1,rfl,rfl,by rw[HN.out];rfl⟩):p:=h
theorem QfS{p:Prop}(h:p:=by simpa using h2):p:=h
theorem QfT{p:Prop}(h:p:=by rw[Zpi];have:(50:UInt8).toNat=50:=rfl;omega):p:=h
theorem QfU{p:Prop}(h:p:=by rw[hG];exact ZnF (Nat.gcd_le_right g QhN) hm2):p:=h
theorem QfV{p:Prop}(h:p:=by rw[Zc HTL.out];simp[HTX.out.2.2.1,HTX.out.2.2.2]):p:=h
theorem QfW{p:Prop}(h:p:=by go_wp2_with fail;go_ret;exact⟨Zt HRES.out.symm,hx9⟩):p:=h
theorem QfX{p:Prop}(h:p:=by rw[Zc hs,Ea.mS_len,hW]):p:=h
theorem QfY{p:Prop}(h:p:=by clear HP HN;go_wp2;go_ret;exact⟨by rw[HRES.out];rfl,hx⟩):p:=h
theorem QfZ{p:Prop}(h:p:=by rw[ZmH h0]at h;cases h):p:=h
theorem Qf0{p:Prop}(h:p:=by unfold Ea.size;rw[ZmF h1,ZmF h2,ZmF h3,ZmF h4]):p:=h
theorem Qf1{p:Prop}(h:p:=by rw[ZmY]at this;omega):p:=h
theorem Qf2{p:Prop}(h:p:=by exact .inl ⟨Znq h0,_,_,hnil⟩):p:=h
theorem Qf3{p:Prop}(h:p:=by rw[<-Zb,hD,Znr];have:=HTL.out.1;omega):p:=h
theorem Qf4{p:Prop}(h:p:=by go_wp2;go_ret2;exact⟨by rw[HG.out];rfl,hxr.trans hx3⟩):p:=h
theorem Qf5{p:Prop}(h:p:=by show _=_;unfold Cd.comp;rw[ZmF hne,Zb,ZmF hl]):p:=h
theorem Qf6{p:Prop}(h:p:=by show _=_;unfold Cd.comp;rw[ZmF hne,Zb,ZmH hl]):p:=h
theorem Qf7{p:Prop}(h:p:=by clear hq;go_wp2;go_ret;exact⟨Zt HV.out.symm,hXY⟩):p:=h
theorem Qf8{p:Prop}(h:p:=by cases check<;>decide):p:=h
theorem Qf9{p:Prop}(h:p:=by rw[a2 i QhN,Zol QhN]):p:=h
theorem Qga{p:Prop}(h:p:=by intro k i _ h;rw[hf]at h;cases h):p:=h
theorem Qgb{p:Prop}(h:p:=by exact Znx _ _):p:=h
theorem Qgc{p:Prop}(h:p:=by
 go_enter func261,ntmps261;go_wp2_with (at_builtin;refine Zm rfl _ _ rfl B _ out Qh8 (((HO.out.alloc _).alloc _).alloc _) _ (x+32) rfl ?c1 ?c2 ?c3 ?_);case c1=>exact QbU
 case c2=>exact Qea
 case c3=>exact Qa3
 intro v' w5 hown5 hg5;have hown5:Own 3 w5 B v' ((out++[x+32]).map encI):=QaQ
 have hg5:GB (Value.slice a n c).ownBlock _ w5:=hg5;have hform:=hown5.slk.2;rw[ZmI,ZmM,HN.out]at hform;obtain⟨a5,c5,rfl,-⟩:=hform;obtain⟨n5,hn5⟩:∃n5,n5=n+([x+32]:List Int).length:=⟨_,rfl⟩;exact Qb):p:=h
theorem Qgd{p:Prop}(h:p:=by
 subst hp9;go_enter func261,ntmps261;go_wp2_with (at_builtin;refine Zm rfl _ _ rfl B _ out Qh8 (((HO.out.alloc _).alloc _).alloc _) _ (259) rfl ?c1 ?c2 ?c3 ?_);case c1=>exact QbU
 case c2=>exact Qea
 case c3=>exact Qa3
 intro v' w5 hown5 hg5;have hown5:Own 3 w5 B v' ((out++[259]).map encI):=QaQ
 have hg5:GB (Value.slice a n c).ownBlock _ w5:=hg5;have hform:=hown5.slk.2;rw[ZmI,ZmM,HN.out]at hform;obtain⟨a5,c5,rfl,-⟩:=hform;obtain⟨n5,hn5⟩:∃n5,n5=n+([259]:List Int).length:=⟨_,rfl⟩;exact Qb):p:=h
theorem Qge{p:Prop}(h:p:=by
 subst hp9;go_enter func261,ntmps261;go_wp2_with (at_builtin;refine Zm rfl _ _ rfl B _ out Qh8 (((HO.out.alloc _).alloc _).alloc _) _ (257) rfl ?c1 ?c2 ?c3 ?_);case c1=>exact QbU
 case c2=>exact Qea
 case c3=>exact Qa3
 intro v' w5 hown5 hg5;have hown5:Own 3 w5 B v' ((out++[257]).map encI):=QaQ
 have hg5:GB (Value.slice a n c).ownBlock _ w5:=hg5;have hform:=hown5.slk.2;rw[ZmI,ZmM,HN.out]at hform;obtain⟨a5,c5,rfl,-⟩:=hform;obtain⟨n5,hn5⟩:∃n5,n5=n+([257]:List Int).length:=⟨_,rfl⟩;exact Qb):p:=h
theorem Qgf{p:Prop}(h:p:=by
 subst hp9;go_enter func261,ntmps261;go_wp2_with (at_builtin;refine Zm rfl _ _ rfl B _ out Qh8 (((HO.out.alloc _).alloc _).alloc _) _ (258) rfl ?c1 ?c2 ?c3 ?_);case c1=>exact QbU
 case c2=>exact Qea
 case c3=>exact Qa3
 intro v' w5 hown5 hg5;have hown5:Own 3 w5 B v' ((out++[258]).map encI):=QaQ
 have hg5:GB (Value.slice a n c).ownBlock _ w5:=hg5;have hform:=hown5.slk.2;rw[ZmI,ZmM,HN.out]at hform;obtain⟨a5,c5,rfl,-⟩:=hform;obtain⟨n5,hn5⟩:∃n5,n5=n+([258]:List Int).length:=⟨_,rfl⟩;exact Qb):p:=h
theorem Qgg{p:Prop}(h:p:=by
 go_enter func261,ntmps261;go_wp2_with (at_builtin;refine Zm rfl _ _ rfl B _ out Qh8 (((HO.out.alloc _).alloc _).alloc _) _ (x-64) rfl ?c1 ?c2 ?c3 ?_);case c1=>exact QbU
 case c2=>exact Qea
 case c3=>exact Qa3
 intro v' w5 hown5 hg5;have hown5:Own 3 w5 B v' ((out++[x-64]).map encI):=QaQ
 have hg5:GB (Value.slice a n c).ownBlock _ w5:=hg5;have hform:=hown5.slk.2;rw[ZmI,ZmM,HN.out]at hform;obtain⟨a5,c5,rfl,-⟩:=hform;obtain⟨n5,hn5⟩:∃n5,n5=n+([x-64]:List Int).length:=⟨_,rfl⟩;exact Qb):p:=h
theorem Qgh{p:Prop}(h:p:=by
 refine relPlan_by (eqv (.bool false)) (eqv_stable _) ?_ ?_;·exact Qi
 intro V wT hxT hf;obtain⟨g30,g31,g32,g33,g34,g35,g36,g37,g38,_⟩:=hf;simp only[fillA,ZmX,Zni,Act.put,ZmO,ZmV,ZmU];have q38:V 38=_:=g38;rw[q38];have HW2:=ZmE (HW.out.trans hxT);refine Za 9 QhO rfl (fun K hK=> ?_);exact QhH):p:=h
theorem Qgi{p:Prop}(h:p:=by have HW:=HW2;clear HW2;go_wp2_with fail;rw[HT.out];refine(HFU.out _).mono ?_;rintro e w9 ⟨rfl,hx9⟩;have HW2:=ZmE (HW.out.trans hx9);clear HW hx9;exact QaV):p:=h
theorem Qgj{p:Prop}(h:p:=by rw[hdk]at HD;unfold shapeV;rw[ZmF (show¬((!true)=true)from Bool.noConfusion)];obtain⟨_,a,c,rfl,hc⟩:=hv;rw[ZmI]at hp3⊢;clear hc hn HF hq3 hg he hdk h7 h12;go_enter func144,ntmps144;go_wp2_with fail;refine(HD.out _ Xf).mono ?_;rintro e w1 ⟨rfl,rfl⟩;exact QaR):p:=h
theorem Qgk{p:Prop}(h:p:=by refine Za 16 QhO rfl (fun K hK=> ?_);go_simp;refine hK _ _ ?_;clear hK K;refine Za 17 QhO rfl (fun K hK=> ?_);go_simp;refine hK _ _ ?_;clear hK K;refine⟨rfl,?_⟩;clear HW;have HW:=HW2;clear HW2;exact QhK):p:=h
theorem Qgl{p:Prop}(h:p:=by clear a25 z25;clear h1 h2 h2' h3 h5 hkk hn1 HF;go_enter func64,ntmps64;go_wp2_with fail;refine(HZ.out _).mono ?_;rintro e w1 ⟨rfl,rfl⟩;go_wp2_with fail;refine(HD.out _).mono ?_;rintro e w1 ⟨rfl,rfl⟩;go_wp2_with fail;refine(HN.out _).mono ?_;exact QF):p:=h
theorem Qgm{p:Prop}(h:p:=by go_enter func79,ntmps79;go_wp2_with fail;refine HMG.out.mono ?_;rintro e w1 ⟨rfl,rfl⟩;exact QhL):p:=h
theorem Qgn{p:Prop}(h:p:=by rw[hcnt]at HP HT;rw[ZmH rfl]at HT;clear hcnt;go_enter func84,ntmps84;go_wp2_with fail;refine(HP.out _).mono ?_;exact Qa7):p:=h
theorem Qgo{p:Prop}(h:p:=by clear h1 h2 h2' h3 h5 hkk hn1 HF;go_enter func64,ntmps64;go_wp2_with fail;refine(HZ.out _).mono ?_;rintro e w1 ⟨rfl,rfl⟩;go_wp2_with fail;refine(HD.out _).mono ?_;rintro e w1 ⟨rfl,rfl⟩;go_wp2_with fail;refine(HN.out _).mono ?_;exact QaC):p:=h
theorem Qgp{p:Prop}(h:p:=by
 have HR:Hid ((res1,res2)=([],Gs.ver ai d)):=ZmE (by rw[HP2.out,HS4.out hver,ZmH hver]);obtain⟨z1,hz1⟩:∃z1,Gs.ver ai d=z1:=⟨_,rfl⟩;rw[hz1]at HV1 HR hver;have hz2:(z1==0)=false:=by simpa using hver
 clear hver hz1 HS4 HS5 HS6;exact QZ):p:=h
theorem Qgq{p:Prop}(h:p:=by clear h1 h2 hkk h3 h2' h4 h5;go_enter func17,ntmps17;go_wp2_with fail;refine(HZ.out _).mono ?_;rintro e w1 ⟨rfl,rfl⟩;go_wp2_with fail;refine(HD.out _).mono ?_;rintro e w1 ⟨rfl,rfl⟩;go_wp2_with fail;refine(HN.out _).mono ?_;exact QaO):p:=h
theorem Qgr{p:Prop}(h:p:=by clear g2 HL HR HM HJ hJ hJs;go_enter func251,ntmps251;go_wp2_with fail;refine(HP.out _).mono ?_;rintro e w1 ⟨rfl,rfl⟩;go_wp2_with fail;refine(HQ.out _).mono ?_;rintro e w1 ⟨rfl,rfl⟩;go_wp2;go_ret3;exact Qbl):p:=h
theorem Qgs{p:Prop}(h:p:=by
 have HR:Hid (res=(([],[]),0,Gs.ver ai d)):=ZmE (HS4.out hver);obtain⟨z1,hz1⟩:∃z1,Gs.ver ai d=z1:=⟨_,rfl⟩;rw[hz1]at HV1 HR hver;have hz2:(z1==0)=false:=by simpa using hver
 clear hver HS4 HS5 HS6' hz1;exact Qz):p:=h
theorem Qgt{p:Prop}(h:p:=by have HW:=HW2;clear HW2;exact QhK):p:=h
theorem Qgu{p:Prop}(h:p:=by clear a25 z25;clear h1 h2 h2' h3 h5 hkk hn1 HF h4;go_enter func64,ntmps64;go_wp2_with fail;refine(HZ.out _).mono ?_;rintro e w1 ⟨rfl,rfl⟩;go_wp2_with fail;refine(HD.out _).mono ?_;exact QF):p:=h
theorem Qgv{p:Prop}(h:p:=by
 obtain rfl:j=s.size:=by omega
 rw[ZnM,Zoh]at hb1 hb2⊢;clear hj hlt;exact QaU):p:=h
theorem Qgw{p:Prop}(h:p:=by clear h1 h2 h2' h3 h5 hkk hn1 HF h4;go_enter func64,ntmps64;go_wp2_with fail;refine(HZ.out _).mono ?_;rintro e w1 ⟨rfl,rfl⟩;go_wp2_with fail;refine(HD.out _).mono ?_;exact QaC):p:=h
theorem Qgx{p:Prop}(h:p:=by clear HT4 HRB h4 h5;exact QD):p:=h
theorem Qgy{p:Prop}(h:p:=by
 intro V w' hx hf;with_reducible refine relAt_ops ?_
 intro A ρ hA hρ hcst hfun;have h0:ρ (.tmp 0)=.slice (some ⟨b,o,none⟩) n c:=(Znf hρ _).trans (evalMiss hA 0 rfl);exact QA):p:=h
theorem Qgz{p:Prop}(h:p:=by go_wp2;refine ZnQ (v:=.tuple #[.agg #[.int .i64 0,.int .i64 0,.int .i64 0,.int .u8 0],.bool false]) QiR rfl ⟨by rw[HR.out];rfl,Xf⟩):p:=h
theorem QgA{p:Prop}(h:p:=by rw[ZmM];exact Qcm):p:=h
theorem QgB{p:Prop}(h:p:=by go_enter func108,ntmps108;go_wp2;go_ret2;exact Qbg):p:=h
theorem QgC{p:Prop}(h:p:=by
 intro V w' hx hf;with_reducible refine relAt_ops ?_
 intro A ρ hA hρ hcst hfun;have h0:ρ (.tmp 0)=.string s:=(Znf hρ _).trans (evalMiss hA 0 rfl);exact QA):p:=h
theorem QgD{p:Prop}(h:p:=by clear HE;go_wp2_with fail;refine(HF.out _ Xe _).mono ?_;rintro e w2 ⟨rfl,hx2⟩;go_wp2_with fail;refine(HL.out _).mono ?_;rintro e w3 ⟨rfl,rfl⟩;exact Qcj):p:=h
theorem QgE{p:Prop}(h:p:=by unfold shapeV;rw[ZmF Bool.noConfusion];obtain⟨_,a,c,rfl,hc⟩:=hv;rw[ZmI];clear hc hn HF h7 h12;go_enter func144,ntmps144;exact QaR):p:=h
theorem QgF{p:Prop}(h:p:=by go_enter func144,ntmps144;exact QaR):p:=h
theorem QgG{p:Prop}(h:p:=by clear g1 HL HR HM HJ hJ hJs;go_enter func251,ntmps251;go_wp2_with fail;refine(HP.out _).mono ?_;rintro e w1 ⟨rfl,rfl⟩;go_wp2;go_ret3;exact Qbl):p:=h
theorem QgH{p:Prop}(h:p:=by exact⟨by rw[HG.out];unfold gotV linV;dsimp only;rw[HT.out];rfl,((HXX.setCell (ZmK _) _).setCell (ZmK _) _).setCell (ZmK _) _⟩):p:=h
theorem QgI{p:Prop}(h:p:=by go_enter func64,ntmps64;go_wp2_with fail;refine(HZ.out _).mono ?_;rintro e w1 ⟨rfl,rfl⟩;go_wp2_with fail;refine(HD.out _).mono ?_;exact QbN):p:=h
theorem QgJ{p:Prop}(h:p:=by go_enter func47,ntmps47;exact QaU):p:=h
theorem QgK{p:Prop}(h:p:=by go_wp2;go_ret2;exact Qbg):p:=h
theorem QgL{p:Prop}(h:p:=by clear hc;go_enter func372,ntmps372;go_wp2_with fail;go_quiet (fail);go_wp2_with fail;go_quiet (fail);go_wp2;go_ret;exact Qcv):p:=h
theorem QgM{p:Prop}(h:p:=by go_wp2_with fail;refine Zng (Ze results14 rfl (Znx w _) rfl) rfl ?_;rw[HD.out];exact Qcv):p:=h
theorem QgN{p:Prop}(h:p:=by go_wp2_with fail;refine Zng (Ze results15 rfl (Znx w _) rfl) rfl ?_;rw[HD.out];exact Qcv):p:=h
theorem QgO{p:Prop}(h:p:=by go_wp2_with fail;refine Zng (Ze results13 rfl (Znx w _) rfl) rfl ?_;rw[HD.out];exact Qcv):p:=h
theorem QgP{p:Prop}(h:p:=by go_enter func150,ntmps150;exact Qaf):p:=h
theorem QgQ{p:Prop}(h:p:=by rw[hx5.cell (p:=⟨w4.heap.size,1,none⟩) QhQ];exact QaD):p:=h
theorem QgR{p:Prop}(h:p:=by rw[hx5.cell (p:=⟨w4.heap.size,0,none⟩) QhQ];exact QaD):p:=h
theorem QgS{p:Prop}(h:p:=by go_wp2_with fail;refine(HI.out _).mono ?_;rintro en w4 ⟨rfl,rfl⟩;go_wp2;go_ret2;exact⟨by rw[HR.out];rfl,hx3⟩):p:=h
theorem QgT{p:Prop}(h:p:=by go_wp2_with fail;refine Zng (Ze results35 rfl (Zg f7) rfl) rfl ?_;rw[HR1.out];exact QcZ):p:=h
theorem QgU{p:Prop}(h:p:=by
 obtain rfl:j=n:=by omega
 have HR:=ZmE (HRB.out HB.out);have hcv:=Zl hown.sl;clear hj hlt;exact Qco):p:=h
theorem QgV{p:Prop}(h:p:=by go_wp2_with fail;refine Zng (Ze results35 rfl (Zg f7) rfl) rfl ?_;rw[HF.out];exact QcZ):p:=h
theorem QgW{p:Prop}(h:p:=by go_enter func196,ntmps196;go_wp2_with fail;refine(HP.out _).mono ?_;rintro e w1 ⟨rfl,rfl⟩;exact QaU):p:=h
theorem QgX{p:Prop}(h:p:=by go_enter func69,ntmps69;exact Qap):p:=h
theorem QgY{p:Prop}(h:p:=by exact relUpon_move (hk:=by rw[h6];exact⟨Ext.refl _,rfl⟩)):p:=h
theorem QgZ{p:Prop}(h:p:=by subst h0;rw[ZoH,Zx]at hb1 hb2⊢;exact QaU):p:=h
theorem Qg0{p:Prop}(h:p:=by
 go_wp2;go_roundw;case rel=>exact⟨j+1,by omega,by go_num,HR1.out,HX1.out⟩
 case measure=>exact Q8):p:=h
theorem Qg1{p:Prop}(h:p:=by
 go_wp2;go_roundw;case rel=>exact⟨j+1,by omega,by go_num,HR5.out,HX.out⟩
 case measure=>exact Q8):p:=h
theorem Qg2{p:Prop}(h:p:=by rintro e w1 ⟨rfl,rfl⟩;go_wp2_with fail;refine(HRI.out _).mono ?_;rintro e w2 ⟨rfl,hx2⟩;exact QbE):p:=h
theorem Qg3{p:Prop}(h:p:=by go_enter func189,ntmps189;go_wp2;go_quiet (fail);go_wp2;go_ret;exact⟨HF.out _ HG2.out,Xf⟩):p:=h
theorem Qg4{p:Prop}(h:p:=by obtain⟨z0,z1,z2,z3,z4,z5,z6,HB⟩:=Zf (Zo rfl hx);have hxw:=hx.before;clear hx;exact Qaz):p:=h
theorem Qg5{p:Prop}(h:p:=by rintro e w8 ⟨rfl,hx8⟩;have HW2:=ZmE (HW.out.trans (hx7.trans hx8));clear HW hx7 hx8;exact Qa5):p:=h
theorem Qg6{p:Prop}(h:p:=by clear hl HV;go_enter func7,ntmps7;exact QbS):p:=h
theorem Qg7{p:Prop}(h:p:=by exact RdR.some (Zp hxw (ZnI _) _ _ _)):p:=h
theorem Qg8{p:Prop}(h:p:=by
 go_wp2;go_round;case rel=>exact⟨j+1,by omega,by go_num,HB2⟩
 case measure=>exact Qak):p:=h
theorem Qg9{p:Prop}(h:p:=by have HN:=HRN.out h1;clear h1 hin;generalize Lib.indexByte edge.data.toList c=x at*;exact QE):p:=h
theorem Qha{p:Prop}(h:p:=by clear HE;go_wp2_with fail;refine(HF.out _ Xe _).mono ?_;rintro e w2 ⟨rfl,hx2⟩;exact Qcj):p:=h
theorem Qhb{p:Prop}(h:p:=by
 go_wp2;go_round;case rel=>exact⟨j+1,by omega,by go_num,HO⟩
 case measure=>exact Q8):p:=h
theorem Qhc{p:Prop}(h:p:=by rintro e w' ⟨rfl,rfl⟩;exact Qb1):p:=h
theorem Qhd{p:Prop}(h:p:=by clear HV5;go_wp2_with fail;refine(HDT.out _).mono ?_;rintro e w2 ⟨rfl,hx2⟩;exact Qdc):p:=h
theorem Qhe{p:Prop}(h:p:=by go_enter func172,ntmps172;go_wp2_with fail;refine(HO.out _).mono ?_;exact Qa7):p:=h
theorem Qhf{p:Prop}(h:p:=by have HG2:=ZmE (HG.out QhN);exact Qa6):p:=h
theorem Qhg{p:Prop}(h:p:=by have HR:=key true Qh6;clear key;exact Qco):p:=h
theorem Qhh{p:Prop}(h:p:=by have HR:=ZmE hres;clear hres h0 hp;go_enter func255,ntmps255;exact Qda):p:=h
theorem Qhi{p:Prop}(h:p:=by go_enter func211,ntmps211;exact QaU):p:=h
theorem Qhj{p:Prop}(h:p:=by rintro e w1 ⟨rfl,rfl⟩;go_wp2;go_ret2;exact⟨by rw[HX.out];rfl,Ext.refl _⟩):p:=h
theorem Qhk{p:Prop}(h:p:=by subst hJ;clear h1 h2 HM;exact Qs):p:=h
theorem Qhl{p:Prop}(h:p:=by rw[h1,h2]at this;exact QeN):p:=h
theorem Qhm{p:Prop}(h:p:=by go_wp2;go_ret2;exact⟨_,by rw[HX.out];rfl,by rw[HX.out];exact SlK.nil _,hx2⟩):p:=h
theorem Qhn{p:Prop}(h:p:=by go_enter func49,ntmps49;exact QaU):p:=h
theorem Qho{p:Prop}(h:p:=by
 clear hxj;go_wp2;go_round;case rel=>exact Qc6
 case measure=>exact Qak):p:=h
theorem Qhp{p:Prop}(h:p:=by subst hlt;simp only[Zoh,ZoH]at hb1 hb2⊢;exact Qbn):p:=h
theorem Qhq{p:Prop}(h:p:=by go_wp2_with fail;go_ret2;rw[HR.out];exact IntsO.bad _ _ _ (Ext.refl _)):p:=h
theorem Qhr{p:Prop}(h:p:=by rw[HD2.out];exact⟨rfl,Zp HX.out (ZmK _) _ _ _⟩):p:=h
theorem Qhs{p:Prop}(h:p:=by simp only[Zn4]at hr;obtain⟨rfl,rfl⟩:=hr;exact QbI):p:=h
theorem Qht{p:Prop}(h:p:=by have:=(ZmN.1 hx0).1;rw[HN.out];exact QeN):p:=h
theorem Qhu{p:Prop}(h:p:=by go_wp2_with fail;exact QcV):p:=h
theorem Qhv{p:Prop}(h:p:=by exact relUpon_move (hk:=by rw[h5];exact⟨Ext.refl _,rfl⟩)):p:=h
theorem Qhw{p:Prop}(h:p:=by exact relUpon_move (hk:=by rw[h0];exact⟨Ext.refl _,rfl⟩)):p:=h
theorem Qhx{p:Prop}(h:p:=by obtain⟨h1,h2⟩:=ZmN.1 hxk;exact QdG):p:=h
theorem Qhy{p:Prop}(h:p:=by
 rw[ZmH h3]at HR2;have h3I:(n:Int)<3:=by omega
 exact Qbo):p:=h
theorem Qhz{p:Prop}(h:p:=by obtain⟨h1,h2⟩:=ZmN.1 hdb;exact QdG):p:=h
theorem QhA{p:Prop}(h:p:=by obtain⟨h1,h2⟩:=ZmN.1 hz;exact QdG):p:=h
theorem QhB{p:Prop}(h:p:=by have:=HE.out;omega):p:=h
theorem QhC{p:Prop}(h:p:=by rintro e w1 ⟨rfl,hx1⟩;go_wp2;go_ret;exact⟨rfl,hx1⟩):p:=h
theorem QhD{p:Prop}(h:p:=by rw[Zoc,ZmL,hget];exact QeN):p:=h
theorem QhE{p:Prop}(h:p:=by split<;>omega):p:=h
theorem QhF{p:Prop}(h:p:=by exact⟨by rw[HA.out];rfl,rfl⟩):p:=h
theorem QhG{p:Prop}(h:p:=by exact Zq7 _):p:=h
theorem QhH{p:Prop}(h:p:=by go_simp;refine hK _ _ ?_;clear hK K;refine⟨rfl,?_⟩;clear HW;have HW:=HW2;clear HW2;go_wp2;go_ret3;exact⟨by rw[<-HX.out];rfl,HW.out⟩):p:=h
theorem QhI{p:Prop}(h:p:=by unfold shapeV;rw[ZmF Bool.noConfusion];obtain⟨_,a,c,rfl,hc⟩:=hv;rw[ZmI];clear hc hn HF h7;exact QgF):p:=h
theorem QhJ{p:Prop}(h:p:=by rintro e w8 ⟨rfl,hx8⟩;have HW2:=ZmE (HW.out.trans (hx7.trans hx8));clear HW hx7 hx8;exact Qgi):p:=h
theorem QhK{p:Prop}(h:p:=by go_wp2;go_ret3;exact⟨by rw[HG.out];rfl,HW.out⟩):p:=h
theorem QhL{p:Prop}(h:p:=by go_wp2;go_ret2;rw[HF.out];exact Qbx):p:=h
theorem QhM{p:Prop}(h:p:=by go_wp2_with fail;refine(ZbT _ _).mono ?_;exact Qhc):p:=h
theorem QhN{p:Prop}(h:p:=by omega):p:=h
theorem QhO{p:Prop}(h:p:=by kernel_rfl):p:=h
theorem QhP{p:Prop}(h:p:=by decide):p:=h
theorem QhQ{p:Prop}(h:p:=by simp):p:=h
theorem QhR{p:Prop}(h:p:=by rw[ZmI];omega):p:=h
theorem QhS{p:Prop}(h:p:=by rw[ZmY];omega):p:=h
theorem QhT{p:Prop}(h:p:=by first|exact hown5|(rw[Zn1];exact hown5)):p:=h
theorem QhU{p:Prop}(h:p:=by rw[<-HN.out];exact ZmK _):p:=h
theorem QhV{p:Prop}(h:p:=by rw[<-HN.out];exact hlt):p:=h
theorem QhW{p:Prop}(h:p:=by rw[<-HN.out];omega):p:=h
theorem QhX{p:Prop}(h:p:=by unfold maxLen;omega):p:=h
theorem QhY{p:Prop}(h:p:=by simp;omega):p:=h
theorem QhZ{p:Prop}(h:p:=by rw[ZN,<-HO.out,HOX.out HBO.out.symm,HF.out]):p:=h
theorem Qh0{p:Prop}(h:p:=by rw[Znr];omega):p:=h
theorem Qh1{p:Prop}(h:p:=by simpa using h):p:=h
theorem Qh2{p:Prop}(h:p:=by rw[Zom];omega):p:=h
theorem Qh3{p:Prop}(h:p:=by rw[Zns];exact ZmK _):p:=h
theorem Qh4{p:Prop}(h:p:=by rw[ZmI,HN.out];omega):p:=h
theorem Qh5{p:Prop}(h:p:=by rw[ZmI,HN.out];exact hlt):p:=h
theorem Qh6{p:Prop}(h:p:=by rfl):p:=h
theorem Qh7{p:Prop}(h:p:=by rw[ZmY,Znr,hW];rfl):p:=h
theorem Qh8{p:Prop}(h:p:=by simp only[go_sem];try rfl):p:=h
theorem Qh9{p:Prop}(h:p:=by rw[HN.out];exact ZmK _):p:=h
theorem Qia{p:Prop}(h:p:=by rw[ZmI];exact hlt):p:=h
theorem Qib{p:Prop}(h:p:=by decide+kernel):p:=h
theorem Qic{p:Prop}(h:p:=by rw[Zb];omega):p:=h
theorem Qid{p:Prop}(h:p:=by simpa using hm):p:=h
theorem Qie{p:Prop}(h:p:=by simpa using h2):p:=h
theorem Qif{p:Prop}(h:p:=by rw[HN.out];exact hlt):p:=h
theorem Qig{p:Prop}(h:p:=by rw[<-hR];simp only[Zph,Znm,hRd];rfl):p:=h
theorem Qih{p:Prop}(h:p:=by rw[HRL.out];exact ZmK _):p:=h
theorem Qii{p:Prop}(h:p:=by unfold encS at p0 p1;simp[results,results142,go_sem,p0,p1]):p:=h
theorem Qij{p:Prop}(h:p:=by rw[Zb];exact hlt):p:=h
theorem Qik{p:Prop}(h:p:=by intro e;injection e with e1;first|exact h1 e1|exact h1 e1.symm):p:=h
theorem Qil{p:Prop}(h:p:=by simpa using hw):p:=h
theorem Qim{p:Prop}(h:p:=by simpa using h1):p:=h
theorem Qin{p:Prop}(h:p:=by rw[Zn1];exact h1):p:=h
theorem Qio{p:Prop}(h:p:=by apply Zh;simp only[Znt,Znw,hAl,hBl];rw[Ea.bS_list,HSY.out];simp only[Ea.mS_app];rfl):p:=h
theorem Qip{p:Prop}(h:p:=by refine HR.out.trans ((ZmF ?_).trans rfl);rw[ZpE,ZpT];intro x hx;have:=HB3.out x hx;simp;omega):p:=h
theorem Qiq{p:Prop}(h:p:=by rw[HQ.out.len];omega):p:=h
theorem Qir{p:Prop}(h:p:=by rw[Znk,c3,Zn7,Znj,Zna,show [48,49,48,49,48]=Ea.mS Ea.md from rfl,Ea.mS_inj]):p:=h
theorem Qis{p:Prop}(h:p:=by simp only[HAI.out,HD.out];exact hx5):p:=h
theorem Qit{p:Prop}(h:p:=by simp[Cd.cmp]):p:=h
theorem Qiu{p:Prop}(h:p:=by have:=HL2.out;simp only[Ea.ldg,ZoG]at this;omega):p:=h
theorem Qiv{p:Prop}(h:p:=by simpa using hi):p:=h
theorem Qiw{p:Prop}(h:p:=by rw[HTL.out];omega):p:=h
theorem Qix{p:Prop}(h:p:=by unfold Go.maxLen;omega):p:=h
theorem Qiy{p:Prop}(h:p:=by rw[Znt,Znw];rfl):p:=h
theorem Qiz{p:Prop}(h:p:=by rw[Zb];exact a25):p:=h
theorem QiA{p:Prop}(h:p:=by rw[hc];rfl):p:=h
theorem QiB{p:Prop}(h:p:=by rw[hRl];exact hi):p:=h
theorem QiC{p:Prop}(h:p:=by rw[<-HR.out];simp only[Znt,Znw,HN.out,HC.out,Zs,HD.out];rfl):p:=h
theorem QiD{p:Prop}(h:p:=by have:=hl.out;rw[ZnD (ZmK _)]at this;simp only[Ea.ldg]at this;omega):p:=h
theorem QiE{p:Prop}(h:p:=by have:=HV.out;rw[<-HN.out]at this;exact this):p:=h
theorem QiF{p:Prop}(h:p:=by rw[Zn3 (by rw[Zn9];exact hlj),List.getElem_reverse,hb]):p:=h
theorem QiG{p:Prop}(h:p:=by rw[HR1.out,ZmH];rw[ZoL];exact⟨x,ZmT hxj,by simp;omega⟩):p:=h
theorem QiH{p:Prop}(h:p:=by simpa using h0):p:=h
theorem QiI{p:Prop}(h:p:=by unfold Cd.isDig;simp;omega):p:=h
theorem QiJ{p:Prop}(h:p:=by rw[ZmI];have:=HTL.out.1;omega):p:=h
theorem QiK{p:Prop}(h:p:=by intro h;exact absurd h.1 Bool.noConfusion):p:=h
theorem QiL{p:Prop}(h:p:=by rw[ZmL,ZmG (by rw[Zb];exact h0)];rfl):p:=h
theorem QiM{p:Prop}(h:p:=by rw[<-HR.out];simp only[Znt,Znw,Zs,HL.out];rfl):p:=h
theorem QiN{p:Prop}(h:p:=by rw[hE];decide):p:=h
theorem QiO{p:Prop}(h:p:=by first|exact(hx2.trans hx3).trans hx4|exact((hx2.trans hx3).drewN _).trans hx4):p:=h
theorem QiP{p:Prop}(h:p:=by rw[<-I.size];exact h1):p:=h
theorem QiQ{p:Prop}(h:p:=by simp only[HAI.out,HD.out]at p0 p1;simp[results,results142,go_sem,p0,p1]):p:=h
theorem QiR{p:Prop}(h:p:=by simp[results,results97,go_sem]):p:=h
theorem QiS{p:Prop}(h:p:=by rw[ZmM,Zns,ZmY,HWL.out];omega):p:=h
theorem QiT{p:Prop}(h:p:=by rw[Znr,Zb];omega):p:=h
theorem QiU{p:Prop}(h:p:=by rw[a25];rfl):p:=h
theorem QiV{p:Prop}(h:p:=by injection e):p:=h
theorem QiW{p:Prop}(h:p:=by simp only[Znt,Znw,hLl,hYl,hQl,Ea.mS_app]):p:=h
theorem QiX{p:Prop}(h:p:=by rw[ZmI,Zb];omega):p:=h
theorem QiY{p:Prop}(h:p:=by rw[Zb];exact h7):p:=h
theorem QiZ{p:Prop}(h:p:=by rw[HD.out,ZoL];exact⟨true,ZmT hxj,rfl⟩):p:=h
theorem Qi0{p:Prop}(h:p:=by have:=HL2.out;simp only[Ea.ldg,ZoR,Zpr]at this;omega):p:=h
theorem Qi1{p:Prop}(h:p:=by rw[ZqA,Zoh,ZoH];cases Cc.valsGo K ws<;>rfl):p:=h
theorem Qi2{p:Prop}(h:p:=by simpa using hz):p:=h
theorem Qi3{p:Prop}(h:p:=by rw[Zb];exact h):p:=h
theorem Qi4{p:Prop}(h:p:=by rw[ZnA];omega):p:=h
theorem Qi5{p:Prop}(h:p:=by intro e;injection e with e;omega):p:=h
theorem Qi6{p:Prop}(h:p:=by have:=HE.out;have:=HK2.out;omega):p:=h
theorem Qi7{p:Prop}(h:p:=by intro j hj;rw[Zoa]at hj⊢;exact⟨hdm i hi j hj,hf j hj⟩):p:=h
theorem Qi8{p:Prop}(h:p:=by rw[hz2];omega):p:=h
theorem Qi9{p:Prop}(h:p:=by have:=HPS.out;omega):p:=h
theorem Qja{p:Prop}(h:p:=by rw[<-hAI,Zb]):p:=h
theorem Qjb{p:Prop}(h:p:=by have:=HK2.out;omega):p:=h
theorem Qjc{p:Prop}(h:p:=by rw[ZmI,HRA.out,ZmI,Zoj];omega):p:=h
theorem Qjd{p:Prop}(h:p:=by have:=HJ0.out;omega):p:=h
theorem Qje{p:Prop}(h:p:=by rw[<-hR];simp[Value.oneCell']):p:=h
theorem Qjf{p:Prop}(h:p:=by rw[<-hQ];simp[Value.oneCell']):p:=h
theorem Qjg{p:Prop}(h:p:=by rw[bne_eq_false_iff_eq];omega):p:=h
theorem Qjh{p:Prop}(h:p:=by rw[<-hon];exact hdep e he hb):p:=h
theorem Qji{p:Prop}(h:p:=by rw[HT.out,ZoE];exact⟨x,HM.out,by simp;omega⟩):p:=h
theorem Qjj{p:Prop}(h:p:=by rw[HT.out,Znd];intro x hx;simpa using HB.out x hx):p:=h
theorem Qjk{p:Prop}(h:p:=by rw[HV.out];dsimp only;rw[Option.map_map];congr 1;funext l;simp):p:=h
theorem Qjl{p:Prop}(h:p:=by rw[show(⟨fives.toArray⟩:ByteArray).size=50 from rfl];omega):p:=h
theorem Qjm{p:Prop}(h:p:=by rw[Zc HAA.out,ZmM,Zb,hGs];rfl):p:=h
theorem Qjn{p:Prop}(h:p:=by rw[ZmI];exact hn):p:=h
theorem Qjo{p:Prop}(h:p:=by rw[Ziu,strOfNums_data];simp):p:=h
theorem Qjp{p:Prop}(h:p:=by rw[ZmQ,h3];rfl):p:=h
theorem Qjq{p:Prop}(h:p:=by rw[Zr,hs,Ea.mS_take]):p:=h
theorem Qjr{p:Prop}(h:p:=by show _=_;unfold Cd.comp;rw[ZmH ((ZW s).2 h0)]):p:=h
theorem Qjs{p:Prop}(h:p:=by rw[h1];rfl):p:=h
theorem Qjt{p:Prop}(h:p:=by rw[h0];rfl):p:=h
theorem Qju{p:Prop}(h:p:=by rw[HA.out,hal.out,hp];rfl):p:=h
theorem Qjv{p:Prop}(h:p:=by rw[h];simp):p:=h
theorem Qjw{p:Prop}(h:p:=by rw[HX.out];exact ZmF (ZoA hmm.symm)):p:=h
theorem Qjx{p:Prop}(h:p:=by have:=hx5.size;exact Qdx):p:=h
theorem Qjy{p:Prop}(h:p:=by rw[<-hDB,Zom];have:=HTS.out;omega):p:=h
theorem Qjz{p:Prop}(h:p:=by simpa using h4):p:=h
theorem QjA{p:Prop}(h:p:=by simpa using h5):p:=h
theorem QjB{p:Prop}(h:p:=by rw[ZmY,Znr,Zb];omega):p:=h
theorem QjC{p:Prop}(h:p:=by rw[HX.out];exact ZmH (Zok hmm.symm)):p:=h
theorem QjD{p:Prop}(h:p:=by rw[hr];exact h):p:=h
theorem QjE{p:Prop}(h:p:=by rw[<-HRL.out];exact hi):p:=h
theorem QjF{p:Prop}(h:p:=by rw[<-HTL.out,Ea.bS_of]):p:=h
theorem QjG{p:Prop}(h:p:=by rw[<-hS,ZmY,Znr];omega):p:=h
theorem QjH{p:Prop}(h:p:=by rw[Zpj];simp[Cd.fits,Cd.size];omega):p:=h
theorem QjI{p:Prop}(h:p:=by rw[h1];decide):p:=h
theorem QjJ{p:Prop}(h:p:=by simp[results,results218,go_sem,p0,p1,p2,p3]):p:=h
theorem QjK{p:Prop}(h:p:=by rw[HWL.out];exact hlt):p:=h
theorem QjL{p:Prop}(h:p:=by rw[HR4.out,HV.out,ZnM];simp[Cc.valsGo]):p:=h
theorem QjM{p:Prop}(h:p:=by have:=HCR.out.2;omega):p:=h
theorem QjN{p:Prop}(h:p:=by unfold halv;rw[ZmF (fun h=>h g1),ZmH g2]):p:=h
theorem QjO{p:Prop}(h:p:=by unfold maxLen;rw[Zom];omega):p:=h
theorem QjP{p:Prop}(h:p:=by have h:=ho rfl;injection h with h;rw[HD.out,h]):p:=h
theorem QjQ{p:Prop}(h:p:=by intro h;have:=h.2;rw[HGQ.out]at this;exact QeY):p:=h
theorem QjR{p:Prop}(h:p:=by rw[HA.out,hal.out];unfold Cd.isDig;simp;omega):p:=h
theorem QjS{p:Prop}(h:p:=by rw[HR.out,ZmH he]):p:=h
theorem QjT{p:Prop}(h:p:=by rw[I.size];exact hin):p:=h
theorem QjU{p:Prop}(h:p:=by rw[Znj];omega):p:=h
theorem QjV{p:Prop}(h:p:=by rw[show 2*(j+1+1)=2*(j+1)+1+1 by omega];rfl):p:=h
theorem QjW{p:Prop}(h:p:=by rw[ZaN hxk,ZoF];simp):p:=h
theorem QjX{p:Prop}(h:p:=by rw[Zis HG0.out];exact Bool.noConfusion):p:=h
theorem QjY{p:Prop}(h:p:=by rw[ZmY,Znr];omega):p:=h
theorem QjZ{p:Prop}(h:p:=by rw[ZmI,HDL.out,Zb];omega):p:=h
theorem Qj0{p:Prop}(h:p:=by rw[Znr];have:=HTL.out.1;omega):p:=h
theorem Qj1{p:Prop}(h:p:=by rw[HT4.out,HRB.out,l1,l2,q2,l3,l4,q4];rfl):p:=h
theorem Qj2{p:Prop}(h:p:=by intro h;exact absurd h.2 Bool.noConfusion):p:=h
theorem Qj3{p:Prop}(h:p:=by rw[Z4 s k hlt];unfold Cd.c39;simp):p:=h
theorem Qj4{p:Prop}(h:p:=by rw[ZaR ws j hlt,Zn1];rfl):p:=h
theorem Qj5{p:Prop}(h:p:=by rw[Zu hxj,Rn.sum_snoc,<-HT.out]):p:=h
theorem Qj6{p:Prop}(h:p:=by rw[Zu hLj,Rn.sum_snoc,<-HT.out]):p:=h
theorem Qj7{p:Prop}(h:p:=by rw[show k+1+i=k+(i+1) by omega];exact hf):p:=h
theorem Qj8{p:Prop}(h:p:=by rw[Znr];exact ZmK _):p:=h
theorem Qj9{p:Prop}(h:p:=by rw[ZmW QhU];exact hx):p:=h
theorem Qka{p:Prop}(h:p:=by rw[factsOf_mem];intro j hj;have hjm:=ZnK.1 hj;have:=hf j hjm;rw[ZmL]at this⊢;rw[ZoS QhN,hlen,show m-1-(m-1-j)=j by omega];exact this):p:=h
theorem Qkb{p:Prop}(h:p:=by obtain⟨n,hn⟩:∃n:Nat,Cd.c39 s.data.toList%43=(n:Int):=⟨(Cd.c39 s.data.toList%43).toNat,by omega⟩;simp only[Cd.cmp,hn];exact ZkX n QhN):p:=h
theorem Qkc{p:Prop}(h:p:=by rw[HP2.out,HS6.out Qi6,ZmF QhQ];dsimp only;rw[Zoi];congr 2;have:=HE.out;have:=HK2.out;omega):p:=h
theorem Qkd{p:Prop}(h:p:=by rw[ZmL,ZmG Qij];rfl):p:=h
theorem Qke{p:Prop}(h:p:=by rw[<-HX2.out,ZmF (fun h=>absurd h.1 QhP)]):p:=h
theorem Qkf{p:Prop}(h:p:=by rw[<-hall.out,ZmW Qh9]):p:=h
theorem Qkg{p:Prop}(h:p:=by rw[HR1.out,ZmF];(·rfl);·rw[ZpE,ZpT];intro x hx;have:=HB.out x Qj9;simp;omega):p:=h
theorem Qkh{p:Prop}(h:p:=by rw[HD.out,ZpT];intro x hx;rw[HB.out x Qj9];simp):p:=h
def ZmE:=@Lib.hid
def ZmF:=@if_neg
def ZmG:=@List.getElem?_eq_getElem
def ZmH:=@if_pos
def ZmI:=@List.length_map
def ZmJ:=@beq_eq_false_iff_ne
def ZmK:=@Nat.le_refl
def ZmL:=@List.getD_eq_getElem?_getD
def ZmM:=@List.length_append
def ZmN:=@List.getElem?_eq_some_iff
def ZmO:=@List.setIfInBounds_toArray
def ZmP:=@Nat.zero_le
def ZmQ:=@List.length_cons
def ZmR:=@decide_eq_true
def ZmS:=@decide_eq_false
def ZmT:=@List.mem_of_getElem?
def ZmU:=@List.set_cons_zero
def ZmV:=@List.set_cons_succ
def ZmW:=@List.take_of_length_le
def ZmX:=@List.foldl_cons
def ZmY:=@List.length_take
def Zna:=@decide_eq_true_eq
def Znb:=@congrArg
def Znc:=@Nat.lt_of_lt_of_le
def Znd:=@List.all_eq_true
def Zne:=@List.mem_cons_of_mem
def Znf:=@congrFun
def Zng:=@bodyPost_ret
def Znh:=@List.mem_cons_self
def Zni:=@List.foldl_nil
def Znj:=@beq_iff_eq
def Znk:=@Lib.toList_data
def Znl:=@Option.some.injEq
def Znm:=@List.getElem?_map
def Znn:=@Array.getElem?_eq_some_iff
def Zno:=@Bool.and_eq_true
def Znp:=@List.getElem?_cons_zero
def Znq:=@List.eq_nil_of_length_eq_zero
def Znr:=@List.length_drop
def Zns:=@List.length_replicate
def Znt:=@ByteArray.data_append
def Znu:=@List.append_assoc
def Znv:=@Int.eq_ofNat_of_zero_le
def Znw:=@Array.toList_append
def Znx:=@heap_alloc_new
def Zny:=@List.cons_append
def Znz:=@List.mem_singleton
def Zn0:=@List.mem_of_mem_take
def Zn1:=@List.map_append
def Zn2:=@List.getElem?_cons_succ
def Zn3:=@List.drop_eq_getElem_cons
def Zn4:=@Prod.mk.injEq
def Zn5:=@List.map_take
def Zn6:=@List.map_drop
def Zn7:=@Bool.eq_iff_iff
def Zn8:=@List.mem_cons
def Zn9:=@List.length_reverse
def ZnA:=@bne_iff_ne
def ZnB:=@IntWalk.i64_in
def ZnC:=@List.append_nil
def ZnD:=@List.drop_of_length_le
def ZnE:=@List.length_nil
def ZnF:=@Nat.le_trans
def ZnG:=@List.replicate_succ
def ZnH:=@Decidable.not_not
def ZnI:=@Nat.le_succ
def ZnJ:=@UInt8.toNat_inj
def ZnK:=@List.mem_range
def ZnL:=@List.take_succ_eq_append_getElem
def ZnM:=@Nat.sub_self
def ZnN:=@List.take_length
def ZnO:=@List.getElem_map
def ZnP:=@List.reverse_append
def ZnQ:=@bodyPost_ret_by
def ZnR:=@List.mem_append
def ZnS:=@Joins.block_setCell
def ZnT:=@Decidable.of_not_not
def ZnU:=@List.map_cons
def ZnV:=@List.reverse_replicate
def ZnW:=@Int.toNat_natCast
def ZnX:=@List.take_append_drop
def ZnY:=@Nat.lt_or_ge
def Zoa:=@Nat.zero_add
def Zob:=@List.length_pos_iff
def Zoc:=@Nat.add_zero
def Zod:=@List.nil_append
def Zoe:=@World.ownsRow.lt
def Zof:=@List.mem_of_mem_drop
def Zog:=@List.getElem?_take
def Zoh:=@List.drop_zero
def Zoi:=@List.drop_drop
def Zoj:=@List.length_range
def Zok:=@of_decide_eq_true
def Zol:=@List.getElem?_append_left
def Zom:=@ByteArray.size_extract
def Zon:=@wp_region_quiet
def Zoo:=@List.flatMap_cons
def Zop:=@Nat.min_eq_left
def Zoq:=@List.getElem?_set_self
def Zor:=@List.mem_map
def Zos:=@List.map_map
def Zot:=@List.getElem?_eq_none
def Zou:=@Bool.or_eq_true
def Zov:=@List.length_set
def Zow:=@decide_eq_false_iff_not
def Zox:=@List.getElem?_set_ne
def Zoy:=@List.not_mem_nil
def Zoz:=@Bool.or_eq_false_iff
def Zo0:=@List.getElem?_append_right
def Zo1:=@Int.tdiv_eq_ediv_of_nonneg
def Zo2:=@Int.mul_le_mul
def Zo3:=@Array.getElem?_eq_none
def Zo4:=@List.take_add_one
def Zo5:=@List.reverse_cons
def Zo6:=@Nat.not_lt_zero
def Zo7:=@World.cell?_setCell_other
def Zo8:=@ByteArray.size_append
def Zo9:=@List.take_append_of_le_length
def ZoA:=@of_decide_eq_false
def ZoB:=@wpQuiet_nil
def ZoC:=@Int.mul_nonneg
def ZoD:=@Bool.false_and
def ZoE:=@List.all_eq_false
def ZoF:=@List.flatMap_append
def ZoG:=@if_true
def ZoH:=@Nat.sub_zero
def ZoI:=@Option.map_eq_some_iff
def ZoJ:=@info_parts
def ZoK:=@List.ext_getElem
def ZoL:=@List.any_eq_true
def ZoM:=@World.ownsRow.kept
def ZoN:=@Nat.mul_le_mul
def ZoO:=@Array.getElem?_modify
def ZoP:=@Nat.lt_or_eq_of_le
def ZoQ:=@List.length_singleton
def ZoR:=@Bool.false_eq_true
def ZoS:=@List.getElem?_reverse
def ZoT:=@Array.getElem?_setIfInBounds_ne
def ZoU:=@List.map_nil
def ZoV:=@Option.map_some
def ZoW:=@List.replicate_succ'
def ZoX:=@List.ext_getElem?
def ZoY:=@Nat.le_of_lt_succ
def Zpa:=@run_make_row'
def Zpb:=@List.drop_succ_cons
def Zpc:=@Array.length_toList
def Zpd:=@List.map_congr_left
def Zpe:=@run_convert_int_string
def Zpf:=@MapKept.run_getObj_map
def Zpg:=@Nat.add_sub_cancel
def Zph:=@List.getElem?_toArray
def Zpi:=@UInt8.le_iff_toNat_le
def Zpj:=@Bool.not_eq_false
def Zpk:=@List.isEmpty_eq_false_iff
def Zpl:=@List.mem_of_find?_eq_some
def Zpm:=@Below.trans
def Zpn:=@Nat.mul_one
def Zpo:=@run_underlying
def Zpp:=@List.take_zero
def Zpq:=@List.mapM_cons
def Zpr:=@if_false
def Zps:=@World.rowIs_made
def Zpt:=@World.size_alloc
def Zpu:=@Option.isSome_iff_exists
def Zpv:=@List.getD_cons_zero
def Zpw:=@List.take_succ_cons
def Zpx:=@List.replicate_zero
def Zpy:=@List.getElem?_replicate
def Zpz:=@Bool.true_and
def Zp0:=@List.cons.injEq
def Zp1:=@Nat.eq_zero_or_pos
def Zp2:=@List.find?_some
def Zp3:=@List.getElem?_drop
def Zp4:=@List.head?_eq_getElem?
def Zp5:=@List.count_eq_zero_of_not_mem
def Zp6:=@Result.andThen_ok
def Zp7:=@List.dropLast_concat_getLast
def Zp8:=@List.take_take
def Zp9:=@List.set_append_right
def ZpA:=@Array.getD_eq_getD_getElem?
def ZpB:=@Array.getElem_setIfInBounds
def ZpC:=@List.reverse_reverse
def ZpD:=@or_false
def ZpE:=@Bool.not_eq_true
def ZpF:=@World.cell?_alloc_lt
def ZpG:=@Int.ediv_le_self
def ZpH:=@List.count_le_length
def ZpI:=@List.findIdx?_eq_none_iff
def ZpJ:=@and_true
def ZpK:=@Bool.true_eq_false
def ZpL:=@List.find?_eq_none
def ZpM:=@Below.refl
def ZpN:=@List.drop_take
def ZpO:=@Nat.add_sub_cancel_left
def ZpP:=@List.append_cancel_left
def ZpQ:=@World.ownsRow_nil
def ZpR:=@wpList_append_own
def ZpS:=@World.rowIs_alloc
def ZpT:=@List.any_eq_false
def ZpU:=@Bool.not_eq_true'
def ZpV:=@Array.setIfInBounds_setIfInBounds
def ZpW:=@getD_set_ne
def ZpX:=@MapKept.run_setObj_map
def ZpY:=@Lib.cell_of_heap
def Zqa:=@List.drop_length
def Zqb:=@Prod.ext
def Zqc:=@List.countP_cons
def Zqd:=@UInt8.lt_iff_toNat_lt
def Zqe:=@Array.getElem?_toList
def Zqf:=@Sem.run_pure
def Zqg:=@List.nodup_cons
def Zqh:=@List.getElem?_of_mem
def Zqi:=@List.range_succ
def Zqj:=@Option.some.inj
def Zqk:=@Nat.mod_lt
def Zql:=@run_loadVar_row
def Zqm:=@Int.ediv_nonneg
def Zqn:=@List.drop_append_of_le_length
def Zqo:=@World.grownBy_alloc
def Zqp:=@List.getElem?_range
def Zqq:=@List.getElem_append
def Zqr:=@Option.isSome_none
def Zqs:=@Option.isSome_some
def Zqt:=@Array.ext_getElem?
def Zqu:=@Lib.run_convert_bytes_const
def Zqv:=@List.map_replicate
def Zqw:=@Array.ext
def Zqx:=@Lib.frozen_of_heap
def Zqy:=@mem_ready
def Zqz:=@List.count_pos_iff
def Zq0:=@run_make_full
def Zq1:=@List.all_cons
def Zq2:=@Nat.lt_irrefl
def Zq3:=@AllReady.cons
def Zq4:=@Nat.lt_trichotomy
def Zq5:=@List.getElem_drop
def Zq6:=@Sem.run_bind
def Zq7:=@List.getElem_mem
def Zq8:=@List.mem_reverse
def Zq9:=@results_none
def ZqA:=@Nat.mul_zero
def ZqB:=@UInt8.not_lt
def ZqC:=@callsIn_wide
def ZqD:=@Int.le_trans
def ZqE:=@Oper.upon_value
def ZqF:=@List.all_append
end Go.Proofs
