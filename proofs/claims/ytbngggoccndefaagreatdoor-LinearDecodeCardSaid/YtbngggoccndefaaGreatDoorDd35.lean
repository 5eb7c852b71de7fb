/-
  Laid together.
-/
import Derived.Test.YtbngggoccndefaaGreatDoorDd33
set_option maxHeartbeats 16000000
set_option maxRecDepth 100000
set_option linter.unusedVariables false
set_option linter.unusedSimpArgs false
set_option linter.ambiguousOpen false
namespace Go.Proofs.YtbngggoccndefaaGreatDoor
open Go.Proofs.Tryz
section
open Go.RowKit Go.MuLone
theorem Zkg {k:Nat} (hk:k<10):∃u0 u1:List UInt8,Ea.sS (Ea.setsE0.getD k [])=u0∧Ea.sS (Ea.setsE1.getD k [])=u1∧u0.map swpU=u1∧(∀c∈u0,c=65∨c=66)∧u0.length=6∧(Ea.compB 0)[k]? =some (Ea.bS u0)∧(Ea.compB 1)[k]? =some (Ea.bS u1):=by
 have h:∀k:Fin 10,(Ea.sS (Ea.setsE0.getD k [])).map swpU=Ea.sS (Ea.setsE1.getD k [])∧(∀c∈Ea.sS (Ea.setsE0.getD k []),c=65∨c=66)∧(Ea.sS (Ea.setsE0.getD k [])).length=6:=by decide
 obtain⟨h1,h2,h3⟩:=h ⟨k,hk⟩;refine⟨_,_,rfl,rfl,h1,h2,h3,?_,?_⟩;·unfold Ea.compB;rw[ZmH rfl,Znm,ZmG (show k<Ea.setsE0.length from hk),ZmL,ZmG (show k<Ea.setsE0.length from hk)];rfl
 ·unfold Ea.compB;rw[ZmF QhP,Znm,ZmG (show k<Ea.setsE1.length from hk),ZmL,ZmG (show k<Ea.setsE1.length from hk)];rfl
theorem ZcQ (w:World):Calls prog 180 #[.int .u8 49] w fun e w'=>e=.returned (arrV (Ea.compB 1))∧Ext w w':=by
 go_enter func180,ntmps180;go_wp2_with fail;obtain⟨W,hW⟩:∃W,w.alloc (Obj.cells #[Value.string ⟨#[]⟩,Value.string ⟨#[]⟩,Value.string ⟨#[]⟩,Value.string ⟨#[]⟩,Value.string ⟨#[]⟩,Value.string ⟨#[]⟩,Value.string ⟨#[]⟩,Value.string ⟨#[]⟩,Value.string ⟨#[]⟩,Value.string ⟨#[]⟩] 210)=W:=⟨_,rfl⟩;have hWx:Ext w W:=by rw[<-hW];exact(Ext.refl w).alloc _
 have hWs:W.heap.size=w.heap.size+1:=by rw[<-hW];simp
 have hres0:W.rowIs w.heap.size 210 10 (fun _=>.string ⟨#[]⟩):=by rw[<-hW];exact(ZpS w _ 210 (fun _=>.string ⟨#[]⟩) (fun i hi=>by have hi:i<10:=hi;rcases(by omega:i=0∨i=1∨i=2∨i=3∨i=4∨i=5∨i=6∨i=7∨i=8∨i=9)with h|h|h|h|h|h|h|h|h|h<;>subst h<;>rfl))
 rw[hW];obtain⟨V,hV⟩:∃V,W.alloc (Obj.cells #[Value.string ⟨#[66,66,66,65,65,65]⟩,Value.string ⟨#[66,66,65,66,65,65]⟩,Value.string ⟨#[66,66,65,65,66,65]⟩,Value.string ⟨#[66,66,65,65,65,66]⟩,Value.string ⟨#[66,65,66,66,65,65]⟩,Value.string ⟨#[66,65,65,66,66,65]⟩,Value.string ⟨#[66,65,65,65,66,66]⟩,Value.string ⟨#[66,65,66,65,66,65]⟩,Value.string ⟨#[66,65,66,65,65,66]⟩,Value.string ⟨#[66,65,65,66,65,66]⟩] 210)=V:=⟨_,rfl⟩;have hVx:Ext W V:=by rw[<-hV];exact(Ext.refl W).alloc _
 have hVs:V.heap.size=w.heap.size+1+1:=by rw[<-hV,<-hWs];simp
 have hrow0:V.rowIs (w.heap.size+1) 210 10 (fun i=>.string ((Ea.compB 0).getD i ⟨#[]⟩)):=by rw[<-hV,<-hWs];exact(ZpS W _ 210 (fun i=>.string ((Ea.compB 0).getD i ⟨#[]⟩)) (fun i hi=>by have hi:i<10:=hi;rcases(by omega:i=0∨i=1∨i=2∨i=3∨i=4∨i=5∨i=6∨i=7∨i=8∨i=9)with h|h|h|h|h|h|h|h|h|h<;>subst h<;>rfl))
 rw[hV];have HIX:Hid (∀k:Nat,k<10->∀w',(Instr.index 210 (.agg #[Value.string ⟨#[66,66,66,65,65,65]⟩,Value.string ⟨#[66,66,65,66,65,65]⟩,Value.string ⟨#[66,66,65,65,66,65]⟩,Value.string ⟨#[66,66,65,65,65,66]⟩,Value.string ⟨#[66,65,66,66,65,65]⟩,Value.string ⟨#[66,65,65,66,66,65]⟩,Value.string ⟨#[66,65,65,65,66,66]⟩,Value.string ⟨#[66,65,66,65,66,65]⟩,Value.string ⟨#[66,65,66,65,65,66]⟩,Value.string ⟨#[66,65,65,66,65,66]⟩]) (.int .i64 (k:Int))).run prog w'=.ok (.string ((Ea.compB 0).getD k ⟨#[]⟩)) w'):=ZmE (fun k hk w'=>Zd7 210 10 QhO _ k hk _ (by rcases(by omega:k=0∨k=1∨k=2∨k=3∨k=4∨k=5∨k=6∨k=7∨k=8∨k=9)with h|h|h|h|h|h|h|h|h|h<;>subst h<;>rfl) w');have hn:=Zdd V.heap.size (V.alloc (Obj.cells #[Value.string ⟨#[65]⟩,Value.string ⟨#[66]⟩,Value.string ⟨#[66]⟩,Value.string ⟨#[65]⟩] 9)) QhQ QhQ QhQ QhQ;rw[hVs]at hn;refine hn.mono ?_;rintro e w1 ⟨b,rfl,hb,hF,hx1⟩;have hb:w.heap.size+3<=b:=by simp[hVs]at hb;omega
 have hVx1:Ext V w1:=(Ext.alloc (Ext.refl V) _).trans hx1;have hrow1:=Ext.rowX hrow0 hVx1;have hres1:=Ext.rowX hres0 (hVx.trans hVx1);have hxw1:Ext w w1:=(hWx.trans hVx).trans hVx1;clear hn hx1 hVx1 hrow0 hres0 hWx hVx hW hV hWs hVs;have q0:w1.cell? ⟨w.heap.size+1,0,none⟩=some (.string ⟨#[66,66,66,65,65,65]⟩):=hrow1.cell (i:=0) QhP;have q1:w1.cell? ⟨w.heap.size+1,1,none⟩=some (.string ⟨#[66,66,65,66,65,65]⟩):=hrow1.cell (i:=1) QhP;have q2:w1.cell? ⟨w.heap.size+1,2,none⟩=some (.string ⟨#[66,66,65,65,66,65]⟩):=hrow1.cell (i:=2) QhP;have q3:w1.cell? ⟨w.heap.size+1,3,none⟩=some (.string ⟨#[66,66,65,65,65,66]⟩):=hrow1.cell (i:=3) QhP;have q4:w1.cell? ⟨w.heap.size+1,4,none⟩=some (.string ⟨#[66,65,66,66,65,65]⟩):=hrow1.cell (i:=4) QhP;have q5:w1.cell? ⟨w.heap.size+1,5,none⟩=some (.string ⟨#[66,65,65,66,66,65]⟩):=hrow1.cell (i:=5) QhP;have q6:w1.cell? ⟨w.heap.size+1,6,none⟩=some (.string ⟨#[66,65,65,65,66,66]⟩):=hrow1.cell (i:=6) QhP;have q7:w1.cell? ⟨w.heap.size+1,7,none⟩=some (.string ⟨#[66,65,66,65,66,65]⟩):=hrow1.cell (i:=7) QhP;have q8:w1.cell? ⟨w.heap.size+1,8,none⟩=some (.string ⟨#[66,65,66,65,65,66]⟩):=hrow1.cell (i:=8) QhP;have q9:w1.cell? ⟨w.heap.size+1,9,none⟩=some (.string ⟨#[66,65,65,66,65,66]⟩):=hrow1.cell (i:=9) QhP;go_wp2;clear q0 q1 q2 q3 q4 q5 q6 q7 q8 q9;have HNX:=ZmE (fun(w':World) (h:Ext w1 w')=>h);go_loopw [13] (fun i wr=>∃k:Nat,k<=10∧i=.int .i64 (k:Int)∧wr.rowIs (w.heap.size+1) 210 10 (fun j=>.string (if j<k then(Ea.compB 1).getD j ⟨#[]⟩else(Ea.compB 0).getD j ⟨#[]⟩))∧wr.rowIs w.heap.size 210 10 (fun _=>.string ⟨#[]⟩)∧Ext w wr∧
  ((k=0∧Fresh wr b 0)∨(∃br,w.heap.size+3<=br∧wr.rowIs br 328 256 (fun i=>.int .u8 (swpB i:Int))∧RepAt wr b 1 0 (repI br) (.slice none 0 0)))) (fun i _=>10-(intOf i).toNat)
 case atStart=>exact⟨0,by omega,rfl,hrow1.congr (fun i _=>by simp),hres1,hxw1,.inl ⟨rfl,hF⟩⟩
 case round=>
  clear hrow1 hres1 hxw1 hF;obtain⟨k,hk,rfl,hrow,hres,hxr,hst⟩:=hrel;by_cases hlt:k<10
  ·obtain⟨u0,u1,e0,e1,hu,hab,h6,ha,hbb⟩:=Zkg hlt;have hix:=HIX.out k hlt;have hg0:(Ea.compB 0).getD k ⟨#[]⟩=Ea.bS u0:=(by rw[ZmL,ha];rfl);have HG1:Hid ((Ea.compB 1).getD k ⟨#[]⟩=Ea.bS u1):=ZmE (by rw[ZmL,hbb];rfl);rw[hg0]at hix;have hsz:(Ea.bS u0).size=6:=(by rw[Zc (Ea.bS_list u0),h6]);have HU:Hid ((Ea.bS u0).data.toList.map swpU=u1):=ZmE hu;have HAB:Hid (∀c∈(Ea.bS u0).data.toList,c=65∨c=66):=ZmE hab;have HNEW:Hid (∀w',wr.grownBy w' (some b)->w'.rowIs (w.heap.size+1) 210 10 (fun j=>.string (if j<k then(Ea.compB 1).getD j ⟨#[]⟩else(Ea.compB 0).getD j ⟨#[]⟩))∧w'.rowIs w.heap.size 210 10 (fun _=>.string ⟨#[]⟩)∧Ext w w'):=ZmE (fun w' hg=>
    ⟨hrow.of_block (hg.block _ hrow.lt QhY),hres.of_block (hg.block _ hres.lt QhY),hxr.ofGrown hg (fun j hj=>by cases hj;omega)⟩)
   generalize Ea.bS u0=U at*;clear e0 e1 hu hab ha hbb hg0;rcases hst with⟨rfl,hF⟩|⟨br,hbr,hrb,hrep⟩;(·have HR:=ZmE (Zer b U wr hF HAB.out QhN QhN);have hsw:b<wr.heap.size:=(by obtain⟨_,h,_⟩:=hF;exact(Znn.1 h).1);have hix:∀w',(Instr.index 210 (.agg #[Value.string ⟨#[66,66,66,65,65,65]⟩,Value.string ⟨#[66,66,65,66,65,65]⟩,Value.string ⟨#[66,66,65,65,66,65]⟩,Value.string ⟨#[66,66,65,65,65,66]⟩,Value.string ⟨#[66,65,66,66,65,65]⟩,Value.string ⟨#[66,65,65,66,66,65]⟩,Value.string ⟨#[66,65,65,65,66,66]⟩,Value.string ⟨#[66,65,66,65,66,65]⟩,Value.string ⟨#[66,65,66,65,65,66]⟩,Value.string ⟨#[66,65,65,66,65,66]⟩]) (.int .i64 0)).run prog w'=.ok (.string U) w':=hix;clear hrow hres hxr hF;go_wp2_with fail;refine HR.out.mono ?_;rintro e w2 ⟨rfl,br,hbr,hrb,hrep,hg⟩;obtain⟨hrow2,hres2,hx2⟩:=HNEW.out w2 hg;rw[HU.out];have hcl:=hrow2.cell hlt;have hfz:=hrow2.frozen 0;have HR5:=ZmE ((hrow2.set 0 (.string ⟨u1.toArray⟩)).congr (g:=fun j=>.string (if j<0+1 then(Ea.compB 1).getD j ⟨#[]⟩else(Ea.compB 0).getD j ⟨#[]⟩)) (fun j hj=>by by_cases h1:j=0;(·subst h1;rw[ZmH rfl,ZmH QhN,HG1.out];rfl);·rw[ZmF h1,ZmF QhN,ZmF QhN]));have g5:=Z5 w2 (w.heap.size+1) 0 (.string ⟨u1.toArray⟩);have HS5:=ZmE (hres2.of_block (g5.block _ hres2.lt QhQ));have HX5:=ZmE (hx2.setCell (p:=⟨w.heap.size+1,0,none⟩) QhQ (.string ⟨u1.toArray⟩));have HB5:=ZmE (hrb.of_block (g5.block _ hrb.lt QhY));have HP5:Hid (RepAt (w2.setCell ⟨w.heap.size+1,0,none⟩ (.string ⟨u1.toArray⟩)) b 1 0 (repI br) (.slice none 0 0)):=ZmE ((g5.block b (Znn.1 hrep).1 QhY).trans hrep);clear hrow2 hres2 hx2 hrb hrep hg g5;go_wp2;go_roundw;(case rel=>exact⟨1,by omega,rfl,HR5.out,HS5.out,HX5.out,.inr ⟨br,by omega,HB5.out,HP5.out⟩⟩);case measure=>simp[intOf]);·have HR:=ZmE (Zeq b br U wr hrb hrep HAB.out QhN QhN);have HB0:=ZmE hrb;have HP0:=ZmE hrep;have HO:=ZmE (And.intro hrow (And.intro hres hxr));clear hrow hres hxr hrb hrep;go_wp2_with fail;refine HR.out.mono ?_;rintro e w2 ⟨rfl,hx2⟩;have hrow2:=Ext.rowX HO.out.1 hx2;have hres2:=Ext.rowX HO.out.2.1 hx2;have hxx:=HO.out.2.2.trans hx2;have hrb:=Ext.rowX HB0.out hx2;have hrep:RepAt w2 b 1 0 (repI br) (.slice none 0 0):=(hx2.block b (Znn.1 HP0.out).1).trans HP0.out;rw[HU.out];have hcl:=hrow2.cell hlt;have hfz:=hrow2.frozen k;have HR5:=ZmE ((hrow2.set k (.string ⟨u1.toArray⟩)).congr (g:=fun j=>.string (if j<k+1 then(Ea.compB 1).getD j ⟨#[]⟩else(Ea.compB 0).getD j ⟨#[]⟩)) (fun j hj=>by by_cases h1:j=k;(·subst h1;rw[ZmH rfl,ZmH QhN,HG1.out];rfl);·rw[ZmF h1];by_cases h2:j<k;(·exact QcG);·rw[ZmF h2,ZmF QhN]));have g5:=Z5 w2 (w.heap.size+1) k (.string ⟨u1.toArray⟩);have HS5:=ZmE (hres2.of_block (g5.block _ hres2.lt QhQ));have HX5:=ZmE (hxx.setCell (p:=⟨w.heap.size+1,k,none⟩) QhQ (.string ⟨u1.toArray⟩));have HB5:=ZmE (hrb.of_block (g5.block _ hrb.lt QhY));have HP5:Hid (RepAt (w2.setCell ⟨w.heap.size+1,k,none⟩ (.string ⟨u1.toArray⟩)) b 1 0 (repI br) (.slice none 0 0)):=ZmE ((g5.block b (Znn.1 hrep).1 QhY).trans hrep);clear hrow2 hres2 hx2 hrb hrep g5 hxx;go_wp2;go_roundw;(case rel=>exact⟨k+1,by omega,by go_num,HR5.out,HS5.out,HX5.out,.inr ⟨br,hbr,HB5.out,HP5.out⟩⟩);case measure=>exact Q8
  ·obtain rfl:k=10:=QhN;have q0:wr.cell? ⟨w.heap.size+1,0,none⟩=some (.string ⟨#[65,65,65,66,66,66]⟩):=hrow.cell (i:=0) QhP;have q1:wr.cell? ⟨w.heap.size+1,1,none⟩=some (.string ⟨#[65,65,66,65,66,66]⟩):=hrow.cell (i:=1) QhP;have q2:wr.cell? ⟨w.heap.size+1,2,none⟩=some (.string ⟨#[65,65,66,66,65,66]⟩):=hrow.cell (i:=2) QhP;have q3:wr.cell? ⟨w.heap.size+1,3,none⟩=some (.string ⟨#[65,65,66,66,66,65]⟩):=hrow.cell (i:=3) QhP;have q4:wr.cell? ⟨w.heap.size+1,4,none⟩=some (.string ⟨#[65,66,65,65,66,66]⟩):=hrow.cell (i:=4) QhP;have q5:wr.cell? ⟨w.heap.size+1,5,none⟩=some (.string ⟨#[65,66,66,65,65,66]⟩):=hrow.cell (i:=5) QhP;have q6:wr.cell? ⟨w.heap.size+1,6,none⟩=some (.string ⟨#[65,66,66,66,65,65]⟩):=hrow.cell (i:=6) QhP;have q7:wr.cell? ⟨w.heap.size+1,7,none⟩=some (.string ⟨#[65,66,65,66,65,66]⟩):=hrow.cell (i:=7) QhP;have q8:wr.cell? ⟨w.heap.size+1,8,none⟩=some (.string ⟨#[65,66,65,66,66,65]⟩):=hrow.cell (i:=8) QhP;have q9:wr.cell? ⟨w.heap.size+1,9,none⟩=some (.string ⟨#[65,66,66,65,66,65]⟩):=hrow.cell (i:=9) QhP;have r0:=hres.cell (i:=0) QhP;have z0:=hres.frozen 0;have r1:=hres.cell (i:=1) QhP;have z1:=hres.frozen 1;have r2:=hres.cell (i:=2) QhP;have z2:=hres.frozen 2;have r3:=hres.cell (i:=3) QhP;have z3:=hres.frozen 3;have r4:=hres.cell (i:=4) QhP;have z4:=hres.frozen 4;have r5:=hres.cell (i:=5) QhP;have z5:=hres.frozen 5;have r6:=hres.cell (i:=6) QhP;have z6:=hres.frozen 6;have r7:=hres.cell (i:=7) QhP;have z7:=hres.frozen 7;have r8:=hres.cell (i:=8) QhP;have z8:=hres.frozen 8;have r9:=hres.cell (i:=9) QhP;have z9:=hres.frozen 9;obtain⟨cs,hcs,hcn,hcv⟩:=hres;have hcs0:cs=Array.replicate 10 (.string ⟨#[]⟩):=(by apply Zqw;(·rw[hcn];rfl);·intro i h1 h2;have:=hcv i QhN;rw[Array.getElem?_eq_getElem h1]at this;injection this with this;rw[this];simp);subst hcs0;have m0:=Zk (i:=0) (u:=.string ⟨#[65,65,65,66,66,66]⟩) hcs;have m1:=Zk (i:=1) (u:=.string ⟨#[65,65,66,65,66,66]⟩) m0;have m2:=Zk (i:=2) (u:=.string ⟨#[65,65,66,66,65,66]⟩) m1;have m3:=Zk (i:=3) (u:=.string ⟨#[65,65,66,66,66,65]⟩) m2;have m4:=Zk (i:=4) (u:=.string ⟨#[65,66,65,65,66,66]⟩) m3;have m5:=Zk (i:=5) (u:=.string ⟨#[65,66,66,65,65,66]⟩) m4;have m6:=Zk (i:=6) (u:=.string ⟨#[65,66,66,66,65,65]⟩) m5;have m7:=Zk (i:=7) (u:=.string ⟨#[65,66,65,66,65,66]⟩) m6;have m8:=Zk (i:=8) (u:=.string ⟨#[65,66,65,66,66,65]⟩) m7;have m9:=Zk (i:=9) (u:=.string ⟨#[65,66,66,65,66,65]⟩) m8;have HM:=ZmE m9;clear hcs hcn hcv m0 m1 m2 m3 m4 m5 m6 m7 m8 m9;have HXE:=ZmE (fun(i:Nat) (w':World) (h:Ext w w') (u:Value)=>h.setCell (p:=⟨w.heap.size,i,none⟩) (ZmK _) u);clear hrow hst hk hlt;go_wp2;refine Zng (results_cell_row results180 _ _ w.heap.size 210 _ (0,0) _ rfl HM.out underlying210 rfl QhO) rfl ?_;exact⟨rfl,HXE.out 9 _ (HXE.out 8 _ (HXE.out 7 _ (HXE.out 6 _ (HXE.out 5 _ (HXE.out 4 _ (HXE.out 3 _ (HXE.out 2 _ (HXE.out 1 _ (HXE.out 0 _ hxr _) _) _) _) _) _) _) _) _) _⟩
theorem Zbe (y:Nat) (hy:y<2) (w:World):Calls prog 180 #[.int .u8 (48+(y:Int))] w fun e w'=>e=.returned (arrV (Ea.compB y))∧Ext w w':=by
 rcases(by omega:y=0∨y=1)with rfl|rfl;·exact ZcC 48 rfl w
 ·exact ZcQ w
end
end Go.Proofs.YtbngggoccndefaaGreatDoor
namespace Go.Proofs.YtbngggoccndefaaGreatDoor
open Go.Proofs.Tryz
section
open Go.RowKit
theorem Zgk {t:Nat} (ht:t<3):(Ea.rowB t).length=10:=by
 have:∀t:Fin 3,(Ea.rowB t).length=10:=by decide
 exact this ⟨t,ht⟩
theorem ZlP {t d:Nat} (ht:t<3) (hd:d<10):(Ea.rowB t)[d]? =some (Ea.bS (Ea.mS (Ea.modl t d))):=by
 have h:d<(Ea.tab.getD t []).length:=by have:∀t:Fin 3,(Ea.tab.getD t.1 []).length=10:=QhP;rw[this ⟨t,ht⟩];exact hd
 unfold Ea.rowB Ea.modl;generalize Ea.tab.getD t []=L at*;rw[Znm,ZmL,ZmG h];rfl
theorem Zah (D S P:ByteArray) (us:List Nat) (sep:List Bool) (hd:Ea.digs D.data.toList=true) (hS:S.data.toList=Ea.sS us) (hl:us.length=D.size) (hu:∀u∈us,u<3) (hP:P.data.toList=Ea.mS sep)
 (hD:D.size<=1000) (hsep:sep.length<=10) (w:World):
 Calls prog 111 #[.string D,.string S,.string P] w fun e w'=>e=.returned (.string (Ea.bS (Ea.mS (Ea.drw sep D.data.toList us))))∧Ext w w':=by
 have hll:us.length=D.data.toList.length:=by rw[hl,Zb]
 have HRES:=ZmE (Ea.join_draw sep D.data.toList us hll)
 have HLEN:=ZmE (Ea.drw_len sep D.data.toList us hd hll hu)
 rw[Zb]at HLEN
 have HDG:=ZmE (Ea.digs_iff.1 hd)
 have HU:=ZmE hu
 have HSS:=ZmE hS
 have HPP:=ZmE hP
 have HLL:=ZmE hl
 have HDL:=ZmE (Ea.dl_len hll)
 have HDA:=ZmE (fun i c t h1 h2=> @Ea.dl_at D.data.toList us i c t h1 h2)
 have hSs:S.size=D.size:=by rw[Zc hS,Ea.sS_len,hl]
 have hmk:=Zpa (P:=prog) 141 9 (.string ⟨#[]⟩) 16 underlying141 QhO rfl .i64 .i64 D.size QhN QhN
 have hSlt:∀j:Nat,j<D.size->j<S.size:=fun j hj=>by omega
 clear hd hS hl hu hP hll hSs
 go_enter func111,ntmps111
 go_wp2
 clear hmk
 go_loopw [15] (fun i wr=>∃j:Nat,j<=D.size∧i=.int .i64 (j:Int)∧wr.rowIs w.heap.size 9 D.size (fun k=>if k<j then .string (Ea.bS (Ea.mS ((Ea.dl D.data.toList us).getD k [])))else .string ⟨#[]⟩)∧Ext w wr) (fun i _=>D.size-(intOf i).toNat)
 case atStart=>exact Qcr
 case round=>
  obtain⟨j,hj,rfl,hrow,hxr⟩:=hrel;by_cases hlt:j<D.size
  ·obtain⟨t,hut⟩:∃t,us[j]? =some t:=⟨_,ZmG (by rw[HLL.out];exact hlt)⟩;have hSj:j<S.size:=hSlt j hlt;have hcell:=hrow.cell hlt;have hfz:=hrow.frozen j;have ht:t<3:=HU.out t (ZmT hut);have hdc:D.data.toList[j]? =some D[j]:=ZmG Qij;have hd48:=HDG.out D[j] (ZmT hdc);have HDLJ:=ZmE (HDA.out j D[j] t hdc hut);have HSJ:Hid (S[j].toNat=65+t):=ZmE (by have h1:S.data.toList[j]? =some S[j]:=ZmG (by rw[Zb];exact hSj);rw[HSS.out]at h1;unfold Ea.sS at h1;rw[Znm,hut]at h1;have h2:Ea.cS t=S[j]:=Qim;rw[<-h2];unfold Ea.cS;simp;omega);obtain⟨c,hc⟩:∃c,D[j]=c:=⟨_,rfl⟩;rw[hc]at hd48 HDLJ;obtain⟨d,hdd⟩:∃d,c.toNat-48=d:=⟨_,rfl⟩;rw[hdd]at HDLJ;have hd10:d<10:=QhN;have hsub:(c.toNat:Int)-48=(d:Int):=QhN;have HDR:Hid (∀w,Calls prog 181 #[.int .u8 (65+(t:Int))] w fun e w'=>e=.returned (arrV (Ea.rowB t))∧Ext w w'):=ZmE (fun w=>ZbS t ht w);have hRd:=ZlP ht hd10;have hRl:=Zgk ht;unfold arrV at HDR;obtain⟨R,hR⟩:∃R,((Ea.rowB t).map Value.string).toArray=R:=⟨_,rfl⟩;have hRs:R.size=10:=(by rw[<-hR];simp[hRl]);have HR1:Hid (R.all (·.oneCell')=true):=ZmE Qje;have HRd:Hid (R[d]? =some (.string (Ea.bS (Ea.mS (Ea.modl t d))))):=ZmE Qig;rw[hR]at HDR;obtain⟨m,hm⟩:∃m,Ea.bS (Ea.mS (Ea.modl t d))=m:=⟨_,rfl⟩;rw[hm]at HRd;have HM:=ZmE hm;clear hm;have hSJ:=HSJ.out;clear hut ht hdc hd48 hdd hRd hRl hR;go_wp2_with fail;refine(HDR.out _).mono ?_;rintro e w4 ⟨rfl,hx4⟩;have hst:=ZG R hRs HR1.out w4;have hnc:=ZC R 210 w4 HRd.out;have hx5:Ext wr (w4.alloc (.cells R 210)):=hx4.alloc _;have hrow5:=Ext.rowX hrow hx5;have hcell5:=hrow5.cell hlt;have hfz5:=hrow5.frozen j;have HR5:Hid (((w4.alloc (.cells R 210)).setCell ⟨w.heap.size,j,none⟩ (.string m)).rowIs w.heap.size 9 D.size (fun k=>if k<j+1 then .string (Ea.bS (Ea.mS ((Ea.dl D.data.toList us).getD k [])))else .string ⟨#[]⟩)):=
    ZmE ((hrow5.set j (.string m)).congr (fun k hk=>by by_cases h1:k=j;(·subst h1;rw[ZmH rfl,ZmH QhN,ZmL,HDLJ.out];exact Znb Value.string HM.out.symm);·rw[ZmF h1];by_cases h2:k<j;(·exact QcG);·rw[ZmF h2,ZmF QhN]))
   have HX:=ZmE ((hxr.trans hx5).setCell (p:=⟨w.heap.size,j,none⟩) (ZmK _) (.string m));clear hcell hfz hrow hrow5 hxr;exact QbM
  ·obtain rfl:j=D.size:=QhN;have HJ:=ZmE (Tryz.strings_Join w.heap.size 0 D.size ((Ea.dl D.data.toList us).map fun m=>Ea.bS (Ea.mS m)) P wr (fun k x hx=>by
    rw[Znm,ZoI]at hx;obtain⟨m,hm,rfl⟩:=hx;have hk:=(ZmN.1 hm).1;rw[HDL.out,Zb]at hk;rw[Zoa,hrow.cell hk,ZmH hk,ZmL,hm];rfl) (by have:=hrow.lt;exact this) QjZ QjZ
    (by have e:((Ea.dl D.data.toList us).map fun m=>Ea.bS (Ea.mS m)).map (·.data.toList)=(Ea.dl D.data.toList us).map Ea.mS:=(by rw[Zos];rfl);rw[e,HPP.out,HRES.out,Ea.mS_len,HLEN.out];have h1:sep.length*(D.size-1)<=10*1000:=ZoN hsep QhN;omega))
   have e:((Ea.dl D.data.toList us).map fun m=>Ea.bS (Ea.mS m)).map (·.data.toList)=(Ea.dl D.data.toList us).map Ea.mS:=(by rw[Zos];rfl);rw[e,HPP.out,HRES.out,ZmI,HDL.out,Zb]at HJ;clear hrow hj hlt e;exact Qej
theorem Zaz (p:Addr) (s:ByteArray) (i:Nat) (d:Nat) (hi:i<s.size) (hd:s[i].toNat=48+d) (w:World) (hc:w.cell? p=some (.string s)):
 Calls prog 183 #[.int .i64 (i:Int),.pointer (some p)] w fun e w'=>e=.returned (.int .i64 (d:Int))∧w=w':=by
 have hlt:(s[i].toNat:Int)-48=(d:Int):=by omega
 have hd2:d<=255:=by have:=UInt8.toNat_lt s[i];omega
 clear hd
 go_enter func183,ntmps183
 go_wp2
 go_ret
 exact⟨rfl,rfl⟩
theorem Za6 (s:ByteArray) (i:Nat) (h:i<s.size):Ea.dv s.data.toList i=s[i].toNat-48:=by unfold Ea.dv;exact Qbz
theorem Zec (s:ByteArray) (h2:s.size=2) (hd:Ea.digs s.data.toList=true) (w:World):
 Calls prog 112 #[.string s] w fun e w'=>e=.returned (.string (Ea.bS (Ea.sS (Ea.setsAdd s.data.toList))))∧Ext w w':=by
 have b2:((s.size:Int)==2)=true:=by rw[h2];rfl
 obtain⟨d0,hd0⟩:∃d,s[0].toNat=48+d:=⟨s[0].toNat-48,by have:=Ea.digs_iff.1 hd s[0] (Zj s 0 QhN);omega⟩
 obtain⟨d1,hd1⟩:∃d,s[1].toNat=48+d:=⟨s[1].toNat-48,by have:=Ea.digs_iff.1 hd s[1] (Zj s 1 QhN);omega⟩
 have h09:=Ea.digs_iff.1 hd s[0] (Zj s 0 QhN)
 have h19:=Ea.digs_iff.1 hd s[1] (Zj s 1 QhN)
 have hd0':d0<=9:=by omega
 have hd1':d1<=9:=by omega
 have H0:=ZmE (fun(p:Addr) (w':World) (hc:w'.cell? p=some (.string s))=>Zaz p s 0 d0 QhN hd0 w' hc)
 have H1:=ZmE (fun(p:Addr) (w':World) (hc:w'.cell? p=some (.string s))=>Zaz p s 1 d1 QhN hd1 w' hc)
 have HDV:Hid (10*Ea.dv s.data.toList 0+Ea.dv s.data.toList 1=10*d0+d1):=ZmE (by rw[Za6 s 0 QhN,Za6 s 1 QhN];omega)
 clear hd h09 h19 hd0 hd1
 go_enter func112,ntmps112
 go_wp2_with fail
 refine(H0.out _ _ QhQ).mono ?_
 rintro e w1 ⟨rfl,rfl⟩
 go_wp2_with fail
 refine(H1.out _ _ QhQ).mono ?_
 rintro e w1 ⟨rfl,rfl⟩
 obtain⟨x,hx⟩:∃x,(10*d0+d1)%4=x:=⟨_,rfl⟩
 have hm:(10*(d0:Int)+(d1:Int)).tmod 4=(x:Int):=QdF
 have hx4:x<4:=by omega
 have HX:Hid (Ea.bS (Ea.sS (Ea.setsA2.getD x []))=Ea.bS (Ea.sS (Ea.setsAdd s.data.toList))):=ZmE (by unfold Ea.setsAdd;rw[ZmH (by rw[Zb];exact h2)];congr 3;rw[<-hx];congr 1;exact HDV.out.symm)
 have hcl:((w.alloc (Obj.cells #[Value.string s] 9)).alloc (Obj.cells #[.string ⟨#[65,65]⟩,.string ⟨#[65,66]⟩,.string ⟨#[66,65]⟩,.string ⟨#[66,66]⟩] 214)).cell? ⟨w.heap.size+1,x,none⟩=some (.string (Ea.bS (Ea.sS (Ea.setsA2.getD x [])))):=by have h1:(w.alloc (Obj.cells #[Value.string s] 9)).heap.size=w.heap.size+1:=QhQ;rw[<-h1];refine ZC _ _ _ ?_;rcases(by omega:x=0∨x=1∨x=2∨x=3)with h|h|h|h<;>rw[h]<;>rfl
 rw[HX.out]at hcl
 clear hx HX
 go_wp2
 go_ret
 exact⟨rfl,Xf⟩
theorem Zdx (s:ByteArray) (h2:s.size=5) (hd:Ea.digs s.data.toList=true) (w:World):
 Calls prog 112 #[.string s] w fun e w'=>e=.returned (.string (Ea.bS (Ea.sS (Ea.setsAdd s.data.toList))))∧Ext w w':=by
 have b2:((s.size:Int)==2)=false:=by rw[h2];rfl
 obtain⟨d0,hd0⟩:∃d,s[0].toNat=48+d:=⟨s[0].toNat-48,by have:=Ea.digs_iff.1 hd s[0] (Zj s 0 QhN);omega⟩
 have hd0':d0<=9:=by have:=Ea.digs_iff.1 hd s[0] (Zj s 0 QhN);omega
 have H0:=ZmE (fun(p:Addr) (w':World) (hc:w'.cell? p=some (.string s))=>Zaz p s 0 d0 QhN hd0 w' hc)
 obtain⟨d1,hd1⟩:∃d,s[1].toNat=48+d:=⟨s[1].toNat-48,by have:=Ea.digs_iff.1 hd s[1] (Zj s 1 QhN);omega⟩
 have hd1':d1<=9:=by have:=Ea.digs_iff.1 hd s[1] (Zj s 1 QhN);omega
 have H1:=ZmE (fun(p:Addr) (w':World) (hc:w'.cell? p=some (.string s))=>Zaz p s 1 d1 QhN hd1 w' hc)
 obtain⟨d2,hd2⟩:∃d,s[2].toNat=48+d:=⟨s[2].toNat-48,by have:=Ea.digs_iff.1 hd s[2] (Zj s 2 QhN);omega⟩
 have hd2':d2<=9:=by have:=Ea.digs_iff.1 hd s[2] (Zj s 2 QhN);omega
 have H2:=ZmE (fun(p:Addr) (w':World) (hc:w'.cell? p=some (.string s))=>Zaz p s 2 d2 QhN hd2 w' hc)
 obtain⟨d3,hd3⟩:∃d,s[3].toNat=48+d:=⟨s[3].toNat-48,by have:=Ea.digs_iff.1 hd s[3] (Zj s 3 QhN);omega⟩
 have hd3':d3<=9:=by have:=Ea.digs_iff.1 hd s[3] (Zj s 3 QhN);omega
 have H3:=ZmE (fun(p:Addr) (w':World) (hc:w'.cell? p=some (.string s))=>Zaz p s 3 d3 QhN hd3 w' hc)
 obtain⟨d4,hd4⟩:∃d,s[4].toNat=48+d:=⟨s[4].toNat-48,by have:=Ea.digs_iff.1 hd s[4] (Zj s 4 QhN);omega⟩
 have hd4':d4<=9:=by have:=Ea.digs_iff.1 hd s[4] (Zj s 4 QhN);omega
 have H4:=ZmE (fun(p:Addr) (w':World) (hc:w'.cell? p=some (.string s))=>Zaz p s 4 d4 QhN hd4 w' hc)
 have HDV:Hid (3*(Ea.dv s.data.toList 0+Ea.dv s.data.toList 2+Ea.dv s.data.toList 4)+9*(Ea.dv s.data.toList 1+Ea.dv s.data.toList 3)=3*(d0+d2+d4)+9*(d1+d3)):=ZmE (by rw[Za6 s 0 QhN,Za6 s 1 QhN,Za6 s 2 QhN,Za6 s 3 QhN,Za6 s 4 QhN];omega)
 clear hd hd0 hd1 hd2 hd3 hd4
 go_enter func112,ntmps112
 go_wp2_with fail
 refine(H0.out _ _ QhQ).mono ?_
 rintro e w1 ⟨rfl,rfl⟩
 go_wp2_with fail
 refine(H2.out _ _ QhQ).mono ?_
 rintro e w1 ⟨rfl,rfl⟩
 go_wp2_with fail
 refine(H4.out _ _ QhQ).mono ?_
 rintro e w1 ⟨rfl,rfl⟩
 go_wp2_with fail
 refine(H1.out _ _ QhQ).mono ?_
 rintro e w1 ⟨rfl,rfl⟩
 go_wp2_with fail
 refine(H3.out _ _ QhQ).mono ?_
 rintro e w1 ⟨rfl,rfl⟩
 obtain⟨x,hx⟩:∃x,(3*(d0+d2+d4)+9*(d1+d3))%10=x:=⟨_,rfl⟩
 have hm:(3*((d0:Int)+(d2:Int)+(d4:Int))+9*((d1:Int)+(d3:Int))).tmod 10=(x:Int):=QdF
 have hx10:x<10:=by omega
 have HX:Hid (Ea.bS (Ea.sS (Ea.setsA5.getD x []))=Ea.bS (Ea.sS (Ea.setsAdd s.data.toList))):=ZmE (by unfold Ea.setsAdd;rw[ZmF Qic];congr 3;rw[<-hx];congr 1;exact HDV.out.symm)
 have hcl:((w.alloc (Obj.cells #[Value.string s] 9)).alloc (Obj.cells #[.string ⟨#[66,66,65,65,65]⟩,.string ⟨#[66,65,66,65,65]⟩,.string ⟨#[66,65,65,66,65]⟩,.string ⟨#[66,65,65,65,66]⟩,.string ⟨#[65,66,66,65,65]⟩,.string ⟨#[65,65,66,66,65]⟩,.string ⟨#[65,65,65,66,66]⟩,.string ⟨#[65,66,65,66,65]⟩,.string ⟨#[65,66,65,65,66]⟩,.string ⟨#[65,65,66,65,66]⟩] 210)).cell? ⟨w.heap.size+1,x,none⟩=some (.string (Ea.bS (Ea.sS (Ea.setsA5.getD x [])))):=by have h1:(w.alloc (Obj.cells #[Value.string s] 9)).heap.size=w.heap.size+1:=QhQ;rw[<-h1];refine ZC _ _ _ ?_;rcases(by omega:x=0∨x=1∨x=2∨x=3∨x=4∨x=5∨x=6∨x=7∨x=8∨x=9)with h|h|h|h|h|h|h|h|h|h<;>rw[h]<;>rfl
 rw[HX.out]at hcl
 clear hx HX
 go_wp2
 go_ret
 exact⟨rfl,Xf⟩
theorem ZaH (s:ByteArray) (h:s.size=2∨s.size=5) (hd:Ea.digs s.data.toList=true) (w:World):
 Calls prog 112 #[.string s] w fun e w'=>e=.returned (.string (Ea.bS (Ea.sS (Ea.setsAdd s.data.toList))))∧Ext w w':=by
 rcases h with h|h
 ·exact Zec s h hd w
 ·exact Zdx s h hd w
theorem ZkN (n:Nat):Lib.repeatL [48] n=Ea.mS (Ea.lgt n):=by
 induction n with
 |zero=>rfl
 |succ n ih=>rw[Lib.repeatL,ih];unfold Ea.lgt;rw[ZnG];rfl
theorem Z9 (n:Nat) (hn:n<=1000000) (w:World):Calls prog 109 #[.string ⟨#[48]⟩,.int .i64 (n:Int)] w fun e w'=>e=.returned (.string (Ea.bS (Ea.mS (Ea.lgt n))))∧Ext w w':=by have h:=Tryz.strings_Repeat ⟨#[48]⟩ n w QhN (by rw[show(⟨#[48]⟩:ByteArray).size=1 from rfl];omega);refine h.mono ?_;rintro e w' ⟨rfl,hx⟩;exact⟨by rw[<-ZkN];rfl,hx⟩
theorem ZiW:Ea.leftB.length=10:=by decide
theorem Zk1 {d:Nat} (hd:d<10):Ea.leftB[d]? =some (Ea.bS (Ea.sS (Ea.sets13 d))):=by unfold Ea.leftB Ea.sets13;rw[Znm,ZmL,ZmG (show d<Ea.setsL.length from hd)];rfl
theorem Zhu (y:Nat):(Ea.compB y).length=10:=by unfold Ea.compB;split<;>rfl
theorem Zi4 {y d:Nat} (hy:y<2) (hd:d<10):(Ea.compB y)[d]? =some (Ea.bS (Ea.sS (Ea.setsE y d))):=by
 unfold Ea.compB Ea.setsE;rcases(by omega:y=0∨y=1)with rfl|rfl;·rw[ZmH rfl,ZmH rfl,Znm,ZmL,ZmG (show d<Ea.setsE0.length from hd)];rfl
 ·rw[ZmF QhP,ZmF QhP];unfold Ea.setsE1;rw[Zos,Znm,ZmL,ZmG (show d<Ea.setsE0.length from hd)];rfl
theorem named {l:List Bool}:∃S:ByteArray,Ea.bS (Ea.mS l)=S∧S.data.toList=Ea.mS l∧S.size=l.length:=⟨_,rfl,rfl,by rw[Zc (Ea.bS_list _),Ea.mS_len]⟩
theorem Zck (s:ByteArray) (hd:Ea.digs s.data.toList=true) (h13:s.size=13) (w:World):
 Calls prog 110 #[.int .i64 1,.string s] w fun e w'=>e=.returned (.string (Ea.bS (Ea.mS (Ea.sym13 s.data.toList))))∧Ext w w':=by
 obtain⟨a,b,hq⟩:=Ea.sets13_ok ⟨Ea.dv s.data.toList 0,Ea.dv_lt hd 0⟩
 clear hq
 dsimp only at a b
 have hd0:=Ea.dv_lt hd 0
 have h48:=Ea.digs_iff.1 hd s[0] (Zj s 0 QhN)
 have hdv:=Za6 s 0 QhN
 have HSY:=ZmE (Ea.sym13.eq_1 s.data.toList)
 have c1:(s.extract 1 7).data.toList=(s.data.toList.drop 1).take 6:=Zs s 1 7
 have c2:(s.extract 7 13).data.toList=s.data.toList.drop 7:=Qe3
 have d1:=Ea.digs_take (Ea.digs_drop hd 1) 6
 have d2:=Ea.digs_drop hd 7
 have s1:(s.extract 1 7).size=6:=QdU
 have s2:(s.extract 7 13).size=6:=QdU
 obtain⟨d,hdd⟩:∃d,Ea.dv s.data.toList 0=d:=⟨_,rfl⟩
 rw[hdd]at a b hd0 hdv HSY
 have hsub:(s[0].toNat:Int)-48=(d:Int):=by omega
 have l1:=Ea.drw6_len d1 QjB a (fun u hu=>by have:=b u hu;omega)
 have l2:=Ea.drw6_len d2 QiT (us:=[2,2,2,2,2,2]) rfl QhQ
 have HD1:=ZmE (fun w'=>Zah (s.extract 1 7) (Ea.bS (Ea.sS (Ea.sets13 d))) ⟨#[]⟩ (Ea.sets13 d) [] (by rw[c1];exact d1) rfl (by rw[a,s1]) (fun u hu=>by have:=b u hu;omega) rfl QhN QhQ w')
 have HD2:=ZmE (fun w'=>Zah (s.extract 7 13) ⟨#[67,67,67,67,67,67]⟩ ⟨#[]⟩ [2,2,2,2,2,2] [] (by rw[c2];exact d2) rfl (by rw[s2];rfl) QhQ rfl QhN QhQ w')
 rw[c1]at HD1
 rw[c2]at HD2
 generalize Ea.drw [] ((s.data.toList.drop 1).take 6) (Ea.sets13 d)=m1 at*
 generalize Ea.drw [] (s.data.toList.drop 7) [2,2,2,2,2,2]=m2 at*
 obtain⟨A,hA,hAl,hAs⟩:=named (l:=m1)
 obtain⟨B,hB,hBl,hBs⟩:=named (l:=m2)
 rw[hA]at HD1
 rw[hB]at HD2
 have HRES:Hid ((⟨#[49,48,49]⟩++A++⟨#[48,49,48,49,48]⟩++B++⟨#[49,48,49]⟩:ByteArray)=Ea.bS (Ea.mS (Ea.sym13 s.data.toList))):=ZmE Qio
 have hAs:A.size=42:=by rw[hAs,l1]
 have hBs:B.size=42:=by rw[hBs,l2]
 have HL:=ZmE (Zcc w)
 have hRd:=Zk1 hd0
 unfold arrV at HL
 obtain⟨R,hR⟩:∃R,(Ea.leftB.map Value.string).toArray=R:=⟨_,rfl⟩
 have hRs:R.size=10:=by rw[<-hR];simp[ZiW]
 have HR1:Hid (R.all (·.oneCell')=true):=ZmE Qje
 have HRd:Hid (R[d]? =some (.string (Ea.bS (Ea.sS (Ea.sets13 d))))):=ZmE Qig
 rw[hR]at HL
 have h013:(0:Nat)<s.size:=by omega
 clear hd h48 hdv HSY c1 c2 d1 d2 s1 s2 hdd a b l1 l2 hA hAl hB hBl hRd hR
 go_enter func110,ntmps110
 go_wp2_with fail
 refine HL.out.mono ?_
 rintro e w4 ⟨rfl,hx4⟩
 have hst:=ZG R hRs HR1.out w4
 have hnc:=ZC R 210 w4 HRd.out
 have hx5:Ext w (w4.alloc (.cells R 210)):=hx4.alloc _
 go_wp2_with fail
 obtain⟨w5,hw5⟩:∃w5,w4.alloc (.cells R 210)=w5:=⟨_,rfl⟩
 have hsz:w4.heap.size<w5.heap.size:=by rw[<-hw5];simp
 rw[hw5]at hx5 hnc⊢
 have hz:∀x:Ahead w5,x.at'.cell? ⟨w4.heap.size,d,none⟩=some (.string (Ea.bS (Ea.sS (Ea.sets13 d)))):=fun x=>(x.ext.cell (p:=⟨w4.heap.size,d,none⟩) hsz).trans hnc
 clear hst hw5 hsz hnc
 refine Zon (C:=fun w'=>∃x:Ahead w5,w'=x.at') QhO QhO (Ahead.drawn _) ?_
 try dsimp only
 repeat(first|go_big_quiet_step ((first|(go_at_call 111;with_reducible exact Zn (HD1.out _))|(go_at_call 111;with_reducible exact Zn (HD2.out _))))|quiet_step ((first|(go_at_call 111;with_reducible exact Zn (HD1.out _))|(go_at_call 111;with_reducible exact Zn (HD2.out _)))))
 refine ZoB ?_
 intro _ hx0
 obtain⟨x0,hx0⟩:=hx0
 subst hx0
 obtain⟨w8,hx8⟩:=x0
 try dsimp only
 go_wp2
 go_ret
 exact⟨by rw[<-HRES.out];rfl,hx5.trans hx8⟩
theorem ZfJ (s:ByteArray) (hd:Ea.digs s.data.toList=true) (h8:s.size=8) (w:World):
 Calls prog 110 #[.int .i64 2,.string s] w fun e w'=>e=.returned (.string (Ea.bS (Ea.mS (Ea.sym8 s.data.toList))))∧Ext w w':=by
 have HSY:=ZmE (Ea.sym8.eq_1 s.data.toList)
 have c1:(s.extract 0 4).data.toList=s.data.toList.take 4:=Zr s 4
 have c2:(s.extract 4 8).data.toList=s.data.toList.drop 4:=Qe3
 have d1:=Ea.digs_take hd 4
 have d2:=Ea.digs_drop hd 4
 have s1:(s.extract 0 4).size=4:=QdU
 have s2:(s.extract 4 8).size=4:=QdU
 have l1:=Ea.drw4_len d1 (by rw[ZmY,Zb];omega) (us:=[0,0,0,0]) rfl QhQ
 have l2:=Ea.drw4_len d2 QiT (us:=[2,2,2,2]) rfl QhQ
 have HD1:=ZmE (fun w'=>Zah (s.extract 0 4) ⟨#[65,65,65,65]⟩ ⟨#[]⟩ [0,0,0,0] [] (by rw[c1];exact d1) rfl (by rw[s1];rfl) QhQ rfl QhN QhQ w')
 have HD2:=ZmE (fun w'=>Zah (s.extract 4 8) ⟨#[67,67,67,67]⟩ ⟨#[]⟩ [2,2,2,2] [] (by rw[c2];exact d2) rfl (by rw[s2];rfl) QhQ rfl QhN QhQ w')
 rw[c1]at HD1
 rw[c2]at HD2
 generalize Ea.drw [] (s.data.toList.take 4) [0,0,0,0]=m1 at*
 generalize Ea.drw [] (s.data.toList.drop 4) [2,2,2,2]=m2 at*
 obtain⟨A,hA,hAl,hAs⟩:=named (l:=m1)
 obtain⟨B,hB,hBl,hBs⟩:=named (l:=m2)
 rw[hA]at HD1
 rw[hB]at HD2
 have HRES:Hid ((⟨#[49,48,49]⟩++A++⟨#[48,49,48,49,48]⟩++B++⟨#[49,48,49]⟩:ByteArray)=Ea.bS (Ea.mS (Ea.sym8 s.data.toList))):=ZmE Qio
 have hAs:A.size=28:=by rw[hAs,l1]
 have hBs:B.size=28:=by rw[hBs,l2]
 clear hd HSY c1 c2 d1 d2 s1 s2 l1 l2 hA hAl hB hBl
 go_enter func110,ntmps110
 go_wp2_with fail
 refine Zon (C:=fun w'=>∃x:Ahead w,w'=x.at') QhO QhO (Ahead.drawn _) ?_
 try dsimp only
 repeat(first|go_big_quiet_step ((first|(go_at_call 111;with_reducible exact Zn (HD1.out _))|(go_at_call 111;with_reducible exact Zn (HD2.out _))))|quiet_step ((first|(go_at_call 111;with_reducible exact Zn (HD1.out _))|(go_at_call 111;with_reducible exact Zn (HD2.out _)))))
 refine ZoB ?_
 intro _ hx0
 obtain⟨x0,hx0⟩:=hx0
 subst hx0
 obtain⟨w8,hx8⟩:=x0
 try dsimp only
 go_wp2
 go_ret
 exact⟨by rw[<-HRES.out];rfl,hx8⟩
theorem ZfK (s:ByteArray) (hd:Ea.digs s.data.toList=true) (h8:s.size=8) (hy:Ea.dv s.data.toList 0<2) (w:World):
 Calls prog 110 #[.int .i64 4,.string s] w fun e w'=>e=.returned (.string (Ea.bS (Ea.mS (Ea.symE s.data.toList))))∧Ext w w':=by
 obtain⟨a,b,hq⟩:=Ea.setsE_ok ⟨Ea.dv s.data.toList 0,hy⟩ ⟨Ea.dv s.data.toList 7,Ea.dv_lt hd 7⟩
 clear hq
 dsimp only at a b
 have hd7:=Ea.dv_lt hd 7
 have h48:=Ea.digs_iff.1 hd s[0] (Zj s 0 QhN)
 have h748:=Ea.digs_iff.1 hd s[7] (Zj s 7 QhN)
 have hdv:=Za6 s 0 QhN
 have hdv7:=Za6 s 7 QhN
 have HSY:=ZmE (Ea.symE.eq_1 s.data.toList)
 have c1:(s.extract 1 7).data.toList=(s.data.toList.drop 1).take 6:=Zs s 1 7
 have d1:=Ea.digs_take (Ea.digs_drop hd 1) 6
 have s1:(s.extract 1 7).size=6:=QdU
 obtain⟨y,hyy⟩:∃y,Ea.dv s.data.toList 0=y:=⟨_,rfl⟩
 obtain⟨d,hdd⟩:∃d,Ea.dv s.data.toList 7=d:=⟨_,rfl⟩
 rw[hyy]at a b hy hdv HSY
 rw[hdd]at a b hd7 hdv7 HSY
 have hn0:s[0].toNat=48+y:=by omega
 have hsub:(s[7].toNat:Int)-48=(d:Int):=by omega
 have l1:=Ea.drw6_len d1 QjB a (fun u hu=>by have:=b u hu;omega)
 have HD1:=ZmE (fun w'=>Zah (s.extract 1 7) (Ea.bS (Ea.sS (Ea.setsE y d))) ⟨#[]⟩ (Ea.setsE y d) [] (by rw[c1];exact d1) rfl (by rw[a,s1]) (fun u hu=>by have:=b u hu;omega) rfl QhN QhQ w')
 rw[c1]at HD1
 generalize Ea.drw [] ((s.data.toList.drop 1).take 6) (Ea.setsE y d)=m1 at*
 obtain⟨A,hA,hAl,hAs⟩:=named (l:=m1)
 rw[hA]at HD1
 have HRES:Hid ((⟨#[49,48,49]⟩++A++⟨#[48,49,48,49,48,49]⟩:ByteArray)=Ea.bS (Ea.mS (Ea.symE s.data.toList))):=ZmE (by apply Zh;simp only[Znt,Znw,hAl];rw[Ea.bS_list,HSY.out];simp only[Ea.mS_app];rfl)
 have hAs:A.size=42:=by rw[hAs,l1]
 have HL:=ZmE (Zbe y hy w)
 have hRd:=Zi4 hy hd7
 unfold arrV at HL
 obtain⟨R,hR⟩:∃R,((Ea.compB y).map Value.string).toArray=R:=⟨_,rfl⟩
 have hRs:R.size=10:=by rw[<-hR];simp[Zhu]
 have HR1:Hid (R.all (·.oneCell')=true):=ZmE Qje
 have HRd:Hid (R[d]? =some (.string (Ea.bS (Ea.sS (Ea.setsE y d))))):=ZmE Qig
 rw[hR]at HL
 have h08:(0:Nat)<s.size:=by omega
 have h78:(7:Nat)<s.size:=by omega
 clear hd h48 h748 hdv hdv7 HSY c1 d1 s1 hyy hdd a b l1 hA hAl hRd hR
 go_enter func110,ntmps110
 go_wp2_with fail
 refine HL.out.mono ?_
 rintro e w4 ⟨rfl,hx4⟩
 have hst:=ZG R hRs HR1.out w4
 have hnc:=ZC R 210 w4 HRd.out
 have hx5:Ext w (w4.alloc (.cells R 210)):=hx4.alloc _
 go_wp2_with fail
 obtain⟨w5,hw5⟩:∃w5,w4.alloc (.cells R 210)=w5:=⟨_,rfl⟩
 have hsz:w4.heap.size<w5.heap.size:=by rw[<-hw5];simp
 rw[hw5]at hx5 hnc⊢
 have hz:∀x:Ahead w5,x.at'.cell? ⟨w4.heap.size,d,none⟩=some (.string (Ea.bS (Ea.sS (Ea.setsE y d)))):=fun x=>(x.ext.cell (p:=⟨w4.heap.size,d,none⟩) hsz).trans hnc
 clear hst hw5 hsz hnc
 refine Zon (C:=fun w'=>∃x:Ahead w5,w'=x.at') QhO QhO (Ahead.drawn _) ?_
 try dsimp only
 repeat(first|go_big_quiet_step ((go_at_call 111;with_reducible exact Zn (HD1.out _)))|quiet_step ((go_at_call 111;with_reducible exact Zn (HD1.out _))))
 refine ZoB ?_
 intro _ hx0
 obtain⟨x0,hx0⟩:=hx0
 subst hx0
 obtain⟨w8,hx8⟩:=x0
 try dsimp only
 go_wp2
 go_ret
 exact⟨by rw[<-HRES.out];rfl,hx5.trans hx8⟩
theorem Zdq (k:Int) (s:ByteArray) (hf:Ea.full k s.data.toList=0) (w:World):
 Calls prog 110 #[.int .i64 k,.string s] w fun e w'=>e=.returned (.string (Ea.bS (Ea.mS (Ea.sym k s.data.toList))))∧Ext w w':=by
 obtain⟨h1,h2,h3,h4,_⟩:=Ea.full_ok hf
 rw[Zb]at h3
 rcases Ea.kinds h1 with rfl|rfl|rfl|rfl
 ·exact Zck s h2 h3 w
 ·exact ZfJ s h2 h3 w
 ·have hz:=Ea.full_13 hf;have h3:s.size=12:=h3;have e:(⟨#[48]⟩++s:ByteArray).data.toList=48::s.data.toList:=Qiy;have HS:=ZmE (Zck (⟨#[48]⟩++s) (by rw[e];exact(Ea.full_ok hz).2.1) (by rw[Zo8,h3];rfl) w);rw[e]at HS;obtain⟨U,hU⟩:∃U,Ea.bS (Ea.mS (Ea.sym13 (48::s.data.toList)))=U:=⟨_,rfl⟩;rw[hU]at HS;have HR:Hid (U=Ea.bS (Ea.mS (Ea.sym 3 s.data.toList))):=ZmE (by rw[<-hU];rfl);clear hf h1 h2 h4 hz e hU;go_enter func110,ntmps110;go_wp2_with fail;refine HS.out.mono ?_;rintro e w4 ⟨rfl,hx4⟩;clear HS;go_wp2;go_ret;exact⟨by rw[<-HR.out];rfl,hx4⟩
 ·exact ZfK s h2 h3 (Ea.dv2 h2 (by rw[Zb,h3];decide) (h4 rfl)) w
end
end Go.Proofs.YtbngggoccndefaaGreatDoor
